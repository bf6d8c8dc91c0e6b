/- Part 15 of the proof: White space laid ahead of parentheses: what gaps makes of a text, and how the text is parsed; no condition. The law BidtextWhiteSpace: the walk. -/
import Derived.Test.YtnghcgmkncbnnaaMw11
import Derived.Test.YtnghcgmkncbnnaaMw13
import Derived.Test.YtnghcgmkncbnnaaMw14
set_option linter.unusedVariables false
set_option linter.unusedSimpArgs false
section
namespace Go.Proofs.Ytnghcgmkncbnnaa
open Go.RowKit Go.Proofs.YtnghcgmkncbnnaaW.PrintWords Go.Proofs.YtnghcgmkncbnnaaW.PrintLast Go.Proofs.YtnghcgmkncbnnaaW.PrintMore
namespace Ar
open Wd
def gwF : Nat → Nat → List UInt8
  | 0, _ => []
  | r + 1, j => (if j % 2 = 0 then 32 else 10) :: gwF r (j + 1)
theorem gwF_gap : ∀ r j, Gap (gwF r j)
  | 0, _ => gap_nil
  | r + 1, j => by
    intro b hb
    rw [gwF] at hb
    rcases List.mem_cons.1 hb with rfl | hb
    · split <;> rfl
    · exact gwF_gap r (j + 1) b hb
theorem gwF_len : ∀ r j, (gwF r j).length = r
  | 0, _ => rfl
  | r + 1, j => by rw [gwF, List.length_cons, gwF_len r]
def gapB (m : Nat) (b : UInt8) : List UInt8 := if b = 40 ∨ b = 41 then gwF m 0 ++ [b] else [b]
def gapT (m : Nat) (s : ByteArray) : ByteArray := ⟨((bs s).flatMap (gapB m)).toArray⟩
theorem gapB_len (m : Nat) (b : UInt8) : (gapB m b).length ≤ m + 1 := by
  unfold gapB; split
  · rw [List.length_append, gwF_len]; simp
  · simp
theorem l1_moreQ {k : Nat} {s : ByteArray} {n : Int} {x : ByteArray} {i j : Int} {z : ByteArray} (h : Q.pylonlaw31_gaps.l1 k s n x i j = some z) : ∀ m, Q.pylonlaw31_gaps.l1 (k + m) s n x i j = some z
  | 0 => h
  | m + 1 => (Q.pylonlaw31_gaps.mono_l (k + m)).2.1 _ _ _ _ _ _ (l1_moreQ h m)
theorem u8_bt {b : UInt8} : strOfNums [(b.toNat : Int)] = ⟨#[b]⟩ := by
  refine bs_inj ?_
  rw [show bs (strOfNums _) = _ from strOfNums_data _]
  simp
theorem bt_eq {b : UInt8} (n : Nat) (hn : n < 256) : (b.toNat : Int) = n ↔ b = UInt8.ofNat n := by
  constructor
  · intro h
    have h1 : b.toNat = n := by omega
    rw [← h1]; simp
  · rintro rfl
    rw [UInt8.toNat_ofNat']; omega
theorem gap_last {s : ByteArray} {A R : List UInt8} {b : UInt8} (hb : bs s = A ++ b :: R) (hs : s.size < 1000000) {n : Int} {x z : ByteArray} (hx : x.size < 100000000) {K : Nat} {j : Int} (h : Q.pylonlaw31_gaps.l0 K s n (x ++ ⟨#[b]⟩) ((A.length + 1 : Nat) : Int) = some z) :
    Q.pylonlaw31_gaps.j2 (K + 1) s n x (A.length : Nat) j false = some z := by
  have hl := len_mid hb
  rw [List.length_cons] at hl
  have hw : wrap64 (((A.length : Nat) : Int) + 1) = ((A.length + 1 : Nat) : Int) := w64succ _ (by omega)
  rw [Q.pylonlaw31_gaps.j2, if_neg (by decide), if_pos (by omega), if_pos (by omega), bt_mid hb, Option.bind_some, u8_bt, if_pos (by show x.size + 1 ≤ _; omega), hw]
  exact h
theorem gap_loop {s : ByteArray} {A R : List UInt8} {b : UInt8} (hb : bs s = A ++ b :: R) (hs : s.size < 1000000) (hp : b = 40 ∨ b = 41) {m : Nat} (hm : m < 1000) {z : ByteArray} {K : Nat} : ∀ (r j : Nat) (x : ByteArray), r + j = m → x.size + r < 100000000 → Q.pylonlaw31_gaps.l0 K s m (x ++ ⟨(gwF r j ++ [b]).toArray⟩) ((A.length + 1 : Nat) : Int) = some z →
    Q.pylonlaw31_gaps.l1 (K + 2 * r + 2) s m x (A.length : Nat) j = some z
  | 0, j, x, hj, hx, h => by
    rw [Q.pylonlaw31_gaps.l1, if_neg (by omega)]
    exact gap_last hb hs (by omega) h
  | r + 1, j, x, hj, hx, h => by
    have hl := len_mid hb
    rw [List.length_cons] at hl
    have hw : wrap64 (((j : Nat) : Int) + 1) = ((j + 1 : Nat) : Int) := w64succ _ (by omega)
    have ht : Int.tmod (j : Int) 2 = ((j % 2 : Nat) : Int) := by rw [Int.tmod_eq_emod_of_nonneg (by omega)]; omega
    have go : Q.pylonlaw31_gaps.j2 (K + 2 * (r + 1) + 1) s m x (A.length : Nat) j true = some z := by
      rw [show K + 2 * (r + 1) + 1 = (K + 2 * r + 2) + 1 by omega, Q.pylonlaw31_gaps.j2, if_pos rfl, ht, hw]
      by_cases h2 : j % 2 = 0
      · rw [if_pos (by omega), if_pos (by omega)]
        refine gap_loop hb hs hp hm r (j + 1) _ (by omega) (by rw [ByteArray.size_append]; show x.size + 1 + r < _; omega) ?_
        rw [gwF, if_pos h2] at h
        rw [← h]
        congr 1
        refine bs_inj ?_
        simp [bs]
      · rw [if_neg (by omega), if_pos (by omega)]
        refine gap_loop hb hs hp hm r (j + 1) _ (by omega) (by rw [ByteArray.size_append]; show x.size + 1 + r < _; omega) ?_
        rw [gwF, if_neg h2] at h
        rw [← h]
        congr 1
        refine bs_inj ?_
        simp [bs]
    rw [show K + 2 * (r + 1) + 2 = (K + 2 * (r + 1) + 1) + 1 by omega, Q.pylonlaw31_gaps.l1, if_pos (by omega), if_pos (by omega), if_pos (by omega), bt_mid hb]
    rcases hp with rfl | rfl
    · rw [if_pos (by rfl)]; exact go
    · rw [if_neg (by decide)]; exact go
theorem gap_step {s : ByteArray} {A R : List UInt8} {b : UInt8} (hb : bs s = A ++ b :: R) (hs : s.size < 1000000) {m : Nat} (hm : m < 1000) {z x : ByteArray} {K : Nat} (hx : x.size + m < 100000000) (h : Q.pylonlaw31_gaps.l0 K s m (x ++ ⟨(gapB m b).toArray⟩) ((A.length + 1 : Nat) : Int) = some z) :
    Q.pylonlaw31_gaps.l1 (K + 2 * m + 2) s m x (A.length : Nat) 0 = some z := by
  unfold gapB at h
  by_cases hp : b = 40 ∨ b = 41
  · rw [if_pos hp] at h
    exact gap_loop hb hs hp hm m 0 x (by omega) hx h
  · rw [if_neg hp] at h
    have hl := len_mid hb
    rw [List.length_cons] at hl
    have hlast := gap_last (j := 0) hb hs (show x.size < 100000000 by omega) h
    have h40 : ¬ (b.toNat : Int) = 40 := fun e => hp (.inl ((bt_eq 40 (by decide)).1 e))
    have h41 : ¬ (b.toNat : Int) = 41 := fun e => hp (.inr ((bt_eq 41 (by decide)).1 e))
    have : Q.pylonlaw31_gaps.l1 (K + 1 + 1) s m x (A.length : Nat) 0 = some z := by
      rw [Q.pylonlaw31_gaps.l1]
      by_cases h0 : (0 : Int) < (m : Int)
      · rw [if_pos h0, if_pos (by omega), if_pos (by omega), bt_mid hb, if_neg h40, beq_eq_false_iff_ne.2 h41]
        exact hlast
      · rw [if_neg h0]; exact hlast
    have := l1_moreQ this (2 * m)
    rw [show K + 2 * m + 2 = K + 1 + 1 + 2 * m by omega]; exact this
theorem gap_all {s : ByteArray} (hs : s.size < 1000000) {m : Nat} (hm : m < 5) : ∀ (R A : List UInt8) (x : ByteArray), bs s = A ++ R → bs x = A.flatMap (gapB m) → Q.pylonlaw31_gaps.l0 (12 * R.length + 1) s m x (A.length : Nat) = some (gapT m s)
  | [], A, x, h, hx => by
    have hl := len_mid h
    rw [Q.pylonlaw31_gaps.l0, if_neg (by simp at hl; omega)]
    congr 1
    refine bs_inj ?_
    rw [hx]; unfold gapT
    rw [bs_mk, h, List.append_nil]
  | b :: R, A, x, h, hx => by
    have hl := len_mid h
    rw [List.length_cons] at hl
    have hxs : x.size ≤ 5 * A.length := by
      rw [← bs_len, hx]
      have : ∀ l : List UInt8, (l.flatMap (gapB m)).length ≤ 5 * l.length := by
        intro l
        induction l with
        | nil => simp
        | cons c l ih => rw [List.flatMap_cons, List.length_append, List.length_cons]; have := gapB_len m c; omega
      exact this A
    have ih := gap_all hs hm R (A ++ [b]) (x ++ ⟨(gapB m b).toArray⟩) (by rw [h]; simp) (by rw [bs_app, hx, List.flatMap_append]; simp)
    rw [List.length_append, List.length_singleton] at ih
    have := gap_step h hs (show m < 1000 by omega) (show x.size + m < 100000000 by omega) ih
    rw [List.length_cons, show 12 * (R.length + 1) + 1 = (12 * R.length + 1 + 2 * m + 2 + (9 - 2 * m)) + 1 by omega, Q.pylonlaw31_gaps.l0, if_pos (by omega)]
    exact l1_moreQ this _
theorem gaps_c {w : World} (s : ByteArray) (hs : s.size < 1000000) (m : Nat) (hm : m < 5) :
    Calls Try.prog 19 #[.string s, .int .i64 (m : Int)] w fun e w' => e = .returned (.string (gapT m s)) ∧ Below w.heap.size w w' :=
  Q.pylonlaw31_gaps.calls _ s m _ w (gap_all hs hm (bs s) [] ⟨#[]⟩ (by simp) rfl)
def wide (m : Nat) (g : List UInt8 × Tk) : List UInt8 × Tk := (g.1 ++ (if g.2.k = 1 ∨ g.2.k = 2 then gwF m 0 else []), g.2)
theorem flat_same {m : Nat} : ∀ (l : List UInt8), (∀ b ∈ l, ¬ (b = 40 ∨ b = 41)) → l.flatMap (gapB m) = l
  | [], _ => rfl
  | b :: l, h => by
    rw [List.flatMap_cons, flat_same l (fun c hc => h c (List.mem_cons_of_mem _ hc))]
    unfold gapB
    rw [if_neg (h b (List.mem_cons_self ..))]; rfl
theorem sep_nop {b : UInt8} (h : isSep (b.toNat : Int) = true) : ¬ (b = 40 ∨ b = 41) := by
  rintro (rfl | rfl)
  · exact absurd h (by decide)
  · exact absurd h (by decide)
theorem lay_wide {m : Nat} : ∀ (G : Gs), OkG G → (lay G).flatMap (gapB m) = lay (G.map (wide m))
  | [], _ => rfl
  | g :: G, h => by
    obtain ⟨⟨h1, h2⟩, h3⟩ := okG_cons h
    rw [lay_cons, List.map_cons, lay_cons, List.flatMap_append, List.flatMap_append, lay_wide G h3]
    have e1 : g.1.flatMap (gapB m) = g.1 := flat_same _ (fun b hb => sep_nop (h1 b hb))
    rw [e1]
    unfold wide
    dsimp only
    by_cases hk : g.2.k = 1 ∨ g.2.k = 2
    · rw [if_pos hk]
      have e2 : (tb g.2).flatMap (gapB m) = gwF m 0 ++ tb g.2 := by
        rcases hk with hk | hk
        · rw [okR_k1 h2 hk]; simp [gapB]
        · rw [okR_k2 h2 hk]; simp [gapB]
      rw [e2]; simp
    · rw [if_neg hk, List.append_nil]
      have e2 : (tb g.2).flatMap (gapB m) = tb g.2 := by
        refine flat_same _ (fun b hb => ?_)
        rcases h2 with e | e | ⟨w, e, _, hw⟩ | ⟨n, e, _⟩
        · rw [e] at hk; exact absurd (.inl rfl) hk
        · rw [e] at hk; exact absurd (.inr rfl) hk
        · rw [e] at hb
          have := hw b hb
          rintro (rfl | rfl)
          · exact absurd this (by decide)
          · exact absurd this (by decide)
        · rw [e] at hb
          have := decB_dig n b hb
          rintro (rfl | rfl)
          · exact absurd this (by decide)
          · exact absurd this (by decide)
      rw [e2]
theorem wide_ok {m : Nat} {G : Gs} (h : OkG G) : OkG (G.map (wide m)) := by
  intro g hg
  obtain ⟨g', hg', rfl⟩ := List.mem_map.1 hg
  obtain ⟨h1, h2⟩ := h g' hg'
  refine ⟨?_, h2⟩
  unfold wide
  dsimp only
  split
  · exact gap_app h1 (gwF_gap m 0)
  · rw [List.append_nil]; exact h1
theorem wide_sep {m : Nat} : ∀ (p : Int) (G : Gs), Sep2 p G → Sep2 p (G.map (wide m))
  | _, [], _ => trivial
  | p, g :: G, h => by
    refine ⟨?_, wide_sep g.2.k G h.2⟩
    rcases h.1 with e | e | e | e
    · exact .inl e
    · exact .inr (.inl e)
    · refine .inr (.inr (.inl ?_))
      unfold wide; dsimp only
      intro hn
      exact e (List.append_eq_nil_iff.1 hn).1
    · exact .inr (.inr (.inr e))
theorem wide_toks {m : Nat} (G : Gs) : (G.map (wide m)).map (·.2) = G.map (·.2) := by rw [List.map_map]; rfl
theorem wide_last {m : Nat} : ∀ (p : Int) (G : Gs), lastG p (G.map (wide m)) = lastG p G
  | _, [] => rfl
  | _, g :: G => by rw [List.map_cons, lastG, lastG]; exact wide_last g.2.k G
theorem ch_wide {m : Nat} {s : ByteArray} (hs : (gapT m s).size ≤ 65536) (l : List Tk) (x : Tk) (h : bs s = goT 1 (l ++ [x])) (hx : x.k = 2) (hok : ∀ y ∈ l ++ [x], okR y) : Ch (gapT m s) (l ++ [x]) 0 (gapT m s).size := by
  have hG := gp_ok 1 _ hok
  have hb : bs (gapT m s) = [] ++ (lay ((gp 1 (l ++ [x])).map (wide m)) ++ []) := by
    unfold gapT
    rw [bs_mk, h, goT_lay, lay_wide _ hG]; simp
  have := ch_lay hs ((gp 1 (l ++ [x])).map (wide m)) [] 1 hb (wide_ok hG) (wide_sep 1 _ (gp_sep 1 _)) (.inr (.inl (by rw [wide_last, gp_last]; exact hx)))
  rw [wide_toks, gp_toks] at this
  have hl := len_mid hb
  rw [List.append_nil] at hl
  rw [hl]
  exact this
theorem gapT_len (m : Nat) (s : ByteArray) : (gapT m s).size ≤ (m + 1) * s.size := by
  rw [← bs_len, ← bs_len]
  unfold gapT
  rw [bs_mk]
  exact flat_le (gapB_len m) (bs s)
end Ar
end Go.Proofs.Ytnghcgmkncbnnaa
end
section
namespace Go.Proofs.Ytnghcgmkncbnnaa
open Go.RowKit Go.Proofs.YtnghcgmkncbnnaaW.PrintWords Go.Proofs.YtnghcgmkncbnnaaW.PrintLast Go.Proofs.YtnghcgmkncbnnaaW.PrintMore
namespace Ar
open Wd
theorem long_b {w : World} (s : ByteArray) (A : Option Addr) (c : Nat) (l : List Stp) (h : Kd.C kStp w A l.length l) (hc : l.length ≤ c) :
    Calls Try.prog 15 #[.string s, .slice A l.length c] w fun e w' => e = .returned (.bool (decide (5000 < s.size) || decide (50 < l.length))) ∧ Below w.heap.size w w' :=
  (long_c s A c l h hc).mono fun _ _ ⟨h1, h2⟩ => ⟨h1, h2.below⟩
theorem unit_wide {u : Un} (hu : checkU u = 0) {m : Nat} (hm : m < 5) : parseU (gapT m (unText u)) 0 = (u, ((gapT m (unText u)).size : Int), 0) := by
  obtain ⟨h1, h2, h3⟩ := tn_all hu
  have hl := unText_len3 u h3
  have hg := gapT_len m (unText u)
  have hg2 : (m + 1) * (unText u).size ≤ 5 * 2000 := Nat.mul_le_mul (by omega) hl
  have hb : bs (unText u) = goT 1 (showT unitB (unNums u) u.steps) := by
    show fmtTo (showT unitB (unNums u) u.steps) (showT unitB (unNums u) u.steps).length = _
    rw [fmtTo_all]
  rw [show_end] at hb
  have := ch_wide (m := m) (by omega) _ tkC hb rfl (by rw [← show_end]; exact okR_show okR_unit h1 h2)
  rw [← show_end] at this
  have := parseU_ch this h1 h2
  rw [Int.natCast_zero] at this
  rw [this, outU_ok hu]
theorem bid_wide {bus : Int} {l : List Stp} (hu : checkB bus l = 0) {m : Nat} (hm : m < 5) : parseB (gapT m (biText bus l)) 0 = ((bus, l), ((gapT m (biText bus l)).size : Int), 0) := by
  obtain ⟨h1, h2, h3⟩ := tn_allB hu
  have hl := biText_len3 bus l h3
  have hg := gapT_len m (biText bus l)
  have hg2 : (m + 1) * (biText bus l).size ≤ 5 * 2000 := Nat.mul_le_mul (by omega) hl
  have hb : bs (biText bus l) = goT 1 (showT bidB [bus] l) := by
    show fmtTo (showT bidB [bus] l) (showT bidB [bus] l).length = _
    rw [fmtTo_all]
  rw [show_end] at hb
  have := ch_wide (m := m) (by omega) _ tkC hb rfl (by rw [← show_end]; exact okR_show okR_bid (fun n hn => by rw [List.mem_singleton.1 hn]; exact h1) h2)
  rw [← show_end] at this
  have := parseB_ch this h1 h2
  rw [Int.natCast_zero] at this
  rw [this, outB_ok hu]
theorem wideU_size {u : Un} (hu : checkU u = 0) {m : Nat} (hm : m < 5) : (gapT m (unText u)).size < 1048576 := by
  have hg := gapT_len m (unText u)
  have hg2 : (m + 1) * (unText u).size ≤ 5 * 2000 := Nat.mul_le_mul (by omega) (unText_len3 u (tn_all hu).2.2)
  omega
theorem wideB_size {bus : Int} {l : List Stp} (hu : checkB bus l = 0) {m : Nat} (hm : m < 5) : (gapT m (biText bus l)).size < 1048576 := by
  have hg := gapT_len m (biText bus l)
  have hg2 : (m + 1) * (biText bus l).size ≤ 5 * 2000 := Nat.mul_le_mul (by omega) (biText_len3 bus l (tn_allB hu).2.2)
  omega
theorem unit_w {w : World} {u : Un} {A : Option Addr} {c : Nat} (hu : checkU u = 0) {m : Nat} (hm : m < 5) (h : Kd.C kStp w A u.steps.length u.steps) (hc : u.steps.length ≤ c) :
    Calls Try.prog 9 #[.string (gapT m (unText u)), .int .i64 0, .agg (unC u (.slice A u.steps.length c)), .int .i64 (gapT m (unText u)).size, .int .i64 0] w fun e w' => e = .returned (.bool true) ∧ Below w.heap.size w w' := by
  have hl := (tn_all hu).2.2
  have hp := unit_wide hu hm
  have hs := wideU_size hu hm
  generalize gapT m (unText u) = X at hp hs ⊢
  exact unit_c hs (good_any X) 0 trivial u _ 0 hp A c h hc (by omega)
theorem bid_w {w : World} {bus : Int} {l : List Stp} {A : Option Addr} {c : Nat} (hu : checkB bus l = 0) {m : Nat} (hm : m < 5) (h : Kd.C kStp w A l.length l) (hc : l.length ≤ c) :
    Calls Try.prog 10 #[.string (gapT m (biText bus l)), .int .i64 0, .agg (biC bus (.slice A l.length c)), .int .i64 (gapT m (biText bus l)).size, .int .i64 0] w fun e w' => e = .returned (.bool true) ∧ Below w.heap.size w w' := by
  have hl := (tn_allB hu).2.2
  have hp := bid_wide hu hm
  have hs := wideB_size hu hm
  generalize gapT m (biText bus l) = X at hp hs ⊢
  exact bid_c hs (good_any X) 0 trivial bus l _ 0 hp A c h hc (by omega)
set_option maxRecDepth 100000 in
set_option maxHeartbeats 32000000 in
theorem white_c {w : World} (u : Un) (bus : Int) (l : List Stp) (A A' : Option Addr) (c c' : Nat) (n : Int) (h : Kd.C kStp w A u.steps.length u.steps) (hc : u.steps.length ≤ c) (h' : Kd.C kStp w A' l.length l) (hc' : l.length ≤ c') (hn : 0 ≤ n ∧ n ≤ 255) :
    Calls Try.prog 5 #[.agg (unC u (.slice A u.steps.length c)), .agg (biC bus (.slice A' l.length c')), .int .u8 n] w fun e w' => e = .returned (.bool true) ∧ Below w.heap.size w w' := by
  have hU := Try.underlying30
  have hV := Try.underlying33
  have HL := Lib.hid (fun (W : World) (hb : Below w.heap.size w W) => long_b (w := W) ⟨#[]⟩ A c u.steps (Kd.C_below h hb) hc)
  have HM := Lib.hid (fun (W : World) (hb : Below w.heap.size w W) => long_b (w := W) ⟨#[]⟩ A' c' l (Kd.C_below h' hb) hc')
  have HA := Lib.hid (fun (W : World) => awake_c (w := W))
  have HU := Lib.hid (fun (W : World) (hb : Below w.heap.size w W) (hl : u.steps.length < 1000000) => FormatUnit_c (w := W) u A c (Kd.C_below h hb) hc hl showU_ok)
  have HB := Lib.hid (fun (W : World) (hb : Below w.heap.size w W) (hl : l.length < 1000000) => FormatBid_c (w := W) bus l A' c' (Kd.C_below h' hb) hc' hl showB_ok)
  obtain ⟨m, hm⟩ : ∃ m : Nat, n.toNat % 5 = m := ⟨_, rfl⟩
  have hm5 : m < 5 := by omega
  have hmi : Int.tmod n 5 = (m : Int) := by rw [Int.tmod_eq_emod_of_nonneg hn.1]; omega
  have hm8 : IntKind.u8.wrap (m : Int) = (m : Int) := by rw [IntKind.wrap_u8]; omega
  have hm64 : wrap64 (m : Int) = (m : Int) := w64in _ (by omega) (by omega)
  have e0 : decide (5000 < (⟨#[]⟩ : ByteArray).size) = false := rfl
  rw [e0] at HL HM
  simp only [Bool.false_or] at HL HM
  clear e0
  obtain ⟨b0, hb0d⟩ : ∃ b, decide (50 < u.steps.length) = b := ⟨_, rfl⟩
  obtain ⟨b1, hb1d⟩ : ∃ b, decide (50 < l.length) = b := ⟨_, rfl⟩
  have HNn : Hid (b0 = false → u.steps.length < 1000000) := fun e => by rw [e, decide_eq_false_iff_not] at hb0d; omega
  have HNo : Hid (b1 = false → l.length < 1000000) := fun e => by rw [e, decide_eq_false_iff_not] at hb1d; omega
  rw [hb0d] at HL
  rw [hb1d] at HM
  clear hb0d hb1d
  obtain ⟨S1, hS1⟩ : ∃ S : ByteArray, (if checkU u = 0 then unText u else ⟨#[]⟩) = S := ⟨_, rfl⟩
  obtain ⟨S2, hS2⟩ : ∃ S : ByteArray, (if checkB bus l = 0 then biText bus l else ⟨#[]⟩) = S := ⟨_, rfl⟩
  have hz1 : S1.size < 1000000 := by
    rw [← hS1]; split
    · next e => have := unText_len u (by have := (tn_all e).2.2; omega); omega
    · decide
  have hz2 : S2.size < 1000000 := by
    rw [← hS2]; split
    · next e => have := biText_len bus l (by have := (tn_allB e).2.2; omega); omega
    · decide
  have HG1 := Lib.hid (fun (W : World) => gaps_c (w := W) S1 hz1 m hm5)
  have HG2 := Lib.hid (fun (W : World) => gaps_c (w := W) S2 hz2 m hm5)
  have HN : Hid (checkU u = 0 → ∀ W, Below w.heap.size w W → Calls Try.prog 9 #[.string (gapT m S1), .int .i64 0, .agg (unC u (.slice A u.steps.length c)), .int .i64 (gapT m S1).size, .int .i64 0] W fun e w' => e = .returned (.bool true) ∧ Below W.heap.size W w') := fun e W hb => by
    rw [if_pos e] at hS1
    rw [← hS1]
    exact unit_w e hm5 (Kd.C_below h hb) hc
  have HO : Hid (checkB bus l = 0 → ∀ W, Below w.heap.size w W → Calls Try.prog 10 #[.string (gapT m S2), .int .i64 0, .agg (biC bus (.slice A' l.length c')), .int .i64 (gapT m S2).size, .int .i64 0] W fun e w' => e = .returned (.bool true) ∧ Below W.heap.size W w') := fun e W hb => by
    rw [if_pos e] at hS2
    rw [← hS2]
    exact bid_w e hm5 (Kd.C_below h' hb) hc'
  rw [hS1] at HU
  rw [hS2] at HB
  clear hS1 hS2 hz1 hz2 h h' hc hc' hm hm5
  generalize gapT m S1 = X1 at HG1 HN
  generalize gapT m S2 = X2 at HG2 HO
  generalize checkU u = F1 at HU HN
  generalize checkB bus l = F2 at HB HO
  obtain ⟨ub, mi, lu, up, dn, st, idl, sp, on⟩ := u
  dsimp only [unC] at HU HL HN HNn ⊢
  generalize lu.length = n1 at HU HL HN HNn ⊢
  generalize l.length = n2 at HB HM HO HNo ⊢
  have hB := below_alloc (below_alloc (Below.refl _ w) (.cells #[.int .i64 ub, .int .i64 mi, .slice A n1 c, .int .i64 up, .int .i64 dn, .int .i64 st, .int .i64 idl, .int .i64 sp, .int .i64 on] 30)) (.cells #[.int .i64 bus, .slice A' n2 c'] 33)
  have kk := blk_alloc (blk_new w (.cells #[.int .i64 ub, .int .i64 mi, .slice A n1 c, .int .i64 up, .int .i64 dn, .int .i64 st, .int .i64 idl, .int .i64 sp, .int .i64 on] 30)) (.cells #[.int .i64 bus, .slice A' n2 c'] 33)
  have jj := blk_new (w.alloc (.cells #[.int .i64 ub, .int .i64 mi, .slice A n1 c, .int .i64 up, .int .i64 dn, .int .i64 st, .int .i64 idl, .int .i64 sp, .int .i64 on] 30)) (.cells #[.int .i64 bus, .slice A' n2 c'] 33)
  rw [World.size_alloc] at jj
  have hgb : (w.heap.size + 1) ≠ w.heap.size := by omega
  have hbg : w.heap.size ≠ (w.heap.size + 1) := by omega
  have hk0 := blk_cell kk 0; have hk1 := blk_cell kk 1; have hk2 := blk_cell kk 2; have hk3 := blk_cell kk 3; have hk4 := blk_cell kk 4; have hk5 := blk_cell kk 5; have hk6 := blk_cell kk 6; have hk7 := blk_cell kk 7; have hk8 := blk_cell kk 8
  have hj0 := blk_cell jj 0; have hj1 := blk_cell jj 1
  cases b0 with
  | true =>
    go_enter Try.func5, Try.ntmps5
    go_wp2_with (first | (go_at_call_of 15 (Value.slice A n1 c); refine (HL.out _ hB).mono ?_; rintro e w1 ⟨rfl, hb⟩; replace hB := below_step hB hb; replace kk := blk_below kk hb; replace jj := blk_below jj hb; replace hk0 := blk_cell kk 0; replace hk1 := blk_cell kk 1; replace hk2 := blk_cell kk 2; replace hk3 := blk_cell kk 3; replace hk4 := blk_cell kk 4; replace hk5 := blk_cell kk 5; replace hk6 := blk_cell kk 6; replace hk7 := blk_cell kk 7; replace hk8 := blk_cell kk 8; replace hj0 := blk_cell jj 0; replace hj1 := blk_cell jj 1; clear hb) | (go_at_call 8; refine (HA.out _).mono ?_; rintro e w3 ⟨rfl, hb⟩; replace hB := below_step hB hb; replace kk := blk_below kk hb; replace jj := blk_below jj hb; replace hk0 := blk_cell kk 0; replace hk1 := blk_cell kk 1; replace hk2 := blk_cell kk 2; replace hk3 := blk_cell kk 3; replace hk4 := blk_cell kk 4; replace hk5 := blk_cell kk 5; replace hk6 := blk_cell kk 6; replace hk7 := blk_cell kk 7; replace hk8 := blk_cell kk 8; replace hj0 := blk_cell jj 0; replace hj1 := blk_cell jj 1; clear hb))
    go_ret
    exact ⟨rfl, hB⟩
  | false =>
    have HN1 := Lib.hid (HNn.out rfl)
    cases b1 with
    | true =>
      go_enter Try.func5, Try.ntmps5
      go_wp2_with (first | (go_at_call_of 15 (Value.slice A' n2 c'); refine (HM.out _ hB).mono ?_; rintro e w2 ⟨rfl, hb⟩; replace hB := below_step hB hb; replace kk := blk_below kk hb; replace jj := blk_below jj hb; replace hk0 := blk_cell kk 0; replace hk1 := blk_cell kk 1; replace hk2 := blk_cell kk 2; replace hk3 := blk_cell kk 3; replace hk4 := blk_cell kk 4; replace hk5 := blk_cell kk 5; replace hk6 := blk_cell kk 6; replace hk7 := blk_cell kk 7; replace hk8 := blk_cell kk 8; replace hj0 := blk_cell jj 0; replace hj1 := blk_cell jj 1; clear hb) | (go_at_call_of 15 (Value.slice A n1 c); refine (HL.out _ hB).mono ?_; rintro e w1 ⟨rfl, hb⟩; replace hB := below_step hB hb; replace kk := blk_below kk hb; replace jj := blk_below jj hb; replace hk0 := blk_cell kk 0; replace hk1 := blk_cell kk 1; replace hk2 := blk_cell kk 2; replace hk3 := blk_cell kk 3; replace hk4 := blk_cell kk 4; replace hk5 := blk_cell kk 5; replace hk6 := blk_cell kk 6; replace hk7 := blk_cell kk 7; replace hk8 := blk_cell kk 8; replace hj0 := blk_cell jj 0; replace hj1 := blk_cell jj 1; clear hb) | (go_at_call 8; refine (HA.out _).mono ?_; rintro e w3 ⟨rfl, hb⟩; replace hB := below_step hB hb; replace kk := blk_below kk hb; replace jj := blk_below jj hb; replace hk0 := blk_cell kk 0; replace hk1 := blk_cell kk 1; replace hk2 := blk_cell kk 2; replace hk3 := blk_cell kk 3; replace hk4 := blk_cell kk 4; replace hk5 := blk_cell kk 5; replace hk6 := blk_cell kk 6; replace hk7 := blk_cell kk 7; replace hk8 := blk_cell kk 8; replace hj0 := blk_cell jj 0; replace hj1 := blk_cell jj 1; clear hb))
      go_ret
      exact ⟨rfl, hB⟩
    | false =>
      have HN0 := Lib.hid (HNo.out rfl)
      have K1 : (F1 = 0) ∨ ((F1 == 0) = false ∧ (F1 != 0) = true) := by
        by_cases e : F1 = 0
        · exact .inl e
        · exact .inr ⟨beq_eq_false_iff_ne.2 e, bne_iff_ne.2 e⟩
      have K2 : (F2 = 0) ∨ ((F2 == 0) = false ∧ (F2 != 0) = true) := by
        by_cases e : F2 = 0
        · exact .inl e
        · exact .inr ⟨beq_eq_false_iff_ne.2 e, bne_iff_ne.2 e⟩
      rcases K1 with rfl | ⟨q1, q1'⟩
      all_goals rcases K2 with rfl | ⟨q2, q2'⟩
      all_goals go_enter Try.func5, Try.ntmps5
      all_goals go_wp2_with (first | (go_at_call 10; refine (HO.out (by trivial) _ hB).mono ?_; rintro e w9 ⟨rfl, hb⟩; replace hB := below_step hB hb; replace kk := blk_below kk hb; replace jj := blk_below jj hb; clear hb) | (go_at_call 9; refine (HN.out (by trivial) _ hB).mono ?_; rintro e w8 ⟨rfl, hb⟩; replace hB := below_step hB hb; replace kk := blk_below kk hb; replace jj := blk_below jj hb; replace hk0 := blk_cell kk 0; replace hk1 := blk_cell kk 1; replace hk2 := blk_cell kk 2; replace hk3 := blk_cell kk 3; replace hk4 := blk_cell kk 4; replace hk5 := blk_cell kk 5; replace hk6 := blk_cell kk 6; replace hk7 := blk_cell kk 7; replace hk8 := blk_cell kk 8; replace hj0 := blk_cell jj 0; replace hj1 := blk_cell jj 1; clear hb) | (go_at_call_of 19 (Value.string S2); refine (HG2.out _).mono ?_; rintro e w7 ⟨rfl, hb⟩; replace hB := below_step hB hb; replace kk := blk_below kk hb; replace jj := blk_below jj hb; replace hk0 := blk_cell kk 0; replace hk1 := blk_cell kk 1; replace hk2 := blk_cell kk 2; replace hk3 := blk_cell kk 3; replace hk4 := blk_cell kk 4; replace hk5 := blk_cell kk 5; replace hk6 := blk_cell kk 6; replace hk7 := blk_cell kk 7; replace hk8 := blk_cell kk 8; replace hj0 := blk_cell jj 0; replace hj1 := blk_cell jj 1; clear hb) | (go_at_call_of 19 (Value.string S1); refine (HG1.out _).mono ?_; rintro e w6 ⟨rfl, hb⟩; replace hB := below_step hB hb; replace kk := blk_below kk hb; replace jj := blk_below jj hb; replace hk0 := blk_cell kk 0; replace hk1 := blk_cell kk 1; replace hk2 := blk_cell kk 2; replace hk3 := blk_cell kk 3; replace hk4 := blk_cell kk 4; replace hk5 := blk_cell kk 5; replace hk6 := blk_cell kk 6; replace hk7 := blk_cell kk 7; replace hk8 := blk_cell kk 8; replace hj0 := blk_cell jj 0; replace hj1 := blk_cell jj 1; clear hb) | (go_at_call_of 13 (Value.agg #[.int .i64 bus, .slice A' n2 c']); refine (HB.out _ hB HN0.out).mono ?_; rintro e w5 ⟨rfl, hb⟩; replace hB := below_step hB hb; replace kk := blk_below kk hb; replace jj := blk_below jj hb; replace hk0 := blk_cell kk 0; replace hk1 := blk_cell kk 1; replace hk2 := blk_cell kk 2; replace hk3 := blk_cell kk 3; replace hk4 := blk_cell kk 4; replace hk5 := blk_cell kk 5; replace hk6 := blk_cell kk 6; replace hk7 := blk_cell kk 7; replace hk8 := blk_cell kk 8; replace hj0 := blk_cell jj 0; replace hj1 := blk_cell jj 1; clear hb) | (go_at_call_of 12 (Value.agg #[.int .i64 ub, .int .i64 mi, .slice A n1 c, .int .i64 up, .int .i64 dn, .int .i64 st, .int .i64 idl, .int .i64 sp, .int .i64 on]); refine (HU.out _ hB HN1.out).mono ?_; rintro e w4 ⟨rfl, hb⟩; replace hB := below_step hB hb; replace kk := blk_below kk hb; replace jj := blk_below jj hb; replace hk0 := blk_cell kk 0; replace hk1 := blk_cell kk 1; replace hk2 := blk_cell kk 2; replace hk3 := blk_cell kk 3; replace hk4 := blk_cell kk 4; replace hk5 := blk_cell kk 5; replace hk6 := blk_cell kk 6; replace hk7 := blk_cell kk 7; replace hk8 := blk_cell kk 8; replace hj0 := blk_cell jj 0; replace hj1 := blk_cell jj 1; clear hb) | (go_at_call 8; refine (HA.out _).mono ?_; rintro e w3 ⟨rfl, hb⟩; replace hB := below_step hB hb; replace kk := blk_below kk hb; replace jj := blk_below jj hb; replace hk0 := blk_cell kk 0; replace hk1 := blk_cell kk 1; replace hk2 := blk_cell kk 2; replace hk3 := blk_cell kk 3; replace hk4 := blk_cell kk 4; replace hk5 := blk_cell kk 5; replace hk6 := blk_cell kk 6; replace hk7 := blk_cell kk 7; replace hk8 := blk_cell kk 8; replace hj0 := blk_cell jj 0; replace hj1 := blk_cell jj 1; clear hb) | (go_at_call_of 15 (Value.slice A' n2 c'); refine (HM.out _ hB).mono ?_; rintro e w2 ⟨rfl, hb⟩; replace hB := below_step hB hb; replace kk := blk_below kk hb; replace jj := blk_below jj hb; replace hk0 := blk_cell kk 0; replace hk1 := blk_cell kk 1; replace hk2 := blk_cell kk 2; replace hk3 := blk_cell kk 3; replace hk4 := blk_cell kk 4; replace hk5 := blk_cell kk 5; replace hk6 := blk_cell kk 6; replace hk7 := blk_cell kk 7; replace hk8 := blk_cell kk 8; replace hj0 := blk_cell jj 0; replace hj1 := blk_cell jj 1; clear hb) | (go_at_call_of 15 (Value.slice A n1 c); refine (HL.out _ hB).mono ?_; rintro e w1 ⟨rfl, hb⟩; replace hB := below_step hB hb; replace kk := blk_below kk hb; replace jj := blk_below jj hb; replace hk0 := blk_cell kk 0; replace hk1 := blk_cell kk 1; replace hk2 := blk_cell kk 2; replace hk3 := blk_cell kk 3; replace hk4 := blk_cell kk 4; replace hk5 := blk_cell kk 5; replace hk6 := blk_cell kk 6; replace hk7 := blk_cell kk 7; replace hk8 := blk_cell kk 8; replace hj0 := blk_cell jj 0; replace hj1 := blk_cell jj 1; clear hb))
      all_goals go_ret
      all_goals exact ⟨rfl, hB⟩
end Ar
end Go.Proofs.Ytnghcgmkncbnnaa
end
