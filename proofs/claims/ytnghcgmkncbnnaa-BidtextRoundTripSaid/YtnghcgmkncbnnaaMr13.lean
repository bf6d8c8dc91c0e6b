/- Part 13 of the proof: Package bidtext: what is formatted is parsed as it was; what is parsed is right; every text is read rightly. The law BidtextRoundTrip: the walk. -/
import Derived.Test.YtnghcgmkncbnnaaMr11
import Derived.Test.YtnghcgmkncbnnaaMr12
set_option linter.unusedVariables false
set_option linter.unusedSimpArgs false
section
namespace Go.Proofs.Ytnghcgmkncbnnaa
open Go.RowKit Go.Proofs.YtnghcgmkncbnnaaW.PrintWords Go.Proofs.YtnghcgmkncbnnaaW.PrintLast Go.Proofs.YtnghcgmkncbnnaaW.PrintMore
namespace Ar
open Wd
theorem zOf_len (s : ByteArray) : (digs (zOf s).natAbs).length < 1048570 := by
  unfold zOf
  rw [(sg_sign _ _).2]
  unfold pMag
  split
  · decide
  · rename_i hl
    split
    · decide
    · split
      · decide
      · split
        · next h => have := decN_digs h; dsimp only; omega
        · decide
theorem pD_len (s : ByteArray) : (digs (pD s).natAbs).length < 1048570 := by
  unfold pD
  split
  · exact zOf_len _
  · decide
theorem good_any (s : ByteArray) : Good s (fun _ => True) := fun _ _ => ⟨fun _ _ _ _ _ _ hv => IsCanQ_all hv (zOf_len _) (pD_len _), fun _ => trivial⟩
theorem outU_ok {u : Un} {e : Int} (h : checkU u = 0) : outU u (e, 0) = (u, e, 0) := by
  unfold outU
  rw [if_neg (fun g => g rfl), if_neg (fun g => g h)]
theorem outB_ok {bus : Int} {l : List Stp} {e : Int} (h : checkB bus l = 0) : outB bus l (e, 0) = ((bus, l), e, 0) := by
  unfold outB
  rw [if_neg (fun g => g rfl), if_neg (fun g => g h)]
theorem unText_len (u : Un) (h : u.steps.length ≤ 100) : (unText u).size ≤ 20000 := by
  have h1 := flat_le nT_len (unNums u)
  have h2 := flat_le sT_len u.steps
  have h3 : (unNums u).length = 8 := rfl
  rw [← bs_len]
  show (fmtTo (showT unitB (unNums u) u.steps) (showT unitB (unNums u) u.steps).length).length ≤ _
  rw [show_text]
  simp only [List.length_append, List.length_cons, List.length_nil]
  have h4 : unitB.data.toList.length = 4 := rfl
  omega
theorem biText_len (bus : Int) (l : List Stp) (h : l.length ≤ 100) : (biText bus l).size ≤ 20000 := by
  have h1 := flat_le nT_len [bus]
  have h2 := flat_le sT_len l
  have h3 : [bus].length = 1 := rfl
  rw [← bs_len]
  show (fmtTo (showT bidB [bus] l) (showT bidB [bus] l).length).length ≤ _
  rw [show_text]
  simp only [List.length_append, List.length_cons, List.length_nil]
  have h4 : bidB.data.toList.length = 3 := rfl
  omega
theorem tn_all {u : Un} (h : checkU u = 0) : (∀ n ∈ unNums u, i64r n) ∧ (∀ s ∈ u.steps, i64r s.f0 ∧ i64r s.f1) ∧ u.steps.length ≤ 3 := by
  obtain ⟨h1, h2, h3⟩ := checkU_ok h
  exact ⟨fun n hn => tn_i64 (h1 n hn), fun s hs => ⟨tn_i64 (h2 s hs).1, tn_i64 (h2 s hs).2⟩, h3⟩
theorem tn_allB {bus : Int} {l : List Stp} (h : checkB bus l = 0) : i64r bus ∧ (∀ s ∈ l, i64r s.f0 ∧ i64r s.f1) ∧ l.length ≤ 3 := by
  obtain ⟨h1, h2, h3⟩ := checkB_ok h
  exact ⟨tn_i64 h1, fun s hs => ⟨tn_i64 (h2 s hs).1, tn_i64 (h2 s hs).2⟩, h3⟩
theorem unit_back {u : Un} (h : checkU u = 0) : parseU (unText u) 0 = (u, ((unText u).size : Int), 0) := by
  obtain ⟨h1, h2, h3⟩ := tn_all h
  have := unText_ch (s := unText u) (A := []) (R := []) (u := u) (by have := unText_len u (by omega); omega) (by simp) h1 h2
  simp only [List.length_nil, Nat.zero_add, Int.natCast_zero] at this
  rw [this, outU_ok h]
theorem bid_back {bus : Int} {l : List Stp} (h : checkB bus l = 0) : parseB (biText bus l) 0 = ((bus, l), ((biText bus l).size : Int), 0) := by
  obtain ⟨h1, h2, h3⟩ := tn_allB h
  have := biText_ch (s := biText bus l) (A := []) (R := []) (bus := bus) (l := l) (by have := biText_len bus l (by omega); omega) (by simp) h1 h2
  simp only [List.length_nil, Nat.zero_add, Int.natCast_zero] at this
  rw [this, outB_ok h]
theorem outU_in {u : Un} {q : Int × Int} (h : (outU u q).2.2 = 0) : q.2 = 0 ∧ checkU u = 0 ∧ outU u q = (u, q.1, 0) := by
  unfold outU at h ⊢
  split at h
  · rename_i g; exact absurd h g
  · rename_i g
    split at h
    · rename_i g2; exact absurd h g2
    · rename_i g2; rw [if_neg g, if_neg g2]; exact ⟨by simpa using g, by simpa using g2, rfl⟩
theorem outB_in {bus : Int} {l : List Stp} {q : Int × Int} (h : (outB bus l q).2.2 = 0) : q.2 = 0 ∧ checkB bus l = 0 ∧ outB bus l q = ((bus, l), q.1, 0) := by
  unfold outB at h ⊢
  split at h
  · rename_i g; exact absurd h g
  · rename_i g
    split at h
    · rename_i g2; exact absurd h g2
    · rename_i g2; rw [if_neg g, if_neg g2]; exact ⟨by simpa using g, by simpa using g2, rfl⟩
theorem wordS_ok {s w : ByteArray} {st : Int × Int} (h : (wordS s w st).2 = 0) : st.2 = 0 ∧ 0 ≤ st.1 ∧ st.1 < (wordS s w st).1 ∧ (wordS s w st).1 ≤ s.size := by
  unfold wordS at h ⊢
  split at h
  · rename_i h0
    rw [if_pos h0]
    unfold ewS at h ⊢
    split at h
    · exact absurd h (by decide)
    · rename_i h1
      rw [if_neg h1]
      exact ⟨h0, expS_ok h⟩
  · rename_i h0; exact absurd h h0
theorem stepS_ok {s : ByteArray} {st : Int × Int} (h : (stepS s st).2.2 = 0) : st.2 = 0 ∧ 0 ≤ st.1 ∧ st.1 < (stepS s st).2.1 ∧ (stepS s st).2.1 ≤ s.size := by
  obtain ⟨h2, a2, b2, c2⟩ := takeS_ok (show (takeS s 2 _).2 = 0 from h)
  obtain ⟨h3, a3, b3, c3⟩ := numS_ok h2
  obtain ⟨h4, a4, b4, c4⟩ := numS_ok h3
  obtain ⟨h5, a5, b5, c5⟩ := takeS_ok h4
  refine ⟨h5, a5, ?_, c2⟩
  show st.1 < (takeS s 2 (numS s (numS s (takeS s 1 st)).2).2).1
  omega
theorem sevF_ok {s : ByteArray} : ∀ (f : Nat) (acc : List (Int × Int)) (st : Int × Int), (sevF f s acc st).2.2 = 0 → st.2 = 0 ∧ st.1 ≤ (sevF f s acc st).2.1
  | 0, acc, st, h => ⟨h, Int.le_refl _⟩
  | f + 1, acc, st, h => by
    rw [sevF] at h ⊢
    split at h
    · rename_i hg
      rw [if_pos hg]
      obtain ⟨h1, h2⟩ := sevF_ok f _ _ h
      obtain ⟨h3, h4, h5, h6⟩ := stepS_ok h1
      exact ⟨h3, by omega⟩
    · rename_i hg
      rw [if_neg hg]
      exact ⟨h, Int.le_refl _⟩
theorem parseU_in {s : ByteArray} {p : Int} (h : (parseU s p).2.2 = 0) : checkU (parseU s p).1 = 0 ∧ p < (parseU s p).2.1 ∧ (parseU s p).2.1 ≤ s.size := by
  unfold parseU rdunit at h ⊢
  dsimp only at h ⊢
  obtain ⟨h1, h2, h3⟩ := outU_in h
  rw [h3]
  dsimp only
  obtain ⟨e0, a0, b0, c0⟩ := takeS_ok h1
  obtain ⟨e1, b1⟩ := sevF_ok _ _ _ e0
  obtain ⟨e2, a2, b2, c2⟩ := numS_ok e1
  obtain ⟨e3, a3, b3, c3⟩ := numS_ok e2
  obtain ⟨e4, a4, b4, c4⟩ := numS_ok e3
  obtain ⟨e5, a5, b5, c5⟩ := numS_ok e4
  obtain ⟨e6, a6, b6, c6⟩ := numS_ok e5
  obtain ⟨e7, a7, b7, c7⟩ := numS_ok e6
  obtain ⟨e8, a8, b8, c8⟩ := numS_ok e7
  obtain ⟨e9, a9, b9, c9⟩ := numS_ok e8
  obtain ⟨e10, a10, b10, c10⟩ := wordS_ok e9
  obtain ⟨e11, a11, b11, c11⟩ := takeS_ok e10
  refine ⟨h2, ?_, c0⟩
  have b1' : _ ≤ (sevS s _).2.1 := b1
  dsimp only at b11
  omega
theorem parseB_in {s : ByteArray} {p : Int} (h : (parseB s p).2.2 = 0) : checkB (parseB s p).1.1 (parseB s p).1.2 = 0 ∧ p < (parseB s p).2.1 ∧ (parseB s p).2.1 ≤ s.size := by
  unfold parseB rdbid at h ⊢
  dsimp only at h ⊢
  obtain ⟨h1, h2, h3⟩ := outB_in h
  rw [h3]
  dsimp only
  obtain ⟨e0, a0, b0, c0⟩ := takeS_ok h1
  obtain ⟨e1, b1⟩ := sevF_ok _ _ _ e0
  obtain ⟨e9, a9, b9, c9⟩ := numS_ok e1
  obtain ⟨e10, a10, b10, c10⟩ := wordS_ok e9
  obtain ⟨e11, a11, b11, c11⟩ := takeS_ok e10
  refine ⟨h2, ?_, c0⟩
  have b1' : _ ≤ (sevS s _).2.1 := b1
  dsimp only at b11
  omega
theorem parseB_bad {s : ByteArray} {p : Int} (h : (parseB s p).2.2 ≠ 0) : (parseB s p).2.1 = 0 := by
  unfold parseB at h ⊢
  dsimp only at h ⊢
  unfold outB at h ⊢
  split
  · rfl
  · split
    · rfl
    · rename_i g1 g2; rw [if_neg g1, if_neg g2] at h; exact absurd rfl h
end Ar
end Go.Proofs.Ytnghcgmkncbnnaa
end
section
namespace Go.Proofs.Ytnghcgmkncbnnaa
open Go.RowKit Go.Proofs.YtnghcgmkncbnnaaW.PrintWords Go.Proofs.YtnghcgmkncbnnaaW.PrintLast Go.Proofs.YtnghcgmkncbnnaaW.PrintMore
namespace Ar
open Wd
theorem long_b {w : World} (s : ByteArray) (A : Option Addr) (c : Nat) (l : List Stp) (h : Kd.C kStp w A l.length l) (hc : l.length ≤ c) :
    Calls Try.prog 15 #[.string s, .slice A l.length c] w fun e w' => e = .returned (.bool (decide (5000 < s.size) || decide (50 < l.length))) ∧ Below w.heap.size w w' :=
  (long_c s A c l h hc).mono fun _ _ ⟨h1, h2⟩ => ⟨h1, h2.below⟩
theorem fmtU_ok {w : World} {u : Un} {A : Option Addr} {c : Nat} (hu : checkU u = 0) (h : Kd.C kStp w A u.steps.length u.steps) (hc : u.steps.length ≤ c) :
    Calls Try.prog 12 #[.agg (unC u (.slice A u.steps.length c))] w fun e w' => e = .returned (.tuple #[.string (unText u), .int .i64 0]) ∧ Below w.heap.size w w' := by
  have h1 := FormatUnit_c u A c h hc (by have := (tn_all hu).2.2; omega) showU_ok
  rw [if_pos hu, hu] at h1; exact h1
theorem fmtB_ok {w : World} {bus : Int} {l : List Stp} {A : Option Addr} {c : Nat} (hu : checkB bus l = 0) (h : Kd.C kStp w A l.length l) (hc : l.length ≤ c) :
    Calls Try.prog 13 #[.agg (biC bus (.slice A l.length c))] w fun e w' => e = .returned (.tuple #[.string (biText bus l), .int .i64 0]) ∧ Below w.heap.size w w' := by
  have h1 := FormatBid_c bus l A c h hc (by have := (tn_allB hu).2.2; omega) showB_ok
  rw [if_pos hu, hu] at h1; exact h1
theorem unit_t {w : World} {u : Un} {A : Option Addr} {c : Nat} (hu : checkU u = 0) (h : Kd.C kStp w A u.steps.length u.steps) (hc : u.steps.length ≤ c) :
    Calls Try.prog 9 #[.string (unText u), .int .i64 0, .agg (unC u (.slice A u.steps.length c)), .int .i64 (unText u).size, .int .i64 0] w fun e w' => e = .returned (.bool true) ∧ Below w.heap.size w w' := by
  have hl := (tn_all hu).2.2
  exact unit_c (by have := unText_len u (by omega); omega) (good_any _) 0 trivial u _ 0 (unit_back hu) A c h hc (by omega)
theorem bid_t {w : World} {bus : Int} {l : List Stp} {A : Option Addr} {c : Nat} (hu : checkB bus l = 0) (h : Kd.C kStp w A l.length l) (hc : l.length ≤ c) :
    Calls Try.prog 10 #[.string (biText bus l), .int .i64 0, .agg (biC bus (.slice A l.length c)), .int .i64 (biText bus l).size, .int .i64 0] w fun e w' => e = .returned (.bool true) ∧ Below w.heap.size w w' := by
  have hl := (tn_allB hu).2.2
  exact bid_c (by have := biText_len bus l (by omega); omega) (good_any _) 0 trivial bus l _ 0 (bid_back hu) A c h hc (by omega)
set_option maxRecDepth 100000 in
set_option maxHeartbeats 32000000 in
theorem roundTrip_c {w : World} (u : Un) (bus : Int) (l : List Stp) (A A' : Option Addr) (c c' : Nat) (s : ByteArray) (p : Int) (h : Kd.C kStp w A u.steps.length u.steps) (hc : u.steps.length ≤ c) (h' : Kd.C kStp w A' l.length l) (hc' : l.length ≤ c') :
    Calls Try.prog 4 #[.agg (unC u (.slice A u.steps.length c)), .agg (biC bus (.slice A' l.length c')), .string s, .int .i64 p] w fun e w' => e = .returned (.bool true) ∧ Below w.heap.size w w' := by
  have hU := Try.underlying30
  have hV := Try.underlying33
  have HL := Lib.hid (fun (W : World) (hb : Below w.heap.size w W) => long_b (w := W) s A c u.steps (Kd.C_below h hb) hc)
  have HM := Lib.hid (fun (W : World) (hb : Below w.heap.size w W) => long_b (w := W) ⟨#[]⟩ A' c' l (Kd.C_below h' hb) hc')
  have HA := Lib.hid (fun (W : World) => awake_c (w := W))
  have HU := Lib.hid (fun (W : World) (hb : Below w.heap.size w W) (hl : u.steps.length < 1000000) => FormatUnit_c (w := W) u A c (Kd.C_below h hb) hc hl showU_ok)
  have HB := Lib.hid (fun (W : World) (hb : Below w.heap.size w W) (hl : l.length < 1000000) => FormatBid_c (w := W) bus l A' c' (Kd.C_below h' hb) hc' hl showB_ok)
  have HK := Lib.hid (fun (W : World) (hb : Below w.heap.size w W) (hl : u.steps.length < 1073741824) => Check_c (w := W) u A c (Kd.C_below h hb) hc hl)
  have HN := Lib.hid (fun (e : checkU u = 0) (W : World) (hb : Below w.heap.size w W) => unit_t (w := W) e (Kd.C_below h hb) hc)
  have HO := Lib.hid (fun (e : checkB bus l = 0) (W : World) (hb : Below w.heap.size w W) => bid_t (w := W) e (Kd.C_below h' hb) hc')
  have HPU := Lib.hid (fun (W : World) (hs : s.size < 1048576) => ParseUnit_c hs (good_any s) (w := W) p trivial)
  have HPB := Lib.hid (fun (W : World) (hs : s.size < 1048576) => ParseBid_c hs (good_any s) (w := W) p trivial)
  obtain ⟨V, N, G, hVp⟩ : ∃ V N G, parseU s p = (V, N, G) := ⟨_, _, _, rfl⟩
  obtain ⟨D, M, I, hDp⟩ : ∃ D M I, parseB s p = (D, M, I) := ⟨_, _, _, rfl⟩
  obtain ⟨db, ld⟩ := D
  have hVi : G = 0 → checkU V = 0 ∧ p < N ∧ N ≤ s.size := fun e => by have := parseU_in (s := s) (p := p); rw [hVp] at this; exact this e
  have hDi : I = 0 → checkB db ld = 0 ∧ p < M ∧ M ≤ s.size := fun e => by have := parseB_in (s := s) (p := p); rw [hDp] at this; exact this e
  have hDb : I ≠ 0 → M = 0 := fun e => by have := parseB_bad (s := s) (p := p); rw [hDp] at this; exact this e
  rw [hVp] at HPU
  rw [hDp] at HPB
  clear hVp hDp
  have HF2 := Lib.hid (fun (e : G = 0) (W : World) (A1 : Option Addr) (c1 : Nat) (h1 : Kd.C kStp W A1 V.steps.length V.steps) (h2 : V.steps.length ≤ c1) => fmtU_ok (hVi e).1 h1 h2)
  have HN2 := Lib.hid (fun (e : G = 0) (W : World) (A1 : Option Addr) (c1 : Nat) (h1 : Kd.C kStp W A1 V.steps.length V.steps) (h2 : V.steps.length ≤ c1) => unit_t (hVi e).1 h1 h2)
  have HG2 := Lib.hid (fun (e : I = 0) (W : World) (A1 : Option Addr) (c1 : Nat) (h1 : Kd.C kStp W A1 ld.length ld) (h2 : ld.length ≤ c1) => fmtB_ok (hDi e).1 h1 h2)
  have HO2 := Lib.hid (fun (e : I = 0) (W : World) (A1 : Option Addr) (c1 : Nat) (h1 : Kd.C kStp W A1 ld.length ld) (h2 : ld.length ≤ c1) => bid_t (hDi e).1 h1 h2)
  have HVi := Lib.hid (fun e => (hVi e).2)
  have HDi := Lib.hid (fun e => (hDi e).2)
  have HDb := Lib.hid hDb
  clear hVi hDi hDb
  have e0 : decide (5000 < (⟨#[]⟩ : ByteArray).size) = false := rfl
  rw [e0] at HM
  simp only [Bool.false_or] at HM
  clear e0
  obtain ⟨b0, hb0d⟩ : ∃ b, (decide (5000 < s.size) || decide (50 < u.steps.length)) = b := ⟨_, rfl⟩
  obtain ⟨b1, hb1d⟩ : ∃ b, decide (50 < l.length) = b := ⟨_, rfl⟩
  have HNn : Hid (b0 = false → s.size < 1048576 ∧ u.steps.length < 1000000) := fun e => by rw [e, Bool.or_eq_false_iff, decide_eq_false_iff_not, decide_eq_false_iff_not] at hb0d; omega
  have HNo : Hid (b1 = false → l.length < 1000000) := fun e => by rw [e, decide_eq_false_iff_not] at hb1d; omega
  rw [hb0d] at HL
  rw [hb1d] at HM
  clear hb0d hb1d h h' hc hc'
  generalize unText V = S3 at HF2 HN2
  generalize biText db ld = S4 at HG2 HO2
  obtain ⟨S1, hS1⟩ : ∃ S : ByteArray, unText u = S := ⟨_, rfl⟩
  obtain ⟨S2, hS2⟩ : ∃ S : ByteArray, biText bus l = S := ⟨_, rfl⟩
  rw [hS1] at HU HN
  rw [hS2] at HB HO
  clear hS1 hS2
  generalize checkU u = F1 at HU HN HK
  generalize checkB bus l = F2 at HB HO
  obtain ⟨ub, mi, lu, up, dn, st, idl, sp, on⟩ := u
  obtain ⟨vb, vmi, lv, vup, vdn, vst, vid, vsp, von⟩ := V
  dsimp only [unC] at HU HL HK HN HPU HPB HF2 HN2 HG2 HO2 HNn ⊢
  generalize lu.length = n1 at HU HL HK HN HNn ⊢
  generalize l.length = n2 at HB HM HO HNo ⊢
  generalize lv.length = nv at HPU HF2 HN2
  generalize ld.length = nd at HPB HG2 HO2
  have hB := below_alloc (below_alloc (Below.refl _ w) (.cells #[.int .i64 ub, .int .i64 mi, .slice A n1 c, .int .i64 up, .int .i64 dn, .int .i64 st, .int .i64 idl, .int .i64 sp, .int .i64 on] 30)) (.cells #[.int .i64 bus, .slice A' n2 c'] 33)
  have kk := blk_alloc (blk_new w (.cells #[.int .i64 ub, .int .i64 mi, .slice A n1 c, .int .i64 up, .int .i64 dn, .int .i64 st, .int .i64 idl, .int .i64 sp, .int .i64 on] 30)) (.cells #[.int .i64 bus, .slice A' n2 c'] 33)
  have jj := blk_new (w.alloc (.cells #[.int .i64 ub, .int .i64 mi, .slice A n1 c, .int .i64 up, .int .i64 dn, .int .i64 st, .int .i64 idl, .int .i64 sp, .int .i64 on] 30)) (.cells #[.int .i64 bus, .slice A' n2 c'] 33)
  rw [World.size_alloc] at jj
  have hgb : (w.heap.size + 1) ≠ w.heap.size := by omega
  have hbg : w.heap.size ≠ (w.heap.size + 1) := by omega
  have hk0 := blk_cell kk 0; have hk1 := blk_cell kk 1; have hk2 := blk_cell kk 2; have hk3 := blk_cell kk 3; have hk4 := blk_cell kk 4; have hk5 := blk_cell kk 5; have hk6 := blk_cell kk 6; have hk7 := blk_cell kk 7; have hk8 := blk_cell kk 8
  have hj0 := blk_cell jj 0; have hj1 := blk_cell jj 1
  cases b0 with
  | true =>
    go_enter Try.func4, Try.ntmps4
    go_wp2_with (first | (go_at_call_of 15 (Value.string s); refine (HL.out _ hB).mono ?_; rintro e w1 ⟨rfl, hb⟩; replace hB := below_step hB hb; replace kk := blk_below kk hb; replace jj := blk_below jj hb; replace hk0 := blk_cell kk 0; replace hk1 := blk_cell kk 1; replace hk2 := blk_cell kk 2; replace hk3 := blk_cell kk 3; replace hk4 := blk_cell kk 4; replace hk5 := blk_cell kk 5; replace hk6 := blk_cell kk 6; replace hk7 := blk_cell kk 7; replace hk8 := blk_cell kk 8; replace hj0 := blk_cell jj 0; replace hj1 := blk_cell jj 1; clear hb) | (go_at_call 8; refine (HA.out _).mono ?_; rintro e w3 ⟨rfl, hb⟩; replace hB := below_step hB hb; replace kk := blk_below kk hb; replace jj := blk_below jj hb; replace hk0 := blk_cell kk 0; replace hk1 := blk_cell kk 1; replace hk2 := blk_cell kk 2; replace hk3 := blk_cell kk 3; replace hk4 := blk_cell kk 4; replace hk5 := blk_cell kk 5; replace hk6 := blk_cell kk 6; replace hk7 := blk_cell kk 7; replace hk8 := blk_cell kk 8; replace hj0 := blk_cell jj 0; replace hj1 := blk_cell jj 1; clear hb))
    go_ret
    exact ⟨rfl, hB⟩
  | false =>
    obtain ⟨hsz, hn1⟩ := HNn.out rfl
    have HSZ := Lib.hid hsz
    have HN1 := Lib.hid hn1
    clear hsz hn1
    cases b1 with
    | true =>
      go_enter Try.func4, Try.ntmps4
      go_wp2_with (first | (go_at_call_of 15 (Value.string ⟨#[]⟩); refine (HM.out _ hB).mono ?_; rintro e w2 ⟨rfl, hb⟩; replace hB := below_step hB hb; replace kk := blk_below kk hb; replace jj := blk_below jj hb; replace hk0 := blk_cell kk 0; replace hk1 := blk_cell kk 1; replace hk2 := blk_cell kk 2; replace hk3 := blk_cell kk 3; replace hk4 := blk_cell kk 4; replace hk5 := blk_cell kk 5; replace hk6 := blk_cell kk 6; replace hk7 := blk_cell kk 7; replace hk8 := blk_cell kk 8; replace hj0 := blk_cell jj 0; replace hj1 := blk_cell jj 1; clear hb) | (go_at_call_of 15 (Value.string s); refine (HL.out _ hB).mono ?_; rintro e w1 ⟨rfl, hb⟩; replace hB := below_step hB hb; replace kk := blk_below kk hb; replace jj := blk_below jj hb; replace hk0 := blk_cell kk 0; replace hk1 := blk_cell kk 1; replace hk2 := blk_cell kk 2; replace hk3 := blk_cell kk 3; replace hk4 := blk_cell kk 4; replace hk5 := blk_cell kk 5; replace hk6 := blk_cell kk 6; replace hk7 := blk_cell kk 7; replace hk8 := blk_cell kk 8; replace hj0 := blk_cell jj 0; replace hj1 := blk_cell jj 1; clear hb) | (go_at_call 8; refine (HA.out _).mono ?_; rintro e w3 ⟨rfl, hb⟩; replace hB := below_step hB hb; replace kk := blk_below kk hb; replace jj := blk_below jj hb; replace hk0 := blk_cell kk 0; replace hk1 := blk_cell kk 1; replace hk2 := blk_cell kk 2; replace hk3 := blk_cell kk 3; replace hk4 := blk_cell kk 4; replace hk5 := blk_cell kk 5; replace hk6 := blk_cell kk 6; replace hk7 := blk_cell kk 7; replace hk8 := blk_cell kk 8; replace hj0 := blk_cell jj 0; replace hj1 := blk_cell jj 1; clear hb))
      go_ret
      exact ⟨rfl, hB⟩
    | false =>
      have HN0 := Lib.hid (HNo.out rfl)
      have K1 : (F1 = 0) ∨ ((F1 == 0) = false ∧ (F1 != 0) = true) := by
        by_cases e : F1 = 0
        · exact .inl e
        · exact .inr ⟨beq_eq_false_iff_ne.2 e, bne_iff_ne.2 e⟩
      have K2 : (F2 = 0) ∨ ((F2 == 0) = false ∧ (F2 != 0) = true) := by
        by_cases e : F2 = 0
        · exact .inl e
        · exact .inr ⟨beq_eq_false_iff_ne.2 e, bne_iff_ne.2 e⟩
      have K3 : (G = 0 ∧ decide (N ≤ p) = false ∧ decide ((s.size : Int) < N) = false) ∨ ((G == 0) = false ∧ (G != 0) = true) := by
        by_cases e : G = 0
        · have := HVi.out e
          exact .inl ⟨e, decide_eq_false (by omega), decide_eq_false (by omega)⟩
        · exact .inr ⟨beq_eq_false_iff_ne.2 e, bne_iff_ne.2 e⟩
      have K4 : (I = 0 ∧ decide (p < M) = true ∧ decide (M ≤ (s.size : Int)) = true) ∨ ((I == 0) = false ∧ (I != 0) = true ∧ M = 0) := by
        by_cases e : I = 0
        · have := HDi.out e
          exact .inl ⟨e, decide_eq_true (by omega), decide_eq_true (by omega)⟩
        · exact .inr ⟨beq_eq_false_iff_ne.2 e, bne_iff_ne.2 e, HDb.out e⟩
      have T1 : ∀ F : Int, (F == 0) = false → ∀ S : ByteArray, (if F = 0 then S else ⟨#[]⟩) = ⟨#[]⟩ := fun F e S => if_neg (beq_eq_false_iff_ne.1 e)
      rcases K1 with rfl | ⟨q1, q1'⟩
      all_goals rcases K2 with rfl | ⟨q2, q2'⟩
      all_goals rcases K3 with ⟨rfl, q3, q3'⟩ | ⟨q3, q3'⟩
      all_goals rcases K4 with ⟨rfl, q4, q4'⟩ | ⟨q4, q4', rfl⟩
      all_goals try rw [T1 _ q1] at HU
      all_goals try rw [T1 _ q2] at HB
      all_goals try rw [if_pos rfl] at HU
      all_goals try rw [if_pos rfl] at HB
      all_goals clear T1 HVi HDi HDb
      all_goals go_enter Try.func4, Try.ntmps4
      all_goals go_wp2_with (first | (go_at_call_of 10 (Value.string S4); refine (HO2.out (by trivial) _ A2 c2 rD hc2).mono ?_; rintro e w14 ⟨rfl, hb⟩; replace hB := below_step hB hb; replace kk := blk_below kk hb; replace jj := blk_below jj hb; replace vv := blk_below vv hb; replace dd := blk_below dd hb; replace rV := Kd.C_below rV hb; replace rD := Kd.C_below rD hb; clear hb) | (go_at_call_of 13 (Value.agg #[.int .i64 db, .slice A2 nd c2]); refine (HG2.out (by trivial) _ A2 c2 rD hc2).mono ?_; rintro e w13 ⟨rfl, hb⟩; replace hB := below_step hB hb; replace kk := blk_below kk hb; replace jj := blk_below jj hb; replace vv := blk_below vv hb; replace dd := blk_below dd hb; replace rV := Kd.C_below rV hb; replace rD := Kd.C_below rD hb; replace hk0 := blk_cell kk 0; replace hk1 := blk_cell kk 1; replace hk2 := blk_cell kk 2; replace hk3 := blk_cell kk 3; replace hk4 := blk_cell kk 4; replace hk5 := blk_cell kk 5; replace hk6 := blk_cell kk 6; replace hk7 := blk_cell kk 7; replace hk8 := blk_cell kk 8; replace hj0 := blk_cell jj 0; replace hj1 := blk_cell jj 1; replace hv0 := blk_cell vv 0; replace hv1 := blk_cell vv 1; replace hv2 := blk_cell vv 2; replace hv3 := blk_cell vv 3; replace hv4 := blk_cell vv 4; replace hv5 := blk_cell vv 5; replace hv6 := blk_cell vv 6; replace hv7 := blk_cell vv 7; replace hv8 := blk_cell vv 8; replace hd0 := blk_cell dd 0; replace hd1 := blk_cell dd 1; clear hb) | (go_at_call 18; refine (HPB.out _ HSZ.out).mono ?_; rintro e w12 ⟨A2, c2, hc2, rfl, hr2, hb⟩; replace hB := below_alloc (below_step hB hb) (.cells #[.int .i64 db, .slice A2 nd c2] 33); replace kk := blk_alloc (blk_below kk hb) (.cells #[.int .i64 db, .slice A2 nd c2] 33); replace jj := blk_alloc (blk_below jj hb) (.cells #[.int .i64 db, .slice A2 nd c2] 33); replace vv := blk_alloc (blk_below vv hb) (.cells #[.int .i64 db, .slice A2 nd c2] 33); replace rV := Kd.C_alloc (Kd.C_below rV hb) (.cells #[.int .i64 db, .slice A2 nd c2] 33); have dd := blk_new w12 (.cells #[.int .i64 db, .slice A2 nd c2] 33); have rD := Kd.C_alloc hr2 (.cells #[.int .i64 db, .slice A2 nd c2] 33); replace hk0 := blk_cell kk 0; replace hk1 := blk_cell kk 1; replace hk2 := blk_cell kk 2; replace hk3 := blk_cell kk 3; replace hk4 := blk_cell kk 4; replace hk5 := blk_cell kk 5; replace hk6 := blk_cell kk 6; replace hk7 := blk_cell kk 7; replace hk8 := blk_cell kk 8; replace hj0 := blk_cell jj 0; replace hj1 := blk_cell jj 1; replace hv0 := blk_cell vv 0; replace hv1 := blk_cell vv 1; replace hv2 := blk_cell vv 2; replace hv3 := blk_cell vv 3; replace hv4 := blk_cell vv 4; replace hv5 := blk_cell vv 5; replace hv6 := blk_cell vv 6; replace hv7 := blk_cell vv 7; replace hv8 := blk_cell vv 8; replace hd0 := blk_cell dd 0; replace hd1 := blk_cell dd 1; clear hb) | (go_at_call_of 9 (Value.string S3); refine (HN2.out (by trivial) _ A1 c1 rV hc1).mono ?_; rintro e w11 ⟨rfl, hb⟩; replace hB := below_step hB hb; replace kk := blk_below kk hb; replace jj := blk_below jj hb; replace vv := blk_below vv hb; replace rV := Kd.C_below rV hb; replace hk0 := blk_cell kk 0; replace hk1 := blk_cell kk 1; replace hk2 := blk_cell kk 2; replace hk3 := blk_cell kk 3; replace hk4 := blk_cell kk 4; replace hk5 := blk_cell kk 5; replace hk6 := blk_cell kk 6; replace hk7 := blk_cell kk 7; replace hk8 := blk_cell kk 8; replace hj0 := blk_cell jj 0; replace hj1 := blk_cell jj 1; replace hv0 := blk_cell vv 0; replace hv1 := blk_cell vv 1; replace hv2 := blk_cell vv 2; replace hv3 := blk_cell vv 3; replace hv4 := blk_cell vv 4; replace hv5 := blk_cell vv 5; replace hv6 := blk_cell vv 6; replace hv7 := blk_cell vv 7; replace hv8 := blk_cell vv 8; clear hb) | (go_at_call_of 12 (Value.agg #[.int .i64 vb, .int .i64 vmi, .slice A1 nv c1, .int .i64 vup, .int .i64 vdn, .int .i64 vst, .int .i64 vid, .int .i64 vsp, .int .i64 von]); refine (HF2.out (by trivial) _ A1 c1 rV hc1).mono ?_; rintro e w10 ⟨rfl, hb⟩; replace hB := below_step hB hb; replace kk := blk_below kk hb; replace jj := blk_below jj hb; replace vv := blk_below vv hb; replace rV := Kd.C_below rV hb; replace hk0 := blk_cell kk 0; replace hk1 := blk_cell kk 1; replace hk2 := blk_cell kk 2; replace hk3 := blk_cell kk 3; replace hk4 := blk_cell kk 4; replace hk5 := blk_cell kk 5; replace hk6 := blk_cell kk 6; replace hk7 := blk_cell kk 7; replace hk8 := blk_cell kk 8; replace hj0 := blk_cell jj 0; replace hj1 := blk_cell jj 1; replace hv0 := blk_cell vv 0; replace hv1 := blk_cell vv 1; replace hv2 := blk_cell vv 2; replace hv3 := blk_cell vv 3; replace hv4 := blk_cell vv 4; replace hv5 := blk_cell vv 5; replace hv6 := blk_cell vv 6; replace hv7 := blk_cell vv 7; replace hv8 := blk_cell vv 8; clear hb) | (go_at_call 17; refine (HPU.out _ HSZ.out).mono ?_; rintro e w9 ⟨A1, c1, hc1, rfl, hr1, hb⟩; replace hB := below_alloc (below_step hB hb) (.cells #[.int .i64 vb, .int .i64 vmi, .slice A1 nv c1, .int .i64 vup, .int .i64 vdn, .int .i64 vst, .int .i64 vid, .int .i64 vsp, .int .i64 von] 30); replace kk := blk_alloc (blk_below kk hb) (.cells #[.int .i64 vb, .int .i64 vmi, .slice A1 nv c1, .int .i64 vup, .int .i64 vdn, .int .i64 vst, .int .i64 vid, .int .i64 vsp, .int .i64 von] 30); replace jj := blk_alloc (blk_below jj hb) (.cells #[.int .i64 vb, .int .i64 vmi, .slice A1 nv c1, .int .i64 vup, .int .i64 vdn, .int .i64 vst, .int .i64 vid, .int .i64 vsp, .int .i64 von] 30); have vv := blk_new w9 (.cells #[.int .i64 vb, .int .i64 vmi, .slice A1 nv c1, .int .i64 vup, .int .i64 vdn, .int .i64 vst, .int .i64 vid, .int .i64 vsp, .int .i64 von] 30); have rV := Kd.C_alloc hr1 (.cells #[.int .i64 vb, .int .i64 vmi, .slice A1 nv c1, .int .i64 vup, .int .i64 vdn, .int .i64 vst, .int .i64 vid, .int .i64 vsp, .int .i64 von] 30); replace hk0 := blk_cell kk 0; replace hk1 := blk_cell kk 1; replace hk2 := blk_cell kk 2; replace hk3 := blk_cell kk 3; replace hk4 := blk_cell kk 4; replace hk5 := blk_cell kk 5; replace hk6 := blk_cell kk 6; replace hk7 := blk_cell kk 7; replace hk8 := blk_cell kk 8; replace hj0 := blk_cell jj 0; replace hj1 := blk_cell jj 1; replace hv0 := blk_cell vv 0; replace hv1 := blk_cell vv 1; replace hv2 := blk_cell vv 2; replace hv3 := blk_cell vv 3; replace hv4 := blk_cell vv 4; replace hv5 := blk_cell vv 5; replace hv6 := blk_cell vv 6; replace hv7 := blk_cell vv 7; replace hv8 := blk_cell vv 8; clear hb) | (go_at_call_of 10 (Value.string S2); refine (HO.out (by trivial) _ hB).mono ?_; rintro e w8 ⟨rfl, hb⟩; replace hB := below_step hB hb; replace kk := blk_below kk hb; replace jj := blk_below jj hb; replace hk0 := blk_cell kk 0; replace hk1 := blk_cell kk 1; replace hk2 := blk_cell kk 2; replace hk3 := blk_cell kk 3; replace hk4 := blk_cell kk 4; replace hk5 := blk_cell kk 5; replace hk6 := blk_cell kk 6; replace hk7 := blk_cell kk 7; replace hk8 := blk_cell kk 8; replace hj0 := blk_cell jj 0; replace hj1 := blk_cell jj 1; clear hb) | (go_at_call_of 9 (Value.string S1); refine (HN.out (by trivial) _ hB).mono ?_; rintro e w7 ⟨rfl, hb⟩; replace hB := below_step hB hb; replace kk := blk_below kk hb; replace jj := blk_below jj hb; replace hk0 := blk_cell kk 0; replace hk1 := blk_cell kk 1; replace hk2 := blk_cell kk 2; replace hk3 := blk_cell kk 3; replace hk4 := blk_cell kk 4; replace hk5 := blk_cell kk 5; replace hk6 := blk_cell kk 6; replace hk7 := blk_cell kk 7; replace hk8 := blk_cell kk 8; replace hj0 := blk_cell jj 0; replace hj1 := blk_cell jj 1; clear hb) | (go_at_call 16; refine (HK.out _ hB (Nat.lt_trans HN1.out (by decide))).mono ?_; rintro e w6 ⟨rfl, hb⟩; replace hB := below_step hB hb; replace kk := blk_below kk hb; replace jj := blk_below jj hb; replace hk0 := blk_cell kk 0; replace hk1 := blk_cell kk 1; replace hk2 := blk_cell kk 2; replace hk3 := blk_cell kk 3; replace hk4 := blk_cell kk 4; replace hk5 := blk_cell kk 5; replace hk6 := blk_cell kk 6; replace hk7 := blk_cell kk 7; replace hk8 := blk_cell kk 8; replace hj0 := blk_cell jj 0; replace hj1 := blk_cell jj 1; clear hb) | (go_at_call_of 13 (Value.agg #[.int .i64 bus, .slice A' n2 c']); refine (HB.out _ hB HN0.out).mono ?_; rintro e w5 ⟨rfl, hb⟩; replace hB := below_step hB hb; replace kk := blk_below kk hb; replace jj := blk_below jj hb; replace hk0 := blk_cell kk 0; replace hk1 := blk_cell kk 1; replace hk2 := blk_cell kk 2; replace hk3 := blk_cell kk 3; replace hk4 := blk_cell kk 4; replace hk5 := blk_cell kk 5; replace hk6 := blk_cell kk 6; replace hk7 := blk_cell kk 7; replace hk8 := blk_cell kk 8; replace hj0 := blk_cell jj 0; replace hj1 := blk_cell jj 1; clear hb) | (go_at_call_of 12 (Value.agg #[.int .i64 ub, .int .i64 mi, .slice A n1 c, .int .i64 up, .int .i64 dn, .int .i64 st, .int .i64 idl, .int .i64 sp, .int .i64 on]); refine (HU.out _ hB HN1.out).mono ?_; rintro e w4 ⟨rfl, hb⟩; replace hB := below_step hB hb; replace kk := blk_below kk hb; replace jj := blk_below jj hb; replace hk0 := blk_cell kk 0; replace hk1 := blk_cell kk 1; replace hk2 := blk_cell kk 2; replace hk3 := blk_cell kk 3; replace hk4 := blk_cell kk 4; replace hk5 := blk_cell kk 5; replace hk6 := blk_cell kk 6; replace hk7 := blk_cell kk 7; replace hk8 := blk_cell kk 8; replace hj0 := blk_cell jj 0; replace hj1 := blk_cell jj 1; clear hb) | (go_at_call 8; refine (HA.out _).mono ?_; rintro e w3 ⟨rfl, hb⟩; replace hB := below_step hB hb; replace kk := blk_below kk hb; replace jj := blk_below jj hb; replace hk0 := blk_cell kk 0; replace hk1 := blk_cell kk 1; replace hk2 := blk_cell kk 2; replace hk3 := blk_cell kk 3; replace hk4 := blk_cell kk 4; replace hk5 := blk_cell kk 5; replace hk6 := blk_cell kk 6; replace hk7 := blk_cell kk 7; replace hk8 := blk_cell kk 8; replace hj0 := blk_cell jj 0; replace hj1 := blk_cell jj 1; clear hb) | (go_at_call_of 15 (Value.string ⟨#[]⟩); refine (HM.out _ hB).mono ?_; rintro e w2 ⟨rfl, hb⟩; replace hB := below_step hB hb; replace kk := blk_below kk hb; replace jj := blk_below jj hb; replace hk0 := blk_cell kk 0; replace hk1 := blk_cell kk 1; replace hk2 := blk_cell kk 2; replace hk3 := blk_cell kk 3; replace hk4 := blk_cell kk 4; replace hk5 := blk_cell kk 5; replace hk6 := blk_cell kk 6; replace hk7 := blk_cell kk 7; replace hk8 := blk_cell kk 8; replace hj0 := blk_cell jj 0; replace hj1 := blk_cell jj 1; clear hb) | (go_at_call_of 15 (Value.string s); refine (HL.out _ hB).mono ?_; rintro e w1 ⟨rfl, hb⟩; replace hB := below_step hB hb; replace kk := blk_below kk hb; replace jj := blk_below jj hb; replace hk0 := blk_cell kk 0; replace hk1 := blk_cell kk 1; replace hk2 := blk_cell kk 2; replace hk3 := blk_cell kk 3; replace hk4 := blk_cell kk 4; replace hk5 := blk_cell kk 5; replace hk6 := blk_cell kk 6; replace hk7 := blk_cell kk 7; replace hk8 := blk_cell kk 8; replace hj0 := blk_cell jj 0; replace hj1 := blk_cell jj 1; clear hb))
      all_goals go_ret
      all_goals exact ⟨rfl, hB⟩
end Ar
end Go.Proofs.Ytnghcgmkncbnnaa
end
