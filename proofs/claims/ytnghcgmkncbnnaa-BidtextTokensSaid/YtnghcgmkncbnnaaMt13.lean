/- Part 13 of the proof: Package bidtext: what is formatted is parsed as it was; what is parsed is right; every text is read rightly. The law BidtextTokens: the walk. -/
import Derived.Test.YtnghcgmkncbnnaaMt11
import Derived.Test.YtnghcgmkncbnnaaMt12
set_option linter.unusedVariables false
set_option linter.unusedSimpArgs false
section
namespace Go.Proofs.Ytnghcgmkncbnnaa
open Go.RowKit Go.Proofs.YtnghcgmkncbnnaaW.PrintWords Go.Proofs.YtnghcgmkncbnnaaW.PrintLast Go.Proofs.YtnghcgmkncbnnaaW.PrintMore
namespace Ar
open Wd
theorem zOf_len (s : ByteArray) : (digs (zOf s).natAbs).length < 1048570 := by
  unfold zOf
  rw [(sg_sign _ _).2]
  unfold pMag
  split
  · decide
  · rename_i hl
    split
    · decide
    · split
      · decide
      · split
        · next h => have := decN_digs h; dsimp only; omega
        · decide
theorem pD_len (s : ByteArray) : (digs (pD s).natAbs).length < 1048570 := by
  unfold pD
  split
  · exact zOf_len _
  · decide
theorem good_any (s : ByteArray) : Good s (fun _ => True) := fun _ _ => ⟨fun _ _ _ _ _ _ hv => IsCanQ_all hv (zOf_len _) (pD_len _), fun _ => trivial⟩
theorem unText_len (u : Un) (h : u.steps.length ≤ 100) : (unText u).size ≤ 20000 := by
  have h1 := flat_le nT_len (unNums u)
  have h2 := flat_le sT_len u.steps
  have h3 : (unNums u).length = 8 := rfl
  rw [← bs_len]
  show (fmtTo (showT unitB (unNums u) u.steps) (showT unitB (unNums u) u.steps).length).length ≤ _
  rw [show_text]
  simp only [List.length_append, List.length_cons, List.length_nil]
  have h4 : unitB.data.toList.length = 4 := rfl
  omega
theorem biText_len (bus : Int) (l : List Stp) (h : l.length ≤ 100) : (biText bus l).size ≤ 20000 := by
  have h1 := flat_le nT_len [bus]
  have h2 := flat_le sT_len l
  have h3 : [bus].length = 1 := rfl
  rw [← bs_len]
  show (fmtTo (showT bidB [bus] l) (showT bidB [bus] l).length).length ≤ _
  rw [show_text]
  simp only [List.length_append, List.length_cons, List.length_nil]
  have h4 : bidB.data.toList.length = 3 := rfl
  omega
theorem tn_all {u : Un} (h : checkU u = 0) : (∀ n ∈ unNums u, i64r n) ∧ (∀ s ∈ u.steps, i64r s.f0 ∧ i64r s.f1) ∧ u.steps.length ≤ 3 := by
  obtain ⟨h1, h2, h3⟩ := checkU_ok h
  exact ⟨fun n hn => tn_i64 (h1 n hn), fun s hs => ⟨tn_i64 (h2 s hs).1, tn_i64 (h2 s hs).2⟩, h3⟩
theorem tn_allB {bus : Int} {l : List Stp} (h : checkB bus l = 0) : i64r bus ∧ (∀ s ∈ l, i64r s.f0 ∧ i64r s.f1) ∧ l.length ≤ 3 := by
  obtain ⟨h1, h2, h3⟩ := checkB_ok h
  exact ⟨tn_i64 h1, fun s hs => ⟨tn_i64 (h2 s hs).1, tn_i64 (h2 s hs).2⟩, h3⟩
end Ar
end Go.Proofs.Ytnghcgmkncbnnaa
end
section
namespace Go.Proofs.Ytnghcgmkncbnnaa
open Go.RowKit Go.Proofs.YtnghcgmkncbnnaaW.PrintWords Go.Proofs.YtnghcgmkncbnnaaW.PrintLast Go.Proofs.YtnghcgmkncbnnaaW.PrintMore
namespace Ar
open Wd
theorem long_b {w : World} (s : ByteArray) (A : Option Addr) (c : Nat) (l : List Stp) (h : Kd.C kStp w A l.length l) (hc : l.length ≤ c) :
    Calls Try.prog 15 #[.string s, .slice A l.length c] w fun e w' => e = .returned (.bool (decide (5000 < s.size) || decide (50 < l.length))) ∧ Below w.heap.size w w' :=
  (long_c s A c l h hc).mono fun _ _ ⟨h1, h2⟩ => ⟨h1, h2.below⟩
theorem showL (word : ByteArray) (ns : List Int) (ls : List Stp) : (showT word ns ls).length = ns.length + 3 + 4 * ls.length := by
  unfold showT brk
  simp only [List.length_cons, List.length_append, List.length_map, flat_len, List.length_nil]
  omega
theorem hic_any (s : ByteArray) (p : Int) : HicAt s p := (good_any s p trivial).1
theorem allTU {w : World} {u : Un} (hu : checkU u = 0) : Calls Try.prog 20 #[.string (unText u)] w fun e w' => ∃ (A : Option Addr) (c : Nat), e = .returned (.tuple #[.slice A ((showT unitB (unNums u) u.steps).map tkS).length c, .int .i64 0]) ∧ ((showT unitB (unNums u) u.steps).map tkS).length ≤ c ∧ Kd.C kTk w' A ((showT unitB (unNums u) u.steps).map tkS).length ((showT unitB (unNums u) u.steps).map tkS) ∧ Below w.heap.size w w' := by
  obtain ⟨h1, h2, h3⟩ := tn_all hu
  have hl := unText_len u (by omega)
  have hc := show_ch (s := unText u) (A := []) (R := []) (w := unitB) (ns := unNums u) (ls := u.steps) (by omega) (by simp [unText]) okR_unit h1 h2
  have he : (fmtTo (showT unitB (unNums u) u.steps) (showT unitB (unNums u) u.steps).length).length = (unText u).size := by rw [← bs_len]; rfl
  rw [List.length_nil, Nat.zero_add, he] at hc
  exact All_c (unText u) (by omega) (hic_any _) _ _ hc (next_end (by omega)) (by rw [showL]; have : (unNums u).length = 8 := rfl; omega)
theorem allTB {w : World} {bus : Int} {l : List Stp} (hu : checkB bus l = 0) : Calls Try.prog 20 #[.string (biText bus l)] w fun e w' => ∃ (A : Option Addr) (c : Nat), e = .returned (.tuple #[.slice A ((showT bidB [bus] l).map tkS).length c, .int .i64 0]) ∧ ((showT bidB [bus] l).map tkS).length ≤ c ∧ Kd.C kTk w' A ((showT bidB [bus] l).map tkS).length ((showT bidB [bus] l).map tkS) ∧ Below w.heap.size w w' := by
  obtain ⟨h1, h2, h3⟩ := tn_allB hu
  have hl := biText_len bus l (by omega)
  have hc := show_ch (s := biText bus l) (A := []) (R := []) (w := bidB) (ns := [bus]) (ls := l) (by omega) (by simp [biText]) okR_bid (fun n hn => by rw [List.mem_singleton.1 hn]; exact h1) h2
  have he : (fmtTo (showT bidB [bus] l) (showT bidB [bus] l).length).length = (biText bus l).size := by rw [← bs_len]; rfl
  rw [List.length_nil, Nat.zero_add, he] at hc
  exact All_c (biText bus l) (by omega) (hic_any _) _ _ hc (next_end (by omega)) (by rw [showL]; have : [bus].length = 1 := rfl; omega)
set_option maxRecDepth 100000 in
set_option maxHeartbeats 32000000 in
theorem tokens_c {w : World} (u : Un) (bus : Int) (l : List Stp) (A A' : Option Addr) (c c' : Nat)  (h : Kd.C kStp w A u.steps.length u.steps) (hc : u.steps.length ≤ c) (h' : Kd.C kStp w A' l.length l) (hc' : l.length ≤ c') :
    Calls Try.prog 7 #[.agg (unC u (.slice A u.steps.length c)), .agg (biC bus (.slice A' l.length c'))] w fun e w' => e = .returned (.bool true) ∧ Below w.heap.size w w' := by
  have hU := Try.underlying30
  have hV := Try.underlying33
  have HL := Lib.hid (fun (W : World) (hb : Below w.heap.size w W) => long_b (w := W) ⟨#[]⟩ A c u.steps (Kd.C_below h hb) hc)
  have HM := Lib.hid (fun (W : World) (hb : Below w.heap.size w W) => long_b (w := W) ⟨#[]⟩ A' c' l (Kd.C_below h' hb) hc')
  have HA := Lib.hid (fun (W : World) => awake_c (w := W))
  have HU := Lib.hid (fun (W : World) (hb : Below w.heap.size w W) (hl : u.steps.length < 1000000) => FormatUnit_c (w := W) u A c (Kd.C_below h hb) hc hl showU_ok)
  have HB := Lib.hid (fun (W : World) (hb : Below w.heap.size w W) (hl : l.length < 1000000) => FormatBid_c (w := W) bus l A' c' (Kd.C_below h' hb) hc' hl showB_ok)
  have HA1 := Lib.hid (fun (e : checkU u = 0) (W : World) => allTU (w := W) e)
  have HA2 := Lib.hid (fun (e : checkB bus l = 0) (W : World) => allTB (w := W) e)
  have HF1 := Lib.hid (fun (e : checkU u = 0) (W : World) A c h1 h2 => tokFormat_c (w := W) A c (showT unitB (unNums u) u.steps) h1 h2 (showU_ok e).2.2.1 (showU_ok e).2.2.2 (by rw [showL]; have := (tn_all e).2.2; have : (unNums u).length = 8 := rfl; omega))
  have HF2 := Lib.hid (fun (e : checkB bus l = 0) (W : World) A c h1 h2 => tokFormat_c (w := W) A c (showT bidB [bus] l) h1 h2 (showB_ok e).2.2.1 (showB_ok e).2.2.2 (by rw [showL]; have := (tn_allB e).2.2; have : [bus].length = 1 := rfl; omega))
  have e0 : decide (5000 < (⟨#[]⟩ : ByteArray).size) = false := rfl
  rw [e0] at HL HM
  simp only [Bool.false_or] at HL HM
  clear e0
  obtain ⟨b0, hb0d⟩ : ∃ b, decide (50 < u.steps.length) = b := ⟨_, rfl⟩
  obtain ⟨b1, hb1d⟩ : ∃ b, decide (50 < l.length) = b := ⟨_, rfl⟩
  have HNn : Hid (b0 = false → u.steps.length < 1000000) := fun e => by rw [e, decide_eq_false_iff_not] at hb0d; omega
  have HNo : Hid (b1 = false → l.length < 1000000) := fun e => by rw [e, decide_eq_false_iff_not] at hb1d; omega
  rw [hb0d] at HL
  rw [hb1d] at HM
  clear hb0d hb1d
  obtain ⟨S1, hS1⟩ : ∃ S : ByteArray, unText u = S := ⟨_, rfl⟩
  obtain ⟨S2, hS2⟩ : ∃ S : ByteArray, biText bus l = S := ⟨_, rfl⟩
  have hT1 : (⟨(fmtTo (showT unitB (unNums u) u.steps) (showT unitB (unNums u) u.steps).length).toArray⟩ : ByteArray) = S1 := hS1
  have hT2 : (⟨(fmtTo (showT bidB [bus] l) (showT bidB [bus] l).length).toArray⟩ : ByteArray) = S2 := hS2
  rw [hS1] at HU HA1
  rw [hS2] at HB HA2
  rw [hT1] at HF1
  rw [hT2] at HF2
  obtain ⟨X1, hX1⟩ : ∃ X, (showT unitB (unNums u) u.steps).map tkS = X := ⟨_, rfl⟩
  obtain ⟨X2, hX2⟩ : ∃ X, (showT bidB [bus] l).map tkS = X := ⟨_, rfl⟩
  have hn1 : checkU u = 0 → wrap64 (11 + wrap64 (4 * (u.steps.length : Int))) = (X1.length : Int) := fun e => by
    have h3 := (tn_all e).2.2
    rw [← hX1, List.length_map, showL, w64in (4 * (u.steps.length : Int)) (by omega) (by omega), w64in _ (by omega) (by omega)]
    have : (unNums u).length = 8 := rfl
    omega
  have hn2 : checkB bus l = 0 → wrap64 (4 + wrap64 (4 * (l.length : Int))) = (X2.length : Int) := fun e => by
    have h3 := (tn_allB e).2.2
    rw [← hX2, List.length_map, showL, w64in (4 * (l.length : Int)) (by omega) (by omega), w64in _ (by omega) (by omega)]
    have : [bus].length = 1 := rfl
    omega
  have HX1 := Lib.hid hn1
  have HX2 := Lib.hid hn2
  clear hn1 hn2
  rw [hX1] at HA1 HF1
  rw [hX2] at HA2 HF2
  clear hS1 hS2 hT1 hT2 hX1 hX2 h h' hc hc'
  generalize checkU u = F1 at HU HA1 HF1 HX1
  generalize checkB bus l = F2 at HB HA2 HF2 HX2
  generalize X1.length = n3 at HA1 HF1 HX1
  generalize X2.length = n4 at HA2 HF2 HX2
  obtain ⟨ub, mi, lu, up, dn, st, idl, sp, on⟩ := u
  dsimp only [unC] at HU HL HX1 HNn ⊢
  generalize lu.length = n1 at HU HL HX1 HNn ⊢
  generalize l.length = n2 at HB HM HX2 HNo ⊢
  have hB := below_alloc (below_alloc (Below.refl _ w) (.cells #[.int .i64 ub, .int .i64 mi, .slice A n1 c, .int .i64 up, .int .i64 dn, .int .i64 st, .int .i64 idl, .int .i64 sp, .int .i64 on] 30)) (.cells #[.int .i64 bus, .slice A' n2 c'] 33)
  have kk := blk_alloc (blk_new w (.cells #[.int .i64 ub, .int .i64 mi, .slice A n1 c, .int .i64 up, .int .i64 dn, .int .i64 st, .int .i64 idl, .int .i64 sp, .int .i64 on] 30)) (.cells #[.int .i64 bus, .slice A' n2 c'] 33)
  have jj := blk_new (w.alloc (.cells #[.int .i64 ub, .int .i64 mi, .slice A n1 c, .int .i64 up, .int .i64 dn, .int .i64 st, .int .i64 idl, .int .i64 sp, .int .i64 on] 30)) (.cells #[.int .i64 bus, .slice A' n2 c'] 33)
  rw [World.size_alloc] at jj
  have hgb : (w.heap.size + 1) ≠ w.heap.size := by omega
  have hbg : w.heap.size ≠ (w.heap.size + 1) := by omega
  have hk0 := blk_cell kk 0; have hk1 := blk_cell kk 1; have hk2 := blk_cell kk 2; have hk3 := blk_cell kk 3; have hk4 := blk_cell kk 4; have hk5 := blk_cell kk 5; have hk6 := blk_cell kk 6; have hk7 := blk_cell kk 7; have hk8 := blk_cell kk 8
  have hj0 := blk_cell jj 0; have hj1 := blk_cell jj 1
  cases b0 with
  | true =>
    go_enter Try.func7, Try.ntmps7
    go_wp2_with (first | (go_at_call_of 15 (Value.slice A n1 c); refine (HL.out _ hB).mono ?_; rintro e w1 ⟨rfl, hb⟩; replace hB := below_step hB hb; replace kk := blk_below kk hb; replace jj := blk_below jj hb; replace hk0 := blk_cell kk 0; replace hk1 := blk_cell kk 1; replace hk2 := blk_cell kk 2; replace hk3 := blk_cell kk 3; replace hk4 := blk_cell kk 4; replace hk5 := blk_cell kk 5; replace hk6 := blk_cell kk 6; replace hk7 := blk_cell kk 7; replace hk8 := blk_cell kk 8; replace hj0 := blk_cell jj 0; replace hj1 := blk_cell jj 1; clear hb) | (go_at_call 8; refine (HA.out _).mono ?_; rintro e w3 ⟨rfl, hb⟩; replace hB := below_step hB hb; replace kk := blk_below kk hb; replace jj := blk_below jj hb; replace hk0 := blk_cell kk 0; replace hk1 := blk_cell kk 1; replace hk2 := blk_cell kk 2; replace hk3 := blk_cell kk 3; replace hk4 := blk_cell kk 4; replace hk5 := blk_cell kk 5; replace hk6 := blk_cell kk 6; replace hk7 := blk_cell kk 7; replace hk8 := blk_cell kk 8; replace hj0 := blk_cell jj 0; replace hj1 := blk_cell jj 1; clear hb))
    go_ret
    exact ⟨rfl, hB⟩
  | false =>
    have HN1 := Lib.hid (HNn.out rfl)
    cases b1 with
    | true =>
      go_enter Try.func7, Try.ntmps7
      go_wp2_with (first | (go_at_call_of 15 (Value.slice A' n2 c'); refine (HM.out _ hB).mono ?_; rintro e w2 ⟨rfl, hb⟩; replace hB := below_step hB hb; replace kk := blk_below kk hb; replace jj := blk_below jj hb; replace hk0 := blk_cell kk 0; replace hk1 := blk_cell kk 1; replace hk2 := blk_cell kk 2; replace hk3 := blk_cell kk 3; replace hk4 := blk_cell kk 4; replace hk5 := blk_cell kk 5; replace hk6 := blk_cell kk 6; replace hk7 := blk_cell kk 7; replace hk8 := blk_cell kk 8; replace hj0 := blk_cell jj 0; replace hj1 := blk_cell jj 1; clear hb) | (go_at_call_of 15 (Value.slice A n1 c); refine (HL.out _ hB).mono ?_; rintro e w1 ⟨rfl, hb⟩; replace hB := below_step hB hb; replace kk := blk_below kk hb; replace jj := blk_below jj hb; replace hk0 := blk_cell kk 0; replace hk1 := blk_cell kk 1; replace hk2 := blk_cell kk 2; replace hk3 := blk_cell kk 3; replace hk4 := blk_cell kk 4; replace hk5 := blk_cell kk 5; replace hk6 := blk_cell kk 6; replace hk7 := blk_cell kk 7; replace hk8 := blk_cell kk 8; replace hj0 := blk_cell jj 0; replace hj1 := blk_cell jj 1; clear hb) | (go_at_call 8; refine (HA.out _).mono ?_; rintro e w3 ⟨rfl, hb⟩; replace hB := below_step hB hb; replace kk := blk_below kk hb; replace jj := blk_below jj hb; replace hk0 := blk_cell kk 0; replace hk1 := blk_cell kk 1; replace hk2 := blk_cell kk 2; replace hk3 := blk_cell kk 3; replace hk4 := blk_cell kk 4; replace hk5 := blk_cell kk 5; replace hk6 := blk_cell kk 6; replace hk7 := blk_cell kk 7; replace hk8 := blk_cell kk 8; replace hj0 := blk_cell jj 0; replace hj1 := blk_cell jj 1; clear hb))
      go_ret
      exact ⟨rfl, hB⟩
    | false =>
      have HN0 := Lib.hid (HNo.out rfl)
      have K1 : (F1 = 0 ∧ wrap64 (11 + wrap64 (4 * (n1 : Int))) = (n3 : Int)) ∨ ((F1 == 0) = false ∧ (F1 != 0) = true) := by
        by_cases e : F1 = 0
        · exact .inl ⟨e, HX1.out e⟩
        · exact .inr ⟨beq_eq_false_iff_ne.2 e, bne_iff_ne.2 e⟩
      have K2 : (F2 = 0 ∧ wrap64 (4 + wrap64 (4 * (n2 : Int))) = (n4 : Int)) ∨ ((F2 == 0) = false ∧ (F2 != 0) = true) := by
        by_cases e : F2 = 0
        · exact .inl ⟨e, HX2.out e⟩
        · exact .inr ⟨beq_eq_false_iff_ne.2 e, bne_iff_ne.2 e⟩
      rcases K1 with ⟨rfl, q1⟩ | ⟨q1, q1'⟩
      all_goals rcases K2 with ⟨rfl, q2⟩ | ⟨q2, q2'⟩
      all_goals clear HX1 HX2
      all_goals try rw [if_pos rfl] at HU
      all_goals try rw [if_pos rfl] at HB
      all_goals go_enter Try.func7, Try.ntmps7
      all_goals go_wp2_with (first | (go_at_call_of 21 (Value.slice A4 n4 c4); refine (HF2.out (by trivial) _ A4 c4 hC4 hc4).mono ?_; rintro e w9 ⟨rfl, hb⟩; replace hB := below_step hB hb; replace kk := blk_below kk hb; replace jj := blk_below jj hb; replace hk0 := blk_cell kk 0; replace hk1 := blk_cell kk 1; replace hk2 := blk_cell kk 2; replace hk3 := blk_cell kk 3; replace hk4 := blk_cell kk 4; replace hk5 := blk_cell kk 5; replace hk6 := blk_cell kk 6; replace hk7 := blk_cell kk 7; replace hk8 := blk_cell kk 8; replace hj0 := blk_cell jj 0; replace hj1 := blk_cell jj 1; clear hb) | (go_at_call_of 20 (Value.string S2); refine (HA2.out (by trivial) _).mono ?_; rintro e w8 ⟨A4, c4, rfl, hc4, hC4, hb⟩; replace hB := below_step hB hb; replace kk := blk_below kk hb; replace jj := blk_below jj hb; replace hk0 := blk_cell kk 0; replace hk1 := blk_cell kk 1; replace hk2 := blk_cell kk 2; replace hk3 := blk_cell kk 3; replace hk4 := blk_cell kk 4; replace hk5 := blk_cell kk 5; replace hk6 := blk_cell kk 6; replace hk7 := blk_cell kk 7; replace hk8 := blk_cell kk 8; replace hj0 := blk_cell jj 0; replace hj1 := blk_cell jj 1; clear hb) | (go_at_call_of 21 (Value.slice A3 n3 c3); refine (HF1.out (by trivial) _ A3 c3 hC3 hc3).mono ?_; rintro e w7 ⟨rfl, hb⟩; replace hB := below_step hB hb; replace kk := blk_below kk hb; replace jj := blk_below jj hb; replace hk0 := blk_cell kk 0; replace hk1 := blk_cell kk 1; replace hk2 := blk_cell kk 2; replace hk3 := blk_cell kk 3; replace hk4 := blk_cell kk 4; replace hk5 := blk_cell kk 5; replace hk6 := blk_cell kk 6; replace hk7 := blk_cell kk 7; replace hk8 := blk_cell kk 8; replace hj0 := blk_cell jj 0; replace hj1 := blk_cell jj 1; clear hb) | (go_at_call_of 20 (Value.string S1); refine (HA1.out (by trivial) _).mono ?_; rintro e w6 ⟨A3, c3, rfl, hc3, hC3, hb⟩; replace hB := below_step hB hb; replace kk := blk_below kk hb; replace jj := blk_below jj hb; replace hk0 := blk_cell kk 0; replace hk1 := blk_cell kk 1; replace hk2 := blk_cell kk 2; replace hk3 := blk_cell kk 3; replace hk4 := blk_cell kk 4; replace hk5 := blk_cell kk 5; replace hk6 := blk_cell kk 6; replace hk7 := blk_cell kk 7; replace hk8 := blk_cell kk 8; replace hj0 := blk_cell jj 0; replace hj1 := blk_cell jj 1; clear hb) | (go_at_call_of 13 (Value.agg #[.int .i64 bus, .slice A' n2 c']); refine (HB.out _ hB HN0.out).mono ?_; rintro e w5 ⟨rfl, hb⟩; replace hB := below_step hB hb; replace kk := blk_below kk hb; replace jj := blk_below jj hb; replace hk0 := blk_cell kk 0; replace hk1 := blk_cell kk 1; replace hk2 := blk_cell kk 2; replace hk3 := blk_cell kk 3; replace hk4 := blk_cell kk 4; replace hk5 := blk_cell kk 5; replace hk6 := blk_cell kk 6; replace hk7 := blk_cell kk 7; replace hk8 := blk_cell kk 8; replace hj0 := blk_cell jj 0; replace hj1 := blk_cell jj 1; clear hb) | (go_at_call_of 12 (Value.agg #[.int .i64 ub, .int .i64 mi, .slice A n1 c, .int .i64 up, .int .i64 dn, .int .i64 st, .int .i64 idl, .int .i64 sp, .int .i64 on]); refine (HU.out _ hB HN1.out).mono ?_; rintro e w4 ⟨rfl, hb⟩; replace hB := below_step hB hb; replace kk := blk_below kk hb; replace jj := blk_below jj hb; replace hk0 := blk_cell kk 0; replace hk1 := blk_cell kk 1; replace hk2 := blk_cell kk 2; replace hk3 := blk_cell kk 3; replace hk4 := blk_cell kk 4; replace hk5 := blk_cell kk 5; replace hk6 := blk_cell kk 6; replace hk7 := blk_cell kk 7; replace hk8 := blk_cell kk 8; replace hj0 := blk_cell jj 0; replace hj1 := blk_cell jj 1; clear hb) | (go_at_call 8; refine (HA.out _).mono ?_; rintro e w3 ⟨rfl, hb⟩; replace hB := below_step hB hb; replace kk := blk_below kk hb; replace jj := blk_below jj hb; replace hk0 := blk_cell kk 0; replace hk1 := blk_cell kk 1; replace hk2 := blk_cell kk 2; replace hk3 := blk_cell kk 3; replace hk4 := blk_cell kk 4; replace hk5 := blk_cell kk 5; replace hk6 := blk_cell kk 6; replace hk7 := blk_cell kk 7; replace hk8 := blk_cell kk 8; replace hj0 := blk_cell jj 0; replace hj1 := blk_cell jj 1; clear hb) | (go_at_call_of 15 (Value.slice A' n2 c'); refine (HM.out _ hB).mono ?_; rintro e w2 ⟨rfl, hb⟩; replace hB := below_step hB hb; replace kk := blk_below kk hb; replace jj := blk_below jj hb; replace hk0 := blk_cell kk 0; replace hk1 := blk_cell kk 1; replace hk2 := blk_cell kk 2; replace hk3 := blk_cell kk 3; replace hk4 := blk_cell kk 4; replace hk5 := blk_cell kk 5; replace hk6 := blk_cell kk 6; replace hk7 := blk_cell kk 7; replace hk8 := blk_cell kk 8; replace hj0 := blk_cell jj 0; replace hj1 := blk_cell jj 1; clear hb) | (go_at_call_of 15 (Value.slice A n1 c); refine (HL.out _ hB).mono ?_; rintro e w1 ⟨rfl, hb⟩; replace hB := below_step hB hb; replace kk := blk_below kk hb; replace jj := blk_below jj hb; replace hk0 := blk_cell kk 0; replace hk1 := blk_cell kk 1; replace hk2 := blk_cell kk 2; replace hk3 := blk_cell kk 3; replace hk4 := blk_cell kk 4; replace hk5 := blk_cell kk 5; replace hk6 := blk_cell kk 6; replace hk7 := blk_cell kk 7; replace hk8 := blk_cell kk 8; replace hj0 := blk_cell jj 0; replace hj1 := blk_cell jj 1; clear hb))
      all_goals go_ret
      all_goals exact ⟨rfl, hB⟩
end Ar
end Go.Proofs.Ytnghcgmkncbnnaa
end
