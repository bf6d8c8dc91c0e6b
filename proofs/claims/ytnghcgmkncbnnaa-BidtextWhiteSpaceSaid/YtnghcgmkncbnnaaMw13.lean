/- Part 13 of the proof: Package bidtext: what is formatted is parsed as it was; what is parsed is right; every text is read rightly. -/
import Derived.Test.YtnghcgmkncbnnaaMw11
import Derived.Test.YtnghcgmkncbnnaaMw12
set_option linter.unusedVariables false
set_option linter.unusedSimpArgs false
section
namespace Go.Proofs.Ytnghcgmkncbnnaa
open Go.RowKit Go.Proofs.YtnghcgmkncbnnaaW.PrintWords Go.Proofs.YtnghcgmkncbnnaaW.PrintLast Go.Proofs.YtnghcgmkncbnnaaW.PrintMore
namespace Ar
open Wd
theorem zOf_len (s : ByteArray) : (digs (zOf s).natAbs).length < 1048570 := by
  unfold zOf
  rw [(sg_sign _ _).2]
  unfold pMag
  split
  · decide
  · rename_i hl
    split
    · decide
    · split
      · decide
      · split
        · next h => have := decN_digs h; dsimp only; omega
        · decide
theorem pD_len (s : ByteArray) : (digs (pD s).natAbs).length < 1048570 := by
  unfold pD
  split
  · exact zOf_len _
  · decide
theorem good_any (s : ByteArray) : Good s (fun _ => True) := fun _ _ => ⟨fun _ _ _ _ _ _ hv => IsCanQ_all hv (zOf_len _) (pD_len _), fun _ => trivial⟩
theorem outU_ok {u : Un} {e : Int} (h : checkU u = 0) : outU u (e, 0) = (u, e, 0) := by
  unfold outU
  rw [if_neg (fun g => g rfl), if_neg (fun g => g h)]
theorem outB_ok {bus : Int} {l : List Stp} {e : Int} (h : checkB bus l = 0) : outB bus l (e, 0) = ((bus, l), e, 0) := by
  unfold outB
  rw [if_neg (fun g => g rfl), if_neg (fun g => g h)]
theorem unText_len (u : Un) (h : u.steps.length ≤ 100) : (unText u).size ≤ 20000 := by
  have h1 := flat_le nT_len (unNums u)
  have h2 := flat_le sT_len u.steps
  have h3 : (unNums u).length = 8 := rfl
  rw [← bs_len]
  show (fmtTo (showT unitB (unNums u) u.steps) (showT unitB (unNums u) u.steps).length).length ≤ _
  rw [show_text]
  simp only [List.length_append, List.length_cons, List.length_nil]
  have h4 : unitB.data.toList.length = 4 := rfl
  omega
theorem biText_len (bus : Int) (l : List Stp) (h : l.length ≤ 100) : (biText bus l).size ≤ 20000 := by
  have h1 := flat_le nT_len [bus]
  have h2 := flat_le sT_len l
  have h3 : [bus].length = 1 := rfl
  rw [← bs_len]
  show (fmtTo (showT bidB [bus] l) (showT bidB [bus] l).length).length ≤ _
  rw [show_text]
  simp only [List.length_append, List.length_cons, List.length_nil]
  have h4 : bidB.data.toList.length = 3 := rfl
  omega
theorem unText_len3 (u : Un) (h : u.steps.length ≤ 3) : (unText u).size ≤ 2000 := by
  have h1 := flat_le nT_len (unNums u)
  have h2 := flat_le sT_len u.steps
  have h3 : (unNums u).length = 8 := rfl
  rw [← bs_len]
  show (fmtTo (showT unitB (unNums u) u.steps) (showT unitB (unNums u) u.steps).length).length ≤ _
  rw [show_text]
  simp only [List.length_append, List.length_cons, List.length_nil]
  have h4 : unitB.data.toList.length = 4 := rfl
  omega
theorem biText_len3 (bus : Int) (l : List Stp) (h : l.length ≤ 3) : (biText bus l).size ≤ 2000 := by
  have h1 := flat_le nT_len [bus]
  have h2 := flat_le sT_len l
  have h3 : [bus].length = 1 := rfl
  rw [← bs_len]
  show (fmtTo (showT bidB [bus] l) (showT bidB [bus] l).length).length ≤ _
  rw [show_text]
  simp only [List.length_append, List.length_cons, List.length_nil]
  have h4 : bidB.data.toList.length = 3 := rfl
  omega
theorem tn_all {u : Un} (h : checkU u = 0) : (∀ n ∈ unNums u, i64r n) ∧ (∀ s ∈ u.steps, i64r s.f0 ∧ i64r s.f1) ∧ u.steps.length ≤ 3 := by
  obtain ⟨h1, h2, h3⟩ := checkU_ok h
  exact ⟨fun n hn => tn_i64 (h1 n hn), fun s hs => ⟨tn_i64 (h2 s hs).1, tn_i64 (h2 s hs).2⟩, h3⟩
theorem tn_allB {bus : Int} {l : List Stp} (h : checkB bus l = 0) : i64r bus ∧ (∀ s ∈ l, i64r s.f0 ∧ i64r s.f1) ∧ l.length ≤ 3 := by
  obtain ⟨h1, h2, h3⟩ := checkB_ok h
  exact ⟨tn_i64 h1, fun s hs => ⟨tn_i64 (h2 s hs).1, tn_i64 (h2 s hs).2⟩, h3⟩
end Ar
end Go.Proofs.Ytnghcgmkncbnnaa
end
