/- Part 13 of the proof: Package bidtext: what is formatted is parsed as it was; what is parsed is right; every text is read rightly. The chapter's examples: the texts, parsed. The law BidtextExamples: the walk. -/
import Derived.Test.YtnghcgmkncbnnaaMx11
import Derived.Test.YtnghcgmkncbnnaaMx12
set_option linter.unusedVariables false
set_option linter.unusedSimpArgs false
section
namespace Go.Proofs.Ytnghcgmkncbnnaa
open Go.RowKit Go.Proofs.YtnghcgmkncbnnaaW.PrintWords Go.Proofs.YtnghcgmkncbnnaaW.PrintLast Go.Proofs.YtnghcgmkncbnnaaW.PrintMore
namespace Ar
open Wd
theorem zOf_len (s : ByteArray) : (digs (zOf s).natAbs).length < 1048570 := by
  unfold zOf
  rw [(sg_sign _ _).2]
  unfold pMag
  split
  · decide
  · rename_i hl
    split
    · decide
    · split
      · decide
      · split
        · next h => have := decN_digs h; dsimp only; omega
        · decide
theorem pD_len (s : ByteArray) : (digs (pD s).natAbs).length < 1048570 := by
  unfold pD
  split
  · exact zOf_len _
  · decide
theorem good_any (s : ByteArray) : Good s (fun _ => True) := fun _ _ => ⟨fun _ _ _ _ _ _ hv => IsCanQ_all hv (zOf_len _) (pD_len _), fun _ => trivial⟩
end Ar
end Go.Proofs.Ytnghcgmkncbnnaa
end
section
namespace Go.Proofs.Ytnghcgmkncbnnaa
open Go.RowKit Go.Proofs.YtnghcgmkncbnnaaW.PrintWords Go.Proofs.YtnghcgmkncbnnaaW.PrintLast Go.Proofs.YtnghcgmkncbnnaaW.PrintMore
namespace Ar
open Wd
theorem parseU_long {s : ByteArray} (h : 65536 < s.size) : parseU s 0 = (zeroU, 0, 5) := by
  have h1 : takeS s 1 (0, 0) = (0, 5) := by
    unfold takeS expS nextS
    simp only [if_pos h]
    rfl
  unfold parseU rdunit
  rw [h1]
  rfl
def exuT (T : ByteArray) : Nat → ByteArray
  | 0 => ⟨#[]⟩
  | 1 => ⟨#[32, 32, 10]⟩
  | 2 => ⟨#[117, 110, 105, 116]⟩
  | 3 => ⟨#[40]⟩
  | 4 => ⟨#[40, 41]⟩
  | 5 => ⟨#[40, 98, 105, 100, 32, 48, 32, 50, 41]⟩
  | 6 => ⟨#[40, 117, 110, 105, 116]⟩
  | 7 => ⟨#[40, 117, 110, 105, 116, 32, 40]⟩
  | 8 => ⟨#[40, 117, 110, 105, 116, 32, 120]⟩
  | 9 => ⟨#[40, 117, 110, 105, 116, 32, 48, 32, 50, 41]⟩
  | 10 => ⟨#[40, 117, 110, 105, 116, 32, 48, 32, 50, 32, 50, 32, 50, 32, 53, 32, 51, 32, 48, 32, 45, 49, 41]⟩
  | 11 => ⟨#[40, 117, 110, 105, 116, 32, 48, 32, 50, 32, 50, 32, 50, 32, 53, 32, 51, 32, 48, 32, 45, 49]⟩
  | 12 => ⟨#[40, 117, 110, 105, 116, 32, 48, 32, 50, 32, 50, 32, 50, 32, 53, 32, 51, 32, 48, 32, 45, 49, 32, 53, 32, 49, 41]⟩
  | 13 => ⟨#[40, 117, 110, 105, 116, 32, 48, 32, 50, 32, 50, 32, 50, 32, 53, 32, 51, 32, 48, 32, 45, 49, 32, 40, 53, 41, 41]⟩
  | 14 => ⟨#[40, 117, 110, 105, 116, 32, 48, 32, 50, 32, 50, 32, 50, 32, 53, 32, 51, 32, 48, 32, 45, 49, 32, 40, 53, 32, 49, 32, 50, 41, 41]⟩
  | 15 => ⟨#[40, 117, 110, 105, 116, 32, 48, 32, 50, 32, 50, 32, 50, 32, 53, 32, 51, 32, 48, 32, 45, 49, 32, 40, 53, 32, 49, 41]⟩
  | 16 => ⟨#[40, 117, 110, 105, 116, 32, 48, 32, 50, 32, 50, 32, 50, 32, 53, 32, 51, 32, 48, 32, 45, 49, 32, 40, 53, 32, 49, 41, 32, 48, 48, 55, 41]⟩
  | 17 => ⟨#[40, 117, 110, 105, 116, 32, 48, 32, 50, 32, 50, 32, 50, 32, 53, 32, 51, 32, 48, 32, 45, 49, 32, 40, 53, 32, 49, 41, 32, 40, 52, 32, 49, 41, 41]⟩
  | 18 => ⟨#[40, 117, 110, 105, 116, 32, 54, 32, 50, 32, 50, 32, 50, 32, 53, 32, 51, 32, 48, 32, 45, 49, 32, 40, 53, 32, 49, 41, 32, 40, 52, 32, 51, 41, 41]⟩
  | 19 => ⟨#[40, 117, 110, 105, 116, 32, 48, 32, 50, 32, 50, 32, 50, 32, 53, 32, 51, 32, 48, 32, 48, 32, 40, 53, 32, 49, 41, 32, 40, 52, 32, 51, 41, 41]⟩
  | 20 => ⟨#[40, 117, 110, 105, 116, 32, 48, 32, 50, 32, 50, 32, 50, 32, 53, 32, 51, 32, 48, 32, 49, 47, 50, 32, 40, 53, 32, 49, 41, 32, 40, 52, 32, 51, 41, 41]⟩
  | 21 => ⟨#[40, 117, 110, 105, 116, 32, 48, 32, 57, 50, 50, 51, 51, 55, 50, 48, 51, 54, 56, 53, 52, 55, 55, 53, 56, 48, 56, 32, 50, 32, 50, 32, 53, 32, 51, 32, 48, 32, 45, 49, 32, 40, 53, 32, 49, 41, 41]⟩
  | 22 => ⟨#[40, 117, 110, 105, 116, 32, 48, 32, 50, 32, 50, 32, 50, 32, 53, 32, 51, 32, 48, 32, 45, 49, 32, 40, 53, 32, 49, 41, 32, 40, 52, 32, 51, 41, 32, 40, 49, 32, 52, 41, 32, 40, 49, 32, 53, 41, 41]⟩
  | 23 => ⟨#[40, 117, 110, 105, 116, 32, 48, 32, 50, 32, 50, 32, 50, 32, 53, 32, 51, 32, 48, 32, 45, 49, 32, 40, 53, 32, 49, 41, 32, 120, 41]⟩
  | 24 => T
  | 25 => ⟨#[40, 117, 110, 105, 116, 32, 48, 32, 50, 32, 50, 32, 50, 32, 53, 32, 51, 32, 48, 32, 45, 49, 32, 40, 53, 32, 49, 93, 32, 41]⟩
  | _ => ⟨#[]⟩
def exuE : Nat → Int
  | 0 => 4
  | 1 => 4
  | 2 => 3
  | 3 => 4
  | 4 => 3
  | 5 => 3
  | 6 => 4
  | 7 => 3
  | 8 => 3
  | 9 => 3
  | 10 => 4
  | 11 => 4
  | 12 => 3
  | 13 => 3
  | 14 => 3
  | 15 => 4
  | 16 => 3
  | 17 => 3
  | 18 => 1
  | 19 => 1
  | 20 => 1
  | 21 => 1
  | 22 => 5
  | 23 => 3
  | 24 => 5
  | 25 => 3
  | _ => 0
abbrev exuC (T : ByteArray) : Array Value := #[.string ⟨#[]⟩, .int .i64 4, .string ⟨#[32, 32, 10]⟩, .int .i64 4, .string ⟨#[117, 110, 105, 116]⟩, .int .i64 3, .string ⟨#[40]⟩, .int .i64 4, .string ⟨#[40, 41]⟩, .int .i64 3, .string ⟨#[40, 98, 105, 100, 32, 48, 32, 50, 41]⟩, .int .i64 3, .string ⟨#[40, 117, 110, 105, 116]⟩, .int .i64 4, .string ⟨#[40, 117, 110, 105, 116, 32, 40]⟩, .int .i64 3, .string ⟨#[40, 117, 110, 105, 116, 32, 120]⟩, .int .i64 3, .string ⟨#[40, 117, 110, 105, 116, 32, 48, 32, 50, 41]⟩, .int .i64 3, .string ⟨#[40, 117, 110, 105, 116, 32, 48, 32, 50, 32, 50, 32, 50, 32, 53, 32, 51, 32, 48, 32, 45, 49, 41]⟩, .int .i64 4, .string ⟨#[40, 117, 110, 105, 116, 32, 48, 32, 50, 32, 50, 32, 50, 32, 53, 32, 51, 32, 48, 32, 45, 49]⟩, .int .i64 4, .string ⟨#[40, 117, 110, 105, 116, 32, 48, 32, 50, 32, 50, 32, 50, 32, 53, 32, 51, 32, 48, 32, 45, 49, 32, 53, 32, 49, 41]⟩, .int .i64 3, .string ⟨#[40, 117, 110, 105, 116, 32, 48, 32, 50, 32, 50, 32, 50, 32, 53, 32, 51, 32, 48, 32, 45, 49, 32, 40, 53, 41, 41]⟩, .int .i64 3, .string ⟨#[40, 117, 110, 105, 116, 32, 48, 32, 50, 32, 50, 32, 50, 32, 53, 32, 51, 32, 48, 32, 45, 49, 32, 40, 53, 32, 49, 32, 50, 41, 41]⟩, .int .i64 3, .string ⟨#[40, 117, 110, 105, 116, 32, 48, 32, 50, 32, 50, 32, 50, 32, 53, 32, 51, 32, 48, 32, 45, 49, 32, 40, 53, 32, 49, 41]⟩, .int .i64 4, .string ⟨#[40, 117, 110, 105, 116, 32, 48, 32, 50, 32, 50, 32, 50, 32, 53, 32, 51, 32, 48, 32, 45, 49, 32, 40, 53, 32, 49, 41, 32, 48, 48, 55, 41]⟩, .int .i64 3, .string ⟨#[40, 117, 110, 105, 116, 32, 48, 32, 50, 32, 50, 32, 50, 32, 53, 32, 51, 32, 48, 32, 45, 49, 32, 40, 53, 32, 49, 41, 32, 40, 52, 32, 49, 41, 41]⟩, .int .i64 3, .string ⟨#[40, 117, 110, 105, 116, 32, 54, 32, 50, 32, 50, 32, 50, 32, 53, 32, 51, 32, 48, 32, 45, 49, 32, 40, 53, 32, 49, 41, 32, 40, 52, 32, 51, 41, 41]⟩, .int .i64 1, .string ⟨#[40, 117, 110, 105, 116, 32, 48, 32, 50, 32, 50, 32, 50, 32, 53, 32, 51, 32, 48, 32, 48, 32, 40, 53, 32, 49, 41, 32, 40, 52, 32, 51, 41, 41]⟩, .int .i64 1, .string ⟨#[40, 117, 110, 105, 116, 32, 48, 32, 50, 32, 50, 32, 50, 32, 53, 32, 51, 32, 48, 32, 49, 47, 50, 32, 40, 53, 32, 49, 41, 32, 40, 52, 32, 51, 41, 41]⟩, .int .i64 1, .string ⟨#[40, 117, 110, 105, 116, 32, 48, 32, 57, 50, 50, 51, 51, 55, 50, 48, 51, 54, 56, 53, 52, 55, 55, 53, 56, 48, 56, 32, 50, 32, 50, 32, 53, 32, 51, 32, 48, 32, 45, 49, 32, 40, 53, 32, 49, 41, 41]⟩, .int .i64 1, .string ⟨#[40, 117, 110, 105, 116, 32, 48, 32, 50, 32, 50, 32, 50, 32, 53, 32, 51, 32, 48, 32, 45, 49, 32, 40, 53, 32, 49, 41, 32, 40, 52, 32, 51, 41, 32, 40, 49, 32, 52, 41, 32, 40, 49, 32, 53, 41, 41]⟩, .int .i64 5, .string ⟨#[40, 117, 110, 105, 116, 32, 48, 32, 50, 32, 50, 32, 50, 32, 53, 32, 51, 32, 48, 32, 45, 49, 32, 40, 53, 32, 49, 41, 32, 120, 41]⟩, .int .i64 3, .string T, .int .i64 5, .string ⟨#[40, 117, 110, 105, 116, 32, 48, 32, 50, 32, 50, 32, 50, 32, 53, 32, 51, 32, 48, 32, 45, 49, 32, 40, 53, 32, 49, 93, 32, 41]⟩, .int .i64 3]
theorem exu_p0 : parseU ⟨#[]⟩ 0 = (zeroU, 0, 4) := by kernel_rfl
theorem exu_p1 : parseU ⟨#[32, 32, 10]⟩ 0 = (zeroU, 0, 4) := by kernel_rfl
theorem exu_p2 : parseU ⟨#[117, 110, 105, 116]⟩ 0 = (zeroU, 0, 3) := by kernel_rfl
theorem exu_p3 : parseU ⟨#[40]⟩ 0 = (zeroU, 0, 4) := by kernel_rfl
theorem exu_p4 : parseU ⟨#[40, 41]⟩ 0 = (zeroU, 0, 3) := by kernel_rfl
theorem exu_p5 : parseU ⟨#[40, 98, 105, 100, 32, 48, 32, 50, 41]⟩ 0 = (zeroU, 0, 3) := by kernel_rfl
theorem exu_p6 : parseU ⟨#[40, 117, 110, 105, 116]⟩ 0 = (zeroU, 0, 4) := by kernel_rfl
theorem exu_p7 : parseU ⟨#[40, 117, 110, 105, 116, 32, 40]⟩ 0 = (zeroU, 0, 3) := by kernel_rfl
theorem exu_p8 : parseU ⟨#[40, 117, 110, 105, 116, 32, 120]⟩ 0 = (zeroU, 0, 3) := by kernel_rfl
theorem exu_p9 : parseU ⟨#[40, 117, 110, 105, 116, 32, 48, 32, 50, 41]⟩ 0 = (zeroU, 0, 3) := by kernel_rfl
theorem exu_p10 : parseU ⟨#[40, 117, 110, 105, 116, 32, 48, 32, 50, 32, 50, 32, 50, 32, 53, 32, 51, 32, 48, 32, 45, 49, 41]⟩ 0 = (zeroU, 0, 4) := by kernel_rfl
theorem exu_p11 : parseU ⟨#[40, 117, 110, 105, 116, 32, 48, 32, 50, 32, 50, 32, 50, 32, 53, 32, 51, 32, 48, 32, 45, 49]⟩ 0 = (zeroU, 0, 4) := by kernel_rfl
theorem exu_p12 : parseU ⟨#[40, 117, 110, 105, 116, 32, 48, 32, 50, 32, 50, 32, 50, 32, 53, 32, 51, 32, 48, 32, 45, 49, 32, 53, 32, 49, 41]⟩ 0 = (zeroU, 0, 3) := by kernel_rfl
theorem exu_p13 : parseU ⟨#[40, 117, 110, 105, 116, 32, 48, 32, 50, 32, 50, 32, 50, 32, 53, 32, 51, 32, 48, 32, 45, 49, 32, 40, 53, 41, 41]⟩ 0 = (zeroU, 0, 3) := by kernel_rfl
theorem exu_p14 : parseU ⟨#[40, 117, 110, 105, 116, 32, 48, 32, 50, 32, 50, 32, 50, 32, 53, 32, 51, 32, 48, 32, 45, 49, 32, 40, 53, 32, 49, 32, 50, 41, 41]⟩ 0 = (zeroU, 0, 3) := by kernel_rfl
theorem exu_p15 : parseU ⟨#[40, 117, 110, 105, 116, 32, 48, 32, 50, 32, 50, 32, 50, 32, 53, 32, 51, 32, 48, 32, 45, 49, 32, 40, 53, 32, 49, 41]⟩ 0 = (zeroU, 0, 4) := by kernel_rfl
theorem exu_p16 : parseU ⟨#[40, 117, 110, 105, 116, 32, 48, 32, 50, 32, 50, 32, 50, 32, 53, 32, 51, 32, 48, 32, 45, 49, 32, 40, 53, 32, 49, 41, 32, 48, 48, 55, 41]⟩ 0 = (zeroU, 0, 3) := by kernel_rfl
theorem exu_p17 : parseU ⟨#[40, 117, 110, 105, 116, 32, 48, 32, 50, 32, 50, 32, 50, 32, 53, 32, 51, 32, 48, 32, 45, 49, 32, 40, 53, 32, 49, 41, 32, 40, 52, 32, 49, 41, 41]⟩ 0 = (zeroU, 0, 3) := by kernel_rfl
theorem exu_p18 : parseU ⟨#[40, 117, 110, 105, 116, 32, 54, 32, 50, 32, 50, 32, 50, 32, 53, 32, 51, 32, 48, 32, 45, 49, 32, 40, 53, 32, 49, 41, 32, 40, 52, 32, 51, 41, 41]⟩ 0 = (zeroU, 0, 1) := by kernel_rfl
theorem exu_p19 : parseU ⟨#[40, 117, 110, 105, 116, 32, 48, 32, 50, 32, 50, 32, 50, 32, 53, 32, 51, 32, 48, 32, 48, 32, 40, 53, 32, 49, 41, 32, 40, 52, 32, 51, 41, 41]⟩ 0 = (zeroU, 0, 1) := by kernel_rfl
theorem exu_p20 : parseU ⟨#[40, 117, 110, 105, 116, 32, 48, 32, 50, 32, 50, 32, 50, 32, 53, 32, 51, 32, 48, 32, 49, 47, 50, 32, 40, 53, 32, 49, 41, 32, 40, 52, 32, 51, 41, 41]⟩ 0 = (zeroU, 0, 1) := by kernel_rfl
theorem exu_p21 : parseU ⟨#[40, 117, 110, 105, 116, 32, 48, 32, 57, 50, 50, 51, 51, 55, 50, 48, 51, 54, 56, 53, 52, 55, 55, 53, 56, 48, 56, 32, 50, 32, 50, 32, 53, 32, 51, 32, 48, 32, 45, 49, 32, 40, 53, 32, 49, 41, 41]⟩ 0 = (zeroU, 0, 1) := by kernel_rfl
theorem exu_p22 : parseU ⟨#[40, 117, 110, 105, 116, 32, 48, 32, 50, 32, 50, 32, 50, 32, 53, 32, 51, 32, 48, 32, 45, 49, 32, 40, 53, 32, 49, 41, 32, 40, 52, 32, 51, 41, 32, 40, 49, 32, 52, 41, 32, 40, 49, 32, 53, 41, 41]⟩ 0 = (zeroU, 0, 5) := by kernel_rfl
theorem exu_p23 : parseU ⟨#[40, 117, 110, 105, 116, 32, 48, 32, 50, 32, 50, 32, 50, 32, 53, 32, 51, 32, 48, 32, 45, 49, 32, 40, 53, 32, 49, 41, 32, 120, 41]⟩ 0 = (zeroU, 0, 3) := by kernel_rfl
theorem exu_p25 : parseU ⟨#[40, 117, 110, 105, 116, 32, 48, 32, 50, 32, 50, 32, 50, 32, 53, 32, 51, 32, 48, 32, 45, 49, 32, 40, 53, 32, 49, 93, 32, 41]⟩ 0 = (zeroU, 0, 3) := by kernel_rfl
theorem exu_p (T : ByteArray) (hT : 65536 < T.size) : ∀ i, i < 26 → parseU (exuT T i) 0 = (zeroU, 0, exuE i)
  | 0, _ => exu_p0
  | 1, _ => exu_p1
  | 2, _ => exu_p2
  | 3, _ => exu_p3
  | 4, _ => exu_p4
  | 5, _ => exu_p5
  | 6, _ => exu_p6
  | 7, _ => exu_p7
  | 8, _ => exu_p8
  | 9, _ => exu_p9
  | 10, _ => exu_p10
  | 11, _ => exu_p11
  | 12, _ => exu_p12
  | 13, _ => exu_p13
  | 14, _ => exu_p14
  | 15, _ => exu_p15
  | 16, _ => exu_p16
  | 17, _ => exu_p17
  | 18, _ => exu_p18
  | 19, _ => exu_p19
  | 20, _ => exu_p20
  | 21, _ => exu_p21
  | 22, _ => exu_p22
  | 23, _ => exu_p23
  | 24, _ => parseU_long hT
  | 25, _ => exu_p25
  | n + 26, h => absurd h (by omega)
theorem exu_s (T : ByteArray) (hT : T.size < 1048576) : ∀ i, i < 26 → (exuT T i).size < 1048576
  | 0, _ => show (0 : Nat) < 1048576 by decide
  | 1, _ => show (3 : Nat) < 1048576 by decide
  | 2, _ => show (4 : Nat) < 1048576 by decide
  | 3, _ => show (1 : Nat) < 1048576 by decide
  | 4, _ => show (2 : Nat) < 1048576 by decide
  | 5, _ => show (9 : Nat) < 1048576 by decide
  | 6, _ => show (5 : Nat) < 1048576 by decide
  | 7, _ => show (7 : Nat) < 1048576 by decide
  | 8, _ => show (7 : Nat) < 1048576 by decide
  | 9, _ => show (10 : Nat) < 1048576 by decide
  | 10, _ => show (23 : Nat) < 1048576 by decide
  | 11, _ => show (22 : Nat) < 1048576 by decide
  | 12, _ => show (27 : Nat) < 1048576 by decide
  | 13, _ => show (27 : Nat) < 1048576 by decide
  | 14, _ => show (31 : Nat) < 1048576 by decide
  | 15, _ => show (28 : Nat) < 1048576 by decide
  | 16, _ => show (33 : Nat) < 1048576 by decide
  | 17, _ => show (35 : Nat) < 1048576 by decide
  | 18, _ => show (35 : Nat) < 1048576 by decide
  | 19, _ => show (34 : Nat) < 1048576 by decide
  | 20, _ => show (36 : Nat) < 1048576 by decide
  | 21, _ => show (47 : Nat) < 1048576 by decide
  | 22, _ => show (47 : Nat) < 1048576 by decide
  | 23, _ => show (31 : Nat) < 1048576 by decide
  | 24, _ => hT
  | 25, _ => show (30 : Nat) < 1048576 by decide
  | n + 26, h => absurd h (by omega)
theorem exu_c (T : ByteArray) : ∀ i, i < 26 → (exuC T)[i * 2]? = some (.string (exuT T i)) ∧ (exuC T)[i * 2 + 1]? = some (.int .i64 (exuE i))
  | 0, _ => ⟨rfl, rfl⟩
  | 1, _ => ⟨rfl, rfl⟩
  | 2, _ => ⟨rfl, rfl⟩
  | 3, _ => ⟨rfl, rfl⟩
  | 4, _ => ⟨rfl, rfl⟩
  | 5, _ => ⟨rfl, rfl⟩
  | 6, _ => ⟨rfl, rfl⟩
  | 7, _ => ⟨rfl, rfl⟩
  | 8, _ => ⟨rfl, rfl⟩
  | 9, _ => ⟨rfl, rfl⟩
  | 10, _ => ⟨rfl, rfl⟩
  | 11, _ => ⟨rfl, rfl⟩
  | 12, _ => ⟨rfl, rfl⟩
  | 13, _ => ⟨rfl, rfl⟩
  | 14, _ => ⟨rfl, rfl⟩
  | 15, _ => ⟨rfl, rfl⟩
  | 16, _ => ⟨rfl, rfl⟩
  | 17, _ => ⟨rfl, rfl⟩
  | 18, _ => ⟨rfl, rfl⟩
  | 19, _ => ⟨rfl, rfl⟩
  | 20, _ => ⟨rfl, rfl⟩
  | 21, _ => ⟨rfl, rfl⟩
  | 22, _ => ⟨rfl, rfl⟩
  | 23, _ => ⟨rfl, rfl⟩
  | 24, _ => ⟨rfl, rfl⟩
  | 25, _ => ⟨rfl, rfl⟩
  | n + 26, h => absurd h (by omega)
def exbT : Nat → ByteArray
  | 0 => ⟨#[]⟩
  | 1 => ⟨#[40, 117, 110, 105, 116, 32, 49, 32, 40, 52, 32, 50, 41, 41]⟩
  | 2 => ⟨#[40, 98, 105, 100, 41]⟩
  | 3 => ⟨#[40, 98, 105, 100, 32, 49, 41]⟩
  | 4 => ⟨#[40, 98, 105, 100, 32, 49]⟩
  | 5 => ⟨#[40, 98, 105, 100, 32, 49, 32, 40, 52, 32, 50, 41]⟩
  | 6 => ⟨#[40, 98, 105, 100, 32, 49, 32, 40, 52]⟩
  | 7 => ⟨#[40, 98, 105, 100, 32, 49, 32, 40, 52, 32, 50, 41, 32, 40, 52, 32, 57, 41, 41]⟩
  | 8 => ⟨#[40, 98, 105, 100, 32, 49, 47, 50, 32, 40, 52, 32, 50, 41, 41]⟩
  | 9 => ⟨#[40, 98, 105, 100, 32, 54, 32, 40, 52, 32, 50, 41, 41]⟩
  | 10 => ⟨#[40, 98, 105, 100, 32, 45, 49, 41]⟩
  | 11 => ⟨#[40, 98, 97, 100, 32, 49, 32, 40, 52, 32, 50, 41, 41]⟩
  | 12 => ⟨#[40, 98, 105, 100, 32, 49, 32, 40, 48, 32, 50, 41, 41]⟩
  | 13 => ⟨#[40, 98, 105, 100, 32, 49, 32, 40, 52, 32, 51, 41, 32, 40, 52, 32, 50, 41, 32, 40, 52, 32, 49, 41, 32, 40, 52, 32, 48, 41, 41]⟩
  | _ => ⟨#[]⟩
def exbE : Nat → Int
  | 0 => 4
  | 1 => 3
  | 2 => 3
  | 3 => 4
  | 4 => 4
  | 5 => 4
  | 6 => 4
  | 7 => 3
  | 8 => 1
  | 9 => 1
  | 10 => 1
  | 11 => 3
  | 12 => 1
  | 13 => 5
  | _ => 0
abbrev exbC : Array Value := #[.string ⟨#[]⟩, .int .i64 4, .string ⟨#[40, 117, 110, 105, 116, 32, 49, 32, 40, 52, 32, 50, 41, 41]⟩, .int .i64 3, .string ⟨#[40, 98, 105, 100, 41]⟩, .int .i64 3, .string ⟨#[40, 98, 105, 100, 32, 49, 41]⟩, .int .i64 4, .string ⟨#[40, 98, 105, 100, 32, 49]⟩, .int .i64 4, .string ⟨#[40, 98, 105, 100, 32, 49, 32, 40, 52, 32, 50, 41]⟩, .int .i64 4, .string ⟨#[40, 98, 105, 100, 32, 49, 32, 40, 52]⟩, .int .i64 4, .string ⟨#[40, 98, 105, 100, 32, 49, 32, 40, 52, 32, 50, 41, 32, 40, 52, 32, 57, 41, 41]⟩, .int .i64 3, .string ⟨#[40, 98, 105, 100, 32, 49, 47, 50, 32, 40, 52, 32, 50, 41, 41]⟩, .int .i64 1, .string ⟨#[40, 98, 105, 100, 32, 54, 32, 40, 52, 32, 50, 41, 41]⟩, .int .i64 1, .string ⟨#[40, 98, 105, 100, 32, 45, 49, 41]⟩, .int .i64 1, .string ⟨#[40, 98, 97, 100, 32, 49, 32, 40, 52, 32, 50, 41, 41]⟩, .int .i64 3, .string ⟨#[40, 98, 105, 100, 32, 49, 32, 40, 48, 32, 50, 41, 41]⟩, .int .i64 1, .string ⟨#[40, 98, 105, 100, 32, 49, 32, 40, 52, 32, 51, 41, 32, 40, 52, 32, 50, 41, 32, 40, 52, 32, 49, 41, 32, 40, 52, 32, 48, 41, 41]⟩, .int .i64 5]
theorem exb_p0 : parseB ⟨#[]⟩ 0 = ((0, []), 0, 4) := by kernel_rfl
theorem exb_p1 : parseB ⟨#[40, 117, 110, 105, 116, 32, 49, 32, 40, 52, 32, 50, 41, 41]⟩ 0 = ((0, []), 0, 3) := by kernel_rfl
theorem exb_p2 : parseB ⟨#[40, 98, 105, 100, 41]⟩ 0 = ((0, []), 0, 3) := by kernel_rfl
theorem exb_p3 : parseB ⟨#[40, 98, 105, 100, 32, 49, 41]⟩ 0 = ((0, []), 0, 4) := by kernel_rfl
theorem exb_p4 : parseB ⟨#[40, 98, 105, 100, 32, 49]⟩ 0 = ((0, []), 0, 4) := by kernel_rfl
theorem exb_p5 : parseB ⟨#[40, 98, 105, 100, 32, 49, 32, 40, 52, 32, 50, 41]⟩ 0 = ((0, []), 0, 4) := by kernel_rfl
theorem exb_p6 : parseB ⟨#[40, 98, 105, 100, 32, 49, 32, 40, 52]⟩ 0 = ((0, []), 0, 4) := by kernel_rfl
theorem exb_p7 : parseB ⟨#[40, 98, 105, 100, 32, 49, 32, 40, 52, 32, 50, 41, 32, 40, 52, 32, 57, 41, 41]⟩ 0 = ((0, []), 0, 3) := by kernel_rfl
theorem exb_p8 : parseB ⟨#[40, 98, 105, 100, 32, 49, 47, 50, 32, 40, 52, 32, 50, 41, 41]⟩ 0 = ((0, []), 0, 1) := by kernel_rfl
theorem exb_p9 : parseB ⟨#[40, 98, 105, 100, 32, 54, 32, 40, 52, 32, 50, 41, 41]⟩ 0 = ((0, []), 0, 1) := by kernel_rfl
theorem exb_p10 : parseB ⟨#[40, 98, 105, 100, 32, 45, 49, 41]⟩ 0 = ((0, []), 0, 1) := by kernel_rfl
theorem exb_p11 : parseB ⟨#[40, 98, 97, 100, 32, 49, 32, 40, 52, 32, 50, 41, 41]⟩ 0 = ((0, []), 0, 3) := by kernel_rfl
theorem exb_p12 : parseB ⟨#[40, 98, 105, 100, 32, 49, 32, 40, 48, 32, 50, 41, 41]⟩ 0 = ((0, []), 0, 1) := by kernel_rfl
theorem exb_p13 : parseB ⟨#[40, 98, 105, 100, 32, 49, 32, 40, 52, 32, 51, 41, 32, 40, 52, 32, 50, 41, 32, 40, 52, 32, 49, 41, 32, 40, 52, 32, 48, 41, 41]⟩ 0 = ((0, []), 0, 5) := by kernel_rfl
theorem exb_p : ∀ i, i < 14 → parseB (exbT i) 0 = ((0, []), 0, exbE i)
  | 0, _ => exb_p0
  | 1, _ => exb_p1
  | 2, _ => exb_p2
  | 3, _ => exb_p3
  | 4, _ => exb_p4
  | 5, _ => exb_p5
  | 6, _ => exb_p6
  | 7, _ => exb_p7
  | 8, _ => exb_p8
  | 9, _ => exb_p9
  | 10, _ => exb_p10
  | 11, _ => exb_p11
  | 12, _ => exb_p12
  | 13, _ => exb_p13
  | n + 14, h => absurd h (by omega)
theorem exb_s : ∀ i, i < 14 → (exbT i).size < 1048576
  | 0, _ => show (0 : Nat) < 1048576 by decide
  | 1, _ => show (14 : Nat) < 1048576 by decide
  | 2, _ => show (5 : Nat) < 1048576 by decide
  | 3, _ => show (7 : Nat) < 1048576 by decide
  | 4, _ => show (6 : Nat) < 1048576 by decide
  | 5, _ => show (12 : Nat) < 1048576 by decide
  | 6, _ => show (9 : Nat) < 1048576 by decide
  | 7, _ => show (19 : Nat) < 1048576 by decide
  | 8, _ => show (15 : Nat) < 1048576 by decide
  | 9, _ => show (13 : Nat) < 1048576 by decide
  | 10, _ => show (8 : Nat) < 1048576 by decide
  | 11, _ => show (13 : Nat) < 1048576 by decide
  | 12, _ => show (13 : Nat) < 1048576 by decide
  | 13, _ => show (31 : Nat) < 1048576 by decide
  | n + 14, h => absurd h (by omega)
theorem exb_c : ∀ i, i < 14 → exbC[i * 2]? = some (.string (exbT i)) ∧ exbC[i * 2 + 1]? = some (.int .i64 (exbE i))
  | 0, _ => ⟨rfl, rfl⟩
  | 1, _ => ⟨rfl, rfl⟩
  | 2, _ => ⟨rfl, rfl⟩
  | 3, _ => ⟨rfl, rfl⟩
  | 4, _ => ⟨rfl, rfl⟩
  | 5, _ => ⟨rfl, rfl⟩
  | 6, _ => ⟨rfl, rfl⟩
  | 7, _ => ⟨rfl, rfl⟩
  | 8, _ => ⟨rfl, rfl⟩
  | 9, _ => ⟨rfl, rfl⟩
  | 10, _ => ⟨rfl, rfl⟩
  | 11, _ => ⟨rfl, rfl⟩
  | 12, _ => ⟨rfl, rfl⟩
  | 13, _ => ⟨rfl, rfl⟩
  | n + 14, h => absurd h (by omega)
theorem fin_p0 : parseU ⟨#[32, 40, 32, 117, 110, 105, 116, 32, 48, 10, 50, 32, 50, 32, 50, 32, 53, 32, 51, 32, 48, 32, 45, 49, 40, 53, 32, 49, 41, 40, 32, 52, 32, 51, 32, 41, 32, 41, 32, 120]⟩ 0 = (exU, 38, 0) := by kernel_rfl
theorem fin_p1 : parseB ⟨#[40, 98, 105, 100, 32, 49, 40, 52, 32, 49, 48, 48, 48, 48, 48, 48, 41, 40, 52, 32, 50, 41, 41, 40]⟩ 0 = ((1, exL), 23, 0) := by kernel_rfl
theorem fin_p2 : parseB ⟨#[120, 121, 40, 98, 105, 100, 32, 48, 32, 40, 49, 32, 45, 49, 48, 48, 48, 48, 48, 48, 41, 41, 41]⟩ 2 = ((0, [⟨1, -1000000⟩]), 22, 0) := by kernel_rfl
theorem fin_p3 : parseU ⟨#[40]⟩ 2 = (zeroU, 0, 1) := by kernel_rfl
theorem fin_p4 : parseB ⟨#[40]⟩ (-1) = ((0, []), 0, 1) := by kernel_rfl
theorem fin_p5 : parseB ⟨#[40, 98, 105, 100, 32, 49, 32, 40, 52, 32, 50, 41, 41]⟩ 13 = ((0, []), 0, 4) := by kernel_rfl
theorem chk0 : checkU zeroU = 4 := by kernel_rfl
theorem chk1 : checkB 6 exL = 1 := by kernel_rfl
theorem chk2 : checkB 0 [] = 4 := by kernel_rfl
end Ar
end Go.Proofs.Ytnghcgmkncbnnaa
end
section
namespace Go.Proofs.Ytnghcgmkncbnnaa
open Go.RowKit Go.Proofs.YtnghcgmkncbnnaaW.PrintWords Go.Proofs.YtnghcgmkncbnnaaW.PrintLast Go.Proofs.YtnghcgmkncbnnaaW.PrintMore
namespace Ar
open Wd
theorem litS_C {W : World} (a b : Int) : Kd.C kStp (W.alloc (.cells #[.int .i64 a, .int .i64 b] 40)) (some ⟨W.heap.size, 0, none⟩) 1 [⟨a, b⟩] := by
  refine ⟨rfl, by decide, fun _ => ⟨_, rfl, fun j p hp => ?_⟩⟩
  match j, hp with
  | 0, hp =>
    obtain rfl : (⟨a, b⟩ : Stp) = p := by simpa using hp
    refine ⟨[.int .i64 a, .int .i64 b], rfl, E.k40_mk _ ⟨a, b⟩, fun i u hu => ?_⟩
    rw [add0, blk_cell (blk_new W _), show E.k40.sz = 2 from rfl]
    match i, hu with
    | 0, hu => exact hu
    | 1, hu => exact hu
    | i + 2, hu => simp at hu
  | j + 1, hp => simp at hp
set_option maxRecDepth 100000 in
set_option maxHeartbeats 32000000 in
theorem examples_c {w : World} : Calls Try.prog 3 #[] w fun e w' => e = .returned (.bool true) ∧ Below w.heap.size w w' := by
  have hU := Try.underlying30
  have hV := Try.underlying33
  have hX := Try.underlying24
  obtain ⟨L, hL⟩ : ∃ L : List Int, L = List.replicate 65537 0 := ⟨_, rfl⟩
  have hLn : L.length = 65537 := by rw [hL, List.length_replicate]
  obtain ⟨T, hT⟩ : ∃ T : ByteArray, T = strOfNums L := ⟨_, rfl⟩
  have hTs : T.size = 65537 := by rw [hT, strOfNums_size, hLn]
  have HLr := Lib.hid hL
  have HTr := Lib.hid hT
  have HA := Lib.hid (fun (W : World) => awake_c (w := W))
  have HE := Lib.hid (fun (i : Nat) (hi : i < 26) (W : World) => unit_c (w := W) (exu_s T (by omega) i hi) (good_any _) 0 trivial zeroU 0 (exuE i) (exu_p T (by omega) i hi) none 0 (C_nil W) (Nat.le_refl 0) (by decide))
  have HD := Lib.hid (fun (i : Nat) (hi : i < 14) (W : World) => bid_c (w := W) (exb_s i hi) (good_any _) 0 trivial 0 [] 0 (exbE i) (exb_p i hi) none 0 (C_nil W) (Nat.le_refl 0) (by decide))
  have HCu := Lib.hid (exu_c T)
  have HCb := Lib.hid exb_c
  have HEx := Lib.hid (fun (W : World) => ex_c (w := W))
  have HEb := Lib.hid (fun (W : World) => exBid_c (w := W))
  have HF0 := Lib.hid (fun (W : World) => FormatUnit_c (w := W) zeroU none 0 (C_nil W) (Nat.le_refl 0) (by decide) showU_ok)
  have HF1 := Lib.hid (fun (W : World) A c h1 h2 => FormatBid_c (w := W) 6 exL A c h1 h2 (by decide) showB_ok)
  have HF2 := Lib.hid (fun (W : World) => FormatBid_c (w := W) 0 [] none 0 (C_nil W) (Nat.le_refl 0) (by decide) showB_ok)
  rw [chk0, if_neg (by decide)] at HF0
  rw [chk1, if_neg (by decide)] at HF1
  rw [chk2, if_neg (by decide)] at HF2
  have P0 := Lib.hid (fun (W : World) A c h1 h2 => unit_c (w := W) (s := ⟨#[32, 40, 32, 117, 110, 105, 116, 32, 48, 10, 50, 32, 50, 32, 50, 32, 53, 32, 51, 32, 48, 32, 45, 49, 40, 53, 32, 49, 41, 40, 32, 52, 32, 51, 32, 41, 32, 41, 32, 120]⟩) (by decide) (good_any _) 0 trivial exU 38 0 fin_p0 A c h1 h2 (show 2 < 1000000 by decide))
  have P1 := Lib.hid (fun (W : World) A c h1 h2 => bid_c (w := W) (s := ⟨#[40, 98, 105, 100, 32, 49, 40, 52, 32, 49, 48, 48, 48, 48, 48, 48, 41, 40, 52, 32, 50, 41, 41, 40]⟩) (by decide) (good_any _) 0 trivial 1 exL 23 0 fin_p1 A c h1 h2 (show 2 < 1000000 by decide))
  have P2 := Lib.hid (fun (W : World) A c h1 h2 => bid_c (w := W) (s := ⟨#[120, 121, 40, 98, 105, 100, 32, 48, 32, 40, 49, 32, 45, 49, 48, 48, 48, 48, 48, 48, 41, 41, 41]⟩) (by decide) (good_any _) 2 trivial 0 [⟨1, -1000000⟩] 22 0 fin_p2 A c h1 h2 (show 1 < 1000000 by decide))
  have P3 := Lib.hid (fun (W : World) => unit_c (w := W) (s := ⟨#[40]⟩) (by decide) (good_any _) 2 trivial zeroU 0 1 fin_p3 none 0 (C_nil W) (Nat.le_refl 0) (by decide))
  have P4 := Lib.hid (fun (W : World) => bid_c (w := W) (s := ⟨#[40]⟩) (by decide) (good_any _) (-1) trivial 0 [] 0 1 fin_p4 none 0 (C_nil W) (Nat.le_refl 0) (by decide))
  have P5 := Lib.hid (fun (W : World) => bid_c (w := W) (s := ⟨#[40, 98, 105, 100, 32, 49, 32, 40, 52, 32, 50, 41, 41]⟩) (by decide) (good_any _) 13 trivial 0 [] 0 4 fin_p5 none 0 (C_nil W) (Nat.le_refl 0) (by decide))
  clear hL hT hTs hLn
  dsimp only [unC, zeroU, exU, exL, List.length] at HE HD HEx HEb HF0 HF1 HF2 P0 P1 P2 P3 P4 P5
  have hB := Below.refl w.heap.size w
  go_enter Try.func3, Try.ntmps3
  go_wp2_with (first | (go_at_call 8; refine (HA.out _).mono ?_; rintro e w1 ⟨rfl, hb⟩; replace hB := below_step hB hb; clear hb) | ((with_reducible refine gate_dst (N := 44) rfl ?_); refine Kd.R_make (Kd.int .u8) (w0 := w) w.heap.size 5 rfl (N := 44) rfl 25 _ _ rfl 65537 rfl rfl Try.underlying25 (.int .u8 0) 1 infoU8 rfl (by decide) (by decide) 0 (ok := fun _ => True) (okp := fun _ => True) rfl (fun _ hk => hk) trivial (by decide) (by decide) hB hB.size ?_; intro v5 w5 ho hb _ _; rw [show (65537 : Int).toNat = 65537 from rfl, ← HLr.out] at ho; have hcv := own_string (P := Try.prog) Try.underlying25 Try.underlying5 Try.underlying9 (Kd.own_of_R ho); rw [← HTr.out] at hcv; replace hB := hb; clear hb))
  have kL := blk_new w5 (.cells (exuC T) 24)
  have hB2 := below_alloc hB (.cells (exuC T) 24)
  go_loopg [50] 26 (fun k v W => ∃ i : Nat, v = .int .i64 i ∧ i + k = 26 ∧ W.heap[w5.heap.size]? = some (.cells (exuC T) 24 (0, 0)) ∧ Below w.heap.size w W)
  case atStart => exact ⟨0, rfl, by omega, kL, hB2⟩
  case round =>
    obtain ⟨i, rfl, hi, kW, hB⟩ := hrel
    cases gk with
    | zero =>
      obtain rfl : i = 26 := by omega
      clear kL hB2 kW
      go_wp2_with fail
      have kL := blk_new wr (.cells exbC 24)
      have hB2 := below_alloc hB (.cells exbC 24)
      go_loopg [78] 14 (fun k v W => ∃ i : Nat, v = .int .i64 i ∧ i + k = 14 ∧ W.heap[wr.heap.size]? = some (.cells exbC 24 (0, 0)) ∧ Below w.heap.size w W)
      case atStart => exact ⟨0, rfl, by omega, kL, hB2⟩
      case round =>
        obtain ⟨i, rfl, hi, kW, hB⟩ := hrel
        cases gk with
        | zero =>
          obtain rfl : i = 14 := by omega
          clear kL hB2 kW
          go_wp2_with (first | (go_at_call_of 10 (Value.int .i64 13); refine (P5.out _).mono ?_; rintro e w19 ⟨rfl, hb⟩; replace hB := below_step hB hb; clear hb) | (go_at_call_of 10 (Value.int .i64 1); refine (P4.out _).mono ?_; rintro e w18 ⟨rfl, hb⟩; replace hB := below_step hB hb; clear hb) | (go_at_call_of 9 (Value.int .i64 1); refine (P3.out _).mono ?_; rintro e w17 ⟨rfl, hb⟩; replace hB := below_step hB hb; clear hb) | (go_at_call_of 10 (Value.int .i64 22); refine (P2.out _ (some ⟨w14.heap.size, 0, none⟩) 1 (litS_C 1 (-1000000)) (Nat.le_refl 1)).mono ?_; rintro e w16 ⟨rfl, hb⟩; replace hB := below_step hB hb; clear hb) | (go_at_call_of 10 (Value.int .i64 23); refine (P1.out _ A9 k9 hr9 hc9).mono ?_; rintro e w14 ⟨rfl, hb⟩; replace hB := below_alloc (below_step hB hb) (.cells #[.int .i64 1, .int .i64 (-1000000)] 40); clear hb) | (go_at_call 11; have hz := hr8; refine (HEb.out _).mono ?_; rintro e w13 ⟨A9, k9, hc9, rfl, hr9, hb⟩; replace hB := below_step hB hb; clear hb) | (go_at_call_of 9 (Value.int .i64 38); refine (P0.out _ A8 k8 hr8 hc8).mono ?_; rintro e w12 ⟨rfl, hb⟩; replace hB := below_step hB hb; clear hb) | (go_at_call 14; refine (HEx.out _).mono ?_; rintro e w11 ⟨A8, k8, hc8, rfl, hr8, hb⟩; replace hB := below_step hB hb; clear hb) | (go_at_call_of 13 (Value.agg #[.int .i64 0, .slice none 0 0]); refine (HF2.out _).mono ?_; rintro e w10 ⟨rfl, hb⟩; replace hB := below_step hB hb; replace kb := blk_below kb hb; replace r7 := Kd.C_below r7 hb; replace hq0 := blk_cell kb 0; replace hq1 := blk_cell kb 1; clear hb) | (go_at_call_of 13 (Value.agg #[.int .i64 6, .slice A7 2 k7]); refine (HF1.out _ A7 k7 r7 hc7).mono ?_; rintro e w9 ⟨rfl, hb⟩; replace hB := below_step hB hb; replace kb := blk_below kb hb; replace r7 := Kd.C_below r7 hb; replace hq0 := blk_cell kb 0; replace hq1 := blk_cell kb 1; clear hb) | (go_at_call 12; refine (HF0.out _).mono ?_; rintro e w8 ⟨rfl, hb⟩; replace hB := below_step hB hb; replace kb := blk_below kb hb; replace r7 := Kd.C_below r7 hb; replace hq0 := blk_cell kb 0; replace hq1 := blk_cell kb 1; clear hb) | (go_at_call 11; refine (HEb.out _).mono ?_; rintro e w7 ⟨A7, k7, hc7, rfl, hr7, hb⟩; have kb := blk_new w7 (.cells #[.int .i64 6, .slice A7 2 k7] 33); have r7 := Kd.C_below hr7 (below_alloc (Below.refl _ w7) (.cells #[.int .i64 6, .slice A7 2 k7] 33)); replace hB := below_alloc (below_step hB hb) (.cells #[.int .i64 6, .slice A7 2 k7] 33); have hq0 := blk_cell kb 0; have hq1 := blk_cell kb 1; clear hb))
          go_ret
          exact ⟨rfl, hB⟩
        | succ n =>
          have hlt : i < 14 := by omega
          have hlb : decide ((i : Int) < 14) = true := decide_eq_true (by omega)
          have hln : decide (i < 14) = true := decide_eq_true hlt
          have hi0 : (0 : Int) ≤ (i : Int) := by omega
          have hi1 : (i : Int) < 14 := by omega
          have hw3 : wrap64 ((i : Int) + 1) = ((i + 1 : Nat) : Int) := w64succ i (by omega)
          obtain ⟨c1, c2⟩ := HCb.out i hlt
          have g0 := (blk_cell kW (i * 2)).trans c1
          have g1 := (blk_cell kW (i * 2 + 1)).trans c2
          have HEi := Lib.hid (HD.out i hlt)
          generalize exbT i = X at g0 HEi
          generalize exbE i = Z at g1 HEi
          clear c1 c2 kL hB2
          have kx := blk_new wr (.cells #[.string X, .int .i64 Z] 24)
          have kW2 := blk_alloc kW (.cells #[.string X, .int .i64 Z] 24)
          have hB2 := below_alloc hB (.cells #[.string X, .int .i64 Z] 24)
          have hx0 := blk_cell kx 0; have hx1 := blk_cell kx 1; have hxf0 := blk_frozen kx 0; have hxf1 := blk_frozen kx 1
          go_wp2_with (first | (go_at_call 10; refine (HEi.out _).mono ?_; rintro e w2 ⟨rfl, hb⟩; have hB3 := below_step hB2 hb; have kW3 := blk_below kW2 hb))
          go_roundg n
          case measure => omega
          case rel => exact ⟨i + 1, by first | exact congrArg (Value.int .i64) hw3 | exact congrArg (Value.int .i64) (Int.natCast_succ i).symm, by omega, kW3, hB3⟩
    | succ n =>
      have hlt : i < 26 := by omega
      have hlb : decide ((i : Int) < 26) = true := decide_eq_true (by omega)
      have hln : decide (i < 26) = true := decide_eq_true hlt
      have hi0 : (0 : Int) ≤ (i : Int) := by omega
      have hi1 : (i : Int) < 26 := by omega
      have hw3 : wrap64 ((i : Int) + 1) = ((i + 1 : Nat) : Int) := w64succ i (by omega)
      obtain ⟨c1, c2⟩ := HCu.out i hlt
      have g0 := (blk_cell kW (i * 2)).trans c1
      have g1 := (blk_cell kW (i * 2 + 1)).trans c2
      have HEi := Lib.hid (HE.out i hlt)
      generalize exuT T i = X at g0 HEi
      generalize exuE i = Z at g1 HEi
      clear c1 c2 kL hB2
      have kx := blk_new wr (.cells #[.string X, .int .i64 Z] 24)
      have kW2 := blk_alloc kW (.cells #[.string X, .int .i64 Z] 24)
      have hB2 := below_alloc hB (.cells #[.string X, .int .i64 Z] 24)
      have hx0 := blk_cell kx 0; have hx1 := blk_cell kx 1; have hxf0 := blk_frozen kx 0; have hxf1 := blk_frozen kx 1
      go_wp2_with (first | (go_at_call 9; refine (HEi.out _).mono ?_; rintro e w2 ⟨rfl, hb⟩; have hB3 := below_step hB2 hb; have kW3 := blk_below kW2 hb))
      go_roundg n
      case measure => omega
      case rel => exact ⟨i + 1, by first | exact congrArg (Value.int .i64) hw3 | exact congrArg (Value.int .i64) (Int.natCast_succ i).symm, by omega, kW3, hB3⟩
end Ar
end Go.Proofs.Ytnghcgmkncbnnaa
end
