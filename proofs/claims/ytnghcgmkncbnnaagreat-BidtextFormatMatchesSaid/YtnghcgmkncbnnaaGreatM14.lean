/- Part 14 of the proof: The reference's From: contract. -/
import Derived.Test.YtnghcgmkncbnnaaGreatM11
import Derived.Test.YtnghcgmkncbnnaaGreatM13
set_option linter.unusedVariables false
set_option linter.unusedSimpArgs false
section
namespace Go.Proofs.YtnghcgmkncbnnaaGreat
open Go.RowKit Go.Proofs.YtnghcgmkncbnnaaGreatW.PrintWords Go.Proofs.YtnghcgmkncbnnaaGreatW.PrintLast Go.Proofs.YtnghcgmkncbnnaaGreatW.PrintMore
namespace Ar
open Wd
theorem litU_C {W : World} {g : Nat} (ns : List Int) (hl : ns.length ≤ 9223372036854775807) (hg : W.heap.size = g) : (Kd.int .u32).C (W.alloc (.cells (ns.map (Value.int .u32)).toArray 114)) (some ⟨g, 0, none⟩) ns.length ns := by
  subst hg
  refine ⟨rfl, hl, fun _ => ⟨_, rfl, fun j p hp => ⟨[.int .u32 p], rfl, rfl, fun i u hu => ?_⟩⟩⟩
  match i, hu with
  | 0, hu =>
    obtain rfl : Value.int .u32 p = u := by simpa using hu
    rw [add0, blk_cell (blk_new W _), show (Kd.int .u32).sz = 1 from rfl]
    simp [hp]
  | i + 1, hu => simp at hu
set_option maxRecDepth 100000 in
set_option maxHeartbeats 4000000 in
theorem refFrom_c {w : World} (n : Int) (hn : i64r n) :
    Calls Tryz.prog 49 #[.int .i64 n] w fun e w' => ∃ v, e = .returned v ∧ ZV w' (fun k => w.heap.size ≤ k) v n ∧ Below w.heap.size w w' := by
  have hT := Tryz.underlying74
  unfold i64r at hn
  by_cases h : n < 0
  · have hb : decide (n < 0) = true := decide_eq_true h
    obtain ⟨X0, h0⟩ : ∃ X0, (IntKind.u64.wrap (-IntKind.u64.wrap n)).tmod 4294967296 % 4294967296 = X0 := ⟨_, rfl⟩
    obtain ⟨X1, h1⟩ : ∃ X1, IntKind.u64.wrap ((IntKind.u64.wrap (-IntKind.u64.wrap n)).tdiv 4294967296) % 4294967296 = X1 := ⟨_, rfl⟩
    have hok : okW [X0, X1] := okW_cons.2 ⟨by rw [← h0]; omega, okW_cons.2 ⟨by rw [← h1]; omega, okW_nil⟩⟩
    have hv : val [X0, X1] = n.natAbs := by
      have e0 : X0 = ((n.natAbs % 4294967296 : Nat) : Int) := by rw [← h0]; simp only [u64w]; rw [Int.tmod_eq_emod_of_nonneg (by omega)]; omega
      have e1 : X1 = ((n.natAbs / 4294967296 : Nat) : Int) := by rw [← h1]; simp only [u64w]; rw [Int.tdiv_eq_ediv_of_nonneg (by omega)]; omega
      rw [e0, e1]; simp only [val, Int.toNat_natCast]; omega
    have HL := Lib.hid (F.pylonref01_Least.calls 50 true (some ⟨w.heap.size + 1, 0, none⟩) 2 [X0, X1] _ _ _ (litU_C (W := w.alloc (.cells #[.bool false, .slice none 0 0] 74)) [X0, X1] (show 2 ≤ 9223372036854775807 by decide) (World.size_alloc w _)) (Nat.le_refl 2) (least_f true [X0, X1] hok (Nat.le_refl 2)))
    rw [hv] at HL
    obtain ⟨bb, hbb⟩ : ∃ bb, (true && decide (n.natAbs ≠ 0)) = bb := ⟨_, rfl⟩
    obtain ⟨dd, hdd⟩ : ∃ dd, digs n.natAbs = dd := ⟨_, rfl⟩
    rw [hbb, hdd] at HL
    have HBB : Hid (bb = decide (n < 0)) := by show bb = _; rw [← hbb]; rw [decide_eq_true h, Bool.true_and]; exact decide_eq_true (by omega)
    have HDD := Lib.hid hdd
    clear hbb hdd
    have H0 := Lib.hid h0
    have H1 := Lib.hid h1
    clear h0 h1 hv hok
    have hb0 := below_alloc (Below.refl _ w) (.cells #[.bool false, .slice none 0 0] 74)
    have hb1 := below_alloc hb0 (.cells #[.int .u32 X0, .int .u32 X1] 114)
    have k1 := blk_alloc (blk_new w (.cells #[.bool false, .slice none 0 0] 74)) (.cells #[.int .u32 X0, .int .u32 X1] 114)
    go_enter Tryz.func49, Tryz.ntmps49
    go_wp2_with (first | (go_at_call 70; rw [H0.out, H1.out]; refine HL.out.mono ?_; rintro e w2 ⟨v2, rfl, hR, hb2⟩; obtain ⟨A2, c2, rfl⟩ := Kd.R_slice hR; have hB2 := below_step hb1 hb2; have k2 := blk_below k1 hb2; have hz0 := blk_cell k2 0; have hz1 := blk_cell k2 1; have hzf0 := blk_frozen k2 0; have hzf1 := blk_frozen k2 1))
    refine bodyPost_ret (results_cell_row rfl _ _ w.heap.size 74 #[.bool bb, .slice A2 dd.length c2] (0, 0) _ rfl (blk_set (blk_set k2 0 _) 1 _) hT rfl (by kernel_rfl)) rfl ?_
    refine ⟨_, rfl, ⟨_, by rw [HBB.out], ?_⟩, (hB2.setCell (p := ⟨w.heap.size, 0, none⟩) (Nat.le_refl _) _).setCell (p := ⟨w.heap.size, 1, none⟩) (Nat.le_refl _) _⟩
    · have hR2 := Kd.R_mono (Kd.R_bound hR) (ok' := fun k => w.heap.size < k) (fun k hk => by have h3 := hk.2.1; simp only [World.size_alloc] at h3; omega)
      have hU : Uv w2 (fun k => w.heap.size < k) (.slice A2 dd.length c2) dd := (Kd.R_V (e := 114) (base' := 0) hR2 : Kd.V (Kd.int .u32) 114 w2 0 _ (.slice A2 dd.length c2) dd)
      rw [HDD.out]
      exact ((hU.far (p := ⟨w.heap.size, 0, none⟩) (fun k hk => by dsimp only at hk ⊢; omega) _).far (p := ⟨w.heap.size, 1, none⟩) (fun k hk => by dsimp only at hk ⊢; omega) _).mono (fun k hk => Nat.le_of_lt hk)
  · have hb : decide (n < 0) = false := decide_eq_false h
    obtain ⟨X0, h0⟩ : ∃ X0, n % 4294967296 = X0 := ⟨_, rfl⟩
    obtain ⟨X1, h1⟩ : ∃ X1, n / 4294967296 = X1 := ⟨_, rfl⟩
    have hok : okW [X0, X1] := okW_cons.2 ⟨by rw [← h0]; omega, okW_cons.2 ⟨by rw [← h1]; omega, okW_nil⟩⟩
    have hv : val [X0, X1] = n.natAbs := by
      have e0 : X0 = ((n.natAbs % 4294967296 : Nat) : Int) := by rw [← h0]; omega
      have e1 : X1 = ((n.natAbs / 4294967296 : Nat) : Int) := by rw [← h1]; omega
      rw [e0, e1]; simp only [val, Int.toNat_natCast]; omega
    have HL := Lib.hid (F.pylonref01_Least.calls 50 false (some ⟨w.heap.size + 1, 0, none⟩) 2 [X0, X1] _ _ _ (litU_C (W := w.alloc (.cells #[.bool false, .slice none 0 0] 74)) [X0, X1] (show 2 ≤ 9223372036854775807 by decide) (World.size_alloc w _)) (Nat.le_refl 2) (least_f false [X0, X1] hok (Nat.le_refl 2)))
    rw [hv] at HL
    obtain ⟨bb, hbb⟩ : ∃ bb, (false && decide (n.natAbs ≠ 0)) = bb := ⟨_, rfl⟩
    obtain ⟨dd, hdd⟩ : ∃ dd, digs n.natAbs = dd := ⟨_, rfl⟩
    rw [hbb, hdd] at HL
    have HBB : Hid (bb = decide (n < 0)) := by show bb = _; rw [← hbb]; rw [decide_eq_false h, Bool.false_and]
    have HDD := Lib.hid hdd
    clear hbb hdd
    have H0 := Lib.hid h0
    have H1 := Lib.hid h1
    clear h0 h1 hv hok
    have hb0 := below_alloc (Below.refl _ w) (.cells #[.bool false, .slice none 0 0] 74)
    have hb1 := below_alloc hb0 (.cells #[.int .u32 X0, .int .u32 X1] 114)
    have k1 := blk_alloc (blk_new w (.cells #[.bool false, .slice none 0 0] 74)) (.cells #[.int .u32 X0, .int .u32 X1] 114)
    go_enter Tryz.func49, Tryz.ntmps49
    go_wp2_with (first | (go_at_call 70; rw [H0.out, H1.out]; refine HL.out.mono ?_; rintro e w2 ⟨v2, rfl, hR, hb2⟩; obtain ⟨A2, c2, rfl⟩ := Kd.R_slice hR; have hB2 := below_step hb1 hb2; have k2 := blk_below k1 hb2; have hz0 := blk_cell k2 0; have hz1 := blk_cell k2 1; have hzf0 := blk_frozen k2 0; have hzf1 := blk_frozen k2 1))
    refine bodyPost_ret (results_cell_row rfl _ _ w.heap.size 74 #[.bool bb, .slice A2 dd.length c2] (0, 0) _ rfl (blk_set (blk_set k2 0 _) 1 _) hT rfl (by kernel_rfl)) rfl ?_
    refine ⟨_, rfl, ⟨_, by rw [HBB.out], ?_⟩, (hB2.setCell (p := ⟨w.heap.size, 0, none⟩) (Nat.le_refl _) _).setCell (p := ⟨w.heap.size, 1, none⟩) (Nat.le_refl _) _⟩
    · have hR2 := Kd.R_mono (Kd.R_bound hR) (ok' := fun k => w.heap.size < k) (fun k hk => by have h3 := hk.2.1; simp only [World.size_alloc] at h3; omega)
      have hU : Uv w2 (fun k => w.heap.size < k) (.slice A2 dd.length c2) dd := (Kd.R_V (e := 114) (base' := 0) hR2 : Kd.V (Kd.int .u32) 114 w2 0 _ (.slice A2 dd.length c2) dd)
      rw [HDD.out]
      exact ((hU.far (p := ⟨w.heap.size, 0, none⟩) (fun k hk => by dsimp only at hk ⊢; omega) _).far (p := ⟨w.heap.size, 1, none⟩) (fun k hk => by dsimp only at hk ⊢; omega) _).mono (fun k hk => Nat.le_of_lt hk)
end Ar
end Go.Proofs.YtnghcgmkncbnnaaGreat
end
