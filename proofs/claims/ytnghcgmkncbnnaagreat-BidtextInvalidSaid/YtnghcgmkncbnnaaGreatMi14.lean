/- Part 14 of the proof: The reference's From: contract. The reference of bidtext: number. The reference of bidtext: the text of a curve. The reference of bidtext: Write, WriteBid, FormatUnit, FormatBid. The reference of bidtext: Write, FormatUnit, FormatBid. What is right has small numbers; its text is the reference's text. The law BidtextInvalid: the walk. -/
import Derived.Test.YtnghcgmkncbnnaaGreatMi10
import Derived.Test.YtnghcgmkncbnnaaGreatMi11
import Derived.Test.YtnghcgmkncbnnaaGreatMi13
set_option linter.unusedVariables false
set_option linter.unusedSimpArgs false
section
namespace Go.Proofs.YtnghcgmkncbnnaaGreat
open Go.RowKit Go.Proofs.YtnghcgmkncbnnaaGreatW.PrintWords Go.Proofs.YtnghcgmkncbnnaaGreatW.PrintLast Go.Proofs.YtnghcgmkncbnnaaGreatW.PrintMore
namespace Ar
open Wd
theorem litU_C {W : World} {g : Nat} (ns : List Int) (hl : ns.length ≤ 9223372036854775807) (hg : W.heap.size = g) : (Kd.int .u32).C (W.alloc (.cells (ns.map (Value.int .u32)).toArray 114)) (some ⟨g, 0, none⟩) ns.length ns := by
  subst hg
  refine ⟨rfl, hl, fun _ => ⟨_, rfl, fun j p hp => ⟨[.int .u32 p], rfl, rfl, fun i u hu => ?_⟩⟩⟩
  match i, hu with
  | 0, hu =>
    obtain rfl : Value.int .u32 p = u := by simpa using hu
    rw [add0, blk_cell (blk_new W _), show (Kd.int .u32).sz = 1 from rfl]
    simp [hp]
  | i + 1, hu => simp at hu
set_option maxRecDepth 100000 in
set_option maxHeartbeats 4000000 in
theorem refFrom_c {w : World} (n : Int) (hn : i64r n) :
    Calls Tryz.prog 49 #[.int .i64 n] w fun e w' => ∃ v, e = .returned v ∧ ZV w' (fun k => w.heap.size ≤ k) v n ∧ Below w.heap.size w w' := by
  have hT := Tryz.underlying74
  unfold i64r at hn
  by_cases h : n < 0
  · have hb : decide (n < 0) = true := decide_eq_true h
    obtain ⟨X0, h0⟩ : ∃ X0, (IntKind.u64.wrap (-IntKind.u64.wrap n)).tmod 4294967296 % 4294967296 = X0 := ⟨_, rfl⟩
    obtain ⟨X1, h1⟩ : ∃ X1, IntKind.u64.wrap ((IntKind.u64.wrap (-IntKind.u64.wrap n)).tdiv 4294967296) % 4294967296 = X1 := ⟨_, rfl⟩
    have hok : okW [X0, X1] := okW_cons.2 ⟨by rw [← h0]; omega, okW_cons.2 ⟨by rw [← h1]; omega, okW_nil⟩⟩
    have hv : val [X0, X1] = n.natAbs := by
      have e0 : X0 = ((n.natAbs % 4294967296 : Nat) : Int) := by rw [← h0]; simp only [u64w]; rw [Int.tmod_eq_emod_of_nonneg (by omega)]; omega
      have e1 : X1 = ((n.natAbs / 4294967296 : Nat) : Int) := by rw [← h1]; simp only [u64w]; rw [Int.tdiv_eq_ediv_of_nonneg (by omega)]; omega
      rw [e0, e1]; simp only [val, Int.toNat_natCast]; omega
    have HL := Lib.hid (F.pylonref01_Least.calls 50 true (some ⟨w.heap.size + 1, 0, none⟩) 2 [X0, X1] _ _ _ (litU_C (W := w.alloc (.cells #[.bool false, .slice none 0 0] 74)) [X0, X1] (show 2 ≤ 9223372036854775807 by decide) (World.size_alloc w _)) (Nat.le_refl 2) (least_f true [X0, X1] hok (Nat.le_refl 2)))
    rw [hv] at HL
    obtain ⟨bb, hbb⟩ : ∃ bb, (true && decide (n.natAbs ≠ 0)) = bb := ⟨_, rfl⟩
    obtain ⟨dd, hdd⟩ : ∃ dd, digs n.natAbs = dd := ⟨_, rfl⟩
    rw [hbb, hdd] at HL
    have HBB : Hid (bb = decide (n < 0)) := by show bb = _; rw [← hbb]; rw [decide_eq_true h, Bool.true_and]; exact decide_eq_true (by omega)
    have HDD := Lib.hid hdd
    clear hbb hdd
    have H0 := Lib.hid h0
    have H1 := Lib.hid h1
    clear h0 h1 hv hok
    have hb0 := below_alloc (Below.refl _ w) (.cells #[.bool false, .slice none 0 0] 74)
    have hb1 := below_alloc hb0 (.cells #[.int .u32 X0, .int .u32 X1] 114)
    have k1 := blk_alloc (blk_new w (.cells #[.bool false, .slice none 0 0] 74)) (.cells #[.int .u32 X0, .int .u32 X1] 114)
    go_enter Tryz.func49, Tryz.ntmps49
    go_wp2_with (first | (go_at_call 70; rw [H0.out, H1.out]; refine HL.out.mono ?_; rintro e w2 ⟨v2, rfl, hR, hb2⟩; obtain ⟨A2, c2, rfl⟩ := Kd.R_slice hR; have hB2 := below_step hb1 hb2; have k2 := blk_below k1 hb2; have hz0 := blk_cell k2 0; have hz1 := blk_cell k2 1; have hzf0 := blk_frozen k2 0; have hzf1 := blk_frozen k2 1))
    refine bodyPost_ret (results_cell_row rfl _ _ w.heap.size 74 #[.bool bb, .slice A2 dd.length c2] (0, 0) _ rfl (blk_set (blk_set k2 0 _) 1 _) hT rfl (by kernel_rfl)) rfl ?_
    refine ⟨_, rfl, ⟨_, by rw [HBB.out], ?_⟩, (hB2.setCell (p := ⟨w.heap.size, 0, none⟩) (Nat.le_refl _) _).setCell (p := ⟨w.heap.size, 1, none⟩) (Nat.le_refl _) _⟩
    · have hR2 := Kd.R_mono (Kd.R_bound hR) (ok' := fun k => w.heap.size < k) (fun k hk => by have h3 := hk.2.1; simp only [World.size_alloc] at h3; omega)
      have hU : Uv w2 (fun k => w.heap.size < k) (.slice A2 dd.length c2) dd := (Kd.R_V (e := 114) (base' := 0) hR2 : Kd.V (Kd.int .u32) 114 w2 0 _ (.slice A2 dd.length c2) dd)
      rw [HDD.out]
      exact ((hU.far (p := ⟨w.heap.size, 0, none⟩) (fun k hk => by dsimp only at hk ⊢; omega) _).far (p := ⟨w.heap.size, 1, none⟩) (fun k hk => by dsimp only at hk ⊢; omega) _).mono (fun k hk => Nat.le_of_lt hk)
  · have hb : decide (n < 0) = false := decide_eq_false h
    obtain ⟨X0, h0⟩ : ∃ X0, n % 4294967296 = X0 := ⟨_, rfl⟩
    obtain ⟨X1, h1⟩ : ∃ X1, n / 4294967296 = X1 := ⟨_, rfl⟩
    have hok : okW [X0, X1] := okW_cons.2 ⟨by rw [← h0]; omega, okW_cons.2 ⟨by rw [← h1]; omega, okW_nil⟩⟩
    have hv : val [X0, X1] = n.natAbs := by
      have e0 : X0 = ((n.natAbs % 4294967296 : Nat) : Int) := by rw [← h0]; omega
      have e1 : X1 = ((n.natAbs / 4294967296 : Nat) : Int) := by rw [← h1]; omega
      rw [e0, e1]; simp only [val, Int.toNat_natCast]; omega
    have HL := Lib.hid (F.pylonref01_Least.calls 50 false (some ⟨w.heap.size + 1, 0, none⟩) 2 [X0, X1] _ _ _ (litU_C (W := w.alloc (.cells #[.bool false, .slice none 0 0] 74)) [X0, X1] (show 2 ≤ 9223372036854775807 by decide) (World.size_alloc w _)) (Nat.le_refl 2) (least_f false [X0, X1] hok (Nat.le_refl 2)))
    rw [hv] at HL
    obtain ⟨bb, hbb⟩ : ∃ bb, (false && decide (n.natAbs ≠ 0)) = bb := ⟨_, rfl⟩
    obtain ⟨dd, hdd⟩ : ∃ dd, digs n.natAbs = dd := ⟨_, rfl⟩
    rw [hbb, hdd] at HL
    have HBB : Hid (bb = decide (n < 0)) := by show bb = _; rw [← hbb]; rw [decide_eq_false h, Bool.false_and]
    have HDD := Lib.hid hdd
    clear hbb hdd
    have H0 := Lib.hid h0
    have H1 := Lib.hid h1
    clear h0 h1 hv hok
    have hb0 := below_alloc (Below.refl _ w) (.cells #[.bool false, .slice none 0 0] 74)
    have hb1 := below_alloc hb0 (.cells #[.int .u32 X0, .int .u32 X1] 114)
    have k1 := blk_alloc (blk_new w (.cells #[.bool false, .slice none 0 0] 74)) (.cells #[.int .u32 X0, .int .u32 X1] 114)
    go_enter Tryz.func49, Tryz.ntmps49
    go_wp2_with (first | (go_at_call 70; rw [H0.out, H1.out]; refine HL.out.mono ?_; rintro e w2 ⟨v2, rfl, hR, hb2⟩; obtain ⟨A2, c2, rfl⟩ := Kd.R_slice hR; have hB2 := below_step hb1 hb2; have k2 := blk_below k1 hb2; have hz0 := blk_cell k2 0; have hz1 := blk_cell k2 1; have hzf0 := blk_frozen k2 0; have hzf1 := blk_frozen k2 1))
    refine bodyPost_ret (results_cell_row rfl _ _ w.heap.size 74 #[.bool bb, .slice A2 dd.length c2] (0, 0) _ rfl (blk_set (blk_set k2 0 _) 1 _) hT rfl (by kernel_rfl)) rfl ?_
    refine ⟨_, rfl, ⟨_, by rw [HBB.out], ?_⟩, (hB2.setCell (p := ⟨w.heap.size, 0, none⟩) (Nat.le_refl _) _).setCell (p := ⟨w.heap.size, 1, none⟩) (Nat.le_refl _) _⟩
    · have hR2 := Kd.R_mono (Kd.R_bound hR) (ok' := fun k => w.heap.size < k) (fun k hk => by have h3 := hk.2.1; simp only [World.size_alloc] at h3; omega)
      have hU : Uv w2 (fun k => w.heap.size < k) (.slice A2 dd.length c2) dd := (Kd.R_V (e := 114) (base' := 0) hR2 : Kd.V (Kd.int .u32) 114 w2 0 _ (.slice A2 dd.length c2) dd)
      rw [HDD.out]
      exact ((hU.far (p := ⟨w.heap.size, 0, none⟩) (fun k hk => by dsimp only at hk ⊢; omega) _).far (p := ⟨w.heap.size, 1, none⟩) (fun k hk => by dsimp only at hk ⊢; omega) _).mono (fun k hk => Nat.le_of_lt hk)
end Ar
end Go.Proofs.YtnghcgmkncbnnaaGreat
end
section
namespace Go.Proofs.YtnghcgmkncbnnaaGreat
open Go.RowKit Go.Proofs.YtnghcgmkncbnnaaGreatW.PrintWords Go.Proofs.YtnghcgmkncbnnaaGreatW.PrintLast Go.Proofs.YtnghcgmkncbnnaaGreatW.PrintMore
namespace Ar
open Wd
def Sml (n : Int) : Prop := i64r n
def numB (n : Int) : ByteArray := ⟨#[32]⟩ ++ decB n
theorem refNumber_c {w : World} (n : Int) (hn : Sml n) : Calls Tryz.prog 27 #[.int .i64 n] w fun e w' => e = .returned (.string (numB n)) ∧ Below w.heap.size w w' := by
  have hl := decB_len n
  have HF := Lib.hid (refFrom_c (w := w) n hn)
  have HT := Lib.hid (fun (W : World) ok v (h : ZV W ok v n) => refText_c h (by unfold Sml i64r at hn; omega))
  unfold numB
  generalize decB n = R at hl HT ⊢
  have h1 : 1 + R.size ≤ 9223372036854775807 := by omega
  go_enter Tryz.func27, Tryz.ntmps27
  go_wp2_with (first | (go_at_call 49; refine HF.out.mono ?_; rintro e w1 ⟨v1, rfl, hv, hb1⟩; obtain ⟨b1, A1, r1, c1, rfl, H1, hu1⟩ := zv_openh hv) | (go_at_call 48; refine (HT.out _ _ _ (zv_mk H1.out.1 H1.out.2 hu1)).mono ?_; rintro e w2 ⟨rfl, hb2⟩; have hB2 := below_step hb1 hb2))
  go_ret
  exact ⟨rfl, hB2⟩
end Ar
end Go.Proofs.YtnghcgmkncbnnaaGreat
end
section
namespace Go.Proofs.YtnghcgmkncbnnaaGreat
open Go.RowKit Go.Proofs.YtnghcgmkncbnnaaGreatW.PrintWords Go.Proofs.YtnghcgmkncbnnaaGreatW.PrintLast Go.Proofs.YtnghcgmkncbnnaaGreatW.PrintMore
namespace Ar
open Wd
def stB (l : List Stp) : Nat → ByteArray
  | 0 => ⟨#[]⟩
  | i + 1 => stB l i ++ ⟨#[32, 40]⟩ ++ decB (rdS l i).f0 ++ numB (rdS l i).f1 ++ ⟨#[41]⟩
theorem numB_len (n : Int) : (numB n).size ≤ 41 ∧ 1 ≤ (numB n).size := by
  have := decB_len n
  unfold numB
  rw [ByteArray.size_append]
  have h1 : (⟨#[32]⟩ : ByteArray).size = 1 := rfl
  omega
theorem stB_len (l : List Stp) : ∀ i, (stB l i).size ≤ 100 * i
  | 0 => by simp [stB, ByteArray.size]
  | i + 1 => by
    have h1 := stB_len l i
    have h2 := decB_len (rdS l i).f0
    have h3 := (numB_len (rdS l i).f1).1
    have h4 : (⟨#[32, 40]⟩ : ByteArray).size = 2 := rfl
    have h5 : (⟨#[41]⟩ : ByteArray).size = 1 := rfl
    unfold stB
    rw [ByteArray.size_append, ByteArray.size_append, ByteArray.size_append, ByteArray.size_append]
    omega
theorem numB_tail (n : Int) : (numB n).extract 1 (numB n).size = decB n := by
  unfold numB
  refine ByteArray.ext ?_
  simp
  right
  have : (⟨#[32]⟩ : ByteArray).size = 1 := rfl
  omega
set_option maxRecDepth 100000 in
set_option maxHeartbeats 8000000 in
theorem refSteps_c {w : World} (A : Option Addr) (c : Nat) (l : List Stp) (hr : Kd.C kStp w A l.length l) (hc : l.length ≤ c) (hlen : l.length < 1000000) (hs : ∀ s ∈ l, Sml s.f0 ∧ Sml s.f1) :
    Calls Tryz.prog 28 #[.slice A l.length c] w fun e w' => e = .returned (.string (stB l l.length)) ∧ Below w.heap.size w w' := by
  have hS := Tryz.underlying60
  have Hs := Lib.hid hs
  clear hs
  go_enter Tryz.func28, Tryz.ntmps28
  go_wp2
  go_loopg [3, 4] l.length (fun k v3 v W => ∃ i : Nat, v = .int .i64 i ∧ v3 = .string (stB l i) ∧ i + k = l.length ∧ Below w.heap.size w W)
  case atStart => exact ⟨0, rfl, rfl, by omega, Below.refl _ _⟩
  case round =>
    obtain ⟨i, rfl, rfl, hi, hB⟩ := hrel
    cases gk with
    | zero =>
      obtain rfl : i = l.length := by omega
      have hlb : decide ((l.length : Int) < (l.length : Int)) = false := decide_eq_false (by omega)
      go_wp2
      go_ret
      exact ⟨rfl, hB⟩
    | succ n =>
      have hlt : i < l.length := by omega
      have hlb : decide ((i : Int) < (l.length : Int)) = true := decide_eq_true (by omega)
      have hln : decide (i < l.length) = true := decide_eq_true hlt
      have hi1 : (0 : Int) ≤ (i : Int) := by omega
      have hi2 : (i : Int) < (l.length : Int) := by omega
      have hw3 : wrap64 ((i : Int) + 1) = ((i + 1 : Nat) : Int) := w64succ i (by omega)
      obtain ⟨⟨x0, x1⟩, hx⟩ : ∃ x, rdS l i = x := ⟨_, rfl⟩
      have hsm : Sml x0 ∧ Sml x1 := by
        have hg : l.getD i E.z60 = ⟨x0, x1⟩ := hx
        have := Hs.out (l.getD i E.z60) (by rw [List.getD_eq_getElem?_getD, List.getElem?_eq_getElem hlt]; exact List.getElem_mem hlt)
        rw [hg] at this; exact this
      obtain ⟨ad, rfl, g0, g1⟩ := E.at_T60 (Kd.C_below hr hB) i (by omega) (by omega)
      rw [show E.rd_T60 l ((i : Nat) : Int) = ⟨x0, x1⟩ from hx] at g0 g1
      dsimp only at g0 g1
      rw [Int.toNat_natCast] at g0 g1
      have hst : stB l (i + 1) = stB l i ++ ⟨#[32, 40]⟩ ++ decB x0 ++ numB x1 ++ ⟨#[41]⟩ := by rw [stB, hx]
      have HST := Lib.hid hst
      have b1 := stB_len l i
      have b2 := decB_len x0
      have b3 := (numB_len x1).1
      have b4 := numB_len x0
      obtain ⟨X, f, hf, hg⟩ := cls_of (fun W : World => Below w.heap.size w W ∧ W.cell? (ad.add (i * 2)) = some (.int .i64 x0) ∧ W.cell? ⟨(ad.add (i * 2)).block, (ad.add (i * 2)).off + 1, none⟩ = some (.int .i64 x1))
      have HF := Lib.hid hf
      have keepc : ∀ (W W' : World) (a : Addr) (v : Value), W.cell? a = some v → Below W.heap.size W W' → W'.cell? a = some v := fun W W' a v h hb => (World.cell?_of_block (hb.block _ (World.block_lt_of_cell? W _ h))).trans h
      have HM : Hid (∀ (n : Int), Sml n → ∀ x : X, Calls Tryz.prog 27 #[.int .i64 n] (f x) fun e w' => e = .returned (.string (numB n)) ∧ ∃ y : X, w' = f y) := fun n hn x => (refNumber_c n hn).mono fun e w' ⟨he, hb⟩ => ⟨he, hg _ ⟨below_step (hf x).1 hb, keepc _ _ _ _ (hf x).2.1 hb, keepc _ _ _ _ (hf x).2.2 hb⟩⟩
      have HG := Lib.hid (hg wr.drew ⟨below_drew hB, g0, g1⟩)
      have hne : Nonempty X := HG.out.elim (fun x _ => ⟨x⟩)
      have u0 : ∀ x : X, (f x).cell? (ad.add (i * 2)) = some (.int .i64 x0) := fun x => (hf x).2.1
      have u1 : ∀ x : X, (f x).cell? ⟨(ad.add (i * 2)).block, (ad.add (i * 2)).off + 1, none⟩ = some (.int .i64 x1) := fun x => (hf x).2.2
      have HM0 := Lib.hid (HM.out x0 hsm.1)
      have HM1 := Lib.hid (HM.out x1 hsm.2)
      have HTl := Lib.hid (numB_tail x0)
      have HT2 := Lib.hid (show (decB x0).size = (numB x0).size - 1 by have := numB_len x0; unfold numB; rw [ByteArray.size_append]; have h1 : (⟨#[32]⟩ : ByteArray).size = 1 := rfl; omega)
      clear hx hst hf hg HM hsm keepc
      have htl := HTl.out
      have c0 : (1 : Int) ≤ ((numB x0).size : Int) := by omega
      have m1 : (stB l i).size + 2 ≤ 9223372036854775807 := by omega
      have m2 : (stB l i).size + 2 + (decB x0).size ≤ 9223372036854775807 := by omega
      have m3 : (stB l i).size + 2 + (decB x0).size + (numB x1).size ≤ 9223372036854775807 := by omega
      have m4 : (stB l i).size + 2 + (decB x0).size + (numB x1).size + 1 ≤ 9223372036854775807 := by omega
      go_wp2_with fail
      refine wp_region_cls f (by kernel_rfl) (by kernel_rfl) HG.out ?_
      repeat (go_big_quiet_step (first | (go_at_call_of 27 (Value.int .i64 x0); exact HM0.out _) | (go_at_call_of 27 (Value.int .i64 x1); exact HM1.out _) | exact HM0.out _ | exact HM1.out _))
      refine wpQuiet_nil ?_
      rintro w2 ⟨x, rfl⟩
      have hB2 := (HF.out x).1
      go_wp2
      go_roundg n
      case measure => omega
      case rel => exact ⟨i + 1, by first | exact congrArg (Value.int .i64) hw3 | exact congrArg (Value.int .i64) (Int.natCast_succ i).symm, by rw [HST.out], by omega, hB2⟩
end Ar
end Go.Proofs.YtnghcgmkncbnnaaGreat
end
section
namespace Go.Proofs.YtnghcgmkncbnnaaGreat
open Go.RowKit Go.Proofs.YtnghcgmkncbnnaaGreatW.PrintWords Go.Proofs.YtnghcgmkncbnnaaGreatW.PrintLast Go.Proofs.YtnghcgmkncbnnaaGreatW.PrintMore
namespace Ar
open Wd
def wrB (bus : Int) (l : List Stp) : ByteArray := ⟨#[40, 98, 105, 100]⟩ ++ numB bus ++ stB l l.length ++ ⟨#[41]⟩
def wrU (u : Un) : ByteArray := ⟨#[40, 117, 110, 105, 116]⟩ ++ numB u.bus ++ numB u.min ++ numB u.up ++ numB u.down ++ numB u.start ++ numB u.idle ++ numB u.spin ++ numB u.on ++ stB u.steps u.steps.length ++ ⟨#[41]⟩
set_option maxRecDepth 100000 in
set_option maxHeartbeats 8000000 in
theorem WriteBid_c {w : World} (bus : Int) (l : List Stp) (A : Option Addr) (c : Nat) (hr : Kd.C kStp w A l.length l) (hc : l.length ≤ c) (hlen : l.length < 1000000) (hb : Sml bus) (hs : ∀ s ∈ l, Sml s.f0 ∧ Sml s.f1) :
    Calls Tryz.prog 12 #[.agg (biC bus (.slice A l.length c))] w fun e w' => e = .returned (.string (wrB bus l)) ∧ Below w.heap.size w w' := by
  have hU := Tryz.underlying26
  have hb0 := below_alloc (Below.refl _ w) (.cells #[.int .i64 bus, .slice A l.length c] 26)
  have k0 := blk_new w (.cells #[.int .i64 bus, .slice A l.length c] 26)
  obtain ⟨X, f, hf, hg⟩ := cls_of (fun W : World => Below w.heap.size w W ∧ W.heap[w.heap.size]? = some (.cells #[.int .i64 bus, .slice A l.length c] 26 (0, 0)))
  have HF := Lib.hid hf
  have HM0 : Hid (∀ x : X, Calls Tryz.prog 27 #[.int .i64 bus] (f x) fun e w' => e = .returned (.string (numB bus)) ∧ ∃ y : X, w' = f y) := fun x => (refNumber_c bus hb).mono fun e w' ⟨he, hb⟩ => ⟨he, hg _ ⟨below_step (hf x).1 hb, blk_below (hf x).2 hb⟩⟩
  have HM1 : Hid (∀ x : X, Calls Tryz.prog 28 #[.slice A l.length c] (f x) fun e w' => e = .returned (.string (stB l l.length)) ∧ ∃ y : X, w' = f y) := fun x => (refSteps_c A c l (Kd.C_below hr (hf x).1) hc hlen hs).mono fun e w' ⟨he, hb⟩ => ⟨he, hg _ ⟨below_step (hf x).1 hb, blk_below (hf x).2 hb⟩⟩
  have HG := Lib.hid (hg (w.alloc (.cells #[.int .i64 bus, .slice A l.length c] 26)).drew ⟨below_drew hb0, k0⟩)
  have hne : Nonempty X := HG.out.elim (fun x _ => ⟨x⟩)
  have u0 : ∀ x : X, (f x).cell? ⟨w.heap.size, 0, none⟩ = some (.int .i64 bus) := fun x => blk_cell (hf x).2 0
  have u1 : ∀ x : X, (f x).cell? ⟨w.heap.size, 1, none⟩ = some (.slice A l.length c) := fun x => blk_cell (hf x).2 1
  have b1 := (numB_len bus).1
  have b2 := stB_len l l.length
  unfold wrB
  obtain ⟨S, hS⟩ : ∃ S, stB l l.length = S := ⟨_, rfl⟩
  obtain ⟨N, hN⟩ : ∃ N, numB bus = N := ⟨_, rfl⟩
  rw [hN] at HM0 b1 ⊢
  rw [hS] at HM1 b2 ⊢
  have m1 : 4 + N.size ≤ 9223372036854775807 := by omega
  have m2 : 4 + N.size + S.size ≤ 9223372036854775807 := by omega
  have m3 : 4 + N.size + S.size + 1 ≤ 9223372036854775807 := by omega
  clear hS hN hf hg
  go_enter Tryz.func12, Tryz.ntmps12
  go_wp2_with fail
  refine wp_region_cls f (by kernel_rfl) (by kernel_rfl) HG.out ?_
  repeat (go_big_quiet_step (first | (go_at_call 27; exact HM0.out _) | (go_at_call 28; exact HM1.out _) | exact HM0.out _ | exact HM1.out _))
  refine wpQuiet_nil ?_
  rintro w2 ⟨x, rfl⟩
  have hB2 := (HF.out x).1
  go_wp2
  go_ret
  exact ⟨rfl, hB2⟩
end Ar
end Go.Proofs.YtnghcgmkncbnnaaGreat
end
section
namespace Go.Proofs.YtnghcgmkncbnnaaGreat
open Go.RowKit Go.Proofs.YtnghcgmkncbnnaaGreatW.PrintWords Go.Proofs.YtnghcgmkncbnnaaGreatW.PrintLast Go.Proofs.YtnghcgmkncbnnaaGreatW.PrintMore
namespace Ar
open Wd
set_option maxRecDepth 100000 in
set_option maxHeartbeats 16000000 in
theorem Write_c {w : World} (u : Un) (A : Option Addr) (c : Nat) (hr : Kd.C kStp w A u.steps.length u.steps) (hc : u.steps.length ≤ c) (hlen : u.steps.length < 1000000) (hns : ∀ n ∈ unNums u, Sml n) (hs : ∀ s ∈ u.steps, Sml s.f0 ∧ Sml s.f1) :
    Calls Tryz.prog 11 #[.agg (unC u (.slice A u.steps.length c))] w fun e w' => e = .returned (.string (wrU u)) ∧ Below w.heap.size w w' := by
  have hU := Tryz.underlying24
  unfold wrU
  obtain ⟨bus, mi, l, up, dn, st, idl, sp, on⟩ := u
  dsimp only [unC, unNums] at hr hc hlen hns hs ⊢
  have hb0 := below_alloc (Below.refl _ w) (.cells #[.int .i64 bus, .int .i64 mi, .slice A l.length c, .int .i64 up, .int .i64 dn, .int .i64 st, .int .i64 idl, .int .i64 sp, .int .i64 on] 24)
  have k0 := blk_new w (.cells #[.int .i64 bus, .int .i64 mi, .slice A l.length c, .int .i64 up, .int .i64 dn, .int .i64 st, .int .i64 idl, .int .i64 sp, .int .i64 on] 24)
  obtain ⟨X, f, hf, hg⟩ := cls_of (fun W : World => Below w.heap.size w W ∧ W.heap[w.heap.size]? = some (.cells #[.int .i64 bus, .int .i64 mi, .slice A l.length c, .int .i64 up, .int .i64 dn, .int .i64 st, .int .i64 idl, .int .i64 sp, .int .i64 on] 24 (0, 0)))
  have HF := Lib.hid hf
  have HM : ∀ n, Sml n → ∀ x : X, Calls Tryz.prog 27 #[.int .i64 n] (f x) fun e w' => e = .returned (.string (numB n)) ∧ ∃ y : X, w' = f y := fun n hn x => (refNumber_c n hn).mono fun e w' ⟨he, hb⟩ => ⟨he, hg _ ⟨below_step (hf x).1 hb, blk_below (hf x).2 hb⟩⟩
  have HS := Lib.hid (fun (W : World) (h : Below w.heap.size w W) => refSteps_c (w := W) A c l (Kd.C_below hr h) hc hlen hs)
  have HG := Lib.hid (hg (w.alloc (.cells #[.int .i64 bus, .int .i64 mi, .slice A l.length c, .int .i64 up, .int .i64 dn, .int .i64 st, .int .i64 idl, .int .i64 sp, .int .i64 on] 24)).drew ⟨below_drew hb0, k0⟩)
  have hne : Nonempty X := HG.out.elim (fun x _ => ⟨x⟩)
  have u0 : ∀ x : X, (f x).cell? ⟨w.heap.size, 0, none⟩ = some (.int .i64 bus) := fun x => blk_cell (hf x).2 0
  have u1 : ∀ x : X, (f x).cell? ⟨w.heap.size, 1, none⟩ = some (.int .i64 mi) := fun x => blk_cell (hf x).2 1
  have u3 : ∀ x : X, (f x).cell? ⟨w.heap.size, 3, none⟩ = some (.int .i64 up) := fun x => blk_cell (hf x).2 3
  have u4 : ∀ x : X, (f x).cell? ⟨w.heap.size, 4, none⟩ = some (.int .i64 dn) := fun x => blk_cell (hf x).2 4
  have u5 : ∀ x : X, (f x).cell? ⟨w.heap.size, 5, none⟩ = some (.int .i64 st) := fun x => blk_cell (hf x).2 5
  have u6 : ∀ x : X, (f x).cell? ⟨w.heap.size, 6, none⟩ = some (.int .i64 idl) := fun x => blk_cell (hf x).2 6
  have u7 : ∀ x : X, (f x).cell? ⟨w.heap.size, 7, none⟩ = some (.int .i64 sp) := fun x => blk_cell (hf x).2 7
  have u8 : ∀ x : X, (f x).cell? ⟨w.heap.size, 8, none⟩ = some (.int .i64 on) := fun x => blk_cell (hf x).2 8
  have HM0 := Lib.hid (HM bus (hns _ (by simp))); have b0 := (numB_len bus).1; obtain ⟨N0, hN0⟩ : ∃ N, numB bus = N := ⟨_, rfl⟩; rw [hN0] at HM0 b0 ⊢
  have HM1 := Lib.hid (HM mi (hns _ (by simp))); have b1 := (numB_len mi).1; obtain ⟨N1, hN1⟩ : ∃ N, numB mi = N := ⟨_, rfl⟩; rw [hN1] at HM1 b1 ⊢
  have HM2 := Lib.hid (HM up (hns _ (by simp))); have b2 := (numB_len up).1; obtain ⟨N2, hN2⟩ : ∃ N, numB up = N := ⟨_, rfl⟩; rw [hN2] at HM2 b2 ⊢
  have HM3 := Lib.hid (HM dn (hns _ (by simp))); have b3 := (numB_len dn).1; obtain ⟨N3, hN3⟩ : ∃ N, numB dn = N := ⟨_, rfl⟩; rw [hN3] at HM3 b3 ⊢
  have HM4 := Lib.hid (HM st (hns _ (by simp))); have b4 := (numB_len st).1; obtain ⟨N4, hN4⟩ : ∃ N, numB st = N := ⟨_, rfl⟩; rw [hN4] at HM4 b4 ⊢
  have HM5 := Lib.hid (HM idl (hns _ (by simp))); have b5 := (numB_len idl).1; obtain ⟨N5, hN5⟩ : ∃ N, numB idl = N := ⟨_, rfl⟩; rw [hN5] at HM5 b5 ⊢
  have HM6 := Lib.hid (HM sp (hns _ (by simp))); have b6 := (numB_len sp).1; obtain ⟨N6, hN6⟩ : ∃ N, numB sp = N := ⟨_, rfl⟩; rw [hN6] at HM6 b6 ⊢
  have HM7 := Lib.hid (HM on (hns _ (by simp))); have b7 := (numB_len on).1; obtain ⟨N7, hN7⟩ : ∃ N, numB on = N := ⟨_, rfl⟩; rw [hN7] at HM7 b7 ⊢
  have b9 := stB_len l l.length
  obtain ⟨S, hS⟩ : ∃ S, stB l l.length = S := ⟨_, rfl⟩
  rw [hS] at HS b9 ⊢
  have m0 : 5 + N0.size ≤ 9223372036854775807 := by omega
  have m1 : 5 + N0.size + N1.size ≤ 9223372036854775807 := by omega
  have m2 : 5 + N0.size + N1.size + N2.size ≤ 9223372036854775807 := by omega
  have m3 : 5 + N0.size + N1.size + N2.size + N3.size ≤ 9223372036854775807 := by omega
  have m4 : 5 + N0.size + N1.size + N2.size + N3.size + N4.size ≤ 9223372036854775807 := by omega
  have m5 : 5 + N0.size + N1.size + N2.size + N3.size + N4.size + N5.size ≤ 9223372036854775807 := by omega
  have m6 : 5 + N0.size + N1.size + N2.size + N3.size + N4.size + N5.size + N6.size ≤ 9223372036854775807 := by omega
  have m7 : 5 + N0.size + N1.size + N2.size + N3.size + N4.size + N5.size + N6.size + N7.size ≤ 9223372036854775807 := by omega
  have m8 : 5 + N0.size + N1.size + N2.size + N3.size + N4.size + N5.size + N6.size + N7.size + S.size ≤ 9223372036854775807 := by omega
  have m9 : 5 + N0.size + N1.size + N2.size + N3.size + N4.size + N5.size + N6.size + N7.size + S.size + 1 ≤ 9223372036854775807 := by omega
  have HFk := Lib.hid (fun x => (hf x).2)
  clear HM hf hg hS hN0 hN1 hN2 hN3 hN4 hN5 hN6 hN7
  go_enter Tryz.func11, Tryz.ntmps11
  go_wp2_with fail
  refine wp_region_cls f (by kernel_rfl) (by kernel_rfl) HG.out ?_
  try dsimp only [List.append]
  repeat (go_big_quiet_step (first | (go_at_call_of 27 (Value.int .i64 bus); exact HM0.out _) | (go_at_call_of 27 (Value.int .i64 mi); exact HM1.out _) | (go_at_call_of 27 (Value.int .i64 up); exact HM2.out _) | (go_at_call_of 27 (Value.int .i64 dn); exact HM3.out _) | (go_at_call_of 27 (Value.int .i64 st); exact HM4.out _) | (go_at_call_of 27 (Value.int .i64 idl); exact HM5.out _) | (go_at_call_of 27 (Value.int .i64 sp); exact HM6.out _) | (go_at_call_of 27 (Value.int .i64 on); exact HM7.out _) | exact HM0.out _ | exact HM1.out _ | exact HM2.out _ | exact HM3.out _ | exact HM4.out _ | exact HM5.out _ | exact HM6.out _ | exact HM7.out _))
  refine wpQuiet_nil ?_
  rintro w2 ⟨x, rfl⟩
  have hB2 := (HF.out x).1
  have k2 := HFk.out x
  have hz0 := blk_cell k2 0; have hz1 := blk_cell k2 1; have hz2 := blk_cell k2 2; have hz3 := blk_cell k2 3; have hz4 := blk_cell k2 4; have hz5 := blk_cell k2 5; have hz6 := blk_cell k2 6; have hz7 := blk_cell k2 7; have hz8 := blk_cell k2 8; have hzf0 := blk_frozen k2 0; have hzf1 := blk_frozen k2 1; have hzf2 := blk_frozen k2 2; have hzf3 := blk_frozen k2 3; have hzf4 := blk_frozen k2 4; have hzf5 := blk_frozen k2 5; have hzf6 := blk_frozen k2 6; have hzf7 := blk_frozen k2 7; have hzf8 := blk_frozen k2 8
  go_wp2_with (first | (go_at_call 28; refine (HS.out _ hB2).mono ?_; rintro e w3 ⟨rfl, hb3⟩; have hB3 := below_step hB2 hb3))
  go_ret
  exact ⟨rfl, hB3⟩
end Ar
end Go.Proofs.YtnghcgmkncbnnaaGreat
end
section
namespace Go.Proofs.YtnghcgmkncbnnaaGreat
open Go.RowKit Go.Proofs.YtnghcgmkncbnnaaGreatW.PrintWords Go.Proofs.YtnghcgmkncbnnaaGreatW.PrintLast Go.Proofs.YtnghcgmkncbnnaaGreatW.PrintMore
namespace Ar
open Wd
theorem numB_l (n : Int) : (numB n).data.toList = nT n := by unfold numB nT; rw [ba_app]; rfl
theorem stB_l (l : List Stp) : ∀ i, i ≤ l.length → (stB l i).data.toList = (l.take i).flatMap sT
  | 0, _ => rfl
  | i + 1, h => by
    have ht : l.take (i + 1) = l.take i ++ [rdS l i] := by
      have := take_snocI l i E.z60 h
      rw [this]; rfl
    rw [stB, ba_app, ba_app, ba_app, ba_app, stB_l l i (by omega), ht, List.flatMap_append, numB_l]
    simp [sT]
theorem stB_all (l : List Stp) : (stB l l.length).data.toList = l.flatMap sT := by rw [stB_l l l.length (Nat.le_refl _), List.take_length]
theorem unText_eq (u : Un) : unText u = wrU u := by
  refine ba_ext ?_
  unfold unText wrU
  rw [show_text]
  simp only [ba_app, numB_l, stB_all, unNums, List.flatMap_cons, List.flatMap_nil, unitB]
  simp
theorem biText_eq (bus : Int) (l : List Stp) : biText bus l = wrB bus l := by
  refine ba_ext ?_
  unfold biText wrB
  rw [show_text]
  simp only [ba_app, numB_l, stB_all, List.flatMap_cons, List.flatMap_nil, bidB]
  simp
end Ar
end Go.Proofs.YtnghcgmkncbnnaaGreat
end
section
namespace Go.Proofs.YtnghcgmkncbnnaaGreat
open Go.RowKit Go.Proofs.YtnghcgmkncbnnaaGreatW.PrintWords Go.Proofs.YtnghcgmkncbnnaaGreatW.PrintLast Go.Proofs.YtnghcgmkncbnnaaGreatW.PrintMore
namespace Ar
open Wd
theorem long_b {w : World} (s : ByteArray) (A : Option Addr) (c : Nat) (l : List Stp) (h : Kd.C kStp w A l.length l) (hc : l.length ≤ c) :
    Calls Tryz.prog 5 #[.string s, .slice A l.length c] w fun e w' => e = .returned (.bool (decide (5000 < s.size) || decide (50 < l.length))) ∧ Below w.heap.size w w' :=
  (long_c s A c l h hc).mono fun _ _ ⟨h1, h2⟩ => ⟨h1, h2.below⟩
theorem parseU_wr {u : Un} (hn : ∀ n ∈ unNums u, i64r n) (hx : ∀ x ∈ u.steps, i64r x.f0 ∧ i64r x.f1) (hl : u.steps.length ≤ 100) : parseU (wrU u) 0 = outU u (((wrU u).size : Int), 0) := by
  rw [← unText_eq]
  have := unText_ch (s := unText u) (A := []) (R := []) (u := u) (by have := unText_len u hl; omega) (by simp) hn hx
  simp only [List.length_nil, Nat.zero_add, Int.natCast_zero] at this
  exact this
theorem parseB_wr {bus : Int} {l : List Stp} (hn : i64r bus) (hx : ∀ x ∈ l, i64r x.f0 ∧ i64r x.f1) (hl : l.length ≤ 100) : parseB (wrB bus l) 0 = outB bus l (((wrB bus l).size : Int), 0) := by
  rw [← biText_eq]
  have := biText_ch (s := biText bus l) (A := []) (R := []) (bus := bus) (l := l) (by have := biText_len bus l hl; omega) (by simp) hn hx
  simp only [List.length_nil, Nat.zero_add, Int.natCast_zero] at this
  exact this
theorem outU_g (u : Un) (e : Int) : ∃ V N, outU u (e, 0) = (V, N, checkU u) ∧ (checkU u = 0 → V = u ∧ N = e) := by
  by_cases h : checkU u = 0
  · exact ⟨u, e, by rw [outU_ok h, h], fun _ => ⟨rfl, rfl⟩⟩
  · refine ⟨zeroU, 0, ?_, fun g => absurd g h⟩
    unfold outU
    rw [if_neg (fun g => g rfl), if_pos h]
theorem outB_g (bus : Int) (l : List Stp) (e : Int) : ∃ db ld N, outB bus l (e, 0) = ((db, ld), N, checkB bus l) ∧ (checkB bus l = 0 → (db = bus ∧ ld = l) ∧ N = e) := by
  by_cases h : checkB bus l = 0
  · exact ⟨bus, l, e, by rw [outB_ok h, h], fun _ => ⟨⟨rfl, rfl⟩, rfl⟩⟩
  · refine ⟨0, [], 0, ?_, fun g => absurd g h⟩
    unfold outB
    rw [if_neg (fun g => g rfl), if_pos h]
set_option maxRecDepth 100000 in
set_option maxHeartbeats 32000000 in
theorem invalid_c {w : World} (u : Un) (bus : Int) (l : List Stp) (A A' : Option Addr) (c c' : Nat)  (h : Kd.C kStp w A u.steps.length u.steps) (hc : u.steps.length ≤ c) (h' : Kd.C kStp w A' l.length l) (hc' : l.length ≤ c') (hnu : ∀ n ∈ unNums u, i64r n) (hxu : ∀ x ∈ u.steps, i64r x.f0 ∧ i64r x.f1) (hnb : i64r bus) (hxb : ∀ x ∈ l, i64r x.f0 ∧ i64r x.f1) :
    Calls Tryz.prog 4 #[.agg (unC u (.slice A u.steps.length c)), .agg (biC bus (.slice A' l.length c'))] w fun e w' => e = .returned (.bool true) ∧ Below w.heap.size w w' := by
  have hU := Tryz.underlying24
  have hV := Tryz.underlying26
  have HL := Lib.hid (fun (W : World) (hb : Below w.heap.size w W) => long_b (w := W) ⟨#[]⟩ A c u.steps (Kd.C_below h hb) hc)
  have HM := Lib.hid (fun (W : World) (hb : Below w.heap.size w W) => long_b (w := W) ⟨#[]⟩ A' c' l (Kd.C_below h' hb) hc')
  have HA := Lib.hid (fun (W : World) => awake_c (w := W))
  have HW1 := Lib.hid (fun (W : World) (hb : Below w.heap.size w W) (hl : u.steps.length < 1000000) => Write_c (w := W) u A c (Kd.C_below h hb) hc hl hnu hxu)
  have HW2 := Lib.hid (fun (W : World) (hb : Below w.heap.size w W) (hl : l.length < 1000000) => WriteBid_c (w := W) bus l A' c' (Kd.C_below h' hb) hc' hl hnb hxb)
  have HK := Lib.hid (fun (W : World) (hb : Below w.heap.size w W) (hl : u.steps.length < 1073741824) => Check_c (w := W) u A c (Kd.C_below h hb) hc hl)
  have HC := Lib.hid (fun (W : World) (hb : Below w.heap.size w W) => CheckBid_c (w := W) A' c' l (Kd.C_below h' hb) hc')
  have e0 : decide (5000 < (⟨#[]⟩ : ByteArray).size) = false := rfl
  rw [e0] at HL HM
  simp only [Bool.false_or] at HL HM
  clear e0
  obtain ⟨b0, hb0d⟩ : ∃ z, decide (50 < u.steps.length) = z := ⟨_, rfl⟩
  obtain ⟨b1, hb1d⟩ : ∃ b, decide (50 < l.length) = b := ⟨_, rfl⟩
  have HNn : Hid (b0 = false → u.steps.length < 1000000) := fun e => by rw [e, decide_eq_false_iff_not] at hb0d; omega
  have HNo : Hid (b1 = false → l.length < 1000000) := fun e => by rw [e, decide_eq_false_iff_not] at hb1d; omega
  have HLu : Hid (b0 = false → u.steps.length ≤ 100) := fun e => by rw [e, decide_eq_false_iff_not] at hb0d; omega
  have HLb : Hid (b1 = false → l.length ≤ 100) := fun e => by rw [e, decide_eq_false_iff_not] at hb1d; omega
  rw [hb0d] at HL
  rw [hb1d] at HM
  clear hb0d hb1d
  obtain ⟨V, N, hV0, hVs⟩ := outU_g u (((wrU u).size : Nat) : Int)
  obtain ⟨db, ld, M, hD0, hDs⟩ := outB_g bus l (((wrB bus l).size : Nat) : Int)
  have hlu : b0 = false → u.steps.length ≤ 100 := fun e => HLu.out e
  have hlb : b1 = false → l.length ≤ 100 := fun e => HLb.out e
  have HPU : Hid (b0 = false → ∀ W, Calls Tryz.prog 13 #[.string (wrU u), .int .i64 0] W fun e w' => ∃ (A1 : Option Addr) (c1 : Nat), V.steps.length ≤ c1 ∧ e = .returned (.tuple #[.agg (unC V (.slice A1 V.steps.length c1)), .int .i64 N, .int .i64 (checkU u)]) ∧ Kd.C kStp w' A1 V.steps.length V.steps ∧ Below W.heap.size W w') := fun e W => by
    have h1 := ParseUnit_c (w := W) (s := wrU u) (by rw [← unText_eq]; have := unText_len u (hlu e); omega) (good_ns (by rw [← unText_eq]; have := unText_len u (hlu e); omega) (by rw [← unText_eq]; exact ns_unit u)) 0 (in0 _)
    rw [parseU_wr hnu hxu (hlu e), hV0] at h1
    exact h1
  have HPB : Hid (b1 = false → ∀ W, Calls Tryz.prog 14 #[.string (wrB bus l), .int .i64 0] W fun e w' => ∃ (A1 : Option Addr) (c1 : Nat), ld.length ≤ c1 ∧ e = .returned (.tuple #[.agg (biC db (.slice A1 ld.length c1)), .int .i64 M, .int .i64 (checkB bus l)]) ∧ Kd.C kStp w' A1 ld.length ld ∧ Below W.heap.size W w') := fun e W => by
    have h1 := ParseBid_c (w := W) (s := wrB bus l) (by rw [← biText_eq]; have := biText_len bus l (hlb e); omega) (good_ns (by rw [← biText_eq]; have := biText_len bus l (hlb e); omega) (by rw [← biText_eq]; exact ns_bid bus l)) 0 (in0 _)
    rw [parseB_wr hnb hxb (hlb e), hD0] at h1
    exact h1
  have HS : Hid (checkU u = 0 → b0 = false → ∀ W, Below w.heap.size w W → ∀ (A1 : Option Addr) (c1 : Nat), Kd.C kStp W A1 V.steps.length V.steps → V.steps.length ≤ c1 → Calls Tryz.prog 17 #[.agg (unC u (.slice A u.steps.length c)), .agg (unC V (.slice A1 V.steps.length c1))] W fun e w' => e = .returned (.bool true) ∧ Below W.heap.size W w') := fun e e0 W hb A1 c1 h1 h2 => by
    obtain ⟨rfl, _⟩ := hVs e
    exact same31_c V A A1 c c1 (Kd.C_below h hb) hc h1 h2 (by have := hlu e0; omega)
  have HT : Hid (checkB bus l = 0 → b1 = false → ∀ W, Below w.heap.size w W → ∀ (A1 : Option Addr) (c1 : Nat), Kd.C kStp W A1 ld.length ld → ld.length ≤ c1 → Calls Tryz.prog 18 #[.agg (biC bus (.slice A' l.length c')), .agg (biC db (.slice A1 ld.length c1))] W fun e w' => e = .returned (.bool true) ∧ Below W.heap.size W w') := fun e e0 W hb A1 c1 h1 h2 => by
    obtain ⟨⟨rfl, rfl⟩, _⟩ := hDs e
    exact sameBid_c db A' A1 c' c1 ld (Kd.C_below h' hb) hc' h1 h2 (by have := hlb e0; omega)
  have HVn : Hid (checkU u = 0 → (N == (((wrU u).size : Nat) : Int)) = true) := fun e => beq_iff_eq.2 (hVs e).2
  have HDn : Hid (checkB bus l = 0 → (M == (((wrB bus l).size : Nat) : Int)) = true) := fun e => beq_iff_eq.2 (hDs e).2
  have HF2 : Hid (checkB bus l = if bus < 0 ∨ 6 ≤ bus then 1 else curS fall l) := rfl
  clear hV0 hVs hD0 hDs hlu hlb HLu HLb hnu hxu hnb hxb h h' hc hc'
  generalize wrU u = S1 at HW1 HPU HVn
  generalize wrB bus l = S2 at HW2 HPB HDn
  generalize checkU u = F1 at HK HPU HS HVn
  generalize checkB bus l = F2 at HPB HT HDn HF2
  generalize curS fall l = H2 at HC HF2
  obtain ⟨vb, vmi, lv, vup, vdn, vst, vid, vsp, von⟩ := V
  dsimp only [unC] at HPU HPB HS HT
  generalize lv.length = nv at HPU HS
  generalize ld.length = nd at HPB HT
  obtain ⟨ub, mi, lu, up, dn, st, idl, sp, on⟩ := u
  dsimp only [unC] at HL HW1 HK HS HNn ⊢
  generalize lu.length = n1 at HL HW1 HK HS HNn ⊢
  generalize l.length = n2 at HM HW2 HC HT HNo ⊢
  have hB := below_alloc (below_alloc (Below.refl _ w) (.cells #[.int .i64 ub, .int .i64 mi, .slice A n1 c, .int .i64 up, .int .i64 dn, .int .i64 st, .int .i64 idl, .int .i64 sp, .int .i64 on] 24)) (.cells #[.int .i64 bus, .slice A' n2 c'] 26)
  have kk := blk_alloc (blk_new w (.cells #[.int .i64 ub, .int .i64 mi, .slice A n1 c, .int .i64 up, .int .i64 dn, .int .i64 st, .int .i64 idl, .int .i64 sp, .int .i64 on] 24)) (.cells #[.int .i64 bus, .slice A' n2 c'] 26)
  have jj := blk_new (w.alloc (.cells #[.int .i64 ub, .int .i64 mi, .slice A n1 c, .int .i64 up, .int .i64 dn, .int .i64 st, .int .i64 idl, .int .i64 sp, .int .i64 on] 24)) (.cells #[.int .i64 bus, .slice A' n2 c'] 26)
  rw [World.size_alloc] at jj
  have hgb : (w.heap.size + 1) ≠ w.heap.size := by omega
  have hbg : w.heap.size ≠ (w.heap.size + 1) := by omega
  have hk0 := blk_cell kk 0; have hk1 := blk_cell kk 1; have hk2 := blk_cell kk 2; have hk3 := blk_cell kk 3; have hk4 := blk_cell kk 4; have hk5 := blk_cell kk 5; have hk6 := blk_cell kk 6; have hk7 := blk_cell kk 7; have hk8 := blk_cell kk 8
  have hj0 := blk_cell jj 0; have hj1 := blk_cell jj 1
  cases b0 with
  | true =>
    go_enter Tryz.func4, Tryz.ntmps4
    go_wp2_with (first | (go_at_call_of 5 (Value.slice A n1 c); refine (HL.out _ hB).mono ?_; rintro e w1 ⟨rfl, hb⟩; replace hB := below_step hB hb; replace kk := blk_below kk hb; replace jj := blk_below jj hb; replace hk0 := blk_cell kk 0; replace hk1 := blk_cell kk 1; replace hk2 := blk_cell kk 2; replace hk3 := blk_cell kk 3; replace hk4 := blk_cell kk 4; replace hk5 := blk_cell kk 5; replace hk6 := blk_cell kk 6; replace hk7 := blk_cell kk 7; replace hk8 := blk_cell kk 8; replace hj0 := blk_cell jj 0; replace hj1 := blk_cell jj 1; clear hb) | (go_at_call 6; refine (HA.out _).mono ?_; rintro e w3 ⟨rfl, hb⟩; replace hB := below_step hB hb; replace kk := blk_below kk hb; replace jj := blk_below jj hb; replace hk0 := blk_cell kk 0; replace hk1 := blk_cell kk 1; replace hk2 := blk_cell kk 2; replace hk3 := blk_cell kk 3; replace hk4 := blk_cell kk 4; replace hk5 := blk_cell kk 5; replace hk6 := blk_cell kk 6; replace hk7 := blk_cell kk 7; replace hk8 := blk_cell kk 8; replace hj0 := blk_cell jj 0; replace hj1 := blk_cell jj 1; clear hb))
    go_ret
    exact ⟨rfl, hB⟩
  | false =>
    have HN1 := Lib.hid (HNn.out rfl)
    cases b1 with
    | true =>
      go_enter Tryz.func4, Tryz.ntmps4
      go_wp2_with (first | (go_at_call_of 5 (Value.slice A' n2 c'); refine (HM.out _ hB).mono ?_; rintro e w2 ⟨rfl, hb⟩; replace hB := below_step hB hb; replace kk := blk_below kk hb; replace jj := blk_below jj hb; replace hk0 := blk_cell kk 0; replace hk1 := blk_cell kk 1; replace hk2 := blk_cell kk 2; replace hk3 := blk_cell kk 3; replace hk4 := blk_cell kk 4; replace hk5 := blk_cell kk 5; replace hk6 := blk_cell kk 6; replace hk7 := blk_cell kk 7; replace hk8 := blk_cell kk 8; replace hj0 := blk_cell jj 0; replace hj1 := blk_cell jj 1; clear hb) | (go_at_call_of 5 (Value.slice A n1 c); refine (HL.out _ hB).mono ?_; rintro e w1 ⟨rfl, hb⟩; replace hB := below_step hB hb; replace kk := blk_below kk hb; replace jj := blk_below jj hb; replace hk0 := blk_cell kk 0; replace hk1 := blk_cell kk 1; replace hk2 := blk_cell kk 2; replace hk3 := blk_cell kk 3; replace hk4 := blk_cell kk 4; replace hk5 := blk_cell kk 5; replace hk6 := blk_cell kk 6; replace hk7 := blk_cell kk 7; replace hk8 := blk_cell kk 8; replace hj0 := blk_cell jj 0; replace hj1 := blk_cell jj 1; clear hb) | (go_at_call 6; refine (HA.out _).mono ?_; rintro e w3 ⟨rfl, hb⟩; replace hB := below_step hB hb; replace kk := blk_below kk hb; replace jj := blk_below jj hb; replace hk0 := blk_cell kk 0; replace hk1 := blk_cell kk 1; replace hk2 := blk_cell kk 2; replace hk3 := blk_cell kk 3; replace hk4 := blk_cell kk 4; replace hk5 := blk_cell kk 5; replace hk6 := blk_cell kk 6; replace hk7 := blk_cell kk 7; replace hk8 := blk_cell kk 8; replace hj0 := blk_cell jj 0; replace hj1 := blk_cell jj 1; clear hb))
      go_ret
      exact ⟨rfl, hB⟩
    | false =>
      have HN0 := Lib.hid (HNo.out rfl)
      have HPU' := Lib.hid (HPU.out rfl)
      have HPB' := Lib.hid (HPB.out rfl)
      have HS' := Lib.hid (fun e => HS.out e rfl)
      have HT' := Lib.hid (fun e => HT.out e rfl)
      have K1 : (F1 = 0 ∧ (N == (S1.size : Int)) = true) ∨ ((F1 == 0) = false ∧ (F1 != 0) = true) := by
        by_cases e : F1 = 0
        · exact .inl ⟨e, HVn.out e⟩
        · exact .inr ⟨beq_eq_false_iff_ne.2 e, bne_iff_ne.2 e⟩
      have K2 : (decide (0 ≤ bus) = false ∧ F2 = 1) ∨ (decide (0 ≤ bus) = true ∧ decide (bus < 6) = false ∧ F2 = 1) ∨ (decide (0 ≤ bus) = true ∧ decide (bus < 6) = true ∧ F2 = H2 ∧ H2 = 0 ∧ (M == (S2.size : Int)) = true) ∨ (decide (0 ≤ bus) = true ∧ decide (bus < 6) = true ∧ F2 = H2 ∧ (H2 == 0) = false ∧ (H2 != 0) = true) := by
        have h2 := HF2.out
        by_cases g0 : bus < 0
        · rw [if_pos (.inl g0)] at h2
          exact .inl ⟨decide_eq_false (by omega), h2⟩
        · by_cases g6 : 6 ≤ bus
          · rw [if_pos (.inr g6)] at h2
            exact .inr (.inl ⟨decide_eq_true (by omega), decide_eq_false (by omega), h2⟩)
          · rw [if_neg (fun g => g.elim g0 g6)] at h2
            by_cases e : H2 = 0
            · exact .inr (.inr (.inl ⟨decide_eq_true (by omega), decide_eq_true (by omega), h2, e, HDn.out (h2.trans e)⟩))
            · exact .inr (.inr (.inr ⟨decide_eq_true (by omega), decide_eq_true (by omega), h2, beq_eq_false_iff_ne.2 e, bne_iff_ne.2 e⟩))
      clear HPU HPB HS HT HVn HDn HF2
      go_enter Tryz.func4, Tryz.ntmps4
      go_wp2_with (first | (go_at_call 6; refine (HA.out _).mono ?_; rintro e w3 ⟨rfl, hb⟩; replace hB := below_step hB hb; replace kk := blk_below kk hb; replace jj := blk_below jj hb; replace hk0 := blk_cell kk 0; replace hk1 := blk_cell kk 1; replace hk2 := blk_cell kk 2; replace hk3 := blk_cell kk 3; replace hk4 := blk_cell kk 4; replace hk5 := blk_cell kk 5; replace hk6 := blk_cell kk 6; replace hk7 := blk_cell kk 7; replace hk8 := blk_cell kk 8; replace hj0 := blk_cell jj 0; replace hj1 := blk_cell jj 1; clear hb) | (go_at_call_of 5 (Value.slice A' n2 c'); refine (HM.out _ hB).mono ?_; rintro e w2 ⟨rfl, hb⟩; replace hB := below_step hB hb; replace kk := blk_below kk hb; replace jj := blk_below jj hb; replace hk0 := blk_cell kk 0; replace hk1 := blk_cell kk 1; replace hk2 := blk_cell kk 2; replace hk3 := blk_cell kk 3; replace hk4 := blk_cell kk 4; replace hk5 := blk_cell kk 5; replace hk6 := blk_cell kk 6; replace hk7 := blk_cell kk 7; replace hk8 := blk_cell kk 8; replace hj0 := blk_cell jj 0; replace hj1 := blk_cell jj 1; clear hb) | (go_at_call_of 5 (Value.slice A n1 c); refine (HL.out _ hB).mono ?_; rintro e w1 ⟨rfl, hb⟩; replace hB := below_step hB hb; replace kk := blk_below kk hb; replace jj := blk_below jj hb; replace hk0 := blk_cell kk 0; replace hk1 := blk_cell kk 1; replace hk2 := blk_cell kk 2; replace hk3 := blk_cell kk 3; replace hk4 := blk_cell kk 4; replace hk5 := blk_cell kk 5; replace hk6 := blk_cell kk 6; replace hk7 := blk_cell kk 7; replace hk8 := blk_cell kk 8; replace hj0 := blk_cell jj 0; replace hj1 := blk_cell jj 1; clear hb))
      obtain ⟨X, f, hf, hg⟩ := cls_of (fun W : World => (Below w.heap.size w W ∧ W.heap[w.heap.size]? = some (.cells #[.int .i64 ub, .int .i64 mi, .slice A n1 c, .int .i64 up, .int .i64 dn, .int .i64 st, .int .i64 idl, .int .i64 sp, .int .i64 on] 24 (0, 0))) ∧ W.heap[w.heap.size + 1]? = some (.cells #[.int .i64 bus, .slice A' n2 c'] 26 (0, 0)))
      have HF := Lib.hid hf
      have HW1' : Hid (∀ x : X, Calls Tryz.prog 11 #[.agg #[.int .i64 ub, .int .i64 mi, .slice A n1 c, .int .i64 up, .int .i64 dn, .int .i64 st, .int .i64 idl, .int .i64 sp, .int .i64 on]] (f x) fun e w' => e = .returned (.string S1) ∧ ∃ y : X, w' = f y) := fun x => (HW1.out (f x) (hf x).1.1 HN1.out).mono fun e w' ⟨he, hb⟩ => ⟨he, hg _ ⟨⟨below_step (hf x).1.1 hb, blk_below (hf x).1.2 hb⟩, blk_below (hf x).2 hb⟩⟩
      have HW2' : Hid (∀ x : X, Calls Tryz.prog 12 #[.agg #[.int .i64 bus, .slice A' n2 c']] (f x) fun e w' => e = .returned (.string S2) ∧ ∃ y : X, w' = f y) := fun x => (HW2.out (f x) (hf x).1.1 HN0.out).mono fun e w' ⟨he, hb⟩ => ⟨he, hg _ ⟨⟨below_step (hf x).1.1 hb, blk_below (hf x).1.2 hb⟩, blk_below (hf x).2 hb⟩⟩
      have HG := Lib.hid (hg w3.drew ⟨⟨below_drew hB, kk⟩, jj⟩)
      have hne : Nonempty X := HG.out.elim (fun x _ => ⟨x⟩)
      have u0 : ∀ x : X, (f x).cell? ⟨w.heap.size, 0, none⟩ = some (.int .i64 ub) := fun x => blk_cell (hf x).1.2 0
      have u1 : ∀ x : X, (f x).cell? ⟨w.heap.size, 1, none⟩ = some (.int .i64 mi) := fun x => blk_cell (hf x).1.2 1
      have u2 : ∀ x : X, (f x).cell? ⟨w.heap.size, 2, none⟩ = some (.slice A n1 c) := fun x => blk_cell (hf x).1.2 2
      have u3 : ∀ x : X, (f x).cell? ⟨w.heap.size, 3, none⟩ = some (.int .i64 up) := fun x => blk_cell (hf x).1.2 3
      have u4 : ∀ x : X, (f x).cell? ⟨w.heap.size, 4, none⟩ = some (.int .i64 dn) := fun x => blk_cell (hf x).1.2 4
      have u5 : ∀ x : X, (f x).cell? ⟨w.heap.size, 5, none⟩ = some (.int .i64 st) := fun x => blk_cell (hf x).1.2 5
      have u6 : ∀ x : X, (f x).cell? ⟨w.heap.size, 6, none⟩ = some (.int .i64 idl) := fun x => blk_cell (hf x).1.2 6
      have u7 : ∀ x : X, (f x).cell? ⟨w.heap.size, 7, none⟩ = some (.int .i64 sp) := fun x => blk_cell (hf x).1.2 7
      have u8 : ∀ x : X, (f x).cell? ⟨w.heap.size, 8, none⟩ = some (.int .i64 on) := fun x => blk_cell (hf x).1.2 8
      have y0 : ∀ x : X, (f x).cell? ⟨w.heap.size + 1, 0, none⟩ = some (.int .i64 bus) := fun x => blk_cell (hf x).2 0
      have y1 : ∀ x : X, (f x).cell? ⟨w.heap.size + 1, 1, none⟩ = some (.slice A' n2 c') := fun x => blk_cell (hf x).2 1
      clear hf hg
      refine wp_region_cls f (by kernel_rfl) (by kernel_rfl) HG.out ?_
      repeat (go_big_quiet_step (first | exact HW1'.out _ | exact HW2'.out _))
      refine wpQuiet_nil ?_
      rintro w4 ⟨x, rfl⟩
      replace hB := (HF.out x).1.1
      replace kk := (HF.out x).1.2
      replace jj := (HF.out x).2
      replace hk0 := blk_cell kk 0; replace hk1 := blk_cell kk 1; replace hk2 := blk_cell kk 2; replace hk3 := blk_cell kk 3; replace hk4 := blk_cell kk 4; replace hk5 := blk_cell kk 5; replace hk6 := blk_cell kk 6; replace hk7 := blk_cell kk 7; replace hk8 := blk_cell kk 8
      replace hj0 := blk_cell jj 0; replace hj1 := blk_cell jj 1
      clear u0 u1 u2 u3 u4 u5 u6 u7 u8 y0 y1 HW1' HW2' HG hne
      rcases K1 with ⟨rfl, q1⟩ | ⟨q1, q1'⟩
      all_goals rcases K2 with ⟨q2, rfl⟩ | ⟨q2, q3, rfl⟩ | ⟨q2, q3, rfl, rfl, q4⟩ | ⟨q2, q3, rfl, q4, q4'⟩
      all_goals go_wp2_with (first | (go_at_call 18; refine (HT'.out (by trivial) _ hB A2 c2 rD hc2).mono ?_; rintro e w10 ⟨rfl, hb⟩; replace hB := below_step hB hb; replace kk := blk_below kk hb; replace jj := blk_below jj hb; replace vv := blk_below vv hb; replace dd := blk_below dd hb; replace rV := Kd.C_below rV hb; replace rD := Kd.C_below rD hb; clear hb) | (go_at_call 17; refine (HS'.out (by trivial) _ hB A1 c1 rV hc1).mono ?_; rintro e w9 ⟨rfl, hb⟩; replace hB := below_step hB hb; replace kk := blk_below kk hb; replace jj := blk_below jj hb; replace vv := blk_below vv hb; replace dd := blk_below dd hb; replace rV := Kd.C_below rV hb; replace rD := Kd.C_below rD hb; replace hk0 := blk_cell kk 0; replace hk1 := blk_cell kk 1; replace hk2 := blk_cell kk 2; replace hk3 := blk_cell kk 3; replace hk4 := blk_cell kk 4; replace hk5 := blk_cell kk 5; replace hk6 := blk_cell kk 6; replace hk7 := blk_cell kk 7; replace hk8 := blk_cell kk 8; replace hj0 := blk_cell jj 0; replace hj1 := blk_cell jj 1; replace hv0 := blk_cell vv 0; replace hv1 := blk_cell vv 1; replace hv2 := blk_cell vv 2; replace hv3 := blk_cell vv 3; replace hv4 := blk_cell vv 4; replace hv5 := blk_cell vv 5; replace hv6 := blk_cell vv 6; replace hv7 := blk_cell vv 7; replace hv8 := blk_cell vv 8; replace hd0 := blk_cell dd 0; replace hd1 := blk_cell dd 1; clear hb) | (go_at_call 16; refine (HK.out _ hB (Nat.lt_trans HN1.out (by decide))).mono ?_; rintro e w8 ⟨rfl, hb⟩; replace hB := below_step hB hb; replace kk := blk_below kk hb; replace jj := blk_below jj hb; replace vv := blk_below vv hb; replace dd := blk_below dd hb; replace rV := Kd.C_below rV hb; replace rD := Kd.C_below rD hb; replace hk0 := blk_cell kk 0; replace hk1 := blk_cell kk 1; replace hk2 := blk_cell kk 2; replace hk3 := blk_cell kk 3; replace hk4 := blk_cell kk 4; replace hk5 := blk_cell kk 5; replace hk6 := blk_cell kk 6; replace hk7 := blk_cell kk 7; replace hk8 := blk_cell kk 8; replace hj0 := blk_cell jj 0; replace hj1 := blk_cell jj 1; replace hv0 := blk_cell vv 0; replace hv1 := blk_cell vv 1; replace hv2 := blk_cell vv 2; replace hv3 := blk_cell vv 3; replace hv4 := blk_cell vv 4; replace hv5 := blk_cell vv 5; replace hv6 := blk_cell vv 6; replace hv7 := blk_cell vv 7; replace hv8 := blk_cell vv 8; replace hd0 := blk_cell dd 0; replace hd1 := blk_cell dd 1; clear hb) | (go_at_call 15; refine (HC.out _ hB).mono ?_; rintro e w7 ⟨rfl, hb⟩; replace hB := below_step hB hb; replace kk := blk_below kk hb; replace jj := blk_below jj hb; replace vv := blk_below vv hb; replace dd := blk_below dd hb; replace rV := Kd.C_below rV hb; replace rD := Kd.C_below rD hb; replace hk0 := blk_cell kk 0; replace hk1 := blk_cell kk 1; replace hk2 := blk_cell kk 2; replace hk3 := blk_cell kk 3; replace hk4 := blk_cell kk 4; replace hk5 := blk_cell kk 5; replace hk6 := blk_cell kk 6; replace hk7 := blk_cell kk 7; replace hk8 := blk_cell kk 8; replace hj0 := blk_cell jj 0; replace hj1 := blk_cell jj 1; replace hv0 := blk_cell vv 0; replace hv1 := blk_cell vv 1; replace hv2 := blk_cell vv 2; replace hv3 := blk_cell vv 3; replace hv4 := blk_cell vv 4; replace hv5 := blk_cell vv 5; replace hv6 := blk_cell vv 6; replace hv7 := blk_cell vv 7; replace hv8 := blk_cell vv 8; replace hd0 := blk_cell dd 0; replace hd1 := blk_cell dd 1; clear hb) | (go_at_call 14; refine (HPB'.out _).mono ?_; rintro e w6 ⟨A2, c2, hc2, rfl, hr2, hb⟩; replace hB := below_alloc (below_step hB hb) (.cells #[.int .i64 db, .slice A2 nd c2] 26); replace kk := blk_alloc (blk_below kk hb) (.cells #[.int .i64 db, .slice A2 nd c2] 26); replace jj := blk_alloc (blk_below jj hb) (.cells #[.int .i64 db, .slice A2 nd c2] 26); replace vv := blk_alloc (blk_below vv hb) (.cells #[.int .i64 db, .slice A2 nd c2] 26); replace rV := Kd.C_alloc (Kd.C_below rV hb) (.cells #[.int .i64 db, .slice A2 nd c2] 26); have dd := blk_new w6 (.cells #[.int .i64 db, .slice A2 nd c2] 26); have rD := Kd.C_alloc hr2 (.cells #[.int .i64 db, .slice A2 nd c2] 26); replace hk0 := blk_cell kk 0; replace hk1 := blk_cell kk 1; replace hk2 := blk_cell kk 2; replace hk3 := blk_cell kk 3; replace hk4 := blk_cell kk 4; replace hk5 := blk_cell kk 5; replace hk6 := blk_cell kk 6; replace hk7 := blk_cell kk 7; replace hk8 := blk_cell kk 8; replace hj0 := blk_cell jj 0; replace hj1 := blk_cell jj 1; replace hv0 := blk_cell vv 0; replace hv1 := blk_cell vv 1; replace hv2 := blk_cell vv 2; replace hv3 := blk_cell vv 3; replace hv4 := blk_cell vv 4; replace hv5 := blk_cell vv 5; replace hv6 := blk_cell vv 6; replace hv7 := blk_cell vv 7; replace hv8 := blk_cell vv 8; replace hd0 := blk_cell dd 0; replace hd1 := blk_cell dd 1; clear hb) | (go_at_call 13; refine (HPU'.out _).mono ?_; rintro e w5 ⟨A1, c1, hc1, rfl, hr1, hb⟩; replace hB := below_alloc (below_step hB hb) (.cells #[.int .i64 vb, .int .i64 vmi, .slice A1 nv c1, .int .i64 vup, .int .i64 vdn, .int .i64 vst, .int .i64 vid, .int .i64 vsp, .int .i64 von] 24); replace kk := blk_alloc (blk_below kk hb) (.cells #[.int .i64 vb, .int .i64 vmi, .slice A1 nv c1, .int .i64 vup, .int .i64 vdn, .int .i64 vst, .int .i64 vid, .int .i64 vsp, .int .i64 von] 24); replace jj := blk_alloc (blk_below jj hb) (.cells #[.int .i64 vb, .int .i64 vmi, .slice A1 nv c1, .int .i64 vup, .int .i64 vdn, .int .i64 vst, .int .i64 vid, .int .i64 vsp, .int .i64 von] 24); have vv := blk_new w5 (.cells #[.int .i64 vb, .int .i64 vmi, .slice A1 nv c1, .int .i64 vup, .int .i64 vdn, .int .i64 vst, .int .i64 vid, .int .i64 vsp, .int .i64 von] 24); have rV := Kd.C_alloc hr1 (.cells #[.int .i64 vb, .int .i64 vmi, .slice A1 nv c1, .int .i64 vup, .int .i64 vdn, .int .i64 vst, .int .i64 vid, .int .i64 vsp, .int .i64 von] 24); replace hk0 := blk_cell kk 0; replace hk1 := blk_cell kk 1; replace hk2 := blk_cell kk 2; replace hk3 := blk_cell kk 3; replace hk4 := blk_cell kk 4; replace hk5 := blk_cell kk 5; replace hk6 := blk_cell kk 6; replace hk7 := blk_cell kk 7; replace hk8 := blk_cell kk 8; replace hj0 := blk_cell jj 0; replace hj1 := blk_cell jj 1; replace hv0 := blk_cell vv 0; replace hv1 := blk_cell vv 1; replace hv2 := blk_cell vv 2; replace hv3 := blk_cell vv 3; replace hv4 := blk_cell vv 4; replace hv5 := blk_cell vv 5; replace hv6 := blk_cell vv 6; replace hv7 := blk_cell vv 7; replace hv8 := blk_cell vv 8; clear hb))
      all_goals go_ret
      all_goals exact ⟨rfl, hB⟩
end Ar
end Go.Proofs.YtnghcgmkncbnnaaGreat
end
