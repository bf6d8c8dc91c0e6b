/- Part 16 of the proof: The reference of bidtext: number. The reference of bidtext: the text of a curve. The reference of bidtext: Write, WriteBid, FormatUnit, FormatBid. The reference of bidtext: Write, FormatUnit, FormatBid. What is right has small numbers; its text is the reference's text. The law BidtextFormatMatches: the walk. -/
import Derived.Test.YtnghcgmkncbnnaaGreatM11
import Derived.Test.YtnghcgmkncbnnaaGreatM14
import Derived.Test.YtnghcgmkncbnnaaGreatM15
set_option linter.unusedVariables false
set_option linter.unusedSimpArgs false
section
namespace Go.Proofs.YtnghcgmkncbnnaaGreat
open Go.RowKit Go.Proofs.YtnghcgmkncbnnaaGreatW.PrintWords Go.Proofs.YtnghcgmkncbnnaaGreatW.PrintLast Go.Proofs.YtnghcgmkncbnnaaGreatW.PrintMore
namespace Ar
open Wd
def Sml (n : Int) : Prop := n.natAbs < 281474976710656
def numB (n : Int) : ByteArray := ⟨#[32]⟩ ++ decB n
theorem refNumber_c {w : World} (n : Int) (hn : Sml n) : Calls Tryz.prog 27 #[.int .i64 n] w fun e w' => e = .returned (.string (numB n)) ∧ Below w.heap.size w w' := by
  have hl := decB_len n
  have HF := Lib.hid (refFrom_c (w := w) n (by unfold Sml at hn; unfold i64r; omega))
  have HT := Lib.hid (fun (W : World) ok v (h : ZV W ok v n) => refText_c h hn)
  unfold numB
  generalize decB n = R at hl HT ⊢
  have h1 : 1 + R.size ≤ 9223372036854775807 := by omega
  go_enter Tryz.func27, Tryz.ntmps27
  go_wp2_with (first | (go_at_call 49; refine HF.out.mono ?_; rintro e w1 ⟨v1, rfl, hv, hb1⟩; obtain ⟨b1, A1, r1, c1, rfl, H1, hu1⟩ := zv_openh hv) | (go_at_call 48; refine (HT.out _ _ _ (zv_mk H1.out.1 H1.out.2 hu1)).mono ?_; rintro e w2 ⟨rfl, hb2⟩; have hB2 := below_step hb1 hb2))
  go_ret
  exact ⟨rfl, hB2⟩
end Ar
end Go.Proofs.YtnghcgmkncbnnaaGreat
end
section
namespace Go.Proofs.YtnghcgmkncbnnaaGreat
open Go.RowKit Go.Proofs.YtnghcgmkncbnnaaGreatW.PrintWords Go.Proofs.YtnghcgmkncbnnaaGreatW.PrintLast Go.Proofs.YtnghcgmkncbnnaaGreatW.PrintMore
namespace Ar
open Wd
def stB (l : List Stp) : Nat → ByteArray
  | 0 => ⟨#[]⟩
  | i + 1 => stB l i ++ ⟨#[32, 40]⟩ ++ decB (rdS l i).f0 ++ numB (rdS l i).f1 ++ ⟨#[41]⟩
theorem numB_len (n : Int) : (numB n).size ≤ 41 ∧ 1 ≤ (numB n).size := by
  have := decB_len n
  unfold numB
  rw [ByteArray.size_append]
  have h1 : (⟨#[32]⟩ : ByteArray).size = 1 := rfl
  omega
theorem stB_len (l : List Stp) : ∀ i, (stB l i).size ≤ 100 * i
  | 0 => by simp [stB, ByteArray.size]
  | i + 1 => by
    have h1 := stB_len l i
    have h2 := decB_len (rdS l i).f0
    have h3 := (numB_len (rdS l i).f1).1
    have h4 : (⟨#[32, 40]⟩ : ByteArray).size = 2 := rfl
    have h5 : (⟨#[41]⟩ : ByteArray).size = 1 := rfl
    unfold stB
    rw [ByteArray.size_append, ByteArray.size_append, ByteArray.size_append, ByteArray.size_append]
    omega
theorem numB_tail (n : Int) : (numB n).extract 1 (numB n).size = decB n := by
  unfold numB
  refine ByteArray.ext ?_
  simp
  right
  have : (⟨#[32]⟩ : ByteArray).size = 1 := rfl
  omega
set_option maxRecDepth 100000 in
set_option maxHeartbeats 8000000 in
theorem refSteps_c {w : World} (A : Option Addr) (c : Nat) (l : List Stp) (hr : Kd.C kStp w A l.length l) (hc : l.length ≤ c) (hlen : l.length < 1000000) (hs : ∀ s ∈ l, Sml s.f0 ∧ Sml s.f1) :
    Calls Tryz.prog 28 #[.slice A l.length c] w fun e w' => e = .returned (.string (stB l l.length)) ∧ Below w.heap.size w w' := by
  have hS := Tryz.underlying60
  have Hs := Lib.hid hs
  clear hs
  go_enter Tryz.func28, Tryz.ntmps28
  go_wp2
  go_loopg [3, 4] l.length (fun k v3 v W => ∃ i : Nat, v = .int .i64 i ∧ v3 = .string (stB l i) ∧ i + k = l.length ∧ Below w.heap.size w W)
  case atStart => exact ⟨0, rfl, rfl, by omega, Below.refl _ _⟩
  case round =>
    obtain ⟨i, rfl, rfl, hi, hB⟩ := hrel
    cases gk with
    | zero =>
      obtain rfl : i = l.length := by omega
      have hlb : decide ((l.length : Int) < (l.length : Int)) = false := decide_eq_false (by omega)
      go_wp2
      go_ret
      exact ⟨rfl, hB⟩
    | succ n =>
      have hlt : i < l.length := by omega
      have hlb : decide ((i : Int) < (l.length : Int)) = true := decide_eq_true (by omega)
      have hln : decide (i < l.length) = true := decide_eq_true hlt
      have hi1 : (0 : Int) ≤ (i : Int) := by omega
      have hi2 : (i : Int) < (l.length : Int) := by omega
      have hw3 : wrap64 ((i : Int) + 1) = ((i + 1 : Nat) : Int) := w64succ i (by omega)
      obtain ⟨⟨x0, x1⟩, hx⟩ : ∃ x, rdS l i = x := ⟨_, rfl⟩
      have hsm : Sml x0 ∧ Sml x1 := by
        have hg : l.getD i E.z60 = ⟨x0, x1⟩ := hx
        have := Hs.out (l.getD i E.z60) (by rw [List.getD_eq_getElem?_getD, List.getElem?_eq_getElem hlt]; exact List.getElem_mem hlt)
        rw [hg] at this; exact this
      obtain ⟨ad, rfl, g0, g1⟩ := E.at_T60 (Kd.C_below hr hB) i (by omega) (by omega)
      rw [show E.rd_T60 l ((i : Nat) : Int) = ⟨x0, x1⟩ from hx] at g0 g1
      dsimp only at g0 g1
      rw [Int.toNat_natCast] at g0 g1
      have hst : stB l (i + 1) = stB l i ++ ⟨#[32, 40]⟩ ++ decB x0 ++ numB x1 ++ ⟨#[41]⟩ := by rw [stB, hx]
      have HST := Lib.hid hst
      have b1 := stB_len l i
      have b2 := decB_len x0
      have b3 := (numB_len x1).1
      have b4 := numB_len x0
      obtain ⟨X, f, hf, hg⟩ := cls_of (fun W : World => Below w.heap.size w W ∧ W.cell? (ad.add (i * 2)) = some (.int .i64 x0) ∧ W.cell? ⟨(ad.add (i * 2)).block, (ad.add (i * 2)).off + 1, none⟩ = some (.int .i64 x1))
      have HF := Lib.hid hf
      have keepc : ∀ (W W' : World) (a : Addr) (v : Value), W.cell? a = some v → Below W.heap.size W W' → W'.cell? a = some v := fun W W' a v h hb => (World.cell?_of_block (hb.block _ (World.block_lt_of_cell? W _ h))).trans h
      have HM : Hid (∀ (n : Int), Sml n → ∀ x : X, Calls Tryz.prog 27 #[.int .i64 n] (f x) fun e w' => e = .returned (.string (numB n)) ∧ ∃ y : X, w' = f y) := fun n hn x => (refNumber_c n hn).mono fun e w' ⟨he, hb⟩ => ⟨he, hg _ ⟨below_step (hf x).1 hb, keepc _ _ _ _ (hf x).2.1 hb, keepc _ _ _ _ (hf x).2.2 hb⟩⟩
      have HG := Lib.hid (hg wr.drew ⟨below_drew hB, g0, g1⟩)
      have hne : Nonempty X := HG.out.elim (fun x _ => ⟨x⟩)
      have u0 : ∀ x : X, (f x).cell? (ad.add (i * 2)) = some (.int .i64 x0) := fun x => (hf x).2.1
      have u1 : ∀ x : X, (f x).cell? ⟨(ad.add (i * 2)).block, (ad.add (i * 2)).off + 1, none⟩ = some (.int .i64 x1) := fun x => (hf x).2.2
      have HM0 := Lib.hid (HM.out x0 hsm.1)
      have HM1 := Lib.hid (HM.out x1 hsm.2)
      have HTl := Lib.hid (numB_tail x0)
      have HT2 := Lib.hid (show (decB x0).size = (numB x0).size - 1 by have := numB_len x0; unfold numB; rw [ByteArray.size_append]; have h1 : (⟨#[32]⟩ : ByteArray).size = 1 := rfl; omega)
      clear hx hst hf hg HM hsm keepc
      have htl := HTl.out
      have c0 : (1 : Int) ≤ ((numB x0).size : Int) := by omega
      have m1 : (stB l i).size + 2 ≤ 9223372036854775807 := by omega
      have m2 : (stB l i).size + 2 + (decB x0).size ≤ 9223372036854775807 := by omega
      have m3 : (stB l i).size + 2 + (decB x0).size + (numB x1).size ≤ 9223372036854775807 := by omega
      have m4 : (stB l i).size + 2 + (decB x0).size + (numB x1).size + 1 ≤ 9223372036854775807 := by omega
      go_wp2_with fail
      refine wp_region_cls f (by kernel_rfl) (by kernel_rfl) HG.out ?_
      repeat (go_big_quiet_step (first | (go_at_call_of 27 (Value.int .i64 x0); exact HM0.out _) | (go_at_call_of 27 (Value.int .i64 x1); exact HM1.out _) | exact HM0.out _ | exact HM1.out _))
      refine wpQuiet_nil ?_
      rintro w2 ⟨x, rfl⟩
      have hB2 := (HF.out x).1
      go_wp2
      go_roundg n
      case measure => omega
      case rel => exact ⟨i + 1, by first | exact congrArg (Value.int .i64) hw3 | exact congrArg (Value.int .i64) (Int.natCast_succ i).symm, by rw [HST.out], by omega, hB2⟩
end Ar
end Go.Proofs.YtnghcgmkncbnnaaGreat
end
section
namespace Go.Proofs.YtnghcgmkncbnnaaGreat
open Go.RowKit Go.Proofs.YtnghcgmkncbnnaaGreatW.PrintWords Go.Proofs.YtnghcgmkncbnnaaGreatW.PrintLast Go.Proofs.YtnghcgmkncbnnaaGreatW.PrintMore
namespace Ar
open Wd
def wrB (bus : Int) (l : List Stp) : ByteArray := ⟨#[40, 98, 105, 100]⟩ ++ numB bus ++ stB l l.length ++ ⟨#[41]⟩
def wrU (u : Un) : ByteArray := ⟨#[40, 117, 110, 105, 116]⟩ ++ numB u.bus ++ numB u.min ++ numB u.up ++ numB u.down ++ numB u.start ++ numB u.idle ++ numB u.spin ++ numB u.on ++ stB u.steps u.steps.length ++ ⟨#[41]⟩
set_option maxRecDepth 100000 in
set_option maxHeartbeats 8000000 in
theorem WriteBid_c {w : World} (bus : Int) (l : List Stp) (A : Option Addr) (c : Nat) (hr : Kd.C kStp w A l.length l) (hc : l.length ≤ c) (hlen : l.length < 1000000) (hb : Sml bus) (hs : ∀ s ∈ l, Sml s.f0 ∧ Sml s.f1) :
    Calls Tryz.prog 12 #[.agg (biC bus (.slice A l.length c))] w fun e w' => e = .returned (.string (wrB bus l)) ∧ Below w.heap.size w w' := by
  have hU := Tryz.underlying26
  have hb0 := below_alloc (Below.refl _ w) (.cells #[.int .i64 bus, .slice A l.length c] 26)
  have k0 := blk_new w (.cells #[.int .i64 bus, .slice A l.length c] 26)
  obtain ⟨X, f, hf, hg⟩ := cls_of (fun W : World => Below w.heap.size w W ∧ W.heap[w.heap.size]? = some (.cells #[.int .i64 bus, .slice A l.length c] 26 (0, 0)))
  have HF := Lib.hid hf
  have HM0 : Hid (∀ x : X, Calls Tryz.prog 27 #[.int .i64 bus] (f x) fun e w' => e = .returned (.string (numB bus)) ∧ ∃ y : X, w' = f y) := fun x => (refNumber_c bus hb).mono fun e w' ⟨he, hb⟩ => ⟨he, hg _ ⟨below_step (hf x).1 hb, blk_below (hf x).2 hb⟩⟩
  have HM1 : Hid (∀ x : X, Calls Tryz.prog 28 #[.slice A l.length c] (f x) fun e w' => e = .returned (.string (stB l l.length)) ∧ ∃ y : X, w' = f y) := fun x => (refSteps_c A c l (Kd.C_below hr (hf x).1) hc hlen hs).mono fun e w' ⟨he, hb⟩ => ⟨he, hg _ ⟨below_step (hf x).1 hb, blk_below (hf x).2 hb⟩⟩
  have HG := Lib.hid (hg (w.alloc (.cells #[.int .i64 bus, .slice A l.length c] 26)).drew ⟨below_drew hb0, k0⟩)
  have hne : Nonempty X := HG.out.elim (fun x _ => ⟨x⟩)
  have u0 : ∀ x : X, (f x).cell? ⟨w.heap.size, 0, none⟩ = some (.int .i64 bus) := fun x => blk_cell (hf x).2 0
  have u1 : ∀ x : X, (f x).cell? ⟨w.heap.size, 1, none⟩ = some (.slice A l.length c) := fun x => blk_cell (hf x).2 1
  have b1 := (numB_len bus).1
  have b2 := stB_len l l.length
  unfold wrB
  obtain ⟨S, hS⟩ : ∃ S, stB l l.length = S := ⟨_, rfl⟩
  obtain ⟨N, hN⟩ : ∃ N, numB bus = N := ⟨_, rfl⟩
  rw [hN] at HM0 b1 ⊢
  rw [hS] at HM1 b2 ⊢
  have m1 : 4 + N.size ≤ 9223372036854775807 := by omega
  have m2 : 4 + N.size + S.size ≤ 9223372036854775807 := by omega
  have m3 : 4 + N.size + S.size + 1 ≤ 9223372036854775807 := by omega
  clear hS hN hf hg
  go_enter Tryz.func12, Tryz.ntmps12
  go_wp2_with fail
  refine wp_region_cls f (by kernel_rfl) (by kernel_rfl) HG.out ?_
  repeat (go_big_quiet_step (first | (go_at_call 27; exact HM0.out _) | (go_at_call 28; exact HM1.out _) | exact HM0.out _ | exact HM1.out _))
  refine wpQuiet_nil ?_
  rintro w2 ⟨x, rfl⟩
  have hB2 := (HF.out x).1
  go_wp2
  go_ret
  exact ⟨rfl, hB2⟩
end Ar
end Go.Proofs.YtnghcgmkncbnnaaGreat
end
section
namespace Go.Proofs.YtnghcgmkncbnnaaGreat
open Go.RowKit Go.Proofs.YtnghcgmkncbnnaaGreatW.PrintWords Go.Proofs.YtnghcgmkncbnnaaGreatW.PrintLast Go.Proofs.YtnghcgmkncbnnaaGreatW.PrintMore
namespace Ar
open Wd
set_option maxRecDepth 100000 in
set_option maxHeartbeats 16000000 in
theorem Write_c {w : World} (u : Un) (A : Option Addr) (c : Nat) (hr : Kd.C kStp w A u.steps.length u.steps) (hc : u.steps.length ≤ c) (hlen : u.steps.length < 1000000) (hns : ∀ n ∈ unNums u, Sml n) (hs : ∀ s ∈ u.steps, Sml s.f0 ∧ Sml s.f1) :
    Calls Tryz.prog 11 #[.agg (unC u (.slice A u.steps.length c))] w fun e w' => e = .returned (.string (wrU u)) ∧ Below w.heap.size w w' := by
  have hU := Tryz.underlying24
  unfold wrU
  obtain ⟨bus, mi, l, up, dn, st, idl, sp, on⟩ := u
  dsimp only [unC, unNums] at hr hc hlen hns hs ⊢
  have hb0 := below_alloc (Below.refl _ w) (.cells #[.int .i64 bus, .int .i64 mi, .slice A l.length c, .int .i64 up, .int .i64 dn, .int .i64 st, .int .i64 idl, .int .i64 sp, .int .i64 on] 24)
  have k0 := blk_new w (.cells #[.int .i64 bus, .int .i64 mi, .slice A l.length c, .int .i64 up, .int .i64 dn, .int .i64 st, .int .i64 idl, .int .i64 sp, .int .i64 on] 24)
  obtain ⟨X, f, hf, hg⟩ := cls_of (fun W : World => Below w.heap.size w W ∧ W.heap[w.heap.size]? = some (.cells #[.int .i64 bus, .int .i64 mi, .slice A l.length c, .int .i64 up, .int .i64 dn, .int .i64 st, .int .i64 idl, .int .i64 sp, .int .i64 on] 24 (0, 0)))
  have HF := Lib.hid hf
  have HM : ∀ n, Sml n → ∀ x : X, Calls Tryz.prog 27 #[.int .i64 n] (f x) fun e w' => e = .returned (.string (numB n)) ∧ ∃ y : X, w' = f y := fun n hn x => (refNumber_c n hn).mono fun e w' ⟨he, hb⟩ => ⟨he, hg _ ⟨below_step (hf x).1 hb, blk_below (hf x).2 hb⟩⟩
  have HS := Lib.hid (fun (W : World) (h : Below w.heap.size w W) => refSteps_c (w := W) A c l (Kd.C_below hr h) hc hlen hs)
  have HG := Lib.hid (hg (w.alloc (.cells #[.int .i64 bus, .int .i64 mi, .slice A l.length c, .int .i64 up, .int .i64 dn, .int .i64 st, .int .i64 idl, .int .i64 sp, .int .i64 on] 24)).drew ⟨below_drew hb0, k0⟩)
  have hne : Nonempty X := HG.out.elim (fun x _ => ⟨x⟩)
  have u0 : ∀ x : X, (f x).cell? ⟨w.heap.size, 0, none⟩ = some (.int .i64 bus) := fun x => blk_cell (hf x).2 0
  have u1 : ∀ x : X, (f x).cell? ⟨w.heap.size, 1, none⟩ = some (.int .i64 mi) := fun x => blk_cell (hf x).2 1
  have u3 : ∀ x : X, (f x).cell? ⟨w.heap.size, 3, none⟩ = some (.int .i64 up) := fun x => blk_cell (hf x).2 3
  have u4 : ∀ x : X, (f x).cell? ⟨w.heap.size, 4, none⟩ = some (.int .i64 dn) := fun x => blk_cell (hf x).2 4
  have u5 : ∀ x : X, (f x).cell? ⟨w.heap.size, 5, none⟩ = some (.int .i64 st) := fun x => blk_cell (hf x).2 5
  have u6 : ∀ x : X, (f x).cell? ⟨w.heap.size, 6, none⟩ = some (.int .i64 idl) := fun x => blk_cell (hf x).2 6
  have u7 : ∀ x : X, (f x).cell? ⟨w.heap.size, 7, none⟩ = some (.int .i64 sp) := fun x => blk_cell (hf x).2 7
  have u8 : ∀ x : X, (f x).cell? ⟨w.heap.size, 8, none⟩ = some (.int .i64 on) := fun x => blk_cell (hf x).2 8
  have HM0 := Lib.hid (HM bus (hns _ (by simp))); have b0 := (numB_len bus).1; obtain ⟨N0, hN0⟩ : ∃ N, numB bus = N := ⟨_, rfl⟩; rw [hN0] at HM0 b0 ⊢
  have HM1 := Lib.hid (HM mi (hns _ (by simp))); have b1 := (numB_len mi).1; obtain ⟨N1, hN1⟩ : ∃ N, numB mi = N := ⟨_, rfl⟩; rw [hN1] at HM1 b1 ⊢
  have HM2 := Lib.hid (HM up (hns _ (by simp))); have b2 := (numB_len up).1; obtain ⟨N2, hN2⟩ : ∃ N, numB up = N := ⟨_, rfl⟩; rw [hN2] at HM2 b2 ⊢
  have HM3 := Lib.hid (HM dn (hns _ (by simp))); have b3 := (numB_len dn).1; obtain ⟨N3, hN3⟩ : ∃ N, numB dn = N := ⟨_, rfl⟩; rw [hN3] at HM3 b3 ⊢
  have HM4 := Lib.hid (HM st (hns _ (by simp))); have b4 := (numB_len st).1; obtain ⟨N4, hN4⟩ : ∃ N, numB st = N := ⟨_, rfl⟩; rw [hN4] at HM4 b4 ⊢
  have HM5 := Lib.hid (HM idl (hns _ (by simp))); have b5 := (numB_len idl).1; obtain ⟨N5, hN5⟩ : ∃ N, numB idl = N := ⟨_, rfl⟩; rw [hN5] at HM5 b5 ⊢
  have HM6 := Lib.hid (HM sp (hns _ (by simp))); have b6 := (numB_len sp).1; obtain ⟨N6, hN6⟩ : ∃ N, numB sp = N := ⟨_, rfl⟩; rw [hN6] at HM6 b6 ⊢
  have HM7 := Lib.hid (HM on (hns _ (by simp))); have b7 := (numB_len on).1; obtain ⟨N7, hN7⟩ : ∃ N, numB on = N := ⟨_, rfl⟩; rw [hN7] at HM7 b7 ⊢
  have b9 := stB_len l l.length
  obtain ⟨S, hS⟩ : ∃ S, stB l l.length = S := ⟨_, rfl⟩
  rw [hS] at HS b9 ⊢
  have m0 : 5 + N0.size ≤ 9223372036854775807 := by omega
  have m1 : 5 + N0.size + N1.size ≤ 9223372036854775807 := by omega
  have m2 : 5 + N0.size + N1.size + N2.size ≤ 9223372036854775807 := by omega
  have m3 : 5 + N0.size + N1.size + N2.size + N3.size ≤ 9223372036854775807 := by omega
  have m4 : 5 + N0.size + N1.size + N2.size + N3.size + N4.size ≤ 9223372036854775807 := by omega
  have m5 : 5 + N0.size + N1.size + N2.size + N3.size + N4.size + N5.size ≤ 9223372036854775807 := by omega
  have m6 : 5 + N0.size + N1.size + N2.size + N3.size + N4.size + N5.size + N6.size ≤ 9223372036854775807 := by omega
  have m7 : 5 + N0.size + N1.size + N2.size + N3.size + N4.size + N5.size + N6.size + N7.size ≤ 9223372036854775807 := by omega
  have m8 : 5 + N0.size + N1.size + N2.size + N3.size + N4.size + N5.size + N6.size + N7.size + S.size ≤ 9223372036854775807 := by omega
  have m9 : 5 + N0.size + N1.size + N2.size + N3.size + N4.size + N5.size + N6.size + N7.size + S.size + 1 ≤ 9223372036854775807 := by omega
  have HFk := Lib.hid (fun x => (hf x).2)
  clear HM hf hg hS hN0 hN1 hN2 hN3 hN4 hN5 hN6 hN7
  go_enter Tryz.func11, Tryz.ntmps11
  go_wp2_with fail
  refine wp_region_cls f (by kernel_rfl) (by kernel_rfl) HG.out ?_
  try dsimp only [List.append]
  repeat (go_big_quiet_step (first | (go_at_call_of 27 (Value.int .i64 bus); exact HM0.out _) | (go_at_call_of 27 (Value.int .i64 mi); exact HM1.out _) | (go_at_call_of 27 (Value.int .i64 up); exact HM2.out _) | (go_at_call_of 27 (Value.int .i64 dn); exact HM3.out _) | (go_at_call_of 27 (Value.int .i64 st); exact HM4.out _) | (go_at_call_of 27 (Value.int .i64 idl); exact HM5.out _) | (go_at_call_of 27 (Value.int .i64 sp); exact HM6.out _) | (go_at_call_of 27 (Value.int .i64 on); exact HM7.out _) | exact HM0.out _ | exact HM1.out _ | exact HM2.out _ | exact HM3.out _ | exact HM4.out _ | exact HM5.out _ | exact HM6.out _ | exact HM7.out _))
  refine wpQuiet_nil ?_
  rintro w2 ⟨x, rfl⟩
  have hB2 := (HF.out x).1
  have k2 := HFk.out x
  have hz0 := blk_cell k2 0; have hz1 := blk_cell k2 1; have hz2 := blk_cell k2 2; have hz3 := blk_cell k2 3; have hz4 := blk_cell k2 4; have hz5 := blk_cell k2 5; have hz6 := blk_cell k2 6; have hz7 := blk_cell k2 7; have hz8 := blk_cell k2 8; have hzf0 := blk_frozen k2 0; have hzf1 := blk_frozen k2 1; have hzf2 := blk_frozen k2 2; have hzf3 := blk_frozen k2 3; have hzf4 := blk_frozen k2 4; have hzf5 := blk_frozen k2 5; have hzf6 := blk_frozen k2 6; have hzf7 := blk_frozen k2 7; have hzf8 := blk_frozen k2 8
  go_wp2_with (first | (go_at_call 28; refine (HS.out _ hB2).mono ?_; rintro e w3 ⟨rfl, hb3⟩; have hB3 := below_step hB2 hb3))
  go_ret
  exact ⟨rfl, hB3⟩
set_option maxRecDepth 100000 in
set_option maxHeartbeats 8000000 in
theorem refFormatBid_c {w : World} (bus : Int) (l : List Stp) (A : Option Addr) (c : Nat) (hr : Kd.C kStp w A l.length l) (hc : l.length ≤ c) (hlen : l.length < 1000000) (hok : checkB bus l = 0 → Sml bus ∧ ∀ s ∈ l, Sml s.f0 ∧ Sml s.f1) :
    Calls Tryz.prog 10 #[.agg (biC bus (.slice A l.length c))] w fun e w' => e = .returned (.tuple #[.string (if checkB bus l = 0 then wrB bus l else ⟨#[]⟩), .int .i64 (checkB bus l)]) ∧ Below w.heap.size w w' := by
  have hU := Tryz.underlying26
  have hb0 := below_alloc (Below.refl _ w) (.cells #[.int .i64 bus, .slice A l.length c] 26)
  have k0 := blk_new w (.cells #[.int .i64 bus, .slice A l.length c] 26)
  have HW := Lib.hid (fun (W : World) (h : Below w.heap.size w W) => refB_c (w := W) bus l A c (Kd.C_below hr h) hc)
  have HS := Lib.hid (fun (h0 : checkB bus l = 0) (W : World) (h : Below w.heap.size w W) => WriteBid_c (w := W) bus l A c (Kd.C_below hr h) hc hlen (hok h0).1 (hok h0).2)
  generalize wrB bus l = R at HS ⊢
  clear hok hr
  generalize checkB bus l = F at HW HS ⊢
  have hk0 := blk_cell k0 0; have hk1 := blk_cell k0 1; have hkf0 := blk_frozen k0 0; have hkf1 := blk_frozen k0 1
  by_cases h : F = 0
  · subst h
    have HS' := Lib.hid (HS.out rfl)
    rw [if_pos rfl]
    clear HS
    go_enter Tryz.func10, Tryz.ntmps10
    go_wp2_with (first | (go_at_call 26; refine (HW.out _ hb0).mono ?_; rintro e w1 ⟨rfl, hb1⟩; have hB1 := below_step hb0 hb1; have i1 := blk_below k0 hb1; have hj0 := blk_cell i1 0; have hj1 := blk_cell i1 1; have hjf0 := blk_frozen i1 0; have hjf1 := blk_frozen i1 1) | (go_at_call 12; refine (HS'.out _ hB1).mono ?_; rintro e w2 ⟨rfl, hb2⟩; have hB2 := below_step hB1 hb2))
    go_ret2
    exact ⟨rfl, hB2⟩
  · rw [if_neg h]
    have hb : (F != 0) = true := bne_iff_ne.2 h
    clear h HS
    go_enter Tryz.func10, Tryz.ntmps10
    go_wp2_with (first | (go_at_call 26; refine (HW.out _ hb0).mono ?_; rintro e w1 ⟨rfl, hb1⟩; have hB1 := below_step hb0 hb1; have i1 := blk_below k0 hb1))
    go_ret2
    exact ⟨rfl, hB1⟩
set_option maxRecDepth 100000 in
set_option maxHeartbeats 8000000 in
theorem refFormatUnit_c {w : World} (u : Un) (A : Option Addr) (c : Nat) (hr : Kd.C kStp w A u.steps.length u.steps) (hc : u.steps.length ≤ c) (hlen : u.steps.length < 1000000) (hok : checkU u = 0 → (∀ n ∈ unNums u, Sml n) ∧ ∀ s ∈ u.steps, Sml s.f0 ∧ Sml s.f1) :
    Calls Tryz.prog 8 #[.agg (unC u (.slice A u.steps.length c))] w fun e w' => e = .returned (.tuple #[.string (if checkU u = 0 then wrU u else ⟨#[]⟩), .int .i64 (checkU u)]) ∧ Below w.heap.size w w' := by
  have hU := Tryz.underlying24
  have HW := Lib.hid (fun (W : World) (h : Below w.heap.size w W) => refCheck_c (w := W) u A c (Kd.C_below hr h) hc (by omega))
  have HS := Lib.hid (fun (h0 : checkU u = 0) (W : World) (h : Below w.heap.size w W) => Write_c (w := W) u A c (Kd.C_below hr h) hc hlen (hok h0).1 (hok h0).2)
  generalize wrU u = R at HS ⊢
  clear hok hr
  generalize checkU u = F at HW HS ⊢
  obtain ⟨bus, mi, l, up, dn, st, idl, sp, on⟩ := u
  dsimp only [unC, unNums] at hc hlen HW HS ⊢
  have hb0 := below_alloc (Below.refl _ w) (.cells #[.int .i64 bus, .int .i64 mi, .slice A l.length c, .int .i64 up, .int .i64 dn, .int .i64 st, .int .i64 idl, .int .i64 sp, .int .i64 on] 24)
  have k0 := blk_new w (.cells #[.int .i64 bus, .int .i64 mi, .slice A l.length c, .int .i64 up, .int .i64 dn, .int .i64 st, .int .i64 idl, .int .i64 sp, .int .i64 on] 24)
  have hk0 := blk_cell k0 0; have hk1 := blk_cell k0 1; have hk2 := blk_cell k0 2; have hk3 := blk_cell k0 3; have hk4 := blk_cell k0 4; have hk5 := blk_cell k0 5; have hk6 := blk_cell k0 6; have hk7 := blk_cell k0 7; have hk8 := blk_cell k0 8; have hkf0 := blk_frozen k0 0; have hkf1 := blk_frozen k0 1; have hkf2 := blk_frozen k0 2; have hkf3 := blk_frozen k0 3; have hkf4 := blk_frozen k0 4; have hkf5 := blk_frozen k0 5; have hkf6 := blk_frozen k0 6; have hkf7 := blk_frozen k0 7; have hkf8 := blk_frozen k0 8
  by_cases h : F = 0
  · subst h
    have HS' := Lib.hid (HS.out rfl)
    rw [if_pos rfl]
    clear HS
    go_enter Tryz.func8, Tryz.ntmps8
    go_wp2_with (first | (go_at_call 24; refine (HW.out _ hb0).mono ?_; rintro e w1 ⟨rfl, hb1⟩; have hB1 := below_step hb0 hb1; have i1 := blk_below k0 hb1; have hj0 := blk_cell i1 0; have hj1 := blk_cell i1 1; have hj2 := blk_cell i1 2; have hj3 := blk_cell i1 3; have hj4 := blk_cell i1 4; have hj5 := blk_cell i1 5; have hj6 := blk_cell i1 6; have hj7 := blk_cell i1 7; have hj8 := blk_cell i1 8; have hjf0 := blk_frozen i1 0; have hjf1 := blk_frozen i1 1; have hjf2 := blk_frozen i1 2; have hjf3 := blk_frozen i1 3; have hjf4 := blk_frozen i1 4; have hjf5 := blk_frozen i1 5; have hjf6 := blk_frozen i1 6; have hjf7 := blk_frozen i1 7; have hjf8 := blk_frozen i1 8) | (go_at_call 11; refine (HS'.out _ hB1).mono ?_; rintro e w2 ⟨rfl, hb2⟩; have hB2 := below_step hB1 hb2))
    go_ret2
    exact ⟨rfl, hB2⟩
  · rw [if_neg h]
    have hb : (F != 0) = true := bne_iff_ne.2 h
    clear h HS
    go_enter Tryz.func8, Tryz.ntmps8
    go_wp2_with (first | (go_at_call 24; refine (HW.out _ hb0).mono ?_; rintro e w1 ⟨rfl, hb1⟩; have hB1 := below_step hb0 hb1; have i1 := blk_below k0 hb1))
    go_ret2
    exact ⟨rfl, hB1⟩
end Ar
end Go.Proofs.YtnghcgmkncbnnaaGreat
end
section
namespace Go.Proofs.YtnghcgmkncbnnaaGreat
open Go.RowKit Go.Proofs.YtnghcgmkncbnnaaGreatW.PrintWords Go.Proofs.YtnghcgmkncbnnaaGreatW.PrintLast Go.Proofs.YtnghcgmkncbnnaaGreatW.PrintMore
namespace Ar
open Wd
theorem tn_sml {n : Int} (h : Tn n) : Sml n := by unfold Tn at h; unfold Sml; omega
theorem numB_l (n : Int) : (numB n).data.toList = nT n := by unfold numB nT; rw [ba_app]; rfl
theorem stB_l (l : List Stp) : ∀ i, i ≤ l.length → (stB l i).data.toList = (l.take i).flatMap sT
  | 0, _ => rfl
  | i + 1, h => by
    have ht : l.take (i + 1) = l.take i ++ [rdS l i] := by
      have := take_snocI l i E.z60 h
      rw [this]; rfl
    rw [stB, ba_app, ba_app, ba_app, ba_app, stB_l l i (by omega), ht, List.flatMap_append, numB_l]
    simp [sT]
theorem stB_all (l : List Stp) : (stB l l.length).data.toList = l.flatMap sT := by rw [stB_l l l.length (Nat.le_refl _), List.take_length]
theorem unText_eq (u : Un) : unText u = wrU u := by
  refine ba_ext ?_
  unfold unText wrU
  rw [show_text]
  simp only [ba_app, numB_l, stB_all, unNums, List.flatMap_cons, List.flatMap_nil, unitB]
  simp
theorem biText_eq (bus : Int) (l : List Stp) : biText bus l = wrB bus l := by
  refine ba_ext ?_
  unfold biText wrB
  rw [show_text]
  simp only [ba_app, numB_l, stB_all, List.flatMap_cons, List.flatMap_nil, bidB]
  simp
theorem smlU_ok {u : Un} (h : checkU u = 0) : (∀ n ∈ unNums u, Sml n) ∧ ∀ s ∈ u.steps, Sml s.f0 ∧ Sml s.f1 := by
  obtain ⟨h1, h2, h3⟩ := checkU_ok h
  exact ⟨fun n hn => tn_sml (h1 n hn), fun s hs => ⟨tn_sml (h2 s hs).1, tn_sml (h2 s hs).2⟩⟩
theorem smlB_ok {bus : Int} {l : List Stp} (h : checkB bus l = 0) : Sml bus ∧ ∀ s ∈ l, Sml s.f0 ∧ Sml s.f1 := by
  obtain ⟨h1, h2, h3⟩ := checkB_ok h
  exact ⟨tn_sml h1, fun s hs => ⟨tn_sml (h2 s hs).1, tn_sml (h2 s hs).2⟩⟩
end Ar
end Go.Proofs.YtnghcgmkncbnnaaGreat
end
section
namespace Go.Proofs.YtnghcgmkncbnnaaGreat
open Go.RowKit Go.Proofs.YtnghcgmkncbnnaaGreatW.PrintWords Go.Proofs.YtnghcgmkncbnnaaGreatW.PrintLast Go.Proofs.YtnghcgmkncbnnaaGreatW.PrintMore
namespace Ar
open Wd
set_option maxRecDepth 100000 in
set_option maxHeartbeats 16000000 in
theorem matches_c {w : World} (u : Un) (bus : Int) (l : List Stp) (A A' : Option Addr) (c c' : Nat) (h : Kd.C kStp w A u.steps.length u.steps) (hc : u.steps.length ≤ c) (h' : Kd.C kStp w A' l.length l) (hc' : l.length ≤ c') :
    Calls Tryz.prog 3 #[.agg (unC u (.slice A u.steps.length c)), .agg (biC bus (.slice A' l.length c'))] w fun e w' => e = .returned (.bool true) ∧ Below w.heap.size w w' := by
  have hU := Tryz.underlying24
  have hV := Tryz.underlying26
  have HU := Lib.hid (fun (W : World) (hb : Below w.heap.size w W) (hl : u.steps.length < 1000000) => FormatUnit_c (w := W) u A c (Kd.C_below h hb) hc hl showU_ok)
  have HR := Lib.hid (fun (W : World) (hb : Below w.heap.size w W) (hl : u.steps.length < 1000000) => refFormatUnit_c (w := W) u A c (Kd.C_below h hb) hc hl smlU_ok)
  have HB := Lib.hid (fun (W : World) (hb : Below w.heap.size w W) (hl : l.length < 1000000) => FormatBid_c (w := W) bus l A' c' (Kd.C_below h' hb) hc' hl showB_ok)
  have HS := Lib.hid (fun (W : World) (hb : Below w.heap.size w W) (hl : l.length < 1000000) => refFormatBid_c (w := W) bus l A' c' (Kd.C_below h' hb) hc' hl smlB_ok)
  have HL := Lib.hid (fun (W : World) (hb : Below w.heap.size w W) => long_c (w := W) ⟨#[]⟩ A c u.steps (Kd.C_below h hb) hc)
  have HM := Lib.hid (fun (W : World) (hb : Below w.heap.size w W) => long_c (w := W) ⟨#[]⟩ A' c' l (Kd.C_below h' hb) hc')
  have HA := Lib.hid (fun (W : World) => awake_c (w := W))
  rw [show decide (5000 < (⟨#[]⟩ : ByteArray).size) = false from rfl] at HL HM
  simp only [Bool.false_or] at HL HM
  rw [unText_eq] at HU
  rw [biText_eq] at HB
  obtain ⟨S1, hS1⟩ : ∃ S : ByteArray, (if checkU u = 0 then wrU u else ⟨#[]⟩) = S := ⟨_, rfl⟩
  obtain ⟨S2, hS2⟩ : ∃ S : ByteArray, (if checkB bus l = 0 then wrB bus l else ⟨#[]⟩) = S := ⟨_, rfl⟩
  rw [hS1] at HU HR
  rw [hS2] at HB HS
  clear hS1 hS2
  generalize checkU u = F1 at HU HR
  generalize checkB bus l = F2 at HB HS
  obtain ⟨b0, hb0d⟩ : ∃ b, decide (50 < u.steps.length) = b := ⟨_, rfl⟩
  obtain ⟨b1, hb1d⟩ : ∃ b, decide (50 < l.length) = b := ⟨_, rfl⟩
  have HN : Hid (b0 = false → u.steps.length < 1000000) := fun e => by rw [e, decide_eq_false_iff_not] at hb0d; omega
  have HO : Hid (b1 = false → l.length < 1000000) := fun e => by rw [e, decide_eq_false_iff_not] at hb1d; omega
  rw [hb0d] at HL
  rw [hb1d] at HM
  clear hb0d hb1d h h' hc hc'
  obtain ⟨ub, mi, lu, up, dn, st, idl, sp, on⟩ := u
  dsimp only [unC] at HU HR HL HN ⊢
  generalize lu.length = n1 at HU HR HL HN ⊢
  generalize l.length = n2 at HB HS HM HO ⊢
  have hbx := below_alloc (below_alloc (Below.refl _ w) (.cells #[.int .i64 ub, .int .i64 mi, .slice A n1 c, .int .i64 up, .int .i64 dn, .int .i64 st, .int .i64 idl, .int .i64 sp, .int .i64 on] 24)) (.cells #[.int .i64 bus, .slice A' n2 c'] 26)
  have k0 := blk_alloc (blk_new w (.cells #[.int .i64 ub, .int .i64 mi, .slice A n1 c, .int .i64 up, .int .i64 dn, .int .i64 st, .int .i64 idl, .int .i64 sp, .int .i64 on] 24)) (.cells #[.int .i64 bus, .slice A' n2 c'] 26)
  have j0 := blk_new (w.alloc (.cells #[.int .i64 ub, .int .i64 mi, .slice A n1 c, .int .i64 up, .int .i64 dn, .int .i64 st, .int .i64 idl, .int .i64 sp, .int .i64 on] 24)) (.cells #[.int .i64 bus, .slice A' n2 c'] 26)
  rw [World.size_alloc] at j0
  have hgb : (w.heap.size + 1) ≠ w.heap.size := by omega
  have hbg : w.heap.size ≠ (w.heap.size + 1) := by omega
  have hk0 := blk_cell k0 0; have hk1 := blk_cell k0 1; have hk2 := blk_cell k0 2; have hk3 := blk_cell k0 3; have hk4 := blk_cell k0 4; have hk5 := blk_cell k0 5; have hk6 := blk_cell k0 6; have hk7 := blk_cell k0 7; have hk8 := blk_cell k0 8; have hkf0 := blk_frozen k0 0; have hkf1 := blk_frozen k0 1; have hkf2 := blk_frozen k0 2; have hkf3 := blk_frozen k0 3; have hkf4 := blk_frozen k0 4; have hkf5 := blk_frozen k0 5; have hkf6 := blk_frozen k0 6; have hkf7 := blk_frozen k0 7; have hkf8 := blk_frozen k0 8
  have hj0 := blk_cell j0 0; have hj1 := blk_cell j0 1; have hjf0 := blk_frozen j0 0; have hjf1 := blk_frozen j0 1
  cases b0 with
  | true =>
    go_enter Tryz.func3, Tryz.ntmps3
    go_wp2_with (first | (go_at_call 5; refine (HL.out _ hbx).mono ?_; rintro e w1 ⟨rfl, ⟨nd, rfl⟩⟩) | (go_at_call 6; refine (HA.out _).mono ?_; rintro e w9 ⟨rfl, hb9⟩; have hB9 := below_step (pw_below_drewN hbx _) hb9))
    go_ret
    exact ⟨rfl, hB9⟩
  | false =>
    have HN' := Lib.hid (HN.out rfl)
    cases b1 with
    | true =>
      go_enter Tryz.func3, Tryz.ntmps3
      go_wp2_with (first | (go_at_call 5; have hz := nd; refine (HM.out _ (pw_below_drewN hbx _)).mono ?_; rintro e w2 ⟨rfl, ⟨nd2, rfl⟩⟩) | (go_at_call 5; refine (HL.out _ hbx).mono ?_; rintro e w1 ⟨rfl, ⟨nd, rfl⟩⟩) | (go_at_call 6; refine (HA.out _).mono ?_; rintro e w9 ⟨rfl, hb9⟩; have hB9 := below_step (pw_below_drewN hbx _) hb9))
      go_ret
      exact ⟨rfl, hB9⟩
    | false =>
      have HO' := Lib.hid (HO.out rfl)
      go_enter Tryz.func3, Tryz.ntmps3
      go_wp2_with (first | (go_at_call 6; have hz := hB6; refine (HA.out _).mono ?_; rintro e w9 ⟨rfl, hb9⟩; have hB9 := below_step hB6 hb9) | (go_at_call 10; refine (HS.out _ hB5 HO'.out).mono ?_; rintro e w6 ⟨rfl, hb6⟩; have hB6 := below_step hB5 hb6) | (go_at_call 9; refine (HB.out _ hB4 HO'.out).mono ?_; rintro e w5 ⟨rfl, hb5⟩; have hB5 := below_step hB4 hb5; have j5 := blk_below j4 hb5; have hc0 := blk_cell j5 0; have hc1 := blk_cell j5 1; have hcf0 := blk_frozen j5 0; have hcf1 := blk_frozen j5 1) | (go_at_call 8; refine (HR.out _ hB3 HN'.out).mono ?_; rintro e w4 ⟨rfl, hb4⟩; have hB4 := below_step hB3 hb4; have j4 := blk_below j3 hb4; have hd0 := blk_cell j4 0; have hd1 := blk_cell j4 1; have hdf0 := blk_frozen j4 0; have hdf1 := blk_frozen j4 1) | (go_at_call 7; refine (HU.out _ (pw_below_drewN hbx _) HN'.out).mono ?_; rintro e w3 ⟨rfl, hb3⟩; have hB3 := below_step (pw_below_drewN hbx _) hb3; have j3 := blk_below (blk_drewN j0 _) hb3; have k3 := blk_below (blk_drewN k0 _) hb3; have hf0 := blk_cell j3 0; have hf1 := blk_cell j3 1; have hff0 := blk_frozen j3 0; have hff1 := blk_frozen j3 1; have hg0 := blk_cell k3 0; have hg1 := blk_cell k3 1; have hg2 := blk_cell k3 2; have hg3 := blk_cell k3 3; have hg4 := blk_cell k3 4; have hg5 := blk_cell k3 5; have hg6 := blk_cell k3 6; have hg7 := blk_cell k3 7; have hg8 := blk_cell k3 8; have hgf0 := blk_frozen k3 0; have hgf1 := blk_frozen k3 1; have hgf2 := blk_frozen k3 2; have hgf3 := blk_frozen k3 3; have hgf4 := blk_frozen k3 4; have hgf5 := blk_frozen k3 5; have hgf6 := blk_frozen k3 6; have hgf7 := blk_frozen k3 7; have hgf8 := blk_frozen k3 8) | (go_at_call 5; have hz := nd; refine (HM.out _ (pw_below_drewN hbx _)).mono ?_; rintro e w2 ⟨rfl, ⟨nd2, rfl⟩⟩) | (go_at_call 5; refine (HL.out _ hbx).mono ?_; rintro e w1 ⟨rfl, ⟨nd, rfl⟩⟩))
      go_ret
      exact ⟨rfl, hB9⟩
end Ar
end Go.Proofs.YtnghcgmkncbnnaaGreat
end
