/- Part 15 of the proof: The reference of bidtext: number. The reference of bidtext: the text of a curve. The reference of bidtext: Write, WriteBid, FormatUnit, FormatBid. The reference of bidtext: Write, FormatUnit, FormatBid. What is right has small numbers; its text is the reference's text. The statements' own helpers: Same, SameBid, Long, ex, exBid, unit, bid. The places of a text whose numbers have short denominators; the texts of the examples. awake: the chapter's examples hold. The law BidtextFormatMatches: the walk. -/
import Derived.Test.YtnghcgmkncbnnaaGreatM13
import Derived.Test.YtnghcgmkncbnnaaGreatM14
section
namespace Go.Proofs.YtnghcgmkncbnnaaGreat
open Go.RowKit Go.Proofs.YtnghcgmkncbnnaaGreatW.PrintWords Go.Proofs.YtnghcgmkncbnnaaGreatW.PrintLast Go.Proofs.YtnghcgmkncbnnaaGreatW.PrintMore
namespace Ar
open Wd
def Sml (n : Int) : Prop := n.natAbs < 281474976710656
def numB (n : Int) : ByteArray := ⟨#[32]⟩ ++ decB n
theorem decB_len (n : Int) : (decB n).size ≤ 40 := by
  unfold decB
  rw [str_len]
  unfold decL
  split
  · decide
  · rw [List.length_reverse, List.length_append]
    have := rdig_le 32 n.natAbs
    split
    · simp; omega
    · simp; omega
theorem refNumber_c {w : World} (n : Int) (hn : Sml n) : Calls Tryz.prog 27 #[.int .i64 n] w fun e w' => e = .returned (.string (numB n)) ∧ Below w.heap.size w w' := by
  have hl := decB_len n
  have HF := Lib.hid (refFrom_c (w := w) n (by unfold Sml at hn; unfold i64r; omega))
  have HT := Lib.hid (fun (W : World) ok v (h : ZV W ok v n) => refText_c h hn)
  unfold numB
  generalize decB n = R at hl HT ⊢
  have h1 : 1 + R.size ≤ 9223372036854775807 := by omega
  go_enter Tryz.func27, Tryz.ntmps27
  go_wp2_with (first | (go_at_call 49; refine HF.out.mono ?_; rintro e w1 ⟨v1, rfl, hv, hb1⟩; obtain ⟨b1, A1, r1, c1, rfl, H1, hu1⟩ := zv_openh hv) | (go_at_call 48; refine (HT.out _ _ _ (zv_mk H1.out.1 H1.out.2 hu1)).mono ?_; rintro e w2 ⟨rfl, hb2⟩; have hB2 := below_step hb1 hb2))
  go_ret
  exact ⟨rfl, hB2⟩
end Ar
end Go.Proofs.YtnghcgmkncbnnaaGreat
end
section
namespace Go.Proofs.YtnghcgmkncbnnaaGreat
open Go.RowKit Go.Proofs.YtnghcgmkncbnnaaGreatW.PrintWords Go.Proofs.YtnghcgmkncbnnaaGreatW.PrintLast Go.Proofs.YtnghcgmkncbnnaaGreatW.PrintMore
namespace Ar
open Wd
def stB (l : List Stp) : Nat → ByteArray
  | 0 => ⟨#[]⟩
  | i + 1 => stB l i ++ ⟨#[32, 40]⟩ ++ decB (rdS l i).f0 ++ numB (rdS l i).f1 ++ ⟨#[41]⟩
theorem numB_len (n : Int) : (numB n).size ≤ 41 ∧ 1 ≤ (numB n).size := by
  have := decB_len n
  unfold numB
  rw [ByteArray.size_append]
  have h1 : (⟨#[32]⟩ : ByteArray).size = 1 := rfl
  omega
theorem stB_len (l : List Stp) : ∀ i, (stB l i).size ≤ 100 * i
  | 0 => by simp [stB, ByteArray.size]
  | i + 1 => by
    have h1 := stB_len l i
    have h2 := decB_len (rdS l i).f0
    have h3 := (numB_len (rdS l i).f1).1
    have h4 : (⟨#[32, 40]⟩ : ByteArray).size = 2 := rfl
    have h5 : (⟨#[41]⟩ : ByteArray).size = 1 := rfl
    unfold stB
    rw [ByteArray.size_append, ByteArray.size_append, ByteArray.size_append, ByteArray.size_append]
    omega
theorem numB_tail (n : Int) : (numB n).extract 1 (numB n).size = decB n := by
  unfold numB
  refine ByteArray.ext ?_
  simp
  right
  have : (⟨#[32]⟩ : ByteArray).size = 1 := rfl
  omega
set_option maxRecDepth 100000 in
set_option maxHeartbeats 8000000 in
theorem refSteps_c {w : World} (A : Option Addr) (c : Nat) (l : List Stp) (hr : Kd.C kStp w A l.length l) (hc : l.length ≤ c) (hlen : l.length < 1000000) (hs : ∀ s ∈ l, Sml s.f0 ∧ Sml s.f1) :
    Calls Tryz.prog 28 #[.slice A l.length c] w fun e w' => e = .returned (.string (stB l l.length)) ∧ Below w.heap.size w w' := by
  have hS := Tryz.underlying60
  have Hs := Lib.hid hs
  clear hs
  go_enter Tryz.func28, Tryz.ntmps28
  go_wp2
  go_loopg [3, 4] l.length (fun k v3 v W => ∃ i : Nat, v = .int .i64 i ∧ v3 = .string (stB l i) ∧ i + k = l.length ∧ Below w.heap.size w W)
  case atStart => exact ⟨0, rfl, rfl, by omega, Below.refl _ _⟩
  case round =>
    obtain ⟨i, rfl, rfl, hi, hB⟩ := hrel
    cases gk with
    | zero =>
      obtain rfl : i = l.length := by omega
      have hlb : decide ((l.length : Int) < (l.length : Int)) = false := decide_eq_false (by omega)
      go_wp2
      go_ret
      exact ⟨rfl, hB⟩
    | succ n =>
      have hlt : i < l.length := by omega
      have hlb : decide ((i : Int) < (l.length : Int)) = true := decide_eq_true (by omega)
      have hln : decide (i < l.length) = true := decide_eq_true hlt
      have hi1 : (0 : Int) ≤ (i : Int) := by omega
      have hi2 : (i : Int) < (l.length : Int) := by omega
      have hw3 : wrap64 ((i : Int) + 1) = ((i + 1 : Nat) : Int) := w64succ i (by omega)
      obtain ⟨⟨x0, x1⟩, hx⟩ : ∃ x, rdS l i = x := ⟨_, rfl⟩
      have hsm : Sml x0 ∧ Sml x1 := by
        have hg : l.getD i E.z60 = ⟨x0, x1⟩ := hx
        have := Hs.out (l.getD i E.z60) (by rw [List.getD_eq_getElem?_getD, List.getElem?_eq_getElem hlt]; exact List.getElem_mem hlt)
        rw [hg] at this; exact this
      obtain ⟨ad, rfl, g0, g1⟩ := E.at_T60 (Kd.C_below hr hB) i (by omega) (by omega)
      rw [show E.rd_T60 l ((i : Nat) : Int) = ⟨x0, x1⟩ from hx] at g0 g1
      dsimp only at g0 g1
      rw [Int.toNat_natCast] at g0 g1
      have hst : stB l (i + 1) = stB l i ++ ⟨#[32, 40]⟩ ++ decB x0 ++ numB x1 ++ ⟨#[41]⟩ := by rw [stB, hx]
      have HST := Lib.hid hst
      have b1 := stB_len l i
      have b2 := decB_len x0
      have b3 := (numB_len x1).1
      have b4 := numB_len x0
      obtain ⟨X, f, hf, hg⟩ := cls_of (fun W : World => Below w.heap.size w W ∧ W.cell? (ad.add (i * 2)) = some (.int .i64 x0) ∧ W.cell? ⟨(ad.add (i * 2)).block, (ad.add (i * 2)).off + 1, none⟩ = some (.int .i64 x1))
      have HF := Lib.hid hf
      have keepc : ∀ (W W' : World) (a : Addr) (v : Value), W.cell? a = some v → Below W.heap.size W W' → W'.cell? a = some v := fun W W' a v h hb => (World.cell?_of_block (hb.block _ (World.block_lt_of_cell? W _ h))).trans h
      have HM : Hid (∀ (n : Int), Sml n → ∀ x : X, Calls Tryz.prog 27 #[.int .i64 n] (f x) fun e w' => e = .returned (.string (numB n)) ∧ ∃ y : X, w' = f y) := fun n hn x => (refNumber_c n hn).mono fun e w' ⟨he, hb⟩ => ⟨he, hg _ ⟨below_step (hf x).1 hb, keepc _ _ _ _ (hf x).2.1 hb, keepc _ _ _ _ (hf x).2.2 hb⟩⟩
      have HG := Lib.hid (hg wr.drew ⟨below_drew hB, g0, g1⟩)
      have hne : Nonempty X := HG.out.elim (fun x _ => ⟨x⟩)
      have u0 : ∀ x : X, (f x).cell? (ad.add (i * 2)) = some (.int .i64 x0) := fun x => (hf x).2.1
      have u1 : ∀ x : X, (f x).cell? ⟨(ad.add (i * 2)).block, (ad.add (i * 2)).off + 1, none⟩ = some (.int .i64 x1) := fun x => (hf x).2.2
      have HM0 := Lib.hid (HM.out x0 hsm.1)
      have HM1 := Lib.hid (HM.out x1 hsm.2)
      have HTl := Lib.hid (numB_tail x0)
      have HT2 := Lib.hid (show (decB x0).size = (numB x0).size - 1 by have := numB_len x0; unfold numB; rw [ByteArray.size_append]; have h1 : (⟨#[32]⟩ : ByteArray).size = 1 := rfl; omega)
      clear hx hst hf hg HM hsm keepc
      have htl := HTl.out
      have c0 : (1 : Int) ≤ ((numB x0).size : Int) := by omega
      have m1 : (stB l i).size + 2 ≤ 9223372036854775807 := by omega
      have m2 : (stB l i).size + 2 + (decB x0).size ≤ 9223372036854775807 := by omega
      have m3 : (stB l i).size + 2 + (decB x0).size + (numB x1).size ≤ 9223372036854775807 := by omega
      have m4 : (stB l i).size + 2 + (decB x0).size + (numB x1).size + 1 ≤ 9223372036854775807 := by omega
      go_wp2_with fail
      refine wp_region_cls f (by kernel_rfl) (by kernel_rfl) HG.out ?_
      repeat (go_big_quiet_step (first | (go_at_call_of 27 (Value.int .i64 x0); exact HM0.out _) | (go_at_call_of 27 (Value.int .i64 x1); exact HM1.out _) | exact HM0.out _ | exact HM1.out _))
      refine wpQuiet_nil ?_
      rintro w2 ⟨x, rfl⟩
      have hB2 := (HF.out x).1
      go_wp2
      go_roundg n
      case measure => omega
      case rel => exact ⟨i + 1, by first | exact congrArg (Value.int .i64) hw3 | exact congrArg (Value.int .i64) (Int.natCast_succ i).symm, by rw [HST.out], by omega, hB2⟩
end Ar
end Go.Proofs.YtnghcgmkncbnnaaGreat
end
section
namespace Go.Proofs.YtnghcgmkncbnnaaGreat
open Go.RowKit Go.Proofs.YtnghcgmkncbnnaaGreatW.PrintWords Go.Proofs.YtnghcgmkncbnnaaGreatW.PrintLast Go.Proofs.YtnghcgmkncbnnaaGreatW.PrintMore
namespace Ar
open Wd
def wrB (bus : Int) (l : List Stp) : ByteArray := ⟨#[40, 98, 105, 100]⟩ ++ numB bus ++ stB l l.length ++ ⟨#[41]⟩
def wrU (u : Un) : ByteArray := ⟨#[40, 117, 110, 105, 116]⟩ ++ numB u.bus ++ numB u.min ++ numB u.up ++ numB u.down ++ numB u.start ++ numB u.idle ++ numB u.spin ++ numB u.on ++ stB u.steps u.steps.length ++ ⟨#[41]⟩
set_option maxRecDepth 100000 in
set_option maxHeartbeats 8000000 in
theorem WriteBid_c {w : World} (bus : Int) (l : List Stp) (A : Option Addr) (c : Nat) (hr : Kd.C kStp w A l.length l) (hc : l.length ≤ c) (hlen : l.length < 1000000) (hb : Sml bus) (hs : ∀ s ∈ l, Sml s.f0 ∧ Sml s.f1) :
    Calls Tryz.prog 12 #[.agg (biC bus (.slice A l.length c))] w fun e w' => e = .returned (.string (wrB bus l)) ∧ Below w.heap.size w w' := by
  have hU := Tryz.underlying26
  have hb0 := below_alloc (Below.refl _ w) (.cells #[.int .i64 bus, .slice A l.length c] 26)
  have k0 := blk_new w (.cells #[.int .i64 bus, .slice A l.length c] 26)
  obtain ⟨X, f, hf, hg⟩ := cls_of (fun W : World => Below w.heap.size w W ∧ W.heap[w.heap.size]? = some (.cells #[.int .i64 bus, .slice A l.length c] 26 (0, 0)))
  have HF := Lib.hid hf
  have HM0 : Hid (∀ x : X, Calls Tryz.prog 27 #[.int .i64 bus] (f x) fun e w' => e = .returned (.string (numB bus)) ∧ ∃ y : X, w' = f y) := fun x => (refNumber_c bus hb).mono fun e w' ⟨he, hb⟩ => ⟨he, hg _ ⟨below_step (hf x).1 hb, blk_below (hf x).2 hb⟩⟩
  have HM1 : Hid (∀ x : X, Calls Tryz.prog 28 #[.slice A l.length c] (f x) fun e w' => e = .returned (.string (stB l l.length)) ∧ ∃ y : X, w' = f y) := fun x => (refSteps_c A c l (Kd.C_below hr (hf x).1) hc hlen hs).mono fun e w' ⟨he, hb⟩ => ⟨he, hg _ ⟨below_step (hf x).1 hb, blk_below (hf x).2 hb⟩⟩
  have HG := Lib.hid (hg (w.alloc (.cells #[.int .i64 bus, .slice A l.length c] 26)).drew ⟨below_drew hb0, k0⟩)
  have hne : Nonempty X := HG.out.elim (fun x _ => ⟨x⟩)
  have u0 : ∀ x : X, (f x).cell? ⟨w.heap.size, 0, none⟩ = some (.int .i64 bus) := fun x => blk_cell (hf x).2 0
  have u1 : ∀ x : X, (f x).cell? ⟨w.heap.size, 1, none⟩ = some (.slice A l.length c) := fun x => blk_cell (hf x).2 1
  have b1 := (numB_len bus).1
  have b2 := stB_len l l.length
  unfold wrB
  obtain ⟨S, hS⟩ : ∃ S, stB l l.length = S := ⟨_, rfl⟩
  obtain ⟨N, hN⟩ : ∃ N, numB bus = N := ⟨_, rfl⟩
  rw [hN] at HM0 b1 ⊢
  rw [hS] at HM1 b2 ⊢
  have m1 : 4 + N.size ≤ 9223372036854775807 := by omega
  have m2 : 4 + N.size + S.size ≤ 9223372036854775807 := by omega
  have m3 : 4 + N.size + S.size + 1 ≤ 9223372036854775807 := by omega
  clear hS hN hf hg
  go_enter Tryz.func12, Tryz.ntmps12
  go_wp2_with fail
  refine wp_region_cls f (by kernel_rfl) (by kernel_rfl) HG.out ?_
  repeat (go_big_quiet_step (first | (go_at_call 27; exact HM0.out _) | (go_at_call 28; exact HM1.out _) | exact HM0.out _ | exact HM1.out _))
  refine wpQuiet_nil ?_
  rintro w2 ⟨x, rfl⟩
  have hB2 := (HF.out x).1
  go_wp2
  go_ret
  exact ⟨rfl, hB2⟩
end Ar
end Go.Proofs.YtnghcgmkncbnnaaGreat
end
section
namespace Go.Proofs.YtnghcgmkncbnnaaGreat
open Go.RowKit Go.Proofs.YtnghcgmkncbnnaaGreatW.PrintWords Go.Proofs.YtnghcgmkncbnnaaGreatW.PrintLast Go.Proofs.YtnghcgmkncbnnaaGreatW.PrintMore
namespace Ar
open Wd
set_option maxRecDepth 100000 in
set_option maxHeartbeats 16000000 in
theorem Write_c {w : World} (u : Un) (A : Option Addr) (c : Nat) (hr : Kd.C kStp w A u.steps.length u.steps) (hc : u.steps.length ≤ c) (hlen : u.steps.length < 1000000) (hns : ∀ n ∈ unNums u, Sml n) (hs : ∀ s ∈ u.steps, Sml s.f0 ∧ Sml s.f1) :
    Calls Tryz.prog 11 #[.agg (unC u (.slice A u.steps.length c))] w fun e w' => e = .returned (.string (wrU u)) ∧ Below w.heap.size w w' := by
  have hU := Tryz.underlying24
  unfold wrU
  obtain ⟨bus, mi, l, up, dn, st, idl, sp, on⟩ := u
  dsimp only [unC, unNums] at hr hc hlen hns hs ⊢
  have hb0 := below_alloc (Below.refl _ w) (.cells #[.int .i64 bus, .int .i64 mi, .slice A l.length c, .int .i64 up, .int .i64 dn, .int .i64 st, .int .i64 idl, .int .i64 sp, .int .i64 on] 24)
  have k0 := blk_new w (.cells #[.int .i64 bus, .int .i64 mi, .slice A l.length c, .int .i64 up, .int .i64 dn, .int .i64 st, .int .i64 idl, .int .i64 sp, .int .i64 on] 24)
  obtain ⟨X, f, hf, hg⟩ := cls_of (fun W : World => Below w.heap.size w W ∧ W.heap[w.heap.size]? = some (.cells #[.int .i64 bus, .int .i64 mi, .slice A l.length c, .int .i64 up, .int .i64 dn, .int .i64 st, .int .i64 idl, .int .i64 sp, .int .i64 on] 24 (0, 0)))
  have HF := Lib.hid hf
  have HM : ∀ n, Sml n → ∀ x : X, Calls Tryz.prog 27 #[.int .i64 n] (f x) fun e w' => e = .returned (.string (numB n)) ∧ ∃ y : X, w' = f y := fun n hn x => (refNumber_c n hn).mono fun e w' ⟨he, hb⟩ => ⟨he, hg _ ⟨below_step (hf x).1 hb, blk_below (hf x).2 hb⟩⟩
  have HS := Lib.hid (fun (W : World) (h : Below w.heap.size w W) => refSteps_c (w := W) A c l (Kd.C_below hr h) hc hlen hs)
  have HG := Lib.hid (hg (w.alloc (.cells #[.int .i64 bus, .int .i64 mi, .slice A l.length c, .int .i64 up, .int .i64 dn, .int .i64 st, .int .i64 idl, .int .i64 sp, .int .i64 on] 24)).drew ⟨below_drew hb0, k0⟩)
  have hne : Nonempty X := HG.out.elim (fun x _ => ⟨x⟩)
  have u0 : ∀ x : X, (f x).cell? ⟨w.heap.size, 0, none⟩ = some (.int .i64 bus) := fun x => blk_cell (hf x).2 0
  have u1 : ∀ x : X, (f x).cell? ⟨w.heap.size, 1, none⟩ = some (.int .i64 mi) := fun x => blk_cell (hf x).2 1
  have u3 : ∀ x : X, (f x).cell? ⟨w.heap.size, 3, none⟩ = some (.int .i64 up) := fun x => blk_cell (hf x).2 3
  have u4 : ∀ x : X, (f x).cell? ⟨w.heap.size, 4, none⟩ = some (.int .i64 dn) := fun x => blk_cell (hf x).2 4
  have u5 : ∀ x : X, (f x).cell? ⟨w.heap.size, 5, none⟩ = some (.int .i64 st) := fun x => blk_cell (hf x).2 5
  have u6 : ∀ x : X, (f x).cell? ⟨w.heap.size, 6, none⟩ = some (.int .i64 idl) := fun x => blk_cell (hf x).2 6
  have u7 : ∀ x : X, (f x).cell? ⟨w.heap.size, 7, none⟩ = some (.int .i64 sp) := fun x => blk_cell (hf x).2 7
  have u8 : ∀ x : X, (f x).cell? ⟨w.heap.size, 8, none⟩ = some (.int .i64 on) := fun x => blk_cell (hf x).2 8
  have HM0 := Lib.hid (HM bus (hns _ (by simp))); have b0 := (numB_len bus).1; obtain ⟨N0, hN0⟩ : ∃ N, numB bus = N := ⟨_, rfl⟩; rw [hN0] at HM0 b0 ⊢
  have HM1 := Lib.hid (HM mi (hns _ (by simp))); have b1 := (numB_len mi).1; obtain ⟨N1, hN1⟩ : ∃ N, numB mi = N := ⟨_, rfl⟩; rw [hN1] at HM1 b1 ⊢
  have HM2 := Lib.hid (HM up (hns _ (by simp))); have b2 := (numB_len up).1; obtain ⟨N2, hN2⟩ : ∃ N, numB up = N := ⟨_, rfl⟩; rw [hN2] at HM2 b2 ⊢
  have HM3 := Lib.hid (HM dn (hns _ (by simp))); have b3 := (numB_len dn).1; obtain ⟨N3, hN3⟩ : ∃ N, numB dn = N := ⟨_, rfl⟩; rw [hN3] at HM3 b3 ⊢
  have HM4 := Lib.hid (HM st (hns _ (by simp))); have b4 := (numB_len st).1; obtain ⟨N4, hN4⟩ : ∃ N, numB st = N := ⟨_, rfl⟩; rw [hN4] at HM4 b4 ⊢
  have HM5 := Lib.hid (HM idl (hns _ (by simp))); have b5 := (numB_len idl).1; obtain ⟨N5, hN5⟩ : ∃ N, numB idl = N := ⟨_, rfl⟩; rw [hN5] at HM5 b5 ⊢
  have HM6 := Lib.hid (HM sp (hns _ (by simp))); have b6 := (numB_len sp).1; obtain ⟨N6, hN6⟩ : ∃ N, numB sp = N := ⟨_, rfl⟩; rw [hN6] at HM6 b6 ⊢
  have HM7 := Lib.hid (HM on (hns _ (by simp))); have b7 := (numB_len on).1; obtain ⟨N7, hN7⟩ : ∃ N, numB on = N := ⟨_, rfl⟩; rw [hN7] at HM7 b7 ⊢
  have b9 := stB_len l l.length
  obtain ⟨S, hS⟩ : ∃ S, stB l l.length = S := ⟨_, rfl⟩
  rw [hS] at HS b9 ⊢
  have m0 : 5 + N0.size ≤ 9223372036854775807 := by omega
  have m1 : 5 + N0.size + N1.size ≤ 9223372036854775807 := by omega
  have m2 : 5 + N0.size + N1.size + N2.size ≤ 9223372036854775807 := by omega
  have m3 : 5 + N0.size + N1.size + N2.size + N3.size ≤ 9223372036854775807 := by omega
  have m4 : 5 + N0.size + N1.size + N2.size + N3.size + N4.size ≤ 9223372036854775807 := by omega
  have m5 : 5 + N0.size + N1.size + N2.size + N3.size + N4.size + N5.size ≤ 9223372036854775807 := by omega
  have m6 : 5 + N0.size + N1.size + N2.size + N3.size + N4.size + N5.size + N6.size ≤ 9223372036854775807 := by omega
  have m7 : 5 + N0.size + N1.size + N2.size + N3.size + N4.size + N5.size + N6.size + N7.size ≤ 9223372036854775807 := by omega
  have m8 : 5 + N0.size + N1.size + N2.size + N3.size + N4.size + N5.size + N6.size + N7.size + S.size ≤ 9223372036854775807 := by omega
  have m9 : 5 + N0.size + N1.size + N2.size + N3.size + N4.size + N5.size + N6.size + N7.size + S.size + 1 ≤ 9223372036854775807 := by omega
  have HFk := Lib.hid (fun x => (hf x).2)
  clear HM hf hg hS hN0 hN1 hN2 hN3 hN4 hN5 hN6 hN7
  go_enter Tryz.func11, Tryz.ntmps11
  go_wp2_with fail
  refine wp_region_cls f (by kernel_rfl) (by kernel_rfl) HG.out ?_
  try dsimp only [List.append]
  repeat (go_big_quiet_step (first | (go_at_call_of 27 (Value.int .i64 bus); exact HM0.out _) | (go_at_call_of 27 (Value.int .i64 mi); exact HM1.out _) | (go_at_call_of 27 (Value.int .i64 up); exact HM2.out _) | (go_at_call_of 27 (Value.int .i64 dn); exact HM3.out _) | (go_at_call_of 27 (Value.int .i64 st); exact HM4.out _) | (go_at_call_of 27 (Value.int .i64 idl); exact HM5.out _) | (go_at_call_of 27 (Value.int .i64 sp); exact HM6.out _) | (go_at_call_of 27 (Value.int .i64 on); exact HM7.out _) | exact HM0.out _ | exact HM1.out _ | exact HM2.out _ | exact HM3.out _ | exact HM4.out _ | exact HM5.out _ | exact HM6.out _ | exact HM7.out _))
  refine wpQuiet_nil ?_
  rintro w2 ⟨x, rfl⟩
  have hB2 := (HF.out x).1
  have k2 := HFk.out x
  have hz0 := blk_cell k2 0; have hz1 := blk_cell k2 1; have hz2 := blk_cell k2 2; have hz3 := blk_cell k2 3; have hz4 := blk_cell k2 4; have hz5 := blk_cell k2 5; have hz6 := blk_cell k2 6; have hz7 := blk_cell k2 7; have hz8 := blk_cell k2 8; have hzf0 := blk_frozen k2 0; have hzf1 := blk_frozen k2 1; have hzf2 := blk_frozen k2 2; have hzf3 := blk_frozen k2 3; have hzf4 := blk_frozen k2 4; have hzf5 := blk_frozen k2 5; have hzf6 := blk_frozen k2 6; have hzf7 := blk_frozen k2 7; have hzf8 := blk_frozen k2 8
  go_wp2_with (first | (go_at_call 28; refine (HS.out _ hB2).mono ?_; rintro e w3 ⟨rfl, hb3⟩; have hB3 := below_step hB2 hb3))
  go_ret
  exact ⟨rfl, hB3⟩
set_option maxRecDepth 100000 in
set_option maxHeartbeats 8000000 in
theorem refFormatBid_c {w : World} (bus : Int) (l : List Stp) (A : Option Addr) (c : Nat) (hr : Kd.C kStp w A l.length l) (hc : l.length ≤ c) (hlen : l.length < 1000000) (hok : checkB bus l = 0 → Sml bus ∧ ∀ s ∈ l, Sml s.f0 ∧ Sml s.f1) :
    Calls Tryz.prog 10 #[.agg (biC bus (.slice A l.length c))] w fun e w' => e = .returned (.tuple #[.string (if checkB bus l = 0 then wrB bus l else ⟨#[]⟩), .int .i64 (checkB bus l)]) ∧ Below w.heap.size w w' := by
  have hU := Tryz.underlying26
  have hb0 := below_alloc (Below.refl _ w) (.cells #[.int .i64 bus, .slice A l.length c] 26)
  have k0 := blk_new w (.cells #[.int .i64 bus, .slice A l.length c] 26)
  have HW := Lib.hid (fun (W : World) (h : Below w.heap.size w W) => refB_c (w := W) bus l A c (Kd.C_below hr h) hc)
  have HS := Lib.hid (fun (h0 : checkB bus l = 0) (W : World) (h : Below w.heap.size w W) => WriteBid_c (w := W) bus l A c (Kd.C_below hr h) hc hlen (hok h0).1 (hok h0).2)
  generalize wrB bus l = R at HS ⊢
  clear hok hr
  generalize checkB bus l = F at HW HS ⊢
  have hk0 := blk_cell k0 0; have hk1 := blk_cell k0 1; have hkf0 := blk_frozen k0 0; have hkf1 := blk_frozen k0 1
  by_cases h : F = 0
  · subst h
    have HS' := Lib.hid (HS.out rfl)
    rw [if_pos rfl]
    clear HS
    go_enter Tryz.func10, Tryz.ntmps10
    go_wp2_with (first | (go_at_call 26; refine (HW.out _ hb0).mono ?_; rintro e w1 ⟨rfl, hb1⟩; have hB1 := below_step hb0 hb1; have i1 := blk_below k0 hb1; have hj0 := blk_cell i1 0; have hj1 := blk_cell i1 1; have hjf0 := blk_frozen i1 0; have hjf1 := blk_frozen i1 1) | (go_at_call 12; refine (HS'.out _ hB1).mono ?_; rintro e w2 ⟨rfl, hb2⟩; have hB2 := below_step hB1 hb2))
    go_ret2
    exact ⟨rfl, hB2⟩
  · rw [if_neg h]
    have hb : (F != 0) = true := bne_iff_ne.2 h
    clear h HS
    go_enter Tryz.func10, Tryz.ntmps10
    go_wp2_with (first | (go_at_call 26; refine (HW.out _ hb0).mono ?_; rintro e w1 ⟨rfl, hb1⟩; have hB1 := below_step hb0 hb1; have i1 := blk_below k0 hb1))
    go_ret2
    exact ⟨rfl, hB1⟩
set_option maxRecDepth 100000 in
set_option maxHeartbeats 8000000 in
theorem refFormatUnit_c {w : World} (u : Un) (A : Option Addr) (c : Nat) (hr : Kd.C kStp w A u.steps.length u.steps) (hc : u.steps.length ≤ c) (hlen : u.steps.length < 1000000) (hok : checkU u = 0 → (∀ n ∈ unNums u, Sml n) ∧ ∀ s ∈ u.steps, Sml s.f0 ∧ Sml s.f1) :
    Calls Tryz.prog 8 #[.agg (unC u (.slice A u.steps.length c))] w fun e w' => e = .returned (.tuple #[.string (if checkU u = 0 then wrU u else ⟨#[]⟩), .int .i64 (checkU u)]) ∧ Below w.heap.size w w' := by
  have hU := Tryz.underlying24
  have HW := Lib.hid (fun (W : World) (h : Below w.heap.size w W) => refCheck_c (w := W) u A c (Kd.C_below hr h) hc (by omega))
  have HS := Lib.hid (fun (h0 : checkU u = 0) (W : World) (h : Below w.heap.size w W) => Write_c (w := W) u A c (Kd.C_below hr h) hc hlen (hok h0).1 (hok h0).2)
  generalize wrU u = R at HS ⊢
  clear hok hr
  generalize checkU u = F at HW HS ⊢
  obtain ⟨bus, mi, l, up, dn, st, idl, sp, on⟩ := u
  dsimp only [unC, unNums] at hc hlen HW HS ⊢
  have hb0 := below_alloc (Below.refl _ w) (.cells #[.int .i64 bus, .int .i64 mi, .slice A l.length c, .int .i64 up, .int .i64 dn, .int .i64 st, .int .i64 idl, .int .i64 sp, .int .i64 on] 24)
  have k0 := blk_new w (.cells #[.int .i64 bus, .int .i64 mi, .slice A l.length c, .int .i64 up, .int .i64 dn, .int .i64 st, .int .i64 idl, .int .i64 sp, .int .i64 on] 24)
  have hk0 := blk_cell k0 0; have hk1 := blk_cell k0 1; have hk2 := blk_cell k0 2; have hk3 := blk_cell k0 3; have hk4 := blk_cell k0 4; have hk5 := blk_cell k0 5; have hk6 := blk_cell k0 6; have hk7 := blk_cell k0 7; have hk8 := blk_cell k0 8; have hkf0 := blk_frozen k0 0; have hkf1 := blk_frozen k0 1; have hkf2 := blk_frozen k0 2; have hkf3 := blk_frozen k0 3; have hkf4 := blk_frozen k0 4; have hkf5 := blk_frozen k0 5; have hkf6 := blk_frozen k0 6; have hkf7 := blk_frozen k0 7; have hkf8 := blk_frozen k0 8
  by_cases h : F = 0
  · subst h
    have HS' := Lib.hid (HS.out rfl)
    rw [if_pos rfl]
    clear HS
    go_enter Tryz.func8, Tryz.ntmps8
    go_wp2_with (first | (go_at_call 24; refine (HW.out _ hb0).mono ?_; rintro e w1 ⟨rfl, hb1⟩; have hB1 := below_step hb0 hb1; have i1 := blk_below k0 hb1; have hj0 := blk_cell i1 0; have hj1 := blk_cell i1 1; have hj2 := blk_cell i1 2; have hj3 := blk_cell i1 3; have hj4 := blk_cell i1 4; have hj5 := blk_cell i1 5; have hj6 := blk_cell i1 6; have hj7 := blk_cell i1 7; have hj8 := blk_cell i1 8; have hjf0 := blk_frozen i1 0; have hjf1 := blk_frozen i1 1; have hjf2 := blk_frozen i1 2; have hjf3 := blk_frozen i1 3; have hjf4 := blk_frozen i1 4; have hjf5 := blk_frozen i1 5; have hjf6 := blk_frozen i1 6; have hjf7 := blk_frozen i1 7; have hjf8 := blk_frozen i1 8) | (go_at_call 11; refine (HS'.out _ hB1).mono ?_; rintro e w2 ⟨rfl, hb2⟩; have hB2 := below_step hB1 hb2))
    go_ret2
    exact ⟨rfl, hB2⟩
  · rw [if_neg h]
    have hb : (F != 0) = true := bne_iff_ne.2 h
    clear h HS
    go_enter Tryz.func8, Tryz.ntmps8
    go_wp2_with (first | (go_at_call 24; refine (HW.out _ hb0).mono ?_; rintro e w1 ⟨rfl, hb1⟩; have hB1 := below_step hb0 hb1; have i1 := blk_below k0 hb1))
    go_ret2
    exact ⟨rfl, hB1⟩
end Ar
end Go.Proofs.YtnghcgmkncbnnaaGreat
end
section
namespace Go.Proofs.YtnghcgmkncbnnaaGreat
open Go.RowKit Go.Proofs.YtnghcgmkncbnnaaGreatW.PrintWords Go.Proofs.YtnghcgmkncbnnaaGreatW.PrintLast Go.Proofs.YtnghcgmkncbnnaaGreatW.PrintMore
namespace Ar
open Wd
theorem good_step {x : Stp} (h : badStep x = false) : 1 ≤ x.f0 ∧ x.f0 ≤ 1000000 ∧ -1000000 ≤ x.f1 ∧ x.f1 ≤ 1000000 := by
  refine ⟨?_, ?_, ?_, ?_⟩
  · by_cases h1 : x.f0 < 1
    · rw [bad_of1 h1] at h; cases h
    · omega
  · by_cases h1 : 1000000 < x.f0
    · rw [bad_of2 h1] at h; cases h
    · omega
  · by_cases h1 : x.f1 < -1000000
    · rw [bad_of3 h1] at h; cases h
    · omega
  · by_cases h1 : 1000000 < x.f1
    · rw [bad_of4 h1] at h; cases h
    · omega
theorem curW_good {after : Int → Int → Bool} {l : List Stp} : ∀ (n i : Nat), curW after l n i = 0 → ∀ j, i ≤ j → j < i + n → badStep (rdS l j) = false
  | 0, i, _, j, h1, h2 => by omega
  | n + 1, i, h, j, h1, h2 => by
    unfold curW at h
    cases hb : badStep (rdS l i) with
    | true => rw [if_pos hb] at h; cases h
    | false =>
      rw [if_neg (by rw [hb]; decide)] at h
      split at h
      · cases h
      · by_cases hj : j = i
        · rw [hj]; exact hb
        · exact curW_good n (i + 1) h j (by omega) (by omega)
theorem curS_len {after : Int → Int → Bool} {l : List Stp} (h : curS after l = 0) : l.length ≤ 3 ∧ 0 < l.length := by
  unfold curS at h
  split at h
  · cases h
  · split at h
    · cases h
    · omega
theorem curS_good {after : Int → Int → Bool} {l : List Stp} (h : curS after l = 0) : ∀ j, j < l.length → badStep (rdS l j) = false := by
  have hl := curS_len h
  unfold curS at h
  rw [if_neg (by omega), if_neg (by omega)] at h
  exact fun j hj => curW_good l.length 0 h j (Nat.zero_le _) (by omega)
theorem rdS_mem {l : List Stp} {s : Stp} (h : s ∈ l) : ∃ j, j < l.length ∧ rdS l j = s := by
  obtain ⟨j, hj, rfl⟩ := List.mem_iff_getElem.1 h
  refine ⟨j, hj, ?_⟩
  unfold rdS E.rd_T60
  rw [Int.toNat_natCast, List.getD_eq_getElem?_getD, List.getElem?_eq_getElem hj]; rfl
theorem curS_mem {after : Int → Int → Bool} {l : List Stp} (h : curS after l = 0) {s : Stp} (hs : s ∈ l) : 1 ≤ s.f0 ∧ s.f0 ≤ 1000000 ∧ -1000000 ≤ s.f1 ∧ s.f1 ≤ 1000000 := by
  obtain ⟨j, hj, rfl⟩ := rdS_mem hs
  exact good_step (curS_good h j hj)
theorem sumF_le {l : List Stp} (h : ∀ j, j < l.length → badStep (rdS l j) = false) : ∀ (n i : Nat) (acc : Int), i + n = l.length → 0 ≤ acc → acc + n * 1000000 < 4611686018427387904 → sumF l n i acc ≤ acc + n * 1000000
  | 0, i, acc, hi, h0, h1 => by simp [sumF]
  | n + 1, i, acc, hi, h0, h1 => by
    obtain ⟨g1, g2, _, _⟩ := good_step (h i (by omega))
    unfold sumF
    have h2 : acc + (rdS l i).f0 + n * 1000000 < 4611686018427387904 := by omega
    rw [w64in _ (by omega) (by omega)]
    refine Int.le_trans (sumF_le h n (i + 1) _ (by omega) (by omega) h2) ?_
    omega
theorem maxS_le {l : List Stp} (h : curS rise l = 0) : maxS l ≤ 3000000 := by
  have hl := curS_len h
  unfold maxS; rw [if_pos h]
  unfold sumS
  split
  · refine Int.le_trans (sumF_le (curS_good h) l.length 0 0 (by omega) (Int.le_refl 0) (by omega)) (by omega)
  · decide
theorem inR_le {n a b : Int} (h : inR n a b = true) : a ≤ n ∧ n ≤ b := by
  unfold inR at h
  rw [Bool.and_eq_true, decide_eq_true_iff, decide_eq_true_iff] at h
  exact h
def Tn (n : Int) : Prop := -1000000000000 ≤ n ∧ n ≤ 1000000000000
theorem tn_sml {n : Int} (h : Tn n) : Sml n := by unfold Tn at h; unfold Sml; omega
theorem tn_i64 {n : Int} (h : Tn n) : i64r n := by unfold Tn at h; unfold i64r; omega
theorem tn_of {n a b : Int} (h : inR n a b = true) (ha : -1000000000000 ≤ a) (hb : b ≤ 1000000000000) : Tn n := by
  have := inR_le h; unfold Tn; omega
theorem tn_steps {after : Int → Int → Bool} {l : List Stp} (h : curS after l = 0) : ∀ s ∈ l, Tn s.f0 ∧ Tn s.f1 := fun s hs => by
  have := curS_mem h hs; unfold Tn; omega
theorem checkU_ok {u : Un} (h : checkU u = 0) : (∀ n ∈ unNums u, Tn n) ∧ (∀ s ∈ u.steps, Tn s.f0 ∧ Tn s.f1) ∧ u.steps.length ≤ 3 := by
  unfold checkU at h
  cases h0 : inR u.bus 0 5 with
  | false => rw [if_pos h0] at h; cases h
  | true =>
    rw [if_neg (by rw [h0]; decide)] at h
    by_cases h1 : curS rise u.steps = 0
    · rw [if_neg (by rw [h1]; simp)] at h
      split at h
      · rename_i hb
        simp only [Bool.and_eq_true] at hb
        obtain ⟨⟨⟨m1, m2⟩, ⟨⟨m3, m4⟩, m5⟩, _⟩, m6, m7⟩ := hb
        have hm := maxS_le h1
        refine ⟨fun n hn => ?_, tn_steps h1, (curS_len h1).1⟩
        unfold unNums at hn
        simp only [List.mem_cons, List.not_mem_nil, or_false] at hn
        rcases hn with rfl | rfl | rfl | rfl | rfl | rfl | rfl | rfl
        · exact tn_of h0 (by decide) (by decide)
        · exact tn_of m1 (by decide) (by omega)
        · exact tn_of m3 (by decide) (by decide)
        · exact tn_of m4 (by decide) (by decide)
        · exact tn_of m6 (by decide) (by decide)
        · exact tn_of m7 (by decide) (by decide)
        · exact tn_of m2 (by decide) (by decide)
        · exact tn_of m5 (by decide) (by decide)
      · cases h
    · rw [if_pos h1] at h; exact absurd h h1
theorem checkB_ok {bus : Int} {l : List Stp} (h : checkB bus l = 0) : Tn bus ∧ (∀ s ∈ l, Tn s.f0 ∧ Tn s.f1) ∧ l.length ≤ 3 := by
  unfold checkB at h
  split at h
  · cases h
  · rename_i hb
    refine ⟨?_, tn_steps h, (curS_len h).1⟩
    unfold Tn; omega
def goT (p : Int) : List Tk → List UInt8
  | [] => []
  | x :: l => (if p ≠ 1 ∧ x.k ≠ 2 then [32] else []) ++ ((textB x).data.toList ++ goT x.k l)
def lastK (p : Int) : List Tk → Int
  | [] => p
  | x :: l => lastK x.k l
theorem goT_app : ∀ (a b : List Tk) (p : Int), goT p (a ++ b) = goT p a ++ goT (lastK p a) b
  | [], b, p => rfl
  | x :: a, b, p => by rw [List.cons_append, goT, goT, lastK, goT_app a b]; simp
theorem lastK_snoc : ∀ (a : List Tk) (x : Tk) (p : Int), lastK p (a ++ [x]) = x.k
  | [], x, p => rfl
  | y :: a, x, p => by rw [List.cons_append, lastK, lastK_snoc a x]
theorem take_snocT (l : List Tk) (i : Nat) (h : i < l.length) : l.take (i + 1) = l.take i ++ [rdK l i] := take_snocI l i noTk h
theorem fmtTo_go (l : List Tk) : ∀ i, i ≤ l.length → fmtTo l i = goT 1 (l.take i)
  | 0, _ => rfl
  | i + 1, h => by
    rw [fmtTo, fmtTo_go l i (by omega), take_snocT l i (by omega), goT_app, goT, goT, List.append_nil]
    congr 2
    cases i with
    | zero => rw [if_neg (by omega), if_neg (by simp [lastK])]
    | succ i =>
      have e : lastK 1 (l.take (i + 1)) = (rdK l i).k := by rw [take_snocT l i (by omega), lastK_snoc]
      rw [e, Nat.add_sub_cancel]
      by_cases hc : (rdK l i).k ≠ 1 ∧ (rdK l (i + 1)).k ≠ 2
      · rw [if_pos ⟨by omega, hc⟩, if_pos hc]
      · rw [if_neg (fun g => hc g.2), if_neg hc]
theorem fmtTo_all (l : List Tk) : fmtTo l l.length = goT 1 l := by rw [fmtTo_go l l.length (Nat.le_refl _), List.take_length]
def nT (n : Int) : List UInt8 := 32 :: (decB n).data.toList
def sT (s : Stp) : List UInt8 := 32 :: 40 :: (decB s.f0).data.toList ++ nT s.f1 ++ [41]
theorem goT_nums : ∀ (ns : List Int) (X : List Tk) (p : Int), p ≠ 1 → ∃ q, q ≠ 1 ∧ goT p (ns.map tkN ++ X) = ns.flatMap nT ++ goT q X
  | [], X, p, h => ⟨p, h, rfl⟩
  | n :: ns, X, p, h => by
    obtain ⟨q, hq, e⟩ := goT_nums ns X 4 (by decide)
    refine ⟨q, hq, ?_⟩
    rw [List.map_cons, List.cons_append, goT, show (tkN n).k = 4 from rfl, if_pos ⟨h, by decide⟩, e, List.flatMap_cons]
    rw [show textB (tkN n) = decB n from rfl]
    simp [nT]
theorem goT_steps : ∀ (ls : List Stp) (X : List Tk) (p : Int), p ≠ 1 → ∃ q, q ≠ 1 ∧ goT p (ls.flatMap stT ++ X) = ls.flatMap sT ++ goT q X
  | [], X, p, h => ⟨p, h, rfl⟩
  | s :: ls, X, p, h => by
    obtain ⟨q, hq, e⟩ := goT_steps ls X 2 (by decide)
    refine ⟨q, hq, ?_⟩
    rw [List.flatMap_cons, List.flatMap_cons, List.append_assoc]
    rw [show stT s = [tkO, tkN s.f0, tkN s.f1, tkC] from rfl, List.cons_append, List.cons_append, List.cons_append, List.cons_append, List.nil_append, goT, goT, goT, goT]
    rw [show tkO.k = 1 from rfl, show (tkN s.f0).k = 4 from rfl, show (tkN s.f1).k = 4 from rfl, show tkC.k = 2 from rfl, e]
    rw [if_pos ⟨h, by decide⟩, if_neg (by decide), if_pos (by decide), if_neg (by decide)]
    rw [show textB (tkN s.f0) = decB s.f0 from rfl, show textB (tkN s.f1) = decB s.f1 from rfl, show (textB tkO).data.toList = [40] from rfl, show (textB tkC).data.toList = [41] from rfl]
    simp [sT, nT]
theorem show_text (word : ByteArray) (ns : List Int) (ls : List Stp) : fmtTo (showT word ns ls) (showT word ns ls).length = 40 :: word.data.toList ++ (ns.flatMap nT ++ (ls.flatMap sT ++ [41])) := by
  rw [fmtTo_all]
  unfold showT brk
  rw [List.cons_append, List.append_assoc, goT, goT]
  rw [if_neg (by decide), show tkO.k = 1 from rfl, show (tkW word).k = 3 from rfl, if_neg (by decide)]
  obtain ⟨q, hq, e⟩ := goT_nums ns (ls.flatMap stT ++ [tkC]) 3 (by decide)
  obtain ⟨q', hq', e'⟩ := goT_steps ls [tkC] q hq
  rw [e, e', goT, goT, show tkC.k = 2 from rfl, if_neg (by simp)]
  rw [show (textB tkO).data.toList = [40] from rfl, show (textB tkC).data.toList = [41] from rfl, show textB (tkW word) = word from rfl]
  simp
theorem ba_app (a b : ByteArray) : (a ++ b).data.toList = a.data.toList ++ b.data.toList := by simp
theorem numB_l (n : Int) : (numB n).data.toList = nT n := by unfold numB nT; rw [ba_app]; rfl
theorem stB_l (l : List Stp) : ∀ i, i ≤ l.length → (stB l i).data.toList = (l.take i).flatMap sT
  | 0, _ => rfl
  | i + 1, h => by
    have ht : l.take (i + 1) = l.take i ++ [rdS l i] := by
      have := take_snocI l i E.z60 h
      rw [this]; rfl
    rw [stB, ba_app, ba_app, ba_app, ba_app, stB_l l i (by omega), ht, List.flatMap_append, numB_l]
    simp [sT]
theorem stB_all (l : List Stp) : (stB l l.length).data.toList = l.flatMap sT := by rw [stB_l l l.length (Nat.le_refl _), List.take_length]
theorem ba_ext {a b : ByteArray} (h : a.data.toList = b.data.toList) : a = b := ByteArray.ext (Array.toList_inj.1 h)
theorem unText_eq (u : Un) : unText u = wrU u := by
  refine ba_ext ?_
  unfold unText wrU
  rw [show_text]
  simp only [ba_app, numB_l, stB_all, unNums, List.flatMap_cons, List.flatMap_nil, unitB]
  simp
theorem biText_eq (bus : Int) (l : List Stp) : biText bus l = wrB bus l := by
  refine ba_ext ?_
  unfold biText wrB
  rw [show_text]
  simp only [ba_app, numB_l, stB_all, List.flatMap_cons, List.flatMap_nil, bidB]
  simp
theorem flat_le {α : Type} {f : α → List UInt8} {m : Nat} (hf : ∀ x, (f x).length ≤ m) : ∀ l : List α, (l.flatMap f).length ≤ m * l.length
  | [] => by simp
  | x :: l => by
    rw [List.flatMap_cons, List.length_append, List.length_cons, Nat.mul_add]
    have := flat_le hf l; have := hf x; omega
theorem nT_len (n : Int) : (nT n).length ≤ 41 := by
  have h := decB_len n
  unfold nT; rw [List.length_cons, Array.length_toList]
  exact Nat.succ_le_succ h
theorem sT_len (s : Stp) : (sT s).length ≤ 84 := by
  have h := decB_len s.f0
  have h2 := nT_len s.f1
  unfold sT
  rw [List.length_append, List.length_append, List.length_cons, List.length_cons, Array.length_toList, List.length_singleton]
  have h3 : (decB s.f0).data.size ≤ 40 := h
  omega
theorem ok_W (word : ByteArray) (hw : ¬ word.size = 0) (hw2 : word.size < 1048576) (hk : sk word isLet 0 = word.size) : okTk (tkW word) := .inr (.inr (.inl ⟨rfl, hw, hw2, hk⟩))
theorem ok_N {n : Int} (h : Tn n) : okTk (tkN n) := .inr (.inr (.inr ⟨rfl, rfl, by have h1 : (tkN n).n = n := rfl; rw [h1]; unfold Tn at h; omega⟩))
theorem show_ok (word : ByteArray) (ns : List Int) (ls : List Stp) (hw : okTk (tkW word)) (hw2 : word.size ≤ 100) (hn : ∀ n ∈ ns, Tn n) (hs : ∀ s ∈ ls, Tn s.f0 ∧ Tn s.f1) (hl : ls.length ≤ 3) (hl2 : ns.length ≤ 8) : showOk word ns ls := by
  refine ⟨fun n h => tn_i64 (hn n h), fun s h => ⟨tn_i64 (hs s h).1, tn_i64 (hs s h).2⟩, fun x hx => ?_, ?_⟩
  · unfold showT brk at hx
    simp only [List.mem_cons, List.mem_append, List.mem_map, List.mem_flatMap, List.not_mem_nil, or_false] at hx
    rcases hx with rfl | (rfl | ⟨n, hn', rfl⟩ | ⟨s, hs', hx⟩) | rfl
    · exact .inl rfl
    · exact hw
    · exact ok_N (hn n hn')
    · rw [show stT s = [tkO, tkN s.f0, tkN s.f1, tkC] from rfl] at hx
      simp only [List.mem_cons, List.not_mem_nil, or_false] at hx
      rcases hx with rfl | rfl | rfl | rfl
      · exact .inl rfl
      · exact ok_N (hs s hs').1
      · exact ok_N (hs s hs').2
      · exact .inr (.inl rfl)
    · exact .inr (.inl rfl)
  · rw [show_text]
    have h1 := flat_le nT_len ns
    have h2 := flat_le sT_len ls
    have h3 : word.data.toList.length ≤ 100 := by rw [Array.length_toList]; exact hw2
    simp only [List.length_append, List.length_cons, List.length_nil]
    omega
theorem unit_W : okTk (tkW unitB) := ok_W _ (by decide) (by decide) (by rfl)
theorem bid_W : okTk (tkW bidB) := ok_W _ (by decide) (by decide) (by rfl)
theorem showU_ok {u : Un} (h : checkU u = 0) : showOk unitB (unNums u) u.steps := by
  obtain ⟨h1, h2, h3⟩ := checkU_ok h
  exact show_ok _ _ _ unit_W (by decide) h1 h2 h3 (Nat.le_refl 8)
theorem showB_ok {bus : Int} {l : List Stp} (h : checkB bus l = 0) : showOk bidB [bus] l := by
  obtain ⟨h1, h2, h3⟩ := checkB_ok h
  exact show_ok _ _ _ bid_W (by decide) (fun n hn => by rw [List.mem_singleton.1 hn]; exact h1) h2 h3 (show 1 ≤ 8 by decide)
theorem smlU_ok {u : Un} (h : checkU u = 0) : (∀ n ∈ unNums u, Sml n) ∧ ∀ s ∈ u.steps, Sml s.f0 ∧ Sml s.f1 := by
  obtain ⟨h1, h2, h3⟩ := checkU_ok h
  exact ⟨fun n hn => tn_sml (h1 n hn), fun s hs => ⟨tn_sml (h2 s hs).1, tn_sml (h2 s hs).2⟩⟩
theorem smlB_ok {bus : Int} {l : List Stp} (h : checkB bus l = 0) : Sml bus ∧ ∀ s ∈ l, Sml s.f0 ∧ Sml s.f1 := by
  obtain ⟨h1, h2, h3⟩ := checkB_ok h
  exact ⟨tn_sml h1, fun s hs => ⟨tn_sml (h2 s hs).1, tn_sml (h2 s hs).2⟩⟩
end Ar
end Go.Proofs.YtnghcgmkncbnnaaGreat
end
section
namespace Go.Proofs.YtnghcgmkncbnnaaGreat
open Go.RowKit Go.Proofs.YtnghcgmkncbnnaaGreatW.PrintWords Go.Proofs.YtnghcgmkncbnnaaGreatW.PrintLast Go.Proofs.YtnghcgmkncbnnaaGreatW.PrintMore
namespace Ar
open Wd
theorem same_l0 (l : List Stp) (hl : l.length < 1000000) : ∀ (n i k : Nat), i + n = l.length → n < k → E.pylonref23_Same.l0 k l l (i : Int) = some true
  | n, i, 0, h, hk => by omega
  | 0, i, k + 1, h, hk => by
    unfold E.pylonref23_Same.l0
    rw [if_neg (by omega)]
  | n + 1, i, k + 1, h, hk => by
    unfold E.pylonref23_Same.l0
    have hw : wrap64 ((i : Int) + 1) = ((i + 1 : Nat) : Int) := by rw [w64succ _ (by omega)]
    have ih := same_l0 l hl n (i + 1) k (by omega) (by omega)
    rw [if_pos (by omega)]
    simp only [hw, ih]
    simp
    try omega
theorem same_f (l : List Stp) (hl : l.length < 1000000) : E.pylonref23_Same.f (l.length + 1) l l = some true := by
  unfold E.pylonref23_Same.f
  have := same_l0 l hl l.length 0 (l.length + 1) (by omega) (by omega)
  rw [if_pos rfl]; exact this
theorem same23_c {w : World} (A A' : Option Addr) (c c' : Nat) (l : List Stp) (h : Kd.C kStp w A l.length l) (hc : l.length ≤ c) (h' : Kd.C kStp w A' l.length l) (hc' : l.length ≤ c') (hl : l.length < 1000000) :
    Calls Tryz.prog 41 #[.slice A l.length c, .slice A' l.length c'] w fun e w' => e = .returned (.bool true) ∧ Drawn0 w w' :=
  E.pylonref23_Same.calls _ A c l A' c' l true w h hc h' hc' (same_f l hl)
theorem sameBid_c {w : World} (bus : Int) (A A' : Option Addr) (c c' : Nat) (l : List Stp) (h : Kd.C kStp w A l.length l) (hc : l.length ≤ c) (h' : Kd.C kStp w A' l.length l) (hc' : l.length ≤ c') (hl : l.length < 1000000) :
    Calls Tryz.prog 18 #[.agg (biC bus (.slice A l.length c)), .agg (biC bus (.slice A' l.length c'))] w fun e w' => e = .returned (.bool true) ∧ Below w.heap.size w w' :=
  E.pylonref31_SameBid.calls (l.length + 1) bus A c l bus A' c' l true w h hc h' hc' (by unfold E.pylonref31_SameBid.f; rw [if_pos rfl, same_f l hl]; rfl)
theorem long_c {w : World} (s : ByteArray) (A : Option Addr) (c : Nat) (l : List Stp) (h : Kd.C kStp w A l.length l) (hc : l.length ≤ c) :
    Calls Tryz.prog 5 #[.string s, .slice A l.length c] w fun e w' => e = .returned (.bool (decide (5000 < s.size) || decide (50 < l.length))) ∧ Drawn0 w w' :=
  E.pylonlaw31_Long.calls s A c l _ w h hc (by
    unfold E.pylonlaw31_Long.f
    by_cases h1 : 5000 < s.size
    · rw [if_pos (by omega), decide_eq_true h1]; rfl
    · rw [if_neg (by omega), decide_eq_false h1, Bool.false_or]
      congr 1
      exact decide_eq_decide.2 (by omega))
def exU : Un := ⟨0, 2, [⟨5, 1⟩, ⟨4, 3⟩], 2, 2, 5, 3, 0, -1⟩
def exL : List Stp := [⟨4, 1000000⟩, ⟨4, 2⟩]
theorem ex_c {w : World} : Calls Tryz.prog 19 #[] w fun e w' => ∃ (A : Option Addr) (c : Nat), exU.steps.length ≤ c ∧ e = .returned (.agg (unC exU (.slice A exU.steps.length c))) ∧ Kd.C kStp w' A exU.steps.length exU.steps ∧ Below w.heap.size w w' :=
  (E.pylonlaw31_ex.calls _ _ _ _ _ _ _ _ _ w rfl).mono fun e w' ⟨v, he, hR, hb⟩ => by
    obtain ⟨A, c, rfl, hc, hC⟩ := Kd.R_reads hR
    exact ⟨A, c, hc, he, hC, hb⟩
theorem exBid_c {w : World} : Calls Tryz.prog 20 #[] w fun e w' => ∃ (A : Option Addr) (c : Nat), exL.length ≤ c ∧ e = .returned (.agg (biC 1 (.slice A exL.length c))) ∧ Kd.C kStp w' A exL.length exL ∧ Below w.heap.size w w' :=
  (E.pylonlaw31_exBid.calls _ _ w rfl).mono fun e w' ⟨v, he, hR, hb⟩ => by
    obtain ⟨A, c, rfl, hc, hC⟩ := Kd.R_reads hR
    exact ⟨A, c, hc, he, hC, hb⟩
set_option maxRecDepth 100000 in
set_option maxHeartbeats 8000000 in
theorem same31_c {w : World} (u : Un) (A A' : Option Addr) (c c' : Nat) (h : Kd.C kStp w A u.steps.length u.steps) (hc : u.steps.length ≤ c) (h' : Kd.C kStp w A' u.steps.length u.steps) (hc' : u.steps.length ≤ c') (hl : u.steps.length < 1000000) :
    Calls Tryz.prog 17 #[.agg (unC u (.slice A u.steps.length c)), .agg (unC u (.slice A' u.steps.length c'))] w fun e w' => e = .returned (.bool true) ∧ Below w.heap.size w w' := by
  have hU := Tryz.underlying24
  obtain ⟨bus, mi, l, up, dn, st, idl, sp, on⟩ := u
  dsimp only [unC] at h hc h' hc' hl ⊢
  have hb0 := below_alloc (below_alloc (Below.refl _ w) (.cells #[.int .i64 bus, .int .i64 mi, .slice A l.length c, .int .i64 up, .int .i64 dn, .int .i64 st, .int .i64 idl, .int .i64 sp, .int .i64 on] 24)) (.cells #[.int .i64 bus, .int .i64 mi, .slice A' l.length c', .int .i64 up, .int .i64 dn, .int .i64 st, .int .i64 idl, .int .i64 sp, .int .i64 on] 24)
  have k0 := blk_alloc (blk_new w (.cells #[.int .i64 bus, .int .i64 mi, .slice A l.length c, .int .i64 up, .int .i64 dn, .int .i64 st, .int .i64 idl, .int .i64 sp, .int .i64 on] 24)) (.cells #[.int .i64 bus, .int .i64 mi, .slice A' l.length c', .int .i64 up, .int .i64 dn, .int .i64 st, .int .i64 idl, .int .i64 sp, .int .i64 on] 24)
  have j0 := blk_new (w.alloc (.cells #[.int .i64 bus, .int .i64 mi, .slice A l.length c, .int .i64 up, .int .i64 dn, .int .i64 st, .int .i64 idl, .int .i64 sp, .int .i64 on] 24)) (.cells #[.int .i64 bus, .int .i64 mi, .slice A' l.length c', .int .i64 up, .int .i64 dn, .int .i64 st, .int .i64 idl, .int .i64 sp, .int .i64 on] 24)
  rw [World.size_alloc] at j0
  have HS := Lib.hid (same23_c (w := (w.alloc (.cells #[.int .i64 bus, .int .i64 mi, .slice A l.length c, .int .i64 up, .int .i64 dn, .int .i64 st, .int .i64 idl, .int .i64 sp, .int .i64 on] 24)).alloc (.cells #[.int .i64 bus, .int .i64 mi, .slice A' l.length c', .int .i64 up, .int .i64 dn, .int .i64 st, .int .i64 idl, .int .i64 sp, .int .i64 on] 24)) A A' c c' l (Kd.C_below h hb0) hc (Kd.C_below h' hb0) hc' hl)
  have hgb : (w.heap.size + 1) ≠ w.heap.size := by omega
  have hbg : w.heap.size ≠ (w.heap.size + 1) := by omega
  have hk0 := blk_cell k0 0; have hk1 := blk_cell k0 1; have hk2 := blk_cell k0 2; have hk3 := blk_cell k0 3; have hk4 := blk_cell k0 4; have hk5 := blk_cell k0 5; have hk6 := blk_cell k0 6; have hk7 := blk_cell k0 7; have hk8 := blk_cell k0 8; have hkf0 := blk_frozen k0 0; have hkf1 := blk_frozen k0 1; have hkf2 := blk_frozen k0 2; have hkf3 := blk_frozen k0 3; have hkf4 := blk_frozen k0 4; have hkf5 := blk_frozen k0 5; have hkf6 := blk_frozen k0 6; have hkf7 := blk_frozen k0 7; have hkf8 := blk_frozen k0 8
  have hj0 := blk_cell j0 0; have hj1 := blk_cell j0 1; have hj2 := blk_cell j0 2; have hj3 := blk_cell j0 3; have hj4 := blk_cell j0 4; have hj5 := blk_cell j0 5; have hj6 := blk_cell j0 6; have hj7 := blk_cell j0 7; have hj8 := blk_cell j0 8; have hjf0 := blk_frozen j0 0; have hjf1 := blk_frozen j0 1; have hjf2 := blk_frozen j0 2; have hjf3 := blk_frozen j0 3; have hjf4 := blk_frozen j0 4; have hjf5 := blk_frozen j0 5; have hjf6 := blk_frozen j0 6; have hjf7 := blk_frozen j0 7; have hjf8 := blk_frozen j0 8
  go_enter Tryz.func17, Tryz.ntmps17
  go_wp2_with (first | (go_at_call 41; refine HS.out.mono ?_; rintro e w1 ⟨rfl, ⟨nd, rfl⟩⟩))
  go_ret
  exact ⟨rfl, pw_below_drewN hb0 _⟩
set_option maxRecDepth 100000 in
set_option maxHeartbeats 8000000 in
theorem unit_c {w : World} {G : Int → Prop} {s : ByteArray} (hs : s.size < 1048576) (hG : Good s G) (p : Int) (hp : G p) (u : Un) (n er : Int) (hP : parseU s p = (u, n, er)) (A : Option Addr) (c : Nat) (h : Kd.C kStp w A u.steps.length u.steps) (hc : u.steps.length ≤ c) (hl : u.steps.length < 1000000) :
    Calls Tryz.prog 21 #[.string s, .int .i64 p, .agg (unC u (.slice A u.steps.length c)), .int .i64 n, .int .i64 er] w fun e w' => e = .returned (.bool true) ∧ Below w.heap.size w w' := by
  have hU := Tryz.underlying24
  have HP := Lib.hid (fun (W : World) => ParseUnit_c hs hG (w := W) p hp)
  rw [hP] at HP
  dsimp only at HP
  have HS := Lib.hid (fun (W : World) (hb : Below w.heap.size w W) (A' : Option Addr) (c' : Nat) (h1 : Kd.C kStp W A' u.steps.length u.steps) (hc1 : u.steps.length ≤ c') => same31_c (w := W) u A' A c' c h1 hc1 (Kd.C_below h hb) hc hl)
  clear hs hG hp hP hl
  obtain ⟨bus, mi, l, up, dn, st, idl, sp, on⟩ := u
  dsimp only [unC] at h hc HP HS ⊢
  have hb0 := below_alloc (Below.refl _ w) (.cells #[.int .i64 bus, .int .i64 mi, .slice A l.length c, .int .i64 up, .int .i64 dn, .int .i64 st, .int .i64 idl, .int .i64 sp, .int .i64 on] 24)
  have k0 := blk_new w (.cells #[.int .i64 bus, .int .i64 mi, .slice A l.length c, .int .i64 up, .int .i64 dn, .int .i64 st, .int .i64 idl, .int .i64 sp, .int .i64 on] 24)
  have hk0 := blk_cell k0 0; have hk1 := blk_cell k0 1; have hk2 := blk_cell k0 2; have hk3 := blk_cell k0 3; have hk4 := blk_cell k0 4; have hk5 := blk_cell k0 5; have hk6 := blk_cell k0 6; have hk7 := blk_cell k0 7; have hk8 := blk_cell k0 8; have hkf0 := blk_frozen k0 0; have hkf1 := blk_frozen k0 1; have hkf2 := blk_frozen k0 2; have hkf3 := blk_frozen k0 3; have hkf4 := blk_frozen k0 4; have hkf5 := blk_frozen k0 5; have hkf6 := blk_frozen k0 6; have hkf7 := blk_frozen k0 7; have hkf8 := blk_frozen k0 8
  go_enter Tryz.func21, Tryz.ntmps21
  go_wp2_with (first | (go_at_call 13; refine (HP.out _).mono ?_; rintro e w1 ⟨A1, c1, hc1, rfl, hr1, hb1⟩; have hB1 := below_step hb0 hb1; have i1 := blk_alloc (blk_below k0 hb1) (.cells #[.int .i64 bus, .int .i64 mi, .slice A1 l.length c1, .int .i64 up, .int .i64 dn, .int .i64 st, .int .i64 idl, .int .i64 sp, .int .i64 on] 24); have hB2 := below_alloc hB1 (.cells #[.int .i64 bus, .int .i64 mi, .slice A1 l.length c1, .int .i64 up, .int .i64 dn, .int .i64 st, .int .i64 idl, .int .i64 sp, .int .i64 on] 24); have hi0 := blk_cell i1 0; have hi1 := blk_cell i1 1; have hi2 := blk_cell i1 2; have hi3 := blk_cell i1 3; have hi4 := blk_cell i1 4; have hi5 := blk_cell i1 5; have hi6 := blk_cell i1 6; have hi7 := blk_cell i1 7; have hi8 := blk_cell i1 8; have hif0 := blk_frozen i1 0; have hif1 := blk_frozen i1 1; have hif2 := blk_frozen i1 2; have hif3 := blk_frozen i1 3; have hif4 := blk_frozen i1 4; have hif5 := blk_frozen i1 5; have hif6 := blk_frozen i1 6; have hif7 := blk_frozen i1 7; have hif8 := blk_frozen i1 8) | (go_at_call 17; refine (HS.out _ hB2 A1 c1 (Kd.C_below hr1 (below_alloc (Below.refl _ w1) (.cells #[.int .i64 bus, .int .i64 mi, .slice A1 l.length c1, .int .i64 up, .int .i64 dn, .int .i64 st, .int .i64 idl, .int .i64 sp, .int .i64 on] 24))) hc1).mono ?_; rintro e w3 ⟨rfl, hb3⟩; have hB3 := below_step hB2 hb3))
  go_ret
  exact ⟨rfl, hB3⟩
set_option maxRecDepth 100000 in
set_option maxHeartbeats 8000000 in
theorem bid_c {w : World} {G : Int → Prop} {s : ByteArray} (hs : s.size < 1048576) (hG : Good s G) (p : Int) (hp : G p) (bus : Int) (l : List Stp) (n er : Int) (hP : parseB s p = ((bus, l), n, er)) (A : Option Addr) (c : Nat) (h : Kd.C kStp w A l.length l) (hc : l.length ≤ c) (hl : l.length < 1000000) :
    Calls Tryz.prog 22 #[.string s, .int .i64 p, .agg (biC bus (.slice A l.length c)), .int .i64 n, .int .i64 er] w fun e w' => e = .returned (.bool true) ∧ Below w.heap.size w w' := by
  have hU := Tryz.underlying26
  have HP := Lib.hid (fun (W : World) => ParseBid_c hs hG (w := W) p hp)
  rw [hP] at HP
  dsimp only at HP
  have HS := Lib.hid (fun (W : World) (hb : Below w.heap.size w W) (A' : Option Addr) (c' : Nat) (h1 : Kd.C kStp W A' l.length l) (hc1 : l.length ≤ c') => sameBid_c (w := W) bus A' A c' c l h1 hc1 (Kd.C_below h hb) hc hl)
  clear hs hG hp hP hl
  have hb0 := below_alloc (Below.refl _ w) (.cells #[.int .i64 bus, .slice A l.length c] 26)
  have k0 := blk_new w (.cells #[.int .i64 bus, .slice A l.length c] 26)
  have hk0 := blk_cell k0 0; have hk1 := blk_cell k0 1; have hkf0 := blk_frozen k0 0; have hkf1 := blk_frozen k0 1
  go_enter Tryz.func22, Tryz.ntmps22
  go_wp2_with (first | (go_at_call 14; refine (HP.out _).mono ?_; rintro e w1 ⟨A1, c1, hc1, rfl, hr1, hb1⟩; have hB1 := below_step hb0 hb1; have i1 := blk_alloc (blk_below k0 hb1) (.cells #[.int .i64 bus, .slice A1 l.length c1] 26); have hB2 := below_alloc hB1 (.cells #[.int .i64 bus, .slice A1 l.length c1] 26); have hi0 := blk_cell i1 0; have hi1 := blk_cell i1 1; have hif0 := blk_frozen i1 0; have hif1 := blk_frozen i1 1) | (go_at_call 18; refine (HS.out _ hB2 A1 c1 (Kd.C_below hr1 (below_alloc (Below.refl _ w1) (.cells #[.int .i64 bus, .slice A1 l.length c1] 26))) hc1).mono ?_; rintro e w3 ⟨rfl, hb3⟩; have hB3 := below_step hB2 hb3))
  go_ret
  exact ⟨rfl, hB3⟩
end Ar
end Go.Proofs.YtnghcgmkncbnnaaGreat
end
section
namespace Go.Proofs.YtnghcgmkncbnnaaGreat
open Go.RowKit Go.Proofs.YtnghcgmkncbnnaaGreatW.PrintWords Go.Proofs.YtnghcgmkncbnnaaGreatW.PrintLast Go.Proofs.YtnghcgmkncbnnaaGreatW.PrintMore
namespace Ar
open Wd
theorem hic_of {w : ByteArray} (hs : w.size < 1048576) (h0 : 0 ≤ pD w) (hb : (den1 (pD w)).natAbs < 4294967296) : Hic w := by
  intro _ _ _ W ok v hv
  have hd : Sm (pD w) := by
    unfold pD
    split
    · refine zOf_sm _ (Nat.lt_of_le_of_lt ?_ hs)
      unfold qB; exact extract_size_le _ _ _
    · unfold Sm; decide
  have hn : Sm (zOf (qA w)) := by
    refine zOf_sm _ (Nat.lt_of_le_of_lt ?_ hs)
    unfold qA; split
    · exact Nat.le_refl _
    · exact extract_size_le _ _ _
  exact IsCanQ_c div_one hv hn hd h0 hb
def okW (w : ByteArray) : Bool := decide (0 ≤ pD w) && decide ((den1 (pD w)).natAbs < 4294967296)
def wdAt (s : ByteArray) (k : Nat) : ByteArray := s.extract (sk s isSep k) (sk s (fun b => isLet b || isDig b) (sk s isSep k))
def allOk (s : ByteArray) : Nat → Bool
  | 0 => okW (wdAt s 0)
  | k + 1 => okW (wdAt s (k + 1)) && allOk s k
theorem allOk_at {s : ByteArray} : ∀ {n k : Nat}, allOk s n = true → k ≤ n → okW (wdAt s k) = true
  | 0, k, h, hk => by rw [show k = 0 by omega]; exact h
  | n + 1, k, h, hk => by
    unfold allOk at h
    rw [Bool.and_eq_true] at h
    rcases Nat.lt_or_ge n k with h1 | h1
    · rw [show k = n + 1 by omega]; exact h.1
    · exact allOk_at h.2 h1
def inT (s : ByteArray) (p : Int) : Prop := 0 ≤ p ∧ p ≤ s.size
theorem next_in {s : ByteArray} {p : Int} (h : inT s p) (hn : (nextS s p).2.2 = 0) : inT s (nextS s p).2.1 := by
  unfold nextS at hn ⊢
  split at hn
  · cases hn
  rename_i h1
  rw [if_neg h1]
  split at hn
  · cases hn
  rename_i h2
  rw [if_neg h2]
  have hk := sk_le s isSep p.toNat (by unfold inT at h; omega)
  generalize sk s isSep p.toNat = k at hn hk ⊢
  unfold nextAt at hn ⊢
  by_cases h3 : k = s.size
  · rw [if_pos h3] at hn; cases hn
  rw [if_neg h3]
  by_cases h4 : bt s k = 40
  · rw [if_pos h4]; unfold inT; dsimp only; omega
  rw [if_neg h4]
  by_cases h5 : bt s k = 41
  · rw [if_pos h5]; unfold inT; dsimp only; omega
  rw [if_neg h5]
  have hr := sk_le s isRun k hk.2
  split
  · unfold inT; dsimp only; omega
  · rename_i h6
    rw [if_neg h3, if_neg h4, if_neg h5, if_neg h6] at hn
    exact absurd hn h6
theorem good_all {s : ByteArray} (hs : s.size < 1048576) (h : allOk s s.size = true) : Good s (inT s) := by
  intro p hp
  refine ⟨?_, fun hn => next_in hp hn⟩
  have h1 := allOk_at h (show p.toNat ≤ s.size by unfold inT at hp; omega)
  unfold okW at h1
  rw [Bool.and_eq_true, decide_eq_true_iff, decide_eq_true_iff] at h1
  exact hic_of (Nat.lt_of_le_of_lt (extract_size_le _ _ _) hs) h1.1 h1.2
theorem in0 (s : ByteArray) : inT s 0 := ⟨Int.le_refl 0, by omega⟩
def tx1 : ByteArray := ⟨#[40, 117, 110, 105, 116, 32, 48, 32, 50, 32, 50, 32, 50, 32, 53, 32, 51, 32, 48, 32, 45, 49, 32, 40, 53, 32, 49, 41, 32, 40, 52, 32, 51, 41, 41]⟩
def tx2 : ByteArray := ⟨#[40, 98, 105, 100, 32, 49, 32, 40, 52, 32, 49, 48, 48, 48, 48, 48, 48, 41, 32, 40, 52, 32, 50, 41, 41]⟩
def tx3 : ByteArray := ⟨#[40, 117, 110, 105, 116, 32, 48, 32, 50, 41]⟩
def tx4 : ByteArray := ⟨#[40, 117, 110, 105, 116, 32, 48, 32, 50, 32, 50, 32, 50, 32, 53, 32, 51, 32, 48, 32, 45, 49, 41]⟩
def tx5 : ByteArray := ⟨#[40, 98, 105, 100, 32, 49, 32, 40, 52, 32, 50, 41, 32, 40, 52, 32, 57, 41, 41]⟩
def tx6 : ByteArray := ⟨#[40, 98, 105, 100, 32, 49, 32, 40, 52, 32, 50, 41]⟩
def tx7 : ByteArray := ⟨#[40, 98, 105, 100, 32, 49, 47, 50, 32, 40, 52, 32, 50, 41, 41]⟩
theorem g1 : allOk tx1 tx1.size = true := by kernel_rfl
theorem g2 : allOk tx2 tx2.size = true := by kernel_rfl
theorem g3 : allOk tx3 tx3.size = true := by kernel_rfl
theorem g4 : allOk tx4 tx4.size = true := by kernel_rfl
theorem g5 : allOk tx5 tx5.size = true := by kernel_rfl
theorem g6 : allOk tx6 tx6.size = true := by kernel_rfl
theorem g7 : allOk tx7 tx7.size = true := by kernel_rfl
theorem p1 : parseU tx1 0 = (exU, 35, 0) := by kernel_rfl
theorem p2 : parseB tx2 0 = ((1, exL), 25, 0) := by kernel_rfl
theorem p3 : parseU tx3 0 = (zeroU, 0, 3) := by kernel_rfl
theorem p4 : parseU tx4 0 = (zeroU, 0, 4) := by kernel_rfl
theorem p5 : parseB tx5 0 = ((0, []), 0, 3) := by kernel_rfl
theorem p6 : parseB tx6 0 = ((0, []), 0, 4) := by kernel_rfl
theorem p7 : parseB tx7 0 = ((0, []), 0, 1) := by kernel_rfl
theorem c1 : checkU exU = 0 := by kernel_rfl
theorem c2 : checkB 1 exL = 0 := by kernel_rfl
theorem t1 : unText exU = tx1 := by kernel_rfl
theorem t2 : biText 1 exL = tx2 := by kernel_rfl
end Ar
end Go.Proofs.YtnghcgmkncbnnaaGreat
end
section
namespace Go.Proofs.YtnghcgmkncbnnaaGreat
open Go.RowKit Go.Proofs.YtnghcgmkncbnnaaGreatW.PrintWords Go.Proofs.YtnghcgmkncbnnaaGreatW.PrintLast Go.Proofs.YtnghcgmkncbnnaaGreatW.PrintMore
namespace Ar
open Wd
theorem fU_c {w : World} (A : Option Addr) (c : Nat) (hr : Kd.C kStp w A exU.steps.length exU.steps) (hc : exU.steps.length ≤ c) :
    Calls Tryz.prog 7 #[.agg (unC exU (.slice A exU.steps.length c))] w fun e w' => e = .returned (.tuple #[.string tx1, .int .i64 0]) ∧ Below w.heap.size w w' := by
  have h := FormatUnit_c exU A c hr hc (show 2 < 1000000 by decide) showU_ok
  rw [c1, if_pos rfl, t1] at h
  exact h
theorem fB_c {w : World} (A : Option Addr) (c : Nat) (hr : Kd.C kStp w A exL.length exL) (hc : exL.length ≤ c) :
    Calls Tryz.prog 9 #[.agg (biC 1 (.slice A exL.length c))] w fun e w' => e = .returned (.tuple #[.string tx2, .int .i64 0]) ∧ Below w.heap.size w w' := by
  have h := FormatBid_c 1 exL A c hr hc (show 2 < 1000000 by decide) showB_ok
  rw [c2, if_pos rfl, t2] at h
  exact h
set_option maxRecDepth 100000 in
set_option maxHeartbeats 16000000 in
theorem awake_c {w : World} : Calls Tryz.prog 6 #[] w fun e w' => e = .returned (.bool true) ∧ Below w.heap.size w w' := by
  have hU := Tryz.underlying24
  have hV := Tryz.underlying26
  have HE := Lib.hid (fun (W : World) => ex_c (w := W))
  have HB := Lib.hid (fun (W : World) => exBid_c (w := W))
  have HF := Lib.hid (fun (W : World) A c h1 h2 => fU_c (w := W) A c h1 h2)
  have HG := Lib.hid (fun (W : World) A c h1 h2 => fB_c (w := W) A c h1 h2)
  have H1 := Lib.hid (fun (W : World) A c h1 h2 => unit_c (w := W) (show tx1.size < 1048576 by decide) (good_all (show tx1.size < 1048576 by decide) g1) 0 (in0 _) exU 35 0 p1 A c h1 h2 (show 2 < 1000000 by decide))
  have H2 := Lib.hid (fun (W : World) A c h1 h2 => bid_c (w := W) (show tx2.size < 1048576 by decide) (good_all (show tx2.size < 1048576 by decide) g2) 0 (in0 _) 1 exL 25 0 p2 A c h1 h2 (show 2 < 1000000 by decide))
  have H3 := Lib.hid (fun (W : World) => unit_c (w := W) (show tx3.size < 1048576 by decide) (good_all (show tx3.size < 1048576 by decide) g3) 0 (in0 _) zeroU 0 3 p3 none 0 (C_nil W) (Nat.le_refl 0) (show 0 < 1000000 by decide))
  have H4 := Lib.hid (fun (W : World) => unit_c (w := W) (show tx4.size < 1048576 by decide) (good_all (show tx4.size < 1048576 by decide) g4) 0 (in0 _) zeroU 0 4 p4 none 0 (C_nil W) (Nat.le_refl 0) (show 0 < 1000000 by decide))
  have H5 := Lib.hid (fun (W : World) => bid_c (w := W) (show tx5.size < 1048576 by decide) (good_all (show tx5.size < 1048576 by decide) g5) 0 (in0 _) 0 [] 0 3 p5 none 0 (C_nil W) (Nat.le_refl 0) (show 0 < 1000000 by decide))
  have H6 := Lib.hid (fun (W : World) => bid_c (w := W) (show tx6.size < 1048576 by decide) (good_all (show tx6.size < 1048576 by decide) g6) 0 (in0 _) 0 [] 0 4 p6 none 0 (C_nil W) (Nat.le_refl 0) (show 0 < 1000000 by decide))
  have H7 := Lib.hid (fun (W : World) => bid_c (w := W) (show tx7.size < 1048576 by decide) (good_all (show tx7.size < 1048576 by decide) g7) 0 (in0 _) 0 [] 0 1 p7 none 0 (C_nil W) (Nat.le_refl 0) (show 0 < 1000000 by decide))
  dsimp only [unC, zeroU, exU, exL, tx1, tx2, tx3, tx4, tx5, tx6, tx7, List.length] at HE HB HF HG H1 H2 H3 H4 H5 H6 H7
  go_enter Tryz.func6, Tryz.ntmps6
  go_wp2_with (first | (go_at_call 22; have hz := hB12; refine (H7.out _).mono ?_; rintro e w13 ⟨rfl, hb13⟩; have hB13 := below_step hB12 hb13) | (go_at_call 22; have hz := hB11; refine (H6.out _).mono ?_; rintro e w12 ⟨rfl, hb12⟩; have hB12 := below_step hB11 hb12) | (go_at_call 22; have hz := hB10; refine (H5.out _).mono ?_; rintro e w11 ⟨rfl, hb11⟩; have hB11 := below_step hB10 hb11) | (go_at_call 21; have hz := hB9; refine (H4.out _).mono ?_; rintro e w10 ⟨rfl, hb10⟩; have hB10 := below_step hB9 hb10) | (go_at_call 21; have hz := hB8; refine (H3.out _).mono ?_; rintro e w9 ⟨rfl, hb9⟩; have hB9 := below_step hB8 hb9) | (go_at_call 22; have hz := hB7; refine (H2.out _ A7 k7 hr7 hc7).mono ?_; rintro e w8 ⟨rfl, hb8⟩; have hB8 := below_step hB7 hb8) | (go_at_call 20; have hz := hB6; refine (HB.out _).mono ?_; rintro e w7 ⟨A7, k7, hc7, rfl, hr7, hb7⟩; have hB7 := below_step hB6 hb7) | (go_at_call 21; have hz := hB5; refine (H1.out _ A5 k5 hr5 hc5).mono ?_; rintro e w6 ⟨rfl, hb6⟩; have hB6 := below_step hB5 hb6) | (go_at_call 19; have hz := hB4; refine (HE.out _).mono ?_; rintro e w5 ⟨A5, k5, hc5, rfl, hr5, hb5⟩; have hB5 := below_step hB4 hb5) | (go_at_call 9; have hz := hB3; refine (HG.out _ A3 k3 hr3 hc3).mono ?_; rintro e w4 ⟨rfl, hb4⟩; have hB4 := below_step hB3 hb4) | (go_at_call 20; have hz := hB2; refine (HB.out _).mono ?_; rintro e w3 ⟨A3, k3, hc3, rfl, hr3, hb3⟩; have hB3 := below_step hB2 hb3) | (go_at_call 7; have hz := hB1; refine (HF.out _ A1 k1 hr1 hc1).mono ?_; rintro e w2 ⟨rfl, hb2⟩; have hB2 := below_step hB1 hb2) | (go_at_call 19; refine (HE.out _).mono ?_; rintro e w1 ⟨A1, k1, hc1, rfl, hr1, hb1⟩; have hB1 := hb1))
  go_ret
  exact ⟨rfl, hB13⟩
end Ar
end Go.Proofs.YtnghcgmkncbnnaaGreat
end
section
namespace Go.Proofs.YtnghcgmkncbnnaaGreat
open Go.RowKit Go.Proofs.YtnghcgmkncbnnaaGreatW.PrintWords Go.Proofs.YtnghcgmkncbnnaaGreatW.PrintLast Go.Proofs.YtnghcgmkncbnnaaGreatW.PrintMore
namespace Ar
open Wd
set_option maxRecDepth 100000 in
set_option maxHeartbeats 16000000 in
theorem matches_c {w : World} (u : Un) (bus : Int) (l : List Stp) (A A' : Option Addr) (c c' : Nat) (h : Kd.C kStp w A u.steps.length u.steps) (hc : u.steps.length ≤ c) (h' : Kd.C kStp w A' l.length l) (hc' : l.length ≤ c') :
    Calls Tryz.prog 3 #[.agg (unC u (.slice A u.steps.length c)), .agg (biC bus (.slice A' l.length c'))] w fun e w' => e = .returned (.bool true) ∧ Below w.heap.size w w' := by
  have hU := Tryz.underlying24
  have hV := Tryz.underlying26
  have HU := Lib.hid (fun (W : World) (hb : Below w.heap.size w W) (hl : u.steps.length < 1000000) => FormatUnit_c (w := W) u A c (Kd.C_below h hb) hc hl showU_ok)
  have HR := Lib.hid (fun (W : World) (hb : Below w.heap.size w W) (hl : u.steps.length < 1000000) => refFormatUnit_c (w := W) u A c (Kd.C_below h hb) hc hl smlU_ok)
  have HB := Lib.hid (fun (W : World) (hb : Below w.heap.size w W) (hl : l.length < 1000000) => FormatBid_c (w := W) bus l A' c' (Kd.C_below h' hb) hc' hl showB_ok)
  have HS := Lib.hid (fun (W : World) (hb : Below w.heap.size w W) (hl : l.length < 1000000) => refFormatBid_c (w := W) bus l A' c' (Kd.C_below h' hb) hc' hl smlB_ok)
  have HL := Lib.hid (fun (W : World) (hb : Below w.heap.size w W) => long_c (w := W) ⟨#[]⟩ A c u.steps (Kd.C_below h hb) hc)
  have HM := Lib.hid (fun (W : World) (hb : Below w.heap.size w W) => long_c (w := W) ⟨#[]⟩ A' c' l (Kd.C_below h' hb) hc')
  have HA := Lib.hid (fun (W : World) => awake_c (w := W))
  rw [show decide (5000 < (⟨#[]⟩ : ByteArray).size) = false from rfl] at HL HM
  simp only [Bool.false_or] at HL HM
  rw [unText_eq] at HU
  rw [biText_eq] at HB
  obtain ⟨S1, hS1⟩ : ∃ S : ByteArray, (if checkU u = 0 then wrU u else ⟨#[]⟩) = S := ⟨_, rfl⟩
  obtain ⟨S2, hS2⟩ : ∃ S : ByteArray, (if checkB bus l = 0 then wrB bus l else ⟨#[]⟩) = S := ⟨_, rfl⟩
  rw [hS1] at HU HR
  rw [hS2] at HB HS
  clear hS1 hS2
  generalize checkU u = F1 at HU HR
  generalize checkB bus l = F2 at HB HS
  obtain ⟨b0, hb0d⟩ : ∃ b, decide (50 < u.steps.length) = b := ⟨_, rfl⟩
  obtain ⟨b1, hb1d⟩ : ∃ b, decide (50 < l.length) = b := ⟨_, rfl⟩
  have HN : Hid (b0 = false → u.steps.length < 1000000) := fun e => by rw [e, decide_eq_false_iff_not] at hb0d; omega
  have HO : Hid (b1 = false → l.length < 1000000) := fun e => by rw [e, decide_eq_false_iff_not] at hb1d; omega
  rw [hb0d] at HL
  rw [hb1d] at HM
  clear hb0d hb1d h h' hc hc'
  obtain ⟨ub, mi, lu, up, dn, st, idl, sp, on⟩ := u
  dsimp only [unC] at HU HR HL HN ⊢
  generalize lu.length = n1 at HU HR HL HN ⊢
  generalize l.length = n2 at HB HS HM HO ⊢
  have hbx := below_alloc (below_alloc (Below.refl _ w) (.cells #[.int .i64 ub, .int .i64 mi, .slice A n1 c, .int .i64 up, .int .i64 dn, .int .i64 st, .int .i64 idl, .int .i64 sp, .int .i64 on] 24)) (.cells #[.int .i64 bus, .slice A' n2 c'] 26)
  have k0 := blk_alloc (blk_new w (.cells #[.int .i64 ub, .int .i64 mi, .slice A n1 c, .int .i64 up, .int .i64 dn, .int .i64 st, .int .i64 idl, .int .i64 sp, .int .i64 on] 24)) (.cells #[.int .i64 bus, .slice A' n2 c'] 26)
  have j0 := blk_new (w.alloc (.cells #[.int .i64 ub, .int .i64 mi, .slice A n1 c, .int .i64 up, .int .i64 dn, .int .i64 st, .int .i64 idl, .int .i64 sp, .int .i64 on] 24)) (.cells #[.int .i64 bus, .slice A' n2 c'] 26)
  rw [World.size_alloc] at j0
  have hgb : (w.heap.size + 1) ≠ w.heap.size := by omega
  have hbg : w.heap.size ≠ (w.heap.size + 1) := by omega
  have hk0 := blk_cell k0 0; have hk1 := blk_cell k0 1; have hk2 := blk_cell k0 2; have hk3 := blk_cell k0 3; have hk4 := blk_cell k0 4; have hk5 := blk_cell k0 5; have hk6 := blk_cell k0 6; have hk7 := blk_cell k0 7; have hk8 := blk_cell k0 8; have hkf0 := blk_frozen k0 0; have hkf1 := blk_frozen k0 1; have hkf2 := blk_frozen k0 2; have hkf3 := blk_frozen k0 3; have hkf4 := blk_frozen k0 4; have hkf5 := blk_frozen k0 5; have hkf6 := blk_frozen k0 6; have hkf7 := blk_frozen k0 7; have hkf8 := blk_frozen k0 8
  have hj0 := blk_cell j0 0; have hj1 := blk_cell j0 1; have hjf0 := blk_frozen j0 0; have hjf1 := blk_frozen j0 1
  cases b0 with
  | true =>
    go_enter Tryz.func3, Tryz.ntmps3
    go_wp2_with (first | (go_at_call 5; refine (HL.out _ hbx).mono ?_; rintro e w1 ⟨rfl, ⟨nd, rfl⟩⟩) | (go_at_call 6; refine (HA.out _).mono ?_; rintro e w9 ⟨rfl, hb9⟩; have hB9 := below_step (pw_below_drewN hbx _) hb9))
    go_ret
    exact ⟨rfl, hB9⟩
  | false =>
    have HN' := Lib.hid (HN.out rfl)
    cases b1 with
    | true =>
      go_enter Tryz.func3, Tryz.ntmps3
      go_wp2_with (first | (go_at_call 5; have hz := nd; refine (HM.out _ (pw_below_drewN hbx _)).mono ?_; rintro e w2 ⟨rfl, ⟨nd2, rfl⟩⟩) | (go_at_call 5; refine (HL.out _ hbx).mono ?_; rintro e w1 ⟨rfl, ⟨nd, rfl⟩⟩) | (go_at_call 6; refine (HA.out _).mono ?_; rintro e w9 ⟨rfl, hb9⟩; have hB9 := below_step (pw_below_drewN hbx _) hb9))
      go_ret
      exact ⟨rfl, hB9⟩
    | false =>
      have HO' := Lib.hid (HO.out rfl)
      go_enter Tryz.func3, Tryz.ntmps3
      go_wp2_with (first | (go_at_call 6; have hz := hB6; refine (HA.out _).mono ?_; rintro e w9 ⟨rfl, hb9⟩; have hB9 := below_step hB6 hb9) | (go_at_call 10; refine (HS.out _ hB5 HO'.out).mono ?_; rintro e w6 ⟨rfl, hb6⟩; have hB6 := below_step hB5 hb6) | (go_at_call 9; refine (HB.out _ hB4 HO'.out).mono ?_; rintro e w5 ⟨rfl, hb5⟩; have hB5 := below_step hB4 hb5; have j5 := blk_below j4 hb5; have hc0 := blk_cell j5 0; have hc1 := blk_cell j5 1; have hcf0 := blk_frozen j5 0; have hcf1 := blk_frozen j5 1) | (go_at_call 8; refine (HR.out _ hB3 HN'.out).mono ?_; rintro e w4 ⟨rfl, hb4⟩; have hB4 := below_step hB3 hb4; have j4 := blk_below j3 hb4; have hd0 := blk_cell j4 0; have hd1 := blk_cell j4 1; have hdf0 := blk_frozen j4 0; have hdf1 := blk_frozen j4 1) | (go_at_call 7; refine (HU.out _ (pw_below_drewN hbx _) HN'.out).mono ?_; rintro e w3 ⟨rfl, hb3⟩; have hB3 := below_step (pw_below_drewN hbx _) hb3; have j3 := blk_below (blk_drewN j0 _) hb3; have k3 := blk_below (blk_drewN k0 _) hb3; have hf0 := blk_cell j3 0; have hf1 := blk_cell j3 1; have hff0 := blk_frozen j3 0; have hff1 := blk_frozen j3 1; have hg0 := blk_cell k3 0; have hg1 := blk_cell k3 1; have hg2 := blk_cell k3 2; have hg3 := blk_cell k3 3; have hg4 := blk_cell k3 4; have hg5 := blk_cell k3 5; have hg6 := blk_cell k3 6; have hg7 := blk_cell k3 7; have hg8 := blk_cell k3 8; have hgf0 := blk_frozen k3 0; have hgf1 := blk_frozen k3 1; have hgf2 := blk_frozen k3 2; have hgf3 := blk_frozen k3 3; have hgf4 := blk_frozen k3 4; have hgf5 := blk_frozen k3 5; have hgf6 := blk_frozen k3 6; have hgf7 := blk_frozen k3 7; have hgf8 := blk_frozen k3 8) | (go_at_call 5; have hz := nd; refine (HM.out _ (pw_below_drewN hbx _)).mono ?_; rintro e w2 ⟨rfl, ⟨nd2, rfl⟩⟩) | (go_at_call 5; refine (HL.out _ hbx).mono ?_; rintro e w1 ⟨rfl, ⟨nd, rfl⟩⟩))
      go_ret
      exact ⟨rfl, hB9⟩
end Ar
end Go.Proofs.YtnghcgmkncbnnaaGreat
end
