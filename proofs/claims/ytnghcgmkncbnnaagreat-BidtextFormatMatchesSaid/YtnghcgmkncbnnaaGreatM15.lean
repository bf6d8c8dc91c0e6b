/- Part 15 of the proof: The references of packages step and unit: Curve, Sum, Max, Check; what is wrong with a bid. -/
import Derived.BigQuiet
import Derived.Test.YtnghcgmkncbnnaaGreatM10
set_option linter.unusedVariables false
set_option linter.unusedSimpArgs false
section
namespace Go.Proofs.YtnghcgmkncbnnaaGreat
open Go.RowKit Go.Proofs.YtnghcgmkncbnnaaGreatW.PrintWords Go.Proofs.YtnghcgmkncbnnaaGreatW.PrintLast Go.Proofs.YtnghcgmkncbnnaaGreatW.PrintMore
namespace Ar
open Wd
theorem refCurve_c {w : World} (A : Option Addr) (c : Nat) (l : List Stp) (hr : Kd.C kStp w A l.length l) (hc : l.length ≤ c) :
    Calls Tryz.prog 81 #[.slice A l.length c] w fun e w' => e = .returned (.int .i64 (curveS l)) ∧ Below w.heap.size w w' := by
  have HB := Lib.hid (fun (W : World) (h : Below w.heap.size w W) => refBid_c (w := W) A c l (Kd.C_below hr h) hc)
  have HO := Lib.hid (fun (W : World) (h : Below w.heap.size w W) => refOffer_c (w := W) A c l (Kd.C_below hr h) hc)
  unfold curveS
  generalize curS rise l = R at HO ⊢
  generalize curS fall l = F at HB ⊢
  by_cases h : F = 0
  · subst h
    rw [if_pos rfl]
    go_enter Tryz.func81, Tryz.ntmps81
    go_wp2_with (first | (go_at_call 47; refine (HB.out _ (Below.refl _ _)).mono ?_; rintro e w1 ⟨rfl, hb1⟩))
    go_ret
    exact ⟨rfl, hb1⟩
  · rw [if_neg h]
    have hb : (F == 0) = false := beq_eq_false_iff_ne.2 h
    clear h
    go_enter Tryz.func81, Tryz.ntmps81
    go_wp2_with (first | (go_at_call 47; refine (HB.out _ (Below.refl _ _)).mono ?_; rintro e w1 ⟨rfl, hb1⟩) | (go_at_call 45; refine (HO.out _ hb1).mono ?_; rintro e w2 ⟨rfl, hb2⟩; have hB2 := below_step hb1 hb2))
    go_ret
    exact ⟨rfl, hB2⟩
set_option maxRecDepth 100000 in
set_option maxHeartbeats 8000000 in
theorem refSum_c {w : World} (A : Option Addr) (c : Nat) (l : List Stp) (hr : Kd.C kStp w A l.length l) (hc : l.length ≤ c) (hlen : l.length < 1073741824) :
    Calls Tryz.prog 65 #[.slice A l.length c] w fun e w' => e = .returned (.int .i64 (sumS l)) ∧ Below w.heap.size w w' := by
  have hS := Tryz.underlying60
  have HC := Lib.hid (fun (W : World) (h : Below w.heap.size w W) => refCurve_c (w := W) A c l (Kd.C_below hr h) hc)
  obtain ⟨R, hP⟩ : ∃ R, R = sumS l := ⟨_, rfl⟩
  rw [← hP]
  unfold sumS at hP
  generalize curveS l = F at HC hP
  by_cases h : F = 0
  · subst h
    rw [if_pos rfl] at hP
    have HX := Lib.hid hP
    clear hP
    go_enter Tryz.func65, Tryz.ntmps65
    go_wp2
    go_loopg [3, 4] l.length (fun k v3 v W => ∃ (i : Nat) (acc : Int), v = .int .i64 i ∧ v3 = .int .i64 acc ∧ i + k = l.length ∧ Hid (R = sumF l k i acc) ∧ Below w.heap.size w W)
    case atStart => exact ⟨0, 0, rfl, rfl, by omega, HX.out, Below.refl _ _⟩
    case round =>
      obtain ⟨i, acc, rfl, rfl, hi, HR, hB⟩ := hrel
      cases gk with
      | zero =>
        obtain rfl : i = l.length := by omega
        have hlb : decide ((l.length : Int) < (l.length : Int)) = false := decide_eq_false (by omega)
        go_wp2
        go_ret
        exact ⟨by rw [HR.out]; rfl, hB⟩
      | succ n =>
        have hlt : i < l.length := by omega
        have hlb : decide ((i : Int) < (l.length : Int)) = true := decide_eq_true (by omega)
        have hln : decide (i < l.length) = true := decide_eq_true hlt
        obtain ⟨x, hx⟩ : ∃ x, (rdS l i).f0 = x := ⟨_, rfl⟩
        have HQ : Hid (∀ W, Below wr.heap.size wr W → ∃ ad, A = some ad ∧ W.cell? (ad.add (i * 2)) = some (.int .i64 x)) := by
          intro W hW
          obtain ⟨ad, had, q0, q1⟩ := E.at_T60 (Kd.C_below (Kd.C_below hr hB) hW) i (by omega) (by omega)
          rw [show (E.rd_T60 l ((i : Nat) : Int)).f0 = x from hx, Int.toNat_natCast] at q0
          exact ⟨ad, had, q0⟩
        have HY : Hid (R = sumF l n (i + 1) (wrap64 (acc + x))) := by have h := HR.out; unfold sumF at h; rw [hx] at h; exact h
        clear hx HR HX
        have hw3 : wrap64 ((i : Int) + 1) = ((i + 1 : Nat) : Int) := w64succ i (by omega)
        obtain ⟨ad, rfl, _⟩ := HQ.out _ (Below.refl _ _)
        go_wp2_with (first | (go_at_call 81; refine (HC.out _ hB).mono ?_; rintro e w1 ⟨rfl, hb1⟩; have hB1 := below_step hB hb1; obtain ⟨ad', had, q0⟩ := HQ.out _ hb1; obtain rfl := Option.some.inj had))
        go_roundg n
        case measure => omega
        case rel => exact ⟨i + 1, _, by first | exact congrArg (Value.int .i64) hw3 | exact congrArg (Value.int .i64) (Int.natCast_succ i).symm, rfl, by omega, HY.out, hB1⟩
  · rw [if_neg h] at hP
    have hb : (F == 0) = false := beq_eq_false_iff_ne.2 h
    subst hP
    clear h
    go_enter Tryz.func65, Tryz.ntmps65
    go_wp2
    go_loopg [3, 4] 0 (fun k v3 v W => v = .int .i64 0 ∧ v3 = .int .i64 0 ∧ Below w.heap.size w W)
    case atStart => exact ⟨rfl, rfl, Below.refl _ _⟩
    case round =>
      obtain ⟨rfl, rfl, hB⟩ := hrel
      go_wp2_with (first | (go_at_call 81; refine (HC.out _ hB).mono ?_; rintro e w1 ⟨rfl, hb1⟩; have hB := below_step hB hb1))
      all_goals go_ret
      all_goals exact ⟨rfl, hB⟩
set_option maxRecDepth 100000 in
set_option maxHeartbeats 8000000 in
theorem refMax_c {w : World} (u : Un) (A : Option Addr) (c : Nat) (hr : Kd.C kStp w A u.steps.length u.steps) (hc : u.steps.length ≤ c) (hlen : u.steps.length < 1073741824) :
    Calls Tryz.prog 46 #[.agg (unC u (.slice A u.steps.length c))] w fun e w' => e = .returned (.int .i64 (maxS u.steps)) ∧ Below w.heap.size w w' := by
  have hU := Tryz.underlying24
  obtain ⟨bus, mi, l, up, dn, st, idl, sp, on⟩ := u
  dsimp only [unC] at hr hc hlen ⊢
  have hb0 := below_alloc (Below.refl _ w) (.cells #[.int .i64 bus, .int .i64 mi, .slice A l.length c, .int .i64 up, .int .i64 dn, .int .i64 st, .int .i64 idl, .int .i64 sp, .int .i64 on] 24)
  have k0 := blk_new w (.cells #[.int .i64 bus, .int .i64 mi, .slice A l.length c, .int .i64 up, .int .i64 dn, .int .i64 st, .int .i64 idl, .int .i64 sp, .int .i64 on] 24)
  have HO := Lib.hid (fun (W : World) (h : Below w.heap.size w W) => refOffer_c (w := W) A c l (Kd.C_below hr h) hc)
  have HS := Lib.hid (fun (W : World) (h : Below w.heap.size w W) => refSum_c (w := W) A c l (Kd.C_below hr h) hc hlen)
  unfold maxS
  generalize curS rise l = F at HO ⊢
  generalize sumS l = R at HS ⊢
  have hk0 := blk_cell k0 0; have hk1 := blk_cell k0 1; have hk2 := blk_cell k0 2; have hk3 := blk_cell k0 3; have hk4 := blk_cell k0 4; have hk5 := blk_cell k0 5; have hk6 := blk_cell k0 6; have hk7 := blk_cell k0 7; have hk8 := blk_cell k0 8; have hkf0 := blk_frozen k0 0; have hkf1 := blk_frozen k0 1; have hkf2 := blk_frozen k0 2; have hkf3 := blk_frozen k0 3; have hkf4 := blk_frozen k0 4; have hkf5 := blk_frozen k0 5; have hkf6 := blk_frozen k0 6; have hkf7 := blk_frozen k0 7; have hkf8 := blk_frozen k0 8
  by_cases h : F = 0
  · subst h
    rw [if_pos rfl]
    go_enter Tryz.func46, Tryz.ntmps46
    go_wp2_with (first | (go_at_call 45; refine (HO.out _ hb0).mono ?_; rintro e w1 ⟨rfl, hb1⟩; have hB1 := below_step hb0 hb1; have k1 := blk_below k0 hb1; have hj0 := blk_cell k1 0; have hj1 := blk_cell k1 1; have hj2 := blk_cell k1 2; have hj3 := blk_cell k1 3; have hj4 := blk_cell k1 4; have hj5 := blk_cell k1 5; have hj6 := blk_cell k1 6; have hj7 := blk_cell k1 7; have hj8 := blk_cell k1 8; have hjf0 := blk_frozen k1 0; have hjf1 := blk_frozen k1 1; have hjf2 := blk_frozen k1 2; have hjf3 := blk_frozen k1 3; have hjf4 := blk_frozen k1 4; have hjf5 := blk_frozen k1 5; have hjf6 := blk_frozen k1 6; have hjf7 := blk_frozen k1 7; have hjf8 := blk_frozen k1 8) | (go_at_call 65; refine (HS.out _ hB1).mono ?_; rintro e w2 ⟨rfl, hb2⟩; have hB2 := below_step hB1 hb2))
    go_ret
    exact ⟨rfl, hB2⟩
  · rw [if_neg h]
    have hb : (F != 0) = true := bne_iff_ne.2 h
    clear h
    go_enter Tryz.func46, Tryz.ntmps46
    go_wp2_with (first | (go_at_call 45; refine (HO.out _ hb0).mono ?_; rintro e w1 ⟨rfl, hb1⟩; have hB1 := below_step hb0 hb1; have k1 := blk_below k0 hb1))
    go_ret
    exact ⟨rfl, hB1⟩
set_option maxRecDepth 100000 in
set_option maxHeartbeats 8000000 in
theorem refB_c {w : World} (bus : Int) (l : List Stp) (A : Option Addr) (c : Nat) (hr : Kd.C kStp w A l.length l) (hc : l.length ≤ c) :
    Calls Tryz.prog 26 #[.agg (biC bus (.slice A l.length c))] w fun e w' => e = .returned (.int .i64 (checkB bus l)) ∧ Below w.heap.size w w' := by
  have hU := Tryz.underlying26
  have hb0 := below_alloc (Below.refl _ w) (.cells #[.int .i64 bus, .slice A l.length c] 26)
  have k0 := blk_new w (.cells #[.int .i64 bus, .slice A l.length c] 26)
  have HO := Lib.hid (fun (W : World) (h : Below w.heap.size w W) => refBid_c (w := W) A c l (Kd.C_below hr h) hc)
  unfold checkB
  generalize curS fall l = F at HO ⊢
  have hk0 := blk_cell k0 0; have hk1 := blk_cell k0 1; have hkf0 := blk_frozen k0 0; have hkf1 := blk_frozen k0 1
  by_cases h0 : bus < 0
  · have d0 : decide (bus < 0) = true := decide_eq_true h0
    rw [if_pos (.inl h0)]
    clear h0
    go_enter Tryz.func26, Tryz.ntmps26
    go_wp2
    go_ret
    exact ⟨rfl, hb0⟩
  · have d0 : decide (bus < 0) = false := decide_eq_false h0
    by_cases h6 : 6 ≤ bus
    · have d6 : decide (5 < bus) = true := decide_eq_true (by omega)
      rw [if_pos (.inr h6)]
      clear h0 h6
      go_enter Tryz.func26, Tryz.ntmps26
      go_wp2
      go_ret
      exact ⟨rfl, hb0⟩
    · have d6 : decide (5 < bus) = false := decide_eq_false (by omega)
      rw [if_neg (fun h => h.elim h0 h6)]
      clear h0 h6
      go_enter Tryz.func26, Tryz.ntmps26
      go_wp2_with (first | (go_at_call 47; refine (HO.out _ hb0).mono ?_; rintro e w1 ⟨rfl, hb1⟩; have hB1 := below_step hb0 hb1))
      go_ret
      exact ⟨rfl, hB1⟩
theorem inR_false {n a b : Int} (h : ¬ (a ≤ n ∧ n ≤ b)) : inR n a b = false := by
  unfold inR
  by_cases h1 : a ≤ n
  · rw [decide_eq_false (fun h2 => h ⟨h1, h2⟩), Bool.and_false]
  · rw [decide_eq_false h1, Bool.false_and]
theorem inR_true {n a b : Int} (h : a ≤ n ∧ n ≤ b) : inR n a b = true := by
  unfold inR; rw [decide_eq_true h.1, decide_eq_true h.2]; rfl
set_option maxRecDepth 100000 in
set_option maxHeartbeats 16000000 in
theorem refCheck_c {w : World} (u : Un) (A : Option Addr) (c : Nat) (hr : Kd.C kStp w A u.steps.length u.steps) (hc : u.steps.length ≤ c) (hlen : u.steps.length < 1073741824) :
    Calls Tryz.prog 24 #[.agg (unC u (.slice A u.steps.length c)), .int .i64 6] w fun e w' => e = .returned (.int .i64 (checkU u)) ∧ Below w.heap.size w w' := by
  have hU := Tryz.underlying24
  obtain ⟨R, hP⟩ : ∃ R, R = checkU u := ⟨_, rfl⟩
  rw [← hP]
  unfold checkU at hP
  have HM := Lib.hid (fun (W : World) (h : Below w.heap.size w W) => refMax_c (w := W) u A c (Kd.C_below hr h) hc hlen)
  obtain ⟨bus, mi, l, up, dn, st, idl, sp, on⟩ := u
  dsimp only [unC] at hr hc hlen hP HM ⊢
  have hb0 := below_alloc (Below.refl _ w) (.cells #[.int .i64 bus, .int .i64 mi, .slice A l.length c, .int .i64 up, .int .i64 dn, .int .i64 st, .int .i64 idl, .int .i64 sp, .int .i64 on] 24)
  have k0 := blk_new w (.cells #[.int .i64 bus, .int .i64 mi, .slice A l.length c, .int .i64 up, .int .i64 dn, .int .i64 st, .int .i64 idl, .int .i64 sp, .int .i64 on] 24)
  have HO := Lib.hid (fun (W : World) (h : Below w.heap.size w W) => refOffer_c (w := W) A c l (Kd.C_below hr h) hc)
  generalize curS rise l = F at HO hP
  generalize maxS l = M at HM hP
  have hk0 := blk_cell k0 0; have hk1 := blk_cell k0 1; have hk2 := blk_cell k0 2; have hk3 := blk_cell k0 3; have hk4 := blk_cell k0 4; have hk5 := blk_cell k0 5; have hk6 := blk_cell k0 6; have hk7 := blk_cell k0 7; have hk8 := blk_cell k0 8; have hkf0 := blk_frozen k0 0; have hkf1 := blk_frozen k0 1; have hkf2 := blk_frozen k0 2; have hkf3 := blk_frozen k0 3; have hkf4 := blk_frozen k0 4; have hkf5 := blk_frozen k0 5; have hkf6 := blk_frozen k0 6; have hkf7 := blk_frozen k0 7; have hkf8 := blk_frozen k0 8
  have HP := Lib.hid hP
  clear hP
  go_enter Tryz.func24, Tryz.ntmps24
  by_cases q0 : bus < 0
  · have d0 : decide (bus < 0) = true := decide_eq_true q0
    have HX : Hid (R = 1) := by rw [HP.out, if_pos (inR_false (by omega))]; exact rfl
    clear q0
    go_wp2
    go_ret
    exact ⟨by rw [HX.out]; rfl, hb0⟩
  have d0 : decide (bus < 0) = false := decide_eq_false q0
  by_cases q1 : 6 ≤ bus
  · have d1 : decide (6 ≤ bus) = true := decide_eq_true q1
    have HX : Hid (R = 1) := by rw [HP.out, if_pos (inR_false (by omega))]; exact rfl
    clear q0 q1
    go_wp2
    go_ret
    exact ⟨by rw [HX.out]; rfl, hb0⟩
  have d1 : decide (6 ≤ bus) = false := decide_eq_false q1
  replace HP := Lib.hid (HP.out.trans (if_neg (by rw [inR_true (by omega)]; decide)))
  clear q0 q1
  by_cases h : F = 0
  · subst h
    replace HP := Lib.hid (HP.out.trans (if_neg (by simp)))
    have hZ : R = if (((0 ≤ mi ∧ mi ≤ M) ∧ (0 ≤ sp ∧ sp ≤ 1000000)) ∧ (((1 ≤ up ∧ up ≤ 6) ∧ (1 ≤ dn ∧ dn ≤ 6)) ∧ (-6 ≤ on ∧ on ≤ 6)) ∧ on ≠ 0) ∧ ((0 ≤ st ∧ st ≤ 1000000000) ∧ (0 ≤ idl ∧ idl ≤ 1000000000)) then 0 else 1 := by
      have h := HP.out
      unfold inR at h
      simp only [Bool.and_eq_true, decide_eq_true_eq, bne_iff_ne, ne_eq] at h
      exact h
    clear HP
    go_wp2_with (first | (go_at_call 45; refine (HO.out _ hb0).mono ?_; rintro e w1 ⟨rfl, hb1⟩; have hB1 := below_step hb0 hb1; have k1 := blk_below k0 hb1))
    obtain ⟨X, f, hf, hg⟩ := cls_of (fun W : World => Below w.heap.size w W ∧ W.heap[w.heap.size]? = some (.cells #[.int .i64 bus, .int .i64 mi, .slice A l.length c, .int .i64 up, .int .i64 dn, .int .i64 st, .int .i64 idl, .int .i64 sp, .int .i64 on] 24 (0, 0)))
    have HF := Lib.hid hf
    have HM' : Hid (∀ x : X, Calls Tryz.prog 46 #[.agg #[.int .i64 bus, .int .i64 mi, .slice A l.length c, .int .i64 up, .int .i64 dn, .int .i64 st, .int .i64 idl, .int .i64 sp, .int .i64 on]] (f x) fun e w' => e = .returned (.int .i64 M) ∧ ∃ y : X, w' = f y) := fun x => (HM.out (f x) (hf x).1).mono fun e w' ⟨he, hb⟩ => ⟨he, hg _ ⟨below_step (hf x).1 hb, blk_below (hf x).2 hb⟩⟩
    have HG := Lib.hid (hg w1.drew ⟨below_drew hB1, k1⟩)
    have hne : Nonempty X := HG.out.elim (fun x _ => ⟨x⟩)
    have u0 : ∀ x : X, (f x).cell? ⟨w.heap.size, 0, none⟩ = some (.int .i64 bus) := fun x => blk_cell (hf x).2 0
    have u1 : ∀ x : X, (f x).cell? ⟨w.heap.size, 1, none⟩ = some (.int .i64 mi) := fun x => blk_cell (hf x).2 1
    have u2 : ∀ x : X, (f x).cell? ⟨w.heap.size, 2, none⟩ = some (.slice A l.length c) := fun x => blk_cell (hf x).2 2
    have u3 : ∀ x : X, (f x).cell? ⟨w.heap.size, 3, none⟩ = some (.int .i64 up) := fun x => blk_cell (hf x).2 3
    have u4 : ∀ x : X, (f x).cell? ⟨w.heap.size, 4, none⟩ = some (.int .i64 dn) := fun x => blk_cell (hf x).2 4
    have u5 : ∀ x : X, (f x).cell? ⟨w.heap.size, 5, none⟩ = some (.int .i64 st) := fun x => blk_cell (hf x).2 5
    have u6 : ∀ x : X, (f x).cell? ⟨w.heap.size, 6, none⟩ = some (.int .i64 idl) := fun x => blk_cell (hf x).2 6
    have u7 : ∀ x : X, (f x).cell? ⟨w.heap.size, 7, none⟩ = some (.int .i64 sp) := fun x => blk_cell (hf x).2 7
    have u8 : ∀ x : X, (f x).cell? ⟨w.heap.size, 8, none⟩ = some (.int .i64 on) := fun x => blk_cell (hf x).2 8
    clear hf hg
    have HZ := Lib.hid hZ
    clear hZ
    refine wp_region_cls f (by kernel_rfl) (by kernel_rfl) HG.out ?_
    dsimp only [List.append]
    iterate 2 (go_big_quiet_step (exact HM'.out _))
    by_cases qa : mi < 0
    · have dqa : decide (mi < 0) = true := decide_eq_true qa
      have HX : Hid (R = 1) := by rw [HZ.out, if_neg (by omega)]; exact rfl
      clear qa
      repeat (go_big_quiet_step (exact HM'.out _))
      refine wpQuiet_nil ?_
      rintro w2 ⟨x, rfl⟩
      have hB2 := (HF.out x).1
      go_wp2
      go_ret
      exact ⟨by rw [HX.out]; rfl, hB2⟩
    have dqa : decide (mi < 0) = false := decide_eq_false qa
    have Qa := Lib.hid qa
    clear qa
    iterate 6 (go_big_quiet_step (exact HM'.out _))
    by_cases qb : M < mi
    · have dqb : decide (M < mi) = true := decide_eq_true qb
      have HX : Hid (R = 1) := by rw [HZ.out, if_neg (by omega)]; exact rfl
      clear qb
      repeat (go_big_quiet_step (exact HM'.out _))
      refine wpQuiet_nil ?_
      rintro w2 ⟨x, rfl⟩
      have hB2 := (HF.out x).1
      go_wp2
      go_ret
      exact ⟨by rw [HX.out]; rfl, hB2⟩
    have dqb : decide (M < mi) = false := decide_eq_false qb
    have Qb := Lib.hid qb
    clear qb
    iterate 5 (go_big_quiet_step (exact HM'.out _))
    by_cases qc : up < 1
    · have dqc : decide (up < 1) = true := decide_eq_true qc
      have HX : Hid (R = 1) := by rw [HZ.out, if_neg (by omega)]; exact rfl
      clear qc
      repeat (go_big_quiet_step (exact HM'.out _))
      refine wpQuiet_nil ?_
      rintro w2 ⟨x, rfl⟩
      have hB2 := (HF.out x).1
      go_wp2
      go_ret
      exact ⟨by rw [HX.out]; rfl, hB2⟩
    have dqc : decide (up < 1) = false := decide_eq_false qc
    have Qc := Lib.hid qc
    clear qc
    iterate 5 (go_big_quiet_step (exact HM'.out _))
    by_cases qd : 6 < up
    · have dqd : decide (6 < up) = true := decide_eq_true qd
      have HX : Hid (R = 1) := by rw [HZ.out, if_neg (by omega)]; exact rfl
      clear qd
      repeat (go_big_quiet_step (exact HM'.out _))
      refine wpQuiet_nil ?_
      rintro w2 ⟨x, rfl⟩
      have hB2 := (HF.out x).1
      go_wp2
      go_ret
      exact ⟨by rw [HX.out]; rfl, hB2⟩
    have dqd : decide (6 < up) = false := decide_eq_false qd
    have Qd := Lib.hid qd
    clear qd
    iterate 5 (go_big_quiet_step (exact HM'.out _))
    by_cases qe : dn < 1
    · have dqe : decide (dn < 1) = true := decide_eq_true qe
      have HX : Hid (R = 1) := by rw [HZ.out, if_neg (by omega)]; exact rfl
      clear qe
      repeat (go_big_quiet_step (exact HM'.out _))
      refine wpQuiet_nil ?_
      rintro w2 ⟨x, rfl⟩
      have hB2 := (HF.out x).1
      go_wp2
      go_ret
      exact ⟨by rw [HX.out]; rfl, hB2⟩
    have dqe : decide (dn < 1) = false := decide_eq_false qe
    have Qe := Lib.hid qe
    clear qe
    iterate 5 (go_big_quiet_step (exact HM'.out _))
    by_cases qf : 6 < dn
    · have dqf : decide (6 < dn) = true := decide_eq_true qf
      have HX : Hid (R = 1) := by rw [HZ.out, if_neg (by omega)]; exact rfl
      clear qf
      repeat (go_big_quiet_step (exact HM'.out _))
      refine wpQuiet_nil ?_
      rintro w2 ⟨x, rfl⟩
      have hB2 := (HF.out x).1
      go_wp2
      go_ret
      exact ⟨by rw [HX.out]; rfl, hB2⟩
    have dqf : decide (6 < dn) = false := decide_eq_false qf
    have Qf := Lib.hid qf
    clear qf
    iterate 5 (go_big_quiet_step (exact HM'.out _))
    by_cases qg : st < 0
    · have dqg : decide (st < 0) = true := decide_eq_true qg
      have HX : Hid (R = 1) := by rw [HZ.out, if_neg (by omega)]; exact rfl
      clear qg
      repeat (go_big_quiet_step (exact HM'.out _))
      refine wpQuiet_nil ?_
      rintro w2 ⟨x, rfl⟩
      have hB2 := (HF.out x).1
      go_wp2
      go_ret
      exact ⟨by rw [HX.out]; rfl, hB2⟩
    have dqg : decide (st < 0) = false := decide_eq_false qg
    have Qg := Lib.hid qg
    clear qg
    iterate 5 (go_big_quiet_step (exact HM'.out _))
    by_cases qh : 1000000000 < st
    · have dqh : decide (1000000000 < st) = true := decide_eq_true qh
      have HX : Hid (R = 1) := by rw [HZ.out, if_neg (by omega)]; exact rfl
      clear qh
      repeat (go_big_quiet_step (exact HM'.out _))
      refine wpQuiet_nil ?_
      rintro w2 ⟨x, rfl⟩
      have hB2 := (HF.out x).1
      go_wp2
      go_ret
      exact ⟨by rw [HX.out]; rfl, hB2⟩
    have dqh : decide (1000000000 < st) = false := decide_eq_false qh
    have Qh := Lib.hid qh
    clear qh
    iterate 5 (go_big_quiet_step (exact HM'.out _))
    by_cases qi : idl < 0
    · have dqi : decide (idl < 0) = true := decide_eq_true qi
      have HX : Hid (R = 1) := by rw [HZ.out, if_neg (by omega)]; exact rfl
      clear qi
      repeat (go_big_quiet_step (exact HM'.out _))
      refine wpQuiet_nil ?_
      rintro w2 ⟨x, rfl⟩
      have hB2 := (HF.out x).1
      go_wp2
      go_ret
      exact ⟨by rw [HX.out]; rfl, hB2⟩
    have dqi : decide (idl < 0) = false := decide_eq_false qi
    have Qi := Lib.hid qi
    clear qi
    iterate 5 (go_big_quiet_step (exact HM'.out _))
    by_cases qj : 1000000000 < idl
    · have dqj : decide (1000000000 < idl) = true := decide_eq_true qj
      have HX : Hid (R = 1) := by rw [HZ.out, if_neg (by omega)]; exact rfl
      clear qj
      repeat (go_big_quiet_step (exact HM'.out _))
      refine wpQuiet_nil ?_
      rintro w2 ⟨x, rfl⟩
      have hB2 := (HF.out x).1
      go_wp2
      go_ret
      exact ⟨by rw [HX.out]; rfl, hB2⟩
    have dqj : decide (1000000000 < idl) = false := decide_eq_false qj
    have Qj := Lib.hid qj
    clear qj
    iterate 5 (go_big_quiet_step (exact HM'.out _))
    by_cases qk : sp < 0
    · have dqk : decide (sp < 0) = true := decide_eq_true qk
      have HX : Hid (R = 1) := by rw [HZ.out, if_neg (by omega)]; exact rfl
      clear qk
      repeat (go_big_quiet_step (exact HM'.out _))
      refine wpQuiet_nil ?_
      rintro w2 ⟨x, rfl⟩
      have hB2 := (HF.out x).1
      go_wp2
      go_ret
      exact ⟨by rw [HX.out]; rfl, hB2⟩
    have dqk : decide (sp < 0) = false := decide_eq_false qk
    have Qk := Lib.hid qk
    clear qk
    iterate 5 (go_big_quiet_step (exact HM'.out _))
    by_cases ql : 1000000 < sp
    · have dql : decide (1000000 < sp) = true := decide_eq_true ql
      have HX : Hid (R = 1) := by rw [HZ.out, if_neg (by omega)]; exact rfl
      clear ql
      repeat (go_big_quiet_step (exact HM'.out _))
      refine wpQuiet_nil ?_
      rintro w2 ⟨x, rfl⟩
      have hB2 := (HF.out x).1
      go_wp2
      go_ret
      exact ⟨by rw [HX.out]; rfl, hB2⟩
    have dql : decide (1000000 < sp) = false := decide_eq_false ql
    have Ql := Lib.hid ql
    clear ql
    iterate 5 (go_big_quiet_step (exact HM'.out _))
    by_cases qm : on = 0
    · have dqm : (on == 0) = true := beq_iff_eq.2 qm
      have HX : Hid (R = 1) := by rw [HZ.out, if_neg (by omega)]; exact rfl
      clear qm
      repeat (go_big_quiet_step (exact HM'.out _))
      refine wpQuiet_nil ?_
      rintro w2 ⟨x, rfl⟩
      have hB2 := (HF.out x).1
      go_wp2
      go_ret
      exact ⟨by rw [HX.out]; rfl, hB2⟩
    have dqm : (on == 0) = false := beq_eq_false_iff_ne.2 qm
    have Qm := Lib.hid qm
    clear qm
    iterate 5 (go_big_quiet_step (exact HM'.out _))
    by_cases qn : on < -6
    · have dqn : decide (on < -6) = true := decide_eq_true qn
      have HX : Hid (R = 1) := by rw [HZ.out, if_neg (by omega)]; exact rfl
      clear qn
      repeat (go_big_quiet_step (exact HM'.out _))
      refine wpQuiet_nil ?_
      rintro w2 ⟨x, rfl⟩
      have hB2 := (HF.out x).1
      go_wp2
      go_ret
      exact ⟨by rw [HX.out]; rfl, hB2⟩
    have dqn : decide (on < -6) = false := decide_eq_false qn
    have Qn := Lib.hid qn
    clear qn
    iterate 5 (go_big_quiet_step (exact HM'.out _))
    by_cases qo : 6 < on
    · have dqo : decide (6 < on) = true := decide_eq_true qo
      have HX : Hid (R = 1) := by rw [HZ.out, if_neg (by omega)]; exact rfl
      clear qo
      repeat (go_big_quiet_step (exact HM'.out _))
      refine wpQuiet_nil ?_
      rintro w2 ⟨x, rfl⟩
      have hB2 := (HF.out x).1
      go_wp2
      go_ret
      exact ⟨by rw [HX.out]; rfl, hB2⟩
    have dqo : decide (6 < on) = false := decide_eq_false qo
    have Qo := Lib.hid qo
    clear qo
    have HX : Hid (R = 0) := by
      have hqa := Qa.out; have hqb := Qb.out; have hqc := Qc.out; have hqd := Qd.out; have hqe := Qe.out; have hqf := Qf.out; have hqg := Qg.out; have hqh := Qh.out; have hqi := Qi.out; have hqj := Qj.out; have hqk := Qk.out; have hql := Ql.out; have hqm := Qm.out; have hqn := Qn.out; have hqo := Qo.out
      rw [HZ.out, if_pos (by omega)]; exact rfl
    repeat (go_big_quiet_step (exact HM'.out _))
    refine wpQuiet_nil ?_
    rintro w2 ⟨x, rfl⟩
    have hB2 := (HF.out x).1
    go_wp2
    go_ret
    exact ⟨by rw [HX.out]; rfl, hB2⟩
  · have HX := Lib.hid (HP.out.trans (if_pos h))
    have hb : (F != 0) = true := bne_iff_ne.2 h
    clear h HP
    go_wp2_with (first | (go_at_call 45; refine (HO.out _ hb0).mono ?_; rintro e w1 ⟨rfl, hb1⟩; have hB1 := below_step hb0 hb1))
    go_ret
    exact ⟨by rw [HX.out]; rfl, hB1⟩
end Ar
end Go.Proofs.YtnghcgmkncbnnaaGreat
end
