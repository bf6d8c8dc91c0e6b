/- Part 9 of the proof: Texts of numbers as package frac parts them. Integers' texts as package whole parses them. Rationals' texts as package frac parses them. Classes of bytes as package token asks them. Passing over bytes of classes as package token does it. -/
import Derived.WalkMore
import Derived.Test.YtnghcgmkncbnnaaMx8
set_option linter.unusedVariables false
set_option linter.unusedSimpArgs false
section
namespace Go.Proofs.Ytnghcgmkncbnnaa
open Go.RowKit Go.Proofs.YtnghcgmkncbnnaaW.PrintWords Go.Proofs.YtnghcgmkncbnnaaW.PrintLast Go.Proofs.YtnghcgmkncbnnaaW.PrintMore
namespace Ar
open Wd
def strokeF : Nat → ByteArray → Nat → Nat
  | 0, _, k => k
  | f + 1, s, k => if bt s k = 47 then k else strokeF f s (k + 1)
def stroke (s : ByteArray) (k : Nat) : Nat := strokeF (s.size - k) s k
set_option maxRecDepth 100000 in
set_option maxHeartbeats 4000000 in
theorem parted_c {w : World} (s : ByteArray) (hs : s.size < 1048576) :
    Calls Try.prog 79 #[.string s] w fun e w' => e = .returned (if stroke s 0 = s.size then .tuple #[.string s, .string ByteArray.empty, .bool false] else .tuple #[.string (s.extract 0 (stroke s 0)), .string (s.extract (stroke s 0 + 1) s.size), .bool true]) ∧ Below w.heap.size w w' := by
  go_enter Try.func79, Try.ntmps79
  go_wp2; go_step3; go_wp2; go_step3; go_wp2
  go_loopg [5] s.size (fun g v w' => ∃ k : Nat, v = .int .i64 k ∧ k + g = s.size ∧ stroke s k = stroke s 0 ∧ w' = w)
  case atStart => exact ⟨0, rfl, by omega, rfl, rfl⟩
  case round =>
    obtain ⟨k, rfl, hk, hst, rfl⟩ := hrel
    cases gk with
    | zero =>
      have hk' : k = s.size := by omega
      subst hk'
      have he : stroke s 0 = s.size := by
        rw [← hst]; unfold stroke; rw [Nat.sub_self]; rfl
      go_wp2
      rw [Exit.noGoto_ret]
      refine bodyPost_ret (results_tmp3 rfl _ _ _) rfl ?_
      exact ⟨by rw [if_pos he]; rfl, Below.refl _ _⟩
    | succ g =>
      have hlt : k < s.size := by omega
      have hb : ((s[k]'hlt).toNat : Int) = bt s k := bt_at s k hlt
      by_cases h7 : bt s k = 47
      · have h7b : (bt s k == 47) = true := beq_iff_eq.2 h7
        have he : stroke s 0 = k := by
          rw [← hst]; unfold stroke; rw [show s.size - k = g + 1 by omega, strokeF, if_pos h7]
        have hne : ((k : Int) == (s.size : Int)) = false := by rw [beq_eq_false_iff_ne]; omega
        go_wp2
        go_quiet (first | fail)
        go_wp2
        rw [Exit.noGoto_ret]
        refine bodyPost_ret (results_tmp3 rfl _ _ _) rfl ?_
        exact ⟨by rw [he, if_neg (by omega)]; rfl, pw_below_drewN (Below.refl _ _) nq⟩
      · have h7b : (bt s k == 47) = false := beq_eq_false_iff_ne.2 h7
        go_wp2
        go_roundg g
        case measure => omega
        case rel =>
          refine ⟨k + 1, rfl, by omega, ?_, rfl⟩
          rw [← hst]
          conv => rhs; unfold stroke
          rw [show s.size - k = g + 1 by omega, strokeF, if_neg h7]
          unfold stroke; rw [show s.size - (k + 1) = g by omega]
end Ar
end Go.Proofs.Ytnghcgmkncbnnaa
end
section
namespace Go.Proofs.Ytnghcgmkncbnnaa
open Go.RowKit Go.Proofs.YtnghcgmkncbnnaaW.PrintWords Go.Proofs.YtnghcgmkncbnnaaW.PrintLast Go.Proofs.YtnghcgmkncbnnaaW.PrintMore
namespace Ar
open Wd
def decN (t : ByteArray) : Nat → Nat
  | 0 => 0
  | k + 1 => decN t k * 10 + (bt t k - 48).toNat
def digB (t : ByteArray) (k : Nat) : Bool := decide (48 ≤ bt t k) && decide (bt t k ≤ 57)
def allB (t : ByteArray) : Nat → Bool
  | 0 => true
  | k + 1 => allB t k && digB t k
def pNeg (s : ByteArray) : Bool := decide (0 < s.size) && decide (bt s 0 = 45)
def pTail (s : ByteArray) : ByteArray := if pNeg s = true then s.extract 1 s.size else s
def pMag (neg : Bool) (t : ByteArray) : Nat × Int :=
  if 1000 < t.size then (0, 5) else if t.size = 0 then (0, 3) else if bt t 0 = 48 ∧ (neg = true ∨ 1 < t.size) then (0, 3) else if allB t t.size = true then (decN t t.size, 0) else (0, 3)
theorem allB_le {t : ByteArray} : ∀ {n k : Nat}, allB t n = true → k ≤ n → allB t k = true
  | 0, k, h, hk => by rw [show k = 0 by omega]; rfl
  | n + 1, k, h, hk => by
    rcases Nat.lt_or_ge n k with h1 | h1
    · rw [show k = n + 1 by omega]; exact h
    · exact allB_le (n := n) ((Bool.and_eq_true_iff.1 h).1) h1
theorem allB_not {t : ByteArray} {n k : Nat} (hk : k < n) (h : digB t k = false) : allB t n = false := by
  cases h1 : allB t n with
  | false => rfl
  | true =>
    have := allB_le (k := k + 1) h1 hk
    simp only [allB, h, Bool.and_false] at this
    exact absurd this (by decide)
theorem digB_range {t : ByteArray} {k : Nat} (h : digB t k = true) : 48 ≤ bt t k ∧ bt t k ≤ 57 := by
  unfold digB at h
  rw [Bool.and_eq_true_iff] at h
  exact ⟨of_decide_eq_true h.1, of_decide_eq_true h.2⟩
theorem decN_lt {t : ByteArray} : ∀ {k : Nat}, allB t k = true → decN t k < 10 ^ k
  | 0, _ => by simp [decN]
  | k + 1, h => by
    obtain ⟨h1, h2⟩ := Bool.and_eq_true_iff.1 h
    have := decN_lt h1
    have := digB_range h2
    simp only [decN, Nat.pow_succ]
    omega
theorem decN_digs {t : ByteArray} {k : Nat} (h : allB t k = true) : (digs (decN t k)).length ≤ k :=
  digs_len_le _ _ (Nat.lt_of_lt_of_le (decN_lt h) (Nat.pow_le_pow_left (by decide) k))
theorem okWv (x : Int) (h0 : 0 ≤ x) (h1 : x < 4294967296) : okW [x] := by
  intro y hy
  rw [List.mem_singleton.1 hy]; omega
theorem uv_lit1g (W : World) (g : Nat) (a : Int) (hg : g = W.heap.size) : Uv (W.alloc (.cells #[.int .u32 a] 149)) all (.slice (some ⟨g, 0, none⟩) 1 1) [a] := by
  subst hg; exact (uv_lit1 W a).any
theorem ten_c {w : World} {ok okb : Nat → Prop} {A B : Option Addr} {c d : Nat} {r l : List Int} {m x : Nat} (hu : Uv w ok (.slice A r.length c) r) (hr : okW r ∧ val r = m * 10 ∧ r.length < 2097152) (hl : Uv w okb (.slice B l.length d) l) (hx : l = [(x : Int)]) (hx1 : x < 10) :
    Calls Try.prog 88 #[.slice A r.length c, .slice B l.length d] w (Out w fun q => val q = m * 10 + x ∧ q.length < 2097153 + 1) := by
  subst hx
  refine (add_c hu hl hr.1 (okWv _ (by omega) (by omega)) (by omega) (by simp)).mono ?_
  rintro e w' ⟨A', q, c', he, ⟨h1, h2, h3⟩, h4, h5⟩
  refine ⟨A', q, c', he, ⟨h1, ?_, ?_⟩, h4, h5⟩
  · rw [h2, hr.2.1, val1]
  · rw [h3]; simp only [List.length_singleton]; omega
theorem tenPre {n k : Nat} {r : List Int} (H : Hid (okW r ∧ val r = val (digs n) * val [10] ∧ r.length = (digs n).length + [(10 : Int)].length)) (hl : (digs n).length ≤ k) (hk : k < 1048576) : okW r ∧ val r = n * 10 ∧ r.length < 2097152 :=
  ⟨H.out.1, by rw [H.out.2.1, val_digs]; simp [val], by rw [H.out.2.2]; simp only [List.length_singleton]; omega⟩
def PzAt (w : World) (t : ByteArray) (g : Nat) (v5 v40 : Value) (W : World) : Prop := ∃ k : Nat, v40 = .int .i64 k ∧ Uv W (fun j => w.heap.size + 1 ≤ j) v5 (digs (decN t k)) ∧ k + g = t.size ∧ allB t k = true ∧ Below w.heap.size w W ∧ W.heap[w.heap.size]? = some (zObj false (.slice none 0 0))
theorem isEmpty_of {t : ByteArray} (h : t.size = 0) : t.toList.isEmpty = true := by
  rw [ByteArray.toList_eq, List.isEmpty_iff, ← List.length_eq_zero_iff, data_length]; exact h
theorem isEmpty_not {t : ByteArray} (h : ¬ t.size = 0) : t.toList.isEmpty = false := by
  rw [Bool.eq_false_iff, Ne, ByteArray.toList_eq, List.isEmpty_iff, ← List.length_eq_zero_iff, data_length]; exact h
set_option maxRecDepth 100000 in
set_option maxHeartbeats 8000000 in
theorem ParseZ_c {w : World} (s : ByteArray) (hs : s.size < 1048576) :
    Calls Try.prog 80 #[.string s] w fun e w' => ∃ v, e = .returned (.tuple #[v, .int .i64 (pMag (pNeg s) (pTail s)).2]) ∧ ZV w' (fun k => w.heap.size ≤ k) v (sg (pNeg s) (pMag (pNeg s) (pTail s)).1) ∧ Below w.heap.size w w' := by
  have hT := Try.underlying76
  have hb1 := below_alloc (Below.refl _ w) (zObj false (.slice none 0 0))
  have k1 := blk_new w (zObj false (.slice none 0 0))
  obtain ⟨t, ht⟩ : ∃ t, pTail s = t := ⟨_, rfl⟩
  obtain ⟨n, hn⟩ : ∃ n, pNeg s = n := ⟨_, rfl⟩
  rw [ht, hn]
  obtain ⟨m, er, hP⟩ : ∃ m er, (m, er) = pMag n t := ⟨_, _, rfl⟩
  rw [← hP]
  have HP : Hid ((1000 < t.size → m = 0 ∧ er = 5) ∧ (¬ 1000 < t.size → t.size = 0 → m = 0 ∧ er = 3) ∧ (¬ 1000 < t.size → ¬ t.size = 0 → (bt t 0 = 48 ∧ (n = true ∨ 1 < t.size)) → m = 0 ∧ er = 3) ∧ (¬ 1000 < t.size → ¬ t.size = 0 → (¬ (bt t 0 = 48 ∧ (n = true ∨ 1 < t.size))) → (m, er) = if allB t t.size = true then (decN t t.size, 0) else (0, 3))) := by
    unfold pMag at hP
    refine ⟨fun h => ?_, fun h1 h2 => ?_, fun h1 h2 h3 => ?_, fun h1 h2 h3 => ?_⟩
    · rw [if_pos h] at hP; cases hP; exact ⟨rfl, rfl⟩
    · rw [if_neg h1, if_pos h2] at hP; cases hP; exact ⟨rfl, rfl⟩
    · rw [if_neg h1, if_neg h2, if_pos h3] at hP; cases hP; exact ⟨rfl, rfl⟩
    · rw [if_neg h1, if_neg h2, if_neg h3] at hP; exact hP
  clear hP
  have HE : Hid (∀ (W : World) (x : Int), m = 0 ∧ er = x → Below w.heap.size w W → ∃ v, Ending.returned (.tuple #[.agg #[.bool false, .slice none 0 0], .int .i64 x]) = .returned (.tuple #[v, .int .i64 er]) ∧ ZV W (fun k => w.heap.size ≤ k) v (sg n m) ∧ Below w.heap.size w W) := by
    rintro W x ⟨rfl, rfl⟩ hB
    have hz : sg n 0 = 0 := by cases n <;> rfl
    rw [hz]
    exact ⟨_, rfl, ZV.nil _ _, hB⟩
  go_enter Try.func80, Try.ntmps80
  by_cases h0 : 0 < s.size
  · have h0b : decide (0 < s.size) = true := decide_eq_true h0
    have hb0 : ((s[0]'h0).toNat : Int) = bt s 0 := bt_at s 0 h0
    by_cases h45 : bt s 0 = 45
    · have h45b : (bt s 0 == 45) = true := beq_iff_eq.2 h45
      have hnn : pNeg s = true := by unfold pNeg; rw [h0b, h45]; rfl
      have hx : s.extract 1 s.size = t := by rw [← ht]; unfold pTail; rw [if_pos hnn]
      obtain rfl : true = n := by rw [← hn, hnn]
      clear ht hn
      by_cases hl : 1000 < t.size
      · have hlb : decide ((1000 : Int) < (t.size : Int)) = true := decide_eq_true (by omega)
        go_wp2
        refine bodyPost_ret (results_list (rs := [.cell 2 76, .tmp 3]) rfl (by simp) (.cell w.heap.size 76 #[.bool false, .slice none 0 0] (0, 0) _ rfl k1 Try.underlying76 rfl (by kernel_rfl) (.tmp .nil))) rfl ?_
        exact HE.out _ _ (HP.out.1 hl) hb1
      · have hlb : decide ((1000 : Int) < (t.size : Int)) = false := decide_eq_false (by omega)
        by_cases hz : t.size = 0
        · have hem : t.toList.isEmpty = true := isEmpty_of hz
          go_wp2
          refine bodyPost_ret (results_list (rs := [.cell 2 76, .tmp 3]) rfl (by simp) (.cell w.heap.size 76 #[.bool false, .slice none 0 0] (0, 0) _ rfl k1 Try.underlying76 rfl (by kernel_rfl) (.tmp .nil))) rfl ?_
          exact HE.out _ _ (HP.out.2.1 hl hz) hb1
        · have hem : t.toList.isEmpty = false := isEmpty_not hz
          have hp0 : 0 < t.size := by omega
          have hbt : ((t[0]'hp0).toNat : Int) = bt t 0 := bt_at t 0 hp0
          by_cases h48 : bt t 0 = 48
          · have h48b : (bt t 0 == 48) = true := beq_iff_eq.2 h48
            go_wp2
            refine bodyPost_ret (results_list (rs := [.cell 2 76, .tmp 3]) rfl (by simp) (.cell w.heap.size 76 #[.bool false, .slice none 0 0] (0, 0) _ rfl k1 Try.underlying76 rfl (by kernel_rfl) (.tmp .nil))) rfl ?_
            exact HE.out _ _ (HP.out.2.2.1 hl hz ⟨h48, .inl trivial⟩) hb1
          · have h48b : (bt t 0 == 48) = false := beq_eq_false_iff_ne.2 h48
            have hP2 := HP.out.2.2.2 hl hz (fun h => h48 h.1)
            go_wp2
            go_loopg [5, 40] t.size (fun g v5 v40 w' => PzAt w t g v5 v40 w')
            case atStart => exact ⟨0, rfl, Uv.nil _ _, by omega, rfl, hb1, k1⟩
            case round =>
              obtain ⟨k, rfl, hu, hk, hall, hB, kr⟩ := hrel
              obtain ⟨A, c, rfl, _, _⟩ := hu.slice
              have hx0 := blk_cell kr 0
              have hx1 := blk_cell kr 1
              have hf0 := blk_frozen kr 0
              have hf1 := blk_frozen kr 1
              cases gk with
              | zero =>
                have hk' : k = t.size := by omega
                subst hk'
                have hlen := decN_digs hall
                go_wp2_with (go_at_call 86; refine (made_h _ hu (digs_ok _) (by omega)).mono ?_; rintro e w2 ⟨b2, A2, r2, c2, rfl, H2, hv2, hb2⟩; have i3 := blk_below kr hb2; have hx0 := (blk_cell i3 0); have hx1 := blk_cell i3 1; have hf0 := blk_frozen i3 0; have hf1 := blk_frozen i3 1)
                have hs1 : w.heap.size + 1 ≤ wr.heap.size := blk_lt kr
                rw [if_pos hall] at hP2
                obtain ⟨rfl, rfl⟩ := Prod.mk.inj hP2
                refine bodyPost_ret (results_list (rs := [.cell 2 76, .tmp 3]) rfl (by simp) (.cell w.heap.size 76 #[.bool b2, .slice A2 r2.length c2] (0, 0) _ rfl (blk_set (blk_set i3 0 _) 1 _) Try.underlying76 rfl (by kernel_rfl) (.tmp .nil))) rfl ?_
                obtain ⟨e2, e3⟩ := H2.out
                rw [val_digs] at e2 e3
                obtain ⟨v, hv, hz, hbw⟩ := zv_store (ok' := fun j => w.heap.size ≤ j) (sg true (decN t t.size)) (below_step hB hb2) (Nat.le_refl _) hv2 (fun j hj => by omega) (by rw [(sg_sign _ _).2]; exact e3) (e2.trans (sg_sign _ _).1) (fun j hj => by omega)
                cases hv
                exact ⟨_, rfl, hz, hbw⟩
              | succ g =>
                have hlt : k < t.size := by omega
                have hb : ((t[k]'hlt).toNat : Int) = bt t k := bt_at t k hlt
                cases hd : digB t k with
                | true =>
                  have hr := digB_range hd
                  have hlo : decide (bt t k < 48) = false := decide_eq_false (by omega)
                  have hhi : decide (57 < bt t k) = false := decide_eq_false (by omega)
                  obtain ⟨x, hx⟩ : ∃ x : Nat, bt t k - 48 = (x : Int) := ⟨(bt t k - 48).toNat, by omega⟩
                  have hx10 : x < 10 := by omega
                  have hw8 : IntKind.u8.wrap (x : Int) = x := by simp only [IntKind.wrap, IntKind.signed, IntKind.bits]; simp; omega
                  have hm8 : IntKind.u32.wrap (x : Int) = x := by simp only [IntKind.wrap, IntKind.signed, IntKind.bits]; simp; omega
                  have hsm : k < 1048576 := by omega
                  have Hdec : Hid (decN t (k + 1) = decN t k * 10 + x) := by show decN t k * 10 + (bt t k - 48).toNat = _; rw [hx]; omega
                  have hlen := decN_digs hall
                  go_wp2
                  go_region_held3 (fun _ => True) (exact trivial) (first | (go_at_call 89; refine (mul_c (oka := fun j => w.heap.size + 1 ≤ j) (okb := all) (la := digs (decN t k)) (lb := [10]) (by first | exact hu.drew.alloc _ | exact (hu.drew.alloc _).alloc _) (by first | exact (uv_lit1g _ _ 10 (by simp only [World.size_alloc])) | exact ((uv_lit1g _ _ 10 (by simp only [World.size_alloc])).alloc _) | exact (uv_lit1g _ _ 10 (by simp only [World.size_alloc])).drew | exact ((uv_lit1g _ _ 10 (by simp only [World.size_alloc])).alloc _).drew) (digs_ok _) (okWv 10 (by decide) (by decide)) (by omega) (by simp)).mono ?_; rintro e w1 ⟨A1, r1, c1, rfl, H1, hv1, hb1'⟩; have hB1 : Below w.heap.size w w1 := below_step (by repeat (first | exact hB | (with_reducible apply below_alloc) | (with_reducible apply below_drew))) hb1'; have j1 : w1.heap[w.heap.size]? = some (zObj false (.slice none 0 0)) := blk_below (g := w.heap.size) (o := zObj false (.slice none 0 0)) (by repeat (first | exact kr | (with_reducible refine blk_alloc ?_ _) | (with_reducible refine blk_drew ?_))) hb1'; have p1 : okW r1 ∧ val r1 = decN t k * 10 ∧ r1.length < 2097152 := tenPre (n := decN t k) (k := k) (r := r1) H1 hlen hsm) | (go_at_call 88; refine (ten_c (okb := all) (m := decN t k) (x := x) (l := [(x : Int)]) (by first | exact hv1 | exact hv1.alloc _) p1 (by first | exact (uv_lit1 _ _).any | exact ((uv_lit1g _ _ _ (by simp only [World.size_alloc])).drew.below hb1') | exact (((uv_lit1g _ _ _ (by simp only [World.size_alloc])).alloc _).drew.below hb1')) rfl hx10).mono ?_; rintro e w2 ⟨A2, r2, c2, rfl, H2, hv2, hb2⟩; have hB2 : Below w.heap.size w w2 := below_step (by repeat (first | exact hB1 | (with_reducible apply below_alloc) | (with_reducible apply below_drew))) hb2; have j2 : w2.heap[w.heap.size]? = some (zObj false (.slice none 0 0)) := blk_below (g := w.heap.size) (o := zObj false (.slice none 0 0)) (by repeat (first | exact j1 | (with_reducible refine blk_alloc ?_ _) | (with_reducible refine blk_drew ?_))) hb2) | (go_at_call 76; refine (trim_h hv2 H2.out.1 (by have := H2.out.2.2; omega)).mono ?_; rintro e w3 ⟨A3, r3, c3, rfl, H3, hv3, hb3⟩; have hB3 : Below w.heap.size w w3 := below_step hB2 hb3; have j3 : w3.heap[w.heap.size]? = some (zObj false (.slice none 0 0)) := blk_below j2 hb3))
                  all_goals
                    go_wp2
                    have hr3 : r3 = digs (decN t (k + 1)) := by rw [H3.out, H2.out.2.1, Hdec.out]
                    subst hr3
                    go_roundg g
                    case measure => omega
                    case rel => exact ⟨k + 1, rfl, hv3.mono (fun j hj => by have hs1 := blk_lt j1; have hs2 := blk_lt j2; have hs3 := hb2.size; (try simp only [World.size_alloc] at hj hs3); omega), by omega, by simp only [allB, hall, hd, Bool.and_self], hB3, j3⟩
                | false =>
                  have Hne := Lib.hid (allB_not hlt hd)
                  rw [if_neg (by rw [Hne.out]; decide)] at hP2
                  have hm0 : Hid (m = 0 ∧ er = 3) := Prod.mk.inj hP2
                  clear hP2
                  by_cases hlo' : bt t k < 48
                  · have hlo : decide (bt t k < 48) = true := decide_eq_true hlo'
                    go_wp2
                    refine bodyPost_ret (results_list (rs := [.cell 2 76, .tmp 3]) rfl (by simp) (.cell w.heap.size 76 #[.bool false, .slice none 0 0] (0, 0) _ rfl (blk_set (blk_set kr 0 (.bool false)) 1 (.slice none 0 0)) Try.underlying76 rfl (by kernel_rfl) (.tmp .nil))) rfl ?_
                    exact HE.out _ _ hm0.out ((hB.setCell (p := ⟨w.heap.size, 0, none⟩) (Nat.le_refl _) _).setCell (p := ⟨w.heap.size, 1, none⟩) (Nat.le_refl _) _)
                  · have hlo : decide (bt t k < 48) = false := decide_eq_false hlo'
                    have hhi : decide (57 < bt t k) = true := by
                      rw [decide_eq_true]
                      refine Int.not_le.1 (fun h => ?_)
                      have : digB t k = true := by unfold digB; rw [decide_eq_true (Int.not_lt.1 hlo'), decide_eq_true h]; rfl
                      rw [this] at hd; cases hd
                    go_wp2
                    refine bodyPost_ret (results_list (rs := [.cell 2 76, .tmp 3]) rfl (by simp) (.cell w.heap.size 76 #[.bool false, .slice none 0 0] (0, 0) _ rfl (blk_set (blk_set kr 0 (.bool false)) 1 (.slice none 0 0)) Try.underlying76 rfl (by kernel_rfl) (.tmp .nil))) rfl ?_
                    exact HE.out _ _ hm0.out ((hB.setCell (p := ⟨w.heap.size, 0, none⟩) (Nat.le_refl _) _).setCell (p := ⟨w.heap.size, 1, none⟩) (Nat.le_refl _) _)
    · have h45b : (bt s 0 == 45) = false := beq_eq_false_iff_ne.2 h45
      have hnn : pNeg s = false := by unfold pNeg; rw [h0b, decide_eq_false h45]; rfl
      obtain rfl : s = t := by rw [← ht]; unfold pTail; rw [if_neg (by rw [hnn]; decide)]
      obtain rfl : false = n := by rw [← hn, hnn]
      clear ht hn
      by_cases hl : 1000 < s.size
      · have hlb : decide ((1000 : Int) < (s.size : Int)) = true := decide_eq_true (by omega)
        go_wp2
        refine bodyPost_ret (results_list (rs := [.cell 2 76, .tmp 3]) rfl (by simp) (.cell w.heap.size 76 #[.bool false, .slice none 0 0] (0, 0) _ rfl k1 Try.underlying76 rfl (by kernel_rfl) (.tmp .nil))) rfl ?_
        exact HE.out _ _ (HP.out.1 hl) hb1
      · have hlb : decide ((1000 : Int) < (s.size : Int)) = false := decide_eq_false (by omega)
        by_cases hz : s.size = 0
        · exact absurd hz (by omega)
        · have hem : s.toList.isEmpty = false := isEmpty_not hz
          have hp0 : 0 < s.size := by omega
          have hbt : ((s[0]'hp0).toNat : Int) = bt s 0 := bt_at s 0 hp0
          by_cases h48 : bt s 0 = 48
          · have h48b : (bt s 0 == 48) = true := beq_iff_eq.2 h48
            by_cases h1 : 1 < s.size
            · have h1b : decide ((1 : Int) < (s.size : Int)) = true := decide_eq_true (by omega)
              go_wp2
              refine bodyPost_ret (results_list (rs := [.cell 2 76, .tmp 3]) rfl (by simp) (.cell w.heap.size 76 #[.bool false, .slice none 0 0] (0, 0) _ rfl k1 Try.underlying76 rfl (by kernel_rfl) (.tmp .nil))) rfl ?_
              exact HE.out _ _ (HP.out.2.2.1 hl hz ⟨h48, .inr h1⟩) hb1
            · have h1b : decide ((1 : Int) < (s.size : Int)) = false := decide_eq_false (by omega)
              have hP2 := HP.out.2.2.2 hl hz (fun h => h1 (h.2.resolve_left (by decide)))
              go_wp2
              go_loopg [5, 40] s.size (fun g v5 v40 w' => PzAt w s g v5 v40 w')
              case atStart => exact ⟨0, rfl, Uv.nil _ _, by omega, rfl, hb1, k1⟩
              case round =>
                obtain ⟨k, rfl, hu, hk, hall, hB, kr⟩ := hrel
                obtain ⟨A, c, rfl, _, _⟩ := hu.slice
                have hx0 := blk_cell kr 0
                have hx1 := blk_cell kr 1
                have hf0 := blk_frozen kr 0
                have hf1 := blk_frozen kr 1
                cases gk with
                | zero =>
                  have hk' : k = s.size := by omega
                  subst hk'
                  have hlen := decN_digs hall
                  go_wp2_with (go_at_call 86; refine (made_h _ hu (digs_ok _) (by omega)).mono ?_; rintro e w2 ⟨b2, A2, r2, c2, rfl, H2, hv2, hb2⟩; have i3 := blk_below kr hb2; have hx0 := (blk_cell i3 0); have hx1 := blk_cell i3 1; have hf0 := blk_frozen i3 0; have hf1 := blk_frozen i3 1)
                  have hs1 : w.heap.size + 1 ≤ wr.heap.size := blk_lt kr
                  rw [if_pos hall] at hP2
                  obtain ⟨rfl, rfl⟩ := Prod.mk.inj hP2
                  refine bodyPost_ret (results_list (rs := [.cell 2 76, .tmp 3]) rfl (by simp) (.cell w.heap.size 76 #[.bool b2, .slice A2 r2.length c2] (0, 0) _ rfl (blk_set (blk_set i3 0 _) 1 _) Try.underlying76 rfl (by kernel_rfl) (.tmp .nil))) rfl ?_
                  obtain ⟨e2, e3⟩ := H2.out
                  rw [val_digs] at e2 e3
                  obtain ⟨v, hv, hz, hbw⟩ := zv_store (ok' := fun j => w.heap.size ≤ j) (sg false (decN s s.size)) (below_step hB hb2) (Nat.le_refl _) hv2 (fun j hj => by omega) (by rw [(sg_sign _ _).2]; exact e3) (e2.trans (sg_sign _ _).1) (fun j hj => by omega)
                  cases hv
                  exact ⟨_, rfl, hz, hbw⟩
                | succ g =>
                  have hlt : k < s.size := by omega
                  have hb : ((s[k]'hlt).toNat : Int) = bt s k := bt_at s k hlt
                  cases hd : digB s k with
                  | true =>
                    have hr := digB_range hd
                    have hlo : decide (bt s k < 48) = false := decide_eq_false (by omega)
                    have hhi : decide (57 < bt s k) = false := decide_eq_false (by omega)
                    obtain ⟨x, hx⟩ : ∃ x : Nat, bt s k - 48 = (x : Int) := ⟨(bt s k - 48).toNat, by omega⟩
                    have hx10 : x < 10 := by omega
                    have hw8 : IntKind.u8.wrap (x : Int) = x := by simp only [IntKind.wrap, IntKind.signed, IntKind.bits]; simp; omega
                    have hm8 : IntKind.u32.wrap (x : Int) = x := by simp only [IntKind.wrap, IntKind.signed, IntKind.bits]; simp; omega
                    have hsm : k < 1048576 := by omega
                    have Hdec : Hid (decN s (k + 1) = decN s k * 10 + x) := by show decN s k * 10 + (bt s k - 48).toNat = _; rw [hx]; omega
                    have hlen := decN_digs hall
                    go_wp2
                    go_region_held3 (fun _ => True) (exact trivial) (first | (go_at_call 89; refine (mul_c (oka := fun j => w.heap.size + 1 ≤ j) (okb := all) (la := digs (decN s k)) (lb := [10]) (by first | exact hu.drew.alloc _ | exact (hu.drew.alloc _).alloc _) (by first | exact (uv_lit1g _ _ 10 (by simp only [World.size_alloc])) | exact ((uv_lit1g _ _ 10 (by simp only [World.size_alloc])).alloc _) | exact (uv_lit1g _ _ 10 (by simp only [World.size_alloc])).drew | exact ((uv_lit1g _ _ 10 (by simp only [World.size_alloc])).alloc _).drew) (digs_ok _) (okWv 10 (by decide) (by decide)) (by omega) (by simp)).mono ?_; rintro e w1 ⟨A1, r1, c1, rfl, H1, hv1, hb1'⟩; have hB1 : Below w.heap.size w w1 := below_step (by repeat (first | exact hB | (with_reducible apply below_alloc) | (with_reducible apply below_drew))) hb1'; have j1 : w1.heap[w.heap.size]? = some (zObj false (.slice none 0 0)) := blk_below (g := w.heap.size) (o := zObj false (.slice none 0 0)) (by repeat (first | exact kr | (with_reducible refine blk_alloc ?_ _) | (with_reducible refine blk_drew ?_))) hb1'; have p1 : okW r1 ∧ val r1 = decN s k * 10 ∧ r1.length < 2097152 := tenPre (n := decN s k) (k := k) (r := r1) H1 hlen hsm) | (go_at_call 88; refine (ten_c (okb := all) (m := decN s k) (x := x) (l := [(x : Int)]) (by first | exact hv1 | exact hv1.alloc _) p1 (by first | exact (uv_lit1 _ _).any | exact ((uv_lit1g _ _ _ (by simp only [World.size_alloc])).drew.below hb1') | exact (((uv_lit1g _ _ _ (by simp only [World.size_alloc])).alloc _).drew.below hb1')) rfl hx10).mono ?_; rintro e w2 ⟨A2, r2, c2, rfl, H2, hv2, hb2⟩; have hB2 : Below w.heap.size w w2 := below_step (by repeat (first | exact hB1 | (with_reducible apply below_alloc) | (with_reducible apply below_drew))) hb2; have j2 : w2.heap[w.heap.size]? = some (zObj false (.slice none 0 0)) := blk_below (g := w.heap.size) (o := zObj false (.slice none 0 0)) (by repeat (first | exact j1 | (with_reducible refine blk_alloc ?_ _) | (with_reducible refine blk_drew ?_))) hb2) | (go_at_call 76; refine (trim_h hv2 H2.out.1 (by have := H2.out.2.2; omega)).mono ?_; rintro e w3 ⟨A3, r3, c3, rfl, H3, hv3, hb3⟩; have hB3 : Below w.heap.size w w3 := below_step hB2 hb3; have j3 : w3.heap[w.heap.size]? = some (zObj false (.slice none 0 0)) := blk_below j2 hb3))
                    all_goals
                      go_wp2
                      have hr3 : r3 = digs (decN s (k + 1)) := by rw [H3.out, H2.out.2.1, Hdec.out]
                      subst hr3
                      go_roundg g
                      case measure => omega
                      case rel => exact ⟨k + 1, rfl, hv3.mono (fun j hj => by have hs1 := blk_lt j1; have hs2 := blk_lt j2; have hs3 := hb2.size; (try simp only [World.size_alloc] at hj hs3); omega), by omega, by simp only [allB, hall, hd, Bool.and_self], hB3, j3⟩
                  | false =>
                    have Hne := Lib.hid (allB_not hlt hd)
                    rw [if_neg (by rw [Hne.out]; decide)] at hP2
                    have hm0 : Hid (m = 0 ∧ er = 3) := Prod.mk.inj hP2
                    clear hP2
                    by_cases hlo' : bt s k < 48
                    · have hlo : decide (bt s k < 48) = true := decide_eq_true hlo'
                      go_wp2
                      refine bodyPost_ret (results_list (rs := [.cell 2 76, .tmp 3]) rfl (by simp) (.cell w.heap.size 76 #[.bool false, .slice none 0 0] (0, 0) _ rfl (blk_set (blk_set kr 0 (.bool false)) 1 (.slice none 0 0)) Try.underlying76 rfl (by kernel_rfl) (.tmp .nil))) rfl ?_
                      exact HE.out _ _ hm0.out ((hB.setCell (p := ⟨w.heap.size, 0, none⟩) (Nat.le_refl _) _).setCell (p := ⟨w.heap.size, 1, none⟩) (Nat.le_refl _) _)
                    · have hlo : decide (bt s k < 48) = false := decide_eq_false hlo'
                      have hhi : decide (57 < bt s k) = true := by
                        rw [decide_eq_true]
                        refine Int.not_le.1 (fun h => ?_)
                        have : digB s k = true := by unfold digB; rw [decide_eq_true (Int.not_lt.1 hlo'), decide_eq_true h]; rfl
                        rw [this] at hd; cases hd
                      go_wp2
                      refine bodyPost_ret (results_list (rs := [.cell 2 76, .tmp 3]) rfl (by simp) (.cell w.heap.size 76 #[.bool false, .slice none 0 0] (0, 0) _ rfl (blk_set (blk_set kr 0 (.bool false)) 1 (.slice none 0 0)) Try.underlying76 rfl (by kernel_rfl) (.tmp .nil))) rfl ?_
                      exact HE.out _ _ hm0.out ((hB.setCell (p := ⟨w.heap.size, 0, none⟩) (Nat.le_refl _) _).setCell (p := ⟨w.heap.size, 1, none⟩) (Nat.le_refl _) _)
          · have h48b : (bt s 0 == 48) = false := beq_eq_false_iff_ne.2 h48
            have hP2 := HP.out.2.2.2 hl hz (fun h => h48 h.1)
            go_wp2
            go_loopg [5, 40] s.size (fun g v5 v40 w' => PzAt w s g v5 v40 w')
            case atStart => exact ⟨0, rfl, Uv.nil _ _, by omega, rfl, hb1, k1⟩
            case round =>
              obtain ⟨k, rfl, hu, hk, hall, hB, kr⟩ := hrel
              obtain ⟨A, c, rfl, _, _⟩ := hu.slice
              have hx0 := blk_cell kr 0
              have hx1 := blk_cell kr 1
              have hf0 := blk_frozen kr 0
              have hf1 := blk_frozen kr 1
              cases gk with
              | zero =>
                have hk' : k = s.size := by omega
                subst hk'
                have hlen := decN_digs hall
                go_wp2_with (go_at_call 86; refine (made_h _ hu (digs_ok _) (by omega)).mono ?_; rintro e w2 ⟨b2, A2, r2, c2, rfl, H2, hv2, hb2⟩; have i3 := blk_below kr hb2; have hx0 := (blk_cell i3 0); have hx1 := blk_cell i3 1; have hf0 := blk_frozen i3 0; have hf1 := blk_frozen i3 1)
                have hs1 : w.heap.size + 1 ≤ wr.heap.size := blk_lt kr
                rw [if_pos hall] at hP2
                obtain ⟨rfl, rfl⟩ := Prod.mk.inj hP2
                refine bodyPost_ret (results_list (rs := [.cell 2 76, .tmp 3]) rfl (by simp) (.cell w.heap.size 76 #[.bool b2, .slice A2 r2.length c2] (0, 0) _ rfl (blk_set (blk_set i3 0 _) 1 _) Try.underlying76 rfl (by kernel_rfl) (.tmp .nil))) rfl ?_
                obtain ⟨e2, e3⟩ := H2.out
                rw [val_digs] at e2 e3
                obtain ⟨v, hv, hz, hbw⟩ := zv_store (ok' := fun j => w.heap.size ≤ j) (sg false (decN s s.size)) (below_step hB hb2) (Nat.le_refl _) hv2 (fun j hj => by omega) (by rw [(sg_sign _ _).2]; exact e3) (e2.trans (sg_sign _ _).1) (fun j hj => by omega)
                cases hv
                exact ⟨_, rfl, hz, hbw⟩
              | succ g =>
                have hlt : k < s.size := by omega
                have hb : ((s[k]'hlt).toNat : Int) = bt s k := bt_at s k hlt
                cases hd : digB s k with
                | true =>
                  have hr := digB_range hd
                  have hlo : decide (bt s k < 48) = false := decide_eq_false (by omega)
                  have hhi : decide (57 < bt s k) = false := decide_eq_false (by omega)
                  obtain ⟨x, hx⟩ : ∃ x : Nat, bt s k - 48 = (x : Int) := ⟨(bt s k - 48).toNat, by omega⟩
                  have hx10 : x < 10 := by omega
                  have hw8 : IntKind.u8.wrap (x : Int) = x := by simp only [IntKind.wrap, IntKind.signed, IntKind.bits]; simp; omega
                  have hm8 : IntKind.u32.wrap (x : Int) = x := by simp only [IntKind.wrap, IntKind.signed, IntKind.bits]; simp; omega
                  have hsm : k < 1048576 := by omega
                  have Hdec : Hid (decN s (k + 1) = decN s k * 10 + x) := by show decN s k * 10 + (bt s k - 48).toNat = _; rw [hx]; omega
                  have hlen := decN_digs hall
                  go_wp2
                  go_region_held3 (fun _ => True) (exact trivial) (first | (go_at_call 89; refine (mul_c (oka := fun j => w.heap.size + 1 ≤ j) (okb := all) (la := digs (decN s k)) (lb := [10]) (by first | exact hu.drew.alloc _ | exact (hu.drew.alloc _).alloc _) (by first | exact (uv_lit1g _ _ 10 (by simp only [World.size_alloc])) | exact ((uv_lit1g _ _ 10 (by simp only [World.size_alloc])).alloc _) | exact (uv_lit1g _ _ 10 (by simp only [World.size_alloc])).drew | exact ((uv_lit1g _ _ 10 (by simp only [World.size_alloc])).alloc _).drew) (digs_ok _) (okWv 10 (by decide) (by decide)) (by omega) (by simp)).mono ?_; rintro e w1 ⟨A1, r1, c1, rfl, H1, hv1, hb1'⟩; have hB1 : Below w.heap.size w w1 := below_step (by repeat (first | exact hB | (with_reducible apply below_alloc) | (with_reducible apply below_drew))) hb1'; have j1 : w1.heap[w.heap.size]? = some (zObj false (.slice none 0 0)) := blk_below (g := w.heap.size) (o := zObj false (.slice none 0 0)) (by repeat (first | exact kr | (with_reducible refine blk_alloc ?_ _) | (with_reducible refine blk_drew ?_))) hb1'; have p1 : okW r1 ∧ val r1 = decN s k * 10 ∧ r1.length < 2097152 := tenPre (n := decN s k) (k := k) (r := r1) H1 hlen hsm) | (go_at_call 88; refine (ten_c (okb := all) (m := decN s k) (x := x) (l := [(x : Int)]) (by first | exact hv1 | exact hv1.alloc _) p1 (by first | exact (uv_lit1 _ _).any | exact ((uv_lit1g _ _ _ (by simp only [World.size_alloc])).drew.below hb1') | exact (((uv_lit1g _ _ _ (by simp only [World.size_alloc])).alloc _).drew.below hb1')) rfl hx10).mono ?_; rintro e w2 ⟨A2, r2, c2, rfl, H2, hv2, hb2⟩; have hB2 : Below w.heap.size w w2 := below_step (by repeat (first | exact hB1 | (with_reducible apply below_alloc) | (with_reducible apply below_drew))) hb2; have j2 : w2.heap[w.heap.size]? = some (zObj false (.slice none 0 0)) := blk_below (g := w.heap.size) (o := zObj false (.slice none 0 0)) (by repeat (first | exact j1 | (with_reducible refine blk_alloc ?_ _) | (with_reducible refine blk_drew ?_))) hb2) | (go_at_call 76; refine (trim_h hv2 H2.out.1 (by have := H2.out.2.2; omega)).mono ?_; rintro e w3 ⟨A3, r3, c3, rfl, H3, hv3, hb3⟩; have hB3 : Below w.heap.size w w3 := below_step hB2 hb3; have j3 : w3.heap[w.heap.size]? = some (zObj false (.slice none 0 0)) := blk_below j2 hb3))
                  all_goals
                    go_wp2
                    have hr3 : r3 = digs (decN s (k + 1)) := by rw [H3.out, H2.out.2.1, Hdec.out]
                    subst hr3
                    go_roundg g
                    case measure => omega
                    case rel => exact ⟨k + 1, rfl, hv3.mono (fun j hj => by have hs1 := blk_lt j1; have hs2 := blk_lt j2; have hs3 := hb2.size; (try simp only [World.size_alloc] at hj hs3); omega), by omega, by simp only [allB, hall, hd, Bool.and_self], hB3, j3⟩
                | false =>
                  have Hne := Lib.hid (allB_not hlt hd)
                  rw [if_neg (by rw [Hne.out]; decide)] at hP2
                  have hm0 : Hid (m = 0 ∧ er = 3) := Prod.mk.inj hP2
                  clear hP2
                  by_cases hlo' : bt s k < 48
                  · have hlo : decide (bt s k < 48) = true := decide_eq_true hlo'
                    go_wp2
                    refine bodyPost_ret (results_list (rs := [.cell 2 76, .tmp 3]) rfl (by simp) (.cell w.heap.size 76 #[.bool false, .slice none 0 0] (0, 0) _ rfl (blk_set (blk_set kr 0 (.bool false)) 1 (.slice none 0 0)) Try.underlying76 rfl (by kernel_rfl) (.tmp .nil))) rfl ?_
                    exact HE.out _ _ hm0.out ((hB.setCell (p := ⟨w.heap.size, 0, none⟩) (Nat.le_refl _) _).setCell (p := ⟨w.heap.size, 1, none⟩) (Nat.le_refl _) _)
                  · have hlo : decide (bt s k < 48) = false := decide_eq_false hlo'
                    have hhi : decide (57 < bt s k) = true := by
                      rw [decide_eq_true]
                      refine Int.not_le.1 (fun h => ?_)
                      have : digB s k = true := by unfold digB; rw [decide_eq_true (Int.not_lt.1 hlo'), decide_eq_true h]; rfl
                      rw [this] at hd; cases hd
                    go_wp2
                    refine bodyPost_ret (results_list (rs := [.cell 2 76, .tmp 3]) rfl (by simp) (.cell w.heap.size 76 #[.bool false, .slice none 0 0] (0, 0) _ rfl (blk_set (blk_set kr 0 (.bool false)) 1 (.slice none 0 0)) Try.underlying76 rfl (by kernel_rfl) (.tmp .nil))) rfl ?_
                    exact HE.out _ _ hm0.out ((hB.setCell (p := ⟨w.heap.size, 0, none⟩) (Nat.le_refl _) _).setCell (p := ⟨w.heap.size, 1, none⟩) (Nat.le_refl _) _)
  · have h0b : decide (0 < s.size) = false := decide_eq_false h0
    have hnn : pNeg s = false := by unfold pNeg; rw [h0b]; rfl
    obtain rfl : s = t := by rw [← ht]; unfold pTail; rw [if_neg (by rw [hnn]; decide)]
    obtain rfl : false = n := by rw [← hn, hnn]
    clear ht hn
    have hl : ¬ 1000 < s.size := by omega
    have hz : s.size = 0 := by omega
    have hlb : decide ((1000 : Int) < (s.size : Int)) = false := decide_eq_false (by omega)
    have hem : s.toList.isEmpty = true := isEmpty_of hz
    go_wp2
    refine bodyPost_ret (results_list (rs := [.cell 2 76, .tmp 3]) rfl (by simp) (.cell w.heap.size 76 #[.bool false, .slice none 0 0] (0, 0) _ rfl k1 Try.underlying76 rfl (by kernel_rfl) (.tmp .nil))) rfl ?_
    exact HE.out _ _ (HP.out.2.1 hl hz) hb1
end Ar
end Go.Proofs.Ytnghcgmkncbnnaa
end
section
namespace Go.Proofs.Ytnghcgmkncbnnaa
open Go.RowKit Go.Proofs.YtnghcgmkncbnnaaW.PrintWords Go.Proofs.YtnghcgmkncbnnaaW.PrintLast Go.Proofs.YtnghcgmkncbnnaaW.PrintMore
namespace Ar
open Wd
def qA (s : ByteArray) : ByteArray := if stroke s 0 = s.size then s else s.extract 0 (stroke s 0)
def qB (s : ByteArray) : ByteArray := s.extract (stroke s 0 + 1) s.size
def qTwo (s : ByteArray) : Bool := decide (¬ stroke s 0 = s.size)
def zOf (s : ByteArray) : Int := sg (pNeg s) (pMag (pNeg s) (pTail s)).1
def zErr (s : ByteArray) : Int := (pMag (pNeg s) (pTail s)).2
def pD (s : ByteArray) : Int := if qTwo s = true then zOf (qB s) else 0
def pDe (s : ByteArray) : Int := if qTwo s = true then zErr (qB s) else 0
def pQ (s : ByteArray) (r : Bool) : Int × Int × Int :=
  if zErr (qA s) = 5 ∨ pDe s = 5 then (0, 0, 5) else if ¬ zErr (qA s) = 0 ∨ ¬ pDe s = 0 ∨ (qTwo s = true ∧ pD s = 0) ∨ r = false then (0, 0, 3) else (zOf (qA s), pD s, 0)
def IcAt (n d : Int) (r : Bool) : Prop := ∀ (w : World) (ok : Nat → Prop) (v : Value), QV w ok v n d → Calls Try.prog 81 #[v] w fun e w' => e = .returned (.bool r) ∧ Below w.heap.size w w'
theorem extract_size_le (s : ByteArray) (a b : Nat) : (s.extract a b).size ≤ s.size := by rw [ByteArray.size_extract]; omega
theorem zOf_sm (s : ByteArray) (hs : s.size < 1048576) : Sm (zOf s) := by
  unfold Sm zOf
  rw [(sg_sign _ _).2]
  have ht : (pTail s).size < 1048576 := by
    unfold pTail; split
    · exact Nat.lt_of_le_of_lt (extract_size_le _ _ _) hs
    · exact hs
  unfold pMag
  split
  · decide
  · split
    · decide
    · split
      · decide
      · split
        · next h => exact Nat.lt_of_le_of_lt (decN_digs h) ht
        · decide
abbrev qObj (a b c d : Value) : Obj := .cells #[a, b, c, d] 78
theorem setQ {B : Nat} {w W : World} (h : Below B w W) {g : Nat} (hg : B ≤ g) (a b c d : Value) : Below B w ((((W.setCell ⟨g, 0, none⟩ a).setCell ⟨g, 1, none⟩ b).setCell ⟨g, 2, none⟩ c).setCell ⟨g, 3, none⟩ d) :=
  (((h.setCell (p := ⟨g, 0, none⟩) hg _).setCell (p := ⟨g, 1, none⟩) hg _).setCell (p := ⟨g, 2, none⟩) hg _).setCell (p := ⟨g, 3, none⟩) hg _
theorem neFirst {a b : Nat} (h : a + 1 ≤ b) : a ≠ b + 1 := by omega
theorem geFirst {a b : Nat} (h : a + 1 ≤ b) : a ≤ b + 1 := by omega
theorem QV.two {w1 w2 w3 : World} {b b' : Bool} {A A' : Option Addr} {r r' : List Int} {c c' : Nat} {n d : Int} {o1 o2 : Obj} (H : Hid (b = decide (n < 0) ∧ r = digs n.natAbs)) (H' : Hid (b' = decide (d < 0) ∧ r' = digs d.natAbs)) (hu : Uv w2 (fun k => w1.heap.size ≤ k) (.slice A r.length c) r) (hb2 : Below w2.heap.size w2 ((w2.alloc o1).alloc o2)) (hb3 : Below ((w2.alloc o1).alloc o2).heap.size ((w2.alloc o1).alloc o2) w3) (hu' : Uv w3 (fun k => ((w2.alloc o1).alloc o2).heap.size ≤ k) (.slice A' r'.length c') r') :
    QV ((w3.setCell ⟨w2.heap.size + 1, 0, none⟩ (.bool b')).setCell ⟨w2.heap.size + 1, 1, none⟩ (.slice A' r'.length c')) (fun k => k ≠ w2.heap.size + 1 ∧ (w1.heap.size ≤ k ∨ w2.heap.size ≤ k)) (.agg #[.bool b, .slice A r.length c, .bool b', .slice A' r'.length c']) n d := by
  have h0 : QV w3 (fun k => k ≠ w2.heap.size + 1 ∧ (w1.heap.size ≤ k ∨ w2.heap.size ≤ k)) (.agg #[.bool b, .slice A r.length c, .bool b', .slice A' r'.length c']) n d := ⟨b, A, r, c, b', A', r', c', rfl, ⟨H.out.1, H.out.2, H'.out.1, H'.out.2⟩, ((hu.bound.below hb2).below hb3).mono (fun k hk => ⟨by omega, .inl hk.1⟩), hu'.mono (fun k hk => by simp only [World.size_alloc] at hk; exact ⟨by omega, .inr (by omega)⟩)⟩
  exact (h0.far (p := ⟨w2.heap.size + 1, 0, none⟩) (fun k hk => hk.1) _).far (p := ⟨w2.heap.size + 1, 1, none⟩) (fun k hk => hk.1) _
theorem QV.twoU {w1 w2 w3 : World} {b' : Bool} {A A' : Option Addr} {r r' : List Int} {c c' : Nat} {o1 o2 : Obj} (o : Obj) (hu : Uv w2 (fun k => w1.heap.size ≤ k) (.slice A r.length c) r) (hb2 : Below w2.heap.size w2 ((w2.alloc o1).alloc o2)) (hb3 : Below ((w2.alloc o1).alloc o2).heap.size ((w2.alloc o1).alloc o2) w3) (hu' : Uv w3 (fun k => ((w2.alloc o1).alloc o2).heap.size ≤ k) (.slice A' r'.length c') r') :
    Uv (((w3.setCell ⟨w2.heap.size + 1, 0, none⟩ (.bool b')).setCell ⟨w2.heap.size + 1, 1, none⟩ (.slice A' r'.length c')).alloc o) (fun k => w1.heap.size ≤ k ∨ w2.heap.size ≤ k) (.slice A r.length c) r ∧ Uv (((w3.setCell ⟨w2.heap.size + 1, 0, none⟩ (.bool b')).setCell ⟨w2.heap.size + 1, 1, none⟩ (.slice A' r'.length c')).alloc o) (fun k => w1.heap.size ≤ k ∨ w2.heap.size ≤ k) (.slice A' r'.length c') r' := by
  have h1 : Uv w3 (fun k => w1.heap.size ≤ k ∧ k < w2.heap.size) (.slice A r.length c) r := (hu.bound.below hb2).below hb3
  have h2 : ∀ k, ((w2.alloc o1).alloc o2).heap.size ≤ k → k ≠ w2.heap.size + 1 := fun k hk => by simp only [World.size_alloc] at hk; omega
  have h3 : ∀ k, (w1.heap.size ≤ k ∧ k < w2.heap.size) → k ≠ w2.heap.size + 1 := fun k hk => by omega
  exact ⟨(((h1.far (p := ⟨w2.heap.size + 1, 0, none⟩) h3 _).far (p := ⟨w2.heap.size + 1, 1, none⟩) h3 _).mono (fun k hk => .inl hk.1)).alloc o, (((hu'.far (p := ⟨w2.heap.size + 1, 0, none⟩) h2 _).far (p := ⟨w2.heap.size + 1, 1, none⟩) h2 _).mono (fun k hk => .inr (by simp only [World.size_alloc] at hk; omega))).alloc o⟩
theorem ZV.two {w2 w3 : World} {b' : Bool} {A' : Option Addr} {r' : List Int} {c' : Nat} {d : Int} {o1 o2 : Obj} (H' : Hid (b' = decide (d < 0) ∧ r' = digs d.natAbs)) (hu' : Uv w3 (fun k => ((w2.alloc o1).alloc o2).heap.size ≤ k) (.slice A' r'.length c') r') :
    ZV ((w3.setCell ⟨w2.heap.size + 1, 0, none⟩ (.bool b')).setCell ⟨w2.heap.size + 1, 1, none⟩ (.slice A' r'.length c')) all (.agg #[.bool b', .slice A' r'.length c']) d := by
  have h1 : ∀ k, ((w2.alloc o1).alloc o2).heap.size ≤ k → k ≠ w2.heap.size + 1 := fun k hk => by simp only [World.size_alloc] at hk; omega
  exact zv_mk H'.out.1 H'.out.2 (((hu'.far (p := ⟨w2.heap.size + 1, 0, none⟩) h1 _).far (p := ⟨w2.heap.size + 1, 1, none⟩) h1 _).any)
theorem QV.three {W : World} {ok : Nat → Prop} {b : Bool} {A : Option Addr} {r : List Int} {c : Nat} {n : Int} (H : Hid (b = decide (n < 0) ∧ r = digs n.natAbs)) (hu : Uv W ok (.slice A r.length c) r) (o1 o2 o3 : Obj) : QV (((W.alloc o1).alloc o2).alloc o3) ok (.agg #[.bool b, .slice A r.length c, .bool false, .slice none 0 0]) n 0 :=
  ⟨b, A, r, c, false, none, [], 0, rfl, ⟨H.out.1, H.out.2, rfl, rfl⟩, ((hu.alloc o1).alloc o2).alloc o3, Uv.nil _ _⟩
set_option maxRecDepth 100000 in
set_option maxHeartbeats 8000000 in
theorem ParseQ_c {w : World} (s : ByteArray) (hs : s.size < 1048576) (r : Bool) (hI : zErr (qA s) = 0 → pDe s = 0 → ¬ (qTwo s = true ∧ pD s = 0) → IcAt (zOf (qA s)) (pD s) r) :
    Calls Try.prog 70 #[.string s] w fun e w' => ∃ v, e = .returned (.tuple #[v, .int .i64 (pQ s r).2.2]) ∧ QV w' (fun k => w.heap.size ≤ k) v (pQ s r).1 (pQ s r).2.1 ∧ Below w.heap.size w w' := by
  have hT := Try.underlying76
  have hQ := Try.underlying78
  have hb0 := below_alloc (Below.refl _ w) (.cells nilQ 78)
  have k0 := blk_new w (.cells nilQ 78)
  have hsA : (qA s).size < 1048576 := by
    unfold qA; split
    · exact hs
    · exact Nat.lt_of_le_of_lt (extract_size_le _ _ _) hs
  have hsB : (qB s).size < 1048576 := Nat.lt_of_le_of_lt (extract_size_le _ _ _) hs
  have smA := zOf_sm (qA s) hsA
  have smB := zOf_sm (qB s) hsB
  obtain ⟨x, y, er, hP⟩ : ∃ x y er, (x, y, er) = pQ s r := ⟨_, _, _, rfl⟩
  rw [← hP]
  have CA := Lib.hid (fun (W : World) => ParseZ_c (w := W) (qA s) hsA)
  have CB := Lib.hid (fun (W : World) => ParseZ_c (w := W) (qB s) hsB)
  have CP := Lib.hid (parted_c (w := w.alloc (.cells nilQ 78)) s hs)
  have HE : Hid (∀ (W : World) (z : Int), (x = 0 ∧ y = 0 ∧ er = z) → Below w.heap.size w W → ∃ v, Ending.returned (.tuple #[.agg nilQ, .int .i64 z]) = .returned (.tuple #[v, .int .i64 er]) ∧ QV W (fun k => w.heap.size ≤ k) v x y ∧ Below w.heap.size w W) := by
    rintro W z ⟨rfl, rfl, rfl⟩ hB
    exact ⟨_, rfl, QV.nil _ _, hB⟩
  by_cases h2 : stroke s 0 = s.size
  · have eA : qA s = s := by unfold qA; rw [if_pos h2]
    have e2 : qTwo s = false := by unfold qTwo; rw [decide_eq_false (fun h => h h2)]
    have eD : pD s = 0 := by unfold pD; rw [e2]; rfl
    have eE : pDe s = 0 := by unfold pDe; rw [e2]; rfl
    rw [eA] at CA smA hI hsA
    rw [if_pos h2] at CP
    unfold pQ at hP
    rw [eA, eE, eD, e2] at hP
    rw [eD, eE, e2] at hI
    clear CB hsB smB eD eE eA e2 h2
    obtain ⟨n, hn⟩ : ∃ n, zOf s = n := ⟨_, rfl⟩
    obtain ⟨e, he⟩ : ∃ e, zErr s = e := ⟨_, rfl⟩
    have CA' : Hid (∀ W : World, Calls Try.prog 80 #[.string s] W fun en w' => ∃ v, en = .returned (.tuple #[v, .int .i64 e]) ∧ ZV w' (fun k => W.heap.size ≤ k) v n ∧ Below W.heap.size W w') := by rw [← hn, ← he]; exact CA
    rw [hn, he] at hP hI
    rw [hn] at smA
    clear hn he CA
    go_enter Try.func70, Try.ntmps70
    by_cases h5 : e = 5
    · subst h5
      have HX : Hid (x = 0 ∧ y = 0 ∧ er = 5) := by rw [if_pos (.inl rfl)] at hP; cases hP; exact ⟨rfl, rfl, rfl⟩
      clear hP hI
      go_wp2_with (first | (go_at_call 79; refine CP.out.mono ?_; rintro e w1 ⟨rfl, hb1⟩) | (go_at_call 80; refine (CA'.out _).mono ?_; rintro e w2 ⟨v2, rfl, hv2, hb2⟩; obtain ⟨b2, A2, r2, c2, rfl, H2, hu2⟩ := zv_openh hv2; have hB3 := below_step (below_step (below_step hb0 hb1) hb2) (below_alloc (below_alloc (below_alloc (Below.refl _ w2) (zObj b2 (.slice A2 r2.length c2))) (zObj false (.slice none 0 0))) (qObj (.bool b2) (.slice A2 r2.length c2) (.bool false) (.slice none 0 0))); have i0 := blk_below k0 (below_step hb1 (below_step hb2 (below_alloc (below_alloc (below_alloc (Below.refl _ w2) (zObj b2 (.slice A2 r2.length c2))) (zObj false (.slice none 0 0))) (qObj (.bool b2) (.slice A2 r2.length c2) (.bool false) (.slice none 0 0))))); have kx := blk_new ((w2.alloc (zObj b2 (.slice A2 r2.length c2))).alloc (zObj false (.slice none 0 0))) (qObj (.bool b2) (.slice A2 r2.length c2) (.bool false) (.slice none 0 0)); simp only [World.size_alloc] at kx; have hq := QV.three H2 hu2 (zObj b2 (.slice A2 r2.length c2)) (zObj false (.slice none 0 0)) (qObj (.bool b2) (.slice A2 r2.length c2) (.bool false) (.slice none 0 0)); have hx0 := blk_cell i0 0; have hx1 := blk_cell i0 1; have hx2 := blk_cell i0 2; have hx3 := blk_cell i0 3; have hxf0 := blk_frozen i0 0; have hxf1 := blk_frozen i0 1; have hxf2 := blk_frozen i0 2; have hxf3 := blk_frozen i0 3; have hy0 := blk_cell kx 0; have hy1 := blk_cell kx 1; have hy2 := blk_cell kx 2; have hy3 := blk_cell kx 3; have hyf0 := blk_frozen kx 0; have hyf1 := blk_frozen kx 1; have hyf2 := blk_frozen kx 2; have hyf3 := blk_frozen kx 3))
      refine bodyPost_ret (results_list (rs := [.cell 2 78, .tmp 3]) rfl (by simp) (.cell w.heap.size 78 nilQ (0, 0) _ rfl (blk_set (blk_set (blk_set (blk_set i0 0 _) 1 _) 2 _) 3 _) Try.underlying78 rfl (by kernel_rfl) (.tmp .nil))) rfl ?_
      exact HE.out _ _ HX.out (setQ (hB3) (Nat.le_refl _) _ _ _ _)
    · have h5b : (e == 5) = false := beq_eq_false_iff_ne.2 h5
      by_cases h0 : e = 0
      · subst h0
        have hI' := hI rfl rfl (fun h => absurd h.1 (by decide))
        cases r with
        | true =>
          have HX : Hid (x = n ∧ y = 0 ∧ er = 0) := by rw [if_neg (by decide), if_neg (by simp)] at hP; cases hP; exact ⟨rfl, rfl, rfl⟩
          clear hP hI
          go_wp2_with (first | (go_at_call 79; refine CP.out.mono ?_; rintro e w1 ⟨rfl, hb1⟩) | (go_at_call 80; refine (CA'.out _).mono ?_; rintro e w2 ⟨v2, rfl, hv2, hb2⟩; obtain ⟨b2, A2, r2, c2, rfl, H2, hu2⟩ := zv_openh hv2; have hB3 := below_step (below_step (below_step hb0 hb1) hb2) (below_alloc (below_alloc (below_alloc (Below.refl _ w2) (zObj b2 (.slice A2 r2.length c2))) (zObj false (.slice none 0 0))) (qObj (.bool b2) (.slice A2 r2.length c2) (.bool false) (.slice none 0 0))); have i0 := blk_below k0 (below_step hb1 (below_step hb2 (below_alloc (below_alloc (below_alloc (Below.refl _ w2) (zObj b2 (.slice A2 r2.length c2))) (zObj false (.slice none 0 0))) (qObj (.bool b2) (.slice A2 r2.length c2) (.bool false) (.slice none 0 0))))); have kx := blk_new ((w2.alloc (zObj b2 (.slice A2 r2.length c2))).alloc (zObj false (.slice none 0 0))) (qObj (.bool b2) (.slice A2 r2.length c2) (.bool false) (.slice none 0 0)); simp only [World.size_alloc] at kx; have hq := QV.three H2 hu2 (zObj b2 (.slice A2 r2.length c2)) (zObj false (.slice none 0 0)) (qObj (.bool b2) (.slice A2 r2.length c2) (.bool false) (.slice none 0 0)); have hx0 := blk_cell i0 0; have hx1 := blk_cell i0 1; have hx2 := blk_cell i0 2; have hx3 := blk_cell i0 3; have hxf0 := blk_frozen i0 0; have hxf1 := blk_frozen i0 1; have hxf2 := blk_frozen i0 2; have hxf3 := blk_frozen i0 3; have hy0 := blk_cell kx 0; have hy1 := blk_cell kx 1; have hy2 := blk_cell kx 2; have hy3 := blk_cell kx 3; have hyf0 := blk_frozen kx 0; have hyf1 := blk_frozen kx 1; have hyf2 := blk_frozen kx 2; have hyf3 := blk_frozen kx 3) | (go_at_call 81; refine ((hI' _ _ _ hq)).mono ?_; rintro e w5 ⟨rfl, hb5⟩; have j0 := blk_below i0 hb5; have jx := blk_below kx hb5; have hz0 := blk_cell j0 0; have hz1 := blk_cell j0 1; have hz2 := blk_cell j0 2; have hz3 := blk_cell j0 3; have hzf0 := blk_frozen j0 0; have hzf1 := blk_frozen j0 1; have hzf2 := blk_frozen j0 2; have hzf3 := blk_frozen j0 3; have ha0 := blk_cell jx 0; have ha1 := blk_cell jx 1; have ha2 := blk_cell jx 2; have ha3 := blk_cell jx 3; have haf0 := blk_frozen jx 0; have haf1 := blk_frozen jx 1; have haf2 := blk_frozen jx 2; have haf3 := blk_frozen jx 3))
          have hs1 : w.heap.size + 1 ≤ w1.heap.size := Nat.le_trans (blk_lt k0) hb1.size
          refine bodyPost_ret (results_list (rs := [.cell 2 78, .tmp 3]) rfl (by simp) (.cell w.heap.size 78 #[.bool b2, .slice A2 r2.length c2, .bool false, .slice none 0 0] (0, 0) _ rfl (blk_set (blk_set (blk_set (blk_set j0 0 _) 1 _) 2 _) 3 _) Try.underlying78 rfl (by kernel_rfl) (.tmp .nil))) rfl ?_
          obtain ⟨rfl, rfl, rfl⟩ := HX.out
          obtain ⟨v, hv, hq2, hbw⟩ := qv_store (w := w) (ok := fun k => w1.heap.size ≤ k) (ok' := fun k => w.heap.size ≤ k) _ (0 : Int) (below_step hB3 hb5) (Nat.le_refl _) (((((hu2.alloc _).alloc _).alloc _)).below hb5) (r' := []) (Uv.nil _ _) (fun k hk => by omega) ⟨H2.out.1, H2.out.2, rfl, rfl⟩ (fun k hk => by omega)
          cases hv
          exact ⟨_, rfl, hq2, hbw⟩
        | false =>
          have HX : Hid (x = 0 ∧ y = 0 ∧ er = 3) := by rw [if_neg (by decide), if_pos (by simp)] at hP; cases hP; exact ⟨rfl, rfl, rfl⟩
          clear hP hI
          go_wp2_with (first | (go_at_call 79; refine CP.out.mono ?_; rintro e w1 ⟨rfl, hb1⟩) | (go_at_call 80; refine (CA'.out _).mono ?_; rintro e w2 ⟨v2, rfl, hv2, hb2⟩; obtain ⟨b2, A2, r2, c2, rfl, H2, hu2⟩ := zv_openh hv2; have hB3 := below_step (below_step (below_step hb0 hb1) hb2) (below_alloc (below_alloc (below_alloc (Below.refl _ w2) (zObj b2 (.slice A2 r2.length c2))) (zObj false (.slice none 0 0))) (qObj (.bool b2) (.slice A2 r2.length c2) (.bool false) (.slice none 0 0))); have i0 := blk_below k0 (below_step hb1 (below_step hb2 (below_alloc (below_alloc (below_alloc (Below.refl _ w2) (zObj b2 (.slice A2 r2.length c2))) (zObj false (.slice none 0 0))) (qObj (.bool b2) (.slice A2 r2.length c2) (.bool false) (.slice none 0 0))))); have kx := blk_new ((w2.alloc (zObj b2 (.slice A2 r2.length c2))).alloc (zObj false (.slice none 0 0))) (qObj (.bool b2) (.slice A2 r2.length c2) (.bool false) (.slice none 0 0)); simp only [World.size_alloc] at kx; have hq := QV.three H2 hu2 (zObj b2 (.slice A2 r2.length c2)) (zObj false (.slice none 0 0)) (qObj (.bool b2) (.slice A2 r2.length c2) (.bool false) (.slice none 0 0)); have hx0 := blk_cell i0 0; have hx1 := blk_cell i0 1; have hx2 := blk_cell i0 2; have hx3 := blk_cell i0 3; have hxf0 := blk_frozen i0 0; have hxf1 := blk_frozen i0 1; have hxf2 := blk_frozen i0 2; have hxf3 := blk_frozen i0 3; have hy0 := blk_cell kx 0; have hy1 := blk_cell kx 1; have hy2 := blk_cell kx 2; have hy3 := blk_cell kx 3; have hyf0 := blk_frozen kx 0; have hyf1 := blk_frozen kx 1; have hyf2 := blk_frozen kx 2; have hyf3 := blk_frozen kx 3) | (go_at_call 81; refine ((hI' _ _ _ hq)).mono ?_; rintro e w5 ⟨rfl, hb5⟩; have j0 := blk_below i0 hb5; have jx := blk_below kx hb5; have hz0 := blk_cell j0 0; have hz1 := blk_cell j0 1; have hz2 := blk_cell j0 2; have hz3 := blk_cell j0 3; have hzf0 := blk_frozen j0 0; have hzf1 := blk_frozen j0 1; have hzf2 := blk_frozen j0 2; have hzf3 := blk_frozen j0 3; have ha0 := blk_cell jx 0; have ha1 := blk_cell jx 1; have ha2 := blk_cell jx 2; have ha3 := blk_cell jx 3; have haf0 := blk_frozen jx 0; have haf1 := blk_frozen jx 1; have haf2 := blk_frozen jx 2; have haf3 := blk_frozen jx 3))
          refine bodyPost_ret (results_list (rs := [.cell 2 78, .tmp 3]) rfl (by simp) (.cell w.heap.size 78 nilQ (0, 0) _ rfl (blk_set (blk_set (blk_set (blk_set j0 0 _) 1 _) 2 _) 3 _) Try.underlying78 rfl (by kernel_rfl) (.tmp .nil))) rfl ?_
          exact HE.out _ _ HX.out (setQ ((below_step hB3 hb5)) (Nat.le_refl _) _ _ _ _)
      · have h0b : (e == 0) = false := beq_eq_false_iff_ne.2 h0
        have h0c : (e != 0) = true := bne_iff_ne.2 h0
        have HX : Hid (x = 0 ∧ y = 0 ∧ er = 3) := by rw [if_neg (by simp [h5]), if_pos (.inl h0)] at hP; cases hP; exact ⟨rfl, rfl, rfl⟩
        clear hP hI
        go_wp2_with (first | (go_at_call 79; refine CP.out.mono ?_; rintro e w1 ⟨rfl, hb1⟩) | (go_at_call 80; refine (CA'.out _).mono ?_; rintro e w2 ⟨v2, rfl, hv2, hb2⟩; obtain ⟨b2, A2, r2, c2, rfl, H2, hu2⟩ := zv_openh hv2; have hB3 := below_step (below_step (below_step hb0 hb1) hb2) (below_alloc (below_alloc (below_alloc (Below.refl _ w2) (zObj b2 (.slice A2 r2.length c2))) (zObj false (.slice none 0 0))) (qObj (.bool b2) (.slice A2 r2.length c2) (.bool false) (.slice none 0 0))); have i0 := blk_below k0 (below_step hb1 (below_step hb2 (below_alloc (below_alloc (below_alloc (Below.refl _ w2) (zObj b2 (.slice A2 r2.length c2))) (zObj false (.slice none 0 0))) (qObj (.bool b2) (.slice A2 r2.length c2) (.bool false) (.slice none 0 0))))); have kx := blk_new ((w2.alloc (zObj b2 (.slice A2 r2.length c2))).alloc (zObj false (.slice none 0 0))) (qObj (.bool b2) (.slice A2 r2.length c2) (.bool false) (.slice none 0 0)); simp only [World.size_alloc] at kx; have hq := QV.three H2 hu2 (zObj b2 (.slice A2 r2.length c2)) (zObj false (.slice none 0 0)) (qObj (.bool b2) (.slice A2 r2.length c2) (.bool false) (.slice none 0 0)); have hx0 := blk_cell i0 0; have hx1 := blk_cell i0 1; have hx2 := blk_cell i0 2; have hx3 := blk_cell i0 3; have hxf0 := blk_frozen i0 0; have hxf1 := blk_frozen i0 1; have hxf2 := blk_frozen i0 2; have hxf3 := blk_frozen i0 3; have hy0 := blk_cell kx 0; have hy1 := blk_cell kx 1; have hy2 := blk_cell kx 2; have hy3 := blk_cell kx 3; have hyf0 := blk_frozen kx 0; have hyf1 := blk_frozen kx 1; have hyf2 := blk_frozen kx 2; have hyf3 := blk_frozen kx 3))
        refine bodyPost_ret (results_list (rs := [.cell 2 78, .tmp 3]) rfl (by simp) (.cell w.heap.size 78 nilQ (0, 0) _ rfl (blk_set (blk_set (blk_set (blk_set i0 0 _) 1 _) 2 _) 3 _) Try.underlying78 rfl (by kernel_rfl) (.tmp .nil))) rfl ?_
        exact HE.out _ _ HX.out (setQ (hB3) (Nat.le_refl _) _ _ _ _)
  · have eA : qA s = s.extract 0 (stroke s 0) := by unfold qA; rw [if_neg h2]
    have e2 : qTwo s = true := by unfold qTwo; rw [decide_eq_true h2]
    have eD : pD s = zOf (qB s) := by unfold pD; rw [e2]; rfl
    have eE : pDe s = zErr (qB s) := by unfold pDe; rw [e2]; rfl
    rw [eA] at CA smA hI hsA
    rw [if_neg h2] at CP
    unfold pQ at hP
    rw [eA, eE, eD, e2] at hP
    rw [eD, eE, e2] at hI
    obtain ⟨a, ha⟩ : ∃ a, s.extract 0 (stroke s 0) = a := ⟨_, rfl⟩
    obtain ⟨t, ht⟩ : ∃ t, qB s = t := ⟨_, rfl⟩
    have ht' : s.extract (stroke s 0 + 1) s.size = t := ht
    rw [ha, ht'] at CP
    rw [ha] at CA smA hI hP
    rw [ht] at CB smB hI hP
    clear eD eE eA e2 h2 ha ht ht' hsA hsB
    obtain ⟨n, hn⟩ : ∃ n, zOf a = n := ⟨_, rfl⟩
    obtain ⟨e, he⟩ : ∃ e, zErr a = e := ⟨_, rfl⟩
    obtain ⟨d, hd⟩ : ∃ d, zOf t = d := ⟨_, rfl⟩
    obtain ⟨f, hf⟩ : ∃ f, zErr t = f := ⟨_, rfl⟩
    have CA' : Hid (∀ W : World, Calls Try.prog 80 #[.string a] W fun en w' => ∃ v, en = .returned (.tuple #[v, .int .i64 e]) ∧ ZV w' (fun k => W.heap.size ≤ k) v n ∧ Below W.heap.size W w') := by rw [← hn, ← he]; exact CA
    have CB' : Hid (∀ W : World, Calls Try.prog 80 #[.string t] W fun en w' => ∃ v, en = .returned (.tuple #[v, .int .i64 f]) ∧ ZV w' (fun k => W.heap.size ≤ k) v d ∧ Below W.heap.size W w') := by rw [← hd, ← hf]; exact CB
    rw [hn, he, hd, hf] at hP hI
    rw [hn] at smA
    rw [hd] at smB
    clear hn he hd hf CA CB
    go_enter Try.func70, Try.ntmps70
    by_cases h5 : e = 5
    · have h5b : (e == 5) = true := beq_iff_eq.2 h5
      have HX : Hid (x = 0 ∧ y = 0 ∧ er = 5) := by rw [if_pos (.inl h5)] at hP; cases hP; exact ⟨rfl, rfl, rfl⟩
      clear hP hI
      go_wp2_with (first | (go_at_call 79; refine CP.out.mono ?_; rintro e w1 ⟨rfl, hb1⟩) | (go_at_call_of 80 (Value.string a); refine (CA'.out _).mono ?_; rintro e w2 ⟨v2, rfl, hv2, hb2⟩; obtain ⟨b2, A2, r2, c2, rfl, H2, hu2⟩ := zv_openh hv2; have hs1 := Nat.le_trans (blk_lt k0) hb1.size; have hs2 := Nat.le_trans hs1 hb2.size; have hb22 := below_alloc (below_alloc (Below.refl _ w2) (zObj b2 (.slice A2 r2.length c2))) (zObj false (.slice none 0 0)); have hB2 := below_step (below_step (below_step hb0 hb1) hb2) hb22; have j0 := blk_below k0 (below_step hb1 (below_step hb2 hb22)); have jn := blk_alloc (blk_new w2 (zObj b2 (.slice A2 r2.length c2))) (zObj false (.slice none 0 0)); have jd := blk_new (w2.alloc (zObj b2 (.slice A2 r2.length c2))) (zObj false (.slice none 0 0)); simp only [World.size_alloc] at jd) | (go_at_call_of 80 (Value.string t); refine (CB'.out _).mono ?_; rintro e w3 ⟨v3, rfl, hv3, hb3⟩; obtain ⟨b3, A3, r3, c3, rfl, H3, hu3⟩ := zv_openh hv3; have hB3 := below_step hB2 hb3; have d0 : w.heap.size ≠ w2.heap.size + 1 := neFirst hs2; have dn : w2.heap.size ≠ w2.heap.size + 1 := Nat.ne_of_lt (Nat.lt_succ_self _); have m0 := blk_below j0 hb3; have mn := blk_below jn hb3; have md := blk_below jd hb3; have hd0 := blk_cell md 0; have hd1 := blk_cell md 1; have hdf0 := blk_frozen md 0; have hdf1 := blk_frozen md 1; have p0 := (blk_far (blk_far m0 (p := ⟨w2.heap.size + 1, 0, none⟩) d0 (.bool b3)) (p := ⟨w2.heap.size + 1, 1, none⟩) d0 (.slice A3 r3.length c3)); have pn := (blk_far (blk_far mn (p := ⟨w2.heap.size + 1, 0, none⟩) dn (.bool b3)) (p := ⟨w2.heap.size + 1, 1, none⟩) dn (.slice A3 r3.length c3)); have pd := blk_set (blk_set md 0 (.bool b3)) 1 (.slice A3 r3.length c3); have hn0 := blk_cell pn 0; have hn1 := blk_cell pn 1; have hnf0 := blk_frozen pn 0; have hnf1 := blk_frozen pn 1; have he0 := blk_cell pd 0; have he1 := blk_cell pd 1; have hef0 := blk_frozen pd 0; have hef1 := blk_frozen pd 1; have q0 := blk_alloc p0 (qObj (.bool b2) (.slice A2 r2.length c2) (.bool b3) (.slice A3 r3.length c3)); have qd := blk_alloc pd (qObj (.bool b2) (.slice A2 r2.length c2) (.bool b3) (.slice A3 r3.length c3)); have qx := (show ((((w3.setCell ⟨w2.heap.size + 1, 0, none⟩ (.bool b3)).setCell ⟨w2.heap.size + 1, 1, none⟩ (.slice A3 r3.length c3)).alloc (qObj (.bool b2) (.slice A2 r2.length c2) (.bool b3) (.slice A3 r3.length c3))).heap[w3.heap.size]? = some (qObj (.bool b2) (.slice A2 r2.length c2) (.bool b3) (.slice A3 r3.length c3))) from by have h := blk_new ((w3.setCell ⟨w2.heap.size + 1, 0, none⟩ (.bool b3)).setCell ⟨w2.heap.size + 1, 1, none⟩ (.slice A3 r3.length c3)) (qObj (.bool b2) (.slice A2 r2.length c2) (.bool b3) (.slice A3 r3.length c3)); simp only [World.size_setCell] at h; exact h); have hq := QV.alloc (QV.two H2 H3 hu2 hb22 hb3 hu3) (qObj (.bool b2) (.slice A2 r2.length c2) (.bool b3) (.slice A3 r3.length c3)); have hz := ZV.alloc (ZV.two H3 hu3) (qObj (.bool b2) (.slice A2 r2.length c2) (.bool b3) (.slice A3 r3.length c3)); have hBQ := below_alloc ((hB3.setCell (p := ⟨w2.heap.size + 1, 0, none⟩) (geFirst hs2) (.bool b3)).setCell (p := ⟨w2.heap.size + 1, 1, none⟩) (geFirst hs2) (.slice A3 r3.length c3)) (qObj (.bool b2) (.slice A2 r2.length c2) (.bool b3) (.slice A3 r3.length c3)); have hx0 := blk_cell q0 0; have hx1 := blk_cell q0 1; have hx2 := blk_cell q0 2; have hx3 := blk_cell q0 3; have hxf0 := blk_frozen q0 0; have hxf1 := blk_frozen q0 1; have hxf2 := blk_frozen q0 2; have hxf3 := blk_frozen q0 3; have hy0 := blk_cell qx 0; have hy1 := blk_cell qx 1; have hy2 := blk_cell qx 2; have hy3 := blk_cell qx 3; have hyf0 := blk_frozen qx 0; have hyf1 := blk_frozen qx 1; have hyf2 := blk_frozen qx 2; have hyf3 := blk_frozen qx 3; have hf0 := blk_cell qd 0; have hf1 := blk_cell qd 1; have hff0 := blk_frozen qd 0; have hff1 := blk_frozen qd 1))
      refine bodyPost_ret (results_list (rs := [.cell 2 78, .tmp 3]) rfl (by simp) (.cell w.heap.size 78 nilQ (0, 0) _ rfl (blk_set (blk_set (blk_set (blk_set q0 0 _) 1 _) 2 _) 3 _) Try.underlying78 rfl (by kernel_rfl) (.tmp .nil))) rfl ?_
      exact HE.out _ _ HX.out (setQ (hBQ) (Nat.le_refl _) _ _ _ _)
    · have h5b : (e == 5) = false := beq_eq_false_iff_ne.2 h5
      by_cases g5 : f = 5
      · have g5b : (f == 5) = true := beq_iff_eq.2 g5
        have HX : Hid (x = 0 ∧ y = 0 ∧ er = 5) := by rw [if_pos (.inr g5)] at hP; cases hP; exact ⟨rfl, rfl, rfl⟩
        clear hP hI
        go_wp2_with (first | (go_at_call 79; refine CP.out.mono ?_; rintro e w1 ⟨rfl, hb1⟩) | (go_at_call_of 80 (Value.string a); refine (CA'.out _).mono ?_; rintro e w2 ⟨v2, rfl, hv2, hb2⟩; obtain ⟨b2, A2, r2, c2, rfl, H2, hu2⟩ := zv_openh hv2; have hs1 := Nat.le_trans (blk_lt k0) hb1.size; have hs2 := Nat.le_trans hs1 hb2.size; have hb22 := below_alloc (below_alloc (Below.refl _ w2) (zObj b2 (.slice A2 r2.length c2))) (zObj false (.slice none 0 0)); have hB2 := below_step (below_step (below_step hb0 hb1) hb2) hb22; have j0 := blk_below k0 (below_step hb1 (below_step hb2 hb22)); have jn := blk_alloc (blk_new w2 (zObj b2 (.slice A2 r2.length c2))) (zObj false (.slice none 0 0)); have jd := blk_new (w2.alloc (zObj b2 (.slice A2 r2.length c2))) (zObj false (.slice none 0 0)); simp only [World.size_alloc] at jd) | (go_at_call_of 80 (Value.string t); refine (CB'.out _).mono ?_; rintro e w3 ⟨v3, rfl, hv3, hb3⟩; obtain ⟨b3, A3, r3, c3, rfl, H3, hu3⟩ := zv_openh hv3; have hB3 := below_step hB2 hb3; have d0 : w.heap.size ≠ w2.heap.size + 1 := neFirst hs2; have dn : w2.heap.size ≠ w2.heap.size + 1 := Nat.ne_of_lt (Nat.lt_succ_self _); have m0 := blk_below j0 hb3; have mn := blk_below jn hb3; have md := blk_below jd hb3; have hd0 := blk_cell md 0; have hd1 := blk_cell md 1; have hdf0 := blk_frozen md 0; have hdf1 := blk_frozen md 1; have p0 := (blk_far (blk_far m0 (p := ⟨w2.heap.size + 1, 0, none⟩) d0 (.bool b3)) (p := ⟨w2.heap.size + 1, 1, none⟩) d0 (.slice A3 r3.length c3)); have pn := (blk_far (blk_far mn (p := ⟨w2.heap.size + 1, 0, none⟩) dn (.bool b3)) (p := ⟨w2.heap.size + 1, 1, none⟩) dn (.slice A3 r3.length c3)); have pd := blk_set (blk_set md 0 (.bool b3)) 1 (.slice A3 r3.length c3); have hn0 := blk_cell pn 0; have hn1 := blk_cell pn 1; have hnf0 := blk_frozen pn 0; have hnf1 := blk_frozen pn 1; have he0 := blk_cell pd 0; have he1 := blk_cell pd 1; have hef0 := blk_frozen pd 0; have hef1 := blk_frozen pd 1; have q0 := blk_alloc p0 (qObj (.bool b2) (.slice A2 r2.length c2) (.bool b3) (.slice A3 r3.length c3)); have qd := blk_alloc pd (qObj (.bool b2) (.slice A2 r2.length c2) (.bool b3) (.slice A3 r3.length c3)); have qx := (show ((((w3.setCell ⟨w2.heap.size + 1, 0, none⟩ (.bool b3)).setCell ⟨w2.heap.size + 1, 1, none⟩ (.slice A3 r3.length c3)).alloc (qObj (.bool b2) (.slice A2 r2.length c2) (.bool b3) (.slice A3 r3.length c3))).heap[w3.heap.size]? = some (qObj (.bool b2) (.slice A2 r2.length c2) (.bool b3) (.slice A3 r3.length c3))) from by have h := blk_new ((w3.setCell ⟨w2.heap.size + 1, 0, none⟩ (.bool b3)).setCell ⟨w2.heap.size + 1, 1, none⟩ (.slice A3 r3.length c3)) (qObj (.bool b2) (.slice A2 r2.length c2) (.bool b3) (.slice A3 r3.length c3)); simp only [World.size_setCell] at h; exact h); have hq := QV.alloc (QV.two H2 H3 hu2 hb22 hb3 hu3) (qObj (.bool b2) (.slice A2 r2.length c2) (.bool b3) (.slice A3 r3.length c3)); have hz := ZV.alloc (ZV.two H3 hu3) (qObj (.bool b2) (.slice A2 r2.length c2) (.bool b3) (.slice A3 r3.length c3)); have hBQ := below_alloc ((hB3.setCell (p := ⟨w2.heap.size + 1, 0, none⟩) (geFirst hs2) (.bool b3)).setCell (p := ⟨w2.heap.size + 1, 1, none⟩) (geFirst hs2) (.slice A3 r3.length c3)) (qObj (.bool b2) (.slice A2 r2.length c2) (.bool b3) (.slice A3 r3.length c3)); have hx0 := blk_cell q0 0; have hx1 := blk_cell q0 1; have hx2 := blk_cell q0 2; have hx3 := blk_cell q0 3; have hxf0 := blk_frozen q0 0; have hxf1 := blk_frozen q0 1; have hxf2 := blk_frozen q0 2; have hxf3 := blk_frozen q0 3; have hy0 := blk_cell qx 0; have hy1 := blk_cell qx 1; have hy2 := blk_cell qx 2; have hy3 := blk_cell qx 3; have hyf0 := blk_frozen qx 0; have hyf1 := blk_frozen qx 1; have hyf2 := blk_frozen qx 2; have hyf3 := blk_frozen qx 3; have hf0 := blk_cell qd 0; have hf1 := blk_cell qd 1; have hff0 := blk_frozen qd 0; have hff1 := blk_frozen qd 1))
        refine bodyPost_ret (results_list (rs := [.cell 2 78, .tmp 3]) rfl (by simp) (.cell w.heap.size 78 nilQ (0, 0) _ rfl (blk_set (blk_set (blk_set (blk_set q0 0 _) 1 _) 2 _) 3 _) Try.underlying78 rfl (by kernel_rfl) (.tmp .nil))) rfl ?_
        exact HE.out _ _ HX.out (setQ (hBQ) (Nat.le_refl _) _ _ _ _)
      · have g5b : (f == 5) = false := beq_eq_false_iff_ne.2 g5
        have hno : ¬ (e = 5 ∨ f = 5) := fun h => h.elim h5 g5
        by_cases h0 : e = 0
        · have h0b : (e != 0) = false := by rw [h0]; rfl
          by_cases g0 : f = 0
          · have g0b : (f != 0) = false := by rw [g0]; rfl
            by_cases hd0 : d = 0
            · have hsg : d.sign = 0 := by rw [hd0]; rfl
              have HX : Hid (x = 0 ∧ y = 0 ∧ er = 3) := by rw [if_neg hno, if_pos (.inr (.inr (.inl ⟨rfl, hd0⟩)))] at hP; cases hP; exact ⟨rfl, rfl, rfl⟩
              clear hP hI
              clear h0 g0 hd0 h5 g5 hno
              go_wp2_with (first | (go_at_call 79; refine CP.out.mono ?_; rintro e w1 ⟨rfl, hb1⟩) | (go_at_call_of 80 (Value.string a); refine (CA'.out _).mono ?_; rintro e w2 ⟨v2, rfl, hv2, hb2⟩; obtain ⟨b2, A2, r2, c2, rfl, H2, hu2⟩ := zv_openh hv2; have hs1 := Nat.le_trans (blk_lt k0) hb1.size; have hs2 := Nat.le_trans hs1 hb2.size; have hb22 := below_alloc (below_alloc (Below.refl _ w2) (zObj b2 (.slice A2 r2.length c2))) (zObj false (.slice none 0 0)); have hB2 := below_step (below_step (below_step hb0 hb1) hb2) hb22; have j0 := blk_below k0 (below_step hb1 (below_step hb2 hb22)); have jn := blk_alloc (blk_new w2 (zObj b2 (.slice A2 r2.length c2))) (zObj false (.slice none 0 0)); have jd := blk_new (w2.alloc (zObj b2 (.slice A2 r2.length c2))) (zObj false (.slice none 0 0)); simp only [World.size_alloc] at jd) | (go_at_call_of 80 (Value.string t); refine (CB'.out _).mono ?_; rintro e w3 ⟨v3, rfl, hv3, hb3⟩; obtain ⟨b3, A3, r3, c3, rfl, H3, hu3⟩ := zv_openh hv3; have hB3 := below_step hB2 hb3; have d0 : w.heap.size ≠ w2.heap.size + 1 := neFirst hs2; have dn : w2.heap.size ≠ w2.heap.size + 1 := Nat.ne_of_lt (Nat.lt_succ_self _); have m0 := blk_below j0 hb3; have mn := blk_below jn hb3; have md := blk_below jd hb3; have hd0 := blk_cell md 0; have hd1 := blk_cell md 1; have hdf0 := blk_frozen md 0; have hdf1 := blk_frozen md 1; have p0 := (blk_far (blk_far m0 (p := ⟨w2.heap.size + 1, 0, none⟩) d0 (.bool b3)) (p := ⟨w2.heap.size + 1, 1, none⟩) d0 (.slice A3 r3.length c3)); have pn := (blk_far (blk_far mn (p := ⟨w2.heap.size + 1, 0, none⟩) dn (.bool b3)) (p := ⟨w2.heap.size + 1, 1, none⟩) dn (.slice A3 r3.length c3)); have pd := blk_set (blk_set md 0 (.bool b3)) 1 (.slice A3 r3.length c3); have hn0 := blk_cell pn 0; have hn1 := blk_cell pn 1; have hnf0 := blk_frozen pn 0; have hnf1 := blk_frozen pn 1; have he0 := blk_cell pd 0; have he1 := blk_cell pd 1; have hef0 := blk_frozen pd 0; have hef1 := blk_frozen pd 1; have q0 := blk_alloc p0 (qObj (.bool b2) (.slice A2 r2.length c2) (.bool b3) (.slice A3 r3.length c3)); have qd := blk_alloc pd (qObj (.bool b2) (.slice A2 r2.length c2) (.bool b3) (.slice A3 r3.length c3)); have qx := (show ((((w3.setCell ⟨w2.heap.size + 1, 0, none⟩ (.bool b3)).setCell ⟨w2.heap.size + 1, 1, none⟩ (.slice A3 r3.length c3)).alloc (qObj (.bool b2) (.slice A2 r2.length c2) (.bool b3) (.slice A3 r3.length c3))).heap[w3.heap.size]? = some (qObj (.bool b2) (.slice A2 r2.length c2) (.bool b3) (.slice A3 r3.length c3))) from by have h := blk_new ((w3.setCell ⟨w2.heap.size + 1, 0, none⟩ (.bool b3)).setCell ⟨w2.heap.size + 1, 1, none⟩ (.slice A3 r3.length c3)) (qObj (.bool b2) (.slice A2 r2.length c2) (.bool b3) (.slice A3 r3.length c3)); simp only [World.size_setCell] at h; exact h); have hq := QV.alloc (QV.two H2 H3 hu2 hb22 hb3 hu3) (qObj (.bool b2) (.slice A2 r2.length c2) (.bool b3) (.slice A3 r3.length c3)); have hz := ZV.alloc (ZV.two H3 hu3) (qObj (.bool b2) (.slice A2 r2.length c2) (.bool b3) (.slice A3 r3.length c3)); have hBQ := below_alloc ((hB3.setCell (p := ⟨w2.heap.size + 1, 0, none⟩) (geFirst hs2) (.bool b3)).setCell (p := ⟨w2.heap.size + 1, 1, none⟩) (geFirst hs2) (.slice A3 r3.length c3)) (qObj (.bool b2) (.slice A2 r2.length c2) (.bool b3) (.slice A3 r3.length c3)); have hx0 := blk_cell q0 0; have hx1 := blk_cell q0 1; have hx2 := blk_cell q0 2; have hx3 := blk_cell q0 3; have hxf0 := blk_frozen q0 0; have hxf1 := blk_frozen q0 1; have hxf2 := blk_frozen q0 2; have hxf3 := blk_frozen q0 3; have hy0 := blk_cell qx 0; have hy1 := blk_cell qx 1; have hy2 := blk_cell qx 2; have hy3 := blk_cell qx 3; have hyf0 := blk_frozen qx 0; have hyf1 := blk_frozen qx 1; have hyf2 := blk_frozen qx 2; have hyf3 := blk_frozen qx 3; have hf0 := blk_cell qd 0; have hf1 := blk_cell qd 1; have hff0 := blk_frozen qd 0; have hff1 := blk_frozen qd 1) | (go_at_call 65; refine (sign_c hz smB).mono ?_; rw [hsg]; rintro e w4 ⟨rfl, hb4⟩; have r0 := blk_below q0 hb4; have rx := blk_below qx hb4; have hg0 := blk_cell r0 0; have hg1 := blk_cell r0 1; have hg2 := blk_cell r0 2; have hg3 := blk_cell r0 3; have hgf0 := blk_frozen r0 0; have hgf1 := blk_frozen r0 1; have hgf2 := blk_frozen r0 2; have hgf3 := blk_frozen r0 3; have hh0 := blk_cell rx 0; have hh1 := blk_cell rx 1; have hh2 := blk_cell rx 2; have hh3 := blk_cell rx 3; have hhf0 := blk_frozen rx 0; have hhf1 := blk_frozen rx 1; have hhf2 := blk_frozen rx 2; have hhf3 := blk_frozen rx 3))
              refine bodyPost_ret (results_list (rs := [.cell 2 78, .tmp 3]) rfl (by simp) (.cell w.heap.size 78 nilQ (0, 0) _ rfl (blk_set (blk_set (blk_set (blk_set r0 0 _) 1 _) 2 _) 3 _) Try.underlying78 rfl (by kernel_rfl) (.tmp .nil))) rfl ?_
              exact HE.out _ _ HX.out (setQ ((below_step hBQ hb4)) (Nat.le_refl _) _ _ _ _)
            · have hsg : (d.sign == 0) = false := by rw [beq_eq_false_iff_ne]; exact fun h => hd0 (Int.sign_eq_zero_iff_zero.1 h)
              have hI' := hI h0 g0 (fun h => hd0 h.2)
              cases r with
              | true =>
                have HX : Hid (x = n ∧ y = d ∧ er = 0) := by rw [if_neg hno, if_neg (by simp [h0, g0, hd0])] at hP; cases hP; exact ⟨rfl, rfl, rfl⟩
                clear hP hI h0 g0 hd0 h5 g5 hno
                skip
                go_wp2_with (first | (go_at_call 79; refine CP.out.mono ?_; rintro e w1 ⟨rfl, hb1⟩) | (go_at_call_of 80 (Value.string a); refine (CA'.out _).mono ?_; rintro e w2 ⟨v2, rfl, hv2, hb2⟩; obtain ⟨b2, A2, r2, c2, rfl, H2, hu2⟩ := zv_openh hv2; have hs1 := Nat.le_trans (blk_lt k0) hb1.size; have hs2 := Nat.le_trans hs1 hb2.size; have hb22 := below_alloc (below_alloc (Below.refl _ w2) (zObj b2 (.slice A2 r2.length c2))) (zObj false (.slice none 0 0)); have hB2 := below_step (below_step (below_step hb0 hb1) hb2) hb22; have j0 := blk_below k0 (below_step hb1 (below_step hb2 hb22)); have jn := blk_alloc (blk_new w2 (zObj b2 (.slice A2 r2.length c2))) (zObj false (.slice none 0 0)); have jd := blk_new (w2.alloc (zObj b2 (.slice A2 r2.length c2))) (zObj false (.slice none 0 0)); simp only [World.size_alloc] at jd) | (go_at_call_of 80 (Value.string t); refine (CB'.out _).mono ?_; rintro e w3 ⟨v3, rfl, hv3, hb3⟩; obtain ⟨b3, A3, r3, c3, rfl, H3, hu3⟩ := zv_openh hv3; have hB3 := below_step hB2 hb3; have d0 : w.heap.size ≠ w2.heap.size + 1 := neFirst hs2; have dn : w2.heap.size ≠ w2.heap.size + 1 := Nat.ne_of_lt (Nat.lt_succ_self _); have m0 := blk_below j0 hb3; have mn := blk_below jn hb3; have md := blk_below jd hb3; have hd0 := blk_cell md 0; have hd1 := blk_cell md 1; have hdf0 := blk_frozen md 0; have hdf1 := blk_frozen md 1; have p0 := (blk_far (blk_far m0 (p := ⟨w2.heap.size + 1, 0, none⟩) d0 (.bool b3)) (p := ⟨w2.heap.size + 1, 1, none⟩) d0 (.slice A3 r3.length c3)); have pn := (blk_far (blk_far mn (p := ⟨w2.heap.size + 1, 0, none⟩) dn (.bool b3)) (p := ⟨w2.heap.size + 1, 1, none⟩) dn (.slice A3 r3.length c3)); have pd := blk_set (blk_set md 0 (.bool b3)) 1 (.slice A3 r3.length c3); have hn0 := blk_cell pn 0; have hn1 := blk_cell pn 1; have hnf0 := blk_frozen pn 0; have hnf1 := blk_frozen pn 1; have he0 := blk_cell pd 0; have he1 := blk_cell pd 1; have hef0 := blk_frozen pd 0; have hef1 := blk_frozen pd 1; have q0 := blk_alloc p0 (qObj (.bool b2) (.slice A2 r2.length c2) (.bool b3) (.slice A3 r3.length c3)); have qd := blk_alloc pd (qObj (.bool b2) (.slice A2 r2.length c2) (.bool b3) (.slice A3 r3.length c3)); have qx := (show ((((w3.setCell ⟨w2.heap.size + 1, 0, none⟩ (.bool b3)).setCell ⟨w2.heap.size + 1, 1, none⟩ (.slice A3 r3.length c3)).alloc (qObj (.bool b2) (.slice A2 r2.length c2) (.bool b3) (.slice A3 r3.length c3))).heap[w3.heap.size]? = some (qObj (.bool b2) (.slice A2 r2.length c2) (.bool b3) (.slice A3 r3.length c3))) from by have h := blk_new ((w3.setCell ⟨w2.heap.size + 1, 0, none⟩ (.bool b3)).setCell ⟨w2.heap.size + 1, 1, none⟩ (.slice A3 r3.length c3)) (qObj (.bool b2) (.slice A2 r2.length c2) (.bool b3) (.slice A3 r3.length c3)); simp only [World.size_setCell] at h; exact h); have hq := QV.alloc (QV.two H2 H3 hu2 hb22 hb3 hu3) (qObj (.bool b2) (.slice A2 r2.length c2) (.bool b3) (.slice A3 r3.length c3)); have hz := ZV.alloc (ZV.two H3 hu3) (qObj (.bool b2) (.slice A2 r2.length c2) (.bool b3) (.slice A3 r3.length c3)); have hBQ := below_alloc ((hB3.setCell (p := ⟨w2.heap.size + 1, 0, none⟩) (geFirst hs2) (.bool b3)).setCell (p := ⟨w2.heap.size + 1, 1, none⟩) (geFirst hs2) (.slice A3 r3.length c3)) (qObj (.bool b2) (.slice A2 r2.length c2) (.bool b3) (.slice A3 r3.length c3)); have hx0 := blk_cell q0 0; have hx1 := blk_cell q0 1; have hx2 := blk_cell q0 2; have hx3 := blk_cell q0 3; have hxf0 := blk_frozen q0 0; have hxf1 := blk_frozen q0 1; have hxf2 := blk_frozen q0 2; have hxf3 := blk_frozen q0 3; have hy0 := blk_cell qx 0; have hy1 := blk_cell qx 1; have hy2 := blk_cell qx 2; have hy3 := blk_cell qx 3; have hyf0 := blk_frozen qx 0; have hyf1 := blk_frozen qx 1; have hyf2 := blk_frozen qx 2; have hyf3 := blk_frozen qx 3; have hf0 := blk_cell qd 0; have hf1 := blk_cell qd 1; have hff0 := blk_frozen qd 0; have hff1 := blk_frozen qd 1) | (go_at_call 65; refine (sign_c hz smB).mono ?_; rintro e w4 ⟨rfl, hb4⟩; have r0 := blk_below q0 hb4; have rx := blk_below qx hb4; have hg0 := blk_cell r0 0; have hg1 := blk_cell r0 1; have hg2 := blk_cell r0 2; have hg3 := blk_cell r0 3; have hgf0 := blk_frozen r0 0; have hgf1 := blk_frozen r0 1; have hgf2 := blk_frozen r0 2; have hgf3 := blk_frozen r0 3; have hh0 := blk_cell rx 0; have hh1 := blk_cell rx 1; have hh2 := blk_cell rx 2; have hh3 := blk_cell rx 3; have hhf0 := blk_frozen rx 0; have hhf1 := blk_frozen rx 1; have hhf2 := blk_frozen rx 2; have hhf3 := blk_frozen rx 3) | (go_at_call 81; refine (hI' _ _ _ (hq.below hb4)).mono ?_; rintro e w5 ⟨rfl, hb5⟩; have t0 := blk_below r0 hb5; have tx := blk_below rx hb5; have hi0 := blk_cell t0 0; have hi1 := blk_cell t0 1; have hi2 := blk_cell t0 2; have hi3 := blk_cell t0 3; have hif0 := blk_frozen t0 0; have hif1 := blk_frozen t0 1; have hif2 := blk_frozen t0 2; have hif3 := blk_frozen t0 3; have hj0 := blk_cell tx 0; have hj1 := blk_cell tx 1; have hj2 := blk_cell tx 2; have hj3 := blk_cell tx 3; have hjf0 := blk_frozen tx 0; have hjf1 := blk_frozen tx 1; have hjf2 := blk_frozen tx 2; have hjf3 := blk_frozen tx 3))
                have hs1' : w.heap.size + 1 ≤ w1.heap.size := Nat.le_trans (blk_lt k0) hb1.size
                refine bodyPost_ret (results_list (rs := [.cell 2 78, .tmp 3]) rfl (by simp) (.cell w.heap.size 78 #[.bool b2, .slice A2 r2.length c2, .bool b3, .slice A3 r3.length c3] (0, 0) _ rfl (blk_set (blk_set (blk_set (blk_set t0 0 _) 1 _) 2 _) 3 _) Try.underlying78 rfl (by kernel_rfl) (.tmp .nil))) rfl ?_
                obtain ⟨rfl, rfl, rfl⟩ := HX.out
                have hq3 := QV.twoU (b' := b3) (qObj (.bool b2) (.slice A2 r2.length c2) (.bool b3) (.slice A3 r3.length c3)) hu2 hb22 hb3 hu3
                obtain ⟨v, hv, hq2, hbw⟩ := qv_store (w := w) (ok := fun k => w1.heap.size ≤ k ∨ w2.heap.size ≤ k) (ok' := fun k => w.heap.size ≤ k) _ _ (below_step (below_step hBQ hb4) hb5) (Nat.le_refl _) ((hq3.1.below hb4).below hb5) ((hq3.2.below hb4).below hb5) (fun k hk => by omega) ⟨H2.out.1, H2.out.2, H3.out.1, H3.out.2⟩ (fun k hk => by omega)
                cases hv
                exact ⟨_, rfl, hq2, hbw⟩
              | false =>
                have HX : Hid (x = 0 ∧ y = 0 ∧ er = 3) := by rw [if_neg hno, if_pos (.inr (.inr (.inr rfl)))] at hP; cases hP; exact ⟨rfl, rfl, rfl⟩
                clear hP hI h0 g0 hd0 h5 g5 hno
                skip
                go_wp2_with (first | (go_at_call 79; refine CP.out.mono ?_; rintro e w1 ⟨rfl, hb1⟩) | (go_at_call_of 80 (Value.string a); refine (CA'.out _).mono ?_; rintro e w2 ⟨v2, rfl, hv2, hb2⟩; obtain ⟨b2, A2, r2, c2, rfl, H2, hu2⟩ := zv_openh hv2; have hs1 := Nat.le_trans (blk_lt k0) hb1.size; have hs2 := Nat.le_trans hs1 hb2.size; have hb22 := below_alloc (below_alloc (Below.refl _ w2) (zObj b2 (.slice A2 r2.length c2))) (zObj false (.slice none 0 0)); have hB2 := below_step (below_step (below_step hb0 hb1) hb2) hb22; have j0 := blk_below k0 (below_step hb1 (below_step hb2 hb22)); have jn := blk_alloc (blk_new w2 (zObj b2 (.slice A2 r2.length c2))) (zObj false (.slice none 0 0)); have jd := blk_new (w2.alloc (zObj b2 (.slice A2 r2.length c2))) (zObj false (.slice none 0 0)); simp only [World.size_alloc] at jd) | (go_at_call_of 80 (Value.string t); refine (CB'.out _).mono ?_; rintro e w3 ⟨v3, rfl, hv3, hb3⟩; obtain ⟨b3, A3, r3, c3, rfl, H3, hu3⟩ := zv_openh hv3; have hB3 := below_step hB2 hb3; have d0 : w.heap.size ≠ w2.heap.size + 1 := neFirst hs2; have dn : w2.heap.size ≠ w2.heap.size + 1 := Nat.ne_of_lt (Nat.lt_succ_self _); have m0 := blk_below j0 hb3; have mn := blk_below jn hb3; have md := blk_below jd hb3; have hd0 := blk_cell md 0; have hd1 := blk_cell md 1; have hdf0 := blk_frozen md 0; have hdf1 := blk_frozen md 1; have p0 := (blk_far (blk_far m0 (p := ⟨w2.heap.size + 1, 0, none⟩) d0 (.bool b3)) (p := ⟨w2.heap.size + 1, 1, none⟩) d0 (.slice A3 r3.length c3)); have pn := (blk_far (blk_far mn (p := ⟨w2.heap.size + 1, 0, none⟩) dn (.bool b3)) (p := ⟨w2.heap.size + 1, 1, none⟩) dn (.slice A3 r3.length c3)); have pd := blk_set (blk_set md 0 (.bool b3)) 1 (.slice A3 r3.length c3); have hn0 := blk_cell pn 0; have hn1 := blk_cell pn 1; have hnf0 := blk_frozen pn 0; have hnf1 := blk_frozen pn 1; have he0 := blk_cell pd 0; have he1 := blk_cell pd 1; have hef0 := blk_frozen pd 0; have hef1 := blk_frozen pd 1; have q0 := blk_alloc p0 (qObj (.bool b2) (.slice A2 r2.length c2) (.bool b3) (.slice A3 r3.length c3)); have qd := blk_alloc pd (qObj (.bool b2) (.slice A2 r2.length c2) (.bool b3) (.slice A3 r3.length c3)); have qx := (show ((((w3.setCell ⟨w2.heap.size + 1, 0, none⟩ (.bool b3)).setCell ⟨w2.heap.size + 1, 1, none⟩ (.slice A3 r3.length c3)).alloc (qObj (.bool b2) (.slice A2 r2.length c2) (.bool b3) (.slice A3 r3.length c3))).heap[w3.heap.size]? = some (qObj (.bool b2) (.slice A2 r2.length c2) (.bool b3) (.slice A3 r3.length c3))) from by have h := blk_new ((w3.setCell ⟨w2.heap.size + 1, 0, none⟩ (.bool b3)).setCell ⟨w2.heap.size + 1, 1, none⟩ (.slice A3 r3.length c3)) (qObj (.bool b2) (.slice A2 r2.length c2) (.bool b3) (.slice A3 r3.length c3)); simp only [World.size_setCell] at h; exact h); have hq := QV.alloc (QV.two H2 H3 hu2 hb22 hb3 hu3) (qObj (.bool b2) (.slice A2 r2.length c2) (.bool b3) (.slice A3 r3.length c3)); have hz := ZV.alloc (ZV.two H3 hu3) (qObj (.bool b2) (.slice A2 r2.length c2) (.bool b3) (.slice A3 r3.length c3)); have hBQ := below_alloc ((hB3.setCell (p := ⟨w2.heap.size + 1, 0, none⟩) (geFirst hs2) (.bool b3)).setCell (p := ⟨w2.heap.size + 1, 1, none⟩) (geFirst hs2) (.slice A3 r3.length c3)) (qObj (.bool b2) (.slice A2 r2.length c2) (.bool b3) (.slice A3 r3.length c3)); have hx0 := blk_cell q0 0; have hx1 := blk_cell q0 1; have hx2 := blk_cell q0 2; have hx3 := blk_cell q0 3; have hxf0 := blk_frozen q0 0; have hxf1 := blk_frozen q0 1; have hxf2 := blk_frozen q0 2; have hxf3 := blk_frozen q0 3; have hy0 := blk_cell qx 0; have hy1 := blk_cell qx 1; have hy2 := blk_cell qx 2; have hy3 := blk_cell qx 3; have hyf0 := blk_frozen qx 0; have hyf1 := blk_frozen qx 1; have hyf2 := blk_frozen qx 2; have hyf3 := blk_frozen qx 3; have hf0 := blk_cell qd 0; have hf1 := blk_cell qd 1; have hff0 := blk_frozen qd 0; have hff1 := blk_frozen qd 1) | (go_at_call 65; refine (sign_c hz smB).mono ?_; rintro e w4 ⟨rfl, hb4⟩; have r0 := blk_below q0 hb4; have rx := blk_below qx hb4; have hg0 := blk_cell r0 0; have hg1 := blk_cell r0 1; have hg2 := blk_cell r0 2; have hg3 := blk_cell r0 3; have hgf0 := blk_frozen r0 0; have hgf1 := blk_frozen r0 1; have hgf2 := blk_frozen r0 2; have hgf3 := blk_frozen r0 3; have hh0 := blk_cell rx 0; have hh1 := blk_cell rx 1; have hh2 := blk_cell rx 2; have hh3 := blk_cell rx 3; have hhf0 := blk_frozen rx 0; have hhf1 := blk_frozen rx 1; have hhf2 := blk_frozen rx 2; have hhf3 := blk_frozen rx 3) | (go_at_call 81; refine (hI' _ _ _ (hq.below hb4)).mono ?_; rintro e w5 ⟨rfl, hb5⟩; have t0 := blk_below r0 hb5; have tx := blk_below rx hb5; have hi0 := blk_cell t0 0; have hi1 := blk_cell t0 1; have hi2 := blk_cell t0 2; have hi3 := blk_cell t0 3; have hif0 := blk_frozen t0 0; have hif1 := blk_frozen t0 1; have hif2 := blk_frozen t0 2; have hif3 := blk_frozen t0 3; have hj0 := blk_cell tx 0; have hj1 := blk_cell tx 1; have hj2 := blk_cell tx 2; have hj3 := blk_cell tx 3; have hjf0 := blk_frozen tx 0; have hjf1 := blk_frozen tx 1; have hjf2 := blk_frozen tx 2; have hjf3 := blk_frozen tx 3))
                refine bodyPost_ret (results_list (rs := [.cell 2 78, .tmp 3]) rfl (by simp) (.cell w.heap.size 78 nilQ (0, 0) _ rfl (blk_set (blk_set (blk_set (blk_set t0 0 _) 1 _) 2 _) 3 _) Try.underlying78 rfl (by kernel_rfl) (.tmp .nil))) rfl ?_
                exact HE.out _ _ HX.out (setQ ((below_step (below_step hBQ hb4) hb5)) (Nat.le_refl _) _ _ _ _)
          · have g0b : (f != 0) = true := bne_iff_ne.2 g0
            have HX : Hid (x = 0 ∧ y = 0 ∧ er = 3) := by rw [if_neg hno, if_pos (.inr (.inl g0))] at hP; cases hP; exact ⟨rfl, rfl, rfl⟩
            clear hP hI
            go_wp2_with (first | (go_at_call 79; refine CP.out.mono ?_; rintro e w1 ⟨rfl, hb1⟩) | (go_at_call_of 80 (Value.string a); refine (CA'.out _).mono ?_; rintro e w2 ⟨v2, rfl, hv2, hb2⟩; obtain ⟨b2, A2, r2, c2, rfl, H2, hu2⟩ := zv_openh hv2; have hs1 := Nat.le_trans (blk_lt k0) hb1.size; have hs2 := Nat.le_trans hs1 hb2.size; have hb22 := below_alloc (below_alloc (Below.refl _ w2) (zObj b2 (.slice A2 r2.length c2))) (zObj false (.slice none 0 0)); have hB2 := below_step (below_step (below_step hb0 hb1) hb2) hb22; have j0 := blk_below k0 (below_step hb1 (below_step hb2 hb22)); have jn := blk_alloc (blk_new w2 (zObj b2 (.slice A2 r2.length c2))) (zObj false (.slice none 0 0)); have jd := blk_new (w2.alloc (zObj b2 (.slice A2 r2.length c2))) (zObj false (.slice none 0 0)); simp only [World.size_alloc] at jd) | (go_at_call_of 80 (Value.string t); refine (CB'.out _).mono ?_; rintro e w3 ⟨v3, rfl, hv3, hb3⟩; obtain ⟨b3, A3, r3, c3, rfl, H3, hu3⟩ := zv_openh hv3; have hB3 := below_step hB2 hb3; have d0 : w.heap.size ≠ w2.heap.size + 1 := neFirst hs2; have dn : w2.heap.size ≠ w2.heap.size + 1 := Nat.ne_of_lt (Nat.lt_succ_self _); have m0 := blk_below j0 hb3; have mn := blk_below jn hb3; have md := blk_below jd hb3; have hd0 := blk_cell md 0; have hd1 := blk_cell md 1; have hdf0 := blk_frozen md 0; have hdf1 := blk_frozen md 1; have p0 := (blk_far (blk_far m0 (p := ⟨w2.heap.size + 1, 0, none⟩) d0 (.bool b3)) (p := ⟨w2.heap.size + 1, 1, none⟩) d0 (.slice A3 r3.length c3)); have pn := (blk_far (blk_far mn (p := ⟨w2.heap.size + 1, 0, none⟩) dn (.bool b3)) (p := ⟨w2.heap.size + 1, 1, none⟩) dn (.slice A3 r3.length c3)); have pd := blk_set (blk_set md 0 (.bool b3)) 1 (.slice A3 r3.length c3); have hn0 := blk_cell pn 0; have hn1 := blk_cell pn 1; have hnf0 := blk_frozen pn 0; have hnf1 := blk_frozen pn 1; have he0 := blk_cell pd 0; have he1 := blk_cell pd 1; have hef0 := blk_frozen pd 0; have hef1 := blk_frozen pd 1; have q0 := blk_alloc p0 (qObj (.bool b2) (.slice A2 r2.length c2) (.bool b3) (.slice A3 r3.length c3)); have qd := blk_alloc pd (qObj (.bool b2) (.slice A2 r2.length c2) (.bool b3) (.slice A3 r3.length c3)); have qx := (show ((((w3.setCell ⟨w2.heap.size + 1, 0, none⟩ (.bool b3)).setCell ⟨w2.heap.size + 1, 1, none⟩ (.slice A3 r3.length c3)).alloc (qObj (.bool b2) (.slice A2 r2.length c2) (.bool b3) (.slice A3 r3.length c3))).heap[w3.heap.size]? = some (qObj (.bool b2) (.slice A2 r2.length c2) (.bool b3) (.slice A3 r3.length c3))) from by have h := blk_new ((w3.setCell ⟨w2.heap.size + 1, 0, none⟩ (.bool b3)).setCell ⟨w2.heap.size + 1, 1, none⟩ (.slice A3 r3.length c3)) (qObj (.bool b2) (.slice A2 r2.length c2) (.bool b3) (.slice A3 r3.length c3)); simp only [World.size_setCell] at h; exact h); have hq := QV.alloc (QV.two H2 H3 hu2 hb22 hb3 hu3) (qObj (.bool b2) (.slice A2 r2.length c2) (.bool b3) (.slice A3 r3.length c3)); have hz := ZV.alloc (ZV.two H3 hu3) (qObj (.bool b2) (.slice A2 r2.length c2) (.bool b3) (.slice A3 r3.length c3)); have hBQ := below_alloc ((hB3.setCell (p := ⟨w2.heap.size + 1, 0, none⟩) (geFirst hs2) (.bool b3)).setCell (p := ⟨w2.heap.size + 1, 1, none⟩) (geFirst hs2) (.slice A3 r3.length c3)) (qObj (.bool b2) (.slice A2 r2.length c2) (.bool b3) (.slice A3 r3.length c3)); have hx0 := blk_cell q0 0; have hx1 := blk_cell q0 1; have hx2 := blk_cell q0 2; have hx3 := blk_cell q0 3; have hxf0 := blk_frozen q0 0; have hxf1 := blk_frozen q0 1; have hxf2 := blk_frozen q0 2; have hxf3 := blk_frozen q0 3; have hy0 := blk_cell qx 0; have hy1 := blk_cell qx 1; have hy2 := blk_cell qx 2; have hy3 := blk_cell qx 3; have hyf0 := blk_frozen qx 0; have hyf1 := blk_frozen qx 1; have hyf2 := blk_frozen qx 2; have hyf3 := blk_frozen qx 3; have hf0 := blk_cell qd 0; have hf1 := blk_cell qd 1; have hff0 := blk_frozen qd 0; have hff1 := blk_frozen qd 1))
            refine bodyPost_ret (results_list (rs := [.cell 2 78, .tmp 3]) rfl (by simp) (.cell w.heap.size 78 nilQ (0, 0) _ rfl (blk_set (blk_set (blk_set (blk_set q0 0 _) 1 _) 2 _) 3 _) Try.underlying78 rfl (by kernel_rfl) (.tmp .nil))) rfl ?_
            exact HE.out _ _ HX.out (setQ (hBQ) (Nat.le_refl _) _ _ _ _)
        · have h0b : (e != 0) = true := bne_iff_ne.2 h0
          have HX : Hid (x = 0 ∧ y = 0 ∧ er = 3) := by rw [if_neg hno, if_pos (.inl h0)] at hP; cases hP; exact ⟨rfl, rfl, rfl⟩
          clear hP hI
          go_wp2_with (first | (go_at_call 79; refine CP.out.mono ?_; rintro e w1 ⟨rfl, hb1⟩) | (go_at_call_of 80 (Value.string a); refine (CA'.out _).mono ?_; rintro e w2 ⟨v2, rfl, hv2, hb2⟩; obtain ⟨b2, A2, r2, c2, rfl, H2, hu2⟩ := zv_openh hv2; have hs1 := Nat.le_trans (blk_lt k0) hb1.size; have hs2 := Nat.le_trans hs1 hb2.size; have hb22 := below_alloc (below_alloc (Below.refl _ w2) (zObj b2 (.slice A2 r2.length c2))) (zObj false (.slice none 0 0)); have hB2 := below_step (below_step (below_step hb0 hb1) hb2) hb22; have j0 := blk_below k0 (below_step hb1 (below_step hb2 hb22)); have jn := blk_alloc (blk_new w2 (zObj b2 (.slice A2 r2.length c2))) (zObj false (.slice none 0 0)); have jd := blk_new (w2.alloc (zObj b2 (.slice A2 r2.length c2))) (zObj false (.slice none 0 0)); simp only [World.size_alloc] at jd) | (go_at_call_of 80 (Value.string t); refine (CB'.out _).mono ?_; rintro e w3 ⟨v3, rfl, hv3, hb3⟩; obtain ⟨b3, A3, r3, c3, rfl, H3, hu3⟩ := zv_openh hv3; have hB3 := below_step hB2 hb3; have d0 : w.heap.size ≠ w2.heap.size + 1 := neFirst hs2; have dn : w2.heap.size ≠ w2.heap.size + 1 := Nat.ne_of_lt (Nat.lt_succ_self _); have m0 := blk_below j0 hb3; have mn := blk_below jn hb3; have md := blk_below jd hb3; have hd0 := blk_cell md 0; have hd1 := blk_cell md 1; have hdf0 := blk_frozen md 0; have hdf1 := blk_frozen md 1; have p0 := (blk_far (blk_far m0 (p := ⟨w2.heap.size + 1, 0, none⟩) d0 (.bool b3)) (p := ⟨w2.heap.size + 1, 1, none⟩) d0 (.slice A3 r3.length c3)); have pn := (blk_far (blk_far mn (p := ⟨w2.heap.size + 1, 0, none⟩) dn (.bool b3)) (p := ⟨w2.heap.size + 1, 1, none⟩) dn (.slice A3 r3.length c3)); have pd := blk_set (blk_set md 0 (.bool b3)) 1 (.slice A3 r3.length c3); have hn0 := blk_cell pn 0; have hn1 := blk_cell pn 1; have hnf0 := blk_frozen pn 0; have hnf1 := blk_frozen pn 1; have he0 := blk_cell pd 0; have he1 := blk_cell pd 1; have hef0 := blk_frozen pd 0; have hef1 := blk_frozen pd 1; have q0 := blk_alloc p0 (qObj (.bool b2) (.slice A2 r2.length c2) (.bool b3) (.slice A3 r3.length c3)); have qd := blk_alloc pd (qObj (.bool b2) (.slice A2 r2.length c2) (.bool b3) (.slice A3 r3.length c3)); have qx := (show ((((w3.setCell ⟨w2.heap.size + 1, 0, none⟩ (.bool b3)).setCell ⟨w2.heap.size + 1, 1, none⟩ (.slice A3 r3.length c3)).alloc (qObj (.bool b2) (.slice A2 r2.length c2) (.bool b3) (.slice A3 r3.length c3))).heap[w3.heap.size]? = some (qObj (.bool b2) (.slice A2 r2.length c2) (.bool b3) (.slice A3 r3.length c3))) from by have h := blk_new ((w3.setCell ⟨w2.heap.size + 1, 0, none⟩ (.bool b3)).setCell ⟨w2.heap.size + 1, 1, none⟩ (.slice A3 r3.length c3)) (qObj (.bool b2) (.slice A2 r2.length c2) (.bool b3) (.slice A3 r3.length c3)); simp only [World.size_setCell] at h; exact h); have hq := QV.alloc (QV.two H2 H3 hu2 hb22 hb3 hu3) (qObj (.bool b2) (.slice A2 r2.length c2) (.bool b3) (.slice A3 r3.length c3)); have hz := ZV.alloc (ZV.two H3 hu3) (qObj (.bool b2) (.slice A2 r2.length c2) (.bool b3) (.slice A3 r3.length c3)); have hBQ := below_alloc ((hB3.setCell (p := ⟨w2.heap.size + 1, 0, none⟩) (geFirst hs2) (.bool b3)).setCell (p := ⟨w2.heap.size + 1, 1, none⟩) (geFirst hs2) (.slice A3 r3.length c3)) (qObj (.bool b2) (.slice A2 r2.length c2) (.bool b3) (.slice A3 r3.length c3)); have hx0 := blk_cell q0 0; have hx1 := blk_cell q0 1; have hx2 := blk_cell q0 2; have hx3 := blk_cell q0 3; have hxf0 := blk_frozen q0 0; have hxf1 := blk_frozen q0 1; have hxf2 := blk_frozen q0 2; have hxf3 := blk_frozen q0 3; have hy0 := blk_cell qx 0; have hy1 := blk_cell qx 1; have hy2 := blk_cell qx 2; have hy3 := blk_cell qx 3; have hyf0 := blk_frozen qx 0; have hyf1 := blk_frozen qx 1; have hyf2 := blk_frozen qx 2; have hyf3 := blk_frozen qx 3; have hf0 := blk_cell qd 0; have hf1 := blk_cell qd 1; have hff0 := blk_frozen qd 0; have hff1 := blk_frozen qd 1))
          refine bodyPost_ret (results_list (rs := [.cell 2 78, .tmp 3]) rfl (by simp) (.cell w.heap.size 78 nilQ (0, 0) _ rfl (blk_set (blk_set (blk_set (blk_set q0 0 _) 1 _) 2 _) 3 _) Try.underlying78 rfl (by kernel_rfl) (.tmp .nil))) rfl ?_
          exact HE.out _ _ HX.out (setQ (hBQ) (Nat.le_refl _) _ _ _ _)
end Ar
end Go.Proofs.Ytnghcgmkncbnnaa
end
section
namespace Go.Proofs.Ytnghcgmkncbnnaa
open Go.RowKit Go.Proofs.YtnghcgmkncbnnaaW.PrintWords Go.Proofs.YtnghcgmkncbnnaaW.PrintLast Go.Proofs.YtnghcgmkncbnnaaW.PrintMore
namespace Ar
open Wd
def isSep (b : Int) : Bool := (b == 32) || (b == 10)
def isLet (b : Int) : Bool := decide (97 ≤ b) && decide (b ≤ 122)
def isDig (b : Int) : Bool := (decide (48 ≤ b) && decide (b ≤ 57)) || (b == 45) || (b == 47)
def CL (f : Nat) (p : Int → Bool) : Prop := ∀ (w : World) (b : Int), Calls Try.prog f #[.int .u8 b] w fun e w' => e = .returned (.bool (p b)) ∧ w' = w
abbrev fnV (f : Nat) : Value := .func (.func f) #[] #[]
set_option maxRecDepth 100000 in
set_option maxHeartbeats 4000000 in
theorem sep1_c : CL 66 isSep := by
  intro w b
  unfold isSep
  cases h : (b == 32) with
  | true =>
    go_enter Try.func66, Try.ntmps66
    go_wp2
    go_ret
    exact ⟨rfl, rfl⟩
  | false =>
    go_enter Try.func66, Try.ntmps66
    go_wp2
    go_ret
    exact ⟨rfl, rfl⟩
set_option maxRecDepth 100000 in
set_option maxHeartbeats 4000000 in
theorem let1_c : CL 67 isLet := by
  intro w b
  unfold isLet
  cases h : decide (97 ≤ b) with
  | true =>
    go_enter Try.func67, Try.ntmps67
    go_wp2
    go_ret
    exact ⟨rfl, rfl⟩
  | false =>
    go_enter Try.func67, Try.ntmps67
    go_wp2
    go_ret
    exact ⟨rfl, rfl⟩
set_option maxRecDepth 100000 in
set_option maxHeartbeats 4000000 in
theorem dig1_c : CL 68 isDig := by
  intro w b
  unfold isDig
  cases h : decide (48 ≤ b) <;> cases h2 : decide (b ≤ 57) <;> cases h3 : (b == 45)
  all_goals
    go_enter Try.func68, Try.ntmps68
    go_wp2
    go_ret
    exact ⟨rfl, rfl⟩
def ClsMade (f g : Nat) : Prop := ∀ (w : World), Calls Try.prog g #[] w fun e w' => e = .returned (.agg #[fnV f]) ∧ Below w.heap.size w w'
set_option maxRecDepth 100000 in
set_option maxHeartbeats 4000000 in
theorem letters_c : ClsMade 67 55 := by
  intro w
  have hT := Try.underlying111
  go_enter Try.func55, Try.ntmps55
  go_wp2
  exact bodyPost_ret (results_cell_row rfl _ _ w.heap.size 111 #[fnV 67] (0, 0) _ rfl (blk_new w _) hT rfl (by kernel_rfl)) rfl ⟨rfl, below_alloc (Below.refl _ w) _⟩
set_option maxRecDepth 100000 in
set_option maxHeartbeats 4000000 in
theorem separators_c : ClsMade 66 54 := by
  intro w
  have hT := Try.underlying111
  go_enter Try.func54, Try.ntmps54
  go_wp2
  exact bodyPost_ret (results_cell_row rfl _ _ w.heap.size 111 #[fnV 66] (0, 0) _ rfl (blk_new w _) hT rfl (by kernel_rfl)) rfl ⟨rfl, below_alloc (Below.refl _ w) _⟩
set_option maxRecDepth 100000 in
set_option maxHeartbeats 4000000 in
theorem digits_c : ClsMade 68 56 := by
  intro w
  have hT := Try.underlying111
  go_enter Try.func56, Try.ntmps56
  go_wp2
  exact bodyPost_ret (results_cell_row rfl _ _ w.heap.size 111 #[fnV 68] (0, 0) _ rfl (blk_new w _) hT rfl (by kernel_rfl)) rfl ⟨rfl, below_alloc (Below.refl _ w) _⟩
end Ar
end Go.Proofs.Ytnghcgmkncbnnaa
end
section
namespace Go.Proofs.Ytnghcgmkncbnnaa
open Go.RowKit Go.Proofs.YtnghcgmkncbnnaaW.PrintWords Go.Proofs.YtnghcgmkncbnnaaW.PrintLast Go.Proofs.YtnghcgmkncbnnaaW.PrintMore
namespace Ar
open Wd
def skF : Nat → ByteArray → (Int → Bool) → Nat → Nat
  | 0, _, _, k => k
  | f + 1, s, p, k => if p (bt s k) = true then skF f s p (k + 1) else k
def sk (s : ByteArray) (p : Int → Bool) (k : Nat) : Nat := skF (s.size - k) s p k
theorem sk_end (s : ByteArray) (p : Int → Bool) : sk s p s.size = s.size := by unfold sk; rw [Nat.sub_self]; rfl
theorem sk_in {s : ByteArray} {p : Int → Bool} {k : Nat} (h : k < s.size) (hp : p (bt s k) = true) : sk s p k = sk s p (k + 1) := by
  unfold sk; rw [show s.size - k = (s.size - (k + 1)) + 1 by omega, skF, if_pos hp]
theorem sk_out {s : ByteArray} {p : Int → Bool} {k : Nat} (h : k < s.size) (hp : p (bt s k) = false) : sk s p k = k := by
  unfold sk; rw [show s.size - k = (s.size - (k + 1)) + 1 by omega, skF, if_neg (by rw [hp]; decide)]
theorem or_first {p q : Int → Bool} {b : Int} (h : p b = true) : (p b || q b) = true := by rw [h]; rfl
set_option maxRecDepth 100000 in
set_option maxHeartbeats 8000000 in
theorem skipSep_c {w : World} (s : ByteArray) (hs : s.size < 1048576) (g k0 : Nat) (hk0 : k0 ≤ s.size) (kc : w.heap[g]? = some (.cells #[fnV 66] 111)) :
    Calls Try.prog 53 #[.string s, .int .i64 k0, .slice (some ⟨g, 0, none⟩) 1 1] w fun e w' => e = .returned (.int .i64 (sk s isSep k0 : Nat)) ∧ Below w.heap.size w w' := by
  have hT := Try.underlying111
  go_enter Try.func53, Try.ntmps53
  go_wp2; go_step3; go_wp2; go_step3; go_wp2
  go_loopg [1] (s.size - k0) (fun n v w' => ∃ k : Nat, v = .int .i64 k ∧ k + n = s.size ∧ sk s isSep k = sk s isSep k0 ∧ Below w.heap.size w w')
  case atStart => exact ⟨k0, rfl, by omega, rfl, Below.refl _ _⟩
  case round =>
    obtain ⟨k, rfl, hk, hsk, hB⟩ := hrel
    have kc' := (hB.block g (blk_lt kc)).trans kc
    have hc0 := blk_cell kc' 0
    cases gk with
    | zero =>
      have hk' : k = s.size := by omega
      subst hk'
      go_wp2
      rw [Exit.noGoto_ret]
      go_ret
      exact ⟨by rw [← hsk, sk_end]; rfl, hB⟩
    | succ n =>
      have hlt : k < s.size := by omega
      have hb : ((s[k]'hlt).toNat : Int) = bt s k := bt_at s k hlt
      have Hsk := Lib.hid hsk
      clear hsk
      go_wp2
      go_loopg [17] 1 (fun m v W => ∃ j : Nat, v = .int .i64 j ∧ j + m = 1 ∧ Hid (j = 1 → isSep (bt s k) = false) ∧ Below w.heap.size w W)
      case atStart => exact ⟨0, rfl, rfl, fun h => absurd h (by decide), hB⟩
      case round =>
        obtain ⟨j, rfl, hj, Hj, hB2⟩ := hrel
        have kc2 := (hB2.block g (blk_lt kc)).trans kc
        have hc20 := blk_cell kc2 0
        skip
        cases gk with
        | zero =>
          obtain rfl : j = 1 := by omega
          have hout : isSep (bt s k) = false := Hj.out rfl
          go_wp2
          go_ret
          exact ⟨by rw [← Hsk.out, sk_out (p := isSep) hlt hout]; rfl, hB2⟩
        | succ m =>
          obtain rfl : j = 0 := by omega
          obtain rfl : m = 0 := by omega
          have kb := blk_new wr (.cells #[fnV 66] 111)
          have hb0 := blk_cell kb 0
          have hB3 := below_alloc hB2 (.cells #[fnV 66] 111)
          skip
          go_wp2
          cases hp : isSep (bt s k) with
          | true =>
            go_region_held3 (fun w' => w'.cell? ⟨wr.heap.size, 0, none⟩ = some (fnV 66)) (first | exact hb0 | exact blk_cell kb 0) (first | (go_at_call 66; refine (sep1_c _ _).mono ?_; rw [hp]; rintro e w1 ⟨rfl, rfl⟩))
            go_wp2
            go_roundg n
            case measure => omega
            case rel => exact ⟨k + 1, rfl, by omega, by rw [← Hsk.out, sk_in (p := isSep) hlt hp], hB3.drew⟩
          | false =>
            go_region_held3 (fun w' => w'.cell? ⟨wr.heap.size, 0, none⟩ = some (fnV 66)) (first | exact hb0 | exact blk_cell kb 0) (first | (go_at_call 66; refine (sep1_c _ _).mono ?_; rw [hp]; rintro e w1 ⟨rfl, rfl⟩))
            go_wp2
            go_roundg 0
            case measure => omega
            case rel => exact ⟨0 + 1, rfl, rfl, fun _ => hp, hB3.drew⟩
set_option maxRecDepth 100000 in
set_option maxHeartbeats 8000000 in
theorem skipLet_c {w : World} (s : ByteArray) (hs : s.size < 1048576) (g k0 : Nat) (hk0 : k0 ≤ s.size) (kc : w.heap[g]? = some (.cells #[fnV 67] 111)) :
    Calls Try.prog 53 #[.string s, .int .i64 k0, .slice (some ⟨g, 0, none⟩) 1 1] w fun e w' => e = .returned (.int .i64 (sk s isLet k0 : Nat)) ∧ Below w.heap.size w w' := by
  have hT := Try.underlying111
  go_enter Try.func53, Try.ntmps53
  go_wp2; go_step3; go_wp2; go_step3; go_wp2
  go_loopg [1] (s.size - k0) (fun n v w' => ∃ k : Nat, v = .int .i64 k ∧ k + n = s.size ∧ sk s isLet k = sk s isLet k0 ∧ Below w.heap.size w w')
  case atStart => exact ⟨k0, rfl, by omega, rfl, Below.refl _ _⟩
  case round =>
    obtain ⟨k, rfl, hk, hsk, hB⟩ := hrel
    have kc' := (hB.block g (blk_lt kc)).trans kc
    have hc0 := blk_cell kc' 0
    cases gk with
    | zero =>
      have hk' : k = s.size := by omega
      subst hk'
      go_wp2
      rw [Exit.noGoto_ret]
      go_ret
      exact ⟨by rw [← hsk, sk_end]; rfl, hB⟩
    | succ n =>
      have hlt : k < s.size := by omega
      have hb : ((s[k]'hlt).toNat : Int) = bt s k := bt_at s k hlt
      have Hsk := Lib.hid hsk
      clear hsk
      go_wp2
      go_loopg [17] 1 (fun m v W => ∃ j : Nat, v = .int .i64 j ∧ j + m = 1 ∧ Hid (j = 1 → isLet (bt s k) = false) ∧ Below w.heap.size w W)
      case atStart => exact ⟨0, rfl, rfl, fun h => absurd h (by decide), hB⟩
      case round =>
        obtain ⟨j, rfl, hj, Hj, hB2⟩ := hrel
        have kc2 := (hB2.block g (blk_lt kc)).trans kc
        have hc20 := blk_cell kc2 0
        skip
        cases gk with
        | zero =>
          obtain rfl : j = 1 := by omega
          have hout : isLet (bt s k) = false := Hj.out rfl
          go_wp2
          go_ret
          exact ⟨by rw [← Hsk.out, sk_out (p := isLet) hlt hout]; rfl, hB2⟩
        | succ m =>
          obtain rfl : j = 0 := by omega
          obtain rfl : m = 0 := by omega
          have kb := blk_new wr (.cells #[fnV 67] 111)
          have hb0 := blk_cell kb 0
          have hB3 := below_alloc hB2 (.cells #[fnV 67] 111)
          skip
          go_wp2
          cases hp : isLet (bt s k) with
          | true =>
            go_region_held3 (fun w' => w'.cell? ⟨wr.heap.size, 0, none⟩ = some (fnV 67)) (first | exact hb0 | exact blk_cell kb 0) (first | (go_at_call 67; refine (let1_c _ _).mono ?_; rw [hp]; rintro e w1 ⟨rfl, rfl⟩))
            go_wp2
            go_roundg n
            case measure => omega
            case rel => exact ⟨k + 1, rfl, by omega, by rw [← Hsk.out, sk_in (p := isLet) hlt hp], hB3.drew⟩
          | false =>
            go_region_held3 (fun w' => w'.cell? ⟨wr.heap.size, 0, none⟩ = some (fnV 67)) (first | exact hb0 | exact blk_cell kb 0) (first | (go_at_call 67; refine (let1_c _ _).mono ?_; rw [hp]; rintro e w1 ⟨rfl, rfl⟩))
            go_wp2
            go_roundg 0
            case measure => omega
            case rel => exact ⟨0 + 1, rfl, rfl, fun _ => hp, hB3.drew⟩
set_option maxRecDepth 100000 in
set_option maxHeartbeats 8000000 in
theorem skipDig_c {w : World} (s : ByteArray) (hs : s.size < 1048576) (g k0 : Nat) (hk0 : k0 ≤ s.size) (kc : w.heap[g]? = some (.cells #[fnV 68] 111)) :
    Calls Try.prog 53 #[.string s, .int .i64 k0, .slice (some ⟨g, 0, none⟩) 1 1] w fun e w' => e = .returned (.int .i64 (sk s isDig k0 : Nat)) ∧ Below w.heap.size w w' := by
  have hT := Try.underlying111
  go_enter Try.func53, Try.ntmps53
  go_wp2; go_step3; go_wp2; go_step3; go_wp2
  go_loopg [1] (s.size - k0) (fun n v w' => ∃ k : Nat, v = .int .i64 k ∧ k + n = s.size ∧ sk s isDig k = sk s isDig k0 ∧ Below w.heap.size w w')
  case atStart => exact ⟨k0, rfl, by omega, rfl, Below.refl _ _⟩
  case round =>
    obtain ⟨k, rfl, hk, hsk, hB⟩ := hrel
    have kc' := (hB.block g (blk_lt kc)).trans kc
    have hc0 := blk_cell kc' 0
    cases gk with
    | zero =>
      have hk' : k = s.size := by omega
      subst hk'
      go_wp2
      rw [Exit.noGoto_ret]
      go_ret
      exact ⟨by rw [← hsk, sk_end]; rfl, hB⟩
    | succ n =>
      have hlt : k < s.size := by omega
      have hb : ((s[k]'hlt).toNat : Int) = bt s k := bt_at s k hlt
      have Hsk := Lib.hid hsk
      clear hsk
      go_wp2
      go_loopg [17] 1 (fun m v W => ∃ j : Nat, v = .int .i64 j ∧ j + m = 1 ∧ Hid (j = 1 → isDig (bt s k) = false) ∧ Below w.heap.size w W)
      case atStart => exact ⟨0, rfl, rfl, fun h => absurd h (by decide), hB⟩
      case round =>
        obtain ⟨j, rfl, hj, Hj, hB2⟩ := hrel
        have kc2 := (hB2.block g (blk_lt kc)).trans kc
        have hc20 := blk_cell kc2 0
        skip
        cases gk with
        | zero =>
          obtain rfl : j = 1 := by omega
          have hout : isDig (bt s k) = false := Hj.out rfl
          go_wp2
          go_ret
          exact ⟨by rw [← Hsk.out, sk_out (p := isDig) hlt hout]; rfl, hB2⟩
        | succ m =>
          obtain rfl : j = 0 := by omega
          obtain rfl : m = 0 := by omega
          have kb := blk_new wr (.cells #[fnV 68] 111)
          have hb0 := blk_cell kb 0
          have hB3 := below_alloc hB2 (.cells #[fnV 68] 111)
          skip
          go_wp2
          cases hp : isDig (bt s k) with
          | true =>
            go_region_held3 (fun w' => w'.cell? ⟨wr.heap.size, 0, none⟩ = some (fnV 68)) (first | exact hb0 | exact blk_cell kb 0) (first | (go_at_call 68; refine (dig1_c _ _).mono ?_; rw [hp]; rintro e w1 ⟨rfl, rfl⟩))
            go_wp2
            go_roundg n
            case measure => omega
            case rel => exact ⟨k + 1, rfl, by omega, by rw [← Hsk.out, sk_in (p := isDig) hlt hp], hB3.drew⟩
          | false =>
            go_region_held3 (fun w' => w'.cell? ⟨wr.heap.size, 0, none⟩ = some (fnV 68)) (first | exact hb0 | exact blk_cell kb 0) (first | (go_at_call 68; refine (dig1_c _ _).mono ?_; rw [hp]; rintro e w1 ⟨rfl, rfl⟩))
            go_wp2
            go_roundg 0
            case measure => omega
            case rel => exact ⟨0 + 1, rfl, rfl, fun _ => hp, hB3.drew⟩
set_option maxRecDepth 100000 in
set_option maxHeartbeats 8000000 in
theorem skipRun_c {w : World} (s : ByteArray) (hs : s.size < 1048576) (g k0 : Nat) (hk0 : k0 ≤ s.size) (kc : w.heap[g]? = some (.cells #[fnV 67, fnV 68] 111)) :
    Calls Try.prog 53 #[.string s, .int .i64 k0, .slice (some ⟨g, 0, none⟩) 2 2] w fun e w' => e = .returned (.int .i64 (sk s (fun b => isLet b || isDig b) k0 : Nat)) ∧ Below w.heap.size w w' := by
  have hT := Try.underlying111
  go_enter Try.func53, Try.ntmps53
  go_wp2; go_step3; go_wp2; go_step3; go_wp2
  go_loopg [1] (s.size - k0) (fun n v w' => ∃ k : Nat, v = .int .i64 k ∧ k + n = s.size ∧ sk s (fun b => isLet b || isDig b) k = sk s (fun b => isLet b || isDig b) k0 ∧ Below w.heap.size w w')
  case atStart => exact ⟨k0, rfl, by omega, rfl, Below.refl _ _⟩
  case round =>
    obtain ⟨k, rfl, hk, hsk, hB⟩ := hrel
    have kc' := (hB.block g (blk_lt kc)).trans kc
    have hc0 := blk_cell kc' 0
    cases gk with
    | zero =>
      have hk' : k = s.size := by omega
      subst hk'
      go_wp2
      rw [Exit.noGoto_ret]
      go_ret
      exact ⟨by rw [← hsk, sk_end]; rfl, hB⟩
    | succ n =>
      have hlt : k < s.size := by omega
      have hb : ((s[k]'hlt).toNat : Int) = bt s k := bt_at s k hlt
      have Hsk := Lib.hid hsk
      clear hsk
      go_wp2
      go_loopg [17] 2 (fun m v W => ∃ j : Nat, v = .int .i64 j ∧ j + m = 2 ∧ Hid ((j = 1 → isLet (bt s k) = false) ∧ (j = 2 → (isLet (bt s k) || isDig (bt s k)) = false)) ∧ Below w.heap.size w W)
      case atStart => exact ⟨0, rfl, rfl, ⟨fun h => absurd h (by decide), fun h => absurd h (by decide)⟩, hB⟩
      case round =>
        obtain ⟨j, rfl, hj, Hj, hB2⟩ := hrel
        have kc2 := (hB2.block g (blk_lt kc)).trans kc
        have hc20 := blk_cell kc2 0
        have hc21 := blk_cell kc2 1
        cases gk with
        | zero =>
          obtain rfl : j = 2 := by omega
          have hout : (isLet (bt s k) || isDig (bt s k)) = false := Hj.out.2 rfl
          go_wp2
          go_ret
          exact ⟨by rw [← Hsk.out, sk_out (p := (fun b => isLet b || isDig b)) hlt hout]; rfl, hB2⟩
        | succ m =>
          rcases Nat.lt_or_ge 0 m with h0 | h0
          · obtain rfl : j = 0 := by omega
            obtain rfl : m = 1 := by omega
            have kb := blk_new wr (.cells #[fnV 67] 111)
            have hb0 := blk_cell kb 0
            have hB3 := below_alloc hB2 (.cells #[fnV 67] 111)
            skip
            go_wp2
            cases hp : isLet (bt s k) with
            | true =>
              go_region_held3 (fun w' => w'.cell? ⟨wr.heap.size, 0, none⟩ = some (fnV 67)) (first | exact hb0 | exact blk_cell kb 0) (first | (go_at_call 67; refine (let1_c _ _).mono ?_; rw [hp]; rintro e w1 ⟨rfl, rfl⟩))
              go_wp2
              go_roundg n
              case measure => omega
              case rel => exact ⟨k + 1, rfl, by omega, by rw [← Hsk.out, sk_in (p := (fun b => isLet b || isDig b)) hlt (or_first hp)], hB3.drew⟩
            | false =>
              go_region_held3 (fun w' => w'.cell? ⟨wr.heap.size, 0, none⟩ = some (fnV 67)) (first | exact hb0 | exact blk_cell kb 0) (first | (go_at_call 67; refine (let1_c _ _).mono ?_; rw [hp]; rintro e w1 ⟨rfl, rfl⟩))
              go_wp2
              go_roundg 1
              case measure => omega
              case rel => exact ⟨0 + 1, rfl, rfl, ⟨fun _ => hp, fun h => absurd h (by decide)⟩, hB3.drew⟩
          · obtain rfl : j = 1 := by omega
            obtain rfl : m = 0 := by omega
            have kb := blk_new wr (.cells #[fnV 68] 111)
            have hb0 := blk_cell kb 0
            have hB3 := below_alloc hB2 (.cells #[fnV 68] 111)
            have hprev := Hj.out.1 rfl
            go_wp2
            cases hp : isDig (bt s k) with
            | true =>
              go_region_held3 (fun w' => w'.cell? ⟨wr.heap.size, 0, none⟩ = some (fnV 68)) (first | exact hb0 | exact blk_cell kb 0) (first | (go_at_call 68; refine (dig1_c _ _).mono ?_; rw [hp]; rintro e w1 ⟨rfl, rfl⟩))
              go_wp2
              go_roundg n
              case measure => omega
              case rel => exact ⟨k + 1, rfl, by omega, by rw [← Hsk.out, sk_in (p := (fun b => isLet b || isDig b)) hlt (by simp only [hprev, hp, Bool.or_true])], hB3.drew⟩
            | false =>
              go_region_held3 (fun w' => w'.cell? ⟨wr.heap.size, 0, none⟩ = some (fnV 68)) (first | exact hb0 | exact blk_cell kb 0) (first | (go_at_call 68; refine (dig1_c _ _).mono ?_; rw [hp]; rintro e w1 ⟨rfl, rfl⟩))
              go_wp2
              go_roundg 0
              case measure => omega
              case rel => exact ⟨1 + 1, rfl, rfl, ⟨fun h => absurd h (by decide), fun _ => by rw [hprev, hp]; rfl⟩, hB3.drew⟩
end Ar
end Go.Proofs.Ytnghcgmkncbnnaa
end
