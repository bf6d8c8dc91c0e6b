/- Part 7 of the proof: The iterator 'pairs' over the words of two magnitudes, and the closures of 'carrier', as the model runs them. whole.Int64 as the model runs it. Magnitudes as lists of words (base 2^32, least significant first), in plain Lean: their numbers, canonical digits, and what carrying comes to. -/
import Derived.Laws.EntriesVeiled
import Derived.Lib.Hide
import Derived.LoopIn
import Derived.LoopNIn
import Derived.Maps.AppendAt
import Derived.OwnWalkIn
import Derived.RangeFuncBound
import Derived.RangeFuncBox
import Derived.RangeFuncCalls
import Derived.RangeFuncLeaves
import Derived.RangeFuncNested
import Derived.Shelf.Abstract
import Derived.Shelf.RegionOpen
import Derived.TacticsInMore
import Derived.Test.YtnghcgmkncbnnaaProg
import Derived.WalkKit
import Derived.Test.YtnghcgmkncbnnaaMx2
set_option linter.unusedVariables false
set_option linter.unusedSimpArgs false
section
namespace Go.Proofs.Ytnghcgmkncbnnaa
open Go.RowKit Go.Shelf
attribute [local go_sem] Oper.semAt_some
namespace Rf
def upto {α : Type} (f : Nat → α) (k : Nat) : List α := (List.range k).map f
theorem upto_succ {α : Type} (f : Nat → α) (k : Nat) : upto f (k + 1) = upto f k ++ [f k] := by simp [upto, List.range_succ]
theorem upto_length {α : Type} (f : Nat → α) (k : Nat) : (upto f k).length = k := by simp [upto]
structure KeepS (S : Nat → Prop) (W W' : World) : Prop where mk ::
  block : ∀ k, S k → W'.heap[k]? = W.heap[k]?
theorem KeepS.refl (S : Nat → Prop) (W : World) : KeepS S W W := ⟨fun _ _ => rfl⟩
theorem KeepS.trans {S : Nat → Prop} {A B C : World} (h : KeepS S A B) (k : KeepS S B C) : KeepS S A C := ⟨fun i hi => (k.block i hi).trans (h.block i hi)⟩
theorem KeepS.cell {S : Nat → Prop} {W W' : World} (h : KeepS S W W') {p : Addr} (hp : S p.block) : W'.cell? p = W.cell? p := World.cell?_of_block (w := W) (h.block p.block hp)
theorem KeepS.below {S : Nat → Prop} {W W' : World} {n : Nat} (h : Below n W W') (hS : ∀ k, S k → k < n) : KeepS S W W' := ⟨fun k hk => h.block k (hS k hk)⟩
theorem keepS_b {S : Nat → Prop} {w : World} (hS : ∀ k, S k → k < w.heap.size) (W : World) (l : Nat) (o o' : Obj) (hl : w.heap.size ≤ l) (h : W.heap[l]? = some o) (_ : o.isCells = false) (_ : o.isWalk = false) : KeepS S W (W.putObj l o') :=
  ⟨fun k hk => (grownBy_putObj' W l o').block k (Nat.lt_trans (Nat.lt_of_lt_of_le (hS k hk) hl) (Array.getElem?_eq_some_iff.1 h).1 |> fun h' => h') (fun e => by cases e; exact absurd (hS _ hk) (by omega))⟩
def U32s (S : Nat → Prop) (W : World) (sv : Value) (zs : List Int) : Prop :=
  ∃ A c, sv = .slice A zs.length c ∧ zs.length ≤ c ∧ ∀ j, j < zs.length → ∃ ad, A = some ad ∧ S (ad.add j).block ∧ W.cell? (ad.add j) = some (.int .u32 (zs[j]?.getD 0))
theorem U32s.keep {S : Nat → Prop} {A B : World} (h : KeepS S A B) {sv : Value} {zs : List Int} : U32s S A sv zs → U32s S B sv zs
  | ⟨D, c, e, hl, hc⟩ => ⟨D, c, e, hl, fun j hj => let ⟨ad, e1, e3, e4⟩ := hc j hj; ⟨ad, e1, e3, (h.cell e3).trans e4⟩⟩
def Wrd (l : List Int) : Prop := ∀ j : Nat, 0 ≤ l[j]?.getD 0 ∧ l[j]?.getD 0 < 4294967296
abbrev W2 := { x : Int × Int // (0 ≤ x.1 ∧ x.1 < 4294967296) ∧ (0 ≤ x.2 ∧ x.2 < 4294967296) }
abbrev encs (x : W2) : Array Value := #[.int .u64 x.1.1, .int .u64 x.1.2]
def pr (la lb : List Int) (ha : Wrd la) (hb : Wrd lb) (j : Nat) : W2 := ⟨(la[j]?.getD 0, lb[j]?.getD 0), ha j, hb j⟩
def mx (la lb : List Int) : Nat := max la.length lb.length
theorem getD_len (l : List Int) (j : Nat) (h : l.length ≤ j) : l[j]?.getD 0 = 0 := by rw [List.getElem?_eq_none h]; rfl
theorem mx_right {la lb : List Int} {k : Nat} (h : k < mx la lb) (ha : ¬ k < la.length) : k < lb.length := by unfold mx at h; omega
set_option maxRecDepth 100000 in
set_option maxHeartbeats 2000000 in
theorem pairs1_in (F : Fence) (n : Nat) (h7 : F.fn 87) (hro : F.round = none) (hn : 1 ≤ n) (l Ba Bb : Nat) (S : Nat → Prop) (sva svb : Value) (la lb : List Int) (hLa : la.length < 281474976710656) (hLb : lb.length < 281474976710656) (hWa : Wrd la) (hWb : Wrd lb) (hba : S Ba) (hbb : S Bb) (J Jx : List W2 → World → Prop)
    (hY : ∀ pre x W, J pre W → pre.length < mx la lb → YieldAt F (n - 1) Try.prog l (encs x) W fun e W' =>
      (e = .returned (.bool true) ∧ J (pre ++ [x]) W' ∧ KeepS S W W') ∨ (e = .returned (.bool false) ∧ Jx (pre ++ [x]) W'))
    (W : World) (hca : W.cell? ⟨Ba, 0, none⟩ = some sva) (hcb : W.cell? ⟨Bb, 0, none⟩ = some svb) (hua : U32s S W sva la) (hub : U32s S W svb lb) (h0 : J [] W) :
    CallsIn F n Try.prog 87 #[.func (.yield l) #[] #[], .pointer (some ⟨Ba, 0, none⟩), .pointer (some ⟨Bb, 0, none⟩)] W fun e W' => (∃ v, e = .returned v) ∧
      ((∃ ys, ys = upto (pr la lb hWa hWb) (mx la lb) ∧ J ys W') ∨ (∃ pre, (∃ k, k ≤ mx la lb ∧ pre = upto (pr la lb hWa hWb) k) ∧ Jx pre W')) := by
  obtain ⟨Aa, ca, rfl, hla, hsa⟩ := hua
  obtain ⟨Ab, cb, rfl, hlb, hsb⟩ := hub
  refine callsIn_of_wp Try.func87 rfl h7 ?_ hro
  simp only [Try.ntmps87, List.size_toArray, List.length_cons, List.length_nil, Nat.reduceAdd, Nat.reduceSub, Array.replicate_succ, Array.replicate_zero, List.push_toArray, List.append_toArray, List.nil_append, List.cons_append]
  have hmx : ∀ w : World, (Builtin.max_ #[3, 3] 3 #[.int .i64 (la.length : Int), .int .i64 (lb.length : Int)]).run Try.prog w = .ok (.int .i64 (mx la lb : Nat)) w := by
    intro w
    have e : (if (la.length : Int) < lb.length then (lb.length : Int) else la.length) = (mx la lb : Nat) := by unfold mx; omega
    rw [← e]; by_cases h : (la.length : Int) < lb.length <;> simp [Builtin.max_, Builtin.max2, h, go_sem]
  gi_wp2
  clear hmx
  gi_loopw [12] (fun i wr => ∃ k : Nat, k ≤ mx la lb ∧ i = .int .i64 k ∧ J (upto (pr la lb hWa hWb) k) wr ∧ KeepS S W wr)
    (fun i _ => mx la lb - (intOf i).toNat)
  case atStart => exact ⟨0, Nat.zero_le _, rfl, h0, KeepS.refl _ _⟩
  case round =>
    obtain ⟨k, hk, rfl, hJs, hnx⟩ := hrel
    have hca' := (hnx.cell (p := ⟨Ba, 0, none⟩) hba).trans hca
    have hcb' := (hnx.cell (p := ⟨Bb, 0, none⟩) hbb).trans hcb
    have hmle : mx la lb < 281474976710656 := by unfold mx; omega
    by_cases hlt : k < mx la lb
    · have HR := hY _ (pr la lb hWa hWb k) wr hJs (by rw [upto_length]; exact hlt)
      obtain ⟨p, hp⟩ : ∃ p, pr la lb hWa hWb k = p := ⟨_, rfl⟩
      have hp1 : p.1.1 = la[k]?.getD 0 := by rw [← hp]; rfl
      have hp2 : p.1.2 = lb[k]?.getD 0 := by rw [← hp]; rfl
      have fin : ∀ (e : Ending) (W3 : World), ((e = .returned (.bool true) ∧ J (upto (pr la lb hWa hWb) k ++ [pr la lb hWa hWb k]) W3 ∧ KeepS S wr W3) ∨ (e = .returned (.bool false) ∧ Jx (upto (pr la lb hWa hWb) k ++ [pr la lb hWa hWb k]) W3)) → (e = .returned (.bool true) ∧ J (upto (pr la lb hWa hWb) (k + 1)) W3 ∧ KeepS S W W3) ∨ (e = .returned (.bool false) ∧ Jx (upto (pr la lb hWa hWb) (k + 1)) W3) := by
        intro e W3 h
        rw [upto_succ]
        exact h.imp (fun h => ⟨h.1, h.2.1, hnx.trans h.2.2⟩) (fun h => h)
      have haz := getD_len la k
      have hbz := getD_len lb k
      have hsa' := hsa k
      have hsb' := hsb k
      rw [hp] at HR fin
      rw [← hp1] at hsa' haz
      rw [← hp2] at hsb' hbz
      clear hsa hsb hp hp1 hp2
      have HF := Lib.hid fin
      clear fin
      obtain ⟨⟨xa, xb⟩, ⟨wa1, wa2⟩, ⟨wb1, wb2⟩⟩ := p
      dsimp only at hsa' hsb' haz hbz wa1 wa2 wb1 wb2
      have wwa : IntKind.u64.wrap xa = xa := IntWalk.u64_in _ (by omega)
      have wwb : IntKind.u64.wrap xb = xb := IntWalk.u64_in _ (by omega)
      by_cases ha : k < la.length
      · by_cases hb : k < lb.length
        · obtain ⟨ada, rfl, ab2, ac⟩ := hsa' ha
          have ac' := (hnx.cell ab2).trans ac
          obtain ⟨adb, rfl, bb2, bc⟩ := hsb' hb
          have bc' := (hnx.cell bb2).trans bc
          obtain ⟨fn, tmps, assign, body, hy, hR⟩ := HR
          dsimp only [encs] at hy
          gi_wp2
          refine hR.mono ?_
          intro e W3 h3
          rcases HF.out e W3 h3 with ⟨rfl, hJ3, hk3⟩ | ⟨rfl, hJx3⟩
          · gi_wp2
            go_roundw
            case rel => exact ⟨k + 1, by omega, by simp, hJ3, hk3⟩
            case measure => simp [intOf]; omega
          · gi_wp2
            refine bodyPost_ret (results_none rfl _ _ _) rfl ?_
            exact ⟨⟨_, rfl⟩, .inr ⟨_, ⟨k + 1, by omega, rfl⟩, hJx3⟩⟩
        · obtain rfl := hbz (by omega)
          obtain ⟨ada, rfl, ab2, ac⟩ := hsa' ha
          have ac' := (hnx.cell ab2).trans ac
          obtain ⟨fn, tmps, assign, body, hy, hR⟩ := HR
          dsimp only [encs] at hy
          gi_wp2
          refine hR.mono ?_
          intro e W3 h3
          rcases HF.out e W3 h3 with ⟨rfl, hJ3, hk3⟩ | ⟨rfl, hJx3⟩
          · gi_wp2
            go_roundw
            case rel => exact ⟨k + 1, by omega, by simp, hJ3, hk3⟩
            case measure => simp [intOf]; omega
          · gi_wp2
            refine bodyPost_ret (results_none rfl _ _ _) rfl ?_
            exact ⟨⟨_, rfl⟩, .inr ⟨_, ⟨k + 1, by omega, rfl⟩, hJx3⟩⟩
      · obtain rfl := haz (by omega)
        have hb : k < lb.length := mx_right hlt ha
        obtain ⟨adb, rfl, bb2, bc⟩ := hsb' hb
        have bc' := (hnx.cell bb2).trans bc
        obtain ⟨fn, tmps, assign, body, hy, hR⟩ := HR
        dsimp only [encs] at hy
        gi_wp2
        refine hR.mono ?_
        intro e W3 h3
        rcases HF.out e W3 h3 with ⟨rfl, hJ3, hk3⟩ | ⟨rfl, hJx3⟩
        · gi_wp2
          go_roundw
          case rel => exact ⟨k + 1, by omega, by simp, hJ3, hk3⟩
          case measure => simp [intOf]; omega
        · gi_wp2
          refine bodyPost_ret (results_none rfl _ _ _) rfl ?_
          exact ⟨⟨_, rfl⟩, .inr ⟨_, ⟨k + 1, by omega, rfl⟩, hJx3⟩⟩
    · obtain rfl : k = mx la lb := by omega
      gi_wp2
      go_end0
      exact ⟨⟨_, rfl⟩, .inl ⟨_, rfl, hJs⟩⟩
set_option maxHeartbeats 1000000 in
theorem pairs_in (F : Fence) (n : Nat) (h5 : F.fn 77) (hro : F.round = none) (sva svb : Value) (w : World) (h1 : sva.oneCell' = true) (h2 : svb.oneCell' = true) :
    CallsIn F n Try.prog 77 #[sva, svb] w fun e w' => e = .returned (.func (.func 87) #[] #[.pointer (some ⟨w.heap.size, 0, none⟩), .pointer (some ⟨w.heap.size + 1, 0, none⟩)]) ∧ w' = (w.alloc (.cells #[sva] 74)).alloc (.cells #[svb] 74) := by
  refine callsIn_of_wp Try.func77 rfl h5 ?_ hro
  simp only [Try.ntmps77, List.size_toArray, List.length_cons, List.length_nil, Nat.reduceAdd, Nat.reduceSub, Array.replicate_succ, Array.replicate_zero, List.push_toArray, List.append_toArray, List.nil_append, List.cons_append]
  gi_wp2
  go_ret
  exact ⟨rfl, rfl⟩
theorem pairs_stops (F : Fence) (n : Nat) (h7 : F.fn 87) (hro : F.round = none) (hn : 1 ≤ n) (Ba Bb : Nat) (S : Nat → Prop) (sva svb : Value) (la lb : List Int) (hLa : la.length < 281474976710656) (hLb : lb.length < 281474976710656) (hWa : Wrd la) (hWb : Wrd lb) (w : World) (hba : Ba < w.heap.size) (hbb : Bb < w.heap.size) (hS : ∀ k, S k → k < w.heap.size) (hba' : S Ba) (hbb' : S Bb)
    (hca : w.cell? ⟨Ba, 0, none⟩ = some sva) (hcb : w.cell? ⟨Bb, 0, none⟩ = some svb) (hua : U32s S w sva la) (hub : U32s S w svb lb) :
    SeqStopsK F n Try.prog 87 #[.pointer (some ⟨Ba, 0, none⟩), .pointer (some ⟨Bb, 0, none⟩)] encs (KeepS S) (fun ys => ys = upto (pr la lb hWa hWb) (mx la lb)) (fun pre => ∃ k, k ≤ mx la lb ∧ pre = upto (pr la lb hWa hWb) k) (mx la lb) w := fun l J Jx W hW _ _ hY h0 =>
  pairs1_in F n h7 hro hn l Ba Bb S sva svb la lb hLa hLb hWa hWb hba' hbb' J Jx hY W ((hW.cell (p := ⟨Ba, 0, none⟩) hba).trans hca) ((hW.cell (p := ⟨Bb, 0, none⟩) hbb).trans hcb) (hua.keep (KeepS.below hW hS)) (hub.keep (KeepS.below hW hS)) h0
theorem infoW : (Try.prog.info? 149).map (fun i => (i.zero, i.size, i.bytes)) = some (some (.int .u32 0), 1, 4) := by kernel_rfl
theorem below_append {W w1 : World} {n₀ k : Nat} {e : TypeId} {v : Value} {xs : List Value} (hrow : W.ownsRow n₀ e 1 v k xs) (hB : n₀ ≤ W.heap.size) (tmp : Obj) (hg : (W.alloc tmp).grownBy w1 v.ownBlock) : Below n₀ W w1 := by
  refine ((Below.refl n₀ W).alloc hB tmp).grown hg (by simp; omega) fun j ej => ?_
  rcases hrow.2 with ⟨rfl, _⟩ | ⟨g, cap, cur, rfl, hb, _, _⟩
  · simp [Value.ownBlock] at ej
  · obtain rfl : g = j := by simpa [Value.ownBlock] using ej
    exact hb
theorem keeps_append {W w1 : World} {n₀ k : Nat} {e : TypeId} {v : Value} {xs : List Value} (hrow : W.ownsRow n₀ e 1 v k xs) (tmp : Obj) (hg : (W.alloc tmp).grownBy w1 v.ownBlock) : KeepsOthers W w1 := by
  refine (KeepsOthers.alloc W tmp).trans (KeepsOthers.of_grownBy hg fun j o ej hj => ?_)
  rcases (hrow.alloc tmp).2 with ⟨rfl, _⟩ | ⟨g, cap, cur, rfl, _, hgb, _⟩
  · simp [Value.ownBlock] at ej
  · obtain rfl : g = j := by simpa [Value.ownBlock] using ej
    rw [hgb] at hj; cases hj; rfl
theorem wrap_u32 (n : Int) : IntKind.u32.wrap n = n % 4294967296 := by simp [IntKind.wrap, IntKind.bits, IntKind.signed]
def Car (n₀ No Nc : Nat) (W : World) (vs : List Int) (c : Int) : Prop :=
  (∃ v, Boxed W No 74 v ∧ W.ownsRow n₀ 149 1 v vs.length (vs.map (Value.int .u32)) ∧ True) ∧ Boxed W Nc 131 (.int .u64 c)
abbrev putV (No Nc : Nat) : Value := .func (.func 100) #[] #[.pointer (some ⟨Nc, 0, none⟩), .pointer (some ⟨No, 0, none⟩)]
abbrev allV (No Nc : Nat) : Value := .func (.func 101) #[] #[.pointer (some ⟨No, 0, none⟩), .pointer (some ⟨Nc, 0, none⟩)]
set_option maxHeartbeats 1000000 in
theorem carrier_in (F : Fence) (n : Nat) (h5 : F.fn 95) (hro : F.round = none) (w : World) :
    CallsIn F n Try.prog 95 #[] w fun e w' => e = .returned (.tuple #[putV w.heap.size (w.heap.size + 1), allV w.heap.size (w.heap.size + 1)]) ∧ w' = (w.alloc (.cells #[.slice none 0 0] 74)).alloc (.cells #[.int .u64 0] 131) := by
  refine callsIn_of_wp Try.func95 rfl h5 ?_ hro
  simp only [Try.ntmps95, List.size_toArray, List.length_cons, List.length_nil, Nat.reduceAdd, Nat.reduceSub, Array.replicate_succ, Array.replicate_zero, List.push_toArray, List.append_toArray, List.nil_append, List.cons_append]
  gi_wp2
  go_ret2
  exact ⟨rfl, rfl⟩
theorem car_new (n₀ : Nat) (w : World) (h : n₀ ≤ w.heap.size) : Car n₀ w.heap.size (w.heap.size + 1) ((w.alloc (.cells #[.slice none 0 0] 74)).alloc (.cells #[.int .u64 0] 131)) [] 0 := by
  refine ⟨⟨_, (Boxed.new w _ _).alloc _, World.ownsRow_nil _ _ _ _, trivial⟩, ?_⟩
  have h2 := Boxed.new (w.alloc (.cells #[.slice none 0 0] 74)) 131 (.int .u64 0)
  rwa [World.size_alloc] at h2
set_option maxRecDepth 100000 in
set_option maxHeartbeats 2000000 in
theorem put_in (F : Fence) (n : Nat) (h5 : F.fn 100) (hro : F.round = none) (n₀ No Nc : Nat) (hNo : n₀ ≤ No) (hNc : n₀ ≤ Nc) (hne : No ≠ Nc) (vs : List Int) (c x : Int) (hlen : vs.length < 281474976710656) (hbytes : (vs.length + 1) * 4 ≤ 140737488355328) (hc : 0 ≤ c) (hx : 0 ≤ x) (hs : x + c < 18446744073709551616) (W : World) (hB : n₀ ≤ W.heap.size) (hcar : Car n₀ No Nc W vs c) :
    CallsIn F n Try.prog 100 #[.int .u64 x, .pointer (some ⟨Nc, 0, none⟩), .pointer (some ⟨No, 0, none⟩)] W fun e W' => e = .returned (.tuple #[]) ∧ Car n₀ No Nc W' (vs ++ [(x + c) % 4294967296]) ((x + c) / 4294967296) ∧ KeepsOthers W W' ∧ Below n₀ W W' ∧ ∀ B t u, B ≠ No → B ≠ Nc → t ≠ 149 → Boxed W B t u → Boxed W' B t u := by
  obtain ⟨⟨v, hv, hrow, _⟩, hk⟩ := hcar
  obtain ⟨i0, hi, hz0, hz1, hz2⟩ := info_parts infoW
  refine callsIn_of_wp Try.func100 rfl h5 ?_ hro
  simp only [Try.ntmps100, List.size_toArray, List.length_cons, List.length_nil, Nat.reduceAdd, Nat.reduceSub, Array.replicate_succ, Array.replicate_zero, List.push_toArray, List.append_toArray, List.nil_append, List.cons_append]
  have hcv := hv.cell
  have hck := hk.cell
  have hfv := hv.frozen
  have hfk := hk.frozen
  have e1 : IntKind.u64.wrap (x + c) = x + c := IntWalk.u64_in _ (by omega)
  generalize hy : x + c = y at *
  gi_wp2_with (gi_at_builtin; refine wpListIn_append_own _ rfl _ _ 74 rfl n₀ 149 i0 (.int .u32 0) 1 4 Try.underlying74 hi hz0 hz1 hz2 rfl (by decide) _ _ _ rfl (hrow.alloc _) ⟨W.heap.size, 0, none⟩ 1 1 [.int .u32 (IntKind.u32.wrap y)] rfl rfl (cell_one_new _ _ _) (by simp [Value.oneCell']) (by unfold maxLen; omega) (by omega) (by simp; omega) ?_; intro v' w1 hown' hgrow _; obtain ⟨g', cap', rfl⟩ := ownsRow_succ hown'; obtain ⟨hv1, hv2, hr2, hk2, hb2⟩ := hv.appended (by decide) hrow hB hNo hown' hgrow; have hk1 := (hk.alloc _).kept hgrow (hk.not_row (by decide) hrow); have hc1 := hv1.cell; have hf1 := hv1.frozen; have hc2 := hk1.cell; have hf2 := hk1.frozen; have hc3 := (hk1.other (Ne.symm hne) (.slice (some ⟨g', 0, none⟩) (vs.length + 1) cap')).cell; have hf3 := (hk1.other (Ne.symm hne) (.slice (some ⟨g', 0, none⟩) (vs.length + 1) cap')).frozen)
  go_end0
  have hk3 := hk1.other (Ne.symm hne) (.slice (some ⟨g', 0, none⟩) (vs.length + 1) cap')
  refine ⟨rfl, ⟨⟨_, hv2.other hne _, ?_, trivial⟩, hk3.set _⟩, hk2.trans (KeepsOthers.setCell _ _ _), hb2.setCell (p := ⟨Nc, 0, none⟩) hNc _, fun B t u hBo hBc ht hb => ?_⟩
  · have hr3 := hr2.kept (grownBy_setCell' _ Nc (.int .u64 (y / 4294967296))) (.inr (hk3.not_row (by decide) hr2).symm)
    rw [wrap_u32] at hr3
    simpa using hr3
  · exact (((hb.alloc _).kept hgrow (hb.not_row ht hrow)).other hBo _).other hBc _
set_option maxRecDepth 100000 in
set_option maxHeartbeats 2000000 in
theorem all_in (F : Fence) (n : Nat) (h5 : F.fn 101) (hro : F.round = none) (n₀ No Nc : Nat) (vs : List Int) (c : Int) (hlen : vs.length < 281474976710656) (hbytes : (vs.length + 1) * 4 ≤ 140737488355328) (W : World) (hB : n₀ ≤ W.heap.size) (hcar : Car n₀ No Nc W vs c) :
    CallsIn F n Try.prog 101 #[.pointer (some ⟨No, 0, none⟩), .pointer (some ⟨Nc, 0, none⟩)] W fun e W' => ∃ v, e = .returned v ∧ W'.ownsRow n₀ 149 1 v (vs.length + 1) ((vs ++ [c % 4294967296]).map (Value.int .u32)) ∧ Below n₀ W W' ∧ KeepsOthers W W' := by
  obtain ⟨⟨v, hv, hrow, _⟩, hk⟩ := hcar
  obtain ⟨i0, hi, hz0, hz1, hz2⟩ := info_parts infoW
  refine callsIn_of_wp Try.func101 rfl h5 ?_ hro
  simp only [Try.ntmps101, List.size_toArray, List.length_cons, List.length_nil, Nat.reduceAdd, Nat.reduceSub, Array.replicate_succ, Array.replicate_zero, List.push_toArray, List.append_toArray, List.nil_append, List.cons_append]
  have hcv := hv.cell
  have hck := hk.cell
  gi_wp2_with (gi_at_builtin; refine wpListIn_append_own _ rfl _ _ 74 rfl n₀ 149 i0 (.int .u32 0) 1 4 Try.underlying74 hi hz0 hz1 hz2 rfl (by decide) _ _ _ rfl (hrow.alloc _) ⟨W.heap.size, 0, none⟩ 1 1 [.int .u32 (IntKind.u32.wrap c)] rfl rfl (cell_one_new _ _ _) (by simp [Value.oneCell']) (by unfold maxLen; omega) (by omega) (by simp; omega) ?_; intro v' w1 hown' hgrow _)
  go_ret
  refine ⟨_, rfl, ?_, below_append hrow hB _ hgrow, keeps_append hrow _ hgrow⟩
  rw [wrap_u32] at hown'
  simpa using hown'
theorem Own.and {β : Type} {I I' : β → World → Prop} (h : Own I) (h' : Own I') : Own (fun s W => I s W ∧ I' s W) := fun s X Y row hs hg hr => ⟨h s X Y row hs.1 hg hr, h' s X Y row hs.2 hg hr⟩
theorem U32s.mono {S S' : Nat → Prop} (hS : ∀ k, S k → S' k) {W : World} {sv : Value} {zs : List Int} : U32s S W sv zs → U32s S' W sv zs
  | ⟨D, c, e, hl, hc⟩ => ⟨D, c, e, hl, fun j hj => let ⟨ad, e1, e3, e4⟩ := hc j hj; ⟨ad, e1, hS _ e3, e4⟩⟩
theorem car_alloc {n₀ No Nc : Nat} {W : World} {vs : List Int} {c : Int} (h : Car n₀ No Nc W vs c) (o : Obj) : Car n₀ No Nc (W.alloc o) vs c := by
  obtain ⟨⟨v, hv, hr, ht⟩, hk⟩ := h
  exact ⟨⟨v, hv.alloc o, hr.alloc o, ht⟩, hk.alloc o⟩
theorem own_car (n₀ No Nc : Nat) (f : List W2 → List Int × Int) : Own (fun pre W => Car n₀ No Nc W (f pre).1 (f pre).2) :=
  Own.and (holdsRow_own n₀ No 74 149 1 (fun pre => (f pre).1.length) (fun pre => (f pre).1.map (Value.int .u32)) (fun _ _ => True)) (boxed_own Nc 131 (fun pre => .int .u64 (f pre).2))
theorem own_box {β : Type} (B : Nat) (t : TypeId) (v : Value) : Own (fun (_ : β) W => Boxed W B t v) := boxed_own B t (fun _ => v)
def KS (n Ba Bb k : Nat) : Prop := k < n ∨ k = Ba ∨ k = Bb
theorem keepS_of {n Ba Bb : Nat} {W W' : World} {sva svb : Value} {t : TypeId} (hb : Below n W W') (ha : Boxed W Ba t sva) (ha' : Boxed W' Ba t sva) (hbb : Boxed W Bb t svb) (hbb' : Boxed W' Bb t svb) : KeepS (KS n Ba Bb) W W' :=
  ⟨fun k hk => by
    rcases hk with h | rfl | rfl
    · exact hb.block k h
    · exact (show W'.heap[k]? = _ from ha').trans (show W.heap[k]? = _ from ha).symm
    · exact (show W'.heap[k]? = _ from hbb').trans (show W.heap[k]? = _ from hbb).symm⟩
def cstep (s : List Int × Int) (v : Int) : List Int × Int := (s.1 ++ [(v + s.2) % 4294967296], (v + s.2) / 4294967296)
def crun (s : List Int × Int) (vs : List Int) : List Int × Int := vs.foldl cstep s
theorem crun_snoc (s : List Int × Int) (vs : List Int) (v : Int) : crun s (vs ++ [v]) = cstep (crun s vs) v := by simp [crun]
theorem crun_len (s : List Int × Int) (vs : List Int) : (crun s vs).1.length = s.1.length + vs.length := by
  induction vs generalizing s with
  | nil => simp [crun]
  | cons v vs ih => show (crun (cstep s v) vs).1.length = _; rw [ih]; simp [cstep]; omega
theorem crun_bound (s : List Int × Int) (vs : List Int) (hs : 0 ≤ s.2 ∧ s.2 < 17179869184) (hv : ∀ v ∈ vs, 0 ≤ v ∧ v < 17179869184) : 0 ≤ (crun s vs).2 ∧ (crun s vs).2 < 17179869184 := by
  induction vs generalizing s with
  | nil => exact hs
  | cons v vs ih =>
    show 0 ≤ (crun (cstep s v) vs).2 ∧ _
    have := hv v (by simp)
    exact ih _ (by simp only [cstep]; omega) (fun u hu => hv u (by simp [hu]))
def sums (xs : List W2) : List Int := xs.map fun x => x.1.1 + x.1.2
theorem sums_len (xs : List W2) : (sums xs).length = xs.length := by simp [sums]
theorem sums_bound (xs : List W2) : ∀ v ∈ sums xs, 0 ≤ v ∧ v < 17179869184 := by
  intro v hv
  obtain ⟨x, _, rfl⟩ := List.mem_map.1 hv
  have := x.2
  omega
set_option maxRecDepth 100000 in
set_option maxHeartbeats 2000000 in
theorem add_any (sva svb : Value) (la lb : List Int) (hLa : la.length < 1073741824) (hLb : lb.length < 1073741824) (hWa : Wrd la) (hWb : Wrd lb) (w : World) (hua : U32s (· < w.heap.size) w sva la) (hub : U32s (· < w.heap.size) w svb lb) :
    Calls Try.prog 88 #[sva, svb] w fun e W' => ∃ v, e = .returned v ∧ W'.ownsRow w.heap.size 149 1 v (mx la lb + 1) (((crun ([], 0) (sums (upto (pr la lb hWa hWb) (mx la lb)))).1 ++ [(crun ([], 0) (sums (upto (pr la lb hWa hWb) (mx la lb)))).2 % 4294967296]).map (Value.int .u32)) ∧ Below w.heap.size w W' := by
  have h1a : sva.oneCell' = true := by obtain ⟨_, _, rfl, _⟩ := hua; rfl
  have h1b : svb.oneCell' = true := by obtain ⟨_, _, rfl, _⟩ := hub; rfl
  refine (callsIn_wide (n := 3)).1 ?_
  refine callsIn_of_wp_marks Try.func88 rfl trivial ?_ rfl
  simp only [Try.ntmps88, List.size_toArray, List.length_cons, List.length_nil, Nat.reduceAdd, Nat.reduceSub, Array.replicate_succ, Array.replicate_zero, List.push_toArray, List.append_toArray, List.nil_append, List.cons_append]
  gi_wp2_with (first | (refine ⟨trivial, ?_⟩; gi_at_call 95; refine (carrier_in Fence.wide _ trivial rfl _).mono ?_; rintro e w' ⟨rfl, rfl⟩) | (refine ⟨trivial, ?_⟩; gi_at_call 77; refine (pairs_in Fence.wide _ trivial rfl _ _ _ h1a h1b).mono ?_; rintro e w' ⟨rfl, rfl⟩))
  have hcar := car_new w.heap.size w (Nat.le_refl _)
  obtain ⟨W2', hW2⟩ : ∃ W2', (w.alloc (.cells #[.slice none 0 0] 74)).alloc (.cells #[.int .u64 0] 131) = W2' := ⟨_, rfl⟩
  have hs2 : W2'.heap.size = w.heap.size + 1 + 1 := by rw [← hW2]; simp
  have hb2 : Below w.heap.size w W2' := by rw [← hW2]; exact ((Below.refl _ w).alloc (Nat.le_refl _) _).alloc (by simp) _
  rw [hW2] at hcar ⊢
  have bP := Boxed.new W2' 158 (putV w.heap.size (w.heap.size + 1))
  obtain ⟨W3, hW3⟩ : ∃ W3, W2'.alloc (.cells #[putV w.heap.size (w.heap.size + 1)] 158) = W3 := ⟨_, rfl⟩
  have hs3 : W3.heap.size = w.heap.size + 1 + 1 + 1 := by rw [← hW3]; simp [hs2]
  have hb3 : Below w.heap.size w W3 := by rw [← hW3]; exact hb2.alloc (by omega) _
  have bA := Boxed.new W3 74 sva
  obtain ⟨W4, hW4⟩ : ∃ W4, W3.alloc (.cells #[sva] 74) = W4 := ⟨_, rfl⟩
  have bB := Boxed.new W4 74 svb
  obtain ⟨W5, hW5⟩ : ∃ W5, W4.alloc (.cells #[svb] 74) = W5 := ⟨_, rfl⟩
  have hs4 : W4.heap.size = w.heap.size + 1 + 1 + 1 + 1 := by rw [← hW4]; simp [hs3]
  have hs5 : W5.heap.size = w.heap.size + 1 + 1 + 1 + 1 + 1 := by rw [← hW5]; simp [hs4]
  have hb5 : Below w.heap.size w W5 := by rw [← hW5, ← hW4]; exact (hb3.alloc (by omega) _).alloc (by simp; omega) _
  rw [hs2] at bP
  rw [hs3] at bA
  rw [hs4] at bB
  rw [hW3] at bP
  rw [hW4] at bA
  rw [hW5] at bB
  have bP5 := (bP.alloc (.cells #[sva] 74)).alloc (.cells #[svb] 74)
  have bA5 := bA.alloc (.cells #[svb] 74)
  have hc5 := car_alloc (car_alloc (car_alloc hcar (.cells #[putV w.heap.size (w.heap.size + 1)] 158)) (.cells #[sva] 74)) (.cells #[svb] 74)
  rw [hW3, hW4, hW5] at hc5
  rw [hW4, hW5] at bP5
  rw [hW5] at bA5
  change Code.wpIn _ _ _ _ _ _ (((W2'.alloc (.cells #[putV w.heap.size (w.heap.size + 1)] 158)).alloc (.cells #[sva] 74)).alloc (.cells #[svb] 74))
  rw [hW3, hW4, hW5]
  clear hW2 hW3 hW4 hW5 bP bA hcar hs2 hs3 hs4 hb2 hb3
  refine wpIn_rangeFunc_ownG rfl (by omega) (gf := 87) (lb := #[.pointer (some ⟨w.heap.size + 1 + 1 + 1, 0, none⟩), .pointer (some ⟨w.heap.size + 1 + 1 + 1 + 1, 0, none⟩)]) rfl trivial (enters_of Try.func87 (by kernel_rfl) rfl)
    (pairs_stops Fence.wide _ trivial rfl (by omega) (w.heap.size + 1 + 1 + 1) (w.heap.size + 1 + 1 + 1 + 1) (KS w.heap.size (w.heap.size + 1 + 1 + 1) (w.heap.size + 1 + 1 + 1 + 1)) sva svb la lb (by omega) (by omega) hWa hWb W5 (by omega) (by omega) (fun k hk => by unfold KS at hk; omega) (.inr (.inl rfl)) (.inr (.inr rfl)) bA5.cell bB.cell ((hua.keep (KeepS.below hb5 fun _ h => h)).mono fun _ h => .inl h) ((hub.keep (KeepS.below hb5 fun _ h => h)).mono fun _ h => .inl h))
    KeepS.trans (keepS_b (fun k hk => by unfold KS at hk; omega)) (Below.refl _ _) (fun _ => rfl)
    (fun pre W => (Car w.heap.size w.heap.size (w.heap.size + 1) W (crun ([], 0) (sums pre)).1 (crun ([], 0) (sums pre)).2 ∧ Boxed W (w.heap.size + 1 + 1) 158 (putV w.heap.size (w.heap.size + 1)) ∧ Boxed W (w.heap.size + 1 + 1 + 1) 74 sva ∧ Boxed W (w.heap.size + 1 + 1 + 1 + 1) 74 svb) ∧ Below w.heap.size w W)
    (fun _ _ _ => False)
    (OwnFrom.and (Own.from (Own.and (own_car _ _ _ (fun pre => crun ([], 0) (sums pre))) (Own.and (own_box _ _ _) (Own.and (own_box _ _ _) (own_box _ _ _)))) _) (ownFrom_below (Nat.le_refl _) (by omega)))
    (fun _ _ _ _ _ hs _ _ => hs)
    ⟨⟨hc5, bP5, bA5, bB⟩, hb5⟩
    (fun x => { tmps := #[sva, svb, undef, undef, .slice none 0 0, .pointer (some ⟨w.heap.size + 1 + 1, 0, none⟩), allV w.heap.size (w.heap.size + 1), .int .u64 x.1.1, .int .u64 x.1.2, .tuple #[putV w.heap.size (w.heap.size + 1), allV w.heap.size (w.heap.size + 1)], .tuple #[putV w.heap.size (w.heap.size + 1), allV w.heap.size (w.heap.size + 1)], putV w.heap.size (w.heap.size + 1), allV w.heap.size (w.heap.size + 1), sva, svb, .func (.func 87) #[] #[.pointer (some ⟨w.heap.size + 1 + 1 + 1, 0, none⟩), .pointer (some ⟨w.heap.size + 1 + 1 + 1 + 1, 0, none⟩)], .int .u64 x.1.1, .int .u64 x.1.2, undef, undef, undef, undef, undef, undef, undef], defers := [] }) ?assign ?body ?done ?stop
  case assign =>
    intro l x W K hK
    gi_wp2
    exact hK
  case body =>
    rintro l pre x W ⟨⟨hc, bP, bA, bB⟩, hB⟩ hlt
    have hcb := crun_bound ([], 0) (sums pre) (by decide) (sums_bound pre)
    have hln := crun_len ([], 0) (sums pre)
    have hml : mx la lb < 1073741824 := by unfold mx; omega
    rw [sums_len] at hln
    simp only [List.length_nil, Nat.zero_add] at hln
    have hx := x.2
    have hcp := bP.cell
    have hput := put_in Fence.wide (3 - 1 - 1 - 1) trivial rfl w.heap.size w.heap.size (w.heap.size + 1) (Nat.le_refl _) (by omega) (by omega) _ _ (x.1.1 + x.1.2) (by omega) (by omega) hcb.1 (by omega) (by omega) W hB.size hc
    have HP := Lib.hid hput
    clear hput
    gi_wp2_with (refine ⟨trivial, ?_⟩; gi_at_call 100; refine (CallsIn.inRound l HP.out).mono ?_; rintro e w' ⟨rfl, hc2, hk2, hb2, hbx⟩)
    have bA2 := hbx _ _ _ (by omega) (by omega) (by decide) bA
    have bB2 := hbx _ _ _ (by omega) (by omega) (by decide) bB
    exact ⟨hk2.from _, keepS_of hb2 bA bA2 bB bB2, ⟨⟨by rw [show sums (pre ++ [x]) = sums pre ++ [x.1.1 + x.1.2] by simp [sums], crun_snoc]; exact hc2, hbx _ _ _ (by omega) (by omega) (by decide) bP, bA2, bB2⟩, hB.trans hb2⟩⟩
  case done =>
    rintro D ys W hD rfl ⟨⟨hc, bP, bA, bB⟩, hB⟩ hK
    have hln := crun_len ([], 0) (sums (upto (pr la lb hWa hWb) (mx la lb)))
    have hml : mx la lb < 1073741824 := by unfold mx; omega
    rw [sums_len, upto_length] at hln
    simp only [List.length_nil, Nat.zero_add] at hln
    have hall := all_in Fence.wide (3 - 1) trivial rfl w.heap.size w.heap.size (w.heap.size + 1) _ _ (by omega) (by omega) W hB.size hc
    generalize hr : crun ([], 0) (sums (upto (pr la lb hWa hWb) (mx la lb))) = r at hall hln
    have Hr := Lib.hid hr
    clear hr hc
    rw [hln] at hall
    have HA := Lib.hid hall
    clear hall hln
    gi_wp2_with (refine ⟨trivial, ?_⟩; gi_at_call 101; refine HA.out.mono ?_; rintro e w' ⟨v, rfl, hrow, hb6, hk6⟩)
    have hK' := hk6.same D _ hK rfl
    refine ⟨by simp, .inl ⟨_, _, rfl, run_takeDeferred hK', ?_⟩⟩
    exact ⟨_, results_tmp rfl _ _ _, v, rfl, by rw [Hr.out]; exact ownsRow_putObj hrow _ hK' rfl, (hB.trans hb6).trans (belowK_b (w := w) (Nat.le_refl _) _ D _ _ (by omega) hK' rfl rfl)⟩
  case stop =>
    rintro D c pre W _ _ h _
    exact h.elim
def subs (xs : List W2) : List Int := xs.map fun x => x.1.1 + 4294967296 - 1 - x.1.2
theorem subs_len (xs : List W2) : (subs xs).length = xs.length := by simp [subs]
theorem subs_bound (xs : List W2) : ∀ v ∈ subs xs, 0 ≤ v ∧ v < 17179869184 := by
  intro v hv
  obtain ⟨x, _, rfl⟩ := List.mem_map.1 hv
  have := x.2
  omega
set_option maxRecDepth 100000 in
set_option maxHeartbeats 2000000 in
theorem sub_any (sva svb : Value) (la lb : List Int) (hLa : la.length < 1073741824) (hLb : lb.length < 1073741824) (hWa : Wrd la) (hWb : Wrd lb) (w : World) (hua : U32s (· < w.heap.size) w sva la) (hub : U32s (· < w.heap.size) w svb lb) :
    Calls Try.prog 99 #[sva, svb] w fun e W' => ∃ g cap, e = .returned (.slice (some ⟨g, 1, none⟩) (mx la lb) (cap - 1)) ∧ W'.ownsRow w.heap.size 149 1 (.slice (some ⟨g, 0, none⟩) (mx la lb + 1 + 1) cap) (mx la lb + 1 + 1) (((crun ([0], 1) (subs (upto (pr la lb hWa hWb) (mx la lb)))).1 ++ [(crun ([0], 1) (subs (upto (pr la lb hWa hWb) (mx la lb)))).2 % 4294967296]).map (Value.int .u32)) ∧ Below w.heap.size w W' := by
  have h1a : sva.oneCell' = true := by obtain ⟨_, _, rfl, _⟩ := hua; rfl
  have h1b : svb.oneCell' = true := by obtain ⟨_, _, rfl, _⟩ := hub; rfl
  refine (callsIn_wide (n := 3)).1 ?_
  refine callsIn_of_wp_marks Try.func99 rfl trivial ?_ rfl
  simp only [Try.ntmps99, List.size_toArray, List.length_cons, List.length_nil, Nat.reduceAdd, Nat.reduceSub, Array.replicate_succ, Array.replicate_zero, List.push_toArray, List.append_toArray, List.nil_append, List.cons_append]
  gi_wp2_with (refine ⟨trivial, ?_⟩; gi_at_call 95; refine (carrier_in Fence.wide _ trivial rfl _).mono ?_; rintro e w' ⟨rfl, rfl⟩)
  refine ⟨trivial, ?_⟩
  have hcar := car_alloc (car_new w.heap.size w (Nat.le_refl _)) (.cells #[putV w.heap.size (w.heap.size + 1)] 158)
  have bP := Boxed.new ((w.alloc (.cells #[.slice none 0 0] 74)).alloc (.cells #[.int .u64 0] 131)) 158 (putV w.heap.size (w.heap.size + 1))
  have hb3 : Below w.heap.size w (((w.alloc (.cells #[.slice none 0 0] 74)).alloc (.cells #[.int .u64 0] 131)).alloc (.cells #[putV w.heap.size (w.heap.size + 1)] 158)) := (((Below.refl _ w).alloc (Nat.le_refl _) _).alloc (by simp) _).alloc (by simp; omega) _
  have hs3 : w.heap.size + 3 ≤ (((w.alloc (.cells #[.slice none 0 0] 74)).alloc (.cells #[.int .u64 0] 131)).alloc (.cells #[putV w.heap.size (w.heap.size + 1)] 158)).heap.size := by simp
  rw [World.size_alloc, World.size_alloc] at bP
  refine (put_in Fence.wide (3 - 1) trivial rfl w.heap.size w.heap.size (w.heap.size + 1) (Nat.le_refl _) (by omega) (by omega) [] 0 4294967296 (by decide) (by decide) (by omega) (by omega) (by omega) _ hb3.size hcar).mono ?_
  rintro e W3 ⟨rfl, hc3, _, hb3', hbx⟩
  replace bP := hbx _ _ _ (by omega) (by omega) (by decide) bP
  replace hc3 : Car w.heap.size w.heap.size (w.heap.size + 1) W3 [0] 1 := hc3
  replace hb3 := hb3.trans hb3'
  replace hs3 := Nat.le_trans hs3 hb3'.size
  clear hbx hb3' hcar
  gi_wp2_with (refine ⟨trivial, ?_⟩; gi_at_call 77; refine (pairs_in Fence.wide _ trivial rfl _ _ _ h1a h1b).mono ?_; rintro e w' ⟨rfl, rfl⟩)
  have bA := Boxed.new W3 74 sva
  obtain ⟨W4, hW4⟩ : ∃ W4, W3.alloc (.cells #[sva] 74) = W4 := ⟨_, rfl⟩
  have bB := Boxed.new W4 74 svb
  obtain ⟨W5, hW5⟩ : ∃ W5, W4.alloc (.cells #[svb] 74) = W5 := ⟨_, rfl⟩
  have hs4 : W4.heap.size = W3.heap.size + 1 := by rw [← hW4]; simp
  have hs5 : W5.heap.size = W3.heap.size + 1 + 1 := by rw [← hW5]; simp [hs4]
  have hb5 : Below w.heap.size w W5 := by rw [← hW5, ← hW4]; exact (hb3.alloc (by omega) _).alloc (by simp; omega) _
  rw [hs4] at bB
  rw [hW4] at bA
  rw [hW5] at bB
  have bP5 := (bP.alloc (.cells #[sva] 74)).alloc (.cells #[svb] 74)
  have bA5 := bA.alloc (.cells #[svb] 74)
  have hc5 := car_alloc (car_alloc hc3 (.cells #[sva] 74)) (.cells #[svb] 74)
  rw [hW4, hW5] at hc5
  rw [hW4, hW5] at bP5
  rw [hW5] at bA5
  rw [hW4, hW5]
  clear hW4 hW5 bP bA hs4 hb3 hc3
  refine wpIn_rangeFunc_ownG rfl (by omega) (gf := 87) (lb := #[.pointer (some ⟨W3.heap.size, 0, none⟩), .pointer (some ⟨W3.heap.size + 1, 0, none⟩)]) rfl trivial (enters_of Try.func87 (by kernel_rfl) rfl)
    (pairs_stops Fence.wide _ trivial rfl (by omega) W3.heap.size (W3.heap.size + 1) (KS w.heap.size W3.heap.size (W3.heap.size + 1)) sva svb la lb (by omega) (by omega) hWa hWb W5 (by omega) (by omega) (fun k hk => by unfold KS at hk; omega) (.inr (.inl rfl)) (.inr (.inr rfl)) bA5.cell bB.cell ((hua.keep (KeepS.below hb5 fun _ h => h)).mono fun _ h => .inl h) ((hub.keep (KeepS.below hb5 fun _ h => h)).mono fun _ h => .inl h))
    KeepS.trans (keepS_b (fun k hk => by unfold KS at hk; omega)) (Below.refl _ _) (fun _ => rfl)
    (fun pre W => (Car w.heap.size w.heap.size (w.heap.size + 1) W (crun ([0], 1) (subs pre)).1 (crun ([0], 1) (subs pre)).2 ∧ Boxed W (w.heap.size + 1 + 1) 158 (putV w.heap.size (w.heap.size + 1)) ∧ Boxed W W3.heap.size 74 sva ∧ Boxed W (W3.heap.size + 1) 74 svb) ∧ Below w.heap.size w W)
    (fun _ _ _ => False)
    (OwnFrom.and (Own.from (Own.and (own_car _ _ _ (fun pre => crun ([0], 1) (subs pre))) (Own.and (own_box _ _ _) (Own.and (own_box _ _ _) (own_box _ _ _)))) _) (ownFrom_below (Nat.le_refl _) (by omega)))
    (fun _ _ _ _ _ hs _ _ => hs)
    ⟨⟨hc5, bP5, bA5, bB⟩, hb5⟩
    (fun x => { tmps := #[sva, svb, undef, undef, .slice none 0 0, .pointer (some ⟨w.heap.size + 1 + 1, 0, none⟩), allV w.heap.size (w.heap.size + 1), .int .u64 x.1.1, .int .u64 x.1.2, undef, .tuple #[putV w.heap.size (w.heap.size + 1), allV w.heap.size (w.heap.size + 1)], .tuple #[putV w.heap.size (w.heap.size + 1), allV w.heap.size (w.heap.size + 1)], putV w.heap.size (w.heap.size + 1), allV w.heap.size (w.heap.size + 1), putV w.heap.size (w.heap.size + 1), .tuple #[], sva, svb, .func (.func 87) #[] #[.pointer (some ⟨W3.heap.size, 0, none⟩), .pointer (some ⟨W3.heap.size + 1, 0, none⟩)], .int .u64 x.1.1, .int .u64 x.1.2, undef, undef, undef, undef, undef, undef, undef, undef, undef, undef, undef, undef, undef, undef], defers := [] }) ?assign ?body ?done ?stop
  case assign =>
    intro l x W K hK
    gi_wp2
    exact hK
  case body =>
    rintro l pre x W ⟨⟨hc, bP, bA, bB⟩, hB⟩ hlt
    have hcb := crun_bound ([0], 1) (subs pre) (by decide) (subs_bound pre)
    have hln := crun_len ([0], 1) (subs pre)
    have hml : mx la lb < 1073741824 := by unfold mx; omega
    rw [subs_len] at hln
    simp only [List.length_cons, List.length_nil, Nat.zero_add] at hln
    have hx := x.2
    have hcp := bP.cell
    have hput := put_in Fence.wide (3 - 1 - 1 - 1) trivial rfl w.heap.size w.heap.size (w.heap.size + 1) (Nat.le_refl _) (by omega) (by omega) _ _ (x.1.1 + 4294967296 - 1 - x.1.2) (by omega) (by omega) hcb.1 (by omega) (by omega) W hB.size hc
    have HP := Lib.hid hput
    clear hput
    gi_wp2_with (refine ⟨trivial, ?_⟩; gi_at_call 100; refine (CallsIn.inRound l HP.out).mono ?_; rintro e w' ⟨rfl, hc2, hk2, hb2, hbx⟩)
    have bA2 := hbx _ _ _ (by omega) (by omega) (by decide) bA
    have bB2 := hbx _ _ _ (by omega) (by omega) (by decide) bB
    exact ⟨hk2.from _, keepS_of hb2 bA bA2 bB bB2, ⟨⟨by rw [show subs (pre ++ [x]) = subs pre ++ [x.1.1 + 4294967296 - 1 - x.1.2] by simp [subs], crun_snoc]; exact hc2, hbx _ _ _ (by omega) (by omega) (by decide) bP, bA2, bB2⟩, hB.trans hb2⟩⟩
  case done =>
    rintro D ys W hD rfl ⟨⟨hc, bP, bA, bB⟩, hB⟩ hK
    have hln := crun_len ([0], 1) (subs (upto (pr la lb hWa hWb) (mx la lb)))
    have hml : mx la lb < 1073741824 := by unfold mx; omega
    rw [subs_len, upto_length] at hln
    simp only [List.length_cons, List.length_nil, Nat.zero_add] at hln
    have hall := all_in Fence.wide (3 - 1) trivial rfl w.heap.size w.heap.size (w.heap.size + 1) _ _ (by omega) (by omega) W hB.size hc
    generalize hr : crun ([0], 1) (subs (upto (pr la lb hWa hWb) (mx la lb))) = r at hall hln
    have Hr := Lib.hid hr
    clear hr hc
    rw [hln] at hall
    have HA := Lib.hid hall
    clear hall hln
    gi_wp2_with (first | (refine ⟨trivial, ?_⟩; gi_at_call 101; refine HA.out.mono ?_; rintro e w' ⟨v, rfl, hrow, hb6, hk6⟩; obtain ⟨g', cap', rfl⟩ := ownsRow_succ hrow; have hcl := Go.Proofs.YtnghcgmkncbnnaaW.PrintWords.own_le hrow; have hcne : ¬ cap' = 1 := by omega))
    have hK' := hk6.same D _ hK rfl
    refine ⟨by simp, .inl ⟨_, _, rfl, run_takeDeferred hK', ?_⟩⟩
    have e1 : 1 + mx la lb - 1 = mx la lb := by omega
    have e2 : 1 + mx la lb + 1 = mx la lb + 1 + 1 := by omega
    rw [e1]
    rw [e2] at hrow
    exact ⟨_, results_tmp rfl _ _ _, g', cap', rfl, by rw [Hr.out]; exact ownsRow_putObj hrow _ hK' rfl, (hB.trans hb6).trans (belowK_b (w := w) (Nat.le_refl _) _ D _ _ (by omega) hK' rfl rfl)⟩
  case stop =>
    rintro D c pre W _ _ h _
    exact h.elim
def cone (c : Int) (x : W2) : Int := if x.1.1 < x.1.2 then -1 else if x.1.2 < x.1.1 then 1 else c
def cfold (xs : List W2) : Int := xs.foldl cone 0
theorem cfold_snoc (xs : List W2) (x : W2) : cfold (xs ++ [x]) = cone (cfold xs) x := by simp [cfold]
set_option maxRecDepth 100000 in
set_option maxHeartbeats 2000000 in
theorem cmp_ne (Aa Ab : Option Addr) (na nb ca cb : Nat) (hne : na ≠ nb) (ha : na < 281474976710656) (hb : nb < 281474976710656) (w : World) :
    Calls Try.prog 103 #[.slice Aa na ca, .slice Ab nb cb] w fun e W' => e = .returned (.int .i64 ((na : Int) - nb)) ∧ Below w.heap.size w W' := by
  have h1 : (((na : Int) - nb) != 0) = true := by rw [bne_iff_ne]; omega
  go_enter Try.func103, Try.ntmps103
  go_wp2
  go_ret
  exact ⟨rfl, Below.refl _ _⟩
set_option maxRecDepth 100000 in
set_option maxHeartbeats 2000000 in
theorem cmp_eq (Aa Ab : Option Addr) (n ca cb : Nat) (la lb : List Int) (hL : n < 1073741824) (hla : la.length = n) (hlb : lb.length = n) (hWa : Wrd la) (hWb : Wrd lb) (w : World) (hua : U32s (· < w.heap.size) w (.slice Aa n ca) la) (hub : U32s (· < w.heap.size) w (.slice Ab n cb) lb) :
    Calls Try.prog 103 #[.slice Aa n ca, .slice Ab n cb] w fun e W' => e = .returned (.int .i64 (cfold (upto (pr la lb hWa hWb) n))) ∧ Below w.heap.size w W' := by
  have hmx : mx la lb = n := by unfold mx; omega
  have Hmx := Lib.hid hmx
  have Hla := Lib.hid hla
  have Hlb := Lib.hid hlb
  clear hmx hla hlb
  have h1 : (((n : Int) - n) != 0) = false := by simp
  refine (callsIn_wide (n := 3)).1 ?_
  refine callsIn_of_wp_marks Try.func103 rfl trivial ?_ rfl
  simp only [Try.ntmps103, List.size_toArray, List.length_cons, List.length_nil, Nat.reduceAdd, Nat.reduceSub, Array.replicate_succ, Array.replicate_zero, List.push_toArray, List.append_toArray, List.nil_append, List.cons_append]
  gi_wp2_with (refine ⟨trivial, ?_⟩; gi_at_call 77; refine (pairs_in Fence.wide _ trivial rfl _ _ _ rfl rfl).mono ?_; rintro e w' ⟨rfl, rfl⟩)
  obtain ⟨W0, hW0⟩ : ∃ W0, w.alloc (.cells #[.int .i64 0] 3) = W0 := ⟨_, rfl⟩
  have bC := Boxed.new w 3 (.int .i64 0)
  have hs0 : W0.heap.size = w.heap.size + 1 := by rw [← hW0]; simp
  have hb0 : Below w.heap.size w W0 := by rw [← hW0]; exact (Below.refl _ w).alloc (Nat.le_refl _) _
  rw [hW0] at bC ⊢
  have bA := Boxed.new W0 74 (.slice Aa n ca)
  obtain ⟨W4, hW4⟩ : ∃ W4, W0.alloc (.cells #[.slice Aa n ca] 74) = W4 := ⟨_, rfl⟩
  have bB := Boxed.new W4 74 (.slice Ab n cb)
  obtain ⟨W5, hW5⟩ : ∃ W5, W4.alloc (.cells #[.slice Ab n cb] 74) = W5 := ⟨_, rfl⟩
  have hs4 : W4.heap.size = w.heap.size + 1 + 1 := by rw [← hW4]; simp [hs0]
  have hs5 : W5.heap.size = w.heap.size + 1 + 1 + 1 := by rw [← hW5]; simp [hs4]
  have hb5 : Below w.heap.size w W5 := by rw [← hW5, ← hW4]; exact (hb0.alloc (by omega) _).alloc (by simp; omega) _
  rw [hs4] at bB
  rw [hs0] at bA
  rw [hW4] at bA
  rw [hW5] at bB
  have bC5 := (bC.alloc (.cells #[.slice Aa n ca] 74)).alloc (.cells #[.slice Ab n cb] 74)
  have bA5 := bA.alloc (.cells #[.slice Ab n cb] 74)
  rw [hW4, hW5] at bC5
  rw [hW5] at bA5
  rw [hW4, hW5]
  clear hW0 hW4 hW5 bC bA hs4 hb0
  refine wpIn_rangeFunc_ownG rfl (by omega) (gf := 87) (lb := #[.pointer (some ⟨w.heap.size + 1, 0, none⟩), .pointer (some ⟨w.heap.size + 1 + 1, 0, none⟩)]) rfl trivial (enters_of Try.func87 (by kernel_rfl) rfl)
    (pairs_stops Fence.wide _ trivial rfl (by omega) (w.heap.size + 1) (w.heap.size + 1 + 1) (KS w.heap.size (w.heap.size + 1) (w.heap.size + 1 + 1)) (.slice Aa n ca) (.slice Ab n cb) la lb (by rw [Hla.out]; omega) (by rw [Hlb.out]; omega) hWa hWb W5 (by omega) (by omega) (fun k hk => by unfold KS at hk; omega) (.inr (.inl rfl)) (.inr (.inr rfl)) bA5.cell bB.cell ((hua.keep (KeepS.below hb5 fun _ h => h)).mono fun _ h => .inl h) ((hub.keep (KeepS.below hb5 fun _ h => h)).mono fun _ h => .inl h))
    KeepS.trans (keepS_b (fun k hk => by unfold KS at hk; omega)) (Below.refl _ _) (fun _ => rfl)
    (fun pre W => (Boxed W w.heap.size 3 (.int .i64 (cfold pre)) ∧ Boxed W (w.heap.size + 1) 74 (.slice Aa n ca) ∧ Boxed W (w.heap.size + 1 + 1) 74 (.slice Ab n cb)) ∧ Below w.heap.size w W)
    (fun _ _ _ => False)
    (OwnFrom.and (Own.from (Own.and (boxed_own _ _ (fun pre => .int .i64 (cfold pre))) (Own.and (own_box _ _ _) (own_box _ _ _))) _) (ownFrom_below (Nat.le_refl _) (by omega)))
    (fun _ _ _ _ _ hs _ _ => hs)
    ⟨⟨bC5, bA5, bB⟩, hb5⟩
    (fun x => { tmps := #[.slice Aa n ca, .slice Ab n cb, undef, undef, .int .i64 0, .int .i64 0, .pointer (some ⟨w.heap.size, 0, none⟩), .int .u64 x.1.1, .int .u64 x.1.2, .slice Aa n ca, .int .i64 n, .slice Ab n cb, .int .i64 n, .int .i64 0, .int .i64 0, .bool false, undef, .slice Aa n ca, .slice Ab n cb, .func (.func 87) #[] #[.pointer (some ⟨w.heap.size + 1, 0, none⟩), .pointer (some ⟨w.heap.size + 1 + 1, 0, none⟩)], .int .u64 x.1.1, .int .u64 x.1.2, undef, undef, undef, undef, undef, undef, undef, undef, undef], defers := [] }) ?assign ?body ?done ?stop
  case assign =>
    intro l x W K hK
    gi_wp2
    exact hK
  case body =>
    rintro l pre x W ⟨⟨bC, bA, bB⟩, hB⟩ hlt
    clear hs5
    have hc := bC.cell
    have hf := bC.frozen
    have hset : ∀ c : Int, c = cone (cfold pre) x → ownPostG W5.heap.size (KeepS (KS w.heap.size (w.heap.size + 1) (w.heap.size + 1 + 1))) (fun pre W => (Boxed W w.heap.size 3 (.int .i64 (cfold pre)) ∧ Boxed W (w.heap.size + 1) 74 (.slice Aa n ca) ∧ Boxed W (w.heap.size + 1 + 1) 74 (.slice Ab n cb)) ∧ Below w.heap.size w W) (fun _ _ _ => False) (pre ++ [x]) W .normal { tmps := #[], defers := [] } (W.setCell ⟨w.heap.size, 0, none⟩ (.int .i64 c)) := by
      intro c hce
      have bC2 := bC.set (.int .i64 c)
      rw [hce, ← cfold_snoc] at bC2
      have bA2 := bA.other (B' := w.heap.size) (by omega) (.int .i64 c)
      have bB2 := bB.other (B' := w.heap.size) (by omega) (.int .i64 c)
      have hb2 := (Below.refl w.heap.size W).setCell (p := ⟨w.heap.size, 0, none⟩) (Nat.le_refl _) (.int .i64 c)
      rw [hce] at bA2 bB2 hb2 ⊢
      rw [← cfold_snoc] at bA2 bB2 hb2 ⊢
      exact ⟨(KeepsOthers.setCell _ _ _).from _, keepS_of hb2 bA bA2 bB bB2, ⟨⟨bC2, bA2, bB2⟩, hB.trans hb2⟩⟩
    have HS := Lib.hid hset
    clear hset
    by_cases h : x.1.1 < x.1.2
    · have hd : decide (x.1.1 < x.1.2) = true := decide_eq_true h
      gi_wp2
      exact HS.out _ (by unfold cone; rw [if_pos h])
    · by_cases h2 : x.1.2 < x.1.1
      · gi_wp2
        exact HS.out _ (by unfold cone; rw [if_neg (by omega), if_pos h2])
      · gi_wp2
        exact ⟨KeepsFrom.refl _ _, KeepS.refl _ _, ⟨⟨by rw [cfold_snoc]; unfold cone; rw [if_neg (by omega), if_neg (by omega)]; exact bC, bA, bB⟩, hB⟩⟩
  case done =>
    rintro D ys W hD rfl ⟨⟨bC, bA, bB⟩, hB⟩ hK
    have hc := bC.cell
    rw [Hmx.out] at hc
    gi_wp2
    refine ⟨by simp, .inl ⟨_, _, rfl, run_takeDeferred hK, ?_⟩⟩
    exact ⟨_, results_tmp rfl _ _ _, rfl, hB.trans (belowK_b (w := w) (Nat.le_refl _) W D _ _ (by omega) hK rfl rfl)⟩
  case stop =>
    rintro D c pre W _ _ h _
    exact h.elim
end Rf
end Go.Proofs.Ytnghcgmkncbnnaa
end
section
namespace Go.Proofs.Ytnghcgmkncbnnaa
open Go.RowKit Go.Shelf
attribute [local go_sem] Oper.semAt_some
namespace Rf
def ustep (u : Int) (x : W2) : Int := u / 4294967296 + x.1.1 * 4294967296
def ufold (xs : List W2) : Int := xs.foldl ustep 0
theorem ufold_snoc (xs : List W2) (x : W2) : ufold (xs ++ [x]) = ustep (ufold xs) x := by simp [ufold]
theorem ufold_bound (xs : List W2) : 0 ≤ ufold xs ∧ ufold xs < 18446744073709551616 := by
  unfold ufold
  have : ∀ (u : Int), 0 ≤ u ∧ u < 18446744073709551616 → 0 ≤ xs.foldl ustep u ∧ xs.foldl ustep u < 18446744073709551616 := by
    induction xs with
    | nil => intro u h; exact h
    | cons x xs ih => intro u h; have := x.2; exact ih _ (by simp only [ustep]; omega)
  exact this 0 (by decide)
theorem Wrd_nil : Wrd [] := fun j => by simp
def i64of (neg : Bool) (u : Int) : Int × Bool :=
  if neg then (if u ≤ 9223372036854775808 then (wrap64 (-(wrap64 u)), true) else (0, false)) else if 0 ≤ wrap64 u then (wrap64 u, true) else (0, false)
set_option maxRecDepth 100000 in
set_option maxHeartbeats 4000000 in
theorem int64_long (neg : Bool) (sv : Value) (t : List Int) (hsv : sv.oneCell' = true) (w : World) (ht2 : 2 < t.length) (ht3 : t.length < 281474976710656)
    (ht : ∀ w0, Below w.heap.size w w0 → Calls Try.prog 76 #[sv] w0 fun e W' => ∃ A c, e = .returned (.slice A t.length c) ∧ U32s (· < w.heap.size) W' (.slice A t.length c) t ∧ Below w0.heap.size w0 W') :
    Calls Try.prog 64 #[.agg #[.bool neg, sv]] w fun e W' => e = .returned (.tuple #[.int .i64 0, .bool false]) ∧ Below w.heap.size w W' := by
  have hd : decide (2 < t.length) = true := decide_eq_true ht2
  have hu := Try.underlying76
  have hb := (Below.refl w.heap.size w).alloc (Nat.le_refl _) (.cells #[.bool neg, sv] 76)
  have HT := Lib.hid (ht _ hb)
  clear ht
  go_enter Try.func64, Try.ntmps64
  go_wp2_with (go_at_call 76; refine HT.out.mono ?_; rintro e w' ⟨A, c, rfl, hU, hb2⟩)
  go_ret2
  exact ⟨rfl, hb.trans (hb2.mono (by simp))⟩
theorem own_blk {β : Type} (B : Nat) (cs : Array Value) (ty : TypeId) (fr : Nat × Nat) : Own (fun (_ : β) W => W.heap[B]? = some (.cells cs ty fr)) := fun s X Y row hs hg hrow => by
  refine (hg.block B (Array.getElem?_eq_some_iff.1 hs).1 fun e => ?_).trans hs
  obtain ⟨o, ho, hc⟩ := hrow B e.symm
  rw [hs] at ho; cases ho; cases hc
set_option maxRecDepth 100000 in
set_option maxHeartbeats 4000000 in
theorem int64_short (neg : Bool) (sv : Value) (t : List Int) (hsv : sv.oneCell' = true) (w : World) (ht2 : t.length ≤ 2) (hWt : Wrd t)
    (ht : ∀ w0, Below w.heap.size w w0 → Calls Try.prog 76 #[sv] w0 fun e W' => ∃ A c, e = .returned (.slice A t.length c) ∧ U32s (· < w.heap.size) W' (.slice A t.length c) t ∧ Below w0.heap.size w0 W') (u : Int) (hfin : (if t.length = 1 then ufold (upto (pr t [] hWt Wrd_nil) (mx t [])) / 4294967296 else ufold (upto (pr t [] hWt Wrd_nil) (mx t []))) = u) :
    Calls Try.prog 64 #[.agg #[.bool neg, sv]] w fun e W' => e = .returned (.tuple #[.int .i64 (i64of neg u).1, .bool (i64of neg u).2]) ∧ Below w.heap.size w W' := by
  have hd : decide (2 < t.length) = false := decide_eq_false (by omega)
  have hu := Try.underlying76
  have hb := (Below.refl w.heap.size w).alloc (Nat.le_refl _) (.cells #[.bool neg, sv] 76)
  have hZ : (w.alloc (.cells #[.bool neg, sv] 76)).heap[w.heap.size]? = some (.cells #[.bool neg, sv] 76 (0, 0)) := World.alloc_heap_new w _
  have HT := Lib.hid (ht _ hb)
  clear ht
  have HF := Lib.hid hfin
  clear hfin
  refine (callsIn_wide (n := 3)).1 ?_
  refine callsIn_of_wp_marks Try.func64 rfl trivial ?_ rfl
  simp only [Try.ntmps64, List.size_toArray, List.length_cons, List.length_nil, Nat.reduceAdd, Nat.reduceSub, Array.replicate_succ, Array.replicate_zero, List.push_toArray, List.append_toArray, List.nil_append, List.cons_append]
  gi_wp2_with (first | (refine ⟨trivial, ?_⟩; gi_at_call 76; refine (callsIn_wide.2 HT.out).mono ?_; rintro e w1 ⟨A, c, rfl, hU, hb2⟩; replace hZ := (hb2.block _ (by simp)).trans hZ; have hs1 := hb2.size; replace hb := hb.trans (hb2.mono (by simp)); clear hb2; rw [World.size_alloc] at hs1) | (refine ⟨trivial, ?_⟩; gi_at_call 77; refine (pairs_in Fence.wide _ trivial rfl _ _ _ rfl rfl).mono ?_; rintro e w' ⟨rfl, rfl⟩))
  obtain ⟨W0, hW0⟩ : ∃ W0, w1.alloc (.cells #[.int .u64 0] 131) = W0 := ⟨_, rfl⟩
  have bC := Boxed.new w1 131 (.int .u64 0)
  have hs0 : W0.heap.size = w1.heap.size + 1 := by rw [← hW0]; simp
  have hb0 : Below w.heap.size w W0 := by rw [← hW0]; exact hb.alloc (by omega) _
  have hZ0 : W0.heap[w.heap.size]? = some (.cells #[.bool neg, sv] 76 (0, 0)) := by rw [← hW0]; exact (Below.heap_alloc _ _ _ (by omega)).trans hZ
  have hU0 : U32s (· < w.heap.size) W0 (.slice A t.length c) t := hU.keep (by rw [← hW0]; exact KeepS.below ((Below.refl w.heap.size w1).alloc (by omega) _) (fun _ h => h))
  rw [hW0] at bC ⊢
  have bA := Boxed.new W0 74 (.slice A t.length c)
  obtain ⟨W4, hW4⟩ : ∃ W4, W0.alloc (.cells #[.slice A t.length c] 74) = W4 := ⟨_, rfl⟩
  have bB := Boxed.new W4 74 (.slice none 0 0)
  obtain ⟨W5, hW5⟩ : ∃ W5, W4.alloc (.cells #[.slice none 0 0] 74) = W5 := ⟨_, rfl⟩
  have hs4 : W4.heap.size = w1.heap.size + 1 + 1 := by rw [← hW4]; simp [hs0]
  have hs5 : W5.heap.size = w1.heap.size + 1 + 1 + 1 := by rw [← hW5]; simp [hs4]
  have hb5 : Below w.heap.size w W5 := by rw [← hW5, ← hW4]; exact (hb0.alloc (by omega) _).alloc (by simp; omega) _
  have hZ5 : W5.heap[w.heap.size]? = some (.cells #[.bool neg, sv] 76 (0, 0)) := by rw [← hW5, ← hW4]; exact (Below.heap_alloc _ _ _ (by simp; omega)).trans ((Below.heap_alloc _ _ _ (by omega)).trans hZ0)
  have hU5 : U32s (· < w.heap.size) W5 (.slice A t.length c) t := hU0.keep (by rw [← hW5, ← hW4]; exact KeepS.below (((Below.refl w.heap.size W0).alloc (by omega) _).alloc (by simp; omega) _) (fun _ h => h))
  rw [hs4] at bB
  rw [hs0] at bA
  rw [hW4] at bA
  rw [hW5] at bB
  have bC5 := (bC.alloc (.cells #[.slice A t.length c] 74)).alloc (.cells #[.slice none 0 0] 74)
  have bA5 := bA.alloc (.cells #[.slice none 0 0] 74)
  rw [hW4, hW5] at bC5
  rw [hW5] at bA5
  rw [hW4, hW5]
  clear hW0 hW4 hW5 bC bA hs4 hs0 hb0 hZ hZ0 hU hU0 hb
  refine wpIn_rangeFunc_ownG rfl (by omega) (gf := 87) (lb := #[.pointer (some ⟨w1.heap.size + 1, 0, none⟩), .pointer (some ⟨w1.heap.size + 1 + 1, 0, none⟩)]) rfl trivial (enters_of Try.func87 (by kernel_rfl) rfl)
    (pairs_stops Fence.wide _ trivial rfl (by omega) (w1.heap.size + 1) (w1.heap.size + 1 + 1) (KS w.heap.size (w1.heap.size + 1) (w1.heap.size + 1 + 1)) (.slice A t.length c) (.slice none 0 0) t [] (by omega) (by simp) hWt Wrd_nil W5 (by omega) (by omega) (fun k hk => by unfold KS at hk; omega) (.inr (.inl rfl)) (.inr (.inr rfl)) bA5.cell bB.cell (hU5.mono fun _ h => .inl h) ⟨none, 0, rfl, Nat.le_refl _, fun j hj => absurd hj (by simp)⟩)
    KeepS.trans (keepS_b (fun k hk => by unfold KS at hk; omega)) (Below.refl _ _) (fun _ => rfl)
    (fun pre W => (Boxed W w1.heap.size 131 (.int .u64 (ufold pre)) ∧ Boxed W (w1.heap.size + 1) 74 (.slice A t.length c) ∧ Boxed W (w1.heap.size + 1 + 1) 74 (.slice none 0 0) ∧ W.heap[w.heap.size]? = some (.cells #[.bool neg, sv] 76 (0, 0))) ∧ Below w.heap.size w W)
    (fun _ _ _ => False)
    (OwnFrom.and (Own.from (Own.and (boxed_own _ _ (fun pre => .int .u64 (ufold pre))) (Own.and (own_box _ _ _) (Own.and (own_box _ _ _) (own_blk _ _ _ _)))) _) (ownFrom_below (Nat.le_refl _) (by omega)))
    (fun _ _ _ _ _ hs _ _ => hs)
    ⟨⟨bC5, bA5, bB, hZ5⟩, hb5⟩
    (fun x => { tmps := #[.agg #[.bool neg, sv], .pointer (some ⟨w.heap.size, 0, none⟩), .int .i64 0, .bool false, .slice A t.length c, .pointer (some ⟨w1.heap.size, 0, none⟩), .int .u64 x.1.1, undef, .pointer (some ⟨w.heap.size, 1, none⟩), sv, .slice A t.length c, .slice A t.length c, .int .i64 t.length, .bool (decide (2 < (t.length : Int))), .slice A t.length c, .func (.func 87) #[] #[.pointer (some ⟨w1.heap.size + 1, 0, none⟩), .pointer (some ⟨w1.heap.size + 1 + 1, 0, none⟩)], .int .u64 x.1.1, .int .u64 x.1.2, undef, undef, undef, undef, undef, undef, undef, undef, undef, undef, undef, undef, undef, undef, undef, undef, undef, undef, undef, undef, undef, undef, undef, undef, undef, undef, undef, undef], defers := [] }) ?assign ?body ?done ?stop
  case assign =>
    intro l x W K hK
    gi_wp2
    exact hK
  case body =>
    rintro l pre x W ⟨⟨bC, bA, bB, hZ⟩, hB⟩ hlt
    clear hs5
    have hc := bC.cell
    have hf := bC.frozen
    have hub := ufold_bound pre
    have hx := x.2
    have e1 : IntKind.u64.wrap (x.1.1 * 4294967296) = x.1.1 * 4294967296 := IntWalk.u64_in _ (by omega)
    have e2 : IntKind.u64.wrap (ufold pre / 4294967296 + x.1.1 * 4294967296) = ufold pre / 4294967296 + x.1.1 * 4294967296 := IntWalk.u64_in _ (by omega)
    have bC2 := bC.set (.int .u64 (ustep (ufold pre) x))
    rw [← ufold_snoc] at bC2
    have bA2 := bA.other (B' := w1.heap.size) (by omega) (.int .u64 (ufold (pre ++ [x])))
    have bB2 := bB.other (B' := w1.heap.size) (by omega) (.int .u64 (ufold (pre ++ [x])))
    have hb2 := (Below.refl w.heap.size W).setCell (p := ⟨w1.heap.size, 0, none⟩) (show w.heap.size ≤ w1.heap.size by omega) (.int .u64 (ufold (pre ++ [x])))
    have hZ2 := (hb2.trans (Below.refl _ _))
    have hZ3 := (Below.heap_setCell W ⟨w1.heap.size, 0, none⟩ (.int .u64 (ufold (pre ++ [x]))) w.heap.size (show w.heap.size ≠ w1.heap.size by omega)).trans hZ
    have HE := Lib.hid (ufold_snoc pre x)
    have HA := Lib.hid (And.intro bC2 (And.intro bA2 (And.intro bB2 (And.intro hb2 hZ3))))
    clear bC2 bA2 bB2 hb2 hZ2 hZ3
    gi_wp2
    rw [show ufold pre / 4294967296 + x.1.1 * 4294967296 = ufold (pre ++ [x]) from HE.out.symm]
    obtain ⟨bC2, bA2, bB2, hb2, hZ3⟩ := HA.out
    exact ⟨(KeepsOthers.setCell _ _ _).from _, keepS_of hb2 bA bA2 bB bB2, ⟨⟨bC2, bA2, bB2, hZ3⟩, hB.trans hb2⟩⟩
  case done =>
    rintro D ys W hD rfl ⟨⟨bC, bA, bB, hZ⟩, hB⟩ hK
    have hub := ufold_bound (upto (pr t [] hWt Wrd_nil) (mx t []))
    generalize ufold (upto (pr t [] hWt Wrd_nil) (mx t [])) = v at *
    have hc := bC.cell
    have hf := bC.frozen
    have hz0 : W.cell? ⟨w.heap.size, 0, none⟩ = some (.bool neg) := by simp [World.cell?, hZ]
    have hz1 : W.cell? ⟨w.heap.size, 1, none⟩ = some sv := by simp [World.cell?, hZ]
    have HK := Lib.hid hK
    have HBn := Lib.hid (And.intro hB hD)
    have HP : ∀ (W6 : World) (u' : Int), KeepsOthers W W6 → Below w.heap.size W W6 → (w.heap.size ≤ D → W6.heap[D]? = some (.deferred (some [])) → Below w.heap.size w (W6.putObj D (.deferred none))) := fun W6 u' hk hb hd hk6 => (hB.trans hb).trans (belowK_b (w := w) (Nat.le_refl _) W6 D _ _ hd hk6 rfl rfl)
    have HPH := Lib.hid HP
    have hDw : w.heap.size ≤ D := by omega
    clear HP hK hB hD bA bB hZ hs5 hU5 hb5 bA5 bC5
    by_cases h1 : t.length = 1
    · have hu1 : v / 4294967296 = u := by have := HF.out; rwa [if_pos h1] at this
      have h1b : ((t.length : Int) == 1) = true := beq_iff_eq.2 (by omega)
      have hc2 := (bC.set (.int .u64 (v / 4294967296))).cell
      have hz2 : (W.setCell ⟨w1.heap.size, 0, none⟩ (.int .u64 (v / 4294967296))).cell? ⟨w.heap.size, 0, none⟩ = some (.bool neg) := (World.cell?_setCell_other _ _ _ _ (fun e => by simp at e)).trans hz0
      have HU := Lib.hid hu1
      clear hu1 h1
      obtain ⟨u', hu'⟩ : ∃ u', v / 4294967296 = u' := ⟨_, rfl⟩
      have hu2 : u' = u := hu'.symm.trans HU.out
      subst hu2
      rw [hu'] at hc2 hz2
      clear hub
      cases neg with
      | true =>
        by_cases h2 : u' ≤ 9223372036854775808
        · have hd2 : decide (u' ≤ 9223372036854775808) = true := decide_eq_true h2
          have HQ := Lib.hid (show i64of true u' = (wrap64 (-(wrap64 u')), true) by unfold i64of; rw [if_pos rfl, if_pos h2])
          gi_wp2
          have hK' := (KeepsOthers.setCell W ⟨w1.heap.size, 0, none⟩ (.int .u64 u')).same D _ HK.out rfl
          refine ⟨by simp, .inl ⟨_, _, rfl, run_takeDeferred hK', ?_⟩⟩
          exact ⟨_, results_tmp2 rfl _ _ _, by rw [HQ.out]; rfl, HPH.out _ 0 (KeepsOthers.setCell W ⟨w1.heap.size, 0, none⟩ (.int .u64 u')) ((Below.refl w.heap.size W).setCell (p := ⟨w1.heap.size, 0, none⟩) (show w.heap.size ≤ w1.heap.size by omega) _) hDw hK'⟩
        · have hd2 : decide (u' ≤ 9223372036854775808) = false := decide_eq_false h2
          have HQ := Lib.hid (show i64of true u' = (0, false) by unfold i64of; rw [if_pos rfl, if_neg h2])
          gi_wp2
          have hK' := (KeepsOthers.setCell W ⟨w1.heap.size, 0, none⟩ (.int .u64 u')).same D _ HK.out rfl
          refine ⟨by simp, .inl ⟨_, _, rfl, run_takeDeferred hK', ?_⟩⟩
          exact ⟨_, results_tmp2 rfl _ _ _, by rw [HQ.out]; rfl, HPH.out _ 0 (KeepsOthers.setCell W ⟨w1.heap.size, 0, none⟩ (.int .u64 u')) ((Below.refl w.heap.size W).setCell (p := ⟨w1.heap.size, 0, none⟩) (show w.heap.size ≤ w1.heap.size by omega) _) hDw hK'⟩
      | false =>
        by_cases h2 : 0 ≤ wrap64 u'
        · have hd2 : decide (0 ≤ wrap64 u') = true := decide_eq_true h2
          have HQ := Lib.hid (show i64of false u' = (wrap64 u', true) by unfold i64of; rw [if_neg (by simp), if_pos h2])
          gi_wp2
          have hK' := (KeepsOthers.setCell W ⟨w1.heap.size, 0, none⟩ (.int .u64 u')).same D _ HK.out rfl
          refine ⟨by simp, .inl ⟨_, _, rfl, run_takeDeferred hK', ?_⟩⟩
          exact ⟨_, results_tmp2 rfl _ _ _, by rw [HQ.out]; rfl, HPH.out _ 0 (KeepsOthers.setCell W ⟨w1.heap.size, 0, none⟩ (.int .u64 u')) ((Below.refl w.heap.size W).setCell (p := ⟨w1.heap.size, 0, none⟩) (show w.heap.size ≤ w1.heap.size by omega) _) hDw hK'⟩
        · have hd2 : decide (0 ≤ wrap64 u') = false := decide_eq_false h2
          have HQ := Lib.hid (show i64of false u' = (0, false) by unfold i64of; rw [if_neg (by simp), if_neg h2])
          gi_wp2
          have hK' := (KeepsOthers.setCell W ⟨w1.heap.size, 0, none⟩ (.int .u64 u')).same D _ HK.out rfl
          refine ⟨by simp, .inl ⟨_, _, rfl, run_takeDeferred hK', ?_⟩⟩
          exact ⟨_, results_tmp2 rfl _ _ _, by rw [HQ.out]; rfl, HPH.out _ 0 (KeepsOthers.setCell W ⟨w1.heap.size, 0, none⟩ (.int .u64 u')) ((Below.refl w.heap.size W).setCell (p := ⟨w1.heap.size, 0, none⟩) (show w.heap.size ≤ w1.heap.size by omega) _) hDw hK'⟩
    · have hu1 : v = u := by have := HF.out; rwa [if_neg h1] at this
      have h1b : ((t.length : Int) == 1) = false := beq_eq_false_iff_ne.2 (by omega)
      subst hu1
      cases neg with
      | true =>
        by_cases h2 : v ≤ 9223372036854775808
        · have hd2 : decide (v ≤ 9223372036854775808) = true := decide_eq_true h2
          have HQ := Lib.hid (show i64of true v = (wrap64 (-(wrap64 v)), true) by unfold i64of; rw [if_pos rfl, if_pos h2])
          gi_wp2
          have hK' := (KeepsOthers.refl W).same D _ HK.out rfl
          refine ⟨by simp, .inl ⟨_, _, rfl, run_takeDeferred hK', ?_⟩⟩
          exact ⟨_, results_tmp2 rfl _ _ _, by rw [HQ.out]; rfl, HPH.out _ 0 (KeepsOthers.refl W) (Below.refl w.heap.size W) hDw hK'⟩
        · have hd2 : decide (v ≤ 9223372036854775808) = false := decide_eq_false h2
          have HQ := Lib.hid (show i64of true v = (0, false) by unfold i64of; rw [if_pos rfl, if_neg h2])
          gi_wp2
          have hK' := (KeepsOthers.refl W).same D _ HK.out rfl
          refine ⟨by simp, .inl ⟨_, _, rfl, run_takeDeferred hK', ?_⟩⟩
          exact ⟨_, results_tmp2 rfl _ _ _, by rw [HQ.out]; rfl, HPH.out _ 0 (KeepsOthers.refl W) (Below.refl w.heap.size W) hDw hK'⟩
      | false =>
        by_cases h2 : 0 ≤ wrap64 v
        · have hd2 : decide (0 ≤ wrap64 v) = true := decide_eq_true h2
          have HQ := Lib.hid (show i64of false v = (wrap64 v, true) by unfold i64of; rw [if_neg (by simp), if_pos h2])
          gi_wp2
          have hK' := (KeepsOthers.refl W).same D _ HK.out rfl
          refine ⟨by simp, .inl ⟨_, _, rfl, run_takeDeferred hK', ?_⟩⟩
          exact ⟨_, results_tmp2 rfl _ _ _, by rw [HQ.out]; rfl, HPH.out _ 0 (KeepsOthers.refl W) (Below.refl w.heap.size W) hDw hK'⟩
        · have hd2 : decide (0 ≤ wrap64 v) = false := decide_eq_false h2
          have HQ := Lib.hid (show i64of false v = (0, false) by unfold i64of; rw [if_neg (by simp), if_neg h2])
          gi_wp2
          have hK' := (KeepsOthers.refl W).same D _ HK.out rfl
          refine ⟨by simp, .inl ⟨_, _, rfl, run_takeDeferred hK', ?_⟩⟩
          exact ⟨_, results_tmp2 rfl _ _ _, by rw [HQ.out]; rfl, HPH.out _ 0 (KeepsOthers.refl W) (Below.refl w.heap.size W) hDw hK'⟩
  case stop =>
    rintro D c pre W _ _ h _
    exact h.elim
end Rf
end Go.Proofs.Ytnghcgmkncbnnaa
end
section
namespace Go.Proofs.Ytnghcgmkncbnnaa
namespace Wd
open Rf
def val : List Int → Nat
  | [] => 0
  | x :: l => x.toNat + 4294967296 * val l
def wds : Nat → Nat → List Int
  | 0, _ => []
  | n + 1, v => ((v % 4294967296 : Nat) : Int) :: wds n (v / 4294967296)
def digsF : Nat → Nat → List Int
  | 0, _ => []
  | f + 1, v => if v = 0 then [] else ((v % 4294967296 : Nat) : Int) :: digsF f (v / 4294967296)
def digs (v : Nat) : List Int := digsF (v.log2 + 1) v
def okW (l : List Int) : Prop := ∀ x ∈ l, 0 ≤ x ∧ x < 4294967296
theorem wrd_of (l : List Int) (h : okW l) : Wrd l := by
  intro j
  by_cases hj : j < l.length
  · rw [List.getElem?_eq_getElem hj]; exact h _ (List.getElem_mem hj)
  · rw [List.getElem?_eq_none (by omega)]; simp
theorem okW_nil : okW [] := by intro x hx; cases hx
theorem okW_cons {x : Int} {l : List Int} : okW (x :: l) ↔ (0 ≤ x ∧ x < 4294967296) ∧ okW l := by simp [okW]
theorem okW_append {l m : List Int} : okW (l ++ m) ↔ okW l ∧ okW m := by
  simp only [okW, List.mem_append]
  exact ⟨fun h => ⟨fun x hx => h x (.inl hx), fun x hx => h x (.inr hx)⟩, fun h x hx => hx.elim (h.1 x) (h.2 x)⟩
theorem wds_length (n v : Nat) : (wds n v).length = n := by
  induction n generalizing v with
  | zero => rfl
  | succ n ih => simp [wds, ih]
theorem wds_ok (n v : Nat) : okW (wds n v) := by
  induction n generalizing v with
  | zero => exact okW_nil
  | succ n ih => exact okW_cons.2 ⟨by constructor <;> omega, ih _⟩
theorem val_lt (l : List Int) (h : okW l) : val l < 4294967296 ^ l.length := by
  induction l with
  | nil => simp [val]
  | cons x l ih =>
    obtain ⟨hx, hl⟩ := okW_cons.1 h
    have := ih hl
    simp only [val, List.length_cons, Nat.pow_succ]
    have h1 : x.toNat < 4294967296 := by omega
    have : 4294967296 * val l + 4294967296 ≤ 4294967296 * 4294967296 ^ l.length := by rw [← Nat.mul_succ]; exact Nat.mul_le_mul_left _ this
    rw [Nat.mul_comm (4294967296 ^ l.length)]; omega
theorem val_wds (n v : Nat) : val (wds n v) = v % 4294967296 ^ n := by
  induction n generalizing v with
  | zero => simp [wds, val, Nat.mod_one]
  | succ n ih =>
    simp only [wds, val, ih, Int.toNat_natCast]
    rw [Nat.pow_succ, Nat.mul_comm (4294967296 ^ n), Nat.mod_mul]
theorem val_wds_lt (n v : Nat) (h : v < 4294967296 ^ n) : val (wds n v) = v := by rw [val_wds, Nat.mod_eq_of_lt h]
theorem wds_val (l : List Int) (h : okW l) : wds l.length (val l) = l := by
  induction l with
  | nil => rfl
  | cons x l ih =>
    obtain ⟨hx, hl⟩ := okW_cons.1 h
    simp only [List.length_cons, wds, val]
    have e1 : (x.toNat + 4294967296 * val l) % 4294967296 = x.toNat := by rw [Nat.add_mul_mod_self_left]; exact Nat.mod_eq_of_lt (by omega)
    have e2 : (x.toNat + 4294967296 * val l) / 4294967296 = val l := by rw [Nat.add_mul_div_left _ _ (by decide)]; rw [Nat.div_eq_of_lt (by omega)]; omega
    rw [e1, e2, ih hl]
    congr 1; omega
theorem wds_snoc (n v : Nat) : wds (n + 1) v = wds n v ++ [((v / 4294967296 ^ n % 4294967296 : Nat) : Int)] := by
  induction n generalizing v with
  | zero => simp [wds]
  | succ n ih =>
    show ((v % 4294967296 : Nat) : Int) :: wds (n + 1) (v / 4294967296) = (((v % 4294967296 : Nat) : Int) :: wds n (v / 4294967296)) ++ _
    rw [ih, List.cons_append, Nat.div_div_eq_div_mul, Nat.pow_succ, Nat.mul_comm 4294967296]
theorem digsF_eq (f v : Nat) (h : v < 2 ^ f) : ∀ g, v < 2 ^ g → digsF f v = digsF g v := by
  induction f generalizing v with
  | zero =>
    intro g _
    obtain rfl : v = 0 := by simpa using h
    cases g <;> simp [digsF]
  | succ f ih =>
    intro g hg
    by_cases h0 : v = 0
    · subst h0; cases g <;> simp [digsF]
    · cases g with
      | zero => exact absurd (by simpa using hg) h0
      | succ g =>
        simp only [digsF, if_neg h0]
        have hb : v / 4294967296 ≤ v / 2 := Nat.div_le_div_left (by decide) (by decide)
        have h1 : v / 2 < 2 ^ f := by rw [Nat.pow_succ] at h; omega
        have h2 : v / 2 < 2 ^ g := by rw [Nat.pow_succ] at hg; omega
        rw [ih (v / 4294967296) (by omega) g (by omega)]
theorem digs_zero : digs 0 = [] := rfl
theorem digs_pos (v : Nat) (h : 0 < v) : digs v = ((v % 4294967296 : Nat) : Int) :: digs (v / 4294967296) := by
  have h1 : v < 2 ^ (v.log2 + 1) := Nat.lt_log2_self
  have hb : v / 4294967296 ≤ v / 2 := Nat.div_le_div_left (by decide) (by decide)
  have h2 : v / 4294967296 < 2 ^ v.log2 := by rw [Nat.pow_succ] at h1; omega
  show digsF (v.log2 + 1) v = _
  simp only [digsF, if_neg (show ¬ v = 0 by omega)]
  rw [digsF_eq _ _ h2 ((v / 4294967296).log2 + 1) Nat.lt_log2_self]
  rfl
theorem digs_ok (v : Nat) : okW (digs v) := by
  induction v using Nat.strongRecOn with
  | _ v ih =>
    by_cases h : v = 0
    · subst h; exact okW_nil
    · rw [digs_pos v (by omega)]
      exact okW_cons.2 ⟨by constructor <;> omega, ih _ (Nat.div_lt_self (by omega) (by decide))⟩
theorem val_digs (v : Nat) : val (digs v) = v := by
  induction v using Nat.strongRecOn with
  | _ v ih =>
    by_cases h : v = 0
    · subst h; rfl
    · rw [digs_pos v (by omega), val, ih _ (Nat.div_lt_self (by omega) (by decide))]
      simp only [Int.toNat_natCast]
      exact Nat.mod_add_div v 4294967296
theorem digs_nil {v : Nat} : digs v = [] ↔ v = 0 := ⟨fun h => by rw [← val_digs v, h]; rfl, fun h => by rw [h]; rfl⟩
theorem digs_val (l : List Int) (h : okW l) (hl : ∀ x, l.getLast? = some x → x ≠ 0) : digs (val l) = l := by
  induction l with
  | nil => rfl
  | cons x l ih =>
    obtain ⟨hx, hok⟩ := okW_cons.1 h
    have e1 : (x.toNat + 4294967296 * val l) % 4294967296 = x.toNat := by rw [Nat.add_mul_mod_self_left]; exact Nat.mod_eq_of_lt (by omega)
    have e2 : (x.toNat + 4294967296 * val l) / 4294967296 = val l := by rw [Nat.add_mul_div_left _ _ (by decide)]; rw [Nat.div_eq_of_lt (by omega)]; omega
    have hl' : ∀ y, l.getLast? = some y → y ≠ 0 := by
      intro y hy
      apply hl
      cases l with
      | nil => simp at hy
      | cons z l => simpa [List.getLast?_cons_cons] using hy
    have hpos : 0 < x.toNat + 4294967296 * val l := by
      cases l with
      | nil => have := hl x rfl; simp [val]; omega
      | cons z l =>
        have := ih hok hl'
        have : val (z :: l) ≠ 0 := fun e => by rw [e, digs_zero] at this; cases this
        have : 0 < val (z :: l) := by omega
        have := Nat.mul_le_mul_left 4294967296 this
        omega
    show digs (x.toNat + 4294967296 * val l) = _
    rw [digs_pos _ hpos, e1, e2, ih hok hl']
    congr 1; omega
theorem val_snoc (l : List Int) (x : Int) : val (l ++ [x]) = val l + 4294967296 ^ l.length * x.toNat := by
  induction l with
  | nil => simp [val]
  | cons y l ih =>
    simp only [List.cons_append, val, ih, List.length_cons, Nat.pow_succ]
    rw [Nat.mul_add, Nat.add_assoc, ← Nat.mul_assoc, Nat.mul_comm 4294967296 (4294967296 ^ l.length)]
theorem digs_len_le (v n : Nat) (h : v < 4294967296 ^ n) : (digs v).length ≤ n := by
  induction n generalizing v with
  | zero =>
    obtain rfl : v = 0 := by simpa using h
    simp [digs_zero]
  | succ n ih =>
    by_cases h0 : v = 0
    · subst h0; simp [digs_zero]
    · rw [digs_pos v (by omega), List.length_cons]
      have := ih (v / 4294967296) (by rw [Nat.div_lt_iff_lt_mul (by decide), ← Nat.pow_succ]; exact h)
      omega
theorem digs_last (v : Nat) : ∀ x, (digs v).getLast? = some x → x ≠ 0 := by
  induction v using Nat.strongRecOn with
  | _ v ih =>
    intro x hx
    by_cases h : v = 0
    · subst h; simp [digs_zero] at hx
    · rw [digs_pos v (by omega)] at hx
      cases hd : digs (v / 4294967296) with
      | nil =>
        rw [hd] at hx
        simp at hx
        have := digs_nil.1 hd
        omega
      | cons z l =>
        rw [hd, List.getLast?_cons_cons] at hx
        exact ih (v / 4294967296) (Nat.div_lt_self (by omega) (by decide)) x (by rw [hd]; exact hx)
def sumv : List Int → Int
  | [] => 0
  | x :: l => x + 4294967296 * sumv l
theorem sumv_nonneg (l : List Int) (h : ∀ v ∈ l, 0 ≤ v) : 0 ≤ sumv l := by
  induction l with
  | nil => simp [sumv]
  | cons x l ih =>
    have h1 := h x (by simp)
    have h2 := ih fun v hv => h v (by simp [hv])
    simp only [sumv]; omega
theorem crun_eq (s : List Int) (c : Nat) (vs : List Int) (h : ∀ v ∈ vs, 0 ≤ v) : crun (s, (c : Int)) vs = (s ++ wds vs.length (c + (sumv vs).toNat), (((c + (sumv vs).toNat) / 4294967296 ^ vs.length : Nat) : Int)) := by
  induction vs generalizing s c with
  | nil => simp [crun, wds, sumv]
  | cons v vs ih =>
    have hv := h v (by simp)
    have hn := sumv_nonneg vs fun u hu => h u (by simp [hu])
    obtain ⟨n, rfl⟩ := Int.eq_ofNat_of_zero_le hv
    have e1 : cstep (s, (c : Int)) (n : Int) = (s ++ [(((c + n) % 4294967296 : Nat) : Int)], (((c + n) / 4294967296 : Nat) : Int)) := by
      simp only [cstep]; congr 1
      · congr 2; omega
      · omega
    show crun (cstep (s, (c : Int)) (n : Int)) vs = _
    rw [e1, ih _ _ fun u hu => h u (by simp [hu])]
    have e2 : (sumv ((n : Int) :: vs)).toNat = n + 4294967296 * (sumv vs).toNat := by simp only [sumv]; omega
    rw [e2, List.length_cons, show c + (n + 4294967296 * (sumv vs).toNat) = (c + n) + 4294967296 * (sumv vs).toNat by omega]
    have e3 : ((c + n) + 4294967296 * (sumv vs).toNat) % 4294967296 = (c + n) % 4294967296 := Nat.add_mul_mod_self_left _ _ _
    have e4 : ((c + n) + 4294967296 * (sumv vs).toNat) / 4294967296 = (c + n) / 4294967296 + (sumv vs).toNat := Nat.add_mul_div_left _ _ (by decide)
    congr 1
    · simp only [wds, e3, e4, List.append_assoc, List.cons_append, List.nil_append]
    · rw [Nat.pow_succ, Nat.mul_comm (4294967296 ^ vs.length) 4294967296, ← Nat.div_div_eq_div_mul, e4]
theorem upto_shift {α : Type} (f : Nat → α) (n : Nat) : upto f (n + 1) = f 0 :: upto (fun j => f (j + 1)) n := by
  simp [upto, List.range_succ_eq_map, List.map_map, Function.comp_def]
def gat (l : List Int) (j : Nat) : Int := l[j]?.getD 0
theorem sumv_gat (l : List Int) (n : Nat) (h : l.length ≤ n) (hw : okW l) : sumv (upto (gat l) n) = val l := by
  induction n generalizing l with
  | zero =>
    obtain rfl : l = [] := by simpa using h
    simp [upto, sumv, val]
  | succ n ih =>
    rw [upto_shift]
    cases l with
    | nil =>
      have := ih [] (by simp) okW_nil
      simp only [sumv, val]
      have e : (fun j => gat [] (j + 1)) = gat [] := by funext j; simp [gat]
      rw [e, this]; simp [gat, val]
    | cons x l =>
      obtain ⟨hx, hl⟩ := okW_cons.1 hw
      have := ih l (by simpa using h) hl
      have e : (fun j => gat (x :: l) (j + 1)) = gat l := by funext j; simp [gat]
      simp only [sumv, val, e, this]
      simp [gat]; omega
theorem sumv_map2 (f : Nat → Int) (g : Nat → Int) (c d : Int) (n : Nat) : sumv (upto (fun j => c * f j + d * g j) n) = c * sumv (upto f n) + d * sumv (upto g n) := by
  induction n generalizing f g with
  | zero => simp [upto, sumv]
  | succ n ih =>
    rw [upto_shift, upto_shift, upto_shift]
    simp only [sumv, ih (fun j => f (j + 1)) (fun j => g (j + 1))]
    rw [Int.mul_add, Int.mul_add, Int.mul_add, ← Int.mul_assoc, ← Int.mul_assoc, ← Int.mul_assoc, ← Int.mul_assoc, Int.mul_comm c 4294967296, Int.mul_comm d 4294967296]
    omega
theorem upto_map {α β : Type} (f : α → β) (g : Nat → α) (n : Nat) : (upto g n).map f = upto (fun j => f (g j)) n := by simp [upto, List.map_map, Function.comp_def]
theorem sums_val (la lb : List Int) (ha : okW la) (hb : okW lb) : sumv (sums (upto (pr la lb (wrd_of la ha) (wrd_of lb hb)) (mx la lb))) = val la + val lb := by
  unfold sums
  rw [upto_map]
  have : (fun j => (pr la lb (wrd_of la ha) (wrd_of lb hb) j).1.1 + (pr la lb (wrd_of la ha) (wrd_of lb hb) j).1.2) = fun j => 1 * gat la j + 1 * gat lb j := by funext j; simp [pr, gat]
  rw [this, sumv_map2, sumv_gat la _ (by unfold mx; omega) ha, sumv_gat lb _ (by unfold mx; omega) hb]; omega
theorem add_words (la lb : List Int) (ha : okW la) (hb : okW lb) :
    (crun ([], 0) (sums (upto (pr la lb (wrd_of la ha) (wrd_of lb hb)) (mx la lb)))).1 ++ [(crun ([], 0) (sums (upto (pr la lb (wrd_of la ha) (wrd_of lb hb)) (mx la lb)))).2 % 4294967296] = wds (mx la lb + 1) (val la + val lb) := by
  have h := crun_eq [] 0 (sums (upto (pr la lb (wrd_of la ha) (wrd_of lb hb)) (mx la lb))) (fun v hv => (sums_bound _ v hv).1)
  rw [sums_len, upto_length, sums_val la lb ha hb] at h
  rw [show ((0 : Nat) : Int) = 0 from rfl] at h
  rw [h, wds_snoc]
  have : ((val la : Int) + val lb).toNat = val la + val lb := by omega
  simp only [this, Nat.zero_add, List.nil_append]
  congr 1
theorem sumv_const (c : Int) (n : Nat) : 4294967295 * sumv (upto (fun _ => c) n) = c * ((4294967296 ^ n : Nat) - 1) := by
  induction n with
  | zero => simp [upto, sumv]
  | succ n ih =>
    rw [upto_shift]
    simp only [sumv]
    have e : ((4294967296 ^ (n + 1) : Nat) : Int) = 4294967296 * ((4294967296 ^ n : Nat) : Int) := by rw [Nat.pow_succ, Int.natCast_mul]; omega
    rw [Int.mul_add, ← Int.mul_assoc, Int.mul_comm 4294967295 4294967296, Int.mul_assoc, ih, e]
    rw [show (4294967296 : Int) * (c * (((4294967296 ^ n : Nat) : Int) - 1)) = c * (4294967296 * ((4294967296 ^ n : Nat) : Int) - 4294967296) by
      rw [← Int.mul_assoc, Int.mul_comm 4294967296 c, Int.mul_assoc, Int.mul_sub]; rfl]
    rw [Int.mul_comm 4294967295 c, ← Int.mul_add]
    congr 1; omega
theorem subs_val (la lb : List Int) (ha : okW la) (hb : okW lb) : sumv (subs (upto (pr la lb (wrd_of la ha) (wrd_of lb hb)) (mx la lb))) = val la - val lb + ((4294967296 ^ mx la lb : Nat) - 1) := by
  unfold subs
  rw [upto_map]
  have : (fun j => (pr la lb (wrd_of la ha) (wrd_of lb hb) j).1.1 + 4294967296 - 1 - (pr la lb (wrd_of la ha) (wrd_of lb hb) j).1.2) = fun j => 1 * (1 * gat la j + (-1) * gat lb j) + 4294967295 * ((fun _ => 1) j) := by funext j; show (la[j]?.getD 0 + 4294967296 - 1 - lb[j]?.getD 0 : Int) = 1 * (1 * la[j]?.getD 0 + (-1) * lb[j]?.getD 0) + 4294967295 * 1; omega
  rw [this, sumv_map2 (fun j => 1 * gat la j + (-1) * gat lb j) (fun _ => 1), sumv_const, sumv_map2, sumv_gat la _ (by unfold mx; omega) ha, sumv_gat lb _ (by unfold mx; omega) hb]; omega
theorem sub_words (la lb : List Int) (ha : okW la) (hb : okW lb) (hle : val lb ≤ val la) :
    ∃ z, (crun ([0], 1) (subs (upto (pr la lb (wrd_of la ha) (wrd_of lb hb)) (mx la lb)))).1 ++ [(crun ([0], 1) (subs (upto (pr la lb (wrd_of la ha) (wrd_of lb hb)) (mx la lb)))).2 % 4294967296] = 0 :: (wds (mx la lb) (val la - val lb) ++ [z]) := by
  have h := crun_eq [0] 1 (subs (upto (pr la lb (wrd_of la ha) (wrd_of lb hb)) (mx la lb))) (fun v hv => (subs_bound _ v hv).1)
  rw [subs_len, upto_length, subs_val la lb ha hb] at h
  rw [show ((1 : Nat) : Int) = 1 from rfl] at h
  rw [h]
  have hp : 0 < 4294967296 ^ mx la lb := Nat.pow_pos (by decide)
  have e : 1 + ((val la : Int) - val lb + (((4294967296 ^ mx la lb : Nat) : Int) - 1)).toNat = (val la - val lb) + 4294967296 ^ mx la lb := by omega
  rw [e]
  refine ⟨(((val la - val lb + 4294967296 ^ mx la lb) / 4294967296 ^ mx la lb : Nat) : Int) % 4294967296, ?_⟩
  have e2 : wds (mx la lb) (val la - val lb + 4294967296 ^ mx la lb) = wds (mx la lb) (val la - val lb) := by
    rw [← wds_val (wds (mx la lb) (val la - val lb + 4294967296 ^ mx la lb)) (wds_ok _ _), ← wds_val (wds (mx la lb) (val la - val lb)) (wds_ok _ _), wds_length, wds_length, val_wds, val_wds, Nat.add_mod_right]
  rw [e2]
  rfl
theorem cmp_top {a b P x y : Nat} (ha : a < P) (hb : b < P) : (x < y → a + P * x < b + P * y) ∧ (x = y → (a + P * x < b + P * y ↔ a < b)) := by
  refine ⟨fun h => ?_, fun h => by rw [h]; omega⟩
  have : P * (x + 1) ≤ P * y := Nat.mul_le_mul_left P h
  rw [Nat.mul_succ] at this; omega
theorem take_snoc' (l : List Int) (k : Nat) (h : k < l.length) : l.take (k + 1) = l.take k ++ [l[k]?.getD 0] := by
  rw [List.take_succ_eq_append_getElem h, List.getElem?_eq_getElem h]; rfl
theorem val_take_lt (l : List Int) (hl : okW l) (k : Nat) (h : k ≤ l.length) : val (l.take k) < 4294967296 ^ k := by
  have := val_lt (l.take k) (fun x hx => hl x (List.mem_of_mem_take hx))
  rwa [List.length_take, Nat.min_eq_left h] at this
theorem cone_step (a b P : Nat) (x y : Int) (hx : 0 ≤ x) (hy : 0 ≤ y) (h1 : a < P) (h2 : b < P) : (if x < y then -1 else if y < x then 1 else (if a < b then -1 else if b < a then 1 else 0)) = if a + P * x.toNat < b + P * y.toNat then (-1 : Int) else if b + P * y.toNat < a + P * x.toNat then 1 else 0 := by
  by_cases c1 : x < y
  · have := (cmp_top h1 h2 (x := x.toNat) (y := y.toNat)).1 (by omega)
    rw [if_pos c1, if_pos this]
  · by_cases c2 : y < x
    · have := (cmp_top h2 h1 (x := y.toNat) (y := x.toNat)).1 (by omega)
      rw [if_neg c1, if_pos c2, if_neg (by omega), if_pos this]
    · have e : x.toNat = y.toNat := by omega
      have q1 := (cmp_top h1 h2 (x := x.toNat) (y := y.toNat)).2 e
      have q2 := (cmp_top h2 h1 (x := y.toNat) (y := x.toNat)).2 e.symm
      rw [if_neg c1, if_neg c2]
      simp only [q1, q2]
theorem cfold_val (la lb : List Int) (ha : okW la) (hb : okW lb) (hl : la.length = lb.length) : ∀ k, k ≤ la.length → cfold (upto (pr la lb (wrd_of la ha) (wrd_of lb hb)) k) = if val (la.take k) < val (lb.take k) then -1 else if val (lb.take k) < val (la.take k) then 1 else 0 := by
  intro k
  induction k with
  | zero => intro _; simp [upto, cfold, val]
  | succ k ih =>
    intro hk
    rw [upto_succ, cfold_snoc, ih (by omega), take_snoc' la k (by omega), take_snoc' lb k (by omega), val_snoc, val_snoc]
    have h1 := val_take_lt la ha k (by omega)
    have h2 := val_take_lt lb hb k (by omega)
    have ta := wrd_of la ha k
    have tb := wrd_of lb hb k
    simp only [List.length_take, Nat.min_eq_left (show k ≤ la.length by omega), Nat.min_eq_left (show k ≤ lb.length by omega)]
    exact cone_step _ _ _ _ _ ta.1 tb.1 h1 h2
theorem cfold_all (la lb : List Int) (ha : okW la) (hb : okW lb) (n : Nat) (hla : la.length = n) (hlb : lb.length = n) : cfold (upto (pr la lb (wrd_of la ha) (wrd_of lb hb)) n) = if val la < val lb then -1 else if val lb < val la then 1 else 0 := by
  rw [cfold_val la lb ha hb (by omega) n (by omega), List.take_of_length_le (by omega), List.take_of_length_le (by omega)]
theorem ufold_val (t : List Int) (h : okW t) (h2 : t.length ≤ 2) : (if t.length = 1 then ufold (upto (pr t [] (wrd_of t h) Wrd_nil) (mx t [])) / 4294967296 else ufold (upto (pr t [] (wrd_of t h) Wrd_nil) (mx t []))) = val t := by
  match t, h, h2 with
  | [], _, _ => rfl
  | [x], h, _ =>
    have := h x (by simp)
    simp [mx, upto, ufold, ustep, pr, val, List.range_succ]
    omega
  | [x, y], h, _ =>
    have h1 := h x (by simp)
    have h2 := h y (by simp)
    simp [mx, upto, ufold, ustep, pr, val, List.range_succ]
    omega
end Wd
end Go.Proofs.Ytnghcgmkncbnnaa
end
