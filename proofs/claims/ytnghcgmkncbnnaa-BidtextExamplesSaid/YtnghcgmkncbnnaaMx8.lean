/- Part 8 of the proof: Magnitudes and integers of package whole as the model runs them: trim, made, Clone, Sign, Neg, FromInt64. Integers of package whole as the model runs them: Neg, FromInt64. Integers of package whole as the model runs them: FromInt64. Integers of package whole as the model runs them: trim of what is trimmed, IsCanonical. Magnitudes of package whole as the model runs them: add, sub, cmp, by what they mean. Dividing a magnitude by a small number: the plain law and the contract. Multiplying two magnitudes: the plain law and the contract. Integers of package whole as the model runs them: Add. Integers of package whole as the model runs them: Sub, Cmp, Int64. Dividing magnitudes of package whole as -/
import Derived.ArgAppend
import Derived.Below
import Derived.BigQuiet
import Derived.Deep.AppendLies
import Derived.Deep.CutBlock
import Derived.Deep.DeepCutAuto
import Derived.Deep.Draws
import Derived.Deep.LoopGhost
import Derived.Deep.OwnRows
import Derived.Deep.QuietTactic
import Derived.Deep.RegionHeld3
import Derived.KernelRfl
import Derived.Laws.BitsLemmas
import Derived.Laws.BytesArg
import Derived.Laws.IdiomCopy
import Derived.Laws.MakeOwn
import Derived.Laws.OwnMore
import Derived.Laws.Rows
import Derived.Laws.Slices
import Derived.Lib.AppendStr
import Derived.Lib.ConvBytes
import Derived.Lib.SliceRun
import Derived.Maps.AppendAt
import Derived.OrdersHeld
import Derived.OwnWalk
import Derived.RowKit
import Derived.RowKit3
import Derived.Tactics
import Derived.Test.YtnghcgmkncbnnaaProg
import Derived.WalkKit
import Derived.WalkSpells
import Derived.WideLaws
import Derived.Test.YtnghcgmkncbnnaaMx2
import Derived.Test.YtnghcgmkncbnnaaMx3
import Derived.Test.YtnghcgmkncbnnaaMx4
import Derived.Test.YtnghcgmkncbnnaaMx5
import Derived.Test.YtnghcgmkncbnnaaMx6
import Derived.Test.YtnghcgmkncbnnaaMx7
set_option linter.unusedVariables false
set_option linter.unusedSimpArgs false
section
namespace Go.Proofs.Ytnghcgmkncbnnaa
open Go.RowKit Go.Proofs.YtnghcgmkncbnnaaW.PrintWords Go.Proofs.YtnghcgmkncbnnaaW.PrintLast Go.Proofs.YtnghcgmkncbnnaaW.PrintMore
namespace Ar
open Wd
def Uv (W : World) (ok : Nat → Prop) (v : Value) (l : List Int) : Prop := Kd.V (Kd.int .u32) 0 W 0 ok v l
theorem Uv.below {W W1 : World} {ok : Nat → Prop} {v : Value} {l : List Int} (h : Uv W ok v l) (hb : Below W.heap.size W W1) : Uv W1 ok v l := Kd.V_below h hb
theorem Uv.mono {W : World} {ok ok' : Nat → Prop} {v : Value} {l : List Int} (h : Uv W ok v l) (hk : ∀ k, ok k → ok' k) : Uv W ok' v l := Kd.V_mono h hk
theorem Uv.bound {W : World} {ok : Nat → Prop} {v : Value} {l : List Int} (h : Uv W ok v l) : Uv W (fun k => ok k ∧ k < W.heap.size) v l := Kd.V_bound h
theorem Uv.alloc {W : World} {ok : Nat → Prop} {v : Value} {l : List Int} (h : Uv W ok v l) (o : Obj) : Uv (W.alloc o) ok v l := Kd.V_alloc h o
theorem Uv.drew {W : World} {ok : Nat → Prop} {v : Value} {l : List Int} (h : Uv W ok v l) : Uv W.drew ok v l := Kd.V_drew h
theorem Uv.far {W : World} {ok : Nat → Prop} {v : Value} {l : List Int} (h : Uv W ok v l) {p : Addr} (hok : ∀ k, ok k → k ≠ p.block) (u : Value) : Uv (W.setCell p u) ok v l := Kd.V_far h hok u
theorem Uv.nil (W : World) (ok : Nat → Prop) : Uv W ok (.slice none 0 0) [] := Kd.V_nil _ _ _ _ _
theorem Uv.slice {W : World} {ok : Nat → Prop} {v : Value} {l : List Int} (h : Uv W ok v l) : ∃ A c, v = .slice A l.length c ∧ l.length ≤ c ∧ Kd.C (Kd.int .u32) W A l.length l := by
  obtain ⟨A, c, rfl, hl, hf⟩ := h
  exact ⟨A, c, rfl, hl, Kd.F_now hf⟩
theorem Uv.one {W : World} {ok : Nat → Prop} {v : Value} {l : List Int} (h : Uv W ok v l) : v.oneCell' = true := by obtain ⟨A, c, rfl, _⟩ := h; rfl
theorem Uv.keep {W W1 : World} {ok : Nat → Prop} {v : Value} {l : List Int} (h : Uv W ok v l) (hk : ∀ k, ok k → k < W.heap.size → W1.heap[k]? = W.heap[k]?) : Uv W1 ok v l := Kd.V_step h hk
theorem rd_get (l : List Int) (i : Int) : rd l i = l[i.toNat]?.getD 0 := by simp [rd, List.getD_eq_getElem?_getD]
theorem okW_take {l : List Int} (h : okW l) (n : Nat) : okW (l.take n) := fun x hx => h x (List.mem_of_mem_take hx)
theorem trim_f (l : List Int) (h : okW l) (hlen : l.length < 9223372036854775807) : C.whole_trim.f (l.length + 1) l = some (digs (val l)) := by
  show C.whole_trim.l0 (l.length + 1) l = _
  generalize hn : l.length = n
  induction n generalizing l with
  | zero =>
    obtain rfl : l = [] := List.length_eq_zero_iff.1 hn
    rfl
  | succ n ih =>
    have e1 : wrap64 ((l.length : Int) - 1) = n := by unfold wrap64; omega
    have hlast : l = l.take n ++ [l[n]?.getD 0] := by
      have := take_snoc' l n (by omega)
      rwa [List.take_of_length_le (by omega)] at this
    have hx := (wrd_of l h n)
    rw [C.whole_trim.l0, e1, if_pos (by omega), if_pos (by omega), if_pos (by omega), if_pos (show (n : Int) ≤ (l.length : Int) by omega), rd_get]
    simp only [Int.toNat_natCast]
    by_cases h0 : l[n]?.getD 0 = 0
    · rw [if_pos h0, ih (l.take n) (okW_take h n) (by rw [List.length_take]; omega) (by rw [List.length_take]; omega)]
      have hv : val l = val (l.take n) := by conv => lhs; rw [hlast, val_snoc, h0]
                                             simp
      rw [hv]
    · rw [if_neg h0]
      congr 1
      refine (digs_val l h ?_).symm
      intro x hx'
      rw [hlast, List.getLast?_append] at hx'
      simp at hx'
      rw [← hx']; exact h0
theorem trim_c {w : World} {ok : Nat → Prop} {v : Value} {l : List Int} (hv : Uv w ok v l) (hl : okW l) (hlen : l.length < 1073741824) :
    Calls Try.prog 76 #[v] w fun e w' => ∃ v', e = .returned v' ∧ Uv w' (fun k => ok k ∨ w.heap.size ≤ k) v' (digs (val l)) ∧ Below w.heap.size w w' := by
  have hv0 := hv
  obtain ⟨A, c, rfl, hc, hf⟩ := hv
  exact C.whole_trim.calls _ ok A c l _ w hv0 (trim_f l hl (by omega))
theorem trim_h {w : World} {ok : Nat → Prop} {v : Value} {l : List Int} (hv : Uv w ok v l) (hl : okW l) (hlen : l.length < 1073741824) :
    Calls Try.prog 76 #[v] w fun e w' => ∃ (A : Option Addr) (r : List Int) (c : Nat), e = .returned (.slice A r.length c) ∧ Hid (r = digs (val l)) ∧ Uv w' (fun k => ok k ∨ w.heap.size ≤ k) (.slice A r.length c) r ∧ Below w.heap.size w w' :=
  (trim_c hv hl hlen).mono fun e w' ⟨v', he, hu, hb⟩ => by
    obtain ⟨A, c, rfl, _, _⟩ := hu.slice
    exact ⟨A, _, c, he, rfl, hu, hb⟩
set_option maxRecDepth 100000 in
set_option maxHeartbeats 2000000 in
theorem made_c {w : World} {ok : Nat → Prop} {v : Value} {l : List Int} (neg : Bool) (hv : Uv w ok v l) (hl : okW l) (hlen : l.length < 1073741824) :
    Calls Try.prog 86 #[.bool neg, v] w fun e w' => ∃ v', e = .returned (.agg #[.bool (neg && decide (val l ≠ 0)), v']) ∧ Uv w' (fun k => ok k ∨ w.heap.size ≤ k) v' (digs (val l)) ∧ Below w.heap.size w w' := by
  have hu := Try.underlying76
  have hN := blk_new w (.cells #[.bool false, .slice none 0 0] 76)
  have hB := (Below.refl w.heap.size w).alloc (Nat.le_refl _) (.cells #[.bool false, .slice none 0 0] 76)
  have HT := Lib.hid (trim_c ((hv.bound).alloc (.cells #[.bool false, .slice none 0 0] 76)) hl hlen)
  have fin : ∀ (w1 : World) (b : Bool) (v' : Value), b = (neg && decide (val l ≠ 0)) → Uv w1 (fun k => (ok k ∧ k < w.heap.size) ∨ (w.alloc (.cells #[.bool false, .slice none 0 0] 76)).heap.size ≤ k) v' (digs (val l)) → Below w.heap.size w w1 →
      ∃ v'', Ending.returned (.agg #[.bool b, v']) = .returned (.agg #[.bool (neg && decide (val l ≠ 0)), v'']) ∧ Uv ((w1.setCell ⟨w.heap.size, 0, none⟩ (.bool b)).setCell ⟨w.heap.size, 1, none⟩ v') (fun k => ok k ∨ w.heap.size ≤ k) v'' (digs (val l)) ∧ Below w.heap.size w ((w1.setCell ⟨w.heap.size, 0, none⟩ (.bool b)).setCell ⟨w.heap.size, 1, none⟩ v') := by
    intro w1 b v' hb hu hB
    rw [World.size_alloc] at hu
    refine ⟨v', by rw [hb], ((hu.far (p := ⟨w.heap.size, 0, none⟩) (fun k hk => ?_) _).far (p := ⟨w.heap.size, 1, none⟩) (fun k hk => ?_) _).mono (fun k hk => ?_), (hB.setCell (p := ⟨w.heap.size, 0, none⟩) (Nat.le_refl _) _).setCell (p := ⟨w.heap.size, 1, none⟩) (Nat.le_refl _) _⟩
    · show k ≠ w.heap.size; omega
    · show k ≠ w.heap.size; omega
    · exact hk.imp (fun h => h.1) (fun h => by omega)
  have HF := Lib.hid fin
  clear fin
  have hd : decide (0 < (digs (val l)).length) = decide (val l ≠ 0) := by
    by_cases h : val l = 0
    · rw [h]; rfl
    · rw [decide_eq_true h, decide_eq_true]
      exact List.length_pos_iff.2 (fun e => h (digs_nil.1 e))
  have HD := Lib.hid hd
  clear hd
  cases neg with
  | true =>
    go_enter Try.func86, Try.ntmps86
    go_wp2_with (go_at_call 76; refine HT.out.mono ?_; rintro e w1 ⟨v', rfl, hv', hb⟩; have hk := blk_below hN hb; replace hB := hB.trans (hb.mono (by simp)); obtain ⟨A', c', rfl, _, _⟩ := hv'.slice; have hz0 := (blk_cell hk 0); have hz1 := (blk_cell hk 1); have hf0 := blk_frozen hk 0; have hf1 := blk_frozen hk 1)
    exact bodyPost_ret (results_cell_row rfl _ _ w.heap.size 76 #[.bool (decide (0 < (digs (val l)).length)), .slice A' (digs (val l)).length c'] (0, 0) _ rfl (blk_set (blk_set hk 0 _) 1 _) Try.underlying76 rfl (by kernel_rfl)) rfl (HF.out w1 _ _ (by rw [HD.out]; rfl) hv' hB)
  | false =>
    go_enter Try.func86, Try.ntmps86
    go_wp2_with (go_at_call 76; refine HT.out.mono ?_; rintro e w1 ⟨v', rfl, hv', hb⟩; have hk := blk_below hN hb; replace hB := hB.trans (hb.mono (by simp)); obtain ⟨A', c', rfl, _, _⟩ := hv'.slice; have hz0 := (blk_cell hk 0); have hz1 := (blk_cell hk 1); have hf0 := blk_frozen hk 0; have hf1 := blk_frozen hk 1)
    exact bodyPost_ret (results_cell_row rfl _ _ w.heap.size 76 #[.bool false, .slice A' (digs (val l)).length c'] (0, 0) _ rfl (blk_set (blk_set hk 0 _) 1 _) Try.underlying76 rfl (by kernel_rfl)) rfl (HF.out w1 _ _ rfl hv' hB)
theorem made_h {w : World} {ok : Nat → Prop} {v : Value} {l : List Int} (neg : Bool) (hv : Uv w ok v l) (hl : okW l) (hlen : l.length < 1073741824) :
    Calls Try.prog 86 #[.bool neg, v] w fun e w' => ∃ (b : Bool) (A : Option Addr) (r : List Int) (c : Nat), e = .returned (.agg #[.bool b, .slice A r.length c]) ∧ Hid (b = (neg && decide (val l ≠ 0)) ∧ r = digs (val l)) ∧ Uv w' (fun k => ok k ∨ w.heap.size ≤ k) (.slice A r.length c) r ∧ Below w.heap.size w w' :=
  (made_c neg hv hl hlen).mono fun e w' ⟨v', he, hu, hb⟩ => by
    obtain ⟨A, c, rfl, _, _⟩ := hu.slice
    exact ⟨_, A, _, c, he, ⟨rfl, rfl⟩, hu, hb⟩
theorem uv_own {W : World} {base : Nat} {v : Value} {l : List Int} (h : W.ownsRow base 149 1 v l.length (nums .u32 l)) : Uv W (fun k => base ≤ k) v l :=
  (Kd.R_V (e := 149) (base' := 0) (Kd.R_of_own (enc := Value.int .u32) (h1 := fun _ => rfl) h (fun k hk => own_base h k hk)) : Kd.V (Kd.int .u32) 149 W 0 _ v l)
theorem info_w : (Try.prog.info? 149).map (fun i => (i.zero, i.size, i.bytes)) = some (some (.int .u32 0), 1, 4) := by kernel_rfl
theorem reads_c {W : World} {A : Option Addr} {l : List Int} (h : Kd.C (Kd.int .u32) W A l.length l) : ReadsInt W .u32 A l.length l := Kd.reads_of_C (enc := Value.int .u32) (d := (0 : Int)) (h1 := fun _ => rfl) h
set_option maxRecDepth 100000 in
set_option maxHeartbeats 2000000 in
theorem clone_c {w : World} {ok : Nat → Prop} {v : Value} {l : List Int} (hv : Uv w ok v l) (hlen : l.length < 1073741824) :
    Calls Try.prog 97 #[v] w fun e w' => ∃ v', e = .returned v' ∧ Uv w' (fun k => w.heap.size ≤ k) v' l ∧ Below w.heap.size w w' := by
  have qT : ∀ (w : World) (a : Option Addr) (n c n' c' : Nat), (binOp .eql 74 (.slice a n c) (.slice none n' c')).run Try.prog w = .ok (.bool a.isNone) w := fun w a n c n' c' => Lib.run_eql_slice_nil w _ _ a n c n' c' Try.underlying74
  obtain ⟨A, c, rfl, hc, hC⟩ := hv.slice
  have hR := Lib.hid (reads_c hC)
  clear hC
  cases A with
  | none =>
    have h0 : l.length = 0 := by
      rcases Nat.eq_zero_or_pos l.length with h | h
      · exact h
      · obtain ⟨_, h', _⟩ := hR.out.2.2 h; cases h'
    have HL := Lib.hid (List.length_eq_zero_iff.1 h0)
    clear h0
    go_enter Try.func97, Try.ntmps97
    go_wp2
    go_ret
    refine ⟨_, rfl, ?_, Below.refl _ _⟩
    rw [HL.out]; exact Uv.nil _ _
  | some ad =>
    go_enter Try.func97, Try.ntmps97
    go_wp2_with (at_builtin; refine print_append_row (w0 := w) w.heap.size rfl (.tmp 5) (.tmp 6) 74 149 .u32 4 rfl Try.underlying74 info_w (by decide) (.slice (some ⟨w.heap.size, 0, none⟩) 0 0) [] l (some ad) l.length c rfl rfl (own_lit w w.heap.size 149 .u32 [] (Nat.le_refl _) (by simp)) (hR.out.below ((Below.refl w.heap.size w).alloc (Nat.le_refl _) _)) ((Below.refl w.heap.size w).alloc (Nat.le_refl _) _) (by simp) (by simp; omega) ?_; intro v1 w1 hown hb1 hg hat)
    go_ret
    exact ⟨_, rfl, uv_own (by simpa using hown), hb1⟩
def ZV (W : World) (ok : Nat → Prop) (v : Value) (z : Int) : Prop := ∃ sv, v = .agg #[.bool (decide (z < 0)), sv] ∧ Uv W ok sv (digs z.natAbs)
theorem ZV.below {W W1 : World} {ok : Nat → Prop} {v : Value} {z : Int} (h : ZV W ok v z) (hb : Below W.heap.size W W1) : ZV W1 ok v z := by obtain ⟨s, e, h⟩ := h; exact ⟨s, e, h.below hb⟩
theorem ZV.mono {W : World} {ok ok' : Nat → Prop} {v : Value} {z : Int} (h : ZV W ok v z) (hk : ∀ k, ok k → ok' k) : ZV W ok' v z := by obtain ⟨s, e, h⟩ := h; exact ⟨s, e, h.mono hk⟩
theorem ZV.bound {W : World} {ok : Nat → Prop} {v : Value} {z : Int} (h : ZV W ok v z) : ZV W (fun k => ok k ∧ k < W.heap.size) v z := by obtain ⟨s, e, h⟩ := h; exact ⟨s, e, h.bound⟩
theorem ZV.alloc {W : World} {ok : Nat → Prop} {v : Value} {z : Int} (h : ZV W ok v z) (o : Obj) : ZV (W.alloc o) ok v z := by obtain ⟨s, e, h⟩ := h; exact ⟨s, e, h.alloc o⟩
theorem ZV.drew {W : World} {ok : Nat → Prop} {v : Value} {z : Int} (h : ZV W ok v z) : ZV W.drew ok v z := by obtain ⟨s, e, h⟩ := h; exact ⟨s, e, h.drew⟩
theorem ZV.far {W : World} {ok : Nat → Prop} {v : Value} {z : Int} (h : ZV W ok v z) {p : Addr} (hok : ∀ k, ok k → k ≠ p.block) (u : Value) : ZV (W.setCell p u) ok v z := by obtain ⟨s, e, h⟩ := h; exact ⟨s, e, h.far hok u⟩
theorem ZV.nil (W : World) (ok : Nat → Prop) : ZV W ok (.agg #[.bool false, .slice none 0 0]) 0 := ⟨_, rfl, Uv.nil _ _⟩
def Sm (z : Int) : Prop := (digs z.natAbs).length < 1048576
theorem digs_lt (v : Nat) : ∀ n, (digs v).length ≤ n → v < 4294967296 ^ n := by
  intro n h
  have := val_lt (digs v) (digs_ok v)
  rw [val_digs] at this
  exact Nat.lt_of_lt_of_le this (Nat.pow_le_pow_right (by decide) h)
theorem zv_store {w w2 : World} {g c : Nat} {b : Bool} {A : Option Addr} {r : List Int} {ok ok' : Nat → Prop} (z : Int) (hb : Below w.heap.size w w2) (hg : w.heap.size ≤ g) (hu : Uv w2 ok (.slice A r.length c) r) (hok : ∀ k, ok k → k ≠ g) (hr : r = digs z.natAbs) (hz : b = decide (z < 0)) (hk : ∀ k, ok k → ok' k) :
    ∃ v, Ending.returned (.agg #[.bool b, .slice A r.length c]) = .returned v ∧ ZV ((w2.setCell ⟨g, 0, none⟩ (.bool b)).setCell ⟨g, 1, none⟩ (.slice A r.length c)) ok' v z ∧ Below w.heap.size w ((w2.setCell ⟨g, 0, none⟩ (.bool b)).setCell ⟨g, 1, none⟩ (.slice A r.length c)) := by
  refine ⟨_, rfl, ⟨_, by rw [hz], ?_⟩, (hb.setCell (p := ⟨g, 0, none⟩) hg _).setCell (p := ⟨g, 1, none⟩) hg _⟩
  have h2 := ((hu.far (p := ⟨g, 0, none⟩) hok (.bool b)).far (p := ⟨g, 1, none⟩) hok (.slice A r.length c)).mono hk
  rw [← hr]; exact h2
set_option maxRecDepth 100000 in
set_option maxHeartbeats 2000000 in
theorem sign_c {w : World} {ok : Nat → Prop} {v : Value} {z : Int} (hv : ZV w ok v z) (hs : Sm z) :
    Calls Try.prog 65 #[v] w fun e w' => e = .returned (.int .i64 z.sign) ∧ Below w.heap.size w w' := by
  obtain ⟨sv, rfl, hu⟩ := hv
  obtain ⟨A, c, rfl, hc, hC⟩ := hu.slice
  refine C.whole_Sign.calls ((digs z.natAbs).length + 1) _ A c _ z.sign w hC hc ?_
  unfold Sm at hs
  have ht := trim_f (digs z.natAbs) (digs_ok _) (by omega)
  rw [val_digs] at ht
  show (C.whole_trim.f _ _).bind _ = _
  rw [ht]
  simp only [Option.bind_some]
  by_cases h0 : z = 0
  · subst h0; rfl
  · have h1 : ¬ ((digs z.natAbs).length : Int) = 0 := by
      intro e
      have : digs z.natAbs = [] := List.length_eq_zero_iff.1 (by omega)
      have := digs_nil.1 this
      omega
    rw [if_neg h1]
    by_cases h2 : z < 0
    · rw [if_pos (by simpa using h2), Int.sign_eq_neg_one_of_neg h2]
    · rw [if_neg (by simpa using h2), Int.sign_eq_one_of_pos (by omega)]
end Ar
end Go.Proofs.Ytnghcgmkncbnnaa
end
section
namespace Go.Proofs.Ytnghcgmkncbnnaa
open Go.RowKit Go.Proofs.YtnghcgmkncbnnaaW.PrintWords Go.Proofs.YtnghcgmkncbnnaaW.PrintLast Go.Proofs.YtnghcgmkncbnnaaW.PrintMore
namespace Ar
open Wd
set_option maxRecDepth 100000 in
set_option maxHeartbeats 2000000 in
theorem neg_c {w : World} {ok : Nat → Prop} {v : Value} {z : Int} (hv : ZV w ok v z) (hs : Sm z) :
    Calls Try.prog 92 #[v] w fun e w' => ∃ v', e = .returned v' ∧ ZV w' (fun k => w.heap.size ≤ k) v' (-z) ∧ Below w.heap.size w w' := by
  have hT := Try.underlying76
  obtain ⟨sv, rfl, hu⟩ := hv
  have h1 := hu.one
  unfold Sm at hs
  have hb : Below w.heap.size w ((w.alloc (.cells #[.bool (decide (z < 0)), sv] 76)).alloc (.cells #[.bool false, .slice none 0 0] 76)) := ((Below.refl _ w).alloc (Nat.le_refl _) _).alloc (by simp) _
  have hu2 := (hu.bound.alloc (.cells #[.bool (decide (z < 0)), sv] 76)).alloc (.cells #[.bool false, .slice none 0 0] 76)
  have k1 := blk_alloc (blk_new w (.cells #[.bool (decide (z < 0)), sv] 76)) (.cells #[.bool false, .slice none 0 0] 76)
  have k2 := blk_new (w.alloc (.cells #[.bool (decide (z < 0)), sv] 76)) (.cells #[.bool false, .slice none 0 0] 76)
  rw [World.size_alloc] at k2
  obtain ⟨A, c, rfl, _, _⟩ := hu.slice
  go_enter Try.func92, Try.ntmps92
  go_wp2_with fail
  generalize (w.alloc _).alloc _ = W at hb hu2 k1 k2 ⊢
  have hz0 : W.cell? ⟨w.heap.size, 0, none⟩ = some (.bool (decide (z < 0))) := blk_cell k1 0
  have hz1 : W.cell? ⟨w.heap.size, 1, none⟩ = some (.slice A (digs z.natAbs).length c) := blk_cell k1 1
  have hne : w.heap.size ≠ w.heap.size + 1 := by omega
  go_region_held3 (fun w' => w'.cell? ⟨w.heap.size, 0, none⟩ = some (.bool (decide (z < 0))) ∧ w'.cell? ⟨w.heap.size, 1, none⟩ = some (.slice A (digs z.natAbs).length c)) (first | exact ⟨hz0, hz1⟩ | exact ⟨blk_cell j1 0, blk_cell j1 1⟩ | exact ⟨blk_cell i1 0, blk_cell i1 1⟩ | exact ⟨blk_cell (blk_far (blk_far i1 hne _) hne _) 0, blk_cell (blk_far (blk_far i1 hne _) hne _) 1⟩)
    (first | (go_at_call 97; refine (clone_c hu2.drew (by omega)).mono ?_; rintro e w1 ⟨v1, rfl, hv1, hb1⟩; have j1 := blk_below (blk_drew k1) hb1; have j2 := blk_below (blk_drew k2) hb1) | (go_at_call 86; refine (made_h _ hv1 (digs_ok _) (by omega)).mono ?_; rintro e w2 ⟨b2, A2, r2, c2, rfl, H2, hv2, hb2⟩; have i1 := blk_below j1 hb2; have i2 := blk_below j2 hb2; have hx0 := (blk_cell i2 0); have hx1 := blk_cell i2 1; have hf0 := blk_frozen i2 0; have hf1 := blk_frozen i2 1))
  go_wp2
  refine bodyPost_ret (results_cell_row rfl _ _ (w.heap.size + 1) 76 #[.bool b2, .slice A2 r2.length c2] (0, 0) _ rfl (blk_set (blk_set i2 0 _) 1 _) Try.underlying76 rfl (by kernel_rfl)) rfl ?_
  obtain ⟨e1, e2⟩ := H2.out
  rw [val_digs] at e1 e2
  have hs1 : w.heap.size + 2 ≤ W.heap.size := blk_lt k2
  have hs2 : W.heap.size ≤ w1.heap.size := hb1.size
  have q1 : ∀ k, (W.drew.heap.size ≤ k ∨ w1.heap.size ≤ k) → k ≠ w.heap.size + 1 := by
    intro k hk
    rcases hk with h | h
    · have : W.heap.size ≤ k := h
      omega
    · omega
  have q2 : ∀ k, (W.drew.heap.size ≤ k ∨ w1.heap.size ≤ k) → w.heap.size ≤ k := by
    intro k hk
    rcases hk with h | h
    · have : W.heap.size ≤ k := h
      omega
    · omega
  have q3 : b2 = decide (-z < 0) := by
    rw [e1, ← decide_not, ← Bool.decide_and]
    congr 1; apply propext; omega
  exact zv_store (-z) (below_step (below_step hb.drew hb1) hb2) (by omega) hv2 q1 (by rw [e2, Int.natAbs_neg]) q3 q2
end Ar
end Go.Proofs.Ytnghcgmkncbnnaa
end
section
namespace Go.Proofs.Ytnghcgmkncbnnaa
open Go.RowKit Go.Proofs.YtnghcgmkncbnnaaW.PrintWords Go.Proofs.YtnghcgmkncbnnaaW.PrintLast Go.Proofs.YtnghcgmkncbnnaaW.PrintMore
namespace Ar
open Wd
theorem u64w (x : Int) : IntKind.u64.wrap x = x % 18446744073709551616 := by simp [IntKind.wrap, IntKind.signed, IntKind.bits]
theorem val2 (a b : Int) (ha : 0 ≤ a) (hb : 0 ≤ b) : (val [a, b] : Int) = a + 4294967296 * b := by
  simp [val, Int.toNat_of_nonneg ha, Int.toNat_of_nonneg hb]
theorem okW2 (a b : Int) (ha : 0 ≤ a) (ha1 : a < 4294967296) (hb : 0 ≤ b) (hb1 : b < 4294967296) : okW [a, b] := by
  intro x hx
  rcases List.mem_cons.1 hx with rfl | hx
  · omega
  · rw [List.mem_singleton.1 hx]; omega
theorem uv_lit2 (W : World) (a b : Int) : Uv (W.alloc (.cells #[.int .u32 a, .int .u32 b] 149)) (fun k => W.heap.size ≤ k) (.slice (some ⟨W.heap.size, 0, none⟩) 2 2) [a, b] :=
  uv_own (own_lit W W.heap.size 149 .u32 [a, b] (Nat.le_refl _) (by simp))
theorem uv_lit1 (W : World) (a : Int) : Uv (W.alloc (.cells #[.int .u32 a] 149)) (fun k => W.heap.size ≤ k) (.slice (some ⟨W.heap.size, 0, none⟩) 1 1) [a] :=
  uv_own (own_lit W W.heap.size 149 .u32 [a] (Nat.le_refl _) (by simp))
set_option maxRecDepth 100000 in
set_option maxHeartbeats 2000000 in
theorem fromint_c {w : World} (n : Int) (hn : -9223372036854775808 ≤ n) (hm : n < 9223372036854775808) :
    Calls Try.prog 74 #[.int .i64 n] w fun e w' => ∃ v', e = .returned v' ∧ ZV w' (fun k => w.heap.size ≤ k) v' n ∧ Below w.heap.size w w' := by
  have hT := Try.underlying76
  have HC : Hid (∀ (neg : Bool) (a b : Int), neg = decide (n < 0) → a = (n.natAbs : Int) % 4294967296 → b = (n.natAbs : Int) / 4294967296 → Calls Try.prog 86 #[.bool neg, .slice (some { block := w.heap.size + 1, off := 0 }) 2 2] ((w.alloc (.cells #[.bool false, .slice none 0 0] 76)).alloc (.cells #[.int .u32 a, .int .u32 b] 149)) fun e w' => ∃ (b : Bool) (A : Option Addr) (r : List Int) (c : Nat), e = .returned (.agg #[.bool b, .slice A r.length c]) ∧ Hid (b = decide (n < 0) ∧ r = digs n.natAbs) ∧ Uv w' (fun k => w.heap.size + 1 ≤ k) (.slice A r.length c) r ∧ Below w.heap.size w w' ∧ w'.heap[w.heap.size]? = some (.cells #[.bool false, .slice none 0 0] 76 (0, 0))) := by
    intro neg a b hneg ha hb
    have hv := uv_lit2 (w.alloc (.cells #[.bool false, .slice none 0 0] 76)) a b
    rw [World.size_alloc] at hv
    have hval : val [a, b] = n.natAbs := by
      have := val2 a b (by omega) (by omega)
      omega
    refine (made_h neg hv (okW2 _ _ (by omega) (by omega) (by omega) (by omega)) (by simp)).mono ?_
    rintro e w2 ⟨b, A, r, c, rfl, H, hu2, hb2⟩
    refine ⟨b, A, r, c, rfl, ?_, hu2.mono ?_, ((Below.refl _ w).alloc (Nat.le_refl _) _).alloc (by simp) _ |>.trans (hb2.mono (by simp only [World.size_alloc]; omega)), blk_below (blk_alloc (blk_new w _) _) hb2⟩
    · rw [hval] at H
      refine ⟨?_, H.out.2⟩
      rw [H.out.1, hneg, ← Bool.decide_and]
      congr 1; apply propext; omega
    · intro k hk; simp only [World.size_alloc] at hk; omega
  by_cases h0 : n < 0
  · go_enter Try.func74, Try.ntmps74
    go_wp2_with (go_at_call 86; refine (HC.out true _ _ (by simp [h0]) (by simp only [u64w]; omega) (by simp only [u64w]; omega)).mono ?_; rintro e w2 ⟨b2, A2, r2, c2, rfl, H2, hv2, hb2, hk⟩; have hx0 := (blk_cell hk 0); have hx1 := blk_cell hk 1; have hf0 := blk_frozen hk 0; have hf1 := blk_frozen hk 1)
    refine bodyPost_ret (results_cell_row rfl _ _ w.heap.size 76 #[.bool b2, .slice A2 r2.length c2] (0, 0) _ rfl (blk_set (blk_set hk 0 _) 1 _) Try.underlying76 rfl (by kernel_rfl)) rfl ?_
    exact zv_store n hb2 (Nat.le_refl _) hv2 (fun k hk => by omega) H2.out.2 H2.out.1 (fun k hk => by omega)
  · go_enter Try.func74, Try.ntmps74
    go_wp2_with (go_at_call 86; refine (HC.out false _ _ (by simp [h0]) (by omega) (by omega)).mono ?_; rintro e w2 ⟨b2, A2, r2, c2, rfl, H2, hv2, hb2, hk⟩; have hx0 := (blk_cell hk 0); have hx1 := blk_cell hk 1; have hf0 := blk_frozen hk 0; have hf1 := blk_frozen hk 1)
    refine bodyPost_ret (results_cell_row rfl _ _ w.heap.size 76 #[.bool b2, .slice A2 r2.length c2] (0, 0) _ rfl (blk_set (blk_set hk 0 _) 1 _) Try.underlying76 rfl (by kernel_rfl)) rfl ?_
    exact zv_store n hb2 (Nat.le_refl _) hv2 (fun k hk => by omega) H2.out.2 H2.out.1 (fun k hk => by omega)
end Ar
end Go.Proofs.Ytnghcgmkncbnnaa
end
section
namespace Go.Proofs.Ytnghcgmkncbnnaa
open Go.RowKit Go.Proofs.YtnghcgmkncbnnaaW.PrintWords Go.Proofs.YtnghcgmkncbnnaaW.PrintLast Go.Proofs.YtnghcgmkncbnnaaW.PrintMore
namespace Ar
open Wd
theorem Uv.drewN {W : World} {ok : Nat → Prop} {v : Value} {l : List Int} (h : Uv W ok v l) (n : Nat) : Uv (W.drewN n) ok v l := Kd.V_drewN h n
set_option maxRecDepth 100000 in
theorem trim_q {w : World} {ok : Nat → Prop} {A : Option Addr} {c : Nat} {l : List Int} (hv : Uv w ok (.slice A l.length c) l) (hl : ∀ x, l.getLast? = some x → x ≠ 0) (hlen : l.length < 1073741824) :
    Calls Try.prog 76 #[.slice A l.length c] w fun e w' => e = .returned (.slice A l.length c) ∧ w' = w := by
  obtain ⟨A', c', he, hc, hC⟩ := hv.slice
  cases he
  have hR := Lib.hid (reads_c hC)
  clear hC hv
  go_enter Try.func76, Try.ntmps76
  go_wp2
  go_loopg [0] 0 (fun k v w' => v = .slice A l.length c ∧ w' = w)
  case atStart => exact ⟨rfl, rfl⟩
  case round =>
    obtain ⟨rfl, rfl⟩ := hrel
    rcases Nat.eq_zero_or_pos l.length with h | h
    · have h1 : decide (0 < l.length) = false := by simp [h]
      go_wp2
      go_ret
      exact ⟨rfl, rfl⟩
    · have h1 : decide (0 < l.length) = true := by simp [h]
      obtain ⟨x, hx⟩ : ∃ x, l.getLast? = some x := ⟨l.getLast (List.ne_nil_of_length_pos h), List.getLast?_eq_some_getLast _⟩
      have hx0 := hl x hx
      have hx1 : (x == 0) = false := beq_eq_false_iff_ne.2 hx0
      obtain ⟨ad, rfl, hc⟩ := hR.out.2.2 h
      have hc2 := hc (l.length - 1) (by omega)
      rw [List.getD_eq_getElem?_getD, ← List.getLast?_eq_getElem?, hx] at hc2
      simp only [Option.getD_some] at hc2
      clear hc hx
      go_wp2
      go_ret
      exact ⟨rfl, rfl⟩
theorem trim_quiet {w : World} {ok : Nat → Prop} {A : Option Addr} {c : Nat} {l : List Int} {n : Nat} (hv : Uv w ok (.slice A l.length c) l) (hl : ∀ x, l.getLast? = some x → x ≠ 0) (hlen : l.length < 1073741824) :
    Calls Try.prog 76 #[.slice A l.length c] (w.drewN n) fun e w' => e = .returned (.slice A l.length c) ∧ ∃ m, w' = w.drewN m :=
  Calls.quiet_of_same (trim_q (hv.drewN n) hl hlen)
set_option maxRecDepth 100000 in
set_option maxHeartbeats 2000000 in
theorem iscan_c {w : World} {ok : Nat → Prop} {v : Value} {z : Int} (hv : ZV w ok v z) (hs : Sm z) :
    Calls Try.prog 90 #[v] w fun e w' => e = .returned (.bool true) ∧ Below w.heap.size w w' := by
  obtain ⟨sv, rfl, hu⟩ := hv
  obtain ⟨A, c, rfl, _, _⟩ := hu.slice
  have hT := Try.underlying76
  unfold Sm at hs
  have hb : Below w.heap.size w (w.alloc (.cells #[.bool (decide (z < 0)), .slice A (digs z.natAbs).length c] 76)) := (Below.refl _ w).alloc (Nat.le_refl _) _
  have hu2 := hu.bound.alloc (.cells #[.bool (decide (z < 0)), .slice A (digs z.natAbs).length c] 76)
  have k1 := blk_new w (.cells #[.bool (decide (z < 0)), .slice A (digs z.natAbs).length c] 76)
  by_cases h0 : z < 0
  · have hp : decide (0 < (digs z.natAbs).length) = true := by
      rw [decide_eq_true]
      exact List.length_pos_iff.2 (fun e => by have := digs_nil.1 e; omega)
    have hd : decide (z < 0) = true := decide_eq_true h0
    rw [hd] at hb hu2 k1 ⊢
    go_enter Try.func90, Try.ntmps90
    go_wp2_with fail
    generalize (w.alloc _) = W at hb hu2 k1 ⊢
    have hz0 := blk_cell k1 0
    have hz1 := blk_cell k1 1
    go_quiet (first | (go_at_call 76; exact trim_quiet hu2 (digs_last _) (by omega)))
    go_wp2
    go_ret
    exact ⟨rfl, pw_below_drewN hb nq⟩
  · have hd : decide (z < 0) = false := decide_eq_false h0
    rw [hd] at hb hu2 k1 ⊢
    go_enter Try.func90, Try.ntmps90
    go_wp2_with fail
    generalize (w.alloc _) = W at hb hu2 k1 ⊢
    have hz0 := blk_cell k1 0
    have hz1 := blk_cell k1 1
    go_quiet (first | (go_at_call 76; exact trim_quiet hu2 (digs_last _) (by omega)))
    go_wp2
    go_ret
    exact ⟨rfl, pw_below_drewN hb nq⟩
end Ar
end Go.Proofs.Ytnghcgmkncbnnaa
end
section
namespace Go.Proofs.Ytnghcgmkncbnnaa
open Go.RowKit Go.Proofs.YtnghcgmkncbnnaaW.PrintWords Go.Proofs.YtnghcgmkncbnnaaW.PrintLast Go.Proofs.YtnghcgmkncbnnaaW.PrintMore
namespace Ar
open Wd Rf
theorem Uv.u32s {w : World} {ok : Nat → Prop} {v : Value} {l : List Int} (h : Uv w ok v l) : U32s (· < w.heap.size) w v l := by
  obtain ⟨A, c, rfl, hc, hC⟩ := h.slice
  refine ⟨A, c, rfl, hc, fun j hj => ?_⟩
  obtain ⟨ad, rfl, hcell⟩ := (reads_c hC).2.2 (by omega)
  have h1 := hcell j hj
  rw [List.getD_eq_getElem?_getD] at h1
  exact ⟨ad, rfl, World.block_lt_of_cell? w _ h1, h1⟩
def Out (w : World) (P : List Int → Prop) (e : Ending) (w' : World) : Prop := ∃ (A : Option Addr) (r : List Int) (c : Nat), e = .returned (.slice A r.length c) ∧ Hid (okW r ∧ P r) ∧ Uv w' (fun k => w.heap.size ≤ k) (.slice A r.length c) r ∧ Below w.heap.size w w'
theorem add_c {w : World} {oka okb : Nat → Prop} {va vb : Value} {la lb : List Int} (ha : Uv w oka va la) (hb : Uv w okb vb lb) (wa : okW la) (wb : okW lb) (hla : la.length < 1073741824) (hlb : lb.length < 1073741824) :
    Calls Try.prog 88 #[va, vb] w (Out w fun r => val r = val la + val lb ∧ r.length = max la.length lb.length + 1) := by
  refine (add_any va vb la lb hla hlb (wrd_of la wa) (wrd_of lb wb) w ha.u32s hb.u32s).mono ?_
  rintro e w' ⟨v, rfl, ho, hb'⟩
  rw [add_words la lb wa wb] at ho
  have hlen := wds_length (Rf.mx la lb + 1) (val la + val lb)
  have hu := uv_own (l := wds (Rf.mx la lb + 1) (val la + val lb)) (by rw [hlen]; exact ho)
  obtain ⟨A, c, rfl, _, _⟩ := hu.slice
  refine ⟨A, _, c, rfl, ⟨wds_ok _ _, ?_, hlen⟩, hu, hb'⟩
  refine val_wds_lt _ _ ?_
  have h1 := val_lt la wa
  have h2 := val_lt lb wb
  have h3 : 4294967296 ^ la.length ≤ 4294967296 ^ Rf.mx la lb := Nat.pow_le_pow_right (by decide) (by unfold Rf.mx; omega)
  have h4 : 4294967296 ^ lb.length ≤ 4294967296 ^ Rf.mx la lb := Nat.pow_le_pow_right (by decide) (by unfold Rf.mx; omega)
  rw [Nat.pow_succ]; omega
theorem sub_c {w : World} {oka okb : Nat → Prop} {va vb : Value} {la lb : List Int} (ha : Uv w oka va la) (hb : Uv w okb vb lb) (wa : okW la) (wb : okW lb) (hla : la.length < 1073741824) (hlb : lb.length < 1073741824) (hle : val lb ≤ val la) :
    Calls Try.prog 99 #[va, vb] w (Out w fun r => val r = val la - val lb ∧ r.length = max la.length lb.length) := by
  refine (sub_any va vb la lb hla hlb (wrd_of la wa) (wrd_of lb wb) w ha.u32s hb.u32s).mono ?_
  rintro e w' ⟨g, cap, rfl, ho, hb'⟩
  obtain ⟨z, hz⟩ := sub_words la lb wa wb hle
  rw [hz] at ho
  have hlen := wds_length (Rf.mx la lb) (val la - val lb)
  have hll : (0 :: (wds (Rf.mx la lb) (val la - val lb) ++ [z])).length = Rf.mx la lb + 1 + 1 := by simp [hlen]
  have hu : Uv w' (fun k => w.heap.size ≤ k) (.slice (some ⟨g, 0, none⟩) (Rf.mx la lb + 1 + 1) cap) (0 :: (wds (Rf.mx la lb) (val la - val lb) ++ [z])) := uv_own (by rw [hll]; exact ho)
  obtain ⟨A, c, he, hc, hF⟩ := hu
  obtain ⟨e1, _, e3⟩ := Value.slice.inj he
  subst e1 e3
  have hm := Kd.F_mid hF (lo := 1) (hi := Rf.mx la lb + 1) (by omega) (by omega) hc
  have ht : ((0 :: (wds (Rf.mx la lb) (val la - val lb) ++ [z])).take (Rf.mx la lb + 1)).drop 1 = wds (Rf.mx la lb) (val la - val lb) := by
    simp only [List.take_succ_cons, List.drop_succ_cons, List.drop_zero]
    rw [List.take_append_of_le_length (by omega), List.take_of_length_le (by omega)]
  rw [ht, if_neg (by omega)] at hm
  refine ⟨some ⟨g, 1, none⟩, _, cap - 1, by rw [hlen], ⟨wds_ok _ _, ?_, hlen⟩, ⟨_, _, rfl, by omega, hm⟩, hb'⟩
  refine val_wds_lt _ _ ?_
  have h1 := val_lt la wa
  have h3 : 4294967296 ^ la.length ≤ 4294967296 ^ Rf.mx la lb := Nat.pow_le_pow_right (by decide) (by unfold Rf.mx; omega)
  omega
theorem digs_len_mono {a b : Nat} (h : a ≤ b) : (digs a).length ≤ (digs b).length := digs_len_le _ _ (by have := digs_lt b _ (Nat.le_refl _); omega)
theorem cmp_c {w : World} {oka okb : Nat → Prop} {va vb : Value} {x y : Nat} (ha : Uv w oka va (digs x)) (hb : Uv w okb vb (digs y)) (hla : (digs x).length < 1073741824) (hlb : (digs y).length < 1073741824) :
    Calls Try.prog 103 #[va, vb] w fun e w' => ∃ c : Int, e = .returned (.int .i64 c) ∧ Hid ((0 ≤ c ↔ y ≤ x) ∧ (c ≤ 0 ↔ x ≤ y)) ∧ Below w.heap.size w w' := by
  obtain ⟨A, ca, rfl, _, _⟩ := ha.slice
  obtain ⟨B, cb, rfl, _, _⟩ := hb.slice
  by_cases hl : (digs x).length = (digs y).length
  · have hub := hb.u32s
    have hua := ha.u32s
    rw [← hl] at hub ⊢
    refine (cmp_eq A B (digs x).length ca cb (digs x) (digs y) hla rfl hl.symm (wrd_of _ (digs_ok _)) (wrd_of _ (digs_ok _)) w hua hub).mono ?_
    rintro e w' ⟨rfl, hb'⟩
    rw [cfold_all _ _ (digs_ok _) (digs_ok _) _ rfl hl.symm, val_digs, val_digs]
    refine ⟨_, rfl, ⟨?_, ?_⟩, hb'⟩
    · split
      · omega
      · split <;> omega
    · split
      · omega
      · split <;> omega
  · refine (cmp_ne A B _ _ ca cb hl (by omega) (by omega) w).mono ?_
    rintro e w' ⟨rfl, hb'⟩
    refine ⟨_, rfl, ?_, hb'⟩
    have h1 : x ≤ y → (digs x).length ≤ (digs y).length := digs_len_mono
    have h2 : y ≤ x → (digs y).length ≤ (digs x).length := digs_len_mono
    rcases Nat.le_total x y with h | h
    · have := h1 h
      refine ⟨⟨fun h' => ?_, fun h' => ?_⟩, ⟨fun _ => h, fun _ => by omega⟩⟩
      · omega
      · have := h2 h'; omega
    · have := h2 h
      refine ⟨⟨fun _ => h, fun _ => by omega⟩, ⟨fun h' => by omega, fun h' => by have := h1 h'; omega⟩⟩
end Ar
end Go.Proofs.Ytnghcgmkncbnnaa
end
section
namespace Go.Proofs.Ytnghcgmkncbnnaa
open Go.RowKit Go.Proofs.YtnghcgmkncbnnaaW.PrintWords Go.Proofs.YtnghcgmkncbnnaaW.PrintLast Go.Proofs.YtnghcgmkncbnnaaW.PrintMore
namespace Ar
open Wd
theorem val_drop (l : List Int) (m : Nat) (h : m < l.length) : val (l.drop m) = (l[m]?.getD 0).toNat + 4294967296 * val (l.drop (m + 1)) := by
  rw [List.drop_eq_getElem_cons h]
  simp [val, List.getElem?_eq_getElem h]
theorem u64in (x : Int) (h0 : 0 ≤ x) (h1 : x < 18446744073709551616) : IntKind.u64.wrap x = x := by rw [u64w]; omega
theorem w64in (x : Int) (h0 : -9223372036854775808 ≤ x) (h1 : x < 9223372036854775808) : wrap64 x = x := by unfold wrap64; omega
theorem small_step (n : Nat) (hn : 0 < n) (hn2 : n ≤ 4294967296) (x : Int) (hx : 0 ≤ x) (hx1 : x < 4294967296) (V : Nat) :
    (IntKind.u64.wrap (IntKind.u64.wrap (((V % n : Nat) : Int) * 4294967296) + IntKind.u64.wrap x)) = ((x.toNat + 4294967296 * (V % n) : Nat) : Int) := by
  have hr : V % n < n := Nat.mod_lt _ hn
  rw [u64in x hx (by omega), u64in (((V % n : Nat) : Int) * 4294967296) (by omega) (by omega), u64in _ (by omega) (by omega)]
  omega
theorem div_step (n x V : Nat) (hn : 0 < n) (hx : x < 4294967296) : (x + 4294967296 * V) / n = (x + 4294967296 * (V % n)) / n + 4294967296 * (V / n) ∧ (x + 4294967296 * V) % n = (x + 4294967296 * (V % n)) % n ∧ (x + 4294967296 * (V % n)) / n < 4294967296 := by
  have e : x + 4294967296 * V = (x + 4294967296 * (V % n)) + n * (4294967296 * (V / n)) := by
    have := Nat.div_add_mod V n
    have h2 : n * (4294967296 * (V / n)) = 4294967296 * (n * (V / n)) := Nat.mul_left_comm _ _ _
    rw [h2]; omega
  refine ⟨?_, ?_, ?_⟩
  · rw [e, Nat.add_mul_div_left _ _ hn]
  · rw [e, Nat.add_mul_mod_self_left]
  · have hr : V % n < n := Nat.mod_lt _ hn
    rw [Nat.div_lt_iff_lt_mul hn]
    have : 4294967296 * (V % n) + 4294967296 ≤ 4294967296 * n := by rw [← Nat.mul_succ]; exact Nat.mul_le_mul_left _ hr
    omega
theorem tdiv_word (T n : Nat) (h : T / n < 4294967296) : IntKind.u64.wrap (Int.tdiv (T : Int) n) % 4294967296 = ((T / n : Nat) : Int) := by
  rw [Int.tdiv_eq_ediv_of_nonneg (by omega), ← Int.natCast_ediv]
  generalize T / n = D at *
  rw [u64in _ (by omega) (by omega)]; omega
theorem tmod_word (T n : Nat) : Int.tmod (T : Int) n = ((T % n : Nat) : Int) := by
  rw [Int.tmod_eq_emod_of_nonneg (by omega), ← Int.natCast_emod]
theorem set_rep (m : Nat) (L : List Int) (q : Int) : (List.replicate (m + 1) 0 ++ L).set m q = List.replicate m 0 ++ (q :: L) := by
  rw [List.replicate_succ']
  simp
theorem trim_k (l : List Int) (h : okW l) (hlen : l.length < 9223372036854775807) : ∀ k, C.whole_trim.f (l.length + 1 + k) l = some (digs (val l)) := by
  intro k
  induction k with
  | zero => exact trim_f l h hlen
  | succ k ih => exact C.whole_trim.mono l _ _ ih
theorem small_l0 (l : List Int) (hl : okW l) (hlen : l.length < 1073741824) (n : Nat) (hn : 0 < n) (hn2 : n ≤ 4294967296) (K : Nat) : ∀ (j : Nat), j ≤ l.length →
    C.whole_small.l0 (l.length + 2 + K + j) l n (List.replicate j 0 ++ wds (l.length - j) (val (l.drop j) / n)) ((val (l.drop j) % n : Nat) : Int) (l.length : Int) ((l.length - j : Nat) : Int) = some (digs (val l / n), ((val l % n : Nat) : Int)) := by
  intro j
  induction j with
  | zero =>
    intro _
    rw [show l.length + 2 + K + 0 = (l.length + 1 + K) + 1 from by omega]
    rw [C.whole_small.l0, if_neg (by omega)]
    have hm := trim_k (wds l.length (val l / n)) (wds_ok _ _) (by rw [wds_length]; omega) K
    rw [wds_length, val_wds_lt _ _ (Nat.lt_of_le_of_lt (Nat.div_le_self _ _) (val_lt l hl))] at hm
    have hmm : C.whole_trim.f (l.length + 1 + K) (List.replicate 0 0 ++ wds (l.length - 0) (val (l.drop 0) / n)) = some (digs (val l / n)) := by
      simpa only [List.replicate_zero, List.nil_append, Nat.sub_zero, List.drop_zero] using hm
    rw [hmm]; rfl
  | succ m ih =>
    intro hm
    have hx := wrd_of l hl m
    obtain ⟨h1, h2, h3⟩ := div_step n (l[m]?.getD 0).toNat (val (l.drop (m + 1))) hn (by omega)
    have hat : wrap64 (wrap64 ((l.length : Int) - 1) - ((l.length - (m + 1) : Nat) : Int)) = m := by unfold wrap64; omega
    have hlen2 : (List.replicate (m + 1) (0 : Int) ++ wds (l.length - (m + 1)) (val (l.drop (m + 1)) / n)).length = l.length := by simp [wds_length]; omega
    rw [show l.length + 2 + K + (m + 1) = (l.length + 2 + K + m) + 1 from by omega]
    rw [C.whole_small.l0, if_pos (by omega), hat, if_pos (by omega), if_pos (by omega), if_neg (by omega), if_pos (by rw [hlen2]; omega), rd_get]
    simp only [Int.toNat_natCast]
    rw [small_step n hn hn2 _ hx.1 hx.2]
    have ih' := ih (by omega)
    rw [val_drop l m (by omega), h1, h2] at ih'
    have q3 : wrap64 (((l.length - (m + 1) : Nat) : Int) + 1) = ((l.length - m : Nat) : Int) := by unfold wrap64; omega
    have q1 := tdiv_word _ _ h3
    have q2 := tmod_word ((l[m]?.getD 0).toNat + 4294967296 * (val (l.drop (m + 1)) % n)) n
    have q4 : wds (l.length - m) ((((l[m]?.getD 0).toNat + 4294967296 * (val (l.drop (m + 1)) % n)) / n) + 4294967296 * (val (l.drop (m + 1)) / n)) = ((((l[m]?.getD 0).toNat + 4294967296 * (val (l.drop (m + 1)) % n)) / n : Nat) : Int) :: wds (l.length - (m + 1)) (val (l.drop (m + 1)) / n) := by
      rw [show l.length - m = (l.length - (m + 1)) + 1 from by omega]
      simp only [wds]
      congr 2
      · omega
      · omega
    rw [q1, q2, q3, set_rep, ← q4]
    exact ih'
theorem small_f (l : List Int) (hl : okW l) (hlen : l.length < 1073741824) (n : Nat) (hn : 0 < n) (hn2 : n ≤ 4294967296) : C.whole_small.f (2 * l.length + 2) l n = some (digs (val l / n), ((val l % n : Nat) : Int)) := by
  have h := small_l0 l hl hlen n hn hn2 0 l.length (Nat.le_refl _)
  unfold C.whole_small.f
  rw [if_pos (by omega), if_pos (by simp; omega)]
  simp only [List.drop_length, val, Nat.zero_div, Nat.zero_mod, Nat.sub_self, wds, List.append_nil, Int.natCast_zero] at h
  rw [show 2 * l.length + 2 = l.length + 2 + 0 + l.length from by omega]
  exact h
theorem small_c {w : World} {ok : Nat → Prop} {A : Option Addr} {c : Nat} {l : List Int} (hv : Uv w ok (.slice A l.length c) l) (hl : okW l) (hlen : l.length < 1073741824) (n : Nat) (hn : 0 < n) (hn2 : n ≤ 4294967296) :
    Calls Try.prog 84 #[.slice A l.length c, .int .u64 n] w fun e w' => ∃ (A : Option Addr) (r : List Int) (c : Nat), e = .returned (.tuple #[.slice A r.length c, .int .u64 ((val l % n : Nat) : Int)]) ∧ Hid (r = digs (val l / n)) ∧ Uv w' (fun k => w.heap.size ≤ k) (.slice A r.length c) r ∧ Below w.heap.size w w' := by
  obtain ⟨A', c', he, hc, hC⟩ := hv.slice
  cases he
  refine (C.whole_small.calls _ A c l n _ _ w hC hc (small_f l hl hlen n hn hn2)).mono ?_
  rintro e w' ⟨v, rfl, hV, hb⟩
  obtain ⟨B, d, rfl⟩ := Kd.V_slice hV
  exact ⟨B, _, d, rfl, rfl, hV, hb⟩
end Ar
end Go.Proofs.Ytnghcgmkncbnnaa
end
section
namespace Go.Proofs.Ytnghcgmkncbnnaa
open Go.RowKit Go.Proofs.YtnghcgmkncbnnaaW.PrintWords Go.Proofs.YtnghcgmkncbnnaaW.PrintLast Go.Proofs.YtnghcgmkncbnnaaW.PrintMore
namespace Ar
open Wd
theorem val_set : ∀ (l : List Int) (j : Nat) (y : Int), j < l.length → val (l.set j y) + 4294967296 ^ j * (l[j]?.getD 0).toNat = val l + 4294967296 ^ j * y.toNat
  | [], j, y, h => absurd h (by simp)
  | x :: l, 0, y, _ => by simp [val]; omega
  | x :: l, j + 1, y, h => by
    have ih := val_set l j y (by simpa using h)
    simp only [List.set_cons_succ, val, List.getElem?_cons_succ, Nat.pow_succ]
    have e1 : 4294967296 ^ j * 4294967296 * (l[j]?.getD 0).toNat = 4294967296 * (4294967296 ^ j * (l[j]?.getD 0).toNat) := by rw [Nat.mul_comm (4294967296 ^ j) 4294967296, Nat.mul_assoc]
    have e2 : 4294967296 ^ j * 4294967296 * y.toNat = 4294967296 * (4294967296 ^ j * y.toNat) := by rw [Nat.mul_comm (4294967296 ^ j) 4294967296, Nat.mul_assoc]
    rw [e1, e2]; omega
theorem okW_set {l : List Int} (h : okW l) (j : Nat) {y : Int} (h0 : 0 ≤ y) (h1 : y < 4294967296) : okW (l.set j y) := by
  intro x hx
  rcases List.mem_or_eq_of_mem_set hx with hx | rfl
  · exact h x hx
  · exact ⟨h0, h1⟩
theorem mul_bound {x y : Nat} (hx : x < 4294967296) (hy : y < 4294967296) : x * y ≤ 18446744065119617025 := by
  have h1 : x * y ≤ 4294967295 * y := Nat.mul_le_mul_right _ (by omega)
  omega
theorem mul_word (c x y o : Int) (c0 : 0 ≤ c) (c1 : c < 4294967296) (x0 : 0 ≤ x) (x1 : x < 4294967296) (y0 : 0 ≤ y) (y1 : y < 4294967296) (o0 : 0 ≤ o) (o1 : o < 4294967296) :
    IntKind.u64.wrap (c + (IntKind.u64.wrap ((IntKind.u64.wrap ((IntKind.u64.wrap (x)) * (IntKind.u64.wrap y))) + (IntKind.u64.wrap o)))) = ((c.toNat + x.toNat * y.toNat + o.toNat : Nat) : Int) ∧ c.toNat + x.toNat * y.toNat + o.toNat < 18446744073709551616 := by
  have hb := mul_bound (x := x.toNat) (y := y.toNat) (by omega) (by omega)
  have e : x * y = ((x.toNat * y.toNat : Nat) : Int) := by rw [Int.natCast_mul, Int.toNat_of_nonneg x0, Int.toNat_of_nonneg y0]
  rw [u64in x x0 (by omega), u64in y y0 (by omega), u64in o o0 (by omega), e]
  generalize x.toNat * y.toNat = p at *
  rw [u64in (p : Int) (by omega) (by omega), u64in ((p : Int) + o) (by omega) (by omega), u64in _ (by omega) (by omega)]
  omega
theorem mul_eq (V V' P c x y o D t : Nat) (h1 : V' + P * o = V + P * (t % 4294967296)) (h2 : t = c + x * y + o) :
    V' + P * 4294967296 * (t / 4294967296 + x * D) = V + P * (c + x * (y + 4294967296 * D)) := by
  have e1 : P * t = P * c + P * (x * y) + P * o := by rw [h2, Nat.mul_add, Nat.mul_add]
  have e2 : P * t = P * (4294967296 * (t / 4294967296)) + P * (t % 4294967296) := by rw [← Nat.mul_add, Nat.div_add_mod]
  have e3 : P * (c + x * (y + 4294967296 * D)) = P * c + P * (x * y) + P * (4294967296 * (x * D)) := by rw [Nat.mul_add, Nat.mul_add, Nat.mul_add, Nat.mul_left_comm x 4294967296 D, Nat.add_assoc]
  have e4 : P * 4294967296 * (t / 4294967296 + x * D) = P * (4294967296 * (t / 4294967296)) + P * (4294967296 * (x * D)) := by rw [Nat.mul_assoc, Nat.mul_add, Nat.mul_add]
  rw [e3, e4]; omega
theorem w64add (i k : Nat) (h : i + k < 9223372036854775808) : wrap64 ((i : Int) + (k : Int)) = ((i + k : Nat) : Int) := by unfold wrap64; omega
theorem w64succ (k : Nat) (h : k + 1 < 9223372036854775808) : wrap64 ((k : Int) + 1) = ((k + 1 : Nat) : Int) := by unfold wrap64; omega
theorem take_set (l : List Int) (n j : Nat) (y : Int) : (l.set j y).take n = (l.take n).set j y := List.take_set ..
theorem getD_take (l : List Int) (n j : Nat) (h : j < n) : (l.take n)[j]?.getD 0 = l[j]?.getD 0 := by rw [List.getElem?_take_of_lt h]
theorem mul_l1 (la lb : List Int) (hlb : okW lb) (i : Nat) (x : Int) (x0 : 0 ≤ x) (x1 : x < 4294967296) (hi : i < 1073741824) (hL : lb.length < 1073741824) (F : Nat) : ∀ (r : Nat), r ≤ lb.length → ∀ (out : List Int) (c : Int), okW out → i + lb.length < out.length → 0 ≤ c → c < 4294967296 →
    ∃ out', C.whole_mul.l1 (F + 1 + r) lb out i x c la la.length i lb lb.length ((lb.length - r : Nat) : Int) = C.whole_mul.l0 F lb out' la la.length ((i + 1 : Nat) : Int) ∧ okW out' ∧ out'.length = out.length ∧
      val (out'.take (i + lb.length + 1)) = val (out.take (i + lb.length)) + 4294967296 ^ (i + (lb.length - r)) * (c.toNat + x.toNat * val (lb.drop (lb.length - r))) := by
  intro r
  induction r with
  | zero =>
    intro _ out c ho hlen c0 c1
    have e0 : wrap64 ((i : Int) + (lb.length : Int)) = ((i + lb.length : Nat) : Int) := by unfold wrap64; omega
    have e1 : wrap64 ((i : Int) + 1) = ((i + 1 : Nat) : Int) := by unfold wrap64; omega
    refine ⟨out.set (i + lb.length) c, ?_, okW_set ho _ c0 c1, by simp, ?_⟩
    · rw [show F + 1 + 0 = F + 1 from rfl, C.whole_mul.l1, if_neg (by omega), e0, if_pos (by omega), if_pos (by omega), e1]
      simp only [Int.toNat_natCast]
      rw [show c % 4294967296 = c from by omega]
    · rw [take_set]
      have h := val_set (out.take (i + lb.length + 1)) (i + lb.length) c (by rw [List.length_take]; omega)
      have h2 := take_snoc' out (i + lb.length) (by omega)
      have h3 := val_snoc (out.take (i + lb.length)) (out[i + lb.length]?.getD 0)
      rw [← h2, List.length_take, Nat.min_eq_left (by omega)] at h3
      rw [getD_take _ _ _ (by omega)] at h
      simp only [Nat.sub_zero, List.drop_length, val, Nat.mul_zero, Nat.add_zero]
      omega
  | succ r ih =>
    intro hr out c ho hlen c0 c1
    obtain ⟨k, hk⟩ : ∃ k, k = lb.length - (r + 1) := ⟨_, rfl⟩
    have hk1 : lb.length - r = k + 1 := by omega
    rw [← hk]
    have hy := wrd_of lb hlb k
    have hov := wrd_of out ho (i + k)
    have g1 : (k : Int) < (lb.length : Int) := by omega
    have g2 : (0 : Int) ≤ (k : Int) := by omega
    have g3 : ((i + k : Nat) : Int) < (out.length : Int) := by omega
    have g4 : (0 : Int) ≤ ((i + k : Nat) : Int) := by omega
    obtain ⟨hw, hb⟩ := mul_word c x (lb[k]?.getD 0) (out[i + k]?.getD 0) c0 c1 x0 x1 hy.1 hy.2 hov.1 hov.2
    obtain ⟨t, ht⟩ : ∃ t, t = c.toNat + x.toNat * (lb[k]?.getD 0).toNat + (out[i + k]?.getD 0).toNat := ⟨_, rfl⟩
    rw [← ht] at hw hb
    have ho' : okW (out.set (i + k) ((t : Int) % 4294967296)) := okW_set ho _ (by omega) (by omega)
    obtain ⟨out', h1, h2, h3, h4⟩ := ih (by omega) (out.set (i + k) ((t : Int) % 4294967296)) ((t : Int) / 4294967296) ho' (by simpa using hlen) (by omega) (by omega)
    rw [hk1] at h1 h4
    refine ⟨out', ?_, h2, by rw [h3]; simp, ?_⟩
    · rw [show F + 1 + (r + 1) = (F + 1 + r) + 1 from rfl, C.whole_mul.l1]
      rw [if_pos g1, if_pos g2, if_pos g1, w64add i k (by omega), if_pos g4, if_pos g3, rd_get, rd_get, w64succ k (by omega)]
      simp only [Int.toNat_natCast]
      rw [hw]
      exact h1
    · rw [h4, take_set, val_drop lb k (by omega)]
      have hs := val_set (out.take (i + lb.length)) (i + k) ((t : Int) % 4294967296) (by rw [List.length_take]; omega)
      rw [getD_take _ _ _ (by omega)] at hs
      rw [show ((t : Int) % 4294967296).toNat = t % 4294967296 from by omega] at hs
      rw [show ((t : Int) / 4294967296).toNat = t / 4294967296 from by omega, show i + (k + 1) = (i + k) + 1 from rfl, Nat.pow_succ]
      exact mul_eq _ _ _ _ _ _ _ _ _ hs ht
theorem mul_l0 (la lb : List Int) (hla : okW la) (hlb : okW lb) (hLa : la.length < 1073741824) (hL : lb.length < 1073741824) (F : Nat) : ∀ (r : Nat), r ≤ la.length → ∀ (out : List Int), okW out → out.length = la.length + lb.length → val (out.take (la.length - r + lb.length)) = val (la.take (la.length - r)) * val lb →
    ∃ out', C.whole_mul.l0 (F + 1 + r * (lb.length + 2)) lb out la la.length ((la.length - r : Nat) : Int) = some out' ∧ okW out' ∧ out'.length = la.length + lb.length ∧ val out' = val la * val lb := by
  intro r
  induction r with
  | zero =>
    intro _ out ho hlen hv
    refine ⟨out, ?_, ho, hlen, ?_⟩
    · rw [show F + 1 + 0 * (lb.length + 2) = F + 1 from by omega, C.whole_mul.l0, if_neg (by omega)]
    · rw [Nat.sub_zero, List.take_of_length_le (by omega), List.take_of_length_le (Nat.le_refl _)] at hv
      exact hv
  | succ r ih =>
    intro hr out ho hlen hv
    obtain ⟨i, hi⟩ : ∃ i, i = la.length - (r + 1) := ⟨_, rfl⟩
    have hi1 : la.length - r = i + 1 := by omega
    rw [← hi] at hv ⊢
    have hx := wrd_of la hla i
    have g1 : (i : Int) < (la.length : Int) := by omega
    have g2 : (0 : Int) ≤ (i : Int) := by omega
    have g3 : i + lb.length < out.length := by omega
    have g4 : i < 1073741824 := by omega
    have g5 : i < la.length := by omega
    obtain ⟨out', h1, h2, h3, h4⟩ := mul_l1 la lb hlb i (la[i]?.getD 0) hx.1 hx.2 g4 hL (F + 1 + r * (lb.length + 2)) lb.length (Nat.le_refl _) out 0 ho g3 (by decide) (by decide)
    rw [Nat.sub_self] at h1 h4
    have hfuel : F + 1 + (r + 1) * (lb.length + 2) = (F + 1 + r * (lb.length + 2) + 1 + lb.length) + 1 := by rw [Nat.succ_mul]; omega
    have hv' : val (out'.take (i + 1 + lb.length)) = val (la.take (i + 1)) * val lb := by
      rw [show i + 1 + lb.length = i + lb.length + 1 from by omega, h4, hv, take_snoc' la i g5, val_snoc, List.length_take, Nat.min_eq_left (Nat.le_of_lt g5)]
      simp only [Nat.add_zero, List.drop_zero, Int.toNat_zero, Nat.zero_add]
      rw [Nat.add_mul, Nat.mul_assoc]
    obtain ⟨out2, k1, k2, k3, k4⟩ := ih (by omega) out' h2 (by rw [h3]; exact hlen) (by rw [hi1]; exact hv')
    refine ⟨out2, ?_, k2, k3, k4⟩
    rw [hfuel, C.whole_mul.l0, if_pos g1, if_pos g2, if_pos g1, rd_get]
    simp only [Int.toNat_natCast]
    rw [hi1] at k1
    exact h1.trans k1
theorem mul_f (la lb : List Int) (hla : okW la) (hlb : okW lb) (hLa : la.length < 1073741824) (hL : lb.length < 1073741824) :
    ∃ out', C.whole_mul.f (1 + la.length * (lb.length + 2)) la lb = some out' ∧ okW out' ∧ out'.length = la.length + lb.length ∧ val out' = val la * val lb := by
  have e : wrap64 ((la.length : Int) + (lb.length : Int)) = ((la.length + lb.length : Nat) : Int) := w64add _ _ (by omega)
  have h := mul_l0 la lb hla hlb hLa hL 0 la.length (Nat.le_refl _) (List.replicate (la.length + lb.length) 0) (by intro x hx; rw [List.eq_of_mem_replicate hx]; omega) (by simp) (by
    rw [Nat.sub_self, List.take_zero, val, Nat.zero_mul, List.take_replicate]
    generalize (min (0 + lb.length) (la.length + lb.length) : Nat) = m
    induction m with
    | zero => rfl
    | succ m ih => rw [List.replicate_succ, val, ih]; rfl)
  unfold C.whole_mul.f
  rw [e, if_pos (by omega), if_pos (by simp only [Int.toNat_natCast]; omega)]
  simp only [Int.toNat_natCast]
  rw [Nat.sub_self, Nat.zero_add] at h
  exact h
theorem mul_c {w : World} {oka okb : Nat → Prop} {va vb : Value} {la lb : List Int} (ha : Uv w oka va la) (hb : Uv w okb vb lb) (wa : okW la) (wb : okW lb) (hla : la.length < 1073741824) (hlb : lb.length < 1073741824) :
    Calls Try.prog 89 #[va, vb] w (Out w fun r => val r = val la * val lb ∧ r.length = la.length + lb.length) := by
  obtain ⟨A, c, rfl, hc, hC⟩ := ha.slice
  obtain ⟨B, d, rfl, hd, hD⟩ := hb.slice
  obtain ⟨out, h1, h2, h3, h4⟩ := mul_f la lb wa wb hla hlb
  refine (C.whole_mul.calls _ A c la B d lb out w hC hc hD hd h1).mono ?_
  rintro e w' ⟨v, rfl, hR, hb'⟩
  have hu : Uv w' (fun k => w.heap.size ≤ k) v out := (Kd.R_V (base' := 0) (Kd.R_mono (Kd.R_bound hR) (fun k hk => hk.2.1)) : Kd.V (Kd.int .u32) 149 w' 0 _ v out)
  obtain ⟨E, f, rfl, _, _⟩ := hu.slice
  exact ⟨E, out, f, rfl, ⟨h2, h4, h3⟩, hu, hb'⟩
end Ar
end Go.Proofs.Ytnghcgmkncbnnaa
end
section
namespace Go.Proofs.Ytnghcgmkncbnnaa
open Go.RowKit Go.Proofs.YtnghcgmkncbnnaaW.PrintWords Go.Proofs.YtnghcgmkncbnnaaW.PrintLast Go.Proofs.YtnghcgmkncbnnaaW.PrintMore
namespace Ar
open Wd
theorem zv_open {W : World} {ok : Nat → Prop} {v : Value} {z : Int} (h : ZV W ok v z) : ∃ A c, v = .agg #[.bool (decide (z < 0)), .slice A (digs z.natAbs).length c] ∧ Uv W ok (.slice A (digs z.natAbs).length c) (digs z.natAbs) := by
  obtain ⟨sv, rfl, hu⟩ := h
  obtain ⟨A, c, rfl, _, _⟩ := hu.slice
  exact ⟨A, c, rfl, hu⟩
def sg (p : Bool) (m : Nat) : Int := if p then -(m : Int) else m
theorem sg_self (x : Int) : sg (decide (x < 0)) x.natAbs = x := by
  unfold sg; by_cases h : x < 0
  · rw [if_pos (decide_eq_true h)]; omega
  · rw [if_neg (by simpa using h)]; omega
theorem sg_not (p : Bool) (m : Nat) : sg (!p) m = - sg p m := by cases p <;> simp [sg]
theorem add_sign1 (p : Bool) (m n : Nat) : (p && decide (m + n ≠ 0)) = decide (sg p m + sg p n < 0) ∧ (sg p m + sg p n).natAbs = m + n := by
  cases p with
  | true =>
    simp only [sg, if_true]
    exact ⟨by rw [Bool.true_and]; congr 1; apply propext; omega, by omega⟩
  | false =>
    simp only [sg, Bool.false_eq_true, if_false]
    exact ⟨by rw [Bool.false_and, eq_comm, decide_eq_false_iff_not]; omega, by omega⟩
theorem add_sign2 (p q : Bool) (m n : Nat) (hne : ¬ p = q) (hle : n ≤ m) : (p && decide (m - n ≠ 0)) = decide (sg p m + sg q n < 0) ∧ (sg p m + sg q n).natAbs = m - n := by
  cases p with
  | true =>
    cases q with
    | true => exact absurd rfl hne
    | false =>
      simp only [sg, if_true, Bool.false_eq_true, if_false]
      exact ⟨by rw [Bool.true_and]; congr 1; apply propext; omega, by omega⟩
  | false =>
    cases q with
    | false => exact absurd rfl hne
    | true =>
      simp only [sg, if_true, Bool.false_eq_true, if_false]
      exact ⟨by rw [Bool.false_and, eq_comm, decide_eq_false_iff_not]; omega, by omega⟩
theorem add_sign3 (p q : Bool) (m n : Nat) (hne : ¬ p = q) (hle : ¬ n ≤ m) : (q && decide (n - m ≠ 0)) = decide (sg p m + sg q n < 0) ∧ (sg p m + sg q n).natAbs = n - m := by
  have h := add_sign2 q p n m (fun e => hne e.symm) (by omega)
  rw [Int.add_comm (sg q n) (sg p m)] at h
  exact h
abbrev zObj (p : Bool) (v : Value) : Obj := .cells #[.bool p, v] 76
set_option maxRecDepth 100000 in
set_option maxHeartbeats 4000000 in
theorem Add_g {w : World} {oka okb : Nat → Prop} {A B : Option Addr} {ca cb : Nat} (p q : Bool) {m n : Nat} (hua : Uv w oka (.slice A (digs m).length ca) (digs m)) (hub : Uv w okb (.slice B (digs n).length cb) (digs n)) (hx : (digs m).length < 1048576) (hy : (digs n).length < 1048576) :
    Calls Try.prog 102 #[.agg #[.bool p, .slice A (digs m).length ca], .agg #[.bool q, .slice B (digs n).length cb]] w fun e w' => ∃ v', e = .returned v' ∧ ZV w' (fun k => w.heap.size ≤ k) v' (sg p m + sg q n) ∧ Below w.heap.size w w' := by
  have hT := Try.underlying76
  have hB : Below w.heap.size w (((w.alloc (zObj p (.slice A (digs m).length ca))).alloc (zObj q (.slice B (digs n).length cb))).alloc (zObj false (.slice none 0 0))) := below_alloc (below_alloc (below_alloc (Below.refl _ w) _) _) _
  have h1 := ((hua.bound.alloc (zObj p (.slice A (digs m).length ca))).alloc (zObj q (.slice B (digs n).length cb))).alloc (zObj false (.slice none 0 0))
  have h2 := ((hub.bound.alloc (zObj p (.slice A (digs m).length ca))).alloc (zObj q (.slice B (digs n).length cb))).alloc (zObj false (.slice none 0 0))
  have k1 := blk_alloc (blk_alloc (blk_new w (zObj p (.slice A (digs m).length ca))) (zObj q (.slice B (digs n).length cb))) (zObj false (.slice none 0 0))
  have k2 := blk_alloc (blk_new (w.alloc (zObj p (.slice A (digs m).length ca))) (zObj q (.slice B (digs n).length cb))) (zObj false (.slice none 0 0))
  have k3 := blk_new ((w.alloc (zObj p (.slice A (digs m).length ca))).alloc (zObj q (.slice B (digs n).length cb))) (zObj false (.slice none 0 0))
  simp only [World.size_alloc] at k2 k3
  go_enter Try.func102, Try.ntmps102
  go_wp2_with fail
  generalize (((w.alloc _).alloc _).alloc _) = W at hB h1 h2 k1 k2 k3 ⊢
  have hz0 := blk_cell k1 0
  have hz1 := blk_cell k1 1
  have hy0 := blk_cell k2 0
  have hy1 := blk_cell k2 1
  go_quiet (first | (go_at_call 76; first | exact trim_quiet h1 (digs_last _) (by omega) | exact trim_quiet h2 (digs_last _) (by omega)))
  replace hB := pw_below_drewN hB nq
  replace h1 := h1.drewN nq
  replace h2 := h2.drewN nq
  replace k1 := blk_drewN k1 nq
  replace k2 := blk_drewN k2 nq
  replace k3 := blk_drewN k3 nq
  clear hz0 hz1 hy0 hy1
  have hz0 := blk_cell k1 0
  have hz1 := blk_cell k1 1
  have hy0 := blk_cell k2 0
  have hy1 := blk_cell k2 1
  generalize W.drewN nq = V at hB h1 h2 k1 k2 k3 hz0 hz1 hy0 hy1 ⊢
  have hs3 : w.heap.size + 3 ≤ V.heap.size := blk_lt k3
  have n13 : w.heap.size ≠ w.heap.size + 1 + 1 := by omega
  have n23 : w.heap.size + 1 ≠ w.heap.size + 1 + 1 := by omega
  have fin : ∀ (w1 w2 : World) (b : Bool) (C : Option Addr) (r : List Int) (c : Nat) (P : Nat → Prop), Below w.heap.size w w1 → w.heap.size + 3 ≤ w1.heap.size → Below w1.heap.size w1 w2 → Uv w2 (fun k => P k ∨ w1.heap.size ≤ k) (.slice C r.length c) r → (∀ k, P k → w.heap.size + 3 ≤ k) → b = decide (sg p m + sg q n < 0) → r = digs (sg p m + sg q n).natAbs →
      ∃ v, Ending.returned (.agg #[.bool b, .slice C r.length c]) = .returned v ∧ ZV ((w2.setCell ⟨w.heap.size + 1 + 1, 0, none⟩ (.bool b)).setCell ⟨w.heap.size + 1 + 1, 1, none⟩ (.slice C r.length c)) (fun k => w.heap.size ≤ k) v (sg p m + sg q n) ∧ Below w.heap.size w ((w2.setCell ⟨w.heap.size + 1 + 1, 0, none⟩ (.bool b)).setCell ⟨w.heap.size + 1 + 1, 1, none⟩ (.slice C r.length c)) := by
    intro w1 w2 b C r c P hb1 hs hb2 hu hP hb hr
    have hk : ∀ k, (P k ∨ w1.heap.size ≤ k) → w.heap.size + 3 ≤ k := by
      intro k hk
      rcases hk with h | h
      · exact hP k h
      · omega
    exact zv_store (sg p m + sg q n) (below_step hb1 hb2) (by omega) hu (fun k h => by have := hk k h; omega) hr hb (fun k h => by have := hk k h; omega)
  have HF := Lib.hid fin
  clear fin
  by_cases hpq : p = q
  · subst hpq
    have he : (p == p) = true := beq_self_eq_true p
    go_wp2_with fail
    go_region_held3 (fun w' => w'.cell? ⟨w.heap.size, 0, none⟩ = some (.bool p)) (first | exact hz0 | exact blk_cell j1 0 | exact blk_cell i1 0 | exact blk_cell (blk_far (blk_far i1 n13 _) n13 _) 0) (first | (go_at_call 88; refine (add_c h1.drew h2.drew (digs_ok _) (digs_ok _) (by omega) (by omega)).mono ?_; rintro e w1 ⟨A1, r1, c1, rfl, H1, hv1, hb1⟩; have j1 := blk_below (blk_drew k1) hb1; have j3 := blk_below (blk_drew k3) hb1) | (go_at_call 86; refine (made_h _ hv1 H1.out.1 (by rw [H1.out.2.2]; omega)).mono ?_; rintro e w2 ⟨b2, A2, r2, c2, rfl, H2, hv2, hb2⟩; have i1 := blk_below j1 hb2; have i3 := blk_below j3 hb2; have hx0 := (blk_cell i3 0); have hx1 := blk_cell i3 1; have hf0 := blk_frozen i3 0; have hf1 := blk_frozen i3 1))
    go_wp2
    refine bodyPost_ret (results_cell_row rfl _ _ (w.heap.size + 1 + 1) 76 #[.bool b2, .slice A2 r2.length c2] (0, 0) _ rfl (blk_set (blk_set i3 0 _) 1 _) Try.underlying76 rfl (by kernel_rfl)) rfl ?_
    have e1 := H1.out.2.1
    rw [val_digs, val_digs] at e1
    obtain ⟨s1, s2⟩ := add_sign1 p m n
    obtain ⟨e2, e3⟩ := H2.out
    rw [e1] at e2 e3
    exact HF.out w1 w2 b2 A2 r2 c2 _ (below_step hB.drew hb1) (Nat.le_trans hs3 hb1.size) hb2 hv2 (fun k h => Nat.le_trans hs3 h) (e2.trans s1) (e3.trans (congrArg digs s2.symm))
  · have he : (p == q) = false := beq_eq_false_iff_ne.2 hpq
    by_cases hle : n ≤ m
    · go_wp2_with (go_at_call 103; refine (cmp_c h1 h2 (by omega) (by omega)).mono ?_; rintro e w0 ⟨c0, rfl, Hc, hb0⟩; have hcd : decide (0 ≤ c0) = true := decide_eq_true (Hc.out.1.2 hle))
      have m1 := blk_below k1 hb0
      have m2 := blk_below k2 hb0
      have m3 := blk_below k3 hb0
      have g1 := h1.below hb0
      have g2 := h2.below hb0
      have m0 := blk_cell m1 0
      go_region_held3 (fun w' => w'.cell? ⟨w.heap.size, 0, none⟩ = some (.bool p)) (first | exact m0 | exact blk_cell j1 0 | exact blk_cell i1 0 | exact blk_cell (blk_far (blk_far i1 n13 _) n13 _) 0) (first | (go_at_call 99; refine (sub_c g1.drew g2.drew (digs_ok _) (digs_ok _) (by omega) (by omega) (by rw [val_digs, val_digs]; omega)).mono ?_; rintro e w1 ⟨A1, r1, c1, rfl, H1, hv1, hb1⟩; have j1 := blk_below (blk_drew m1) hb1; have j3 := blk_below (blk_drew m3) hb1) | (go_at_call 86; refine (made_h _ hv1 H1.out.1 (by rw [H1.out.2.2]; omega)).mono ?_; rintro e w2 ⟨b2, A2, r2, c2, rfl, H2, hv2, hb2⟩; have i1 := blk_below j1 hb2; have i3 := blk_below j3 hb2; have hx0 := (blk_cell i3 0); have hx1 := blk_cell i3 1; have hf0 := blk_frozen i3 0; have hf1 := blk_frozen i3 1))
      go_wp2
      refine bodyPost_ret (results_cell_row rfl _ _ (w.heap.size + 1 + 1) 76 #[.bool b2, .slice A2 r2.length c2] (0, 0) _ rfl (blk_set (blk_set i3 0 _) 1 _) Try.underlying76 rfl (by kernel_rfl)) rfl ?_
      have e1 := H1.out.2.1
      rw [val_digs, val_digs] at e1
      obtain ⟨s1, s2⟩ := add_sign2 p q m n hpq hle
      obtain ⟨e2, e3⟩ := H2.out
      rw [e1] at e2 e3
      exact HF.out w1 w2 b2 A2 r2 c2 _ (below_step (below_step hB hb0).drew hb1) (Nat.le_trans (Nat.le_trans hs3 hb0.size) hb1.size) hb2 hv2 (fun k h => Nat.le_trans (Nat.le_trans hs3 hb0.size) h) (e2.trans s1) (e3.trans (congrArg digs s2.symm))
    · go_wp2_with (go_at_call 103; refine (cmp_c h1 h2 (by omega) (by omega)).mono ?_; rintro e w0 ⟨c0, rfl, Hc, hb0⟩; have hcd : decide (0 ≤ c0) = false := decide_eq_false (fun h => hle (Hc.out.1.1 h)))
      have m1 := blk_below k1 hb0
      have m2 := blk_below k2 hb0
      have m3 := blk_below k3 hb0
      have g1 := h1.below hb0
      have g2 := h2.below hb0
      have m0 := blk_cell m2 0
      go_region_held3 (fun w' => w'.cell? ⟨w.heap.size + 1, 0, none⟩ = some (.bool q)) (first | exact m0 | exact blk_cell j1 0 | exact blk_cell i1 0 | exact blk_cell (blk_far (blk_far i1 n23 _) n23 _) 0) (first | (go_at_call 99; refine (sub_c g2.drew g1.drew (digs_ok _) (digs_ok _) (by omega) (by omega) (by rw [val_digs, val_digs]; omega)).mono ?_; rintro e w1 ⟨A1, r1, c1, rfl, H1, hv1, hb1⟩; have j1 := blk_below (blk_drew m2) hb1; have j3 := blk_below (blk_drew m3) hb1) | (go_at_call 86; refine (made_h _ hv1 H1.out.1 (by rw [H1.out.2.2]; omega)).mono ?_; rintro e w2 ⟨b2, A2, r2, c2, rfl, H2, hv2, hb2⟩; have i1 := blk_below j1 hb2; have i3 := blk_below j3 hb2; have hx0 := (blk_cell i3 0); have hx1 := blk_cell i3 1; have hf0 := blk_frozen i3 0; have hf1 := blk_frozen i3 1))
      go_wp2
      refine bodyPost_ret (results_cell_row rfl _ _ (w.heap.size + 1 + 1) 76 #[.bool b2, .slice A2 r2.length c2] (0, 0) _ rfl (blk_set (blk_set i3 0 _) 1 _) Try.underlying76 rfl (by kernel_rfl)) rfl ?_
      have e1 := H1.out.2.1
      rw [val_digs, val_digs] at e1
      obtain ⟨s1, s2⟩ := add_sign3 p q m n hpq hle
      obtain ⟨e2, e3⟩ := H2.out
      rw [e1] at e2 e3
      exact HF.out w1 w2 b2 A2 r2 c2 _ (below_step (below_step hB hb0).drew hb1) (Nat.le_trans (Nat.le_trans hs3 hb0.size) hb1.size) hb2 hv2 (fun k h => Nat.le_trans (Nat.le_trans hs3 hb0.size) h) (e2.trans s1) (e3.trans (congrArg digs s2.symm))
theorem Sub_add {w : World} {oka okb : Nat → Prop} {va vb : Value} {x y : Int} (ha : ZV w oka va x) (hx : Sm x) (hy : Sm y) (sv : Value) (hv : vb = .agg #[.bool (!decide (y < 0)), sv]) (hb : Uv w okb sv (digs y.natAbs)) :
    Calls Try.prog 102 #[va, vb] w fun e w' => ∃ v', e = .returned v' ∧ ZV w' (fun k => w.heap.size ≤ k) v' (x - y) ∧ Below w.heap.size w w' := by
  obtain ⟨A, ca, rfl, hua⟩ := zv_open ha
  obtain ⟨B, cb, rfl, _, _⟩ := hb.slice
  subst hv
  have h := Add_g (decide (x < 0)) (!decide (y < 0)) hua hb hx hy
  rw [sg_not, sg_self, sg_self, ← Int.sub_eq_add_neg] at h
  exact h
end Ar
end Go.Proofs.Ytnghcgmkncbnnaa
end
section
namespace Go.Proofs.Ytnghcgmkncbnnaa
open Go.RowKit Go.Proofs.YtnghcgmkncbnnaaW.PrintWords Go.Proofs.YtnghcgmkncbnnaaW.PrintLast Go.Proofs.YtnghcgmkncbnnaaW.PrintMore
namespace Ar
open Wd
theorem zv_openh {W : World} {ok : Nat → Prop} {v : Value} {z : Int} (h : ZV W ok v z) : ∃ (b : Bool) (A : Option Addr) (r : List Int) (c : Nat), v = .agg #[.bool b, .slice A r.length c] ∧ Hid (b = decide (z < 0) ∧ r = digs z.natAbs) ∧ Uv W ok (.slice A r.length c) r := by
  obtain ⟨A, c, rfl, hu⟩ := zv_open h
  exact ⟨_, A, _, c, rfl, ⟨rfl, rfl⟩, hu⟩
set_option maxRecDepth 100000 in
set_option maxHeartbeats 4000000 in
theorem Sub_c {w : World} {oka okb : Nat → Prop} {va vb : Value} {x y : Int} (ha : ZV w oka va x) (hb : ZV w okb vb y) (hx : Sm x) (hy : Sm y) :
    Calls Try.prog 96 #[va, vb] w fun e w' => ∃ v', e = .returned v' ∧ ZV w' (fun k => w.heap.size ≤ k) v' (x - y) ∧ Below w.heap.size w w' := by
  obtain ⟨A, ca, rfl, hua⟩ := zv_open ha
  obtain ⟨B, cb, rfl, hub⟩ := zv_open hb
  have hT := Try.underlying76
  obtain ⟨p, hp⟩ : ∃ p, decide (x < 0) = p := ⟨_, rfl⟩
  obtain ⟨q, hq⟩ : ∃ q, decide (y < 0) = q := ⟨_, rfl⟩
  rw [hp] at ha
  rw [hq] at hb
  rw [hp, hq]
  have hB : Below w.heap.size w (((w.alloc (zObj p (.slice A (digs x.natAbs).length ca))).alloc (zObj q (.slice B (digs y.natAbs).length cb))).alloc (zObj false (.slice none 0 0))) := below_alloc (below_alloc (below_alloc (Below.refl _ w) _) _) _
  have h1 := ((ha.bound.alloc (zObj p (.slice A (digs x.natAbs).length ca))).alloc (zObj q (.slice B (digs y.natAbs).length cb))).alloc (zObj false (.slice none 0 0))
  have h2 := ((hub.bound.alloc (zObj p (.slice A (digs x.natAbs).length ca))).alloc (zObj q (.slice B (digs y.natAbs).length cb))).alloc (zObj false (.slice none 0 0))
  have k1 := blk_alloc (blk_alloc (blk_new w (zObj p (.slice A (digs x.natAbs).length ca))) (zObj q (.slice B (digs y.natAbs).length cb))) (zObj false (.slice none 0 0))
  have k2 := blk_alloc (blk_new (w.alloc (zObj p (.slice A (digs x.natAbs).length ca))) (zObj q (.slice B (digs y.natAbs).length cb))) (zObj false (.slice none 0 0))
  have k3 := blk_new ((w.alloc (zObj p (.slice A (digs x.natAbs).length ca))).alloc (zObj q (.slice B (digs y.natAbs).length cb))) (zObj false (.slice none 0 0))
  simp only [World.size_alloc] at k2 k3
  go_enter Try.func96, Try.ntmps96
  go_wp2_with (go_at_call 102; refine (Sub_add h1 hx hy _ (by rw [hq]) h2).mono ?_; rintro e w1 ⟨v1, rfl, hv1, hb1⟩; obtain ⟨b1, A1, r1, c1, rfl, H1, hu1⟩ := zv_openh hv1; have i3 := blk_below k3 hb1; have hx0 := blk_cell i3 0; have hx1 := blk_cell i3 1; have hf0 := blk_frozen i3 0; have hf1 := blk_frozen i3 1)
  refine bodyPost_ret (results_cell_row rfl _ _ (w.heap.size + 1 + 1) 76 #[.bool b1, .slice A1 r1.length c1] (0, 0) _ rfl (blk_set (blk_set i3 0 _) 1 _) Try.underlying76 rfl (by kernel_rfl)) rfl ?_
  simp only [World.size_alloc] at hu1
  exact zv_store (x - y) (below_step hB hb1) (by omega) hu1 (fun k hk => by omega) H1.out.2 H1.out.1 (fun k hk => by omega)
set_option maxRecDepth 100000 in
set_option maxHeartbeats 4000000 in
theorem Cmp_c {w : World} {oka okb : Nat → Prop} {va vb : Value} {x y : Int} (ha : ZV w oka va x) (hb : ZV w okb vb y) (hx : Sm x) (hy : Sm y) (hxy : Sm (x - y)) :
    Calls Try.prog 91 #[va, vb] w fun e w' => e = .returned (.int .i64 (x - y).sign) ∧ Below w.heap.size w w' := by
  obtain ⟨p, A, ra, ca, rfl, Ha, hua⟩ := zv_openh ha
  obtain ⟨q, B, rb, cb, rfl, Hb, hub⟩ := zv_openh hb
  have hT := Try.underlying76
  have hB : Below w.heap.size w ((w.alloc (zObj p (.slice A ra.length ca))).alloc (zObj q (.slice B rb.length cb))) := below_alloc (below_alloc (Below.refl _ w) _) _
  have h1 := (ha.alloc (zObj p (.slice A ra.length ca))).alloc (zObj q (.slice B rb.length cb))
  have h2 := (hb.alloc (zObj p (.slice A ra.length ca))).alloc (zObj q (.slice B rb.length cb))
  have k1 := blk_alloc (blk_new w (zObj p (.slice A ra.length ca))) (zObj q (.slice B rb.length cb))
  have k2 := (blk_new (w.alloc (zObj p (.slice A ra.length ca))) (zObj q (.slice B rb.length cb)))
  simp only [World.size_alloc] at k2
  go_enter Try.func91, Try.ntmps91
  go_wp2_with (first | (go_at_call 96; refine (Sub_c h1 h2 hx hy).mono ?_; rintro e w1 ⟨v1, rfl, hv1, hb1⟩) | (go_at_call 65; refine (sign_c hv1 hxy).mono ?_; rintro e w2 ⟨rfl, hb2⟩))
  go_ret
  exact ⟨rfl, below_step (below_step hB hb1) hb2⟩
def in64 (z : Int) : Bool := decide (-9223372036854775808 ≤ z ∧ z < 9223372036854775808)
theorem i64of_eq (z : Int) (h : z.natAbs < 18446744073709551616) : Rf.i64of (decide (z < 0)) (z.natAbs : Int) = (if in64 z then z else 0, in64 z) := by
  unfold Rf.i64of in64
  by_cases h0 : z < 0
  · rw [if_pos (decide_eq_true h0)]
    by_cases h1 : (z.natAbs : Int) ≤ 9223372036854775808
    · have h2 : -9223372036854775808 ≤ z ∧ z < 9223372036854775808 := by omega
      rw [if_pos h1, decide_eq_true h2]
      simp only [if_true]
      congr 1
      unfold wrap64; omega
    · have h2 : ¬ (-9223372036854775808 ≤ z ∧ z < 9223372036854775808) := by omega
      rw [if_neg h1, decide_eq_false h2]
      rfl
  · rw [if_neg (by simpa using h0)]
    by_cases h1 : z < 9223372036854775808
    · have h2 : -9223372036854775808 ≤ z ∧ z < 9223372036854775808 := by omega
      rw [w64in (z.natAbs : Int) (by omega) (by omega), if_pos (by omega), decide_eq_true h2]
      simp only [if_true]
      congr 1; omega
    · have h2 : ¬ (-9223372036854775808 ≤ z ∧ z < 9223372036854775808) := by omega
      rw [if_neg (by unfold wrap64; omega), decide_eq_false h2]
      rfl
theorem int64_c {w : World} {ok : Nat → Prop} {v : Value} {z : Int} (ha : ZV w ok v z) (hs : Sm z) :
    Calls Try.prog 64 #[v] w fun e w' => e = .returned (.tuple #[.int .i64 (if in64 z then z else 0), .bool (in64 z)]) ∧ Below w.heap.size w w' := by
  obtain ⟨A, c, rfl, hu⟩ := zv_open ha
  unfold Sm at hs
  have ht : ∀ w0, Below w.heap.size w w0 → Calls Try.prog 76 #[.slice A (digs z.natAbs).length c] w0 fun e W' => ∃ A' c', e = .returned (.slice A' (digs z.natAbs).length c') ∧ Rf.U32s (· < w.heap.size) W' (.slice A' (digs z.natAbs).length c') (digs z.natAbs) ∧ Below w0.heap.size w0 W' := by
    intro w0 hb
    refine (trim_q (hu.below hb) (digs_last _) (by omega)).mono ?_
    rintro e w1 ⟨rfl, rfl⟩
    exact ⟨A, c, rfl, hu.u32s.keep (Rf.KeepS.below hb (fun k hk => hk)), Below.refl _ _⟩
  by_cases h2 : 2 < (digs z.natAbs).length
  · have hbig : in64 z = false := by
      unfold in64
      rw [decide_eq_false_iff_not]
      intro h
      have := digs_len_le z.natAbs 2 (by omega)
      omega
    rw [hbig]
    exact Rf.int64_long _ _ (digs z.natAbs) rfl w h2 (by omega) ht
  · have hu2 := ufold_val (digs z.natAbs) (digs_ok _) (by omega)
    have hlt := digs_lt z.natAbs 2 (by omega)
    have h := Rf.int64_short (decide (z < 0)) _ (digs z.natAbs) rfl w (by omega) (wrd_of _ (digs_ok _)) ht _ hu2
    rw [val_digs, i64of_eq z (by omega)] at h
    exact h
end Ar
end Go.Proofs.Ytnghcgmkncbnnaa
end
section
namespace Go.Proofs.Ytnghcgmkncbnnaa
open Go.RowKit Go.Proofs.YtnghcgmkncbnnaaW.PrintWords Go.Proofs.YtnghcgmkncbnnaaW.PrintLast Go.Proofs.YtnghcgmkncbnnaaW.PrintMore
namespace Ar
open Wd
def DivAt (B : Nat) : Prop := ∀ (w : World) (oka okb : Nat → Prop) (A C : Option Addr) (ca cc : Nat) (a b : Nat), Uv w oka (.slice A (digs a).length ca) (digs a) → Uv w okb (.slice C (digs b).length cc) (digs b) → (digs a).length < 1048576 → (digs b).length < 1048576 → 0 < b → b < B →
  Calls Try.prog 98 #[.slice A (digs a).length ca, .slice C (digs b).length cc] w fun e w' => ∃ (A1 : Option Addr) (r1 : List Int) (c1 : Nat) (A2 : Option Addr) (r2 : List Int) (c2 : Nat), e = .returned (.tuple #[.slice A1 r1.length c1, .slice A2 r2.length c2]) ∧ Hid (r1 = digs (a / b) ∧ r2 = digs (a % b)) ∧
    Uv w' (fun k => w.heap.size ≤ k) (.slice A1 r1.length c1) r1 ∧ Uv w' (fun k => w.heap.size ≤ k) (.slice A2 r2.length c2) r2 ∧ Below w.heap.size w w'
theorem digs_one (b : Nat) (h0 : 0 < b) (h1 : b < 4294967296) : digs b = [(b : Int)] := by
  rw [digs_pos b h0, Nat.mod_eq_of_lt h1, Nat.div_eq_of_lt h1]; rfl
theorem val1 (n : Nat) : val [(n : Int)] = n := by simp [val]
theorem okW1 (n : Nat) (h : n < 4294967296) : okW [(n : Int)] := by
  intro x hx
  rw [List.mem_singleton.1 hx]; omega
theorem small_h {w : World} {ok : Nat → Prop} {A : Option Addr} {c : Nat} {l : List Int} (hv : Uv w ok (.slice A l.length c) l) (hl : okW l) (hlen : l.length < 1073741824) (n : Nat) (hn : 0 < n) (hn2 : n ≤ 4294967296) :
    Calls Try.prog 84 #[.slice A l.length c, .int .u64 n] w fun e w' => ∃ (A : Option Addr) (r : List Int) (c m : Nat), e = .returned (.tuple #[.slice A r.length c, .int .u64 (m : Int)]) ∧ Hid (r = digs (val l / n) ∧ m = val l % n) ∧ Uv w' (fun k => w.heap.size ≤ k) (.slice A r.length c) r ∧ Below w.heap.size w w' :=
  (small_c hv hl hlen n hn hn2).mono fun e w' ⟨A, r, c, he, hr, hu, hb⟩ => ⟨A, r, c, _, he, ⟨hr.out, rfl⟩, hu, hb⟩
theorem okWm (x : Int) : okW [x % 4294967296] := by
  intro y hy
  rw [List.mem_singleton.1 hy]; omega
set_option maxRecDepth 100000 in
set_option maxHeartbeats 4000000 in
theorem div_one : DivAt 4294967296 := by
  intro w oka okb A C ca cc a b hua hub hla hlb h0 hB
  have hb1 := digs_one b h0 hB
  rw [hb1] at hub ⊢
  have hR := Lib.hid (reads_c (Kd.V_reads' hub).2.2)
  obtain ⟨ad, rfl, hcell⟩ := hR.out.2.2 (by simp)
  have hc0 := hcell 0 (by simp)
  simp only [List.getD_cons_zero] at hc0
  have hc1 : w.cell? ad = some (.int .u32 (b : Int)) := hc0
  clear hcell hR hc0
  have hbw : IntKind.u64.wrap (b : Int) = b := u64in _ (by omega) (by omega)
  simp only [List.length_singleton] at hub ⊢
  go_enter Try.func98, Try.ntmps98
  go_wp2_with (first | (go_at_call 84; refine (small_h hua (digs_ok _) (by omega) b h0 (by omega)).mono ?_; rintro e w1 ⟨A1, r1, c1, m, rfl, H1, hu1, hb1⟩) | (go_at_call 76; refine (trim_h (uv_lit1 w1 _) (okWm _) (by simp)).mono ?_; rintro e w2 ⟨A2, r2, c2, rfl, H2, hu2, hb2⟩))
  go_ret2
  obtain ⟨e1, e2⟩ := H1.out
  rw [val_digs] at e1 e2
  have e3 := H2.out
  have hm : m < b := by rw [e2]; exact Nat.mod_lt _ h0
  rw [show ((m : Int) % 4294967296) = (m : Int) from by omega, val1, e2] at e3
  have hsz := hb1.size
  refine ⟨A1, r1, c1, A2, r2, c2, rfl, ⟨e1, e3⟩, (hu1.alloc _).below hb2, hu2.mono (fun k hk => ?_), below_step (below_alloc hb1 _) hb2⟩
  simp only [World.size_alloc] at hk
  omega
end Ar
end Go.Proofs.Ytnghcgmkncbnnaa
end
section
namespace Go.Proofs.Ytnghcgmkncbnnaa
open Go.RowKit Go.Proofs.YtnghcgmkncbnnaaW.PrintWords Go.Proofs.YtnghcgmkncbnnaaW.PrintLast Go.Proofs.YtnghcgmkncbnnaaW.PrintMore
namespace Ar
open Wd
abbrev all : Nat → Prop := fun _ => True
theorem Uv.any {W : World} {ok : Nat → Prop} {v : Value} {l : List Int} (h : Uv W ok v l) : Uv W all v l := h.mono (fun _ _ => trivial)
def GcdAt (w : World) (B G k : Nat) (v5 v6 : Value) (W : World) : Prop := ∃ X Y, Uv W all v5 (digs X) ∧ Uv W all v6 (digs Y) ∧ Nat.gcd X Y = G ∧ Y ≤ k ∧ Y < B ∧ (digs X).length < 1048576 ∧ (digs Y).length < 1048576 ∧ Below w.heap.size w W ∧ W.heap[w.heap.size + 1 + 1]? = some (zObj false (.slice none 0 0))
set_option maxRecDepth 100000 in
set_option maxHeartbeats 4000000 in
theorem GCD_c {B : Nat} (hD : DivAt B) {w : World} {oka okb : Nat → Prop} {va vb : Value} {x y : Int} (ha : ZV w oka va x) (hb : ZV w okb vb y) (hx : Sm x) (hy : Sm y) (hyB : y.natAbs < B) :
    Calls Try.prog 93 #[va, vb] w fun e w' => ∃ v', e = .returned v' ∧ ZV w' (fun k => w.heap.size ≤ k) v' (Nat.gcd x.natAbs y.natAbs : Nat) ∧ Below w.heap.size w w' := by
  obtain ⟨A, ca, rfl, hua⟩ := zv_open ha
  obtain ⟨C, cb, rfl, hub⟩ := zv_open hb
  have hT := Try.underlying76
  unfold Sm at hx hy
  obtain ⟨p, hp⟩ : ∃ p, decide (x < 0) = p := ⟨_, rfl⟩
  obtain ⟨q, hq⟩ : ∃ q, decide (y < 0) = q := ⟨_, rfl⟩
  rw [hp, hq]
  have hB : Below w.heap.size w (((w.alloc (zObj p (.slice A (digs x.natAbs).length ca))).alloc (zObj q (.slice C (digs y.natAbs).length cb))).alloc (zObj false (.slice none 0 0))) := below_alloc (below_alloc (below_alloc (Below.refl _ w) _) _) _
  have h1 := ((hua.any.alloc (zObj p (.slice A (digs x.natAbs).length ca))).alloc (zObj q (.slice C (digs y.natAbs).length cb))).alloc (zObj false (.slice none 0 0))
  have h2 := ((hub.any.alloc (zObj p (.slice A (digs x.natAbs).length ca))).alloc (zObj q (.slice C (digs y.natAbs).length cb))).alloc (zObj false (.slice none 0 0))
  have k1 := blk_alloc (blk_alloc (blk_new w (zObj p (.slice A (digs x.natAbs).length ca))) (zObj q (.slice C (digs y.natAbs).length cb))) (zObj false (.slice none 0 0))
  have k2 := blk_alloc (blk_new (w.alloc (zObj p (.slice A (digs x.natAbs).length ca))) (zObj q (.slice C (digs y.natAbs).length cb))) (zObj false (.slice none 0 0))
  have k3 := blk_new ((w.alloc (zObj p (.slice A (digs x.natAbs).length ca))).alloc (zObj q (.slice C (digs y.natAbs).length cb))) (zObj false (.slice none 0 0))
  simp only [World.size_alloc] at k2 k3
  go_enter Try.func93, Try.ntmps93
  go_wp2_with fail
  generalize (((w.alloc _).alloc _).alloc _) = W at hB h1 h2 k1 k2 k3 ⊢
  have hz0 := blk_cell k1 0
  have hz1 := blk_cell k1 1
  have hy0 := blk_cell k2 0
  have hy1 := blk_cell k2 1
  go_quiet (first | (go_at_call 76; first | exact trim_quiet h1 (digs_last _) (by omega) | exact trim_quiet h2 (digs_last _) (by omega)))
  go_wp2_with fail
  have at0 : GcdAt w B (Nat.gcd x.natAbs y.natAbs) y.natAbs (.slice A (digs x.natAbs).length ca) (.slice C (digs y.natAbs).length cb) (W.drewN nq) := ⟨_, _, h1.drewN nq, h2.drewN nq, rfl, Nat.le_refl _, hyB, hx, hy, pw_below_drewN hB nq, blk_drewN k3 nq⟩
  clear h1 h2 k1 k2 k3 hz0 hz1 hy0 hy1 hB hua hub ha hb
  generalize W.drewN nq = V at at0 ⊢
  go_loopg [5, 6] y.natAbs (fun k v5 v6 w' => GcdAt w B (Nat.gcd x.natAbs y.natAbs) k v5 v6 w')
  case atStart => exact at0
  case round =>
    obtain ⟨X, Y, hX, hY, hG, hk, hYB, hlX, hlY, hB, k3⟩ := hrel
    obtain ⟨A, ca, rfl, _, _⟩ := hX.slice
    obtain ⟨C, cb, rfl, _, _⟩ := hY.slice
    rcases Nat.eq_zero_or_pos Y with h0 | h0
    · subst h0
      have hd : decide (0 < (digs 0).length) = false := rfl
      go_wp2_with (first | (go_at_call 97; refine (clone_c hX (by omega)).mono ?_; rintro e w1 ⟨v1, rfl, hv1, hb1⟩; have j3 := blk_below k3 hb1) | (go_at_call 86; refine (made_h _ hv1 (digs_ok _) (by omega)).mono ?_; rintro e w2 ⟨b2, A2, r2, c2, rfl, H2, hv2, hb2⟩; have i3 := blk_below j3 hb2; have hx0 := (blk_cell i3 0); have hx1 := blk_cell i3 1; have hf0 := blk_frozen i3 0; have hf1 := blk_frozen i3 1))
      refine bodyPost_ret (results_cell_row rfl _ _ (w.heap.size + 1 + 1) 76 #[.bool b2, .slice A2 r2.length c2] (0, 0) _ rfl (blk_set (blk_set i3 0 _) 1 _) Try.underlying76 rfl (by kernel_rfl)) rfl ?_
      have hs : w.heap.size + 3 ≤ wr.heap.size := blk_lt k3
      have hs1 := hb1.size
      obtain ⟨e2, e3⟩ := H2.out
      rw [val_digs] at e3
      rw [Bool.false_and] at e2
      rw [Nat.gcd_zero_right] at hG
      exact zv_store _ (below_step (below_step hB hb1) hb2) (by omega) hv2 (fun k hk => by omega) (by rw [Int.natAbs_natCast, ← hG]; exact e3) (by rw [e2, eq_comm, decide_eq_false_iff_not]; omega) (fun k hk => by omega)
    · have hd : decide (0 < (digs Y).length) = true := by
        rw [decide_eq_true]
        exact List.length_pos_iff.2 (fun e => by have := digs_nil.1 e; omega)
      obtain ⟨k', rfl⟩ : ∃ k', gk = k' + 1 := ⟨gk - 1, by omega⟩
      go_wp2_with (go_at_call 98; refine (hD _ _ _ _ _ _ _ X Y hX hY hlX hlY h0 hYB).mono ?_; rintro e w1 ⟨A1, r1, c1, A2, r2, c2, rfl, H1, hu1, hu2, hb1⟩)
      have hlt : X % Y < Y := Nat.mod_lt _ h0
      have hr := H1.out.2
      subst hr
      go_roundg k'
      case measure => omega
      case rel => exact ⟨Y, X % Y, hY.below hb1, hu2.any, by rw [← hG, Nat.gcd_comm X Y, Nat.gcd_rec Y X, Nat.gcd_comm], by omega, by omega, hlY, Nat.lt_of_le_of_lt (digs_len_mono (Nat.le_of_lt hlt)) hlY, below_step hB hb1, blk_below k3 hb1⟩
end Ar
end Go.Proofs.Ytnghcgmkncbnnaa
end
section
namespace Go.Proofs.Ytnghcgmkncbnnaa
open Go.RowKit Go.Proofs.YtnghcgmkncbnnaaW.PrintWords Go.Proofs.YtnghcgmkncbnnaaW.PrintLast Go.Proofs.YtnghcgmkncbnnaaW.PrintMore
namespace Ar
open Wd
theorem sg_sign (p : Bool) (m : Nat) : (p && decide (m ≠ 0)) = decide (sg p m < 0) ∧ (sg p m).natAbs = m := by
  cases p with
  | true => exact ⟨by rw [Bool.true_and]; congr 1; apply propext; simp only [sg, if_true]; omega, by simp only [sg, if_true]; omega⟩
  | false => exact ⟨by rw [Bool.false_and, eq_comm, decide_eq_false_iff_not]; simp only [sg]; simp, by simp [sg]⟩
set_option maxRecDepth 100000 in
set_option maxHeartbeats 4000000 in
theorem DivMod_c {B : Nat} (hD : DivAt B) {w : World} {oka okb : Nat → Prop} {va vb : Value} {x : Int} {g : Nat} (ha : ZV w oka va x) (hb : ZV w okb vb (g : Int)) (hx : Sm x) (hy : Sm (g : Int)) (hg : 0 < g) (hgB : g < B) (hdv : g ∣ x.natAbs) :
    Calls Try.prog 94 #[va, vb] w fun e w' => ∃ (v1 : Value) (b2 : Bool) (A2 : Option Addr) (n2 c2 : Nat), e = .returned (.tuple #[v1, .agg #[.bool b2, .slice A2 n2 c2], .int .i64 0]) ∧ ZV w' (fun k => w.heap.size ≤ k) v1 (sg (decide (x < 0)) (x.natAbs / g)) ∧ Below w.heap.size w w' := by
  obtain ⟨A, ca, rfl, hua⟩ := zv_open ha
  obtain ⟨C, cb, rfl, hub⟩ := zv_open hb
  have hT := Try.underlying76
  unfold Sm at hx hy
  obtain ⟨p, hp⟩ : ∃ p, decide (x < 0) = p := ⟨_, rfl⟩
  have hq : decide ((g : Int) < 0) = false := decide_eq_false (by omega)
  rw [hq, hp]
  simp only [Int.natAbs_natCast] at hub hy ⊢
  have hB : Below w.heap.size w ((((w.alloc (zObj p (.slice A (digs x.natAbs).length ca))).alloc (zObj false (.slice C (digs g).length cb))).alloc (zObj false (.slice none 0 0))).alloc (zObj false (.slice none 0 0))) := below_alloc (below_alloc (below_alloc (below_alloc (Below.refl _ w) _) _) _) _
  have h1 := (((hua.any.alloc (zObj p (.slice A (digs x.natAbs).length ca))).alloc (zObj false (.slice C (digs g).length cb))).alloc (zObj false (.slice none 0 0))).alloc (zObj false (.slice none 0 0))
  have h2 := (((hub.any.alloc (zObj p (.slice A (digs x.natAbs).length ca))).alloc (zObj false (.slice C (digs g).length cb))).alloc (zObj false (.slice none 0 0))).alloc (zObj false (.slice none 0 0))
  have k1 := blk_alloc (blk_alloc (blk_alloc (blk_new w (zObj p (.slice A (digs x.natAbs).length ca))) (zObj false (.slice C (digs g).length cb))) (zObj false (.slice none 0 0))) (zObj false (.slice none 0 0))
  have k2 := blk_alloc (blk_alloc (blk_new (w.alloc (zObj p (.slice A (digs x.natAbs).length ca))) (zObj false (.slice C (digs g).length cb))) (zObj false (.slice none 0 0))) (zObj false (.slice none 0 0))
  have k3 := blk_alloc (blk_new ((w.alloc (zObj p (.slice A (digs x.natAbs).length ca))).alloc (zObj false (.slice C (digs g).length cb))) (zObj false (.slice none 0 0))) (zObj false (.slice none 0 0))
  have k4 := blk_new (((w.alloc (zObj p (.slice A (digs x.natAbs).length ca))).alloc (zObj false (.slice C (digs g).length cb))).alloc (zObj false (.slice none 0 0))) (zObj false (.slice none 0 0))
  simp only [World.size_alloc] at k2 k3 k4
  go_enter Try.func94, Try.ntmps94
  go_wp2_with fail
  generalize ((((w.alloc _).alloc _).alloc _).alloc _) = W at hB h1 h2 k1 k2 k3 k4 ⊢
  have hz0 := blk_cell k1 0
  have hz1 := blk_cell k1 1
  have hy0 := blk_cell k2 0
  have hy1 := blk_cell k2 1
  go_quiet (first | (go_at_call 76; first | exact trim_quiet h1 (digs_last _) (by omega) | exact trim_quiet h2 (digs_last _) (by omega)))
  replace hB := pw_below_drewN hB nq
  replace h1 := h1.drewN nq
  replace h2 := h2.drewN nq
  replace k1 := blk_drewN k1 nq
  replace k2 := blk_drewN k2 nq
  replace k3 := blk_drewN k3 nq
  replace k4 := blk_drewN k4 nq
  clear hz0 hz1 hy0 hy1
  generalize W.drewN nq = V at hB h1 h2 k1 k2 k3 k4 ⊢
  have hl0 : ((digs g).length == 0) = false := by
    rw [beq_eq_false_iff_ne]
    intro e
    have := digs_nil.1 (List.length_eq_zero_iff.1 e)
    omega
  have hmod : x.natAbs % g = 0 := Nat.mod_eq_zero_of_dvd hdv
  have HC : Hid (Calls Try.prog 98 #[.slice A (digs x.natAbs).length ca, .slice C (digs g).length cb] V fun e w' => ∃ (A1 : Option Addr) (r1 : List Int) (c1 : Nat) (A2 : Option Addr) (c2 : Nat), e = .returned (.tuple #[.slice A1 r1.length c1, .slice A2 0 c2]) ∧ Hid (r1 = digs (x.natAbs / g)) ∧ Uv w' (fun k => V.heap.size ≤ k) (.slice A1 r1.length c1) r1 ∧ Uv w' (fun k => V.heap.size ≤ k) (.slice A2 0 c2) [] ∧ Below V.heap.size V w') := by
    refine (hD _ _ _ _ _ _ _ _ g h1 h2 hx hy hg hgB).mono ?_
    rintro e w1 ⟨A1, r1, c1, A2, r2, c2, rfl, H1, hu1, hu2, hb1⟩
    obtain ⟨e1, e2⟩ := H1.out
    rw [hmod] at e2
    have e3 : r2 = [] := e2
    subst e3
    exact ⟨A1, r1, c1, A2, c2, rfl, e1, hu1, hu2, hb1⟩
  have hs4 : w.heap.size + 4 ≤ V.heap.size := blk_lt k4
  have fin : ∀ (w1 w2 w3 : World) (b1 b2 : Bool) (r0 r1 r2 : List Int) (A1 A2 : Option Addr) (c1 c2 : Nat), Below V.heap.size V w1 → Below w1.heap.size w1 w2 → Below w2.heap.size w2 w3 → r0 = digs (x.natAbs / g) → Hid (b1 = (p && decide (val r0 ≠ 0)) ∧ r1 = digs (val r0)) → Uv w2 (fun k => V.heap.size ≤ k ∨ w1.heap.size ≤ k) (.slice A1 r1.length c1) r1 →
      ∃ (v1 : Value) (b2' : Bool) (A2' : Option Addr) (n2' c2' : Nat), Ending.returned (.tuple #[.agg #[.bool b1, .slice A1 r1.length c1], .agg #[.bool b2, .slice A2 r2.length c2], .int .i64 0]) = .returned (.tuple #[v1, .agg #[.bool b2', .slice A2' n2' c2'], .int .i64 0]) ∧ ZV ((((w3.setCell ⟨w.heap.size + 1 + 1, 0, none⟩ (.bool b1)).setCell ⟨w.heap.size + 1 + 1, 1, none⟩ (.slice A1 r1.length c1)).setCell ⟨w.heap.size + 1 + 1 + 1, 0, none⟩ (.bool b2)).setCell ⟨w.heap.size + 1 + 1 + 1, 1, none⟩ (.slice A2 r2.length c2)) (fun k => w.heap.size ≤ k) v1 (sg p (x.natAbs / g)) ∧ Below w.heap.size w ((((w3.setCell ⟨w.heap.size + 1 + 1, 0, none⟩ (.bool b1)).setCell ⟨w.heap.size + 1 + 1, 1, none⟩ (.slice A1 r1.length c1)).setCell ⟨w.heap.size + 1 + 1 + 1, 0, none⟩ (.bool b2)).setCell ⟨w.heap.size + 1 + 1 + 1, 1, none⟩ (.slice A2 r2.length c2)) := by
    intro w1 w2 w3 b1 b2 r0 r1 r2 A1 A2 c1 c2 hb1 hb2 hb3 hr0 H hu
    have hs1 := hb1.size
    have hok : ∀ k, (V.heap.size ≤ k ∨ w1.heap.size ≤ k) → w.heap.size + 4 ≤ k := fun k hk => by omega
    obtain ⟨s1, s2⟩ := sg_sign p (x.natAbs / g)
    obtain ⟨e1, e2⟩ := H.out
    rw [hr0, val_digs] at e1 e2
    obtain ⟨v, hv, hz, hbw⟩ := zv_store (w := w) (ok' := fun k => w.heap.size ≤ k ∧ k ≠ w.heap.size + 1 + 1 + 1) (sg p (x.natAbs / g)) (below_step (below_step (below_step hB hb1) hb2) hb3) (by omega : w.heap.size ≤ w.heap.size + 1 + 1) (hu.below hb3) (fun k hk => by have := hok k hk; omega) (e2.trans (congrArg digs s2.symm)) (e1.trans s1) (fun k hk => by have := hok k hk; constructor <;> omega)
    cases hv
    refine ⟨_, _, _, _, _, rfl, ((hz.far (p := ⟨w.heap.size + 1 + 1 + 1, 0, none⟩) (fun k hk => hk.2) _).far (p := ⟨w.heap.size + 1 + 1 + 1, 1, none⟩) (fun k hk => hk.2) _).mono (fun k hk => hk.1), (hbw.setCell (p := ⟨w.heap.size + 1 + 1 + 1, 0, none⟩) (by show w.heap.size ≤ w.heap.size + 1 + 1 + 1; omega) _).setCell (p := ⟨w.heap.size + 1 + 1 + 1, 1, none⟩) (by show w.heap.size ≤ w.heap.size + 1 + 1 + 1; omega) _⟩
  have HF := Lib.hid fin
  clear fin
  have h0len : ([] : List Int).length < 1073741824 := by decide
  have qok : Hid (∀ r1, Hid (r1 = digs (x.natAbs / g)) → okW r1 ∧ r1.length < 1073741824) := by
    intro r1 h
    have := digs_len_mono (Nat.div_le_self x.natAbs g)
    rw [h.out]
    exact ⟨digs_ok _, by omega⟩
  cases p with
  | true =>
    go_wp2_with (first | (go_at_call 98; refine HC.out.mono ?_; rintro e w1 ⟨A1, r1, c1, A2, c2, rfl, H1, hu1, hu2, hb1⟩; have m1 := blk_below k1 hb1; have m2 := blk_below k2 hb1; have m3 := blk_below k3 hb1; have m4 := blk_below k4 hb1; have hz0 := blk_cell m1 0; have hy0 := blk_cell m2 0) | (go_at_call_of 86 (Value.slice A1 r1.length c1); have h5 := qok.out r1 H1; refine (made_h _ hu1 h5.1 h5.2).mono ?_; clear h5; rintro e w2 ⟨b3, A3, r3, c3, rfl, H3, hu3, hb3⟩; have n3 := blk_below m3 hb3; have n4 := blk_below m4 hb3) | (go_at_call_of 86 (Value.slice A2 0 c2); have h6 := hu2.below hb3; refine (made_h _ h6 okW_nil h0len).mono ?_; clear h6; rintro e w3 ⟨b4, A4, r4, c4, rfl, H4, hu4, hb4⟩; have i3 := blk_below n3 hb4; have i4 := blk_below n4 hb4; have hx0 := blk_cell i3 0; have hx1 := blk_cell i3 1; have hf0 := blk_frozen i3 0; have hf1 := blk_frozen i3 1; have hx2 := blk_cell i4 0; have hx3 := blk_cell i4 1; have hf2 := blk_frozen i4 0; have hf3 := blk_frozen i4 1))
    have d34 : w.heap.size + 1 + 1 + 1 ≠ w.heap.size + 1 + 1 := by omega
    have f3 := blk_far (blk_far (blk_set (blk_set i3 0 (.bool b3)) 1 (.slice A3 r3.length c3)) (p := ⟨w.heap.size + 1 + 1 + 1, 0, none⟩) d34.symm (.bool b4)) (p := ⟨w.heap.size + 1 + 1 + 1, 1, none⟩) d34.symm (.slice A4 r4.length c4)
    have f4 := blk_set (blk_set (blk_far (blk_far i4 (p := ⟨w.heap.size + 1 + 1, 0, none⟩) d34 (.bool b3)) (p := ⟨w.heap.size + 1 + 1, 1, none⟩) d34 (.slice A3 r3.length c3)) 0 (.bool b4)) 1 (.slice A4 r4.length c4)
    refine bodyPost_ret (results_list (rs := [.cell 4 76, .cell 5 76, .tmp 6]) rfl (by simp) (.cell (w.heap.size + 1 + 1) 76 #[.bool b3, .slice A3 r3.length c3] (0, 0) _ rfl f3 Try.underlying76 rfl (by kernel_rfl) (.cell (w.heap.size + 1 + 1 + 1) 76 #[.bool b4, .slice A4 r4.length c4] (0, 0) _ rfl f4 Try.underlying76 rfl (by kernel_rfl) (.tmp .nil)))) rfl ?_
    exact HF.out w1 w2 w3 b3 b4 r1 r3 r4 A3 A4 c3 c4 hb1 hb3 hb4 H1.out H3 hu3
  | false =>
    go_wp2_with (first | (go_at_call 98; refine HC.out.mono ?_; rintro e w1 ⟨A1, r1, c1, A2, c2, rfl, H1, hu1, hu2, hb1⟩; have m1 := blk_below k1 hb1; have m2 := blk_below k2 hb1; have m3 := blk_below k3 hb1; have m4 := blk_below k4 hb1; have hz0 := blk_cell m1 0; have hy0 := blk_cell m2 0) | (go_at_call_of 86 (Value.slice A1 r1.length c1); have h5 := qok.out r1 H1; refine (made_h _ hu1 h5.1 h5.2).mono ?_; clear h5; rintro e w2 ⟨b3, A3, r3, c3, rfl, H3, hu3, hb3⟩; have n3 := blk_below m3 hb3; have n4 := blk_below m4 hb3) | (go_at_call_of 86 (Value.slice A2 0 c2); have h6 := hu2.below hb3; refine (made_h _ h6 okW_nil h0len).mono ?_; clear h6; rintro e w3 ⟨b4, A4, r4, c4, rfl, H4, hu4, hb4⟩; have i3 := blk_below n3 hb4; have i4 := blk_below n4 hb4; have hx0 := blk_cell i3 0; have hx1 := blk_cell i3 1; have hf0 := blk_frozen i3 0; have hf1 := blk_frozen i3 1; have hx2 := blk_cell i4 0; have hx3 := blk_cell i4 1; have hf2 := blk_frozen i4 0; have hf3 := blk_frozen i4 1))
    have d34 : w.heap.size + 1 + 1 + 1 ≠ w.heap.size + 1 + 1 := by omega
    have f3 := blk_far (blk_far (blk_set (blk_set i3 0 (.bool b3)) 1 (.slice A3 r3.length c3)) (p := ⟨w.heap.size + 1 + 1 + 1, 0, none⟩) d34.symm (.bool b4)) (p := ⟨w.heap.size + 1 + 1 + 1, 1, none⟩) d34.symm (.slice A4 r4.length c4)
    have f4 := blk_set (blk_set (blk_far (blk_far i4 (p := ⟨w.heap.size + 1 + 1, 0, none⟩) d34 (.bool b3)) (p := ⟨w.heap.size + 1 + 1, 1, none⟩) d34 (.slice A3 r3.length c3)) 0 (.bool b4)) 1 (.slice A4 r4.length c4)
    refine bodyPost_ret (results_list (rs := [.cell 4 76, .cell 5 76, .tmp 6]) rfl (by simp) (.cell (w.heap.size + 1 + 1) 76 #[.bool b3, .slice A3 r3.length c3] (0, 0) _ rfl f3 Try.underlying76 rfl (by kernel_rfl) (.cell (w.heap.size + 1 + 1 + 1) 76 #[.bool b4, .slice A4 r4.length c4] (0, 0) _ rfl f4 Try.underlying76 rfl (by kernel_rfl) (.tmp .nil)))) rfl ?_
    exact HF.out w1 w2 w3 b3 b4 r1 r3 r4 A3 A4 c3 c4 hb1 hb3 hb4 H1.out H3 hu3
end Ar
end Go.Proofs.Ytnghcgmkncbnnaa
end
section
namespace Go.Proofs.Ytnghcgmkncbnnaa
open Go.RowKit Go.Proofs.YtnghcgmkncbnnaaW.PrintWords Go.Proofs.YtnghcgmkncbnnaaW.PrintLast Go.Proofs.YtnghcgmkncbnnaaW.PrintMore
namespace Ar
open Wd
def QV (W : World) (ok : Nat → Prop) (v : Value) (n d : Int) : Prop := ∃ (b : Bool) (A : Option Addr) (r : List Int) (c : Nat) (b' : Bool) (A' : Option Addr) (r' : List Int) (c' : Nat), v = .agg #[.bool b, .slice A r.length c, .bool b', .slice A' r'.length c'] ∧ Hid (b = decide (n < 0) ∧ r = digs n.natAbs ∧ b' = decide (d < 0) ∧ r' = digs d.natAbs) ∧ Uv W ok (.slice A r.length c) r ∧ Uv W ok (.slice A' r'.length c') r'
theorem QV.below {W W1 : World} {ok : Nat → Prop} {v : Value} {n d : Int} (h : QV W ok v n d) (hb : Below W.heap.size W W1) : QV W1 ok v n d := by obtain ⟨b, A, r, c, b', A', r', c', e, H, h1, h2⟩ := h; exact ⟨b, A, r, c, b', A', r', c', e, H, h1.below hb, h2.below hb⟩
theorem QV.mono {W : World} {ok ok' : Nat → Prop} {v : Value} {n d : Int} (h : QV W ok v n d) (hk : ∀ k, ok k → ok' k) : QV W ok' v n d := by obtain ⟨b, A, r, c, b', A', r', c', e, H, h1, h2⟩ := h; exact ⟨b, A, r, c, b', A', r', c', e, H, h1.mono hk, h2.mono hk⟩
theorem QV.bound {W : World} {ok : Nat → Prop} {v : Value} {n d : Int} (h : QV W ok v n d) : QV W (fun k => ok k ∧ k < W.heap.size) v n d := by obtain ⟨b, A, r, c, b', A', r', c', e, H, h1, h2⟩ := h; exact ⟨b, A, r, c, b', A', r', c', e, H, h1.bound, h2.bound⟩
theorem QV.alloc {W : World} {ok : Nat → Prop} {v : Value} {n d : Int} (h : QV W ok v n d) (o : Obj) : QV (W.alloc o) ok v n d := by obtain ⟨b, A, r, c, b', A', r', c', e, H, h1, h2⟩ := h; exact ⟨b, A, r, c, b', A', r', c', e, H, h1.alloc o, h2.alloc o⟩
theorem QV.drew {W : World} {ok : Nat → Prop} {v : Value} {n d : Int} (h : QV W ok v n d) : QV W.drew ok v n d := by obtain ⟨b, A, r, c, b', A', r', c', e, H, h1, h2⟩ := h; exact ⟨b, A, r, c, b', A', r', c', e, H, h1.drew, h2.drew⟩
theorem QV.far {W : World} {ok : Nat → Prop} {v : Value} {n d : Int} (h : QV W ok v n d) {p : Addr} (hok : ∀ k, ok k → k ≠ p.block) (u : Value) : QV (W.setCell p u) ok v n d := by obtain ⟨b, A, r, c, b', A', r', c', e, H, h1, h2⟩ := h; exact ⟨b, A, r, c, b', A', r', c', e, H, h1.far hok u, h2.far hok u⟩
theorem zv_mk {W : World} {ok : Nat → Prop} {b : Bool} {A : Option Addr} {r : List Int} {c : Nat} {z : Int} (hb : b = decide (z < 0)) (hr : r = digs z.natAbs) (hu : Uv W ok (.slice A r.length c) r) : ZV W ok (.agg #[.bool b, .slice A r.length c]) z := by
  subst hb; subst hr; exact ⟨_, rfl, hu⟩
abbrev nilQ : Array Value := #[.bool false, .slice none 0 0, .bool false, .slice none 0 0]
theorem QV.nil (W : World) (ok : Nat → Prop) : QV W ok (.agg nilQ) 0 0 := ⟨false, none, [], 0, false, none, [], 0, rfl, ⟨rfl, rfl, rfl, rfl⟩, Uv.nil _ _, Uv.nil _ _⟩
theorem qv_store {w w2 : World} {g c c' : Nat} {b b' : Bool} {A A' : Option Addr} {r r' : List Int} {ok ok' : Nat → Prop} (n d : Int) (hb : Below w.heap.size w w2) (hg : w.heap.size ≤ g) (hu : Uv w2 ok (.slice A r.length c) r) (hu' : Uv w2 ok (.slice A' r'.length c') r') (hok : ∀ k, ok k → k ≠ g)
    (h : b = decide (n < 0) ∧ r = digs n.natAbs ∧ b' = decide (d < 0) ∧ r' = digs d.natAbs) (hk : ∀ k, ok k → ok' k) :
    ∃ v, Ending.returned (.agg #[.bool b, .slice A r.length c, .bool b', .slice A' r'.length c']) = .returned v ∧ QV ((((w2.setCell ⟨g, 0, none⟩ (.bool b)).setCell ⟨g, 1, none⟩ (.slice A r.length c)).setCell ⟨g, 2, none⟩ (.bool b')).setCell ⟨g, 3, none⟩ (.slice A' r'.length c')) ok' v n d ∧ Below w.heap.size w ((((w2.setCell ⟨g, 0, none⟩ (.bool b)).setCell ⟨g, 1, none⟩ (.slice A r.length c)).setCell ⟨g, 2, none⟩ (.bool b')).setCell ⟨g, 3, none⟩ (.slice A' r'.length c')) := by
  have h0 : QV w2 ok (.agg #[.bool b, .slice A r.length c, .bool b', .slice A' r'.length c']) n d := ⟨b, A, r, c, b', A', r', c', rfl, h, hu, hu'⟩
  exact ⟨_, rfl, ((((h0.far (p := ⟨g, 0, none⟩) hok _).far (p := ⟨g, 1, none⟩) hok _).far (p := ⟨g, 2, none⟩) hok _).far (p := ⟨g, 3, none⟩) hok _).mono hk, (((hb.setCell (p := ⟨g, 0, none⟩) hg _).setCell (p := ⟨g, 1, none⟩) hg _).setCell (p := ⟨g, 2, none⟩) hg _).setCell (p := ⟨g, 3, none⟩) hg _⟩
end Ar
end Go.Proofs.Ytnghcgmkncbnnaa
end
section
namespace Go.Proofs.Ytnghcgmkncbnnaa
open Go.RowKit Go.Proofs.YtnghcgmkncbnnaaW.PrintWords Go.Proofs.YtnghcgmkncbnnaaW.PrintLast Go.Proofs.YtnghcgmkncbnnaaW.PrintMore
namespace Ar
open Wd
abbrev oldOr (ok : Nat → Prop) (w : World) : Nat → Prop := fun k => (ok k ∧ k < w.heap.size) ∨ w.heap.size ≤ k
theorem Sm_one : Sm 1 := by unfold Sm; decide
set_option maxRecDepth 100000 in
set_option maxHeartbeats 4000000 in
theorem of_c {w : World} {ok : Nat → Prop} {v : Value} {n d : Int} (hv : QV w ok v n d) (hd : 0 ≤ d) (hs : Sm d) :
    Calls Try.prog 82 #[v] w fun e w' => ∃ v', e = .returned v' ∧ QV w' (oldOr ok w) v' n (if d = 0 then 1 else d) ∧ Below w.heap.size w w' := by
  obtain ⟨b, A, r, c, b', A', r', c', rfl, H, h1, h2⟩ := hv
  have hT := Try.underlying76
  have hQ := Try.underlying78
  have hP := Try.underlying142
  have hB : Below w.heap.size w ((w.alloc (.cells #[.bool b, .slice A r.length c, .bool b', .slice A' r'.length c'] 78)).alloc (.cells nilQ 142)) := below_alloc (below_alloc (Below.refl _ w) _) _
  have k1 := blk_alloc (blk_new w (.cells #[.bool b, .slice A r.length c, .bool b', .slice A' r'.length c'] 78)) (.cells nilQ 142)
  have k2 := blk_new (w.alloc (.cells #[.bool b, .slice A r.length c, .bool b', .slice A' r'.length c'] 78)) (.cells nilQ 142)
  simp only [World.size_alloc] at k2
  have g1 := (h1.bound.alloc (.cells #[.bool b, .slice A r.length c, .bool b', .slice A' r'.length c'] 78)).alloc (.cells nilQ 142)
  have g2 := (h2.bound.alloc (.cells #[.bool b, .slice A r.length c, .bool b', .slice A' r'.length c'] 78)).alloc (.cells nilQ 142)
  have hz := zv_mk H.out.2.2.1 H.out.2.2.2 g2
  go_enter Try.func82, Try.ntmps82
  rcases Int.lt_or_eq_of_le hd with h0 | h0
  · have hsg : d.sign = 1 := Int.sign_eq_one_of_pos h0
    have e1 : ((1 : Int) == 0) = false := rfl
    go_wp2_with (go_at_call 65; refine (sign_c hz hs).mono ?_; rw [hsg]; rintro e w1 ⟨rfl, hb1⟩; have i1 := blk_below k1 hb1; have i2 := blk_below k2 hb1; have hy0 := blk_cell i1 0; have hy1 := blk_cell i1 1; have hy2 := blk_cell i1 2; have hy3 := blk_cell i1 3; have hyf0 := blk_frozen i1 0; have hyf1 := blk_frozen i1 1; have hyf2 := blk_frozen i1 2; have hyf3 := blk_frozen i1 3; have hx0 := blk_cell i2 0; have hx1 := blk_cell i2 1; have hx2 := blk_cell i2 2; have hx3 := blk_cell i2 3; have hxf0 := blk_frozen i2 0; have hxf1 := blk_frozen i2 1; have hxf2 := blk_frozen i2 2; have hxf3 := blk_frozen i2 3)
    refine bodyPost_ret (results_cell_row rfl _ _ (w.heap.size + 1) 142 #[.bool b, .slice A r.length c, .bool b', .slice A' r'.length c'] (0, 0) _ rfl (blk_set (blk_set (blk_set (blk_set i2 0 _) 1 _) 2 _) 3 _) hP rfl (by kernel_rfl)) rfl ?_
    exact qv_store n d (below_step hB hb1) (by omega) (g1.below hb1) (g2.below hb1) (fun k hk => by omega) H.out (fun k hk => .inl hk)
  · subst h0
    have hsg : (0 : Int).sign = 0 := rfl
    have d1 : w.heap.size ≠ w.heap.size + 1 := by omega
    go_wp2_with (go_at_call 65; refine (sign_c hz hs).mono ?_; rw [hsg]; rintro e w1 ⟨rfl, hb1⟩; have i1 := blk_below k1 hb1; have i2 := blk_below k2 hb1; have hy0 := blk_cell i1 0; have hy1 := blk_cell i1 1)
    go_region_held3 (fun w' => w'.cell? ⟨w.heap.size, 0, none⟩ = some (.bool b) ∧ w'.cell? ⟨w.heap.size, 1, none⟩ = some (.slice A r.length c)) (first | exact ⟨hy0, hy1⟩ | exact ⟨blk_cell j1 0, blk_cell j1 1⟩ | exact ⟨blk_cell (blk_far (blk_far (blk_far (blk_far j1 d1 _) d1 _) d1 _) d1 _) 0, blk_cell (blk_far (blk_far (blk_far (blk_far j1 d1 _) d1 _) d1 _) d1 _) 1⟩) (first | (go_at_call 74; refine (fromint_c 1 (by decide) (by decide)).mono ?_; rintro e w2 ⟨v2, rfl, hv2, hb2⟩; obtain ⟨b2, A2, r2, c2, rfl, H2, hu2⟩ := zv_openh hv2; have j1 := blk_below (blk_drew i1) hb2; have j2 := blk_below (blk_drew i2) hb2; have hx0 := blk_cell j2 0; have hx1 := blk_cell j2 1; have hx2 := blk_cell j2 2; have hx3 := blk_cell j2 3; have hxf0 := blk_frozen j2 0; have hxf1 := blk_frozen j2 1; have hxf2 := blk_frozen j2 2; have hxf3 := blk_frozen j2 3))
    go_wp2
    refine bodyPost_ret (results_cell_row rfl _ _ (w.heap.size + 1) 142 #[.bool b, .slice A r.length c, .bool b2, .slice A2 r2.length c2] (0, 0) _ rfl (blk_set (blk_set (blk_set (blk_set j2 0 _) 1 _) 2 _) 3 _) hP rfl (by kernel_rfl)) rfl ?_
    have hs2 : w.heap.size + 2 ≤ w1.heap.size := blk_lt i2
    have u1 : Uv w2 (oldOr ok w) (.slice A r.length c) r := ((g1.below hb1).drew.below hb2).mono (fun k hk => .inl hk)
    obtain ⟨v, hv, hq, hbw⟩ := qv_store (w := w) (g := w.heap.size + 1) (ok := fun k => (ok k ∧ k < w.heap.size) ∨ w.heap.size + 2 ≤ k) (ok' := oldOr ok w) n 1 (below_step (below_step hB hb1).drew hb2) (by omega) (((g1.below hb1).drew.below hb2).mono (fun k hk => .inl hk)) (hu2.mono (fun k hk => .inr (Nat.le_trans hs2 hk))) (fun k hk => by omega) ⟨H.out.1, H.out.2.1, H2.out.1, H2.out.2⟩ (fun k hk => by rcases hk with h | h; exact .inl h; exact .inr (by omega))
    exact ⟨v, hv, hq, hbw⟩
end Ar
end Go.Proofs.Ytnghcgmkncbnnaa
end
section
namespace Go.Proofs.Ytnghcgmkncbnnaa
open Go.RowKit Go.Proofs.YtnghcgmkncbnnaaW.PrintWords Go.Proofs.YtnghcgmkncbnnaaW.PrintLast Go.Proofs.YtnghcgmkncbnnaaW.PrintMore
namespace Ar
open Wd
set_option maxRecDepth 100000 in
set_option maxHeartbeats 4000000 in
theorem least_c {B : Nat} (hD : DivAt B) {w : World} {ok : Nat → Prop} {v : Value} {n d : Int} (hv : QV w ok v n d) (hn : Sm n) (hs : Sm d) (hd : 0 < d) (hdB : d.natAbs < B) :
    Calls Try.prog 83 #[v] w fun e w' => ∃ v', e = .returned v' ∧ QV w' (fun k => w.heap.size ≤ k) v' (sg (decide (n < 0)) (n.natAbs / Nat.gcd n.natAbs d.natAbs)) (if d.natAbs / Nat.gcd n.natAbs d.natAbs = 1 then 0 else ((d.natAbs / Nat.gcd n.natAbs d.natAbs : Nat) : Int)) ∧ Below w.heap.size w w' := by
  obtain ⟨b, A, r, c, b', A', r', c', rfl, H, h1, h2⟩ := hv
  have hT := Try.underlying76
  have hQ := Try.underlying78
  have hP := Try.underlying142
  obtain ⟨G, hG⟩ : ∃ G, G = Nat.gcd n.natAbs d.natAbs := ⟨_, rfl⟩
  have hG0 : 0 < G := by rw [hG]; exact Nat.gcd_pos_of_pos_right _ (by omega)
  have hGd : G ≤ d.natAbs := by rw [hG]; exact Nat.le_of_dvd (by omega) (Nat.gcd_dvd_right _ _)
  have hGB : G < B := by omega
  have hGn : G ∣ n.natAbs := by rw [hG]; exact Nat.gcd_dvd_left _ _
  have hGdd : G ∣ d.natAbs := by rw [hG]; exact Nat.gcd_dvd_right _ _
  have hGs : Sm (G : Int) := by
    unfold Sm at hs ⊢
    rw [Int.natAbs_natCast]
    exact Nat.lt_of_le_of_lt (digs_len_mono hGd) hs
  have hB : Below w.heap.size w ((w.alloc (.cells #[.bool b, .slice A r.length c, .bool b', .slice A' r'.length c'] 142)).alloc (.cells nilQ 78)) := below_alloc (below_alloc (Below.refl _ w) _) _
  have k1 := blk_alloc (blk_new w (.cells #[.bool b, .slice A r.length c, .bool b', .slice A' r'.length c'] 142)) (.cells nilQ 78)
  have k2 := blk_new (w.alloc (.cells #[.bool b, .slice A r.length c, .bool b', .slice A' r'.length c'] 142)) (.cells nilQ 78)
  simp only [World.size_alloc] at k2
  have z1 := zv_mk H.out.1 H.out.2.1 ((h1.any.alloc (.cells #[.bool b, .slice A r.length c, .bool b', .slice A' r'.length c'] 142)).alloc (.cells nilQ 78))
  have z2 := zv_mk H.out.2.2.1 H.out.2.2.2 ((h2.any.alloc (.cells #[.bool b, .slice A r.length c, .bool b', .slice A' r'.length c'] 142)).alloc (.cells nilQ 78))
  obtain ⟨D, hDD⟩ : ∃ D, D = d.natAbs / G := ⟨_, rfl⟩
  rw [← hG, ← hDD]
  have HG := Lib.hid hG
  have HDD := Lib.hid hDD
  clear hG hDD
  go_enter Try.func83, Try.ntmps83
  go_wp2_with (first | (go_at_call 93; refine (GCD_c hD z1 z2 hn hs hdB).mono ?_; rintro e w1 ⟨v1, rfl, hv1, hb1⟩; obtain ⟨b1, A1, r1, c1, rfl, H1, hu1⟩ := zv_openh hv1; have kg := blk_new w1 (zObj b1 (.slice A1 r1.length c1)); have hbg := below_step hb1 (below_alloc (Below.refl _ w1) (zObj b1 (.slice A1 r1.length c1))); have i1 := blk_below k1 hbg; have i2 := blk_below k2 hbg; have hy0 := blk_cell i1 0; have hy1 := blk_cell i1 1; have hy2 := blk_cell i1 2; have hy3 := blk_cell i1 3; have hyf0 := blk_frozen i1 0; have hyf1 := blk_frozen i1 1; have hyf2 := blk_frozen i1 2; have hyf3 := blk_frozen i1 3; have hg0 := blk_cell kg 0; have hg1 := blk_cell kg 1; have zg := zv_mk (z := (G : Int)) (H1.out.1.trans (by rw [HG.out])) (H1.out.2.trans (by rw [HG.out])) (hu1.any.alloc (zObj b1 (.slice A1 r1.length c1)))) | (go_at_call_of 94 (Value.agg #[.bool b, .slice A r.length c]); refine (DivMod_c hD (z1.below hbg) zg hn hGs hG0 hGB hGn).mono ?_; rintro e w2 ⟨v2, x2, X2, m2, y2, rfl, hv2, hb2⟩; obtain ⟨b2, A2, r2, c2, rfl, H2, hu2⟩ := zv_openh hv2; have hb3 := below_step hb2 (below_alloc (below_alloc (Below.refl _ w2) (zObj b2 (.slice A2 r2.length c2))) (zObj x2 (.slice X2 m2 y2))); have kn := blk_alloc (blk_new w2 (zObj b2 (.slice A2 r2.length c2))) (zObj x2 (.slice X2 m2 y2)); have j1 := blk_below i1 hb3; have j2 := blk_below i2 hb3; have jg := blk_below kg hb3; have hY0 := blk_cell j1 0; have hY1 := blk_cell j1 1; have hY2 := blk_cell j1 2; have hY3 := blk_cell j1 3; have hYf0 := blk_frozen j1 0; have hYf1 := blk_frozen j1 1; have hYf2 := blk_frozen j1 2; have hYf3 := blk_frozen j1 3; have hgg0 := blk_cell jg 0; have hgg1 := blk_cell jg 1; have zn := (zv_mk H2.out.1 H2.out.2 (((hu2.bound).alloc (zObj b2 (.slice A2 r2.length c2))).alloc (zObj x2 (.slice X2 m2 y2))))) | (go_at_call_of 94 (Value.agg #[.bool b', .slice A' r'.length c']); refine (DivMod_c hD ((z2.below hbg).below hb3) (zg.below hb3) hs hGs hG0 hGB hGdd).mono ?_; rintro e w3 ⟨v3, x3, X3, m3, y3, rfl, hv3, hb4⟩; obtain ⟨b3, A3, r3, c3, rfl, H3, hu3⟩ := zv_openh hv3; have hb5 := below_step hb4 (below_alloc (below_alloc (Below.refl _ w3) (zObj b3 (.slice A3 r3.length c3))) (zObj x3 (.slice X3 m3 y3))); have kd := blk_alloc (blk_new w3 (zObj b3 (.slice A3 r3.length c3))) (zObj x3 (.slice X3 m3 y3)); have l2 := blk_below j2 hb5; have ln := blk_below kn hb5; have hd0 := blk_cell kd 0; have hd1 := blk_cell kd 1))
  have s1 : w.heap.size + 2 ≤ w1.heap.size := Nat.le_trans (blk_lt k2) hb1.size
  have s2 := hb2.size
  simp only [World.size_alloc] at s2
  have s3 : w2.heap.size + 2 ≤ w3.heap.size := by have := hb4.size; simp only [World.size_alloc] at this; omega
  have hBV := below_step (below_step (below_step hB hbg) hb3) hb5
  have un := (zn.below hb5)
  have un : Uv _ _ (.slice A2 r2.length c2) r2 := (((hu2.bound).alloc (zObj b2 (.slice A2 r2.length c2))).alloc (zObj x2 (.slice X2 m2 y2))).below hb5
  have ud := ((hu3.bound).alloc (zObj b3 (.slice A3 r3.length c3))).alloc (zObj x3 (.slice X3 m3 y3))
  have zd := zv_mk H3.out.1 H3.out.2 ud
  have hdn : decide (d < 0) = false := decide_eq_false (by omega)
  have hD0 : 0 < D := by rw [HDD.out]; exact Nat.div_pos hGd hG0
  have hsgD : sg (decide (d < 0)) (d.natAbs / G) = (D : Int) := by rw [hdn, HDD.out]; rfl
  rw [hsgD] at zd
  have H3' : Hid (b3 = decide ((D : Int) < 0) ∧ r3 = digs (D : Int).natAbs) := by rw [← hsgD]; exact H3
  have hDs : Sm (D : Int) := by
    unfold Sm at hs ⊢
    rw [Int.natAbs_natCast, HDD.out]
    exact Nat.lt_of_le_of_lt (digs_len_mono (Nat.div_le_self _ _)) hs
  have hDs1 : Sm ((D : Int) - 1) := by
    unfold Sm at hDs ⊢
    refine Nat.lt_of_le_of_lt (digs_len_mono ?_) hDs
    omega
  clear z1 z2 zg hu1 hv1 hv2 hv3 H1 H H3 hsgD zn hu2 hu3 i1 i2 j1 j2 jg kg kn k1 k2 hb1 hbg hb2 hb3 hb4 hb5 hy0 hy1 hy2 hy3 hY0 hY1 hY2 hY3 hyf0 hyf1 hyf2 hyf3 hYf0 hYf1 hYf2 hYf3 hg0 hg1 hgg0 hgg1
  generalize (w3.alloc _).alloc _ = V at hBV un ud zd kd l2 ln hd0 hd1 ⊢
  simp only [World.size_alloc] at un ud
  by_cases hD1 : D = 1
  · have hsgn : ((D : Int) - 1).sign = 0 := by rw [hD1]; rfl
    go_region_held3 (fun w' => w'.cell? ⟨w3.heap.size, 0, none⟩ = some (.bool b3) ∧ w'.cell? ⟨w3.heap.size, 1, none⟩ = some (.slice A3 r3.length c3)) (first | exact ⟨hd0, hd1⟩ | exact ⟨blk_cell md 0, blk_cell md 1⟩ | exact ⟨blk_cell nd 0, blk_cell nd 1⟩) (first | (go_at_call 74; refine (fromint_c 1 (by decide) (by decide)).mono ?_; rintro e w4 ⟨v4, rfl, hv4, hb4⟩; have md := blk_below (blk_drew kd) hb4) | (go_at_call 91; refine (Cmp_c ((zd.drew).below hb4) hv4 hDs Sm_one hDs1).mono ?_; rw [hsgn]; rintro e w5 ⟨rfl, hb5⟩; have nd := blk_below md hb5; have nn := blk_below (blk_below (blk_drew ln) hb4) hb5; have n2 := blk_below (blk_below (blk_drew l2) hb4) hb5; have hn0 := blk_cell nn 0; have hn1 := blk_cell nn 1; have hd0' := blk_cell nd 0; have hd1' := blk_cell nd 1; have hx0 := blk_cell n2 0; have hx1 := blk_cell n2 1; have hx2 := blk_cell n2 2; have hx3 := blk_cell n2 3; have hxf0 := blk_frozen n2 0; have hxf1 := blk_frozen n2 1; have hxf2 := blk_frozen n2 2; have hxf3 := blk_frozen n2 3))
    go_wp2
    refine bodyPost_ret (results_cell_row rfl _ _ (w.heap.size + 1) 78 #[.bool b2, .slice A2 r2.length c2, .bool false, .slice none 0 0] (0, 0) _ rfl (blk_set (blk_set (blk_set (blk_set n2 0 _) 1 _) 2 _) 3 _) Try.underlying78 rfl (by kernel_rfl)) rfl ?_
    have un2 := ((un.drew).below hb4).below hb5
    have ud2 := ((ud.drew).below hb4).below hb5
    exact qv_store (ok := fun k => w1.heap.size ≤ k) _ _ (below_step (below_step hBV.drew hb4) hb5) (by omega) (un2.mono (fun k hk => by omega)) (r' := []) (Uv.nil _ _) (fun k hk => by omega) ⟨H2.out.1, H2.out.2, rfl, rfl⟩ (fun k hk => by omega)
  · have hsgn : ((D : Int) - 1).sign = 1 := Int.sign_eq_one_of_pos (by omega)
    go_region_held3 (fun w' => w'.cell? ⟨w3.heap.size, 0, none⟩ = some (.bool b3) ∧ w'.cell? ⟨w3.heap.size, 1, none⟩ = some (.slice A3 r3.length c3)) (first | exact ⟨hd0, hd1⟩ | exact ⟨blk_cell md 0, blk_cell md 1⟩ | exact ⟨blk_cell nd 0, blk_cell nd 1⟩) (first | (go_at_call 74; refine (fromint_c 1 (by decide) (by decide)).mono ?_; rintro e w4 ⟨v4, rfl, hv4, hb4⟩; have md := blk_below (blk_drew kd) hb4) | (go_at_call 91; refine (Cmp_c ((zd.drew).below hb4) hv4 hDs Sm_one hDs1).mono ?_; rw [hsgn]; rintro e w5 ⟨rfl, hb5⟩; have nd := blk_below md hb5; have nn := blk_below (blk_below (blk_drew ln) hb4) hb5; have n2 := blk_below (blk_below (blk_drew l2) hb4) hb5; have hn0 := blk_cell nn 0; have hn1 := blk_cell nn 1; have hd0' := blk_cell nd 0; have hd1' := blk_cell nd 1; have hx0 := blk_cell n2 0; have hx1 := blk_cell n2 1; have hx2 := blk_cell n2 2; have hx3 := blk_cell n2 3; have hxf0 := blk_frozen n2 0; have hxf1 := blk_frozen n2 1; have hxf2 := blk_frozen n2 2; have hxf3 := blk_frozen n2 3))
    go_wp2
    refine bodyPost_ret (results_cell_row rfl _ _ (w.heap.size + 1) 78 #[.bool b2, .slice A2 r2.length c2, .bool b3, .slice A3 r3.length c3] (0, 0) _ rfl (blk_set (blk_set (blk_set (blk_set n2 0 _) 1 _) 2 _) 3 _) Try.underlying78 rfl (by kernel_rfl)) rfl ?_
    have un2 := ((un.drew).below hb4).below hb5
    have ud2 := ((ud.drew).below hb4).below hb5
    exact qv_store (ok := fun k => w1.heap.size ≤ k) _ _ (below_step (below_step hBV.drew hb4) hb5) (by omega) (un2.mono (fun k hk => by omega)) (ud2.mono (fun k hk => by omega)) (fun k hk => by omega) ⟨H2.out.1, H2.out.2, H3'.out.1, H3'.out.2⟩ (fun k hk => by omega)
end Ar
end Go.Proofs.Ytnghcgmkncbnnaa
end
section
namespace Go.Proofs.Ytnghcgmkncbnnaa
open Go.RowKit Go.Proofs.YtnghcgmkncbnnaaW.PrintWords Go.Proofs.YtnghcgmkncbnnaaW.PrintLast Go.Proofs.YtnghcgmkncbnnaaW.PrintMore
namespace Ar
open Wd
def den1 (d : Int) : Int := if d = 0 then 1 else d
def cnN (n d : Int) : Int := sg (decide (n < 0)) (n.natAbs / Nat.gcd n.natAbs (den1 d).natAbs)
def cnD (n d : Int) : Int := if (den1 d).natAbs / Nat.gcd n.natAbs (den1 d).natAbs = 1 then 0 else (((den1 d).natAbs / Nat.gcd n.natAbs (den1 d).natAbs : Nat) : Int)
theorem den1_pos {d : Int} (h : 0 ≤ d) : 0 < den1 d := by unfold den1; split <;> omega
theorem den1_sm {d : Int} (h : Sm d) : Sm (den1 d) := by
  unfold den1; split
  · exact Sm_one
  · exact h
set_option maxRecDepth 100000 in
set_option maxHeartbeats 4000000 in
theorem Canonical_c {B : Nat} (hD : DivAt B) {w : World} {ok : Nat → Prop} {v : Value} {n d : Int} (hv : QV w ok v n d) (hn : Sm n) (hs : Sm d) (hd : 0 ≤ d) (hdB : (den1 d).natAbs < B) :
    Calls Try.prog 71 #[v] w fun e w' => ∃ v', e = .returned v' ∧ QV w' (fun k => w.heap.size ≤ k) v' (cnN n d) (cnD n d) ∧ Below w.heap.size w w' := by
  have hv0 := hv
  obtain ⟨b, A, r, c, b', A', r', c', rfl, H, h1, h2⟩ := hv
  have hT := Try.underlying76
  have hQ := Try.underlying78
  have hP := Try.underlying142
  have hB : Below w.heap.size w ((w.alloc (.cells #[.bool b, .slice A r.length c, .bool b', .slice A' r'.length c'] 78)).alloc (.cells nilQ 78)) := below_alloc (below_alloc (Below.refl _ w) _) _
  have k1 := blk_alloc (blk_new w (.cells #[.bool b, .slice A r.length c, .bool b', .slice A' r'.length c'] 78)) (.cells nilQ 78)
  have k2 := blk_new (w.alloc (.cells #[.bool b, .slice A r.length c, .bool b', .slice A' r'.length c'] 78)) (.cells nilQ 78)
  simp only [World.size_alloc] at k2
  have hq := (hv0.bound.alloc (.cells #[.bool b, .slice A r.length c, .bool b', .slice A' r'.length c'] 78)).alloc (.cells nilQ 78)
  go_enter Try.func71, Try.ntmps71
  go_wp2_with (first | (go_at_call 82; refine (of_c hq hd hs).mono ?_; rintro e w1 ⟨v1, rfl, hv1, hb1⟩; have i1 := blk_below k2 hb1) | (go_at_call 83; refine (least_c hD hv1 hn (den1_sm hs) (den1_pos hd) hdB).mono ?_; rintro e w2 ⟨v2, rfl, hv2, hb2⟩; obtain ⟨b2, A2, r2, c2, b3, A3, r3, c3, rfl, H2, hu2, hu3⟩ := hv2; have j2 := blk_below i1 hb2; have hx0 := blk_cell j2 0; have hx1 := blk_cell j2 1; have hx2 := blk_cell j2 2; have hx3 := blk_cell j2 3; have hxf0 := blk_frozen j2 0; have hxf1 := blk_frozen j2 1; have hxf2 := blk_frozen j2 2; have hxf3 := blk_frozen j2 3))
  refine bodyPost_ret (results_cell_row rfl _ _ (w.heap.size + 1) 78 #[.bool b2, .slice A2 r2.length c2, .bool b3, .slice A3 r3.length c3] (0, 0) _ rfl (blk_set (blk_set (blk_set (blk_set j2 0 _) 1 _) 2 _) 3 _) Try.underlying78 rfl (by kernel_rfl)) rfl ?_
  have s1 : w.heap.size + 2 ≤ w1.heap.size := blk_lt i1
  exact qv_store (cnN n d) (cnD n d) (below_step (below_step hB hb1) hb2) (by omega) hu2 hu3 (fun k hk => by omega) H2.out (fun k hk => by omega)
theorem cnN_sm {n d : Int} (h : Sm n) : Sm (n - cnN n d) := by
  unfold Sm at h ⊢
  refine Nat.lt_of_le_of_lt (digs_len_mono ?_) h
  unfold cnN sg
  have := Nat.div_le_self n.natAbs (Nat.gcd n.natAbs (den1 d).natAbs)
  generalize n.natAbs / Nat.gcd n.natAbs (den1 d).natAbs = q at *
  by_cases h0 : n < 0
  · rw [if_pos (decide_eq_true h0)]; omega
  · rw [if_neg (by simpa using h0)]; omega
theorem cnN_sm' {n d : Int} (h : Sm n) : Sm (cnN n d) := by
  unfold Sm at h ⊢
  refine Nat.lt_of_le_of_lt (digs_len_mono ?_) h
  unfold cnN
  rw [(sg_sign _ _).2]
  exact Nat.div_le_self _ _
theorem cnD_le {n d : Int} (h0 : 0 ≤ d) : 0 ≤ cnD n d ∧ (cnD n d).natAbs ≤ d.natAbs := by
  unfold cnD
  have h1 := Nat.div_le_self (den1 d).natAbs (Nat.gcd n.natAbs (den1 d).natAbs)
  generalize (den1 d).natAbs / Nat.gcd n.natAbs (den1 d).natAbs = q at *
  unfold den1 at h1
  split
  · omega
  · next hq =>
    refine ⟨by omega, ?_⟩
    split at h1
    · have : q = 0 := by simp at h1; omega
      omega
    · omega
theorem cnD_sm {n d : Int} (h0 : 0 ≤ d) (h : Sm d) : Sm (d - cnD n d) ∧ Sm (cnD n d) := by
  have := cnD_le (n := n) h0
  unfold Sm at h ⊢
  exact ⟨Nat.lt_of_le_of_lt (digs_len_mono (by omega)) h, Nat.lt_of_le_of_lt (digs_len_mono (by omega)) h⟩
def isCn (n d : Int) : Prop := n = cnN n d ∧ d = cnD n d
instance (n d : Int) : Decidable (isCn n d) := inferInstanceAs (Decidable (_ ∧ _))
set_option maxRecDepth 100000 in
set_option maxHeartbeats 4000000 in
theorem IsCanQ_c {B : Nat} (hD : DivAt B) {w : World} {ok : Nat → Prop} {v : Value} {n d : Int} (hv : QV w ok v n d) (hn : Sm n) (hs : Sm d) (hd : 0 ≤ d) (hdB : (den1 d).natAbs < B) :
    Calls Try.prog 81 #[v] w fun e w' => e = .returned (.bool (decide (isCn n d))) ∧ Below w.heap.size w w' := by
  have hv0 := hv
  obtain ⟨b, A, r, c, b', A', r', c', rfl, H, h1, h2⟩ := hv
  have hT := Try.underlying76
  have hQ := Try.underlying78
  have hB : Below w.heap.size w (w.alloc (.cells #[.bool b, .slice A r.length c, .bool b', .slice A' r'.length c'] 78)) := below_alloc (Below.refl _ w) _
  have k1 := blk_new w (.cells #[.bool b, .slice A r.length c, .bool b', .slice A' r'.length c'] 78)
  have hq := hv0.alloc (.cells #[.bool b, .slice A r.length c, .bool b', .slice A' r'.length c'] 78)
  have z1 := zv_mk H.out.1 H.out.2.1 (h1.alloc (.cells #[.bool b, .slice A r.length c, .bool b', .slice A' r'.length c'] 78))
  have z2 := zv_mk H.out.2.2.1 H.out.2.2.2 (h2.alloc (.cells #[.bool b, .slice A r.length c, .bool b', .slice A' r'.length c'] 78))
  have HS := Lib.hid (And.intro (cnN_sm (d := d) hn) (And.intro (cnN_sm' (d := d) hn) (And.intro (cnD_sm (n := n) hd hs).1 (cnD_sm (n := n) hd hs).2)))
  by_cases e1 : n = cnN n d
  · have g1 : (n - cnN n d).sign = 0 := by rw [← e1, Int.sub_self]; rfl
    have E1 := Lib.hid e1
    clear e1
    by_cases e2 : d = cnD n d
    · have g2 : (d - cnD n d).sign = 0 := by rw [← e2, Int.sub_self]; rfl
      have E2 : decide (isCn n d) = true := decide_eq_true ⟨E1.out, e2⟩
      clear e2
      go_enter Try.func81, Try.ntmps81
      go_wp2_with (first | (go_at_call 71; refine (Canonical_c hD hq hn hs hd hdB).mono ?_; rintro e w1 ⟨v1, rfl, hv1, hb1⟩; obtain ⟨b2, A2, r2, c2, b3, A3, r3, c3, rfl, H2, hu2, hu3⟩ := hv1; have hb2 := below_step hb1 (below_alloc (Below.refl _ w1) (.cells #[.bool b2, .slice A2 r2.length c2, .bool b3, .slice A3 r3.length c3] 78)); have i1 := blk_below k1 hb2; have kx := blk_new w1 (.cells #[.bool b2, .slice A2 r2.length c2, .bool b3, .slice A3 r3.length c3] 78); have y1 := zv_mk H2.out.1 H2.out.2.1 (hu2.alloc (.cells #[.bool b2, .slice A2 r2.length c2, .bool b3, .slice A3 r3.length c3] 78)); have y2 := zv_mk H2.out.2.2.1 H2.out.2.2.2 (hu3.alloc (.cells #[.bool b2, .slice A2 r2.length c2, .bool b3, .slice A3 r3.length c3] 78)); have hy0 := blk_cell i1 0; have hy1 := blk_cell i1 1; have hy2 := blk_cell i1 2; have hy3 := blk_cell i1 3; have hyf0 := blk_frozen i1 0; have hyf1 := blk_frozen i1 1; have hyf2 := blk_frozen i1 2; have hyf3 := blk_frozen i1 3) | (go_at_call_of 90 (Value.agg #[.bool b, .slice A r.length c]); refine (iscan_c (z1.below hb2) hn).mono ?_; rintro e w2 ⟨rfl, hb3⟩; have i2 := blk_below i1 hb3; have hz0 := blk_cell i2 0; have hz1 := blk_cell i2 1; have hz2 := blk_cell i2 2; have hz3 := blk_cell i2 3; have hzf0 := blk_frozen i2 0; have hzf1 := blk_frozen i2 1; have hzf2 := blk_frozen i2 2; have hzf3 := blk_frozen i2 3) | (go_at_call_of 90 (Value.agg #[.bool b', .slice A' r'.length c']); refine (iscan_c ((z2.below hb2).below hb3) hs).mono ?_; rintro e w3 ⟨rfl, hb4⟩; have i3 := blk_below i2 hb4; have kx3 := blk_below (blk_below kx hb3) hb4; have ha0 := blk_cell i3 0; have ha1 := blk_cell i3 1; have ha2 := blk_cell i3 2; have ha3 := blk_cell i3 3; have haf0 := blk_frozen i3 0; have haf1 := blk_frozen i3 1; have haf2 := blk_frozen i3 2; have haf3 := blk_frozen i3 3; have hc0 := blk_cell kx3 0; have hc1 := blk_cell kx3 1; have hc2 := blk_cell kx3 2; have hc3 := blk_cell kx3 3; have hcf0 := blk_frozen kx3 0; have hcf1 := blk_frozen kx3 1; have hcf2 := blk_frozen kx3 2; have hcf3 := blk_frozen kx3 3) | (go_at_call_of 91 (Value.agg #[.bool b, .slice A r.length c]); refine (Cmp_c (((z1.below hb2).below hb3).below hb4) ((y1.below hb3).below hb4) hn HS.out.2.1 HS.out.1).mono ?_; rw [g1]; rintro e w4 ⟨rfl, hb5⟩; have i4 := blk_below i3 hb5; have kx4 := blk_below kx3 hb5; have he0 := blk_cell i4 0; have he1 := blk_cell i4 1; have he2 := blk_cell i4 2; have he3 := blk_cell i4 3; have hef0 := blk_frozen i4 0; have hef1 := blk_frozen i4 1; have hef2 := blk_frozen i4 2; have hef3 := blk_frozen i4 3; have hf0 := blk_cell kx4 0; have hf1 := blk_cell kx4 1; have hf2 := blk_cell kx4 2; have hf3 := blk_cell kx4 3; have hff0 := blk_frozen kx4 0; have hff1 := blk_frozen kx4 1; have hff2 := blk_frozen kx4 2; have hff3 := blk_frozen kx4 3) | (go_at_call_of 91 (Value.agg #[.bool b', .slice A' r'.length c']); refine (Cmp_c ((((z2.below hb2).below hb3).below hb4).below hb5) (((y2.below hb3).below hb4).below hb5) hs HS.out.2.2.2 HS.out.2.2.1).mono ?_; rw [g2]; rintro e w5 ⟨rfl, hb6⟩))
      go_ret
      exact ⟨by rw [E2]; rfl, below_step (below_step (below_step (below_step (below_step hB hb2) hb3) hb4) hb5) hb6⟩
    · have g2 : ((d - cnD n d).sign == 0) = false := by rw [beq_eq_false_iff_ne]; intro h; exact e2 (by have := Int.sign_eq_zero_iff_zero.1 h; omega)
      have E2 : decide (isCn n d) = false := decide_eq_false (fun h => e2 h.2)
      clear e2
      go_enter Try.func81, Try.ntmps81
      go_wp2_with (first | (go_at_call 71; refine (Canonical_c hD hq hn hs hd hdB).mono ?_; rintro e w1 ⟨v1, rfl, hv1, hb1⟩; obtain ⟨b2, A2, r2, c2, b3, A3, r3, c3, rfl, H2, hu2, hu3⟩ := hv1; have hb2 := below_step hb1 (below_alloc (Below.refl _ w1) (.cells #[.bool b2, .slice A2 r2.length c2, .bool b3, .slice A3 r3.length c3] 78)); have i1 := blk_below k1 hb2; have kx := blk_new w1 (.cells #[.bool b2, .slice A2 r2.length c2, .bool b3, .slice A3 r3.length c3] 78); have y1 := zv_mk H2.out.1 H2.out.2.1 (hu2.alloc (.cells #[.bool b2, .slice A2 r2.length c2, .bool b3, .slice A3 r3.length c3] 78)); have y2 := zv_mk H2.out.2.2.1 H2.out.2.2.2 (hu3.alloc (.cells #[.bool b2, .slice A2 r2.length c2, .bool b3, .slice A3 r3.length c3] 78)); have hy0 := blk_cell i1 0; have hy1 := blk_cell i1 1; have hy2 := blk_cell i1 2; have hy3 := blk_cell i1 3; have hyf0 := blk_frozen i1 0; have hyf1 := blk_frozen i1 1; have hyf2 := blk_frozen i1 2; have hyf3 := blk_frozen i1 3) | (go_at_call_of 90 (Value.agg #[.bool b, .slice A r.length c]); refine (iscan_c (z1.below hb2) hn).mono ?_; rintro e w2 ⟨rfl, hb3⟩; have i2 := blk_below i1 hb3; have hz0 := blk_cell i2 0; have hz1 := blk_cell i2 1; have hz2 := blk_cell i2 2; have hz3 := blk_cell i2 3; have hzf0 := blk_frozen i2 0; have hzf1 := blk_frozen i2 1; have hzf2 := blk_frozen i2 2; have hzf3 := blk_frozen i2 3) | (go_at_call_of 90 (Value.agg #[.bool b', .slice A' r'.length c']); refine (iscan_c ((z2.below hb2).below hb3) hs).mono ?_; rintro e w3 ⟨rfl, hb4⟩; have i3 := blk_below i2 hb4; have kx3 := blk_below (blk_below kx hb3) hb4; have ha0 := blk_cell i3 0; have ha1 := blk_cell i3 1; have ha2 := blk_cell i3 2; have ha3 := blk_cell i3 3; have haf0 := blk_frozen i3 0; have haf1 := blk_frozen i3 1; have haf2 := blk_frozen i3 2; have haf3 := blk_frozen i3 3; have hc0 := blk_cell kx3 0; have hc1 := blk_cell kx3 1; have hc2 := blk_cell kx3 2; have hc3 := blk_cell kx3 3; have hcf0 := blk_frozen kx3 0; have hcf1 := blk_frozen kx3 1; have hcf2 := blk_frozen kx3 2; have hcf3 := blk_frozen kx3 3) | (go_at_call_of 91 (Value.agg #[.bool b, .slice A r.length c]); refine (Cmp_c (((z1.below hb2).below hb3).below hb4) ((y1.below hb3).below hb4) hn HS.out.2.1 HS.out.1).mono ?_; rw [g1]; rintro e w4 ⟨rfl, hb5⟩; have i4 := blk_below i3 hb5; have kx4 := blk_below kx3 hb5; have he0 := blk_cell i4 0; have he1 := blk_cell i4 1; have he2 := blk_cell i4 2; have he3 := blk_cell i4 3; have hef0 := blk_frozen i4 0; have hef1 := blk_frozen i4 1; have hef2 := blk_frozen i4 2; have hef3 := blk_frozen i4 3; have hf0 := blk_cell kx4 0; have hf1 := blk_cell kx4 1; have hf2 := blk_cell kx4 2; have hf3 := blk_cell kx4 3; have hff0 := blk_frozen kx4 0; have hff1 := blk_frozen kx4 1; have hff2 := blk_frozen kx4 2; have hff3 := blk_frozen kx4 3) | (go_at_call_of 91 (Value.agg #[.bool b', .slice A' r'.length c']); refine (Cmp_c ((((z2.below hb2).below hb3).below hb4).below hb5) (((y2.below hb3).below hb4).below hb5) hs HS.out.2.2.2 HS.out.2.2.1).mono ?_; rintro e w5 ⟨rfl, hb6⟩))
      go_ret
      exact ⟨by rw [E2]; rfl, below_step (below_step (below_step (below_step (below_step hB hb2) hb3) hb4) hb5) hb6⟩
  · have g1 : ((n - cnN n d).sign == 0) = false := by rw [beq_eq_false_iff_ne]; intro h; exact e1 (by have := Int.sign_eq_zero_iff_zero.1 h; omega)
    have E2 : decide (isCn n d) = false := decide_eq_false (fun h => e1 h.1)
    clear e1
    go_enter Try.func81, Try.ntmps81
    go_wp2_with (first | (go_at_call 71; refine (Canonical_c hD hq hn hs hd hdB).mono ?_; rintro e w1 ⟨v1, rfl, hv1, hb1⟩; obtain ⟨b2, A2, r2, c2, b3, A3, r3, c3, rfl, H2, hu2, hu3⟩ := hv1; have hb2 := below_step hb1 (below_alloc (Below.refl _ w1) (.cells #[.bool b2, .slice A2 r2.length c2, .bool b3, .slice A3 r3.length c3] 78)); have i1 := blk_below k1 hb2; have kx := blk_new w1 (.cells #[.bool b2, .slice A2 r2.length c2, .bool b3, .slice A3 r3.length c3] 78); have y1 := zv_mk H2.out.1 H2.out.2.1 (hu2.alloc (.cells #[.bool b2, .slice A2 r2.length c2, .bool b3, .slice A3 r3.length c3] 78)); have y2 := zv_mk H2.out.2.2.1 H2.out.2.2.2 (hu3.alloc (.cells #[.bool b2, .slice A2 r2.length c2, .bool b3, .slice A3 r3.length c3] 78)); have hy0 := blk_cell i1 0; have hy1 := blk_cell i1 1; have hy2 := blk_cell i1 2; have hy3 := blk_cell i1 3; have hyf0 := blk_frozen i1 0; have hyf1 := blk_frozen i1 1; have hyf2 := blk_frozen i1 2; have hyf3 := blk_frozen i1 3) | (go_at_call_of 90 (Value.agg #[.bool b, .slice A r.length c]); refine (iscan_c (z1.below hb2) hn).mono ?_; rintro e w2 ⟨rfl, hb3⟩; have i2 := blk_below i1 hb3; have hz0 := blk_cell i2 0; have hz1 := blk_cell i2 1; have hz2 := blk_cell i2 2; have hz3 := blk_cell i2 3; have hzf0 := blk_frozen i2 0; have hzf1 := blk_frozen i2 1; have hzf2 := blk_frozen i2 2; have hzf3 := blk_frozen i2 3) | (go_at_call_of 90 (Value.agg #[.bool b', .slice A' r'.length c']); refine (iscan_c ((z2.below hb2).below hb3) hs).mono ?_; rintro e w3 ⟨rfl, hb4⟩; have i3 := blk_below i2 hb4; have kx3 := blk_below (blk_below kx hb3) hb4; have ha0 := blk_cell i3 0; have ha1 := blk_cell i3 1; have ha2 := blk_cell i3 2; have ha3 := blk_cell i3 3; have haf0 := blk_frozen i3 0; have haf1 := blk_frozen i3 1; have haf2 := blk_frozen i3 2; have haf3 := blk_frozen i3 3; have hc0 := blk_cell kx3 0; have hc1 := blk_cell kx3 1; have hc2 := blk_cell kx3 2; have hc3 := blk_cell kx3 3; have hcf0 := blk_frozen kx3 0; have hcf1 := blk_frozen kx3 1; have hcf2 := blk_frozen kx3 2; have hcf3 := blk_frozen kx3 3) | (go_at_call_of 91 (Value.agg #[.bool b, .slice A r.length c]); refine (Cmp_c (((z1.below hb2).below hb3).below hb4) ((y1.below hb3).below hb4) hn HS.out.2.1 HS.out.1).mono ?_; rintro e w4 ⟨rfl, hb5⟩; have i4 := blk_below i3 hb5; have kx4 := blk_below kx3 hb5; have he0 := blk_cell i4 0; have he1 := blk_cell i4 1; have he2 := blk_cell i4 2; have he3 := blk_cell i4 3; have hef0 := blk_frozen i4 0; have hef1 := blk_frozen i4 1; have hef2 := blk_frozen i4 2; have hef3 := blk_frozen i4 3; have hf0 := blk_cell kx4 0; have hf1 := blk_cell kx4 1; have hf2 := blk_cell kx4 2; have hf3 := blk_cell kx4 3; have hff0 := blk_frozen kx4 0; have hff1 := blk_frozen kx4 1; have hff2 := blk_frozen kx4 2; have hff3 := blk_frozen kx4 3))
    go_ret
    exact ⟨by rw [E2]; rfl, below_step (below_step (below_step (below_step hB hb2) hb3) hb4) hb5⟩
end Ar
end Go.Proofs.Ytnghcgmkncbnnaa
end
section
namespace Go.Proofs.Ytnghcgmkncbnnaa
open Go.RowKit Go.Proofs.YtnghcgmkncbnnaaW.PrintWords Go.Proofs.YtnghcgmkncbnnaaW.PrintLast Go.Proofs.YtnghcgmkncbnnaaW.PrintMore
namespace Ar
open Wd
def rdig : Nat → Nat → List Int
  | 0, _ => []
  | f + 1, n => if n = 0 then [] else ((48 + n % 10 : Nat) : Int) :: rdig f (n / 10)
def decL (z : Int) : List Int := if z = 0 then [48] else (rdig 32 z.natAbs ++ (if z < 0 then [45] else [])).reverse
def decB (z : Int) : ByteArray := strOfNums (decL z)
theorem rdig_le : ∀ (f n : Nat), (rdig f n).length ≤ f
  | 0, _ => by simp [rdig]
  | f + 1, n => by
    unfold rdig; split
    · simp
    · have := rdig_le f (n / 10); simp; omega
theorem decB_len (n : Int) : (decB n).size ≤ 40 := by
  unfold decB
  rw [strOfNums_size]
  unfold decL
  split
  · decide
  · rw [List.length_reverse, List.length_append]
    have := rdig_le 32 n.natAbs
    split
    · simp; omega
    · simp; omega
end Ar
end Go.Proofs.Ytnghcgmkncbnnaa
end
section
namespace Go.Proofs.Ytnghcgmkncbnnaa
open Go.RowKit Go.Proofs.YtnghcgmkncbnnaaW.PrintWords Go.Proofs.YtnghcgmkncbnnaaW.PrintLast Go.Proofs.YtnghcgmkncbnnaaW.PrintMore
namespace Ar
open Wd
theorem le_of_mono {α : Type} {f : Nat → Option α} (h : ∀ k, LeO (f k) (f (k + 1))) {k r} (hk : f k = some r) : ∀ n, f (k + n) = some r
  | 0 => hk
  | n + 1 => h _ _ (le_of_mono h hk n)
theorem trim_l0_eq : ∀ k, E.whole_trim.l0 k = C.whole_trim.l0 k
  | 0 => by funext a; rfl
  | k + 1 => by funext a; rw [E.whole_trim.l0, C.whole_trim.l0, trim_l0_eq k]
theorem trim_eq : @E.whole_trim.f = @C.whole_trim.f := by funext k a; unfold E.whole_trim.f C.whole_trim.f; rw [trim_l0_eq]
theorem small_l0_eq : ∀ k, E.whole_small.l0 k = C.whole_small.l0 k
  | 0 => by funext a b c d e f; rfl
  | k + 1 => by funext a b c d e f; rw [E.whole_small.l0, C.whole_small.l0, small_l0_eq k, trim_eq]
theorem small_eq : @E.whole_small.f = @C.whole_small.f := by funext k a b; unfold E.whole_small.f C.whole_small.f; simp only [small_l0_eq]
theorem rd_mid (a b : List Int) (x : Int) : rd (a ++ x :: b) (a.length : Nat) = x := by
  rw [rd_get]; simp
theorem rev_l0 : ∀ (n : Nat) (m a b : List Int) (k : Nat), m.length ≤ n → n + 2 ≤ k → a.length + m.length + b.length < 1073741824 →
    E.slices_Reverse_byte_byte.l0 k (a ++ m ++ b) (a.length : Nat) (((a.length : Nat) : Int) + (m.length : Nat) - 1) = some (a ++ m.reverse ++ b)
  | n, [], a, b, k + 1, hm, hk, hl => by
    rw [E.slices_Reverse_byte_byte.l0, if_neg (by simp; omega)]; simp
  | n, [x], a, b, k + 1, hm, hk, hl => by
    rw [E.slices_Reverse_byte_byte.l0, if_neg (by simp)]; simp
  | n + 1, x :: y :: m, a, b, k + 1, hm, hk, hl => by
    obtain ⟨m', z, hz⟩ : ∃ m' z, y :: m = m' ++ [z] := ⟨(y :: m).dropLast, (y :: m).getLast (by simp), (List.dropLast_concat_getLast (by simp)).symm⟩
    rw [hz] at hm hl ⊢
    simp only [List.length_cons, List.length_append, List.length_nil] at hm hl
    have hlen : (a ++ x :: (m' ++ [z]) ++ b).length = a.length + (m'.length + 2) + b.length := by simp; omega
    have e1 : a ++ x :: (m' ++ [z]) ++ b = (a ++ x :: m') ++ z :: b := by simp
    have e2 : a ++ x :: (m' ++ [z]) ++ b = a ++ x :: (m' ++ [z] ++ b) := by simp
    have hj : ((a.length : Nat) : Int) + ((x :: (m' ++ [z])).length : Nat) - 1 = (((a ++ x :: m').length : Nat) : Int) := by simp; omega
    rw [E.slices_Reverse_byte_byte.l0, hj, if_pos (by simp; omega), if_pos (by omega), if_pos (by rw [hlen]; simp; omega), if_pos (by omega), if_pos (by rw [hlen]; omega)]
    have r1 : rd (a ++ x :: (m' ++ [z]) ++ b) (((a ++ x :: m').length : Nat) : Int) = z := by rw [e1]; exact rd_mid _ _ _
    have r2 : rd (a ++ x :: (m' ++ [z]) ++ b) ((a.length : Nat) : Int) = x := by rw [e2]; exact rd_mid _ _ _
    rw [r1, r2, Int.toNat_natCast, Int.toNat_natCast]
    have s1 : ((a ++ x :: (m' ++ [z]) ++ b).set a.length z).set (a ++ x :: m').length x = (a ++ [z]) ++ m' ++ (x :: b) := by
      rw [e2, List.set_append_right _ _ (Nat.le_refl _), Nat.sub_self, List.set_cons_zero]
      rw [show a ++ z :: (m' ++ [z] ++ b) = (a ++ z :: m') ++ z :: b by simp, show (a ++ x :: m').length = (a ++ z :: m').length by simp, List.set_append_right _ _ (Nat.le_refl _), Nat.sub_self, List.set_cons_zero]
      simp
    rw [s1]
    have w1 : wrap64 (((a.length : Nat) : Int) + 1) = (((a ++ [z]).length : Nat) : Int) := by rw [w64succ _ (by omega)]; simp
    have w2 : wrap64 ((((a ++ x :: m').length : Nat) : Int) - 1) = (((a ++ [z]).length : Nat) : Int) + (m'.length : Nat) - 1 := by
      rw [w64in _ (by simp; omega) (by simp; omega)]; simp; omega
    rw [w1, w2, rev_l0 n m' (a ++ [z]) (x :: b) k (by omega) (by omega) (by simp; omega)]
    simp [List.reverse_append]
theorem rev_f (l : List Int) (k : Nat) (hk : l.length + 2 ≤ k) (hl : l.length < 1073741824) : E.slices_Reverse_byte_byte.f k l = some l.reverse := by
  unfold E.slices_Reverse_byte_byte.f
  have := rev_l0 l.length l [] [] k (Nat.le_refl _) hk (by simpa using hl)
  simp only [List.nil_append, List.append_nil, List.length_nil] at this
  rw [← this]
  congr 1
  rw [w64in _ (by omega) (by omega)]; simp
theorem fmt_l0 (neg : Bool) (l0 : List Int) : ∀ (f v : Nat) (acc : List Int) (k : Nat), v < 10 ^ f → v < 18446744073709551616 → acc.length + f + f + 100 ≤ k → k < 1000000 →
    E.whole_Format.l0 k (digs v) acc neg l0 = some (strOfNums (acc ++ rdig f v ++ (if neg = true then [45] else [])).reverse)
  | f, v, acc, 0, hv, hv2, hk, hk2 => by omega
  | f, v, acc, k + 1, hv, hv2, hk, hk2 => by
    have hdl := digs_len_le v 2 (by omega)
    unfold E.whole_Format.l0
    by_cases h0 : v = 0
    · subst h0
      have hr : rdig f 0 = [] := by cases f <;> simp [rdig]
      rw [if_neg (by rw [show digs 0 = [] from rfl]; simp), hr, List.append_nil]
      cases neg with
      | true =>
        rw [if_pos rfl, if_pos rfl, if_pos (by omega), rev_f _ _ (by simp; omega) (by simp; omega)]
        rfl
      | false =>
        rw [if_neg (by decide), if_neg (by decide), rev_f _ _ (by omega) (by omega), List.append_nil]
        rfl
    · have hne : 0 < (digs v).length := List.length_pos_iff.2 (fun e => h0 (digs_nil.1 e))
      have hs : E.whole_small.f k (digs v) 10 = some (digs (v / 10), ((v % 10 : Nat) : Int)) := by
        rw [small_eq]
        have h1 := small_f (digs v) (digs_ok v) (by omega) 10 (by decide) (by decide)
        rw [val_digs] at h1
        have := le_of_mono (f := fun k => C.whole_small.f k (digs v) 10) (fun k => C.whole_small.mono _ _ k) h1 (k - (2 * (digs v).length + 2))
        rwa [show 2 * (digs v).length + 2 + (k - (2 * (digs v).length + 2)) = k by omega] at this
      rw [if_pos (by omega), hs, Option.bind_some, if_pos (by omega)]
      cases f with
      | zero => exact absurd hv (by simpa using h0)
      | succ f =>
        have hm : (48 + ((v % 10 : Nat) : Int)) % 256 = ((48 + v % 10 : Nat) : Int) := by omega
        rw [hm, fmt_l0 neg l0 f (v / 10) _ k (by rw [Nat.pow_succ] at hv; omega) (by omega) (by simp; omega) (by omega)]
        congr 2
        rw [rdig, if_neg h0]
        simp
theorem fmt_f (z : Int) (hz : z.natAbs < 18446744073709551616) : E.whole_Format.f 200 (decide (z < 0)) (digs z.natAbs) = some (decB z) := by
  unfold E.whole_Format.f
  have hdl := digs_len_le z.natAbs 2 (by omega)
  have ht : E.whole_trim.f 200 (digs z.natAbs) = some (digs z.natAbs) := by
    rw [trim_eq]
    have h1 := trim_f (digs z.natAbs) (digs_ok _) (by omega)
    rw [val_digs] at h1
    have := le_of_mono (f := fun k => C.whole_trim.f k (digs z.natAbs)) (fun k => C.whole_trim.mono _ k) h1 (200 - ((digs z.natAbs).length + 1))
    rwa [show (digs z.natAbs).length + 1 + (200 - ((digs z.natAbs).length + 1)) = 200 by omega] at this
  rw [ht, Option.bind_some]
  unfold decB decL
  by_cases h0 : z = 0
  · subst h0
    rw [if_pos (by rfl), if_pos rfl]; rfl
  · have hne : 0 < (digs z.natAbs).length := List.length_pos_iff.2 (fun e => h0 (by have := digs_nil.1 e; omega))
    rw [if_neg (by omega), if_neg h0, fmt_l0 _ _ 32 _ _ _ (by omega) hz (by simp) (by omega), List.nil_append]
    simp only [decide_eq_true_eq]
theorem format_c {w : World} {ok : Nat → Prop} {v : Value} {z : Int} (hv : ZV w ok v z) (hz : z.natAbs < 18446744073709551616) :
    Calls Try.prog 72 #[v] w fun e w' => e = .returned (.string (decB z)) ∧ Below w.heap.size w w' := by
  obtain ⟨sv, rfl, hu⟩ := hv
  obtain ⟨A, c, rfl, hc, hC⟩ := hu.slice
  exact E.whole_Format.calls 200 _ A c _ _ w hC hc (fmt_f z hz)
end Ar
end Go.Proofs.Ytnghcgmkncbnnaa
end
section
namespace Go.Proofs.Ytnghcgmkncbnnaa
open Go.RowKit Go.Proofs.YtnghcgmkncbnnaaW.PrintWords Go.Proofs.YtnghcgmkncbnnaaW.PrintLast Go.Proofs.YtnghcgmkncbnnaaW.PrintMore
namespace Ar
open Wd
set_option maxRecDepth 100000 in
set_option maxHeartbeats 4000000 in
theorem QfromInt_c {w : World} (n : Int) (hn : -9223372036854775808 ≤ n) (hm : n < 9223372036854775808) :
    Calls Try.prog 60 #[.int .i64 n] w fun e w' => ∃ v, e = .returned v ∧ QV w' (fun k => w.heap.size ≤ k) v n 0 ∧ Below w.heap.size w w' := by
  have hT := Try.underlying76
  have hQ := Try.underlying78
  have hB : Below w.heap.size w (w.alloc (.cells nilQ 78)) := below_alloc (Below.refl _ w) _
  have k1 := blk_new w (.cells nilQ 78)
  go_enter Try.func60, Try.ntmps60
  go_wp2_with (go_at_call 74; refine (fromint_c n hn hm).mono ?_; rintro e w1 ⟨v1, rfl, hv1, hb1⟩; obtain ⟨b1, A1, r1, c1, rfl, H1, hu1⟩ := zv_openh hv1; have i1 := blk_below k1 hb1; have hx0 := blk_cell i1 0; have hx1 := blk_cell i1 1; have hx2 := blk_cell i1 2; have hx3 := blk_cell i1 3; have hxf0 := blk_frozen i1 0; have hxf1 := blk_frozen i1 1; have hxf2 := blk_frozen i1 2; have hxf3 := blk_frozen i1 3)
  refine bodyPost_ret (results_cell_row rfl _ _ w.heap.size 78 #[.bool b1, .slice A1 r1.length c1, .bool false, .slice none 0 0] (0, 0) _ rfl (blk_set (blk_set (blk_set (blk_set i1 0 _) 1 _) 2 _) 3 _) Try.underlying78 rfl (by kernel_rfl)) rfl ?_
  simp only [World.size_alloc] at hu1
  exact qv_store n 0 (below_step hB hb1) (Nat.le_refl _) hu1 (r' := []) (Uv.nil _ _) (fun k hk => by omega) ⟨H1.out.1, H1.out.2, rfl, rfl⟩ (fun k hk => by omega)
end Ar
end Go.Proofs.Ytnghcgmkncbnnaa
end
section
namespace Go.Proofs.Ytnghcgmkncbnnaa
open Go.RowKit Go.Proofs.YtnghcgmkncbnnaaW.PrintWords Go.Proofs.YtnghcgmkncbnnaaW.PrintLast Go.Proofs.YtnghcgmkncbnnaaW.PrintMore
namespace Ar
open Wd Rf
def okL (l : List Int) : Bool := l.all (fun x => decide (0 ≤ x) && decide (x < 4294967296)) && decide (l.length < 1073741824)
theorem okL_iff {l : List Int} : okL l = true ↔ okW l ∧ l.length < 1073741824 := by
  unfold okL okW
  simp [List.all_eq_true]
theorem u32s_of_C {W : World} {A : Option Addr} {c : Nat} {l : List Int} (h : Kd.C (Kd.int .u32) W A l.length l) (hc : l.length ≤ c) : U32s (· < W.heap.size) W (.slice A l.length c) l := by
  refine ⟨A, c, rfl, hc, fun j hj => ?_⟩
  obtain ⟨ad, rfl, hcell⟩ := (reads_c h).2.2 (by omega)
  have h1 := hcell j hj
  rw [List.getD_eq_getElem?_getD] at h1
  exact ⟨ad, rfl, World.block_lt_of_cell? W _ h1, h1⟩
theorem uv_of_C {W : World} {A : Option Addr} {c : Nat} {l : List Int} (h : Kd.C (Kd.int .u32) W A l.length l) (hc : l.length ≤ c) : Uv W (fun k => k < W.heap.size) (.slice A l.length c) l := ⟨A, c, rfl, hc, Kd.C_F (Kd.heap_int _) h⟩
end Ar
end Go.Proofs.Ytnghcgmkncbnnaa
end
section
namespace Go.Proofs.Ytnghcgmkncbnnaa.X
open Go.RowKit Go.Proofs.YtnghcgmkncbnnaaW.PrintWords Go.Proofs.YtnghcgmkncbnnaaW.PrintLast Go.Proofs.YtnghcgmkncbnnaaW.PrintMore
attribute [local go_sem] max2_int min2_int max_two min_two max_three min_three max_four min_four   
set_option linter.unusedVariables false
set_option linter.unusedSimpArgs false
def errW : Option Int → Value
  | none => .nilIface
  | some c => .iface 0 (.int .i64 c)
theorem errW_none : errW none = .nilIface := rfl
theorem errW_some (c : Int) : errW (some c) = .iface 0 (.int .i64 c) := rfl
theorem info149 : (Try.prog.info? 149).map (fun i => (i.zero, i.size, i.bytes)) = some (some (.int .u32 0), 1, 4) := by kernel_rfl
end Go.Proofs.Ytnghcgmkncbnnaa.X
end
section
namespace Go.Proofs.Ytnghcgmkncbnnaa.X
open Go.RowKit Go.Proofs.YtnghcgmkncbnnaaW.PrintWords Go.Proofs.YtnghcgmkncbnnaaW.PrintLast Go.Proofs.YtnghcgmkncbnnaaW.PrintMore
attribute [local go_sem] max2_int min2_int max_two min_two max_three min_three max_four min_four   
set_option linter.unusedVariables false
set_option linter.unusedSimpArgs false
def whole_trim.f (l0 : List Int) : Option (List Int) := if Ar.okL l0 = true then some (Wd.digs (Wd.val l0)) else none
theorem whole_trim.calls (P0_ : Nat → Prop) (A0 : Option Addr) (c0 : Nat) (l0 : List Int) (r : List Int) (w : World) (hs0 : Kd.V (Kd.int .u32) 149 w w.heap.size (fun k_ => P0_ k_) (.slice A0 l0.length c0) l0) (h : whole_trim.f l0 = some r) :
    Calls Try.prog 76 #[.slice A0 l0.length c0] w fun e w' => ∃ v0_ : Value, e = .returned (v0_) ∧ Kd.V (Kd.int .u32) 149 w' w.heap.size (fun k_ => (P0_ k_ ∨ w.heap.size ≤ k_)) v0_ r ∧ Below w.heap.size w w' := by
  unfold whole_trim.f at h
  split at h
  · rename_i hk
    obtain rfl := Option.some.inj h
    obtain ⟨h1, h2⟩ := Ar.okL_iff.1 hk
    exact Ar.trim_c (ok := P0_) hs0 h1 h2
  · cases h
end Go.Proofs.Ytnghcgmkncbnnaa.X
end
section
namespace Go.Proofs.Ytnghcgmkncbnnaa.X
open Go.RowKit Go.Proofs.YtnghcgmkncbnnaaW.PrintWords Go.Proofs.YtnghcgmkncbnnaaW.PrintLast Go.Proofs.YtnghcgmkncbnnaaW.PrintMore
attribute [local go_sem] max2_int min2_int max_two min_two max_three min_three max_four min_four   
set_option linter.unusedVariables false
set_option linter.unusedSimpArgs false
def whole_small.f (l0 : List Int) (a1 : Int) : Option (List Int × Int) := if Ar.okL l0 = true ∧ 0 < a1 ∧ a1 ≤ 4294967296 then some (Wd.digs (Wd.val l0 / a1.toNat), ((Wd.val l0 % a1.toNat : Nat) : Int)) else none
theorem whole_small.calls (A0 : Option Addr) (c0 : Nat) (l0 : List Int) (a1 : Int) (r1 : List Int) (r2 : Int) (w : World) (hr0 : Kd.C (Kd.int .u32) w A0 l0.length l0) (hc0 : l0.length ≤ c0) (h : whole_small.f l0 a1 = some (r1, r2)) :
    Calls Try.prog 84 #[.slice A0 l0.length c0, .int .u64 a1] w fun e w' => ∃ v0_ : Value, e = .returned (.tuple #[v0_, .int .u64 r2]) ∧ Kd.V (Kd.int .u32) 149 w' w.heap.size (fun k_ => w.heap.size ≤ k_) v0_ r1 ∧ Below w.heap.size w w' := by
  unfold whole_small.f at h
  split at h
  · rename_i hk
    obtain ⟨hk, p1, p2⟩ := hk
    obtain ⟨rfl, rfl⟩ := Prod.mk.inj (Option.some.inj h)
    obtain ⟨h1, h2⟩ := Ar.okL_iff.1 hk
    obtain ⟨n, rfl⟩ := Int.eq_ofNat_of_zero_le (Int.le_of_lt p1)
    exact C.whole_small.calls _ A0 c0 l0 n _ _ w hr0 hc0 (Ar.small_f l0 h1 h2 n (by omega) (by omega))
  · cases h
end Go.Proofs.Ytnghcgmkncbnnaa.X
end
section
namespace Go.Proofs.Ytnghcgmkncbnnaa.X
open Go.RowKit Go.Proofs.YtnghcgmkncbnnaaW.PrintWords Go.Proofs.YtnghcgmkncbnnaaW.PrintLast Go.Proofs.YtnghcgmkncbnnaaW.PrintMore
attribute [local go_sem] max2_int min2_int max_two min_two max_three min_three max_four min_four   
set_option linter.unusedVariables false
set_option linter.unusedSimpArgs false
def whole_mul.f (l0 : List Int) (l1 : List Int) : Option (List Int) := if Ar.okL l0 = true ∧ Ar.okL l1 = true then some (Wd.wds (l0.length + l1.length) (Wd.val l0 * Wd.val l1)) else none
theorem whole_mul.calls (A0 : Option Addr) (c0 : Nat) (l0 : List Int) (A1 : Option Addr) (c1 : Nat) (l1 : List Int) (r : List Int) (w : World) (hr0 : Kd.C (Kd.int .u32) w A0 l0.length l0) (hc0 : l0.length ≤ c0) (hr1 : Kd.C (Kd.int .u32) w A1 l1.length l1) (hc1 : l1.length ≤ c1) (h : whole_mul.f l0 l1 = some r) :
    Calls Try.prog 89 #[.slice A0 l0.length c0, .slice A1 l1.length c1] w fun e w' => ∃ v0_ : Value, e = .returned (v0_) ∧ Kd.V (Kd.int .u32) 149 w' w.heap.size (fun k_ => w.heap.size ≤ k_) v0_ r ∧ Below w.heap.size w w' := by
  unfold whole_mul.f at h
  split at h
  · rename_i hk
    obtain rfl := Option.some.inj h
    obtain ⟨h1, h2⟩ := Ar.okL_iff.1 hk.1
    obtain ⟨h3, h4⟩ := Ar.okL_iff.1 hk.2
    obtain ⟨out, e1, e2, e3, e4⟩ := Ar.mul_f l0 l1 h1 h3 h2 h4
    have e5 : out = Wd.wds (l0.length + l1.length) (Wd.val l0 * Wd.val l1) := by rw [← e3, ← e4, Wd.wds_val out e2]
    refine (C.whole_mul.calls _ A0 c0 l0 A1 c1 l1 out w hr0 hc0 hr1 hc1 e1).mono ?_
    rintro e w' ⟨v, rfl, hR, hb'⟩
    rw [← e5]
    exact ⟨v, rfl, Kd.R_V (Kd.R_mono (Kd.R_bound hR) (fun k hk => hk.2.1)), hb'⟩
  · cases h
end Go.Proofs.Ytnghcgmkncbnnaa.X
end
section
namespace Go.Proofs.Ytnghcgmkncbnnaa.X
open Go.RowKit Go.Proofs.YtnghcgmkncbnnaaW.PrintWords Go.Proofs.YtnghcgmkncbnnaaW.PrintLast Go.Proofs.YtnghcgmkncbnnaaW.PrintMore
attribute [local go_sem] max2_int min2_int max_two min_two max_three min_three max_four min_four   
set_option linter.unusedVariables false
set_option linter.unusedSimpArgs false
def whole_sub.f (l0 : List Int) (l1 : List Int) : Option (List Int) := if (Ar.okL l0 = true ∧ Ar.okL l1 = true) ∧ Wd.val l1 ≤ Wd.val l0 then some (Wd.wds (max l0.length l1.length) (Wd.val l0 - Wd.val l1)) else none
theorem whole_sub.calls (A0 : Option Addr) (c0 : Nat) (l0 : List Int) (A1 : Option Addr) (c1 : Nat) (l1 : List Int) (r : List Int) (w : World) (hr0 : Kd.C (Kd.int .u32) w A0 l0.length l0) (hc0 : l0.length ≤ c0) (hr1 : Kd.C (Kd.int .u32) w A1 l1.length l1) (hc1 : l1.length ≤ c1) (h : whole_sub.f l0 l1 = some r) :
    Calls Try.prog 99 #[.slice A0 l0.length c0, .slice A1 l1.length c1] w fun e w' => ∃ v0_ : Value, e = .returned (v0_) ∧ Kd.V (Kd.int .u32) 149 w' w.heap.size (fun k_ => w.heap.size ≤ k_) v0_ r ∧ Below w.heap.size w w' := by
  unfold whole_sub.f at h
  split at h
  · rename_i hk
    obtain ⟨hk, hle⟩ := hk
    obtain rfl := Option.some.inj h
    obtain ⟨h1, h2⟩ := Ar.okL_iff.1 hk.1
    obtain ⟨h3, h4⟩ := Ar.okL_iff.1 hk.2
    refine (Ar.sub_c (Ar.uv_of_C hr0 hc0) (Ar.uv_of_C hr1 hc1) h1 h3 h2 h4 hle).mono ?_
    rintro e w' ⟨A, r, c, rfl, ⟨g1, g2, g3⟩, hu, hb⟩
    have e5 : r = Wd.wds (max l0.length l1.length) (Wd.val l0 - Wd.val l1) := by rw [← g3, ← g2, Wd.wds_val r g1]
    rw [e5] at hu
    refine ⟨_, rfl, ?_, hb⟩
    rw [e5]; exact hu
  · cases h
end Go.Proofs.Ytnghcgmkncbnnaa.X
end
section
namespace Go.Proofs.Ytnghcgmkncbnnaa.X
open Go.RowKit Go.Proofs.YtnghcgmkncbnnaaW.PrintWords Go.Proofs.YtnghcgmkncbnnaaW.PrintLast Go.Proofs.YtnghcgmkncbnnaaW.PrintMore
attribute [local go_sem] max2_int min2_int max_two min_two max_three min_three max_four min_four   
set_option linter.unusedVariables false
set_option linter.unusedSimpArgs false
def whole_cmp.f (l0 : List Int) (l1 : List Int) : Option Int := if Ar.okL l0 = true ∧ Ar.okL l1 = true then (if l0.length = l1.length then some (if Wd.val l0 < Wd.val l1 then -1 else if Wd.val l1 < Wd.val l0 then 1 else 0) else some ((l0.length : Int) - (l1.length : Int))) else none
theorem whole_cmp.calls (A0 : Option Addr) (c0 : Nat) (l0 : List Int) (A1 : Option Addr) (c1 : Nat) (l1 : List Int) (r : Int) (w : World) (hr0 : Kd.C (Kd.int .u32) w A0 l0.length l0) (hc0 : l0.length ≤ c0) (hr1 : Kd.C (Kd.int .u32) w A1 l1.length l1) (hc1 : l1.length ≤ c1) (h : whole_cmp.f l0 l1 = some r) :
    Calls Try.prog 103 #[.slice A0 l0.length c0, .slice A1 l1.length c1] w fun e w' => e = .returned (.int .i64 r) ∧ Below w.heap.size w w' := by
  unfold whole_cmp.f at h
  split at h
  · rename_i hk
    obtain ⟨h1, h2⟩ := Ar.okL_iff.1 hk.1
    obtain ⟨h3, h4⟩ := Ar.okL_iff.1 hk.2
    split at h
    · rename_i hl
      obtain rfl := Option.some.inj h
      have hua := Ar.u32s_of_C hr0 hc0
      have hub := Ar.u32s_of_C hr1 hc1
      rw [← hl] at hub ⊢
      refine (Rf.cmp_eq A0 A1 l0.length c0 c1 l0 l1 h2 rfl hl.symm (Wd.wrd_of _ h1) (Wd.wrd_of _ h3) w hua hub).mono ?_
      rintro e w' ⟨rfl, hb'⟩
      rw [Wd.cfold_all _ _ h1 h3 _ rfl hl.symm]
      exact ⟨rfl, hb'⟩
    · rename_i hl
      obtain rfl := Option.some.inj h
      exact Rf.cmp_ne A0 A1 _ _ c0 c1 hl (by omega) (by omega) w
  · cases h
end Go.Proofs.Ytnghcgmkncbnnaa.X
end
section
namespace Go.Proofs.Ytnghcgmkncbnnaa.X
open Go.RowKit Go.Proofs.YtnghcgmkncbnnaaW.PrintWords Go.Proofs.YtnghcgmkncbnnaaW.PrintLast Go.Proofs.YtnghcgmkncbnnaaW.PrintMore
attribute [local go_sem] max2_int min2_int max_two min_two max_three min_three max_four min_four   
set_option linter.unusedVariables false
set_option linter.unusedSimpArgs false
mutual
def whole_div.l0 : Nat → List Int → List Int → List Int → List Int → Int → Int → Option (List Int × List Int)
  | 0, _, _, _, _, _, _ => none
  | k + 1, x0, x1, x4, x5, x34, x35 => if x35 < x34 then (if 0 ≤ (wrap64 ((wrap64 ((x0.length : Int) - 1)) - x35)) then (if (wrap64 ((wrap64 ((x0.length : Int) - 1)) - x35)) < (x0.length : Int) then ((some (([rd x0 (wrap64 ((wrap64 ((x0.length : Int) - 1)) - x35))] : List Int) : List Int)).bind fun y119 => (if y119.length + x5.length < 35184372088832 then ((whole_trim.f (y119 ++ x5)).bind fun t125 => (if (t125.length : Int) < (x1.length : Int) then (whole_div.j1 k x0 x1 x4 t125 (wrap64 ((wrap64 ((x0.length : Int) - 1)) - x35)) 0 1 x34 x35) else (whole_div.j1 k x0 x1 x4 t125 (wrap64 ((wrap64 ((x0.length : Int) - 1)) - x35)) 0 4294967296 x34 x35))) else (none))) else (none)) else (none)) else ((whole_trim.f x4).bind fun t115 => (some (t115, x5)))
def whole_div.j1 : Nat → List Int → List Int → List Int → List Int → Int → Int → Int → Int → Int → Option (List Int × List Int)
  | 0, _, _, _, _, _, _, _, _, _ => none
  | k + 1, x0, x1, x4, x5, x9, x10, x11, x34, x35 => whole_div.l1 k x0 x1 x4 x5 x9 x10 x11 x34 x35
def whole_div.l1 : Nat → List Int → List Int → List Int → List Int → Int → Int → Int → Int → Int → Option (List Int × List Int)
  | 0, _, _, _, _, _, _, _, _, _ => none
  | k + 1, x0, x1, x4, x5, x9, x10, x11, x34, x35 => if (IntKind.u64.wrap (x11 - x10)) > 1 then ((whole_mul.f x1 (([(IntKind.u64.wrap (Int.tdiv (IntKind.u64.wrap (x10 + x11)) 2)) % 4294967296] : List Int))).bind fun t131 => ((whole_trim.f t131).bind fun t134 => ((whole_cmp.f t134 x5).bind fun t137 => (if t137 ≤ 0 then (whole_div.l1 k x0 x1 x4 x5 x9 (IntKind.u64.wrap (Int.tdiv (IntKind.u64.wrap (x10 + x11)) 2)) x11 x34 x35) else (whole_div.l1 k x0 x1 x4 x5 x9 x10 (IntKind.u64.wrap (Int.tdiv (IntKind.u64.wrap (x10 + x11)) 2)) x34 x35))))) else (if 0 ≤ x9 then (if x9 < (x4.length : Int) then ((whole_mul.f x1 (([(x10) % 4294967296] : List Int))).bind fun t142 => ((whole_trim.f t142).bind fun t145 => ((whole_sub.f x5 t145).bind fun t148 => ((whole_trim.f t148).bind fun t151 => (whole_div.l0 k x0 x1 (x4.set (x9 : Int).toNat ((x10) % 4294967296)) t151 x34 (wrap64 (x35 + 1))))))) else (none)) else (none))
end
def whole_div.f (k : Nat) (l0 : List Int) (l1 : List Int) : Option (List Int × List Int) := if (l1.length : Int) = 1 then (if 0 < (l1.length : Int) then ((whole_small.f l0 (IntKind.u64.wrap (rd l1 0))).bind fun bt102 => ((whole_trim.f (([(bt102.2) % 4294967296] : List Int))).bind fun t109 => (some (bt102.1, t109)))) else (none)) else (if 0 ≤ (l0.length : Int) then (if ((l0.length : Int) : Int).toNat ≤ 70368744177664 then (whole_div.l0 k l0 l1 (List.replicate ((l0.length : Int) : Int).toNat 0) ([] : List Int) (l0.length : Int) 0) else (none)) else (none))
theorem whole_div.mono_l : ∀ k, (∀ y0 y1 y2 y3 y4 y5, LeO (whole_div.l0 k y0 y1 y2 y3 y4 y5) (whole_div.l0 (k + 1) y0 y1 y2 y3 y4 y5)) ∧ (∀ y0 y1 y2 y3 y4 y5 y6 y7 y8, LeO (whole_div.j1 k y0 y1 y2 y3 y4 y5 y6 y7 y8) (whole_div.j1 (k + 1) y0 y1 y2 y3 y4 y5 y6 y7 y8)) ∧ (∀ y0 y1 y2 y3 y4 y5 y6 y7 y8, LeO (whole_div.l1 k y0 y1 y2 y3 y4 y5 y6 y7 y8) (whole_div.l1 (k + 1) y0 y1 y2 y3 y4 y5 y6 y7 y8))
  | 0 => ⟨fun _ _ _ _ _ _ r h => by simp [whole_div.l0] at h, fun _ _ _ _ _ _ _ _ _ r h => by simp [whole_div.j1] at h, fun _ _ _ _ _ _ _ _ _ r h => by simp [whole_div.l1] at h⟩
  | k + 1 => by
    obtain ⟨ih0, ih1, ih2⟩ := whole_div.mono_l k
    refine ⟨?_, ?_, ?_⟩
    · intro y0 y1 y2 y3 y4 y5
      unfold whole_div.l0
      repeat' first
      | (with_reducible exact ih0 _ _ _ _ _ _)
      | (with_reducible exact ih1 _ _ _ _ _ _ _ _ _)
      | (with_reducible exact ih2 _ _ _ _ _ _ _ _ _)
      | (with_reducible exact LeO.refl _)
      | (with_reducible exact LeO.none _)
      | (with_reducible refine LeO.ite ?_ ?_)
      | (with_reducible refine LeO.bind ?_ (fun _ => ?_))
      | exact ih0 _ _ _ _ _ _
      | exact ih1 _ _ _ _ _ _ _ _ _
      | exact ih2 _ _ _ _ _ _ _ _ _
      | exact LeO.none _
      | refine LeO.ite ?_ ?_
      | refine LeO.bind ?_ (fun _ => ?_)
    · intro y0 y1 y2 y3 y4 y5 y6 y7 y8
      unfold whole_div.j1
      repeat' first
      | (with_reducible exact ih0 _ _ _ _ _ _)
      | (with_reducible exact ih1 _ _ _ _ _ _ _ _ _)
      | (with_reducible exact ih2 _ _ _ _ _ _ _ _ _)
      | (with_reducible exact LeO.refl _)
      | (with_reducible exact LeO.none _)
      | (with_reducible refine LeO.ite ?_ ?_)
      | (with_reducible refine LeO.bind ?_ (fun _ => ?_))
      | exact ih0 _ _ _ _ _ _
      | exact ih1 _ _ _ _ _ _ _ _ _
      | exact ih2 _ _ _ _ _ _ _ _ _
      | exact LeO.none _
      | refine LeO.ite ?_ ?_
      | refine LeO.bind ?_ (fun _ => ?_)
    · intro y0 y1 y2 y3 y4 y5 y6 y7 y8
      unfold whole_div.l1
      repeat' first
      | (with_reducible exact ih0 _ _ _ _ _ _)
      | (with_reducible exact ih1 _ _ _ _ _ _ _ _ _)
      | (with_reducible exact ih2 _ _ _ _ _ _ _ _ _)
      | (with_reducible exact LeO.refl _)
      | (with_reducible exact LeO.none _)
      | (with_reducible refine LeO.ite ?_ ?_)
      | (with_reducible refine LeO.bind ?_ (fun _ => ?_))
      | exact ih0 _ _ _ _ _ _
      | exact ih1 _ _ _ _ _ _ _ _ _
      | exact ih2 _ _ _ _ _ _ _ _ _
      | exact LeO.none _
      | refine LeO.ite ?_ ?_
      | refine LeO.bind ?_ (fun _ => ?_)
theorem whole_div.mono : ∀ a0 a1 k, LeO (whole_div.f k a0 a1) (whole_div.f (k + 1) a0 a1) := by
  intro a0 a1 k
  obtain ⟨ih0, ih1, ih2⟩ := whole_div.mono_l k
  unfold whole_div.f
  repeat' first
      | (with_reducible exact ih0 _ _ _ _ _ _)
      | (with_reducible exact ih1 _ _ _ _ _ _ _ _ _)
      | (with_reducible exact ih2 _ _ _ _ _ _ _ _ _)
      | (with_reducible exact LeO.refl _)
      | (with_reducible exact LeO.none _)
      | (with_reducible refine LeO.ite ?_ ?_)
      | (with_reducible refine LeO.bind ?_ (fun _ => ?_))
      | exact ih0 _ _ _ _ _ _
      | exact ih1 _ _ _ _ _ _ _ _ _
      | exact ih2 _ _ _ _ _ _ _ _ _
      | exact LeO.none _
      | refine LeO.ite ?_ ?_
      | refine LeO.bind ?_ (fun _ => ?_)
set_option maxHeartbeats 8000000 in
set_option maxRecDepth 100000 in
theorem whole_div.calls (k : Nat) (A0 : Option Addr) (c0 : Nat) (l0 : List Int) (A1 : Option Addr) (c1 : Nat) (l1 : List Int) (r1 : List Int) (r2 : List Int) (w : World) (hr0 : Kd.C (Kd.int .u32) w A0 l0.length l0) (hc0 : l0.length ≤ c0) (hr1 : Kd.C (Kd.int .u32) w A1 l1.length l1) (hc1 : l1.length ≤ c1) (h : whole_div.f k l0 l1 = some (r1, r2)) :
    Calls Try.prog 98 #[.slice A0 l0.length c0, .slice A1 l1.length c1] w fun e w' => ∃ v0_ v1_ : Value, e = .returned (.tuple #[v0_, v1_]) ∧ Kd.V (Kd.int .u32) 149 w' w.heap.size (fun k_ => (w.heap.size ≤ k_)) v0_ r1 ∧ Kd.V (Kd.int .u32) 149 w' w.heap.size (fun k_ => (w.heap.size ≤ k_)) v1_ r2 ∧ Below w.heap.size w w' := by
  have HR0 := Aside0.mk hr0
  have HC0 := Aside0.mk hc0
  clear hr0 hc0
  have HR1 := Aside0.mk hr1
  have HC1 := Aside0.mk hc1
  clear hr1 hc1
  have HB := Aside0.mk (Below.refl w.heap.size w)
  have H : (if (l1.length : Int) = 1 then (if 0 < (l1.length : Int) then ((whole_small.f l0 (IntKind.u64.wrap (rd l1 0))).bind fun bt102 => ((whole_trim.f (([(bt102.2) % 4294967296] : List Int))).bind fun t109 => (some (bt102.1, t109)))) else (none)) else (if 0 ≤ (l0.length : Int) then (if ((l0.length : Int) : Int).toNat ≤ 70368744177664 then (whole_div.l0 k l0 l1 (List.replicate ((l0.length : Int) : Int).toNat 0) ([] : List Int) (l0.length : Int) 0) else (none)) else (none))) = some (r1, r2) := h
  clear h
  by_cases c3 : (l1.length : Int) = 1
  · rw [if_pos c3] at H
    have c3b0 : ((l1.length : Int) == 1) = true := beq_iff_eq.mpr c3
    have c3b1 : ((l1.length : Int) != 1) = false := bne_eq_false_iff_eq.mpr c3
    clear c3
    by_cases c4 : 0 < (l1.length : Int)
    · rw [if_pos c4] at H
      have c4b0 : decide (0 < (l1.length : Int)) = true := decide_eq_true c4
      have c4b1 : decide (0 < l1.length) = true := decide_eq_true (by omega)
      clear c4
      replace H := Option.bind_eq_some_iff.mp H
      obtain ⟨⟨t102, t105⟩, A50, H⟩ := H
      replace H : ((whole_trim.f (([(t105) % 4294967296] : List Int))).bind fun t109 => (some (t102, t109))) = some (r1, r2) := H
      have A5 := Aside0.mk A50
      clear A50
      obtain ⟨y106, hy106⟩ : ∃ y_ : List Int, y_ = (([(t105) % 4294967296] : List Int)) := ⟨_, rfl⟩
      replace H : ((whole_trim.f y106).bind fun t109 => (some (t102, t109))) = some (r1, r2) := by first | (rw [hy106]; with_reducible exact H) | (have H2_ := (Option.bind_some _ _).symm.trans H; rw [hy106]; with_reducible exact H2_) | (have H2_ := (Option.bind_some _ _).symm.trans H; with_reducible exact H2_) | with_reducible exact H | (rw [hy106]; exact H) | exact H
      have Ny106 := Aside0.mk hy106
      clear hy106
      replace H := Option.bind_eq_some_iff.mp H
      obtain ⟨t109, A60, H⟩ := H
      replace H : (some (t102, t109)) = some (r1, r2) := H
      have A6 := Aside0.mk A60
      clear A60
      simp only [Option.some.injEq, Prod.mk.injEq] at H
      obtain ⟨rfl, rfl⟩ := H
      have p101 : 0 ≤ (0 : Int) := (by omega)
      have q101 : 0 < (l1.length : Int) := of_decide_eq_true (by first | (with_reducible assumption) | assumption)
      obtain ⟨ad101, e101, hx101_0⟩ := Kd.at_int HR1.out 0 p101 q101
      cases e101
      have qi101 : (0 < l1.length) = True := eq_true (by omega)
      (try rw [show ((0 : Int)).toNat = 0 from rfl] at hx101_0)
      (try rw [Addr.add_zero'] at hx101_0)
      replace p101 := eq_true p101
      replace q101 := eq_true q101
      go_enter Try.func98, Try.ntmps98
      go_wp2_with (first | ((with_reducible refine gate_callee (f := 84) rfl ?_); refine goesL_ (some 22) rfl rfl Try.func84 (by kernel_rfl) rfl #[.slice A0 l0.length c0, .int .u64 (IntKind.u64.wrap (rd l1 0))] rfl (by (try simp only [List.map_toArray, List.map_cons, List.map_nil]); first | done | rfl | (simp only [List.length_drop, List.length_take]; rfl)) ?_; (with_reducible refine (whole_small.calls _ _ l0 (IntKind.u64.wrap (rd l1 0)) t102 t105 _ ?side1 ?side2 A5.out).mono ?_); (case side1 => repeat (first | exact HR0.out | (with_reducible refine Kd.C_alloc ?_ _) | (with_reducible refine Kd.C_drewN ?_ _) | (with_reducible refine Kd.C_drew ?_))); (case side2 => exact HC0.out); rintro e w7 ⟨v103, rfl, ho0, hb⟩; refine ⟨_, rfl, ?_⟩; have n0_ := Aside0.mk (Kd.V_lower (Kd.V_mono (ok' := fun k_ => (w.heap.size ≤ k_)) ho0 (fun k_ hk_ => (Nat.le_trans (below_size (by repeat (first | (with_reducible first | exact HB.out | apply below_alloc | apply pw_below_drewN | apply below_drew1) | exact HB.out))) hk_))) (below_size (by repeat (first | (with_reducible first | exact HB.out | apply below_alloc | apply pw_below_drewN | apply below_drew1) | exact HB.out)))); have n1_ := Aside0.mk (below_step (by repeat (first | (with_reducible first | exact HB.out | apply below_alloc | apply pw_below_drewN | apply below_drew1) | exact HB.out)) hb); clear HB; have HO104 := n0_; have HB := n1_; clear n0_ n1_; (try clear hb); (try clear hb2); (try clear hk); (try clear hi); (try clear ho0)) | ((with_reducible refine gate_dst (N := 28) rfl ?_); refine Kd.R_lit (Kd.int .u32) _ 149 ?hg (N := 28) ?hd (xs := ([(t105) % 4294967296] : List Int)) (inner := [.int .u32 ((t105) % 4294967296)]) (ok := fun _ => True) (okp := fun _ => True) ?hr ?hp (fun _ hk => hk) trivial (Below.refl _ _) (Nat.le_refl _) (by simp) ?_; (case hd => rfl); (case hg => rfl); (case hr => first | (go_simp; done) | (go_simp; rfl)); (case hp => exact (Reps.one (show Kd.M (Kd.int .u32) _ _ _ ((t105) % 4294967296) [.int .u32 ((t105) % 4294967296)] from rfl) (Reps.none _ _))); intro v107 w8 ho9 hb hg_ hnew_; clear hg_ hnew_; (first | rw [← Ny106.out] at ho9 | (simp only [Int.reduceToNat] at ho9; rw [← Ny106.out] at ho9)); have n0_ := Aside0.mk (Kd.V_elder' (by (with_reducible repeat (first | apply Kd.V_alloc | apply Kd.V_drewN | apply Kd.V_drew)); exact HO104.out) (Kd.R_base ho9) hb); have n1_ := Aside0.mk (Kd.R_lower (Kd.R_newM (M := fun k_ => (w.heap.size ≤ k_)) ho9 (below_size (by repeat (first | (with_reducible first | exact HB.out | apply below_alloc | apply pw_below_drewN | apply below_drew1) | exact HB.out))) (fun k_ h_ => h_)) (below_size (by repeat (first | (with_reducible first | exact HB.out | apply below_alloc | apply pw_below_drewN | apply below_drew1) | exact HB.out)))); have n2_ := Aside0.mk (below_step (by repeat (first | (with_reducible first | exact HB.out | apply below_alloc | apply pw_below_drewN | apply below_drew1) | exact HB.out)) hb); clear HO104; clear HB; have HO104 := n0_; have HO108 := n1_; have HB := n2_; clear n0_ n1_ n2_; clear hb ho9; obtain ⟨Ao10, co10, eo10⟩ := Kd.R_slice HO108.out; subst eo10) | ((with_reducible refine gate_callee (f := 76) rfl ?_); refine goesL_ (some 29) rfl rfl Try.func76 (by kernel_rfl) rfl #[.slice Ao10 y106.length co10] rfl (by (try simp only [List.map_toArray, List.map_cons, List.map_nil]); first | done | rfl | (simp only [List.length_drop, List.length_take]; rfl)) ?_; (with_reducible refine (whole_trim.calls (fun k_ => some k_ = (.slice Ao10 y106.length co10 : Value).ownBlock) _ _ y106 t109 _ ?side1 A6.out).mono ?_); (case side1 => exact Kd.R_V (Kd.R_tight rfl (HO108.out))); rintro e w11 ⟨v110, rfl, ho0, hb⟩; refine ⟨_, rfl, ?_⟩; have n0_ := Aside0.mk (Kd.V_below (by (with_reducible repeat (first | apply Kd.V_alloc | apply Kd.V_drewN | apply Kd.V_drew)); exact HO104.out) hb); have n1_ := Aside0.mk (Kd.R_below (by (with_reducible repeat (first | apply Kd.R_alloc | apply Kd.R_drewN | apply Kd.R_drew)); exact HO108.out) hb); have n2_ := Aside0.mk (Kd.V_lower (Kd.V_mono (ok' := fun k_ => (w.heap.size ≤ k_)) ho0 (fun k_ hk_ => Or.elim hk_ (fun hs_ => ((HO108.out).1 k_ hs_.symm).1) (fun hn_ => (Nat.le_trans (below_size (by repeat (first | (with_reducible first | exact HB.out | apply below_alloc | apply pw_below_drewN | apply below_drew1) | exact HB.out))) hn_)))) (below_size (by repeat (first | (with_reducible first | exact HB.out | apply below_alloc | apply pw_below_drewN | apply below_drew1) | exact HB.out)))); have n3_ := Aside0.mk (below_step (by repeat (first | (with_reducible first | exact HB.out | apply below_alloc | apply pw_below_drewN | apply below_drew1) | exact HB.out)) hb); clear HO104; clear HO108; clear HB; have HO104 := n0_; have HO108 := n1_; have HO111 := n2_; have HB := n3_; clear n0_ n1_ n2_ n3_; (try clear hb); (try clear hb2); (try clear hk); (try clear hi); (try clear ho0)))
      go_ret2
      exact ⟨_, _, by first | rfl | (simp [errW_none, errW_some] <;> rfl) | (simp [*, errW_none, errW_some] <;> rfl), by (with_reducible repeat (first | apply Kd.V_alloc | apply Kd.V_drewN | apply Kd.V_drew)); exact Kd.V_mono HO104.out (fun _ hk => hk.1), by (with_reducible repeat (first | apply Kd.V_alloc | apply Kd.V_drewN | apply Kd.V_drew)); exact HO111.out, by repeat (first | (with_reducible first | exact HB.out | apply below_alloc | apply pw_below_drewN | apply below_drew1) | exact HB.out)⟩
    · rw [if_neg c4] at H
      exact absurd H (by simp)
  · rw [if_neg c3] at H
    have c3b0 : ((l1.length : Int) == 1) = false := beq_eq_false_iff_ne.mpr c3
    have c3b1 : ((l1.length : Int) != 1) = true := bne_iff_ne.mpr c3
    by_cases c12 : 0 ≤ (l0.length : Int)
    · rw [if_pos c12] at H
      have c12b0 := eq_true c12
      have c12b1 : decide (0 ≤ (l0.length : Int)) = true := decide_eq_true c12
      clear c12
      by_cases c13 : ((l0.length : Int) : Int).toNat ≤ 70368744177664
      · rw [if_pos c13] at H
        have c13b0 := eq_true c13
        have c13b1 : decide (((l0.length : Int) : Int).toNat ≤ 70368744177664) = true := decide_eq_true c13
        clear c13
        obtain ⟨y112, hy112⟩ : ∃ y_ : List Int, y_ = (List.replicate ((l0.length : Int) : Int).toNat 0) := ⟨_, rfl⟩
        replace H : (whole_div.l0 k l0 l1 y112 ([] : List Int) (l0.length : Int) 0) = some (r1, r2) := by first | (rw [hy112]; with_reducible exact H) | (have H2_ := (Option.bind_some _ _).symm.trans H; rw [hy112]; with_reducible exact H2_) | (have H2_ := (Option.bind_some _ _).symm.trans H; with_reducible exact H2_) | with_reducible exact H | (rw [hy112]; exact H) | exact H
        have Ny112 := Aside0.mk hy112
        clear hy112
        have H' := Aside0.mk H
        clear H
        go_enter Try.func98, Try.ntmps98
        go_wp2_with (first | ((with_reducible refine gate_dst (N := 32) rfl ?_); refine Kd.R_make (Kd.int .u32) _ 149 rfl (N := 32) rfl 74 _ _ rfl (l0.length : Int) rfl rfl Try.underlying74 (.int .u32 0) 4 info149 rfl (by decide) (by omega) 0 (ok := fun _ => True) (okp := fun _ => True) rfl (fun _ hk => hk) trivial (of_decide_eq_true (by first | (with_reducible assumption) | assumption)) (Nat.le_trans (Nat.mul_le_mul_right _ (of_decide_eq_true (by first | (with_reducible assumption) | assumption) : (l0.length : Int).toNat ≤ 70368744177664)) (by omega)) (Below.refl _ _) (Nat.le_refl _) ?_; intro v113 w14 ho15 hb hg_ hnew_; clear hg_ hnew_; (first | rw [← Ny112.out] at ho15 | (simp only [Int.reduceToNat] at ho15; rw [← Ny112.out] at ho15)); have n0_ := Aside0.mk (Kd.R_lower (Kd.R_newM (M := fun k_ => (w.heap.size ≤ k_)) ho15 (below_size (by repeat (first | (with_reducible first | exact HB.out | apply below_alloc | apply pw_below_drewN | apply below_drew1) | exact HB.out))) (fun k_ h_ => h_)) (below_size (by repeat (first | (with_reducible first | exact HB.out | apply below_alloc | apply pw_below_drewN | apply below_drew1) | exact HB.out)))); have n1_ := Aside0.mk (below_step (by repeat (first | (with_reducible first | exact HB.out | apply below_alloc | apply pw_below_drewN | apply below_drew1) | exact HB.out)) hb); clear HB; have HO114 := n0_; have HB := n1_; clear n0_ n1_; clear hb ho15))
        go_loopg [5, 35] k (fun kq v5 v35 w' => ∃ (x4_1 : List Int) (x5_1 : List Int) (x35_1 : Int), v35 = .int .i64 x35_1 ∧ Aside0 (whole_div.l0 kq l0 l1 x4_1 x5_1 (l0.length : Int) x35_1 = some (r1, r2)) ∧ Aside0 (kq ≤ k) ∧ Aside0 (Kd.R (Kd.int .u32) 149 w' w.heap.size (fun k_ => (w.heap.size ≤ k_)) v113 x4_1) ∧ Aside0 (Kd.V (Kd.int .u32) 149 w' w.heap.size (fun k_ => (w.heap.size ≤ k_) ∧ some k_ ≠ (v113 : Value).ownBlock) v5 x5_1) ∧ Aside0 (Below w.heap.size w w'))
        case atStart => exact ⟨(y112), (([] : List Int)), (0), (by first | rfl | (simp; done) | (simp [*]; done)), H', ⟨Nat.le_refl _⟩, ⟨by (with_reducible repeat (first | apply Kd.R_alloc | apply Kd.R_drewN | apply Kd.R_drew)); exact Kd.R_mono HO114.out (fun _ hk => hk.1)⟩, ⟨Kd.V_nil _ _ _ _ _⟩, ⟨by repeat (first | (with_reducible first | exact HB.out | apply below_alloc | apply pw_below_drewN | apply below_drew1) | exact HB.out)⟩⟩
        case round =>
          clear H'
          try clear c1
          try clear p1
          try clear q1
          try clear hx1
          try clear qi1
          try clear p2
          try clear c3
          try clear c3b0
          try clear c3b1
          try clear c4
          try clear c4b0
          try clear c4b1
          try clear c7
          try clear c8
          try clear c9
          try clear p10
          try clear q10
          try clear hx10
          try clear qi10
          try clear c12
          try clear c12b0
          try clear c12b1
          try clear c13
          try clear c13b0
          try clear c13b1
          try clear hx101_0
          try clear p101
          try clear q101
          obtain ⟨x4_1, x5_1, x35_1, rfl, HA, HK1, HO_4, HO_5, HB⟩ := hrel
          cases gk with
          | zero => exact absurd HA.out (by simp [whole_div.l0])
          | succ k1 =>
            have H := HA.out
            clear HA
            simp only [whole_div.l0] at H
            by_cases c16 : x35_1 < (l0.length : Int)
            · rw [if_pos c16] at H
              have c16b0 : decide (x35_1 < (l0.length : Int)) = true := decide_eq_true c16
              clear c16
              obtain ⟨ji17, hji17⟩ : ∃ j_ : Int, (wrap64 ((wrap64 ((l0.length : Int) - 1)) - x35_1)) = j_ := ⟨_, rfl⟩
              replace H : (if 0 ≤ (ji17) then (if (ji17) < (l0.length : Int) then ((some (([rd l0 (ji17)] : List Int) : List Int)).bind fun y119 => (if y119.length + x5_1.length < 35184372088832 then ((whole_trim.f (y119 ++ x5_1)).bind fun t125 => (if (t125.length : Int) < (l1.length : Int) then (whole_div.j1 k1 l0 l1 x4_1 t125 ji17 0 1 (l0.length : Int) x35_1) else (whole_div.j1 k1 l0 l1 x4_1 t125 ji17 0 4294967296 (l0.length : Int) x35_1))) else (none))) else (none)) else (none)) = some (r1, r2) := by first | (rw [hji17] at H; exact H) | (simp only [hji17] at H ⊢; exact H)
              have hji17w : (IntKind.i64.wrap ((wrap64 ((l0.length : Int) - 1)) - x35_1)) = ji17 := (i64_w _).trans hji17
              by_cases c18 : 0 ≤ (ji17)
              · rw [if_pos c18] at H
                have c18b0 : decide (0 ≤ (ji17)) = true := decide_eq_true c18
                clear c18
                by_cases c19 : (ji17) < (l0.length : Int)
                · rw [if_pos c19] at H
                  have c19b0 : decide ((ji17) < (l0.length : Int)) = true := decide_eq_true c19
                  clear c19
                  obtain ⟨y119, hy119⟩ : ∃ y_ : List Int, y_ = (([rd l0 (ji17)] : List Int)) := ⟨_, rfl⟩
                  replace H : (if y119.length + x5_1.length < 35184372088832 then ((whole_trim.f (y119 ++ x5_1)).bind fun t125 => (if (t125.length : Int) < (l1.length : Int) then (whole_div.j1 k1 l0 l1 x4_1 t125 ji17 0 1 (l0.length : Int) x35_1) else (whole_div.j1 k1 l0 l1 x4_1 t125 ji17 0 4294967296 (l0.length : Int) x35_1))) else (none)) = some (r1, r2) := by first | (rw [hy119]; with_reducible exact H) | (have H2_ := (Option.bind_some _ _).symm.trans H; rw [hy119]; with_reducible exact H2_) | (have H2_ := (Option.bind_some _ _).symm.trans H; with_reducible exact H2_) | with_reducible exact H | (rw [hy119]; exact H) | exact H
                  have Ny119 := Aside0.mk hy119
                  clear hy119
                  by_cases c20 : y119.length + x5_1.length < 35184372088832
                  · rw [if_pos c20] at H
                    have LMc20 := Aside0.mk c20
                    clear c20
                    obtain ⟨y122, hy122⟩ : ∃ y_ : List Int, y_ = (y119 ++ x5_1) := ⟨_, rfl⟩
                    replace H : ((whole_trim.f y122).bind fun t125 => (if (t125.length : Int) < (l1.length : Int) then (whole_div.j1 k1 l0 l1 x4_1 t125 ji17 0 1 (l0.length : Int) x35_1) else (whole_div.j1 k1 l0 l1 x4_1 t125 ji17 0 4294967296 (l0.length : Int) x35_1))) = some (r1, r2) := by first | (rw [hy122]; with_reducible exact H) | (have H2_ := (Option.bind_some _ _).symm.trans H; rw [hy122]; with_reducible exact H2_) | (have H2_ := (Option.bind_some _ _).symm.trans H; with_reducible exact H2_) | with_reducible exact H | (rw [hy122]; exact H) | exact H
                    have Ny122 := Aside0.mk hy122
                    clear hy122
                    replace H := Option.bind_eq_some_iff.mp H
                    obtain ⟨t125, A210, H⟩ := H
                    replace H : (if (t125.length : Int) < (l1.length : Int) then (whole_div.j1 k1 l0 l1 x4_1 t125 ji17 0 1 (l0.length : Int) x35_1) else (whole_div.j1 k1 l0 l1 x4_1 t125 ji17 0 4294967296 (l0.length : Int) x35_1)) = some (r1, r2) := H
                    have A21 := Aside0.mk A210
                    clear A210
                    have HC22 := Aside0.mk H
                    clear H
                    have p118 : 0 ≤ ((ji17) : Int) := of_decide_eq_true (by first | (with_reducible assumption) | assumption)
                    have q118 : (ji17) < (l0.length : Int) := of_decide_eq_true (by first | (with_reducible assumption) | assumption)
                    obtain ⟨ad118, e118, hx118_0⟩ := Kd.at_int HR0.out (ji17) p118 q118
                    cases e118
                    replace hx118_0 := (HB.out.cell (World.block_lt_of_cell? w _ hx118_0)).trans hx118_0
                    replace p118 := eq_true p118
                    replace q118 := eq_true q118
                    go_upto_if 55 with (first | ((with_reducible refine gate_dst (N := 47) rfl ?_); refine Kd.R_lit (Kd.int .u32) _ 149 ?hg (N := 47) ?hd (xs := ([rd l0 (ji17)] : List Int)) (inner := [.int .u32 (rd l0 (ji17))]) (ok := fun _ => True) (okp := fun _ => True) ?hr ?hp (fun _ hk => hk) trivial (Below.refl _ _) (Nat.le_refl _) (by simp) ?_; (case hd => rfl); (case hg => rfl); (case hr => first | (go_simp; done) | (go_simp; rfl)); (case hp => exact (Reps.one (show Kd.M (Kd.int .u32) _ _ _ (rd l0 (ji17)) [.int .u32 (rd l0 (ji17))] from rfl) (Reps.none _ _))); intro v120 w23 ho24 hb hg_ hnew_; clear hg_ hnew_; (first | rw [← Ny119.out] at ho24 | (simp only [Int.reduceToNat] at ho24; rw [← Ny119.out] at ho24)); have n0_ := Aside0.mk (Kd.R_elder' (by (with_reducible repeat (first | apply Kd.R_alloc | apply Kd.R_drewN | apply Kd.R_drew)); exact HO_4.out) (Kd.R_base ho24) hb); have n1_ := Aside0.mk (Kd.V_elder' (by (with_reducible repeat (first | apply Kd.V_alloc | apply Kd.V_drewN | apply Kd.V_drew)); exact HO_5.out) (Kd.R_base ho24) hb); have n2_ := Aside0.mk (Kd.R_lower (Kd.R_new' (Kd.R_newM (M := fun k_ => (w.heap.size ≤ k_)) ho24 (below_size (by repeat (first | (with_reducible first | exact HB.out | apply below_alloc | apply pw_below_drewN | apply below_drew1) | exact HB.out))) (fun k_ h_ => h_)) (Kd.R_lt (by (with_reducible repeat (first | apply Kd.R_alloc | apply Kd.R_drewN | apply Kd.R_drew)); exact HO_4.out))) (below_size (by repeat (first | (with_reducible first | exact HB.out | apply below_alloc | apply pw_below_drewN | apply below_drew1) | exact HB.out)))); have n3_ := Aside0.mk (below_step (by repeat (first | (with_reducible first | exact HB.out | apply below_alloc | apply pw_below_drewN | apply below_drew1) | exact HB.out)) hb); clear HO_4; clear HO_5; clear HB; have HO_4 := n0_; have HO_5 := n1_; have HO121 := n2_; have HB := n3_; clear n0_ n1_ n2_ n3_; clear hb ho24; obtain ⟨Ao26, co26, eo26⟩ := Kd.V_slice HO_5.out; subst eo26) | ((with_reducible refine gate_builtin (b := .append) (xs := #[.tmp 47, .tmp 48]) rfl ?_); at_builtin; refine Kd.R_append_rows (Kd.int .u32) (w0 := w) w.heap.size rfl (.tmp 47) (.tmp 48) 74 149 (.int .u32 0) 4 rfl Try.underlying74 info149 rfl (by decide) (by omega) v120 y119 x5_1 _ _ _ (fun k_ => (w.heap.size ≤ k_) ∧ some k_ ≠ (v113 : Value).ownBlock) (fun _ => False) rfl rfl ?aO ?aR (fun _ _ h => h) (fun _ h => h.elim) ?aF ?aB ?aS ?aL ?_; (case aR => repeat (first | exact (Kd.V_reads' HO_5.out).2.2 | (with_reducible refine Kd.C_alloc ?_ _) | (with_reducible refine Kd.C_drewN ?_ _) | (with_reducible refine Kd.C_drew ?_))); (case aB => exact (by repeat (first | (with_reducible first | exact HB.out | apply below_alloc | apply pw_below_drewN | apply below_drew1) | exact HB.out))); (case aF => exact (fun k_ hk => ⟨(Nat.le_trans (below_size (by repeat (first | (with_reducible first | exact HB.out | apply below_alloc | apply pw_below_drewN | apply below_drew1) | exact HB.out))) hk), Kd.fresh' (Kd.R_lt (by (with_reducible repeat (first | apply Kd.R_alloc | apply Kd.R_drewN | apply Kd.R_drew)); exact HO_4.out)) k_ hk⟩)); (case aO => exact (by (with_reducible repeat (first | apply Kd.R_alloc | apply Kd.R_drewN | apply Kd.R_drew)); exact Kd.R_mono HO121.out (fun _ hk => ⟨hk.1.1, hk.2⟩))); (case aS => exact (below_size (by repeat (first | (with_reducible first | exact HB.out | apply below_alloc | apply pw_below_drewN | apply below_drew1) | exact HB.out)))); (case aL => have := LMc20.out; omega); intro v123 w25 ho hb hg hat; rw [← Ny122.out] at ho; have n0_ := Aside0.mk (Kd.R_after (ok := (fun k_ => (w.heap.size ≤ k_))) (by (with_reducible repeat (first | apply Kd.R_alloc | apply Kd.R_drewN | apply Kd.R_drew)); exact HO_4.out) hg hat); have n1_ := Aside0.mk (Kd.V_afterv (ok := (fun k_ => (w.heap.size ≤ k_) ∧ some k_ ≠ (v113 : Value).ownBlock)) (by (with_reducible repeat (first | apply Kd.V_alloc | apply Kd.V_drewN | apply Kd.V_drew)); exact HO_5.out) hg hat); have n2_ := Aside0.mk (hb); have n3_ := Aside0.mk (ho); clear HO_4; clear HO_5; clear HB; clear HO121; have HO_4 := n0_; have HO_5 := n1_; have HB := n2_; have HO124 := n3_; clear n0_ n1_ n2_ n3_; clear ho hb hg hat; obtain ⟨Ao27, co27, eo27⟩ := Kd.R_slice HO124.out; subst eo27) | ((with_reducible refine gate_callee (f := 76) rfl ?_); refine goesL_ (some 50) rfl rfl Try.func76 (by kernel_rfl) rfl #[.slice Ao27 y122.length co27] rfl (by (try simp only [List.map_toArray, List.map_cons, List.map_nil]); first | done | rfl | (simp only [List.length_drop, List.length_take]; rfl)) ?_; (with_reducible refine (whole_trim.calls (fun k_ => some k_ = (.slice Ao27 y122.length co27 : Value).ownBlock) _ _ y122 t125 _ ?side1 A21.out).mono ?_); (case side1 => exact Kd.R_V (Kd.R_tight rfl (HO124.out))); rintro e w28 ⟨v126, rfl, ho0, hb⟩; refine ⟨_, rfl, ?_⟩; have n0_ := Aside0.mk (Kd.R_below (by (with_reducible repeat (first | apply Kd.R_alloc | apply Kd.R_drewN | apply Kd.R_drew)); exact HO_4.out) hb); have n1_ := Aside0.mk (Kd.V_below (by (with_reducible repeat (first | apply Kd.V_alloc | apply Kd.V_drewN | apply Kd.V_drew)); exact HO_5.out) hb); have n2_ := Aside0.mk (Kd.R_below (by (with_reducible repeat (first | apply Kd.R_alloc | apply Kd.R_drewN | apply Kd.R_drew)); exact HO124.out) hb); have n3_ := Aside0.mk (Kd.V_lower (Kd.V_mono (ok' := fun k_ => (w.heap.size ≤ k_) ∧ some k_ ≠ (v113 : Value).ownBlock) ho0 (fun k_ hk_ => ⟨Or.elim hk_ (fun hs_ => ((HO124.out).1 k_ hs_.symm).1) (fun hn_ => (Nat.le_trans (below_size (by repeat (first | (with_reducible first | exact HB.out | apply below_alloc | apply pw_below_drewN | apply below_drew1) | exact HB.out))) hn_)), Or.elim hk_ (fun hs_ => ((HO124.out).1 k_ hs_.symm).2) (fun hn_ => (Kd.fresh' (Kd.R_lt (by (with_reducible repeat (first | apply Kd.R_alloc | apply Kd.R_drewN | apply Kd.R_drew)); exact HO_4.out)) k_ hn_))⟩)) (below_size (by repeat (first | (with_reducible first | exact HB.out | apply below_alloc | apply pw_below_drewN | apply below_drew1) | exact HB.out)))); have n4_ := Aside0.mk (below_step (by repeat (first | (with_reducible first | exact HB.out | apply below_alloc | apply pw_below_drewN | apply below_drew1) | exact HB.out)) hb); clear HO_4; clear HO_5; clear HO124; clear HB; have HO_4 := n0_; have HO_5 := n1_; have HO124 := n2_; have HO127 := n3_; have HB := n4_; clear n0_ n1_ n2_ n3_ n4_; (try clear hb); (try clear hb2); (try clear hk); (try clear hi); (try clear ho0); obtain ⟨Ao29, co29, eo29⟩ := Kd.V_slice HO127.out; subst eo29))
                    (try simp only [Act.put, List.setIfInBounds_toArray, List.set_cons_zero, List.set_cons_succ])
                    go_cut [11] (fun v11 wc => ∃ (kq : Nat) (x11_21 : Int), v11 = .int .u64 x11_21 ∧ Aside0 (whole_div.j1 kq l0 l1 x4_1 t125 ji17 0 x11_21 (l0.length : Int) x35_1 = some (r1, r2)) ∧ Aside0 (kq ≤ k1) ∧ Aside0 (Kd.R (Kd.int .u32) 149 wc w.heap.size (fun k_ => (w.heap.size ≤ k_)) v113 x4_1) ∧ Aside0 (Kd.V (Kd.int .u32) 149 wc w.heap.size (fun k_ => (w.heap.size ≤ k_) ∧ some k_ ≠ (v113 : Value).ownBlock) (.slice Ao29 t125.length co29) t125) ∧ Aside0 (Below w.heap.size w wc))
                    case first =>
                      have H := HC22.out
                      clear HC22
                      by_cases c30 : (t125.length : Int) < (l1.length : Int)
                      · rw [if_pos c30] at H
                        have c30b0 : decide ((t125.length : Int) < (l1.length : Int)) = true := decide_eq_true c30
                        have c30b1 : decide (t125.length < l1.length) = true := decide_eq_true (Int.ofNat_lt.mp c30)
                        clear c30
                        (first | rw [c30b0] | (simp only [i64_w, i32_w]; rw [c30b0]) | skip)
                        have H' := Aside0.mk H
                        clear H
                        go_wp2
                        any_goals (rename_i h_; first | exact absurd (of_decide_eq_true c30b1) h_ | exact absurd h_ (of_decide_eq_false c30b1) | fail)
                        go_meet
                        case rel => exact ⟨_, (1), (by first | rfl | (simp; done) | (simp [*]; done)), H', ⟨by have := HK1.out; first | omega | exact Nat.le_refl _⟩, ⟨by (with_reducible repeat (first | apply Kd.R_alloc | apply Kd.R_drewN | apply Kd.R_drew)); exact Kd.R_mono HO_4.out (fun _ hk => hk.1)⟩, ⟨by (with_reducible repeat (first | apply Kd.V_alloc | apply Kd.V_drewN | apply Kd.V_drew)); exact HO127.out⟩, ⟨by repeat (first | (with_reducible first | exact HB.out | apply below_alloc | apply pw_below_drewN | apply below_drew1) | exact HB.out)⟩⟩
                      · rw [if_neg c30] at H
                        have c30b0 : decide ((t125.length : Int) < (l1.length : Int)) = false := decide_eq_false c30
                        have c30b1 : decide (t125.length < l1.length) = false := decide_eq_false (fun h => c30 (Int.ofNat_lt.mpr h))
                        clear c30
                        (first | rw [c30b0] | (simp only [i64_w, i32_w]; rw [c30b0]) | skip)
                        have H' := Aside0.mk H
                        clear H
                        go_wp2
                        any_goals (rename_i h_; first | exact absurd (of_decide_eq_true c30b1) h_ | exact absurd h_ (of_decide_eq_false c30b1) | fail)
                        go_meet
                        case rel => exact ⟨_, (4294967296), (by first | rfl | (simp; done) | (simp [*]; done)), H', ⟨by have := HK1.out; first | omega | exact Nat.le_refl _⟩, ⟨by (with_reducible repeat (first | apply Kd.R_alloc | apply Kd.R_drewN | apply Kd.R_drew)); exact Kd.R_mono HO_4.out (fun _ hk => hk.1)⟩, ⟨by (with_reducible repeat (first | apply Kd.V_alloc | apply Kd.V_drewN | apply Kd.V_drew)); exact HO127.out⟩, ⟨by repeat (first | (with_reducible first | exact HB.out | apply below_alloc | apply pw_below_drewN | apply below_drew1) | exact HB.out)⟩⟩
                    case rest =>
                      clear HC22
                      try clear c1
                      try clear p1
                      try clear q1
                      try clear hx1
                      try clear qi1
                      try clear c2
                      try clear p2
                      try clear c3
                      try clear c3b0
                      try clear c3b1
                      try clear c4
                      try clear c4b0
                      try clear c4b1
                      try clear p6
                      try clear c7
                      try clear c8
                      try clear c9
                      try clear p10
                      try clear q10
                      try clear hx10
                      try clear qi10
                      try clear p11
                      try clear q11
                      try clear hx11
                      try clear c12
                      try clear c12b0
                      try clear c12b1
                      try clear c13
                      try clear c13b0
                      try clear c13b1
                      try clear c16
                      try clear c16b0
                      try clear c18
                      try clear c18b0
                      try clear c19
                      try clear c19b0
                      try clear c20
                      try clear c30
                      try clear c30b0
                      try clear c30b1
                      try clear hx101_0
                      try clear hx118_0
                      try clear p1
                      try clear p10
                      try clear p101
                      try clear p118
                      try clear p2
                      try clear q1
                      try clear q10
                      try clear q101
                      try clear q118
                      obtain ⟨kq, x11_21, rfl, HA, HJ21, HO_4, HO_5, HB⟩ := hcut
                      cases kq with
                      | zero => exact absurd HA.out (by simp [whole_div.j1])
                      | succ kj21 =>
                        have H := HA.out
                        clear HA
                        simp only [whole_div.j1] at H
                        have H' := Aside0.mk H
                        clear H
                        go_wp2
                        go_loopg [10, 11] kj21 (fun kq v10 v11 w' => ∃ (x10_3 : Int) (x11_3 : Int), v10 = .int .u64 x10_3 ∧ v11 = .int .u64 x11_3 ∧ Aside0 (whole_div.l1 kq l0 l1 x4_1 t125 ji17 x10_3 x11_3 (l0.length : Int) x35_1 = some (r1, r2)) ∧ Aside0 (kq ≤ kj21) ∧ Aside0 (Kd.R (Kd.int .u32) 149 w' w.heap.size (fun k_ => (w.heap.size ≤ k_)) v113 x4_1) ∧ Aside0 (Kd.V (Kd.int .u32) 149 w' w.heap.size (fun k_ => (w.heap.size ≤ k_) ∧ some k_ ≠ (v113 : Value).ownBlock) (.slice Ao29 t125.length co29) t125) ∧ Aside0 (Below w.heap.size w w'))
                        case atStart => exact ⟨(0), (x11_21), (by first | rfl | (simp; done) | (simp [*]; done)), (by first | rfl | (simp; done) | (simp [*]; done)), H', ⟨Nat.le_refl _⟩, ⟨by (with_reducible repeat (first | apply Kd.R_alloc | apply Kd.R_drewN | apply Kd.R_drew)); exact HO_4.out⟩, ⟨by (with_reducible repeat (first | apply Kd.V_alloc | apply Kd.V_drewN | apply Kd.V_drew)); exact HO_5.out⟩, ⟨by repeat (first | (with_reducible first | exact HB.out | apply below_alloc | apply pw_below_drewN | apply below_drew1) | exact HB.out)⟩⟩
                        case round =>
                          clear H'
                          try clear c1
                          try clear p1
                          try clear q1
                          try clear hx1
                          try clear qi1
                          try clear c2
                          try clear p2
                          try clear c3
                          try clear c3b0
                          try clear c3b1
                          try clear c4
                          try clear c4b0
                          try clear c4b1
                          try clear p6
                          try clear c7
                          try clear c8
                          try clear c9
                          try clear p10
                          try clear q10
                          try clear hx10
                          try clear qi10
                          try clear p11
                          try clear q11
                          try clear hx11
                          try clear c12
                          try clear c12b0
                          try clear c12b1
                          try clear c13
                          try clear c13b0
                          try clear c13b1
                          try clear c16
                          try clear c16b0
                          try clear c18
                          try clear c18b0
                          try clear c19
                          try clear c19b0
                          try clear c20
                          try clear c30
                          try clear c30b0
                          try clear c30b1
                          try clear hx101_0
                          try clear hx118_0
                          try clear p1
                          try clear p10
                          try clear p101
                          try clear p11
                          try clear p118
                          try clear p2
                          try clear p6
                          try clear q1
                          try clear q10
                          try clear q101
                          try clear q11
                          try clear q118
                          obtain ⟨x10_3, x11_3, rfl, rfl, HA, HK3, HO_4, HO_5, HB⟩ := hrel
                          cases gk with
                          | zero => exact absurd HA.out (by simp [whole_div.l1])
                          | succ k3 =>
                            have H := HA.out
                            clear HA
                            simp only [whole_div.l1] at H
                            by_cases c31 : (IntKind.u64.wrap (x11_3 - x10_3)) > 1
                            · rw [if_pos c31] at H
                              have c31b0 : decide (1 < (IntKind.u64.wrap (x11_3 - x10_3))) = true := decide_eq_true c31
                              clear c31
                              obtain ⟨y128, hy128⟩ : ∃ y_ : List Int, y_ = (([(IntKind.u64.wrap (Int.tdiv (IntKind.u64.wrap (x10_3 + x11_3)) 2)) % 4294967296] : List Int)) := ⟨_, rfl⟩
                              replace H : ((whole_mul.f l1 y128).bind fun t131 => ((whole_trim.f t131).bind fun t134 => ((whole_cmp.f t134 t125).bind fun t137 => (if t137 ≤ 0 then (whole_div.l1 k3 l0 l1 x4_1 t125 ji17 (IntKind.u64.wrap (Int.tdiv (IntKind.u64.wrap (x10_3 + x11_3)) 2)) x11_3 (l0.length : Int) x35_1) else (whole_div.l1 k3 l0 l1 x4_1 t125 ji17 x10_3 (IntKind.u64.wrap (Int.tdiv (IntKind.u64.wrap (x10_3 + x11_3)) 2)) (l0.length : Int) x35_1))))) = some (r1, r2) := by first | (rw [hy128]; with_reducible exact H) | (have H2_ := (Option.bind_some _ _).symm.trans H; rw [hy128]; with_reducible exact H2_) | (have H2_ := (Option.bind_some _ _).symm.trans H; with_reducible exact H2_) | with_reducible exact H | (rw [hy128]; exact H) | exact H
                              have Ny128 := Aside0.mk hy128
                              clear hy128
                              replace H := Option.bind_eq_some_iff.mp H
                              obtain ⟨t131, A320, H⟩ := H
                              replace H : ((whole_trim.f t131).bind fun t134 => ((whole_cmp.f t134 t125).bind fun t137 => (if t137 ≤ 0 then (whole_div.l1 k3 l0 l1 x4_1 t125 ji17 (IntKind.u64.wrap (Int.tdiv (IntKind.u64.wrap (x10_3 + x11_3)) 2)) x11_3 (l0.length : Int) x35_1) else (whole_div.l1 k3 l0 l1 x4_1 t125 ji17 x10_3 (IntKind.u64.wrap (Int.tdiv (IntKind.u64.wrap (x10_3 + x11_3)) 2)) (l0.length : Int) x35_1)))) = some (r1, r2) := H
                              have A32 := Aside0.mk A320
                              clear A320
                              replace H := Option.bind_eq_some_iff.mp H
                              obtain ⟨t134, A330, H⟩ := H
                              replace H : ((whole_cmp.f t134 t125).bind fun t137 => (if t137 ≤ 0 then (whole_div.l1 k3 l0 l1 x4_1 t125 ji17 (IntKind.u64.wrap (Int.tdiv (IntKind.u64.wrap (x10_3 + x11_3)) 2)) x11_3 (l0.length : Int) x35_1) else (whole_div.l1 k3 l0 l1 x4_1 t125 ji17 x10_3 (IntKind.u64.wrap (Int.tdiv (IntKind.u64.wrap (x10_3 + x11_3)) 2)) (l0.length : Int) x35_1))) = some (r1, r2) := H
                              have A33 := Aside0.mk A330
                              clear A330
                              replace H := Option.bind_eq_some_iff.mp H
                              obtain ⟨t137, A340, H⟩ := H
                              replace H : (if t137 ≤ 0 then (whole_div.l1 k3 l0 l1 x4_1 t125 ji17 (IntKind.u64.wrap (Int.tdiv (IntKind.u64.wrap (x10_3 + x11_3)) 2)) x11_3 (l0.length : Int) x35_1) else (whole_div.l1 k3 l0 l1 x4_1 t125 ji17 x10_3 (IntKind.u64.wrap (Int.tdiv (IntKind.u64.wrap (x10_3 + x11_3)) 2)) (l0.length : Int) x35_1)) = some (r1, r2) := H
                              have A34 := Aside0.mk A340
                              clear A340
                              by_cases c35 : t137 ≤ 0
                              · rw [if_pos c35] at H
                                have c35b0 : decide (t137 ≤ 0) = true := decide_eq_true c35
                                clear c35
                                have H' := Aside0.mk H
                                clear H
                                go_wp2_with (first | ((with_reducible refine gate_dst (N := 67) rfl ?_); refine Kd.R_lit (Kd.int .u32) _ 149 ?hg (N := 67) ?hd (xs := ([(IntKind.u64.wrap (Int.tdiv (IntKind.u64.wrap (x10_3 + x11_3)) 2)) % 4294967296] : List Int)) (inner := [.int .u32 ((IntKind.u64.wrap (Int.tdiv (IntKind.u64.wrap (x10_3 + x11_3)) 2)) % 4294967296)]) (ok := fun _ => True) (okp := fun _ => True) ?hr ?hp (fun _ hk => hk) trivial (Below.refl _ _) (Nat.le_refl _) (by simp) ?_; (case hd => rfl); (case hg => rfl); (case hr => first | (go_simp; done) | (go_simp; rfl)); (case hp => exact (Reps.one (show Kd.M (Kd.int .u32) _ _ _ ((IntKind.u64.wrap (Int.tdiv (IntKind.u64.wrap (x10_3 + x11_3)) 2)) % 4294967296) [.int .u32 ((IntKind.u64.wrap (Int.tdiv (IntKind.u64.wrap (x10_3 + x11_3)) 2)) % 4294967296)] from rfl) (Reps.none _ _))); intro v129 w36 ho37 hb hg_ hnew_; clear hg_ hnew_; (first | rw [← Ny128.out] at ho37 | (simp only [Int.reduceToNat] at ho37; rw [← Ny128.out] at ho37)); have n0_ := Aside0.mk (Kd.R_elder' (by (with_reducible repeat (first | apply Kd.R_alloc | apply Kd.R_drewN | apply Kd.R_drew)); exact HO_4.out) (Kd.R_base ho37) hb); have n1_ := Aside0.mk (Kd.V_elder' (by (with_reducible repeat (first | apply Kd.V_alloc | apply Kd.V_drewN | apply Kd.V_drew)); exact HO_5.out) (Kd.R_base ho37) hb); have n2_ := Aside0.mk (Kd.R_lower (Kd.R_new' (Kd.R_newM (M := fun k_ => (w.heap.size ≤ k_)) ho37 (below_size (by repeat (first | (with_reducible first | exact HB.out | apply below_alloc | apply pw_below_drewN | apply below_drew1) | exact HB.out))) (fun k_ h_ => h_)) (Kd.R_lt (by (with_reducible repeat (first | apply Kd.R_alloc | apply Kd.R_drewN | apply Kd.R_drew)); exact HO_4.out))) (below_size (by repeat (first | (with_reducible first | exact HB.out | apply below_alloc | apply pw_below_drewN | apply below_drew1) | exact HB.out)))); have n3_ := Aside0.mk (below_step (by repeat (first | (with_reducible first | exact HB.out | apply below_alloc | apply pw_below_drewN | apply below_drew1) | exact HB.out)) hb); clear HO_4; clear HO_5; clear HB; have HO_4 := n0_; have HO_5 := n1_; have HO130 := n2_; have HB := n3_; clear n0_ n1_ n2_ n3_; clear hb ho37; obtain ⟨Ao38, co38, eo38⟩ := Kd.R_slice HO130.out; subst eo38) | ((with_reducible refine gate_callee (f := 89) rfl ?_); refine goesL_ (some 68) rfl rfl Try.func89 (by kernel_rfl) rfl #[.slice A1 l1.length c1, .slice Ao38 y128.length co38] rfl (by (try simp only [List.map_toArray, List.map_cons, List.map_nil]); first | done | rfl | (simp only [List.length_drop, List.length_take]; rfl)) ?_; (with_reducible refine (whole_mul.calls _ _ l1 _ _ y128 t131 _ ?side1 ?side2 ?side3 ?side4 A32.out).mono ?_); (case side1 => repeat (first | exact (Kd.C_below HR1.out HB.out) | (with_reducible refine Kd.C_alloc ?_ _) | (with_reducible refine Kd.C_drewN ?_ _) | (with_reducible refine Kd.C_drew ?_))); (case side2 => exact HC1.out); (case side3 => repeat (first | exact (Kd.R_reads' HO130.out).2.2 | (with_reducible refine Kd.C_alloc ?_ _) | (with_reducible refine Kd.C_drewN ?_ _) | (with_reducible refine Kd.C_drew ?_))); (case side4 => exact (Kd.R_reads' HO130.out).2.1); rintro e w39 ⟨v132, rfl, ho0, hb⟩; refine ⟨_, rfl, ?_⟩; have n0_ := Aside0.mk (Kd.R_below (by (with_reducible repeat (first | apply Kd.R_alloc | apply Kd.R_drewN | apply Kd.R_drew)); exact HO_4.out) hb); have n1_ := Aside0.mk (Kd.V_below (by (with_reducible repeat (first | apply Kd.V_alloc | apply Kd.V_drewN | apply Kd.V_drew)); exact HO_5.out) hb); have n2_ := Aside0.mk (Kd.R_below (by (with_reducible repeat (first | apply Kd.R_alloc | apply Kd.R_drewN | apply Kd.R_drew)); exact HO130.out) hb); have n3_ := Aside0.mk (Kd.V_lower (Kd.V_mono (ok' := fun k_ => (w.heap.size ≤ k_) ∧ some k_ ≠ (v113 : Value).ownBlock ∧ some k_ ≠ (.slice Ao38 y128.length co38 : Value).ownBlock) ho0 (fun k_ hk_ => ⟨(Nat.le_trans (below_size (by repeat (first | (with_reducible first | exact HB.out | apply below_alloc | apply pw_below_drewN | apply below_drew1) | exact HB.out))) hk_), (Kd.fresh' (Kd.R_lt (by (with_reducible repeat (first | apply Kd.R_alloc | apply Kd.R_drewN | apply Kd.R_drew)); exact HO_4.out)) k_ hk_), (Kd.fresh' (Kd.R_lt (by (with_reducible repeat (first | apply Kd.R_alloc | apply Kd.R_drewN | apply Kd.R_drew)); exact HO130.out)) k_ hk_)⟩)) (below_size (by repeat (first | (with_reducible first | exact HB.out | apply below_alloc | apply pw_below_drewN | apply below_drew1) | exact HB.out)))); have n4_ := Aside0.mk (below_step (by repeat (first | (with_reducible first | exact HB.out | apply below_alloc | apply pw_below_drewN | apply below_drew1) | exact HB.out)) hb); clear HO_4; clear HO_5; clear HO130; clear HB; have HO_4 := n0_; have HO_5 := n1_; have HO130 := n2_; have HO133 := n3_; have HB := n4_; clear n0_ n1_ n2_ n3_ n4_; (try clear hb); (try clear hb2); (try clear hk); (try clear hi); (try clear ho0); obtain ⟨Ao40, co40, eo40⟩ := Kd.V_slice HO133.out; subst eo40) | ((with_reducible refine gate_callee (f := 76) rfl ?_); refine goesL_ (some 69) rfl rfl Try.func76 (by kernel_rfl) rfl #[.slice Ao40 t131.length co40] rfl (by (try simp only [List.map_toArray, List.map_cons, List.map_nil]); first | done | rfl | (simp only [List.length_drop, List.length_take]; rfl)) ?_; (with_reducible refine (whole_trim.calls (fun k_ => ((w.heap.size ≤ k_) ∧ (some k_ ≠ (v113 : Value).ownBlock ∧ some k_ ≠ (.slice Ao38 y128.length co38 : Value).ownBlock))) _ _ t131 t134 _ ?side1 A33.out).mono ?_); (case side1 => exact HO133.out); rintro e w41 ⟨v135, rfl, ho0, hb⟩; refine ⟨_, rfl, ?_⟩; have n0_ := Aside0.mk (Kd.R_below (by (with_reducible repeat (first | apply Kd.R_alloc | apply Kd.R_drewN | apply Kd.R_drew)); exact HO_4.out) hb); have n1_ := Aside0.mk (Kd.V_below (by (with_reducible repeat (first | apply Kd.V_alloc | apply Kd.V_drewN | apply Kd.V_drew)); exact HO_5.out) hb); have n2_ := Aside0.mk (Kd.R_below (by (with_reducible repeat (first | apply Kd.R_alloc | apply Kd.R_drewN | apply Kd.R_drew)); exact HO130.out) hb); have n3_ := Aside0.mk (Kd.V_below (by (with_reducible repeat (first | apply Kd.V_alloc | apply Kd.V_drewN | apply Kd.V_drew)); exact HO133.out) hb); have n4_ := Aside0.mk (Kd.V_lower (Kd.V_mono (ok' := fun k_ => (w.heap.size ≤ k_) ∧ some k_ ≠ (v113 : Value).ownBlock ∧ some k_ ≠ (.slice Ao38 y128.length co38 : Value).ownBlock) ho0 (fun k_ hk_ => ⟨Or.elim hk_ (fun hs_ => hs_.1) (fun hn_ => (Nat.le_trans (below_size (by repeat (first | (with_reducible first | exact HB.out | apply below_alloc | apply pw_below_drewN | apply below_drew1) | exact HB.out))) hn_)), Or.elim hk_ (fun hs_ => hs_.2.1) (fun hn_ => (Kd.fresh' (Kd.R_lt (by (with_reducible repeat (first | apply Kd.R_alloc | apply Kd.R_drewN | apply Kd.R_drew)); exact HO_4.out)) k_ hn_)), Or.elim hk_ (fun hs_ => hs_.2.2) (fun hn_ => (Kd.fresh' (Kd.R_lt (by (with_reducible repeat (first | apply Kd.R_alloc | apply Kd.R_drewN | apply Kd.R_drew)); exact HO130.out)) k_ hn_))⟩)) (below_size (by repeat (first | (with_reducible first | exact HB.out | apply below_alloc | apply pw_below_drewN | apply below_drew1) | exact HB.out)))); have n5_ := Aside0.mk (below_step (by repeat (first | (with_reducible first | exact HB.out | apply below_alloc | apply pw_below_drewN | apply below_drew1) | exact HB.out)) hb); clear HO_4; clear HO_5; clear HO130; clear HO133; clear HB; have HO_4 := n0_; have HO_5 := n1_; have HO130 := n2_; have HO133 := n3_; have HO136 := n4_; have HB := n5_; clear n0_ n1_ n2_ n3_ n4_ n5_; (try clear hb); (try clear hb2); (try clear hk); (try clear hi); (try clear ho0); obtain ⟨Ao42, co42, eo42⟩ := Kd.V_slice HO136.out; subst eo42) | ((with_reducible refine gate_callee (f := 103) rfl ?_); refine goesL_ (some 71) rfl rfl Try.func103 (by kernel_rfl) rfl #[.slice Ao42 t134.length co42, .slice Ao29 t125.length co29] rfl (by (try simp only [List.map_toArray, List.map_cons, List.map_nil]); first | done | rfl | (simp only [List.length_drop, List.length_take]; rfl)) ?_; (with_reducible refine (whole_cmp.calls _ _ t134 _ _ t125 t137 _ ?side1 ?side2 ?side3 ?side4 A34.out).mono ?_); (case side1 => repeat (first | exact (Kd.V_reads' HO136.out).2.2 | (with_reducible refine Kd.C_alloc ?_ _) | (with_reducible refine Kd.C_drewN ?_ _) | (with_reducible refine Kd.C_drew ?_))); (case side2 => exact (Kd.V_reads' HO136.out).2.1); (case side3 => repeat (first | exact (Kd.V_reads' HO_5.out).2.2 | (with_reducible refine Kd.C_alloc ?_ _) | (with_reducible refine Kd.C_drewN ?_ _) | (with_reducible refine Kd.C_drew ?_))); (case side4 => exact (Kd.V_reads' HO_5.out).2.1); rintro e w43 ⟨rfl, hb⟩; refine ⟨_, rfl, ?_⟩; have n0_ := Aside0.mk (Kd.R_below (by (with_reducible repeat (first | apply Kd.R_alloc | apply Kd.R_drewN | apply Kd.R_drew)); exact HO_4.out) hb); have n1_ := Aside0.mk (Kd.V_below (by (with_reducible repeat (first | apply Kd.V_alloc | apply Kd.V_drewN | apply Kd.V_drew)); exact HO_5.out) hb); have n2_ := Aside0.mk (Kd.R_below (by (with_reducible repeat (first | apply Kd.R_alloc | apply Kd.R_drewN | apply Kd.R_drew)); exact HO130.out) hb); have n3_ := Aside0.mk (Kd.V_below (by (with_reducible repeat (first | apply Kd.V_alloc | apply Kd.V_drewN | apply Kd.V_drew)); exact HO133.out) hb); have n4_ := Aside0.mk (Kd.V_below (by (with_reducible repeat (first | apply Kd.V_alloc | apply Kd.V_drewN | apply Kd.V_drew)); exact HO136.out) hb); have n5_ := Aside0.mk (below_step (by repeat (first | (with_reducible first | exact HB.out | apply below_alloc | apply pw_below_drewN | apply below_drew1) | exact HB.out)) hb); clear HO_4; clear HO_5; clear HO130; clear HO133; clear HO136; clear HB; have HO_4 := n0_; have HO_5 := n1_; have HO130 := n2_; have HO133 := n3_; have HO136 := n4_; have HB := n5_; clear n0_ n1_ n2_ n3_ n4_ n5_; (try clear hb); (try clear hb2); (try clear hk); (try clear hi)))
                                go_roundg k3
                                case measure => have := HK1.out; have := HJ21.out; have := HK3.out; omega
                                case rel => exact ⟨(IntKind.u64.wrap (Int.tdiv (IntKind.u64.wrap (x10_3 + x11_3)) 2)), (x11_3), (by first | rfl | (simp; done) | (simp [*]; done)), (by first | rfl | (simp; done) | (simp [*]; done)), H', ⟨by have := HK1.out; have := HJ21.out; have := HK3.out; omega⟩, ⟨by (with_reducible repeat (first | apply Kd.R_alloc | apply Kd.R_drewN | apply Kd.R_drew)); exact Kd.R_mono HO_4.out (fun _ hk => hk.1)⟩, ⟨by (with_reducible repeat (first | apply Kd.V_alloc | apply Kd.V_drewN | apply Kd.V_drew)); exact Kd.V_mono HO_5.out (fun _ hk => ⟨hk.1.1, hk.1.2⟩)⟩, ⟨by repeat (first | (with_reducible first | exact HB.out | apply below_alloc | apply pw_below_drewN | apply below_drew1) | exact HB.out)⟩⟩
                              · rw [if_neg c35] at H
                                have c35b0 : decide (t137 ≤ 0) = false := decide_eq_false c35
                                clear c35
                                have H' := Aside0.mk H
                                clear H
                                go_wp2_with (first | ((with_reducible refine gate_dst (N := 67) rfl ?_); refine Kd.R_lit (Kd.int .u32) _ 149 ?hg (N := 67) ?hd (xs := ([(IntKind.u64.wrap (Int.tdiv (IntKind.u64.wrap (x10_3 + x11_3)) 2)) % 4294967296] : List Int)) (inner := [.int .u32 ((IntKind.u64.wrap (Int.tdiv (IntKind.u64.wrap (x10_3 + x11_3)) 2)) % 4294967296)]) (ok := fun _ => True) (okp := fun _ => True) ?hr ?hp (fun _ hk => hk) trivial (Below.refl _ _) (Nat.le_refl _) (by simp) ?_; (case hd => rfl); (case hg => rfl); (case hr => first | (go_simp; done) | (go_simp; rfl)); (case hp => exact (Reps.one (show Kd.M (Kd.int .u32) _ _ _ ((IntKind.u64.wrap (Int.tdiv (IntKind.u64.wrap (x10_3 + x11_3)) 2)) % 4294967296) [.int .u32 ((IntKind.u64.wrap (Int.tdiv (IntKind.u64.wrap (x10_3 + x11_3)) 2)) % 4294967296)] from rfl) (Reps.none _ _))); intro v129 w44 ho45 hb hg_ hnew_; clear hg_ hnew_; (first | rw [← Ny128.out] at ho45 | (simp only [Int.reduceToNat] at ho45; rw [← Ny128.out] at ho45)); have n0_ := Aside0.mk (Kd.R_elder' (by (with_reducible repeat (first | apply Kd.R_alloc | apply Kd.R_drewN | apply Kd.R_drew)); exact HO_4.out) (Kd.R_base ho45) hb); have n1_ := Aside0.mk (Kd.V_elder' (by (with_reducible repeat (first | apply Kd.V_alloc | apply Kd.V_drewN | apply Kd.V_drew)); exact HO_5.out) (Kd.R_base ho45) hb); have n2_ := Aside0.mk (Kd.R_lower (Kd.R_new' (Kd.R_newM (M := fun k_ => (w.heap.size ≤ k_)) ho45 (below_size (by repeat (first | (with_reducible first | exact HB.out | apply below_alloc | apply pw_below_drewN | apply below_drew1) | exact HB.out))) (fun k_ h_ => h_)) (Kd.R_lt (by (with_reducible repeat (first | apply Kd.R_alloc | apply Kd.R_drewN | apply Kd.R_drew)); exact HO_4.out))) (below_size (by repeat (first | (with_reducible first | exact HB.out | apply below_alloc | apply pw_below_drewN | apply below_drew1) | exact HB.out)))); have n3_ := Aside0.mk (below_step (by repeat (first | (with_reducible first | exact HB.out | apply below_alloc | apply pw_below_drewN | apply below_drew1) | exact HB.out)) hb); clear HO_4; clear HO_5; clear HB; have HO_4 := n0_; have HO_5 := n1_; have HO130 := n2_; have HB := n3_; clear n0_ n1_ n2_ n3_; clear hb ho45; obtain ⟨Ao46, co46, eo46⟩ := Kd.R_slice HO130.out; subst eo46) | ((with_reducible refine gate_callee (f := 89) rfl ?_); refine goesL_ (some 68) rfl rfl Try.func89 (by kernel_rfl) rfl #[.slice A1 l1.length c1, .slice Ao46 y128.length co46] rfl (by (try simp only [List.map_toArray, List.map_cons, List.map_nil]); first | done | rfl | (simp only [List.length_drop, List.length_take]; rfl)) ?_; (with_reducible refine (whole_mul.calls _ _ l1 _ _ y128 t131 _ ?side1 ?side2 ?side3 ?side4 A32.out).mono ?_); (case side1 => repeat (first | exact (Kd.C_below HR1.out HB.out) | (with_reducible refine Kd.C_alloc ?_ _) | (with_reducible refine Kd.C_drewN ?_ _) | (with_reducible refine Kd.C_drew ?_))); (case side2 => exact HC1.out); (case side3 => repeat (first | exact (Kd.R_reads' HO130.out).2.2 | (with_reducible refine Kd.C_alloc ?_ _) | (with_reducible refine Kd.C_drewN ?_ _) | (with_reducible refine Kd.C_drew ?_))); (case side4 => exact (Kd.R_reads' HO130.out).2.1); rintro e w47 ⟨v132, rfl, ho0, hb⟩; refine ⟨_, rfl, ?_⟩; have n0_ := Aside0.mk (Kd.R_below (by (with_reducible repeat (first | apply Kd.R_alloc | apply Kd.R_drewN | apply Kd.R_drew)); exact HO_4.out) hb); have n1_ := Aside0.mk (Kd.V_below (by (with_reducible repeat (first | apply Kd.V_alloc | apply Kd.V_drewN | apply Kd.V_drew)); exact HO_5.out) hb); have n2_ := Aside0.mk (Kd.R_below (by (with_reducible repeat (first | apply Kd.R_alloc | apply Kd.R_drewN | apply Kd.R_drew)); exact HO130.out) hb); have n3_ := Aside0.mk (Kd.V_lower (Kd.V_mono (ok' := fun k_ => (w.heap.size ≤ k_) ∧ some k_ ≠ (v113 : Value).ownBlock ∧ some k_ ≠ (.slice Ao46 y128.length co46 : Value).ownBlock) ho0 (fun k_ hk_ => ⟨(Nat.le_trans (below_size (by repeat (first | (with_reducible first | exact HB.out | apply below_alloc | apply pw_below_drewN | apply below_drew1) | exact HB.out))) hk_), (Kd.fresh' (Kd.R_lt (by (with_reducible repeat (first | apply Kd.R_alloc | apply Kd.R_drewN | apply Kd.R_drew)); exact HO_4.out)) k_ hk_), (Kd.fresh' (Kd.R_lt (by (with_reducible repeat (first | apply Kd.R_alloc | apply Kd.R_drewN | apply Kd.R_drew)); exact HO130.out)) k_ hk_)⟩)) (below_size (by repeat (first | (with_reducible first | exact HB.out | apply below_alloc | apply pw_below_drewN | apply below_drew1) | exact HB.out)))); have n4_ := Aside0.mk (below_step (by repeat (first | (with_reducible first | exact HB.out | apply below_alloc | apply pw_below_drewN | apply below_drew1) | exact HB.out)) hb); clear HO_4; clear HO_5; clear HO130; clear HB; have HO_4 := n0_; have HO_5 := n1_; have HO130 := n2_; have HO133 := n3_; have HB := n4_; clear n0_ n1_ n2_ n3_ n4_; (try clear hb); (try clear hb2); (try clear hk); (try clear hi); (try clear ho0); obtain ⟨Ao48, co48, eo48⟩ := Kd.V_slice HO133.out; subst eo48) | ((with_reducible refine gate_callee (f := 76) rfl ?_); refine goesL_ (some 69) rfl rfl Try.func76 (by kernel_rfl) rfl #[.slice Ao48 t131.length co48] rfl (by (try simp only [List.map_toArray, List.map_cons, List.map_nil]); first | done | rfl | (simp only [List.length_drop, List.length_take]; rfl)) ?_; (with_reducible refine (whole_trim.calls (fun k_ => ((w.heap.size ≤ k_) ∧ (some k_ ≠ (v113 : Value).ownBlock ∧ some k_ ≠ (.slice Ao46 y128.length co46 : Value).ownBlock))) _ _ t131 t134 _ ?side1 A33.out).mono ?_); (case side1 => exact HO133.out); rintro e w49 ⟨v135, rfl, ho0, hb⟩; refine ⟨_, rfl, ?_⟩; have n0_ := Aside0.mk (Kd.R_below (by (with_reducible repeat (first | apply Kd.R_alloc | apply Kd.R_drewN | apply Kd.R_drew)); exact HO_4.out) hb); have n1_ := Aside0.mk (Kd.V_below (by (with_reducible repeat (first | apply Kd.V_alloc | apply Kd.V_drewN | apply Kd.V_drew)); exact HO_5.out) hb); have n2_ := Aside0.mk (Kd.R_below (by (with_reducible repeat (first | apply Kd.R_alloc | apply Kd.R_drewN | apply Kd.R_drew)); exact HO130.out) hb); have n3_ := Aside0.mk (Kd.V_below (by (with_reducible repeat (first | apply Kd.V_alloc | apply Kd.V_drewN | apply Kd.V_drew)); exact HO133.out) hb); have n4_ := Aside0.mk (Kd.V_lower (Kd.V_mono (ok' := fun k_ => (w.heap.size ≤ k_) ∧ some k_ ≠ (v113 : Value).ownBlock ∧ some k_ ≠ (.slice Ao46 y128.length co46 : Value).ownBlock) ho0 (fun k_ hk_ => ⟨Or.elim hk_ (fun hs_ => hs_.1) (fun hn_ => (Nat.le_trans (below_size (by repeat (first | (with_reducible first | exact HB.out | apply below_alloc | apply pw_below_drewN | apply below_drew1) | exact HB.out))) hn_)), Or.elim hk_ (fun hs_ => hs_.2.1) (fun hn_ => (Kd.fresh' (Kd.R_lt (by (with_reducible repeat (first | apply Kd.R_alloc | apply Kd.R_drewN | apply Kd.R_drew)); exact HO_4.out)) k_ hn_)), Or.elim hk_ (fun hs_ => hs_.2.2) (fun hn_ => (Kd.fresh' (Kd.R_lt (by (with_reducible repeat (first | apply Kd.R_alloc | apply Kd.R_drewN | apply Kd.R_drew)); exact HO130.out)) k_ hn_))⟩)) (below_size (by repeat (first | (with_reducible first | exact HB.out | apply below_alloc | apply pw_below_drewN | apply below_drew1) | exact HB.out)))); have n5_ := Aside0.mk (below_step (by repeat (first | (with_reducible first | exact HB.out | apply below_alloc | apply pw_below_drewN | apply below_drew1) | exact HB.out)) hb); clear HO_4; clear HO_5; clear HO130; clear HO133; clear HB; have HO_4 := n0_; have HO_5 := n1_; have HO130 := n2_; have HO133 := n3_; have HO136 := n4_; have HB := n5_; clear n0_ n1_ n2_ n3_ n4_ n5_; (try clear hb); (try clear hb2); (try clear hk); (try clear hi); (try clear ho0); obtain ⟨Ao50, co50, eo50⟩ := Kd.V_slice HO136.out; subst eo50) | ((with_reducible refine gate_callee (f := 103) rfl ?_); refine goesL_ (some 71) rfl rfl Try.func103 (by kernel_rfl) rfl #[.slice Ao50 t134.length co50, .slice Ao29 t125.length co29] rfl (by (try simp only [List.map_toArray, List.map_cons, List.map_nil]); first | done | rfl | (simp only [List.length_drop, List.length_take]; rfl)) ?_; (with_reducible refine (whole_cmp.calls _ _ t134 _ _ t125 t137 _ ?side1 ?side2 ?side3 ?side4 A34.out).mono ?_); (case side1 => repeat (first | exact (Kd.V_reads' HO136.out).2.2 | (with_reducible refine Kd.C_alloc ?_ _) | (with_reducible refine Kd.C_drewN ?_ _) | (with_reducible refine Kd.C_drew ?_))); (case side2 => exact (Kd.V_reads' HO136.out).2.1); (case side3 => repeat (first | exact (Kd.V_reads' HO_5.out).2.2 | (with_reducible refine Kd.C_alloc ?_ _) | (with_reducible refine Kd.C_drewN ?_ _) | (with_reducible refine Kd.C_drew ?_))); (case side4 => exact (Kd.V_reads' HO_5.out).2.1); rintro e w51 ⟨rfl, hb⟩; refine ⟨_, rfl, ?_⟩; have n0_ := Aside0.mk (Kd.R_below (by (with_reducible repeat (first | apply Kd.R_alloc | apply Kd.R_drewN | apply Kd.R_drew)); exact HO_4.out) hb); have n1_ := Aside0.mk (Kd.V_below (by (with_reducible repeat (first | apply Kd.V_alloc | apply Kd.V_drewN | apply Kd.V_drew)); exact HO_5.out) hb); have n2_ := Aside0.mk (Kd.R_below (by (with_reducible repeat (first | apply Kd.R_alloc | apply Kd.R_drewN | apply Kd.R_drew)); exact HO130.out) hb); have n3_ := Aside0.mk (Kd.V_below (by (with_reducible repeat (first | apply Kd.V_alloc | apply Kd.V_drewN | apply Kd.V_drew)); exact HO133.out) hb); have n4_ := Aside0.mk (Kd.V_below (by (with_reducible repeat (first | apply Kd.V_alloc | apply Kd.V_drewN | apply Kd.V_drew)); exact HO136.out) hb); have n5_ := Aside0.mk (below_step (by repeat (first | (with_reducible first | exact HB.out | apply below_alloc | apply pw_below_drewN | apply below_drew1) | exact HB.out)) hb); clear HO_4; clear HO_5; clear HO130; clear HO133; clear HO136; clear HB; have HO_4 := n0_; have HO_5 := n1_; have HO130 := n2_; have HO133 := n3_; have HO136 := n4_; have HB := n5_; clear n0_ n1_ n2_ n3_ n4_ n5_; (try clear hb); (try clear hb2); (try clear hk); (try clear hi)))
                                go_roundg k3
                                case measure => have := HK1.out; have := HJ21.out; have := HK3.out; omega
                                case rel => exact ⟨(x10_3), (IntKind.u64.wrap (Int.tdiv (IntKind.u64.wrap (x10_3 + x11_3)) 2)), (by first | rfl | (simp; done) | (simp [*]; done)), (by first | rfl | (simp; done) | (simp [*]; done)), H', ⟨by have := HK1.out; have := HJ21.out; have := HK3.out; omega⟩, ⟨by (with_reducible repeat (first | apply Kd.R_alloc | apply Kd.R_drewN | apply Kd.R_drew)); exact Kd.R_mono HO_4.out (fun _ hk => hk.1)⟩, ⟨by (with_reducible repeat (first | apply Kd.V_alloc | apply Kd.V_drewN | apply Kd.V_drew)); exact Kd.V_mono HO_5.out (fun _ hk => ⟨hk.1.1, hk.1.2⟩)⟩, ⟨by repeat (first | (with_reducible first | exact HB.out | apply below_alloc | apply pw_below_drewN | apply below_drew1) | exact HB.out)⟩⟩
                            · rw [if_neg c31] at H
                              have c31b0 : decide (1 < (IntKind.u64.wrap (x11_3 - x10_3))) = false := decide_eq_false c31
                              clear c31
                              by_cases c52 : 0 ≤ ji17
                              · rw [if_pos c52] at H
                                have c52b0 : decide (0 ≤ ji17) = true := decide_eq_true c52
                                clear c52
                                by_cases c53 : ji17 < (x4_1.length : Int)
                                · rw [if_pos c53] at H
                                  have c53b0 : decide (ji17 < (x4_1.length : Int)) = true := decide_eq_true c53
                                  clear c53
                                  obtain ⟨y138, hy138⟩ : ∃ y_ : List Int, y_ = (x4_1.set (ji17 : Int).toNat ((x10_3) % 4294967296)) := ⟨_, rfl⟩
                                  replace H : ((whole_mul.f l1 (([(x10_3) % 4294967296] : List Int))).bind fun t142 => ((whole_trim.f t142).bind fun t145 => ((whole_sub.f t125 t145).bind fun t148 => ((whole_trim.f t148).bind fun t151 => (whole_div.l0 k3 l0 l1 y138 t151 (l0.length : Int) (wrap64 (x35_1 + 1))))))) = some (r1, r2) := by first | (rw [hy138]; with_reducible exact H) | (have H2_ := (Option.bind_some _ _).symm.trans H; rw [hy138]; with_reducible exact H2_) | (have H2_ := (Option.bind_some _ _).symm.trans H; with_reducible exact H2_) | with_reducible exact H | (rw [hy138]; exact H) | exact H
                                  have Ny138 := Aside0.mk hy138
                                  clear hy138
                                  obtain ⟨y139, hy139⟩ : ∃ y_ : List Int, y_ = (([(x10_3) % 4294967296] : List Int)) := ⟨_, rfl⟩
                                  replace H : ((whole_mul.f l1 y139).bind fun t142 => ((whole_trim.f t142).bind fun t145 => ((whole_sub.f t125 t145).bind fun t148 => ((whole_trim.f t148).bind fun t151 => (whole_div.l0 k3 l0 l1 y138 t151 (l0.length : Int) (wrap64 (x35_1 + 1))))))) = some (r1, r2) := by first | (rw [hy139]; with_reducible exact H) | (have H2_ := (Option.bind_some _ _).symm.trans H; rw [hy139]; with_reducible exact H2_) | (have H2_ := (Option.bind_some _ _).symm.trans H; with_reducible exact H2_) | with_reducible exact H | (rw [hy139]; exact H) | exact H
                                  have Ny139 := Aside0.mk hy139
                                  clear hy139
                                  replace H := Option.bind_eq_some_iff.mp H
                                  obtain ⟨t142, A550, H⟩ := H
                                  replace H : ((whole_trim.f t142).bind fun t145 => ((whole_sub.f t125 t145).bind fun t148 => ((whole_trim.f t148).bind fun t151 => (whole_div.l0 k3 l0 l1 y138 t151 (l0.length : Int) (wrap64 (x35_1 + 1)))))) = some (r1, r2) := H
                                  have A55 := Aside0.mk A550
                                  clear A550
                                  replace H := Option.bind_eq_some_iff.mp H
                                  obtain ⟨t145, A560, H⟩ := H
                                  replace H : ((whole_sub.f t125 t145).bind fun t148 => ((whole_trim.f t148).bind fun t151 => (whole_div.l0 k3 l0 l1 y138 t151 (l0.length : Int) (wrap64 (x35_1 + 1))))) = some (r1, r2) := H
                                  have A56 := Aside0.mk A560
                                  clear A560
                                  replace H := Option.bind_eq_some_iff.mp H
                                  obtain ⟨t148, A570, H⟩ := H
                                  replace H : ((whole_trim.f t148).bind fun t151 => (whole_div.l0 k3 l0 l1 y138 t151 (l0.length : Int) (wrap64 (x35_1 + 1)))) = some (r1, r2) := H
                                  have A57 := Aside0.mk A570
                                  clear A570
                                  replace H := Option.bind_eq_some_iff.mp H
                                  obtain ⟨t151, A580, H⟩ := H
                                  replace H : (whole_div.l0 k3 l0 l1 y138 t151 (l0.length : Int) (wrap64 (x35_1 + 1))) = some (r1, r2) := H
                                  have A58 := Aside0.mk A580
                                  clear A580
                                  have H' := Aside0.mk H
                                  clear H
                                  have p54 : 0 ≤ (ji17 : Int) := of_decide_eq_true (by first | (with_reducible assumption) | assumption)
                                  have q54 : (ji17 : Int) < ((x4_1.length : Int) : Int) := of_decide_eq_true (by first | (with_reducible assumption) | assumption)
                                  obtain ⟨go54, co54, eo54, gb54, gl54, cl54, HG54⟩ := Kd.R_form HO_4.out (by omega)
                                  (first | cases eo54 | (injection eo54 with ea_ en_ ec_; (first | subst ea_ | (injection ea_ with ea_; subst ea_)); subst ec_; clear en_))
                                  have GB54 := Aside0.mk gb54
                                  have GG54 := Aside0.mk HG54
                                  clear gb54 gl54 HG54
                                  obtain ⟨hx54_0, hf54_0⟩ := Kd.R_celln 0 HO_4.out (ji17 : Int) p54 q54
                                  replace p54 := eq_true p54
                                  replace q54 := eq_true q54
                                  have HP59 := Kd.R_putg HO_4.out (ji17 : Int) ((x10_3) % 4294967296)
                                  go_wp2_with (first | ((with_reducible refine gate_store (t := 149) (p := 79) rfl ?_); refine store_event (t := 149) (p := 79) (v := ?vo_w60) (w1 := (wr.setCell ⟨go54, (ji17 : Int).toNat, none⟩ (.int .u32 ((x10_3) % 4294967296)))) ?hg ?ho ?hn ?hr ?_; (case ho => rfl); (case hg => rfl); (case hn => rfl); (case hr => first | (go_simp; done) | (go_simp; rfl)); intro w60 hw; have hg : wr.grownBy w60 (some go54) := (by rw [hw]; exact HP59.2); have hp_ : Kd.R (Kd.int .u32) 149 w60 w.heap.size (fun k_ => (w.heap.size ≤ k_)) (.slice (some ⟨go54, 0, none⟩) x4_1.length co54) y138 := (by rw [hw, Ny138.out]; exact HP59.1); clear HP59; have n0_ := Aside0.mk (hp_); have n1_ := Aside0.mk (Kd.V_afterv (v := (.slice (some ⟨go54, 0, none⟩) x4_1.length co54)) (v1 := (.slice (some ⟨go54, 0, none⟩) x4_1.length co54)) (ok := (fun k_ => (w.heap.size ≤ k_))) (by (with_reducible repeat (first | apply Kd.V_alloc | apply Kd.V_drewN | apply Kd.V_drew)); exact HO_5.out) hg (.inl rfl)); have n2_ := Aside0.mk ((by rw [hw]; exact below_set (HB.out) GB54.out : Below w.heap.size w w60)); clear HO_4; clear HO_5; clear HB; have HO_4 := n0_; have HO_5 := n1_; have HB := n2_; clear n0_ n1_ n2_; clear hg hw hp_) | ((with_reducible refine gate_dst (N := 84) rfl ?_); refine Kd.R_lit (Kd.int .u32) _ 149 ?hg (N := 84) ?hd (xs := ([(x10_3) % 4294967296] : List Int)) (inner := [.int .u32 ((x10_3) % 4294967296)]) (ok := fun _ => True) (okp := fun _ => True) ?hr ?hp (fun _ hk => hk) trivial (Below.refl _ _) (Nat.le_refl _) (by simp) ?_; (case hd => rfl); (case hg => rfl); (case hr => first | (go_simp; done) | (go_simp; rfl)); (case hp => exact (Reps.one (show Kd.M (Kd.int .u32) _ _ _ ((x10_3) % 4294967296) [.int .u32 ((x10_3) % 4294967296)] from rfl) (Reps.none _ _))); intro v140 w61 ho62 hb hg_ hnew_; clear hg_ hnew_; (first | rw [← Ny139.out] at ho62 | (simp only [Int.reduceToNat] at ho62; rw [← Ny139.out] at ho62)); have n0_ := Aside0.mk (Kd.R_elder' (by (with_reducible repeat (first | apply Kd.R_alloc | apply Kd.R_drewN | apply Kd.R_drew)); exact HO_4.out) (Kd.R_base ho62) hb); have n1_ := Aside0.mk (Kd.V_elder' (by (with_reducible repeat (first | apply Kd.V_alloc | apply Kd.V_drewN | apply Kd.V_drew)); exact HO_5.out) (Kd.R_base ho62) hb); have n2_ := Aside0.mk (Kd.R_lower (Kd.R_new' (Kd.R_newM (M := fun k_ => (w.heap.size ≤ k_)) ho62 (below_size (by repeat (first | (with_reducible first | exact HB.out | apply below_alloc | apply pw_below_drewN | apply below_drew1) | exact HB.out))) (fun k_ h_ => h_)) (Kd.R_lt (by (with_reducible repeat (first | apply Kd.R_alloc | apply Kd.R_drewN | apply Kd.R_drew)); exact HO_4.out))) (below_size (by repeat (first | (with_reducible first | exact HB.out | apply below_alloc | apply pw_below_drewN | apply below_drew1) | exact HB.out)))); have n3_ := Aside0.mk (below_step (by repeat (first | (with_reducible first | exact HB.out | apply below_alloc | apply pw_below_drewN | apply below_drew1) | exact HB.out)) hb); clear HO_4; clear HO_5; clear HB; have HO_4 := n0_; have HO_5 := n1_; have HO141 := n2_; have HB := n3_; clear n0_ n1_ n2_ n3_; clear hb ho62; obtain ⟨Ao63, co63, eo63⟩ := Kd.R_slice HO141.out; subst eo63) | ((with_reducible refine gate_callee (f := 89) rfl ?_); refine goesL_ (some 85) rfl rfl Try.func89 (by kernel_rfl) rfl #[.slice A1 l1.length c1, .slice Ao63 y139.length co63] rfl (by (try simp only [List.map_toArray, List.map_cons, List.map_nil]); first | done | rfl | (simp only [List.length_drop, List.length_take]; rfl)) ?_; (with_reducible refine (whole_mul.calls _ _ l1 _ _ y139 t142 _ ?side1 ?side2 ?side3 ?side4 A55.out).mono ?_); (case side1 => repeat (first | exact (Kd.C_below HR1.out HB.out) | (with_reducible refine Kd.C_alloc ?_ _) | (with_reducible refine Kd.C_drewN ?_ _) | (with_reducible refine Kd.C_drew ?_))); (case side2 => exact HC1.out); (case side3 => repeat (first | exact (Kd.R_reads' HO141.out).2.2 | (with_reducible refine Kd.C_alloc ?_ _) | (with_reducible refine Kd.C_drewN ?_ _) | (with_reducible refine Kd.C_drew ?_))); (case side4 => exact (Kd.R_reads' HO141.out).2.1); rintro e w64 ⟨v143, rfl, ho0, hb⟩; refine ⟨_, rfl, ?_⟩; have n0_ := Aside0.mk (Kd.R_below (by (with_reducible repeat (first | apply Kd.R_alloc | apply Kd.R_drewN | apply Kd.R_drew)); exact HO_4.out) hb); have n1_ := Aside0.mk (Kd.V_below (by (with_reducible repeat (first | apply Kd.V_alloc | apply Kd.V_drewN | apply Kd.V_drew)); exact HO_5.out) hb); have n2_ := Aside0.mk (Kd.R_below (by (with_reducible repeat (first | apply Kd.R_alloc | apply Kd.R_drewN | apply Kd.R_drew)); exact HO141.out) hb); have n3_ := Aside0.mk (Kd.V_lower (Kd.V_mono (ok' := fun k_ => (w.heap.size ≤ k_) ∧ some k_ ≠ (.slice (some ⟨go54, 0, none⟩) x4_1.length co54 : Value).ownBlock ∧ some k_ ≠ (.slice Ao63 y139.length co63 : Value).ownBlock) ho0 (fun k_ hk_ => ⟨(Nat.le_trans (below_size (by repeat (first | (with_reducible first | exact HB.out | apply below_alloc | apply pw_below_drewN | apply below_drew1) | exact HB.out))) hk_), (Kd.fresh' (Kd.R_lt (by (with_reducible repeat (first | apply Kd.R_alloc | apply Kd.R_drewN | apply Kd.R_drew)); exact HO_4.out)) k_ hk_), (Kd.fresh' (Kd.R_lt (by (with_reducible repeat (first | apply Kd.R_alloc | apply Kd.R_drewN | apply Kd.R_drew)); exact HO141.out)) k_ hk_)⟩)) (below_size (by repeat (first | (with_reducible first | exact HB.out | apply below_alloc | apply pw_below_drewN | apply below_drew1) | exact HB.out)))); have n4_ := Aside0.mk (below_step (by repeat (first | (with_reducible first | exact HB.out | apply below_alloc | apply pw_below_drewN | apply below_drew1) | exact HB.out)) hb); clear HO_4; clear HO_5; clear HO141; clear HB; have HO_4 := n0_; have HO_5 := n1_; have HO141 := n2_; have HO144 := n3_; have HB := n4_; clear n0_ n1_ n2_ n3_ n4_; (try clear hb); (try clear hb2); (try clear hk); (try clear hi); (try clear ho0); obtain ⟨Ao65, co65, eo65⟩ := Kd.V_slice HO144.out; subst eo65) | ((with_reducible refine gate_callee (f := 76) rfl ?_); refine goesL_ (some 86) rfl rfl Try.func76 (by kernel_rfl) rfl #[.slice Ao65 t142.length co65] rfl (by (try simp only [List.map_toArray, List.map_cons, List.map_nil]); first | done | rfl | (simp only [List.length_drop, List.length_take]; rfl)) ?_; (with_reducible refine (whole_trim.calls (fun k_ => ((w.heap.size ≤ k_) ∧ (some k_ ≠ (.slice (some ⟨go54, 0, none⟩) x4_1.length co54 : Value).ownBlock ∧ some k_ ≠ (.slice Ao63 y139.length co63 : Value).ownBlock))) _ _ t142 t145 _ ?side1 A56.out).mono ?_); (case side1 => exact HO144.out); rintro e w66 ⟨v146, rfl, ho0, hb⟩; refine ⟨_, rfl, ?_⟩; have n0_ := Aside0.mk (Kd.R_below (by (with_reducible repeat (first | apply Kd.R_alloc | apply Kd.R_drewN | apply Kd.R_drew)); exact HO_4.out) hb); have n1_ := Aside0.mk (Kd.V_below (by (with_reducible repeat (first | apply Kd.V_alloc | apply Kd.V_drewN | apply Kd.V_drew)); exact HO_5.out) hb); have n2_ := Aside0.mk (Kd.R_below (by (with_reducible repeat (first | apply Kd.R_alloc | apply Kd.R_drewN | apply Kd.R_drew)); exact HO141.out) hb); have n3_ := Aside0.mk (Kd.V_below (by (with_reducible repeat (first | apply Kd.V_alloc | apply Kd.V_drewN | apply Kd.V_drew)); exact HO144.out) hb); have n4_ := Aside0.mk (Kd.V_lower (Kd.V_mono (ok' := fun k_ => (w.heap.size ≤ k_) ∧ some k_ ≠ (.slice (some ⟨go54, 0, none⟩) x4_1.length co54 : Value).ownBlock ∧ some k_ ≠ (.slice Ao63 y139.length co63 : Value).ownBlock) ho0 (fun k_ hk_ => ⟨Or.elim hk_ (fun hs_ => hs_.1) (fun hn_ => (Nat.le_trans (below_size (by repeat (first | (with_reducible first | exact HB.out | apply below_alloc | apply pw_below_drewN | apply below_drew1) | exact HB.out))) hn_)), Or.elim hk_ (fun hs_ => hs_.2.1) (fun hn_ => (Kd.fresh' (Kd.R_lt (by (with_reducible repeat (first | apply Kd.R_alloc | apply Kd.R_drewN | apply Kd.R_drew)); exact HO_4.out)) k_ hn_)), Or.elim hk_ (fun hs_ => hs_.2.2) (fun hn_ => (Kd.fresh' (Kd.R_lt (by (with_reducible repeat (first | apply Kd.R_alloc | apply Kd.R_drewN | apply Kd.R_drew)); exact HO141.out)) k_ hn_))⟩)) (below_size (by repeat (first | (with_reducible first | exact HB.out | apply below_alloc | apply pw_below_drewN | apply below_drew1) | exact HB.out)))); have n5_ := Aside0.mk (below_step (by repeat (first | (with_reducible first | exact HB.out | apply below_alloc | apply pw_below_drewN | apply below_drew1) | exact HB.out)) hb); clear HO_4; clear HO_5; clear HO141; clear HO144; clear HB; have HO_4 := n0_; have HO_5 := n1_; have HO141 := n2_; have HO144 := n3_; have HO147 := n4_; have HB := n5_; clear n0_ n1_ n2_ n3_ n4_ n5_; (try clear hb); (try clear hb2); (try clear hk); (try clear hi); (try clear ho0); obtain ⟨Ao67, co67, eo67⟩ := Kd.V_slice HO147.out; subst eo67) | ((with_reducible refine gate_callee (f := 99) rfl ?_); refine goesL_ (some 87) rfl rfl Try.func99 (by kernel_rfl) rfl #[.slice Ao29 t125.length co29, .slice Ao67 t145.length co67] rfl (by (try simp only [List.map_toArray, List.map_cons, List.map_nil]); first | done | rfl | (simp only [List.length_drop, List.length_take]; rfl)) ?_; (with_reducible refine (whole_sub.calls _ _ t125 _ _ t145 t148 _ ?side1 ?side2 ?side3 ?side4 A57.out).mono ?_); (case side1 => repeat (first | exact (Kd.V_reads' HO_5.out).2.2 | (with_reducible refine Kd.C_alloc ?_ _) | (with_reducible refine Kd.C_drewN ?_ _) | (with_reducible refine Kd.C_drew ?_))); (case side2 => exact (Kd.V_reads' HO_5.out).2.1); (case side3 => repeat (first | exact (Kd.V_reads' HO147.out).2.2 | (with_reducible refine Kd.C_alloc ?_ _) | (with_reducible refine Kd.C_drewN ?_ _) | (with_reducible refine Kd.C_drew ?_))); (case side4 => exact (Kd.V_reads' HO147.out).2.1); rintro e w68 ⟨v149, rfl, ho0, hb⟩; refine ⟨_, rfl, ?_⟩; have n0_ := Aside0.mk (Kd.R_below (by (with_reducible repeat (first | apply Kd.R_alloc | apply Kd.R_drewN | apply Kd.R_drew)); exact HO_4.out) hb); have n1_ := Aside0.mk (Kd.V_below (by (with_reducible repeat (first | apply Kd.V_alloc | apply Kd.V_drewN | apply Kd.V_drew)); exact HO_5.out) hb); have n2_ := Aside0.mk (Kd.R_below (by (with_reducible repeat (first | apply Kd.R_alloc | apply Kd.R_drewN | apply Kd.R_drew)); exact HO141.out) hb); have n3_ := Aside0.mk (Kd.V_below (by (with_reducible repeat (first | apply Kd.V_alloc | apply Kd.V_drewN | apply Kd.V_drew)); exact HO144.out) hb); have n4_ := Aside0.mk (Kd.V_below (by (with_reducible repeat (first | apply Kd.V_alloc | apply Kd.V_drewN | apply Kd.V_drew)); exact HO147.out) hb); have n5_ := Aside0.mk (Kd.V_lower (Kd.V_mono (ok' := fun k_ => (w.heap.size ≤ k_) ∧ some k_ ≠ (.slice (some ⟨go54, 0, none⟩) x4_1.length co54 : Value).ownBlock ∧ some k_ ≠ (.slice Ao63 y139.length co63 : Value).ownBlock) ho0 (fun k_ hk_ => ⟨(Nat.le_trans (below_size (by repeat (first | (with_reducible first | exact HB.out | apply below_alloc | apply pw_below_drewN | apply below_drew1) | exact HB.out))) hk_), (Kd.fresh' (Kd.R_lt (by (with_reducible repeat (first | apply Kd.R_alloc | apply Kd.R_drewN | apply Kd.R_drew)); exact HO_4.out)) k_ hk_), (Kd.fresh' (Kd.R_lt (by (with_reducible repeat (first | apply Kd.R_alloc | apply Kd.R_drewN | apply Kd.R_drew)); exact HO141.out)) k_ hk_)⟩)) (below_size (by repeat (first | (with_reducible first | exact HB.out | apply below_alloc | apply pw_below_drewN | apply below_drew1) | exact HB.out)))); have n6_ := Aside0.mk (below_step (by repeat (first | (with_reducible first | exact HB.out | apply below_alloc | apply pw_below_drewN | apply below_drew1) | exact HB.out)) hb); clear HO_4; clear HO_5; clear HO141; clear HO144; clear HO147; clear HB; have HO_4 := n0_; have HO_5 := n1_; have HO141 := n2_; have HO144 := n3_; have HO147 := n4_; have HO150 := n5_; have HB := n6_; clear n0_ n1_ n2_ n3_ n4_ n5_ n6_; (try clear hb); (try clear hb2); (try clear hk); (try clear hi); (try clear ho0); obtain ⟨Ao69, co69, eo69⟩ := Kd.V_slice HO150.out; subst eo69) | ((with_reducible refine gate_callee (f := 76) rfl ?_); refine goesL_ (some 88) rfl rfl Try.func76 (by kernel_rfl) rfl #[.slice Ao69 t148.length co69] rfl (by (try simp only [List.map_toArray, List.map_cons, List.map_nil]); first | done | rfl | (simp only [List.length_drop, List.length_take]; rfl)) ?_; (with_reducible refine (whole_trim.calls (fun k_ => ((w.heap.size ≤ k_) ∧ (some k_ ≠ (.slice (some ⟨go54, 0, none⟩) x4_1.length co54 : Value).ownBlock ∧ some k_ ≠ (.slice Ao63 y139.length co63 : Value).ownBlock))) _ _ t148 t151 _ ?side1 A58.out).mono ?_); (case side1 => exact HO150.out); rintro e w70 ⟨v152, rfl, ho0, hb⟩; refine ⟨_, rfl, ?_⟩; have n0_ := Aside0.mk (Kd.R_below (by (with_reducible repeat (first | apply Kd.R_alloc | apply Kd.R_drewN | apply Kd.R_drew)); exact HO_4.out) hb); have n1_ := Aside0.mk (Kd.V_below (by (with_reducible repeat (first | apply Kd.V_alloc | apply Kd.V_drewN | apply Kd.V_drew)); exact HO_5.out) hb); have n2_ := Aside0.mk (Kd.R_below (by (with_reducible repeat (first | apply Kd.R_alloc | apply Kd.R_drewN | apply Kd.R_drew)); exact HO141.out) hb); have n3_ := Aside0.mk (Kd.V_below (by (with_reducible repeat (first | apply Kd.V_alloc | apply Kd.V_drewN | apply Kd.V_drew)); exact HO144.out) hb); have n4_ := Aside0.mk (Kd.V_below (by (with_reducible repeat (first | apply Kd.V_alloc | apply Kd.V_drewN | apply Kd.V_drew)); exact HO147.out) hb); have n5_ := Aside0.mk (Kd.V_below (by (with_reducible repeat (first | apply Kd.V_alloc | apply Kd.V_drewN | apply Kd.V_drew)); exact HO150.out) hb); have n6_ := Aside0.mk (Kd.V_lower (Kd.V_mono (ok' := fun k_ => (w.heap.size ≤ k_) ∧ some k_ ≠ (.slice (some ⟨go54, 0, none⟩) x4_1.length co54 : Value).ownBlock ∧ some k_ ≠ (.slice Ao63 y139.length co63 : Value).ownBlock) ho0 (fun k_ hk_ => ⟨Or.elim hk_ (fun hs_ => hs_.1) (fun hn_ => (Nat.le_trans (below_size (by repeat (first | (with_reducible first | exact HB.out | apply below_alloc | apply pw_below_drewN | apply below_drew1) | exact HB.out))) hn_)), Or.elim hk_ (fun hs_ => hs_.2.1) (fun hn_ => (Kd.fresh' (Kd.R_lt (by (with_reducible repeat (first | apply Kd.R_alloc | apply Kd.R_drewN | apply Kd.R_drew)); exact HO_4.out)) k_ hn_)), Or.elim hk_ (fun hs_ => hs_.2.2) (fun hn_ => (Kd.fresh' (Kd.R_lt (by (with_reducible repeat (first | apply Kd.R_alloc | apply Kd.R_drewN | apply Kd.R_drew)); exact HO141.out)) k_ hn_))⟩)) (below_size (by repeat (first | (with_reducible first | exact HB.out | apply below_alloc | apply pw_below_drewN | apply below_drew1) | exact HB.out)))); have n7_ := Aside0.mk (below_step (by repeat (first | (with_reducible first | exact HB.out | apply below_alloc | apply pw_below_drewN | apply below_drew1) | exact HB.out)) hb); clear HO_4; clear HO_5; clear HO141; clear HO144; clear HO147; clear HO150; clear HB; have HO_4 := n0_; have HO_5 := n1_; have HO141 := n2_; have HO144 := n3_; have HO147 := n4_; have HO150 := n5_; have HO153 := n6_; have HB := n7_; clear n0_ n1_ n2_ n3_ n4_ n5_ n6_ n7_; (try clear hb); (try clear hb2); (try clear hk); (try clear hi); (try clear ho0)))
                                  go_roundg k3
                                  case measure => have := HK1.out; have := HJ21.out; have := HK3.out; omega
                                  case rel => exact ⟨(y138), (t151), (wrap64 (x35_1 + 1)), (by first | rfl | (simp; done) | (simp [*]; done)), H', ⟨by have := HK1.out; have := HJ21.out; have := HK3.out; omega⟩, ⟨by (with_reducible repeat (first | apply Kd.R_alloc | apply Kd.R_drewN | apply Kd.R_drew)); exact Kd.R_mono HO_4.out (fun _ hk => hk.1)⟩, ⟨by (with_reducible repeat (first | apply Kd.V_alloc | apply Kd.V_drewN | apply Kd.V_drew)); exact Kd.V_mono HO153.out (fun _ hk => ⟨hk.1, hk.2.1⟩)⟩, ⟨by repeat (first | (with_reducible first | exact HB.out | apply below_alloc | apply pw_below_drewN | apply below_drew1) | exact HB.out)⟩⟩
                                · rw [if_neg c53] at H
                                  exact absurd H (by simp)
                              · rw [if_neg c52] at H
                                exact absurd H (by simp)
                  · rw [if_neg c20] at H
                    exact absurd H (by simp)
                · rw [if_neg c19] at H
                  exact absurd H (by simp)
              · rw [if_neg c18] at H
                exact absurd H (by simp)
            · rw [if_neg c16] at H
              have c16b0 : decide (x35_1 < (l0.length : Int)) = false := decide_eq_false c16
              clear c16
              replace H := Option.bind_eq_some_iff.mp H
              obtain ⟨t115, A710, H⟩ := H
              replace H : (some (t115, x5_1)) = some (r1, r2) := H
              have A71 := Aside0.mk A710
              clear A710
              simp only [Option.some.injEq, Prod.mk.injEq] at H
              obtain ⟨rfl, rfl⟩ := H
              obtain ⟨Ao72, co72, eo72⟩ := Kd.R_slice HO_4.out
              subst eo72
              go_wp2_with (first | ((with_reducible refine gate_callee (f := 76) rfl ?_); refine goesL_ (some 91) rfl rfl Try.func76 (by kernel_rfl) rfl #[.slice Ao72 x4_1.length co72] rfl (by (try simp only [List.map_toArray, List.map_cons, List.map_nil]); first | done | rfl | (simp only [List.length_drop, List.length_take]; rfl)) ?_; (with_reducible refine (whole_trim.calls (fun k_ => some k_ = (.slice Ao72 x4_1.length co72 : Value).ownBlock) _ _ x4_1 t115 _ ?side1 A71.out).mono ?_); (case side1 => exact Kd.R_V (Kd.R_tight rfl (HO_4.out))); rintro e w73 ⟨v116, rfl, ho0, hb⟩; refine ⟨_, rfl, ?_⟩; have n0_ := Aside0.mk (Kd.R_below (by (with_reducible repeat (first | apply Kd.R_alloc | apply Kd.R_drewN | apply Kd.R_drew)); exact HO_4.out) hb); have n1_ := Aside0.mk (Kd.V_below (by (with_reducible repeat (first | apply Kd.V_alloc | apply Kd.V_drewN | apply Kd.V_drew)); exact HO_5.out) hb); have n2_ := Aside0.mk (Kd.V_lower (Kd.V_mono (ok' := fun k_ => (w.heap.size ≤ k_)) ho0 (fun k_ hk_ => Or.elim hk_ (fun hs_ => ((HO_4.out).1 k_ hs_.symm)) (fun hn_ => (Nat.le_trans (below_size (by repeat (first | (with_reducible first | exact HB.out | apply below_alloc | apply pw_below_drewN | apply below_drew1) | exact HB.out))) hn_)))) (below_size (by repeat (first | (with_reducible first | exact HB.out | apply below_alloc | apply pw_below_drewN | apply below_drew1) | exact HB.out)))); have n3_ := Aside0.mk (below_step (by repeat (first | (with_reducible first | exact HB.out | apply below_alloc | apply pw_below_drewN | apply below_drew1) | exact HB.out)) hb); clear HO_4; clear HO_5; clear HB; have HO_4 := n0_; have HO_5 := n1_; have HO117 := n2_; have HB := n3_; clear n0_ n1_ n2_ n3_; (try clear hb); (try clear hb2); (try clear hk); (try clear hi); (try clear ho0)))
              go_ret2
              exact ⟨_, _, by first | rfl | (simp [errW_none, errW_some] <;> rfl) | (simp [*, errW_none, errW_some] <;> rfl), by (with_reducible repeat (first | apply Kd.V_alloc | apply Kd.V_drewN | apply Kd.V_drew)); exact HO117.out, by (with_reducible repeat (first | apply Kd.V_alloc | apply Kd.V_drewN | apply Kd.V_drew)); exact Kd.V_mono HO_5.out (fun _ hk => hk.1), by repeat (first | (with_reducible first | exact HB.out | apply below_alloc | apply pw_below_drewN | apply below_drew1) | exact HB.out)⟩
      · rw [if_neg c13] at H
        exact absurd H (by simp)
    · rw [if_neg c12] at H
      exact absurd H (by simp)
end Go.Proofs.Ytnghcgmkncbnnaa.X
end
