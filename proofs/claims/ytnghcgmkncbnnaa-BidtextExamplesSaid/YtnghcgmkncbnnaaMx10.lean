/- Part 10 of the proof: A string cloned, as the library does it. The token of a run of bytes. Stores of whole variables behind which the world has a name of its own; worlds that differ at one block alone. The next token of a text. What a reader of a text asks of its next token: Expect, ExpectWord, ExpectInt, Peek. Tokens and their texts, in plain Lean. The texts of integers as rationals, and of tokens. What a reader of a text asks of its next token: ExpectWord, ExpectInt, Peek. The reader of bidtext: take, begin, number, int. The reader of bidtext: one step of a curve. The reader of bidtext: the steps of a curve, one behind the other. several of bidtext: the steps of a curve. Package step: what is wrong with a curv -/
import Derived.BigQuiet
import Derived.Laws.MakeOwn
import Derived.Lib.BufferWrite
import Derived.Lib.Strings
import Derived.Lib.UnsafeStr
import Derived.Lib.Walk
import Derived.WalkMore
import Derived.Test.YtnghcgmkncbnnaaMx6
import Derived.Test.YtnghcgmkncbnnaaMx8
import Derived.Test.YtnghcgmkncbnnaaMx9
set_option linter.unusedVariables false
set_option linter.unusedSimpArgs false
section
namespace Go.Proofs.Ytnghcgmkncbnnaa
open Go.RowKit Go.Proofs.YtnghcgmkncbnnaaW.PrintWords Go.Proofs.YtnghcgmkncbnnaaW.PrintLast Go.Proofs.YtnghcgmkncbnnaaW.PrintMore
namespace Ar
open Wd
set_option maxHeartbeats 4000000 in
set_option maxRecDepth 100000 in
theorem cloneS_c (s : ByteArray) (w : World) (hlim : s.size ≤ 281474976710656) :
    Calls Try.prog 78 #[.string s] w fun e w' => e = .returned (.string s) ∧ Below w.heap.size w w' := by
  by_cases h0 : s.size = 0
  · have hs : s = ⟨#[]⟩ := by
      apply ByteArray.ext
      exact Array.eq_empty_of_size_eq_zero h0
    subst hs
    go_enter Try.func78, Try.ntmps78
    go_wp2
    go_ret
    exact ⟨rfl, Below.refl _ _⟩
  · have L37 := Try.underlying25
    have L47 := Try.underlying116
    have hI : (Try.prog.info? 5).map (fun i => (i.zero, i.size, i.bytes)) = some (some (.int .u8 0), 1, 1) := by kernel_rfl
    obtain ⟨i0, hi, hz0, hz1, hz2⟩ := info_parts hI
    have hinfo : (Try.prog.info? 5).map (·.size) = some 1 := by rw [hi]; simp [hz1]
    have hco : Try.prog.cellsOf 5 = 1 := by simp [Program.cellsOf, hi, hz1]
    obtain ⟨M, hM⟩ : ∃ M, M = madeCells (Value.int .u8 0).cells (((s.size : Nat) : Int).toNat * i0.size) := ⟨_, rfl⟩
    have hMs : M.size = s.size := by rw [hM, size_madeCells, hz1]; simp
    have hmk : ∀ W : World, (Instr.makeSlice 25 (.int .i64 (s.size : Int)) (.int .i64 (s.size : Int))).run Try.prog W = .ok (.slice (some ⟨W.heap.size, 0, none⟩) s.size s.size) (W.alloc (.cells M 5)) := fun W => by
      have h := run_make (P := Try.prog) W 25 5 i0 (.int .u8 0) L37 hi hz0 .i64 .i64 (s.size : Int) (s.size : Int) (by omega) (by omega) (by rw [hz2]; omega) (by omega)
      rw [← hM] at h
      simpa using h
    clear hM
    have hcp := Lib.run_copy_row_string (P := Try.prog) (w.alloc (.cells M 5)) 25 9 3 5 w.heap.size 0 s.size s.size s M 5 L37 hinfo (heap_alloc_new w _) (Nat.le_refl _) (by omega)
    obtain ⟨Y, hY⟩ : ∃ Y, Y = (M.toList.take 0 ++ Lib.byteCells s.data.toList ++ M.toList.drop (0 + s.size)).toArray := ⟨_, rfl⟩
    rw [← hY] at hcp
    have hYl : Y.toList = Lib.byteCells s.data.toList := by
      rw [hY, List.toList_toArray, List.take_zero, List.nil_append, List.drop_of_length_le (by rw [Array.length_toList]; omega), List.append_nil]
    have hYs : Y.size = s.size := by rw [← Array.length_toList, hYl, Lib.byteCells_length, ← Lib.size_eq]
    have hgY : ((w.alloc (.cells M 5)).setRow w.heap.size Y).heap[w.heap.size]? = some (.cells Y 5 (0, 0)) := setRow_heap _ _ M _ 5 (0, 0) (heap_alloc_new w _)
    have hne : s.data.toList ≠ [] := fun e => h0 (by rw [Lib.size_eq, e]; rfl)
    have hUS := Lib.run_unsafeString_row (P := Try.prog) ((w.alloc (.cells M 5)).setRow w.heap.size Y) 116 3 9 5 L47 hco w.heap.size Y.size (by unfold World.shape?; rw [hgY]) s.data.toList hne (by rw [← Lib.size_eq]; omega) (by rw [← Lib.size_eq]; omega)
      (fun j x hx => Lib.cells_of_row hgY Y.size j _ (by rw [List.take_of_length_le (by rw [Array.length_toList]; exact Nat.le_refl _), hYl]; simp [Lib.byteCells, hx]))
    rw [← Lib.size_eq] at hUS
    clear hY
    go_enter Try.func78, Try.ntmps78
    go_wp2
    go_ret
    have hb1 : Below w.heap.size w (w.alloc (.cells M 5)) := (Below.refl _ w).alloc (Nat.le_refl _) _
    have hb2 : Below w.heap.size (w.alloc (.cells M 5)) ((w.alloc (.cells M 5)).setRow w.heap.size Y) := ⟨rfl, rfl, rfl, by simp, fun k hk => setRow_other _ _ _ _ (by omega)⟩
    exact ⟨rfl, Lib.below_freeze (hb1.trans hb2) (p := ⟨w.heap.size, 0, none⟩) (Nat.le_refl _) _⟩
set_option maxHeartbeats 4000000 in
set_option maxRecDepth 100000 in
theorem strClone_c (s : ByteArray) (w : World) (hlim : s.size ≤ 281474976710656) :
    Calls Try.prog 69 #[.string s] w fun e w' => e = .returned (.string s) ∧ Below w.heap.size w w' := by
  go_enter Try.func69, Try.ntmps69
  go_wp2_with (go_at_call 78; refine (cloneS_c s _ hlim).mono ?_; rintro e w1 ⟨rfl, hb⟩)
  go_ret
  exact ⟨rfl, hb⟩
end Ar
end Go.Proofs.Ytnghcgmkncbnnaa
end
section
namespace Go.Proofs.Ytnghcgmkncbnnaa
open Go.RowKit Go.Proofs.YtnghcgmkncbnnaaW.PrintWords Go.Proofs.YtnghcgmkncbnnaaW.PrintLast Go.Proofs.YtnghcgmkncbnnaaW.PrintMore
namespace Ar
open Wd
structure Tk where mk ::
  k : Int
  t : ByteArray
  n : Int
  d : Int
def noTk : Tk := ⟨0, ⟨#[]⟩, 0, 0⟩
def TV (W : World) (ok : Nat → Prop) (v : Value) (x : Tk) : Prop := ∃ (b : Bool) (A : Option Addr) (r : List Int) (c : Nat) (b' : Bool) (A' : Option Addr) (r' : List Int) (c' : Nat), v = .agg #[.int .u8 x.k, .string x.t, .bool b, .slice A r.length c, .bool b', .slice A' r'.length c'] ∧ Hid (b = decide (x.n < 0) ∧ r = digs x.n.natAbs ∧ b' = decide (x.d < 0) ∧ r' = digs x.d.natAbs) ∧ Uv W ok (.slice A r.length c) r ∧ Uv W ok (.slice A' r'.length c') r'
abbrev tkObj (k : Int) (t : ByteArray) (a b c d : Value) : Obj := .cells #[.int .u8 k, .string t, a, b, c, d] 80
abbrev nilT : Array Value := #[.int .u8 0, .string ⟨#[]⟩, .bool false, .slice none 0 0, .bool false, .slice none 0 0]
theorem TV.nil (W : World) (ok : Nat → Prop) (k : Int) (t : ByteArray) : TV W ok (.agg #[.int .u8 k, .string t, .bool false, .slice none 0 0, .bool false, .slice none 0 0]) ⟨k, t, 0, 0⟩ := ⟨false, none, [], 0, false, none, [], 0, rfl, ⟨rfl, rfl, rfl, rfl⟩, Uv.nil _ _, Uv.nil _ _⟩
theorem setT {B : Nat} {w W : World} (h : Below B w W) {g : Nat} (hg : B ≤ g) (a b c d e f : Value) : Below B w ((((((W.setCell ⟨g, 0, none⟩ a).setCell ⟨g, 1, none⟩ b).setCell ⟨g, 2, none⟩ c).setCell ⟨g, 3, none⟩ d).setCell ⟨g, 4, none⟩ e).setCell ⟨g, 5, none⟩ f) :=
  ((((((h.setCell (p := ⟨g, 0, none⟩) hg _).setCell (p := ⟨g, 1, none⟩) hg _).setCell (p := ⟨g, 2, none⟩) hg _).setCell (p := ⟨g, 3, none⟩) hg _).setCell (p := ⟨g, 4, none⟩) hg _).setCell (p := ⟨g, 5, none⟩) hg _)
theorem Uv.setT {W : World} {ok : Nat → Prop} {v : Value} {l : List Int} (hu : Uv W ok v l) {g : Nat} (hg : ∀ k, ok k → k ≠ g) (a b c d e f : Value) : Uv ((((((W.setCell ⟨g, 0, none⟩ a).setCell ⟨g, 1, none⟩ b).setCell ⟨g, 2, none⟩ c).setCell ⟨g, 3, none⟩ d).setCell ⟨g, 4, none⟩ e).setCell ⟨g, 5, none⟩ f) ok v l :=
  ((((((hu.far (p := ⟨g, 0, none⟩) hg _).far (p := ⟨g, 1, none⟩) hg _).far (p := ⟨g, 2, none⟩) hg _).far (p := ⟨g, 3, none⟩) hg _).far (p := ⟨g, 4, none⟩) hg _).far (p := ⟨g, 5, none⟩) hg _)
def runS (w : ByteArray) (r : Bool) : Tk × Int :=
  if w.size = 0 then (noTk, 3) else if sk w isLet 0 = w.size then (⟨3, w, 0, 0⟩, 0) else if ¬ sk w isDig 0 = w.size then (noTk, 3) else
    if (pQ w r).2.2 = 0 then (⟨4, ⟨#[]⟩, (pQ w r).1, (pQ w r).2.1⟩, 0) else (noTk, (pQ w r).2.2)
set_option maxRecDepth 100000 in
set_option maxHeartbeats 8000000 in
theorem run_c {w : World} (s : ByteArray) (hs : s.size < 1048576) (r : Bool) (hI : zErr (qA s) = 0 → pDe s = 0 → ¬ (qTwo s = true ∧ pD s = 0) → IcAt (zOf (qA s)) (pD s) r) :
    Calls Try.prog 57 #[.string s] w fun e w' => ∃ v, e = .returned (.tuple #[v, .int .i64 (runS s r).2]) ∧ TV w' (fun k => w.heap.size ≤ k) v (runS s r).1 ∧ Below w.heap.size w w' := by
  have hT := Try.underlying111
  have hK := Try.underlying80
  have hQ := Try.underlying78
  have hb0 := below_alloc (Below.refl _ w) (.cells nilT 80)
  have k0 := blk_new w (.cells nilT 80)
  obtain ⟨x, er, hP⟩ : ∃ x er, (x, er) = runS s r := ⟨_, _, rfl⟩
  rw [← hP]
  have HE : Hid (∀ (W : World) (z : Int), (x = noTk ∧ er = z) → Below w.heap.size w W → ∃ v, Ending.returned (.tuple #[.agg nilT, .int .i64 z]) = .returned (.tuple #[v, .int .i64 er]) ∧ TV W (fun k => w.heap.size ≤ k) v x ∧ Below w.heap.size w W) := by
    rintro W z ⟨rfl, rfl⟩ hB
    exact ⟨_, rfl, TV.nil _ _ _ _, hB⟩
  have HQ := Lib.hid (fun (W : World) => ParseQ_c (w := W) s hs r hI)
  clear hI
  go_enter Try.func57, Try.ntmps57
  by_cases h0 : s.size = 0
  · have hem : s.toList.isEmpty = true := isEmpty_of h0
    have HX : Hid (x = noTk ∧ er = 3) := by unfold runS at hP; rw [if_pos h0] at hP; cases hP; exact ⟨rfl, rfl⟩
    clear hP
    go_wp2
    refine bodyPost_ret (results_list (rs := [.cell 2 80, .tmp 3]) rfl (by simp) (.cell w.heap.size 80 nilT (0, 0) _ rfl k0 Try.underlying80 rfl (by kernel_rfl) (.tmp .nil))) rfl ?_
    exact HE.out _ _ HX.out hb0
  · have hem : s.toList.isEmpty = false := isEmpty_not h0
    by_cases hL : sk s isLet 0 = s.size
    · have hLb : (((sk s isLet 0 : Nat) : Int) == (s.size : Int)) = true := by rw [hL]; exact beq_self_eq_true _
      have HX : Hid (x = ⟨3, s, 0, 0⟩ ∧ er = 0) := by unfold runS at hP; rw [if_neg h0, if_pos hL] at hP; cases hP; exact ⟨rfl, rfl⟩
      clear hP
      go_wp2_with (first | (go_at_call 55; refine (letters_c _).mono ?_; rintro e w1 ⟨rfl, hb1⟩; have hB1 := below_step hb0 hb1; have i1 := blk_below k0 hb1) | (go_at_call_of 53 (Value.slice (some ⟨w1.heap.size, 0, none⟩) 1 1); refine (skipLet_c s hs w1.heap.size 0 (Nat.zero_le _) (blk_new w1 _)).mono ?_; rintro e w2 ⟨rfl, hb2⟩; have hB2 := below_step (below_alloc hB1 (.cells #[fnV 67] 111)) hb2; have i2 := blk_below (blk_alloc i1 (.cells #[fnV 67] 111)) hb2; have hx0 := blk_cell i2 0; have hx1 := blk_cell i2 1; have hx2 := blk_cell i2 2; have hx3 := blk_cell i2 3; have hx4 := blk_cell i2 4; have hx5 := blk_cell i2 5; have hxf0 := blk_frozen i2 0; have hxf1 := blk_frozen i2 1; have hxf2 := blk_frozen i2 2; have hxf3 := blk_frozen i2 3; have hxf4 := blk_frozen i2 4; have hxf5 := blk_frozen i2 5) | (go_at_call 69; refine (strClone_c s _ (by omega)).mono ?_; rintro e w3 ⟨rfl, hb3⟩; have hB3 := below_step hB2 hb3; have i3 := blk_below i2 hb3; have hy0 := blk_cell i3 0; have hy1 := blk_cell i3 1; have hy2 := blk_cell i3 2; have hy3 := blk_cell i3 3; have hy4 := blk_cell i3 4; have hy5 := blk_cell i3 5; have hyf0 := blk_frozen i3 0; have hyf1 := blk_frozen i3 1; have hyf2 := blk_frozen i3 2; have hyf3 := blk_frozen i3 3; have hyf4 := blk_frozen i3 4; have hyf5 := blk_frozen i3 5))
      refine bodyPost_ret (results_list (rs := [.cell 2 80, .tmp 3]) rfl (by simp) (.cell w.heap.size 80 #[.int .u8 3, .string s, .bool false, .slice none 0 0, .bool false, .slice none 0 0] (0, 0) _ rfl (blk_set (blk_set (blk_set (blk_set (blk_set (blk_set i3 0 _) 1 _) 2 _) 3 _) 4 _) 5 _) Try.underlying80 rfl (by kernel_rfl) (.tmp .nil))) rfl ?_
      obtain ⟨rfl, rfl⟩ := HX.out
      exact ⟨_, rfl, TV.nil _ _ _ _, setT hB3 (Nat.le_refl _) _ _ _ _ _ _⟩
    · have hLb : (((sk s isLet 0 : Nat) : Int) == (s.size : Int)) = false := by rw [beq_eq_false_iff_ne]; omega
      by_cases hD : sk s isDig 0 = s.size
      · have hDb : (((sk s isDig 0 : Nat) : Int) != (s.size : Int)) = false := by rw [hD]; exact bne_self_eq_false _
        unfold runS at hP
        rw [if_neg h0, if_neg hL, if_neg (by simpa using hD)] at hP
        obtain ⟨qn, qd, qe, hq⟩ : ∃ a b c, pQ s r = (a, b, c) := ⟨_, _, _, rfl⟩
        rw [hq] at hP HQ
        clear hq hL hD
        by_cases he : qe = 0
        · subst he
          have HX : Hid (x = ⟨4, ⟨#[]⟩, qn, qd⟩ ∧ er = 0) := by rw [if_pos rfl] at hP; cases hP; exact ⟨rfl, rfl⟩
          clear hP
          go_wp2_with (first | (go_at_call 55; refine (letters_c _).mono ?_; rintro e w1 ⟨rfl, hb1⟩; have hB1 := below_step hb0 hb1; have i1 := blk_below k0 hb1) | (go_at_call_of 53 (Value.slice (some ⟨w1.heap.size, 0, none⟩) 1 1); refine (skipLet_c s hs w1.heap.size 0 (Nat.zero_le _) (blk_new w1 _)).mono ?_; rintro e w2 ⟨rfl, hb2⟩; have hB2 := below_step (below_alloc hB1 (.cells #[fnV 67] 111)) hb2; have i2 := blk_below (blk_alloc i1 (.cells #[fnV 67] 111)) hb2; have hx0 := blk_cell i2 0; have hx1 := blk_cell i2 1; have hx2 := blk_cell i2 2; have hx3 := blk_cell i2 3; have hx4 := blk_cell i2 4; have hx5 := blk_cell i2 5; have hxf0 := blk_frozen i2 0; have hxf1 := blk_frozen i2 1; have hxf2 := blk_frozen i2 2; have hxf3 := blk_frozen i2 3; have hxf4 := blk_frozen i2 4; have hxf5 := blk_frozen i2 5) | (go_at_call 56; refine (digits_c _).mono ?_; rintro e w3 ⟨rfl, hb3⟩; have hB3 := below_step hB2 hb3; have i3 := blk_below i2 hb3) | (go_at_call_of 53 (Value.slice (some ⟨w3.heap.size, 0, none⟩) 1 1); refine (skipDig_c s hs w3.heap.size 0 (Nat.zero_le _) (blk_new w3 _)).mono ?_; rintro e w4 ⟨rfl, hb4⟩; have hB4 := below_step (below_alloc hB3 (.cells #[fnV 68] 111)) hb4; have i4 := blk_below (blk_alloc i3 (.cells #[fnV 68] 111)) hb4; have hy0 := blk_cell i4 0; have hy1 := blk_cell i4 1; have hy2 := blk_cell i4 2; have hy3 := blk_cell i4 3; have hy4 := blk_cell i4 4; have hy5 := blk_cell i4 5; have hyf0 := blk_frozen i4 0; have hyf1 := blk_frozen i4 1; have hyf2 := blk_frozen i4 2; have hyf3 := blk_frozen i4 3; have hyf4 := blk_frozen i4 4; have hyf5 := blk_frozen i4 5) | (go_at_call 70; refine (HQ.out _).mono ?_; rintro e w5 ⟨v5, rfl, hv5, hb5⟩; obtain ⟨b, A, r, c, b', A', r', c', rfl, H5, hu5, hu5'⟩ := hv5; have hB5 := below_step (below_step hB4 hb5) (below_alloc (Below.refl _ w5) (qObj (.bool b) (.slice A r.length c) (.bool b') (.slice A' r'.length c'))); have i5 := blk_alloc (blk_below i4 hb5) (qObj (.bool b) (.slice A r.length c) (.bool b') (.slice A' r'.length c')); have kq := blk_new w5 (qObj (.bool b) (.slice A r.length c) (.bool b') (.slice A' r'.length c')); have hz0 := blk_cell i5 0; have hz1 := blk_cell i5 1; have hz2 := blk_cell i5 2; have hz3 := blk_cell i5 3; have hz4 := blk_cell i5 4; have hz5 := blk_cell i5 5; have hzf0 := blk_frozen i5 0; have hzf1 := blk_frozen i5 1; have hzf2 := blk_frozen i5 2; have hzf3 := blk_frozen i5 3; have hzf4 := blk_frozen i5 4; have hzf5 := blk_frozen i5 5; have hq0 := blk_cell kq 0; have hq1 := blk_cell kq 1; have hq2 := blk_cell kq 2; have hq3 := blk_cell kq 3; have hqf0 := blk_frozen kq 0; have hqf1 := blk_frozen kq 1; have hqf2 := blk_frozen kq 2; have hqf3 := blk_frozen kq 3))
          refine bodyPost_ret (results_list (rs := [.cell 2 80, .tmp 3]) rfl (by simp) (.cell w.heap.size 80 #[.int .u8 4, .string ⟨#[]⟩, .bool b, .slice A r.length c, .bool b', .slice A' r'.length c'] (0, 0) _ rfl (blk_set (blk_set (blk_set (blk_set (blk_set (blk_set i5 0 _) 1 _) 2 _) 3 _) 4 _) 5 _) Try.underlying80 rfl (by kernel_rfl) (.tmp .nil))) rfl ?_
          obtain ⟨rfl, rfl⟩ := HX.out
          have hs4 : w.heap.size + 1 ≤ w4.heap.size := blk_lt i4
          exact ⟨_, rfl, ⟨b, A, r, c, b', A', r', c', rfl, H5, ((hu5.alloc _).setT (fun k hk => by omega) _ _ _ _ _ _).mono (fun k hk => by omega), ((hu5'.alloc _).setT (fun k hk => by omega) _ _ _ _ _ _).mono (fun k hk => by omega)⟩, setT hB5 (Nat.le_refl _) _ _ _ _ _ _⟩
        · have heb : (qe != 0) = true := bne_iff_ne.2 he
          have HX : Hid (x = noTk ∧ er = qe) := by rw [if_neg he] at hP; cases hP; exact ⟨rfl, rfl⟩
          clear hP
          go_wp2_with (first | (go_at_call 55; refine (letters_c _).mono ?_; rintro e w1 ⟨rfl, hb1⟩; have hB1 := below_step hb0 hb1; have i1 := blk_below k0 hb1) | (go_at_call_of 53 (Value.slice (some ⟨w1.heap.size, 0, none⟩) 1 1); refine (skipLet_c s hs w1.heap.size 0 (Nat.zero_le _) (blk_new w1 _)).mono ?_; rintro e w2 ⟨rfl, hb2⟩; have hB2 := below_step (below_alloc hB1 (.cells #[fnV 67] 111)) hb2; have i2 := blk_below (blk_alloc i1 (.cells #[fnV 67] 111)) hb2; have hx0 := blk_cell i2 0; have hx1 := blk_cell i2 1; have hx2 := blk_cell i2 2; have hx3 := blk_cell i2 3; have hx4 := blk_cell i2 4; have hx5 := blk_cell i2 5; have hxf0 := blk_frozen i2 0; have hxf1 := blk_frozen i2 1; have hxf2 := blk_frozen i2 2; have hxf3 := blk_frozen i2 3; have hxf4 := blk_frozen i2 4; have hxf5 := blk_frozen i2 5) | (go_at_call 56; refine (digits_c _).mono ?_; rintro e w3 ⟨rfl, hb3⟩; have hB3 := below_step hB2 hb3; have i3 := blk_below i2 hb3) | (go_at_call_of 53 (Value.slice (some ⟨w3.heap.size, 0, none⟩) 1 1); refine (skipDig_c s hs w3.heap.size 0 (Nat.zero_le _) (blk_new w3 _)).mono ?_; rintro e w4 ⟨rfl, hb4⟩; have hB4 := below_step (below_alloc hB3 (.cells #[fnV 68] 111)) hb4; have i4 := blk_below (blk_alloc i3 (.cells #[fnV 68] 111)) hb4; have hy0 := blk_cell i4 0; have hy1 := blk_cell i4 1; have hy2 := blk_cell i4 2; have hy3 := blk_cell i4 3; have hy4 := blk_cell i4 4; have hy5 := blk_cell i4 5; have hyf0 := blk_frozen i4 0; have hyf1 := blk_frozen i4 1; have hyf2 := blk_frozen i4 2; have hyf3 := blk_frozen i4 3; have hyf4 := blk_frozen i4 4; have hyf5 := blk_frozen i4 5) | (go_at_call 70; refine (HQ.out _).mono ?_; rintro e w5 ⟨v5, rfl, hv5, hb5⟩; obtain ⟨b, A, r, c, b', A', r', c', rfl, H5, hu5, hu5'⟩ := hv5; have hB5 := below_step (below_step hB4 hb5) (below_alloc (Below.refl _ w5) (qObj (.bool b) (.slice A r.length c) (.bool b') (.slice A' r'.length c'))); have i5 := blk_alloc (blk_below i4 hb5) (qObj (.bool b) (.slice A r.length c) (.bool b') (.slice A' r'.length c')); have kq := blk_new w5 (qObj (.bool b) (.slice A r.length c) (.bool b') (.slice A' r'.length c')); have hz0 := blk_cell i5 0; have hz1 := blk_cell i5 1; have hz2 := blk_cell i5 2; have hz3 := blk_cell i5 3; have hz4 := blk_cell i5 4; have hz5 := blk_cell i5 5; have hzf0 := blk_frozen i5 0; have hzf1 := blk_frozen i5 1; have hzf2 := blk_frozen i5 2; have hzf3 := blk_frozen i5 3; have hzf4 := blk_frozen i5 4; have hzf5 := blk_frozen i5 5; have hq0 := blk_cell kq 0; have hq1 := blk_cell kq 1; have hq2 := blk_cell kq 2; have hq3 := blk_cell kq 3; have hqf0 := blk_frozen kq 0; have hqf1 := blk_frozen kq 1; have hqf2 := blk_frozen kq 2; have hqf3 := blk_frozen kq 3))
          refine bodyPost_ret (results_list (rs := [.cell 2 80, .tmp 3]) rfl (by simp) (.cell w.heap.size 80 nilT (0, 0) _ rfl (blk_set (blk_set (blk_set (blk_set (blk_set (blk_set i5 0 _) 1 _) 2 _) 3 _) 4 _) 5 _) Try.underlying80 rfl (by kernel_rfl) (.tmp .nil))) rfl ?_
          exact HE.out _ _ HX.out (setT hB5 (Nat.le_refl _) _ _ _ _ _ _)
      · have hDb : (((sk s isDig 0 : Nat) : Int) != (s.size : Int)) = true := by rw [bne_iff_ne]; omega
        have HX : Hid (x = noTk ∧ er = 3) := by unfold runS at hP; rw [if_neg h0, if_neg hL, if_pos hD] at hP; cases hP; exact ⟨rfl, rfl⟩
        clear hP
        go_wp2_with (first | (go_at_call 55; refine (letters_c _).mono ?_; rintro e w1 ⟨rfl, hb1⟩; have hB1 := below_step hb0 hb1; have i1 := blk_below k0 hb1) | (go_at_call_of 53 (Value.slice (some ⟨w1.heap.size, 0, none⟩) 1 1); refine (skipLet_c s hs w1.heap.size 0 (Nat.zero_le _) (blk_new w1 _)).mono ?_; rintro e w2 ⟨rfl, hb2⟩; have hB2 := below_step (below_alloc hB1 (.cells #[fnV 67] 111)) hb2; have i2 := blk_below (blk_alloc i1 (.cells #[fnV 67] 111)) hb2; have hx0 := blk_cell i2 0; have hx1 := blk_cell i2 1; have hx2 := blk_cell i2 2; have hx3 := blk_cell i2 3; have hx4 := blk_cell i2 4; have hx5 := blk_cell i2 5; have hxf0 := blk_frozen i2 0; have hxf1 := blk_frozen i2 1; have hxf2 := blk_frozen i2 2; have hxf3 := blk_frozen i2 3; have hxf4 := blk_frozen i2 4; have hxf5 := blk_frozen i2 5) | (go_at_call 56; refine (digits_c _).mono ?_; rintro e w3 ⟨rfl, hb3⟩; have hB3 := below_step hB2 hb3; have i3 := blk_below i2 hb3) | (go_at_call_of 53 (Value.slice (some ⟨w3.heap.size, 0, none⟩) 1 1); refine (skipDig_c s hs w3.heap.size 0 (Nat.zero_le _) (blk_new w3 _)).mono ?_; rintro e w4 ⟨rfl, hb4⟩; have hB4 := below_step (below_alloc hB3 (.cells #[fnV 68] 111)) hb4; have i4 := blk_below (blk_alloc i3 (.cells #[fnV 68] 111)) hb4; have hy0 := blk_cell i4 0; have hy1 := blk_cell i4 1; have hy2 := blk_cell i4 2; have hy3 := blk_cell i4 3; have hy4 := blk_cell i4 4; have hy5 := blk_cell i4 5; have hyf0 := blk_frozen i4 0; have hyf1 := blk_frozen i4 1; have hyf2 := blk_frozen i4 2; have hyf3 := blk_frozen i4 3; have hyf4 := blk_frozen i4 4; have hyf5 := blk_frozen i4 5))
        refine bodyPost_ret (results_list (rs := [.cell 2 80, .tmp 3]) rfl (by simp) (.cell w.heap.size 80 nilT (0, 0) _ rfl (blk_set (blk_set (blk_set (blk_set (blk_set (blk_set i4 0 _) 1 _) 2 _) 3 _) 4 _) 5 _) Try.underlying80 rfl (by kernel_rfl) (.tmp .nil))) rfl ?_
        exact HE.out _ _ HX.out (setT hB4 (Nat.le_refl _) _ _ _ _ _ _)
end Ar
end Go.Proofs.Ytnghcgmkncbnnaa
end
section
namespace Go.Proofs.Ytnghcgmkncbnnaa
open Go.RowKit Go.Proofs.YtnghcgmkncbnnaaW.PrintWords Go.Proofs.YtnghcgmkncbnnaaW.PrintLast Go.Proofs.YtnghcgmkncbnnaaW.PrintMore
namespace Ar
open Wd
structure But (g : Nat) (w w' : World) : Prop where
  os : w'.os = w.os
  tape : w'.tape = w.tape
  output : w'.output = w.output
  size : w.heap.size ≤ w'.heap.size
  block : ∀ k, k < w.heap.size → k ≠ g → w'.heap[k]? = w.heap[k]?
theorem But.refl (g : Nat) (w : World) : But g w w := ⟨rfl, rfl, rfl, Nat.le_refl _, fun _ _ _ => rfl⟩
theorem But.trans {g : Nat} {a b c : World} (h : But g a b) (k : But g b c) : But g a c :=
  ⟨k.os.trans h.os, k.tape.trans h.tape, k.output.trans h.output, Nat.le_trans h.size k.size, fun i hi hn => (k.block i (Nat.lt_of_lt_of_le hi h.size) hn).trans (h.block i hi hn)⟩
theorem But.of_below {w w' : World} (h : Below w.heap.size w w') (g : Nat) : But g w w' := ⟨h.os, h.tape, h.output, h.size, fun k hk _ => h.block k hk⟩
theorem But.step {g : Nat} {w W w' : World} (h : But g w W) (k : Below W.heap.size W w') : But g w w' := h.trans (.of_below k g)
theorem But.set {w W : World} {g : Nat} (h : But g w W) (i : Nat) (u : Value) : But g w (W.setCell ⟨g, i, none⟩ u) :=
  ⟨h.os, h.tape, h.output, Nat.le_trans h.size (Nat.le_of_eq (by simp [World.setCell])), fun k hk hn => (Below.heap_setCell W ⟨g, i, none⟩ u k hn).trans (h.block k hk hn)⟩
theorem But.set_new {w W : World} {g g' : Nat} (h : But g w W) (hg : w.heap.size ≤ g') (i : Nat) (u : Value) : But g w (W.setCell ⟨g', i, none⟩ u) :=
  ⟨h.os, h.tape, h.output, Nat.le_trans h.size (Nat.le_of_eq (by simp [World.setCell])), fun k hk hn => (Below.heap_setCell W ⟨g', i, none⟩ u k (show k ≠ g' by omega)).trans (h.block k hk hn)⟩
theorem But.below {w W w' : World} {g : Nat} (h : Below w.heap.size w W) (hg : w.heap.size ≤ g) (k : But g W w') : Below w.heap.size w w' :=
  h.trans ⟨k.os, k.tape, k.output, k.size, fun i hi => k.block i (Nat.lt_of_lt_of_le hi h.size) (by omega)⟩
theorem blk_but {w w' : World} {g k : Nat} {o : Obj} (h : w.heap[k]? = some o) (hb : But g w w') (hn : k ≠ g) : w'.heap[k]? = some o := (hb.block k (blk_lt h) hn).trans h
theorem Uv.but {w w' : World} {ok : Nat → Prop} {v : Value} {l : List Int} (h : Uv w ok v l) {g : Nat} (hb : But g w w') (hn : ∀ k, ok k → k ≠ g) : Uv w' ok v l := h.keep (fun k hk hl => hb.block k hl (hn k hk))
theorem TV.but {w w' : World} {ok : Nat → Prop} {v : Value} {x : Tk} (h : TV w ok v x) {g : Nat} (hb : But g w w') (hn : ∀ k, ok k → k ≠ g) : TV w' ok v x := by
  obtain ⟨b, A, r, c, b', A', r', c', hv, hH, h1, h2⟩ := h
  exact ⟨b, A, r, c, b', A', r', c', hv, hH, h1.but hb hn, h2.but hb hn⟩
theorem TV.mono {w : World} {ok ok' : Nat → Prop} {v : Value} {x : Tk} (h : TV w ok v x) (hk : ∀ k, ok k → ok' k) : TV w ok' v x := by
  obtain ⟨b, A, r, c, b', A', r', c', hv, hH, h1, h2⟩ := h
  exact ⟨b, A, r, c, b', A', r', c', hv, hH, h1.mono hk, h2.mono hk⟩
theorem TV.below {w w' : World} {ok : Nat → Prop} {v : Value} {x : Tk} (h : TV w ok v x) (hb : Below w.heap.size w w') : TV w' ok v x := by
  obtain ⟨b, A, r, c, b', A', r', c', hv, hH, h1, h2⟩ := h
  exact ⟨b, A, r, c, b', A', r', c', hv, hH, h1.below hb, h2.below hb⟩
theorem But.setRow {w : World} {g : Nat} (cs : Array Value) : But g w (w.setRow g cs) :=
  ⟨rfl, rfl, rfl, Nat.le_of_eq (setRow_size w g cs).symm, fun k _ hn => setRow_other w g k cs hn⟩
theorem store_op {P : Program} {ops : Array Oper} {rest : List Oper} {o : Oper} {a : Act} {Q : Exit → Act → World → Prop} {W : World} (hgd : o.guard = none) (ty : TypeId) (x y : Operand) (ho : o.op = .store ty x y) (hN : o.dst = none)
    (g : Nat) (cells old : Array Value) (hx : a.eval x = .pointer (some ⟨g, 0, none⟩)) (hy : a.eval y = .agg cells)
    (t : TypeId) (hg : W.heap[g]? = some (.cells old t (0, 0))) (hi : (P.info? ty).map (·.size) = some cells.size)
    (hold : old.size = cells.size) (h1 : cells.all (·.oneCell') = true)
    (h : ∀ w1, w1.heap[g]? = some (.cells cells t (0, 0)) → But g W w1 → wpList P ops Q rest a w1) : wpList P ops Q (o :: rest) a W := by
  refine wpList_store_row hgd ty x y ho g cells hx hy t old hg hi hold h1 ?_
  rw [hN]
  exact h _ (setRow_heap _ _ _ _ _ _ hg) (But.setRow cells)
end Ar
end Go.Proofs.Ytnghcgmkncbnnaa
end
section
namespace Go.Proofs.Ytnghcgmkncbnnaa
open Go.RowKit Go.Proofs.YtnghcgmkncbnnaaW.PrintWords Go.Proofs.YtnghcgmkncbnnaaW.PrintLast Go.Proofs.YtnghcgmkncbnnaaW.PrintMore
namespace Ar
open Wd
def rOf (w : ByteArray) : Bool := decide (isCn (zOf (qA w)) (pD w))
def Hic (w : ByteArray) : Prop := zErr (qA w) = 0 → pDe w = 0 → ¬ (qTwo w = true ∧ pD w = 0) → IcAt (zOf (qA w)) (pD w) (rOf w)
def HicAt (s : ByteArray) (at_ : Int) : Prop := Hic (s.extract (sk s isSep at_.toNat) (sk s (fun b => isLet b || isDig b) (sk s isSep at_.toNat)))
def tkOf (w : ByteArray) : Tk × Int := runS w (rOf w)
abbrev isRun (b : Int) : Bool := isLet b || isDig b
def nextAt (s : ByteArray) (k : Nat) : Tk × Int × Int :=
  if k = s.size then (noTk, 0, 8) else if bt s k = 40 then (⟨1, ⟨#[]⟩, 0, 0⟩, (k + 1 : Nat), 0) else if bt s k = 41 then (⟨2, ⟨#[]⟩, 0, 0⟩, (k + 1 : Nat), 0) else
    if (tkOf (s.extract k (sk s isRun k))).2 = 0 then ((tkOf (s.extract k (sk s isRun k))).1, (sk s isRun k : Nat), 0) else (noTk, 0, (tkOf (s.extract k (sk s isRun k))).2)
def nextS (s : ByteArray) (at_ : Int) : Tk × Int × Int :=
  if 65536 < s.size then (noTk, 0, 5) else if at_ < 0 ∨ (s.size : Int) < at_ then (noTk, 0, 1) else nextAt s (sk s isSep at_.toNat)
theorem skF_le (s : ByteArray) (p : Int → Bool) : ∀ f k, k ≤ skF f s p k ∧ skF f s p k ≤ k + f
  | 0, k => ⟨Nat.le_refl _, Nat.le_refl _⟩
  | f + 1, k => by
    unfold skF
    split
    · have := skF_le s p f (k + 1); omega
    · omega
theorem sk_le (s : ByteArray) (p : Int → Bool) (k : Nat) (h : k ≤ s.size) : k ≤ sk s p k ∧ sk s p k ≤ s.size := by
  have := skF_le s p (s.size - k) k
  unfold sk; omega
set_option maxRecDepth 100000 in
set_option maxHeartbeats 8000000 in
theorem Next_c {w : World} (s : ByteArray) (hs : s.size < 1048576) (at_ : Int) (hI : HicAt s at_) :
    Calls Try.prog 36 #[.string s, .int .i64 at_] w fun e w' => ∃ v, e = .returned (.tuple #[v, .int .i64 (nextS s at_).2.1, .int .i64 (nextS s at_).2.2]) ∧ TV w' (fun k => w.heap.size ≤ k) v (nextS s at_).1 ∧ Below w.heap.size w w' := by
  have hT := Try.underlying111
  have hK := Try.underlying80
  have hb0 := below_alloc (Below.refl _ w) (.cells nilT 80)
  have k0 := blk_new w (.cells nilT 80)
  obtain ⟨x, nx, er, hP⟩ : ∃ x nx er, (x, nx, er) = nextS s at_ := ⟨_, _, _, rfl⟩
  rw [← hP]
  have HE : Hid (∀ (W : World) (z : Int), (x = noTk ∧ nx = 0 ∧ er = z) → Below w.heap.size w W → ∃ v, Ending.returned (.tuple #[.agg nilT, .int .i64 0, .int .i64 z]) = .returned (.tuple #[v, .int .i64 nx, .int .i64 er]) ∧ TV W (fun k => w.heap.size ≤ k) v x ∧ Below w.heap.size w W) := by
    rintro W z ⟨rfl, rfl, rfl⟩ hB
    exact ⟨_, rfl, TV.nil _ _ _ _, hB⟩
  unfold nextS at hP
  go_enter Try.func36, Try.ntmps36
  by_cases hl : 65536 < s.size
  · have hlb : decide ((65536 : Int) < (s.size : Int)) = true := decide_eq_true (by omega)
    have HX : Hid (x = noTk ∧ nx = 0 ∧ er = 5) := by rw [if_pos hl] at hP; cases hP; exact ⟨rfl, rfl, rfl⟩
    clear hP hI
    go_wp2
    refine bodyPost_ret (results_list (rs := [.cell 4 80, .tmp 5, .tmp 6]) rfl (by simp) (.cell w.heap.size 80 nilT (0, 0) _ rfl k0 Try.underlying80 rfl (by kernel_rfl) (.tmp (.tmp .nil)))) rfl ?_
    exact HE.out _ _ HX.out hb0
  · have hlb : decide ((65536 : Int) < (s.size : Int)) = false := decide_eq_false (by omega)
    rw [if_neg hl] at hP
    by_cases ha : at_ < 0
    · have hab : decide (at_ < 0) = true := decide_eq_true ha
      have HX : Hid (x = noTk ∧ nx = 0 ∧ er = 1) := by rw [if_pos (.inl ha)] at hP; cases hP; exact ⟨rfl, rfl, rfl⟩
      clear hP hI
      go_wp2
      refine bodyPost_ret (results_list (rs := [.cell 4 80, .tmp 5, .tmp 6]) rfl (by simp) (.cell w.heap.size 80 nilT (0, 0) _ rfl k0 Try.underlying80 rfl (by kernel_rfl) (.tmp (.tmp .nil)))) rfl ?_
      exact HE.out _ _ HX.out hb0
    · have hab : decide (at_ < 0) = false := decide_eq_false ha
      obtain ⟨k0', rfl⟩ : ∃ n : Nat, at_ = n := ⟨at_.toNat, by omega⟩
      by_cases hg : (s.size : Int) < (k0' : Int)
      · have hgb : decide ((s.size : Int) < (k0' : Int)) = true := decide_eq_true hg
        have HX : Hid (x = noTk ∧ nx = 0 ∧ er = 1) := by rw [if_pos (.inr hg)] at hP; cases hP; exact ⟨rfl, rfl, rfl⟩
        clear hP hI
        go_wp2
        refine bodyPost_ret (results_list (rs := [.cell 4 80, .tmp 5, .tmp 6]) rfl (by simp) (.cell w.heap.size 80 nilT (0, 0) _ rfl k0 Try.underlying80 rfl (by kernel_rfl) (.tmp (.tmp .nil)))) rfl ?_
        exact HE.out _ _ HX.out hb0
      · have hgb : decide ((s.size : Int) < (k0' : Int)) = false := decide_eq_false hg
        rw [if_neg (by omega), Int.toNat_natCast] at hP
        have hk0' : k0' ≤ s.size := by omega
        obtain ⟨k, hk⟩ : ∃ k, sk s isSep k0' = k := ⟨_, rfl⟩
        have hkl := (sk_le s isSep k0' hk0').2
        rw [hk] at hP hkl
        unfold nextAt at hP
        by_cases he : k = s.size
        · have heb : ((k : Int) == (s.size : Int)) = true := by rw [he]; exact beq_self_eq_true _
          have HX : Hid (x = noTk ∧ nx = 0 ∧ er = 8) := by rw [if_pos he] at hP; cases hP; exact ⟨rfl, rfl, rfl⟩
          clear hP hI he
          go_wp2_with (first | (go_at_call 54; refine (separators_c _).mono ?_; rintro e w1 ⟨rfl, hb1⟩; have hB1 := below_step hb0 hb1; have i1 := blk_below k0 hb1) | (go_at_call_of 53 (Value.slice (some ⟨w1.heap.size, 0, none⟩) 1 1); refine (skipSep_c s hs w1.heap.size k0' hk0' (blk_new w1 _)).mono ?_; rw [hk]; rintro e w2 ⟨rfl, hb2⟩; have hB2 := below_step (below_alloc hB1 (.cells #[fnV 66] 111)) hb2; have i2 := blk_below (blk_alloc i1 (.cells #[fnV 66] 111)) hb2; have hx0 := blk_cell i2 0; have hx1 := blk_cell i2 1; have hx2 := blk_cell i2 2; have hx3 := blk_cell i2 3; have hx4 := blk_cell i2 4; have hx5 := blk_cell i2 5; have hxf0 := blk_frozen i2 0; have hxf1 := blk_frozen i2 1; have hxf2 := blk_frozen i2 2; have hxf3 := blk_frozen i2 3; have hxf4 := blk_frozen i2 4; have hxf5 := blk_frozen i2 5))
          refine bodyPost_ret (results_list (rs := [.cell 4 80, .tmp 5, .tmp 6]) rfl (by simp) (.cell w.heap.size 80 nilT (0, 0) _ rfl (blk_set (blk_set (blk_set (blk_set (blk_set (blk_set i2 0 _) 1 _) 2 _) 3 _) 4 _) 5 _) Try.underlying80 rfl (by kernel_rfl) (.tmp (.tmp .nil)))) rfl ?_
          exact HE.out _ _ HX.out (setT hB2 (Nat.le_refl _) _ _ _ _ _ _)
        · have heb : ((k : Int) == (s.size : Int)) = false := by rw [beq_eq_false_iff_ne]; omega
          rw [if_neg he] at hP
          have hlt : k < s.size := by omega
          have hb : ((s[k]'hlt).toNat : Int) = bt s k := bt_at s k hlt
          by_cases h40 : bt s k = 40
          · have h40b : (bt s k == 40) = true := beq_iff_eq.2 h40
            have HX : Hid (x = ⟨1, ⟨#[]⟩, 0, 0⟩ ∧ nx = (k + 1 : Nat) ∧ er = 0) := by rw [if_pos h40] at hP; cases hP; exact ⟨rfl, rfl, rfl⟩
            clear hP hI
            go_wp2_with (first | (go_at_call 54; refine (separators_c _).mono ?_; rintro e w1 ⟨rfl, hb1⟩; have hB1 := below_step hb0 hb1; have i1 := blk_below k0 hb1) | (go_at_call_of 53 (Value.slice (some ⟨w1.heap.size, 0, none⟩) 1 1); refine (skipSep_c s hs w1.heap.size k0' hk0' (blk_new w1 _)).mono ?_; rw [hk]; rintro e w2 ⟨rfl, hb2⟩; have hB2 := below_step (below_alloc hB1 (.cells #[fnV 66] 111)) hb2; have i2 := blk_below (blk_alloc i1 (.cells #[fnV 66] 111)) hb2; have hx0 := blk_cell i2 0; have hx1 := blk_cell i2 1; have hx2 := blk_cell i2 2; have hx3 := blk_cell i2 3; have hx4 := blk_cell i2 4; have hx5 := blk_cell i2 5; have hxf0 := blk_frozen i2 0; have hxf1 := blk_frozen i2 1; have hxf2 := blk_frozen i2 2; have hxf3 := blk_frozen i2 3; have hxf4 := blk_frozen i2 4; have hxf5 := blk_frozen i2 5))
            refine bodyPost_ret (results_list (rs := [.cell 4 80, .tmp 5, .tmp 6]) rfl (by simp) (.cell w.heap.size 80 #[.int .u8 1, .string ⟨#[]⟩, .bool false, .slice none 0 0, .bool false, .slice none 0 0] (0, 0) _ rfl (blk_set (blk_set (blk_set (blk_set (blk_set (blk_set i2 0 _) 1 _) 2 _) 3 _) 4 _) 5 _) Try.underlying80 rfl (by kernel_rfl) (.tmp (.tmp .nil)))) rfl ?_
            obtain ⟨rfl, rfl, rfl⟩ := HX.out
            exact ⟨_, rfl, TV.nil _ _ _ _, setT hB2 (Nat.le_refl _) _ _ _ _ _ _⟩
          · have h40b : (bt s k == 40) = false := beq_eq_false_iff_ne.2 h40
            rw [if_neg h40] at hP
            by_cases h41 : bt s k = 41
            · have h41b : (bt s k == 41) = true := beq_iff_eq.2 h41
              have HX : Hid (x = ⟨2, ⟨#[]⟩, 0, 0⟩ ∧ nx = (k + 1 : Nat) ∧ er = 0) := by rw [if_pos h41] at hP; cases hP; exact ⟨rfl, rfl, rfl⟩
              clear hP hI
              go_wp2_with (first | (go_at_call 54; refine (separators_c _).mono ?_; rintro e w1 ⟨rfl, hb1⟩; have hB1 := below_step hb0 hb1; have i1 := blk_below k0 hb1) | (go_at_call_of 53 (Value.slice (some ⟨w1.heap.size, 0, none⟩) 1 1); refine (skipSep_c s hs w1.heap.size k0' hk0' (blk_new w1 _)).mono ?_; rw [hk]; rintro e w2 ⟨rfl, hb2⟩; have hB2 := below_step (below_alloc hB1 (.cells #[fnV 66] 111)) hb2; have i2 := blk_below (blk_alloc i1 (.cells #[fnV 66] 111)) hb2; have hx0 := blk_cell i2 0; have hx1 := blk_cell i2 1; have hx2 := blk_cell i2 2; have hx3 := blk_cell i2 3; have hx4 := blk_cell i2 4; have hx5 := blk_cell i2 5; have hxf0 := blk_frozen i2 0; have hxf1 := blk_frozen i2 1; have hxf2 := blk_frozen i2 2; have hxf3 := blk_frozen i2 3; have hxf4 := blk_frozen i2 4; have hxf5 := blk_frozen i2 5))
              refine bodyPost_ret (results_list (rs := [.cell 4 80, .tmp 5, .tmp 6]) rfl (by simp) (.cell w.heap.size 80 #[.int .u8 2, .string ⟨#[]⟩, .bool false, .slice none 0 0, .bool false, .slice none 0 0] (0, 0) _ rfl (blk_set (blk_set (blk_set (blk_set (blk_set (blk_set i2 0 _) 1 _) 2 _) 3 _) 4 _) 5 _) Try.underlying80 rfl (by kernel_rfl) (.tmp (.tmp .nil)))) rfl ?_
              obtain ⟨rfl, rfl, rfl⟩ := HX.out
              exact ⟨_, rfl, TV.nil _ _ _ _, setT hB2 (Nat.le_refl _) _ _ _ _ _ _⟩
            · have h41b : (bt s k == 41) = false := beq_eq_false_iff_ne.2 h41
              rw [if_neg h41] at hP
              obtain ⟨e0, hEe⟩ : ∃ e0, sk s isRun k = e0 := ⟨_, rfl⟩
              have hel := sk_le s isRun k (Nat.le_of_lt hlt)
              have hI' : Hic (s.extract k e0) := by
                unfold HicAt at hI
                rw [Int.toNat_natCast, hk] at hI
                exact (show sk s (fun b => isLet b || isDig b) k = e0 from hEe) ▸ hI
              have HEe := Lib.hid (show sk s (fun b => isLet b || isDig b) k = e0 from hEe)
              rw [hEe] at hP hel
              have hel1 := hel.1
              have hel2 := hel.2
              have HR := Lib.hid (fun (W : World) => run_c (w := W) (s.extract k e0) (Nat.lt_of_le_of_lt (extract_size_le _ _ _) hs) (rOf (s.extract k e0)) hI')
              obtain ⟨t, te, htk⟩ : ∃ t te, (t, te) = tkOf (s.extract k e0) := ⟨_, _, rfl⟩
              have htk' : runS (s.extract k e0) (rOf (s.extract k e0)) = (t, te) := htk.symm
              rw [htk'] at HR
              rw [← htk] at hP
              clear htk htk' hEe hel hI hI'
              by_cases ht : te = 0
              · subst ht
                have HX : Hid (x = t ∧ nx = (e0 : Int) ∧ er = 0) := by rw [if_pos rfl] at hP; cases hP; exact ⟨rfl, rfl, rfl⟩
                clear hP
                go_wp2_with (first | (go_at_call 54; refine (separators_c _).mono ?_; rintro e w1 ⟨rfl, hb1⟩; have hB1 := below_step hb0 hb1; have i1 := blk_below k0 hb1) | (go_at_call_of 53 (Value.slice (some ⟨w1.heap.size, 0, none⟩) 1 1); refine (skipSep_c s hs w1.heap.size k0' hk0' (blk_new w1 _)).mono ?_; rw [hk]; rintro e w2 ⟨rfl, hb2⟩; have hB2 := below_step (below_alloc hB1 (.cells #[fnV 66] 111)) hb2; have i2 := blk_below (blk_alloc i1 (.cells #[fnV 66] 111)) hb2; have hx0 := blk_cell i2 0; have hx1 := blk_cell i2 1; have hx2 := blk_cell i2 2; have hx3 := blk_cell i2 3; have hx4 := blk_cell i2 4; have hx5 := blk_cell i2 5; have hxf0 := blk_frozen i2 0; have hxf1 := blk_frozen i2 1; have hxf2 := blk_frozen i2 2; have hxf3 := blk_frozen i2 3; have hxf4 := blk_frozen i2 4; have hxf5 := blk_frozen i2 5) | (go_at_call 55; refine (letters_c _).mono ?_; rintro e w3 ⟨rfl, hb3⟩; have hB3 := below_step hB2 hb3; have i3 := blk_below i2 hb3) | (go_at_call 56; refine (digits_c _).mono ?_; rintro e w4 ⟨rfl, hb4⟩; have hB4 := below_step hB3 hb4; have i4 := blk_below i3 hb4) | (go_at_call_of 53 (Value.slice (some ⟨w4.heap.size, 0, none⟩) 2 2); refine (skipRun_c s hs w4.heap.size k (Nat.le_of_lt hlt) (blk_new w4 _)).mono ?_; rw [HEe.out]; rintro e w5 ⟨rfl, hb5⟩; have hB5 := below_step (below_alloc hB4 (.cells #[fnV 67, fnV 68] 111)) hb5; have i5 := blk_below (blk_alloc i4 (.cells #[fnV 67, fnV 68] 111)) hb5) | (go_at_call 57; refine (HR.out _).mono ?_; rintro e w6 ⟨v6, rfl, hv6, hb6⟩; obtain ⟨b, A, r, c, b', A', r', c', rfl, H6, hu6, hu6'⟩ := hv6; have hB6 := below_step hB5 hb6; have i6 := blk_below i5 hb6) | ((with_reducible refine gate_store (t := 80) (p := 4) rfl ?_); refine store_op rfl 80 _ _ rfl rfl w.heap.size #[.int .u8 t.k, .string t.t, .bool b, .slice A r.length c, .bool b', .slice A' r'.length c'] nilT rfl rfl 80 i6 (by kernel_rfl) rfl (by simp [Value.oneCell']) ?_; intro w7 i7 hb7; have hB7 := But.below hB6 (Nat.le_refl _) hb7; have hz0 := blk_cell i7 0; have hz1 := blk_cell i7 1; have hz2 := blk_cell i7 2; have hz3 := blk_cell i7 3; have hz4 := blk_cell i7 4; have hz5 := blk_cell i7 5; have hzf0 := blk_frozen i7 0; have hzf1 := blk_frozen i7 1; have hzf2 := blk_frozen i7 2; have hzf3 := blk_frozen i7 3; have hzf4 := blk_frozen i7 4; have hzf5 := blk_frozen i7 5) | ((with_reducible refine gate_store (t := 80) (p := 4) rfl ?_); refine store_op rfl 80 _ _ rfl rfl w.heap.size #[.int .u8 t.k, .string t.t, .bool b, .slice A r.length c, .bool b', .slice A' r'.length c'] #[.int .u8 t.k, .string t.t, .bool b, .slice A r.length c, .bool b', .slice A' r'.length c'] rfl rfl 80 i7 (by kernel_rfl) rfl (by simp [Value.oneCell']) ?_; intro w8 i8 hb8; have hB8 := But.below hB7 (Nat.le_refl _) hb8))
                refine bodyPost_ret (results_list (rs := [.cell 4 80, .tmp 5, .tmp 6]) rfl (by simp) (.cell w.heap.size 80 #[.int .u8 t.k, .string t.t, .bool b, .slice A r.length c, .bool b', .slice A' r'.length c'] (0, 0) _ rfl i8 Try.underlying80 rfl (by kernel_rfl) (.tmp (.tmp .nil)))) rfl ?_
                obtain ⟨rfl, rfl, rfl⟩ := HX.out
                have hs5 : w.heap.size + 1 ≤ w5.heap.size := blk_lt i5
                have hne : ∀ j, w5.heap.size ≤ j → j ≠ w.heap.size := fun j hj => by omega
                exact ⟨_, rfl, ⟨b, A, r, c, b', A', r', c', rfl, H6, ((hu6.but hb7 hne).but hb8 hne).mono (fun j hj => by omega), ((hu6'.but hb7 hne).but hb8 hne).mono (fun j hj => by omega)⟩, hB8⟩
              · have htb : (te != 0) = true := bne_iff_ne.2 ht
                have HX : Hid (x = noTk ∧ nx = 0 ∧ er = te) := by rw [if_neg ht] at hP; cases hP; exact ⟨rfl, rfl, rfl⟩
                clear hP
                go_wp2_with (first | (go_at_call 54; refine (separators_c _).mono ?_; rintro e w1 ⟨rfl, hb1⟩; have hB1 := below_step hb0 hb1; have i1 := blk_below k0 hb1) | (go_at_call_of 53 (Value.slice (some ⟨w1.heap.size, 0, none⟩) 1 1); refine (skipSep_c s hs w1.heap.size k0' hk0' (blk_new w1 _)).mono ?_; rw [hk]; rintro e w2 ⟨rfl, hb2⟩; have hB2 := below_step (below_alloc hB1 (.cells #[fnV 66] 111)) hb2; have i2 := blk_below (blk_alloc i1 (.cells #[fnV 66] 111)) hb2; have hx0 := blk_cell i2 0; have hx1 := blk_cell i2 1; have hx2 := blk_cell i2 2; have hx3 := blk_cell i2 3; have hx4 := blk_cell i2 4; have hx5 := blk_cell i2 5; have hxf0 := blk_frozen i2 0; have hxf1 := blk_frozen i2 1; have hxf2 := blk_frozen i2 2; have hxf3 := blk_frozen i2 3; have hxf4 := blk_frozen i2 4; have hxf5 := blk_frozen i2 5) | (go_at_call 55; refine (letters_c _).mono ?_; rintro e w3 ⟨rfl, hb3⟩; have hB3 := below_step hB2 hb3; have i3 := blk_below i2 hb3) | (go_at_call 56; refine (digits_c _).mono ?_; rintro e w4 ⟨rfl, hb4⟩; have hB4 := below_step hB3 hb4; have i4 := blk_below i3 hb4) | (go_at_call_of 53 (Value.slice (some ⟨w4.heap.size, 0, none⟩) 2 2); refine (skipRun_c s hs w4.heap.size k (Nat.le_of_lt hlt) (blk_new w4 _)).mono ?_; rw [HEe.out]; rintro e w5 ⟨rfl, hb5⟩; have hB5 := below_step (below_alloc hB4 (.cells #[fnV 67, fnV 68] 111)) hb5; have i5 := blk_below (blk_alloc i4 (.cells #[fnV 67, fnV 68] 111)) hb5) | (go_at_call 57; refine (HR.out _).mono ?_; rintro e w6 ⟨v6, rfl, hv6, hb6⟩; obtain ⟨b, A, r, c, b', A', r', c', rfl, H6, hu6, hu6'⟩ := hv6; have hB6 := below_step hB5 hb6; have i6 := blk_below i5 hb6) | ((with_reducible refine gate_store (t := 80) (p := 4) rfl ?_); refine store_op rfl 80 _ _ rfl rfl w.heap.size #[.int .u8 t.k, .string t.t, .bool b, .slice A r.length c, .bool b', .slice A' r'.length c'] nilT rfl rfl 80 i6 (by kernel_rfl) rfl (by simp [Value.oneCell']) ?_; intro w7 i7 hb7; have hB7 := But.below hB6 (Nat.le_refl _) hb7; have hz0 := blk_cell i7 0; have hz1 := blk_cell i7 1; have hz2 := blk_cell i7 2; have hz3 := blk_cell i7 3; have hz4 := blk_cell i7 4; have hz5 := blk_cell i7 5; have hzf0 := blk_frozen i7 0; have hzf1 := blk_frozen i7 1; have hzf2 := blk_frozen i7 2; have hzf3 := blk_frozen i7 3; have hzf4 := blk_frozen i7 4; have hzf5 := blk_frozen i7 5) | ((with_reducible refine gate_store (t := 80) (p := 4) rfl ?_); refine store_op rfl 80 _ _ rfl rfl w.heap.size nilT #[.int .u8 t.k, .string t.t, .bool b, .slice A r.length c, .bool b', .slice A' r'.length c'] rfl rfl 80 i7 (by kernel_rfl) rfl (by simp [Value.oneCell']) ?_; intro w8 i8 hb8; have hB8 := But.below hB7 (Nat.le_refl _) hb8))
                refine bodyPost_ret (results_list (rs := [.cell 4 80, .tmp 5, .tmp 6]) rfl (by simp) (.cell w.heap.size 80 nilT (0, 0) _ rfl i8 Try.underlying80 rfl (by kernel_rfl) (.tmp (.tmp .nil)))) rfl ?_
                exact HE.out _ _ HX.out hB8
end Ar
end Go.Proofs.Ytnghcgmkncbnnaa
end
section
namespace Go.Proofs.Ytnghcgmkncbnnaa
open Go.RowKit Go.Proofs.YtnghcgmkncbnnaaW.PrintWords Go.Proofs.YtnghcgmkncbnnaaW.PrintLast Go.Proofs.YtnghcgmkncbnnaaW.PrintMore
namespace Ar
open Wd
def expS (s : ByteArray) (p kind : Int) : Tk × Int × Int :=
  if (nextS s p).2.2 = 8 then (noTk, 0, 4) else if (nextS s p).2.2 ≠ 0 then (noTk, 0, (nextS s p).2.2) else if (nextS s p).1.k ≠ kind then (noTk, 0, 3) else ((nextS s p).1, (nextS s p).2.1, 0)
def ewS (s : ByteArray) (p : Int) (word : ByteArray) : Int × Int := if (expS s p 3).2.2 = 0 ∧ (expS s p 3).1.t ≠ word then (0, 3) else ((expS s p 3).2.1, (expS s p 3).2.2)
def eiS (s : ByteArray) (p : Int) : Int × Int × Int :=
  if (expS s p 4).2.2 ≠ 0 then (0, 0, (expS s p 4).2.2) else if in64 (expS s p 4).1.n = true ∧ (expS s p 4).1.d = 0 then ((expS s p 4).1.n, (expS s p 4).2.1, 0) else (0, 0, 1)
def pkS (s : ByteArray) (p kind : Int) : Bool := (nextS s p).2.2 == 0 && (nextS s p).1.k == kind
theorem Sm_zero : Sm 0 := by unfold Sm; decide
theorem pQ_sm (w : ByteArray) (hw : w.size < 1048576) (r : Bool) : Sm (pQ w r).1 ∧ Sm (pQ w r).2.1 := by
  have h1 : Sm (zOf (qA w)) := by
    refine zOf_sm _ ?_
    unfold qA; split
    · exact hw
    · exact Nat.lt_of_le_of_lt (extract_size_le _ _ _) hw
  have h2 : Sm (pD w) := by
    unfold pD; split
    · exact zOf_sm _ (Nat.lt_of_le_of_lt (extract_size_le _ _ _) hw)
    · exact Sm_zero
  unfold pQ
  split
  · exact ⟨Sm_zero, Sm_zero⟩
  split
  · exact ⟨Sm_zero, Sm_zero⟩
  · exact ⟨h1, h2⟩
theorem runS_sm (w : ByteArray) (hw : w.size < 1048576) (r : Bool) : Sm (runS w r).1.n ∧ Sm (runS w r).1.d := by
  unfold runS
  split
  · exact ⟨Sm_zero, Sm_zero⟩
  split
  · exact ⟨Sm_zero, Sm_zero⟩
  split
  · exact ⟨Sm_zero, Sm_zero⟩
  split
  · exact pQ_sm w hw r
  · exact ⟨Sm_zero, Sm_zero⟩
theorem nextS_sm (s : ByteArray) (hs : s.size < 1048576) (p : Int) : Sm (nextS s p).1.n ∧ Sm (nextS s p).1.d := by
  unfold nextS
  split
  · exact ⟨Sm_zero, Sm_zero⟩
  split
  · exact ⟨Sm_zero, Sm_zero⟩
  unfold nextAt
  split
  · exact ⟨Sm_zero, Sm_zero⟩
  split
  · exact ⟨Sm_zero, Sm_zero⟩
  split
  · exact ⟨Sm_zero, Sm_zero⟩
  split
  · exact runS_sm _ (Nat.lt_of_le_of_lt (extract_size_le _ _ _) hs) _
  · exact ⟨Sm_zero, Sm_zero⟩
theorem expS_sm (s : ByteArray) (hs : s.size < 1048576) (p kind : Int) : Sm (expS s p kind).1.n ∧ Sm (expS s p kind).1.d := by
  unfold expS
  split
  · exact ⟨Sm_zero, Sm_zero⟩
  split
  · exact ⟨Sm_zero, Sm_zero⟩
  split
  · exact ⟨Sm_zero, Sm_zero⟩
  · exact nextS_sm s hs p
theorem blk_tk {W : World} (k : Int) (t : ByteArray) (a b c d : Value) : (W.alloc (tkObj k t a b c d)).heap[W.heap.size]? = some (tkObj k t a b c d) := blk_new W _
set_option maxRecDepth 100000 in
set_option maxHeartbeats 8000000 in
theorem Expect_c {w : World} (s : ByteArray) (hs : s.size < 1048576) (at_ kind : Int) (hI : HicAt s at_) :
    Calls Try.prog 52 #[.string s, .int .i64 at_, .int .u8 kind] w fun e w' => ∃ v, e = .returned (.tuple #[v, .int .i64 (expS s at_ kind).2.1, .int .i64 (expS s at_ kind).2.2]) ∧ TV w' (fun k => w.heap.size ≤ k) v (expS s at_ kind).1 ∧ Below w.heap.size w w' := by
  have hK := Try.underlying80
  have hb0 := below_alloc (Below.refl _ w) (.cells nilT 80)
  have k0 := blk_new w (.cells nilT 80)
  have HN := Lib.hid (fun (W : World) => Next_c (w := W) s hs at_ hI)
  obtain ⟨X, NX, ER, hP⟩ : ∃ X NX ER, (X, NX, ER) = expS s at_ kind := ⟨_, _, _, rfl⟩
  rw [← hP]
  unfold expS at hP
  obtain ⟨x, nx, er, hX⟩ : ∃ x nx er, nextS s at_ = (x, nx, er) := ⟨_, _, _, rfl⟩
  rw [hX] at hP HN
  clear hX hI
  have HE : Hid (∀ (W : World) (z : Int), (X = noTk ∧ NX = 0 ∧ ER = z) → Below w.heap.size w W → ∃ v, Ending.returned (.tuple #[.agg nilT, .int .i64 0, .int .i64 z]) = .returned (.tuple #[v, .int .i64 NX, .int .i64 ER]) ∧ TV W (fun k => w.heap.size ≤ k) v X ∧ Below w.heap.size w W) := by
    rintro W z ⟨rfl, rfl, rfl⟩ hB
    exact ⟨_, rfl, TV.nil _ _ _ _, hB⟩
  go_enter Try.func52, Try.ntmps52
  by_cases h8 : er = 8
  · have h8b : (er == 8) = true := beq_iff_eq.2 h8
    have HX : Hid (X = noTk ∧ NX = 0 ∧ ER = 4) := by rw [if_pos h8] at hP; cases hP; exact ⟨rfl, rfl, rfl⟩
    clear hP
    go_wp2_with (first | (go_at_call 36; refine (HN.out _).mono ?_; rintro e w1 ⟨v, rfl, hv, hb1⟩; obtain ⟨b, A, r, c, b', A', r', c', rfl, H6, hu6, hu6'⟩ := hv; have hB1 := below_step hb0 hb1; have i1 := blk_below k0 hb1) | ((with_reducible refine gate_store (t := 80) (p := 6) rfl ?_); refine store_op rfl 80 _ _ rfl rfl w.heap.size #[.int .u8 x.k, .string x.t, .bool b, .slice A r.length c, .bool b', .slice A' r'.length c'] nilT rfl rfl 80 i1 (by kernel_rfl) rfl (by simp [Value.oneCell']) ?_; intro w2 i2 hb2; have hB2 := But.below hB1 (Nat.le_refl _) hb2; have hz0 := blk_cell i2 0; have hz1 := blk_cell i2 1; have hz2 := blk_cell i2 2; have hz3 := blk_cell i2 3; have hz4 := blk_cell i2 4; have hz5 := blk_cell i2 5; have hzf0 := blk_frozen i2 0; have hzf1 := blk_frozen i2 1; have hzf2 := blk_frozen i2 2; have hzf3 := blk_frozen i2 3; have hzf4 := blk_frozen i2 4; have hzf5 := blk_frozen i2 5) | ((with_reducible refine gate_store (t := 80) (p := 6) rfl ?_); refine store_op rfl 80 _ _ rfl rfl w.heap.size nilT #[.int .u8 x.k, .string x.t, .bool b, .slice A r.length c, .bool b', .slice A' r'.length c'] rfl rfl 80 i2 (by kernel_rfl) rfl (by simp [Value.oneCell']) ?_; intro w3 i3 hb3; have hB3 := But.below hB2 (Nat.le_refl _) hb3))
    refine bodyPost_ret (results_list (rs := [.cell 6 80, .tmp 7, .tmp 8]) rfl (by simp) (.cell w.heap.size 80 nilT (0, 0) _ rfl i3 Try.underlying80 rfl (by kernel_rfl) (.tmp (.tmp .nil)))) rfl ?_
    exact HE.out _ _ HX.out hB3
  · have h8b : (er == 8) = false := beq_eq_false_iff_ne.2 h8
    rw [if_neg h8] at hP
    by_cases h0 : er = 0
    · have h0b : (er != 0) = false := by rw [h0]; rfl
      rw [if_neg (by simpa using h0)] at hP
      by_cases hk : x.k = kind
      · have hkb : (x.k != kind) = false := by rw [hk]; exact bne_self_eq_false _
        have HX : Hid (X = x ∧ NX = nx ∧ ER = 0) := by rw [if_neg (by simpa using hk)] at hP; cases hP; exact ⟨rfl, rfl, rfl⟩
        clear hP hk h0 h8
        go_wp2_with (first | (go_at_call 36; refine (HN.out _).mono ?_; rintro e w1 ⟨v, rfl, hv, hb1⟩; obtain ⟨b, A, r, c, b', A', r', c', rfl, H6, hu6, hu6'⟩ := hv; have hB1 := below_step hb0 hb1; have i1 := blk_below k0 hb1) | ((with_reducible refine gate_store (t := 80) (p := 6) rfl ?_); refine store_op rfl 80 _ _ rfl rfl w.heap.size #[.int .u8 x.k, .string x.t, .bool b, .slice A r.length c, .bool b', .slice A' r'.length c'] nilT rfl rfl 80 i1 (by kernel_rfl) rfl (by simp [Value.oneCell']) ?_; intro w2 i2 hb2; have hB2 := But.below hB1 (Nat.le_refl _) hb2; have hz0 := blk_cell i2 0; have hz1 := blk_cell i2 1; have hz2 := blk_cell i2 2; have hz3 := blk_cell i2 3; have hz4 := blk_cell i2 4; have hz5 := blk_cell i2 5; have hzf0 := blk_frozen i2 0; have hzf1 := blk_frozen i2 1; have hzf2 := blk_frozen i2 2; have hzf3 := blk_frozen i2 3; have hzf4 := blk_frozen i2 4; have hzf5 := blk_frozen i2 5) | ((with_reducible refine gate_store (t := 80) (p := 6) rfl ?_); refine store_op rfl 80 _ _ rfl rfl w.heap.size #[.int .u8 x.k, .string x.t, .bool b, .slice A r.length c, .bool b', .slice A' r'.length c'] #[.int .u8 x.k, .string x.t, .bool b, .slice A r.length c, .bool b', .slice A' r'.length c'] rfl rfl 80 i2 (by kernel_rfl) rfl (by simp [Value.oneCell']) ?_; intro w3 i3 hb3; have hB3 := But.below hB2 (Nat.le_refl _) hb3))
        refine bodyPost_ret (results_list (rs := [.cell 6 80, .tmp 7, .tmp 8]) rfl (by simp) (.cell w.heap.size 80 #[.int .u8 x.k, .string x.t, .bool b, .slice A r.length c, .bool b', .slice A' r'.length c'] (0, 0) _ rfl i3 Try.underlying80 rfl (by kernel_rfl) (.tmp (.tmp .nil)))) rfl ?_
        obtain ⟨rfl, rfl, rfl⟩ := HX.out
        have hne : ∀ j, (w.alloc (.cells nilT 80)).heap.size ≤ j → j ≠ w.heap.size := fun j hj => by rw [World.size_alloc] at hj; omega
        exact ⟨_, rfl, ⟨b, A, r, c, b', A', r', c', rfl, H6, ((hu6.but hb2 hne).but hb3 hne).mono (fun j hj => by rw [World.size_alloc] at hj; omega), ((hu6'.but hb2 hne).but hb3 hne).mono (fun j hj => by rw [World.size_alloc] at hj; omega)⟩, hB3⟩
      · have hkb : (x.k != kind) = true := bne_iff_ne.2 hk
        have HX : Hid (X = noTk ∧ NX = 0 ∧ ER = 3) := by rw [if_pos (by simpa using hk)] at hP; cases hP; exact ⟨rfl, rfl, rfl⟩
        clear hP hk h0 h8
        go_wp2_with (first | (go_at_call 36; refine (HN.out _).mono ?_; rintro e w1 ⟨v, rfl, hv, hb1⟩; obtain ⟨b, A, r, c, b', A', r', c', rfl, H6, hu6, hu6'⟩ := hv; have hB1 := below_step hb0 hb1; have i1 := blk_below k0 hb1) | ((with_reducible refine gate_store (t := 80) (p := 6) rfl ?_); refine store_op rfl 80 _ _ rfl rfl w.heap.size #[.int .u8 x.k, .string x.t, .bool b, .slice A r.length c, .bool b', .slice A' r'.length c'] nilT rfl rfl 80 i1 (by kernel_rfl) rfl (by simp [Value.oneCell']) ?_; intro w2 i2 hb2; have hB2 := But.below hB1 (Nat.le_refl _) hb2; have hz0 := blk_cell i2 0; have hz1 := blk_cell i2 1; have hz2 := blk_cell i2 2; have hz3 := blk_cell i2 3; have hz4 := blk_cell i2 4; have hz5 := blk_cell i2 5; have hzf0 := blk_frozen i2 0; have hzf1 := blk_frozen i2 1; have hzf2 := blk_frozen i2 2; have hzf3 := blk_frozen i2 3; have hzf4 := blk_frozen i2 4; have hzf5 := blk_frozen i2 5) | ((with_reducible refine gate_store (t := 80) (p := 6) rfl ?_); refine store_op rfl 80 _ _ rfl rfl w.heap.size nilT #[.int .u8 x.k, .string x.t, .bool b, .slice A r.length c, .bool b', .slice A' r'.length c'] rfl rfl 80 i2 (by kernel_rfl) rfl (by simp [Value.oneCell']) ?_; intro w3 i3 hb3; have hB3 := But.below hB2 (Nat.le_refl _) hb3))
        refine bodyPost_ret (results_list (rs := [.cell 6 80, .tmp 7, .tmp 8]) rfl (by simp) (.cell w.heap.size 80 nilT (0, 0) _ rfl i3 Try.underlying80 rfl (by kernel_rfl) (.tmp (.tmp .nil)))) rfl ?_
        exact HE.out _ _ HX.out hB3
    · have h0b : (er != 0) = true := bne_iff_ne.2 h0
      have HX : Hid (X = noTk ∧ NX = 0 ∧ ER = er) := by rw [if_pos (by simpa using h0)] at hP; cases hP; exact ⟨rfl, rfl, rfl⟩
      clear hP h0 h8
      go_wp2_with (first | (go_at_call 36; refine (HN.out _).mono ?_; rintro e w1 ⟨v, rfl, hv, hb1⟩; obtain ⟨b, A, r, c, b', A', r', c', rfl, H6, hu6, hu6'⟩ := hv; have hB1 := below_step hb0 hb1; have i1 := blk_below k0 hb1) | ((with_reducible refine gate_store (t := 80) (p := 6) rfl ?_); refine store_op rfl 80 _ _ rfl rfl w.heap.size #[.int .u8 x.k, .string x.t, .bool b, .slice A r.length c, .bool b', .slice A' r'.length c'] nilT rfl rfl 80 i1 (by kernel_rfl) rfl (by simp [Value.oneCell']) ?_; intro w2 i2 hb2; have hB2 := But.below hB1 (Nat.le_refl _) hb2; have hz0 := blk_cell i2 0; have hz1 := blk_cell i2 1; have hz2 := blk_cell i2 2; have hz3 := blk_cell i2 3; have hz4 := blk_cell i2 4; have hz5 := blk_cell i2 5; have hzf0 := blk_frozen i2 0; have hzf1 := blk_frozen i2 1; have hzf2 := blk_frozen i2 2; have hzf3 := blk_frozen i2 3; have hzf4 := blk_frozen i2 4; have hzf5 := blk_frozen i2 5) | ((with_reducible refine gate_store (t := 80) (p := 6) rfl ?_); refine store_op rfl 80 _ _ rfl rfl w.heap.size nilT #[.int .u8 x.k, .string x.t, .bool b, .slice A r.length c, .bool b', .slice A' r'.length c'] rfl rfl 80 i2 (by kernel_rfl) rfl (by simp [Value.oneCell']) ?_; intro w3 i3 hb3; have hB3 := But.below hB2 (Nat.le_refl _) hb3))
      refine bodyPost_ret (results_list (rs := [.cell 6 80, .tmp 7, .tmp 8]) rfl (by simp) (.cell w.heap.size 80 nilT (0, 0) _ rfl i3 Try.underlying80 rfl (by kernel_rfl) (.tmp (.tmp .nil)))) rfl ?_
      exact HE.out _ _ HX.out hB3
end Ar
end Go.Proofs.Ytnghcgmkncbnnaa
end
section
namespace Go.Proofs.Ytnghcgmkncbnnaa
open Go.RowKit Go.Proofs.YtnghcgmkncbnnaaW.PrintWords Go.Proofs.YtnghcgmkncbnnaaW.PrintLast Go.Proofs.YtnghcgmkncbnnaaW.PrintMore
namespace Ar
open Wd
theorem cnN_zero (n : Int) : cnN n 0 = n := by
  unfold cnN den1
  rw [if_pos rfl, show (1 : Int).natAbs = 1 from rfl, Nat.gcd_one_right, Nat.div_one]
  unfold sg
  by_cases h : n < 0
  · rw [decide_eq_true h]; simp; omega
  · rw [decide_eq_false h]; simp; omega
theorem cnD_zero (n : Int) : cnD n 0 = 0 := by
  unfold cnD den1
  rw [if_pos rfl, show (1 : Int).natAbs = 1 from rfl, Nat.gcd_one_right]; rfl
theorem sm_64 {n : Int} (h : n.natAbs < 18446744073709551616) : Sm n := by
  unfold Sm
  exact Nat.lt_of_le_of_lt (digs_len_le n.natAbs 2 (by omega)) (by decide)
def okTk (x : Tk) : Prop := x.k = 1 ∨ x.k = 2 ∨ (x.k = 3 ∧ ¬ x.t.size = 0 ∧ x.t.size < 1048576 ∧ sk x.t isLet 0 = x.t.size) ∨ (x.k = 4 ∧ x.d = 0 ∧ x.n.natAbs < 18446744073709551616)
def textB (x : Tk) : ByteArray := if x.k = 1 then ⟨#[40]⟩ else if x.k = 2 then ⟨#[41]⟩ else if x.k = 3 then x.t else decB x.n
def tkN (n : Int) : Tk := ⟨4, ⟨#[]⟩, n, 0⟩
def tkO : Tk := ⟨1, ⟨#[]⟩, 0, 0⟩
def tkC : Tk := ⟨2, ⟨#[]⟩, 0, 0⟩
def i64r (n : Int) : Prop := -9223372036854775808 ≤ n ∧ n < 9223372036854775808
def tkW (word : ByteArray) : Tk := ⟨3, word, 0, 0⟩
end Ar
end Go.Proofs.Ytnghcgmkncbnnaa
end
section
namespace Go.Proofs.Ytnghcgmkncbnnaa
open Go.RowKit Go.Proofs.YtnghcgmkncbnnaaW.PrintWords Go.Proofs.YtnghcgmkncbnnaaW.PrintLast Go.Proofs.YtnghcgmkncbnnaaW.PrintMore
namespace Ar
open Wd
theorem QV.alloc_box {W : World} {b : Bool} {A : Option Addr} {r : List Int} {c : Nat} {b' : Bool} {A' : Option Addr} {r' : List Int} {c' : Nat} : (W.alloc (.cells #[.bool b, .slice A r.length c, .bool b', .slice A' r'.length c'] 78)).heap[W.heap.size]? = some (.cells #[.bool b, .slice A r.length c, .bool b', .slice A' r'.length c'] 78) := blk_new W _
set_option maxRecDepth 100000 in
set_option maxHeartbeats 8000000 in
theorem fracFormat_c {w : World} {ok : Nat → Prop} {v : Value} {n : Int} (hv : QV w ok v n 0) (hn : n.natAbs < 18446744073709551616) :
    Calls Try.prog 58 #[v] w fun e w' => e = .returned (.string (decB n)) ∧ Below w.heap.size w w' := by
  have hQ := Try.underlying78
  have hZ := Try.underlying76
  have hv0 := hv
  obtain ⟨b, A, r, c, b', A', r', c', rfl, H, h1, h2⟩ := hv
  have hb0 := below_alloc (Below.refl _ w) (.cells #[.bool b, .slice A r.length c, .bool b', .slice A' r'.length c'] 78)
  have k0 := QV.alloc_box (W := w) (b := b) (A := A) (r := r) (c := c) (b' := b') (A' := A') (r' := r') (c' := c')
  have HC := Lib.hid (Canonical_c div_one (hv0.alloc (.cells #[.bool b, .slice A r.length c, .bool b', .slice A' r'.length c'] 78)) (sm_64 hn) (by unfold Sm; decide) (Int.le_refl 0) (by decide))
  rw [cnN_zero, cnD_zero] at HC
  have HF := Lib.hid (fun (W : World) (ok : Nat → Prop) (v : Value) (h : ZV W ok v n) => format_c h hn)
  have hk0 := blk_cell k0 0; have hk1 := blk_cell k0 1; have hk2 := blk_cell k0 2; have hk3 := blk_cell k0 3; have hkf0 := blk_frozen k0 0; have hkf1 := blk_frozen k0 1; have hkf2 := blk_frozen k0 2; have hkf3 := blk_frozen k0 3
  generalize decB n = R at HF ⊢
  go_enter Try.func58, Try.ntmps58
  go_wp2_with (first | (go_at_call 71; refine HC.out.mono ?_; rintro e w1 ⟨v1, rfl, hv1, hb1⟩; have hq1 := hv1; obtain ⟨b1, A1, r1, c1, b1', A1', r1', c1', rfl, H1, hu1, hu1'⟩ := hv1; have hB1 := below_step (below_step hb0 hb1) (below_alloc (Below.refl _ w1) (.cells #[.bool b1, .slice A1 r1.length c1, .bool b1', .slice A1' r1'.length c1'] 78)); have k1 := QV.alloc_box (W := w1) (b := b1) (A := A1) (r := r1) (c := c1) (b' := b1') (A' := A1') (r' := r1') (c' := c1'); have hj0 := blk_cell k1 0; have hj1 := blk_cell k1 1; have hj2 := blk_cell k1 2; have hj3 := blk_cell k1 3; have hjf0 := blk_frozen k1 0; have hjf1 := blk_frozen k1 1; have hjf2 := blk_frozen k1 2; have hjf3 := blk_frozen k1 3) | (go_at_call 65; refine (sign_c (zv_mk H1.out.2.2.1 H1.out.2.2.2 (hu1'.alloc _)) (by unfold Sm; decide)).mono ?_; rintro e w2 ⟨rfl, hb2⟩; have hB2 := below_step hB1 hb2; have k2 := blk_below k1 hb2; have hi0 := blk_cell k2 0; have hi1 := blk_cell k2 1; have hi2 := blk_cell k2 2; have hi3 := blk_cell k2 3; have hif0 := blk_frozen k2 0; have hif1 := blk_frozen k2 1; have hif2 := blk_frozen k2 2; have hif3 := blk_frozen k2 3) | (go_at_call 72; refine (HF.out _ _ _ (zv_mk H1.out.1 H1.out.2.1 ((hu1.alloc _).below hb2))).mono ?_; rintro e w3 ⟨rfl, hb3⟩; have hB3 := below_step hB2 hb3))
  go_ret
  exact ⟨rfl, hB3⟩
set_option maxRecDepth 100000 in
set_option maxHeartbeats 8000000 in
theorem text_c {w : World} {ok : Nat → Prop} {v : Value} {x : Tk} (hv : TV w ok v x) (hx : okTk x) :
    Calls Try.prog 37 #[v] w fun e w' => e = .returned (.tuple #[.string (textB x), .int .i64 0]) ∧ Below w.heap.size w w' := by
  have hK := Try.underlying80
  have hQ := Try.underlying78
  have hT := Try.underlying111
  obtain ⟨k, t, n, d⟩ := x
  obtain ⟨b, A, r, c, b', A', r', c', rfl, H, h1, h2⟩ := hv
  dsimp only at H
  have hb0 := below_alloc (Below.refl _ w) (tkObj k t (.bool b) (.slice A r.length c) (.bool b') (.slice A' r'.length c'))
  have k0 := blk_tk (W := w) k t (.bool b) (.slice A r.length c) (.bool b') (.slice A' r'.length c')
  unfold textB
  dsimp only
  have hk0 := blk_cell k0 0; have hk1 := blk_cell k0 1; have hk2 := blk_cell k0 2; have hk3 := blk_cell k0 3; have hk4 := blk_cell k0 4; have hk5 := blk_cell k0 5; have hkf0 := blk_frozen k0 0; have hkf1 := blk_frozen k0 1; have hkf2 := blk_frozen k0 2; have hkf3 := blk_frozen k0 3; have hkf4 := blk_frozen k0 4; have hkf5 := blk_frozen k0 5
  rcases hx with rfl | rfl | ⟨rfl, h0, hs, hL⟩ | ⟨rfl, rfl, hn⟩
  · try dsimp only at *
    go_enter Try.func37, Try.ntmps37
    go_wp2
    go_ret2
    exact ⟨rfl, hb0⟩
  · try dsimp only at *
    go_enter Try.func37, Try.ntmps37
    go_wp2
    go_ret2
    exact ⟨rfl, hb0⟩
  · try dsimp only at *
    have hem : t.toList.isEmpty = false := isEmpty_not h0
    have hLb : (((sk t isLet 0 : Nat) : Int) != (t.size : Int)) = false := by rw [hL]; exact bne_self_eq_false _
    clear h0 hL
    go_enter Try.func37, Try.ntmps37
    go_wp2_with fail
    go_region_held3 (fun w' => w'.cell? ⟨w.heap.size, 1, none⟩ = some (.string t)) (first | exact hk1 | exact blk_cell i1 1 | exact blk_cell (blk_alloc i1 _) 1 | exact blk_cell i2 1) (first | (go_at_call 55; refine (letters_c _).mono ?_; rintro e w1 ⟨rfl, hb1⟩; have hB1 := below_step (below_drew hb0) hb1; have i1 := blk_below (blk_drew k0) hb1) | (go_at_call 53; refine (skipLet_c t hs w1.heap.size 0 (Nat.zero_le _) (blk_new w1 _)).mono ?_; rintro e w2 ⟨rfl, hb2⟩; have hB2 := below_step (below_alloc hB1 (.cells #[fnV 67] 111)) hb2; have i2 := blk_below (blk_alloc i1 (.cells #[fnV 67] 111)) hb2))
    have hx0 := blk_cell i2 0; have hx1 := blk_cell i2 1; have hx2 := blk_cell i2 2; have hx3 := blk_cell i2 3; have hx4 := blk_cell i2 4; have hx5 := blk_cell i2 5; have hxf0 := blk_frozen i2 0; have hxf1 := blk_frozen i2 1; have hxf2 := blk_frozen i2 2; have hxf3 := blk_frozen i2 3; have hxf4 := blk_frozen i2 4; have hxf5 := blk_frozen i2 5
    go_wp2
    go_ret2
    exact ⟨rfl, hB2⟩
  · try dsimp only at *
    have HF := Lib.hid (fun (W : World) (ok : Nat → Prop) (v : Value) (h : QV W ok v n 0) => fracFormat_c h hn)
    generalize decB n = R at HF ⊢
    go_enter Try.func37, Try.ntmps37
    go_wp2_with (first | (go_at_call 58; refine (HF.out _ _ _ ⟨b, A, r, c, b', A', r', c', rfl, H, h1.alloc _, h2.alloc _⟩).mono ?_; rintro e w3 ⟨rfl, hb3⟩; have hB3 := below_step hb0 hb3))
    go_ret2
    exact ⟨rfl, hB3⟩
end Ar
end Go.Proofs.Ytnghcgmkncbnnaa
end
section
namespace Go.Proofs.Ytnghcgmkncbnnaa
open Go.RowKit Go.Proofs.YtnghcgmkncbnnaaW.PrintWords Go.Proofs.YtnghcgmkncbnnaaW.PrintLast Go.Proofs.YtnghcgmkncbnnaaW.PrintMore
namespace Ar
open Wd
set_option maxRecDepth 100000 in
set_option maxHeartbeats 8000000 in
theorem Peek_c {w : World} (s : ByteArray) (hs : s.size < 1048576) (at_ kind : Int) (hI : HicAt s at_) :
    Calls Try.prog 51 #[.string s, .int .i64 at_, .int .u8 kind] w fun e w' => e = .returned (.bool (pkS s at_ kind)) ∧ Below w.heap.size w w' := by
  have hK := Try.underlying80
  have HN := Lib.hid (fun (W : World) => Next_c (w := W) s hs at_ hI)
  unfold pkS
  obtain ⟨x, nx, er, hX⟩ : ∃ x nx er, nextS s at_ = (x, nx, er) := ⟨_, _, _, rfl⟩
  rw [hX] at HN ⊢
  clear hX hI
  dsimp only
  go_enter Try.func51, Try.ntmps51
  by_cases h0 : er = 0
  · have h0b : (er == 0) = true := beq_iff_eq.2 h0
    clear h0
    go_wp2_with (first | (go_at_call 36; refine (HN.out _).mono ?_; rintro e w1 ⟨v, rfl, hv, hb1⟩; obtain ⟨b, A, r, c, b', A', r', c', rfl, H6, hu6, hu6'⟩ := hv; have i1 := blk_tk (W := w1) x.k x.t (.bool b) (.slice A r.length c) (.bool b') (.slice A' r'.length c'); have hB1 := below_alloc hb1 (tkObj x.k x.t (.bool b) (.slice A r.length c) (.bool b') (.slice A' r'.length c')); have hz0 := blk_cell i1 0; have hz1 := blk_cell i1 1; have hz2 := blk_cell i1 2; have hz3 := blk_cell i1 3; have hz4 := blk_cell i1 4; have hz5 := blk_cell i1 5; have hzf0 := blk_frozen i1 0; have hzf1 := blk_frozen i1 1; have hzf2 := blk_frozen i1 2; have hzf3 := blk_frozen i1 3; have hzf4 := blk_frozen i1 4; have hzf5 := blk_frozen i1 5))
    go_ret
    exact ⟨by rw [h0b, Bool.true_and]; rfl, hB1⟩
  · have h0b : (er == 0) = false := beq_eq_false_iff_ne.2 h0
    clear h0
    go_wp2_with (first | (go_at_call 36; refine (HN.out _).mono ?_; rintro e w1 ⟨v, rfl, hv, hb1⟩; obtain ⟨b, A, r, c, b', A', r', c', rfl, H6, hu6, hu6'⟩ := hv; have i1 := blk_tk (W := w1) x.k x.t (.bool b) (.slice A r.length c) (.bool b') (.slice A' r'.length c'); have hB1 := below_alloc hb1 (tkObj x.k x.t (.bool b) (.slice A r.length c) (.bool b') (.slice A' r'.length c')); have hz0 := blk_cell i1 0; have hz1 := blk_cell i1 1; have hz2 := blk_cell i1 2; have hz3 := blk_cell i1 3; have hz4 := blk_cell i1 4; have hz5 := blk_cell i1 5; have hzf0 := blk_frozen i1 0; have hzf1 := blk_frozen i1 1; have hzf2 := blk_frozen i1 2; have hzf3 := blk_frozen i1 3; have hzf4 := blk_frozen i1 4; have hzf5 := blk_frozen i1 5))
    go_ret
    exact ⟨by rw [h0b, Bool.false_and]; rfl, hB1⟩
set_option maxRecDepth 100000 in
set_option maxHeartbeats 8000000 in
theorem ExpectWord_c {w : World} (s : ByteArray) (hs : s.size < 1048576) (at_ : Int) (word : ByteArray) (hI : HicAt s at_) :
    Calls Try.prog 49 #[.string s, .int .i64 at_, .string word] w fun e w' => e = .returned (.tuple #[.int .i64 (ewS s at_ word).1, .int .i64 (ewS s at_ word).2]) ∧ Below w.heap.size w w' := by
  have hK := Try.underlying80
  have HN := Lib.hid (fun (W : World) => Expect_c (w := W) s hs at_ 3 hI)
  obtain ⟨NX, ER, hP⟩ : ∃ NX ER, (NX, ER) = ewS s at_ word := ⟨_, _, rfl⟩
  rw [← hP]
  unfold ewS at hP
  obtain ⟨x, nx, er, hX⟩ : ∃ x nx er, expS s at_ 3 = (x, nx, er) := ⟨_, _, _, rfl⟩
  rw [hX] at HN hP
  clear hX hI
  dsimp only at hP
  go_enter Try.func49, Try.ntmps49
  by_cases h0 : er = 0
  · subst h0
    by_cases ht : x.t = word
    · have HX : Hid (NX = nx ∧ ER = 0) := by rw [if_neg (fun h => h.2 ht)] at hP; cases hP; exact ⟨rfl, rfl⟩
      have htb : (x.t.toList == word.toList) = true := by rw [ht]; exact beq_self_eq_true _
      clear hP ht
      go_wp2_with (first | (go_at_call 52; refine (HN.out _).mono ?_; rintro e w1 ⟨v, rfl, hv, hb1⟩; obtain ⟨b, A, r, c, b', A', r', c', rfl, H6, hu6, hu6'⟩ := hv; have i1 := blk_tk (W := w1) x.k x.t (.bool b) (.slice A r.length c) (.bool b') (.slice A' r'.length c'); have hB1 := below_alloc hb1 (tkObj x.k x.t (.bool b) (.slice A r.length c) (.bool b') (.slice A' r'.length c')); have hz0 := blk_cell i1 0; have hz1 := blk_cell i1 1; have hz2 := blk_cell i1 2; have hz3 := blk_cell i1 3; have hz4 := blk_cell i1 4; have hz5 := blk_cell i1 5; have hzf0 := blk_frozen i1 0; have hzf1 := blk_frozen i1 1; have hzf2 := blk_frozen i1 2; have hzf3 := blk_frozen i1 3; have hzf4 := blk_frozen i1 4; have hzf5 := blk_frozen i1 5))
      go_ret2
      obtain ⟨rfl, rfl⟩ := HX.out
      exact ⟨rfl, hB1⟩
    · have HX : Hid (NX = 0 ∧ ER = 3) := by rw [if_pos ⟨rfl, ht⟩] at hP; cases hP; exact ⟨rfl, rfl⟩
      have htb : (x.t.toList == word.toList) = false := by
        rw [beq_eq_false_iff_ne]
        intro h
        refine ht (ByteArray.ext (Array.ext' ?_))
        rwa [ByteArray.toList_eq, ByteArray.toList_eq] at h
      clear hP ht
      go_wp2_with (first | (go_at_call 52; refine (HN.out _).mono ?_; rintro e w1 ⟨v, rfl, hv, hb1⟩; obtain ⟨b, A, r, c, b', A', r', c', rfl, H6, hu6, hu6'⟩ := hv; have i1 := blk_tk (W := w1) x.k x.t (.bool b) (.slice A r.length c) (.bool b') (.slice A' r'.length c'); have hB1 := below_alloc hb1 (tkObj x.k x.t (.bool b) (.slice A r.length c) (.bool b') (.slice A' r'.length c')); have hz0 := blk_cell i1 0; have hz1 := blk_cell i1 1; have hz2 := blk_cell i1 2; have hz3 := blk_cell i1 3; have hz4 := blk_cell i1 4; have hz5 := blk_cell i1 5; have hzf0 := blk_frozen i1 0; have hzf1 := blk_frozen i1 1; have hzf2 := blk_frozen i1 2; have hzf3 := blk_frozen i1 3; have hzf4 := blk_frozen i1 4; have hzf5 := blk_frozen i1 5))
      go_ret2
      obtain ⟨rfl, rfl⟩ := HX.out
      exact ⟨rfl, hB1⟩
  · have h0b : (er == 0) = false := beq_eq_false_iff_ne.2 h0
    have HX : Hid (NX = nx ∧ ER = er) := by rw [if_neg (fun h => h0 h.1)] at hP; cases hP; exact ⟨rfl, rfl⟩
    clear hP h0
    go_wp2_with (first | (go_at_call 52; refine (HN.out _).mono ?_; rintro e w1 ⟨v, rfl, hv, hb1⟩; obtain ⟨b, A, r, c, b', A', r', c', rfl, H6, hu6, hu6'⟩ := hv; have i1 := blk_tk (W := w1) x.k x.t (.bool b) (.slice A r.length c) (.bool b') (.slice A' r'.length c'); have hB1 := below_alloc hb1 (tkObj x.k x.t (.bool b) (.slice A r.length c) (.bool b') (.slice A' r'.length c')); have hz0 := blk_cell i1 0; have hz1 := blk_cell i1 1; have hz2 := blk_cell i1 2; have hz3 := blk_cell i1 3; have hz4 := blk_cell i1 4; have hz5 := blk_cell i1 5; have hzf0 := blk_frozen i1 0; have hzf1 := blk_frozen i1 1; have hzf2 := blk_frozen i1 2; have hzf3 := blk_frozen i1 3; have hzf4 := blk_frozen i1 4; have hzf5 := blk_frozen i1 5))
    go_ret2
    obtain ⟨rfl, rfl⟩ := HX.out
    exact ⟨rfl, hB1⟩
set_option maxRecDepth 100000 in
set_option maxHeartbeats 8000000 in
theorem ExpectInt_c {w : World} (s : ByteArray) (hs : s.size < 1048576) (at_ : Int) (hI : HicAt s at_) :
    Calls Try.prog 50 #[.string s, .int .i64 at_] w fun e w' => e = .returned (.tuple #[.int .i64 (eiS s at_).1, .int .i64 (eiS s at_).2.1, .int .i64 (eiS s at_).2.2]) ∧ Below w.heap.size w w' := by
  have hK := Try.underlying80
  have hQ := Try.underlying78
  have hZ := Try.underlying76
  have HN := Lib.hid (fun (W : World) => Expect_c (w := W) s hs at_ 4 hI)
  obtain ⟨N, NX, ER, hP⟩ : ∃ N NX ER, (N, NX, ER) = eiS s at_ := ⟨_, _, _, rfl⟩
  rw [← hP]
  unfold eiS at hP
  have hsm := expS_sm s hs at_ 4
  obtain ⟨x, nx, er, hX⟩ : ∃ x nx er, expS s at_ 4 = (x, nx, er) := ⟨_, _, _, rfl⟩
  rw [hX] at HN hP hsm
  clear hX hI
  obtain ⟨hn, hd⟩ := hsm
  dsimp only at hP hn hd
  go_enter Try.func50, Try.ntmps50
  by_cases h0 : er = 0
  · subst h0
    rw [if_neg (by simp)] at hP
    by_cases hi : in64 x.n = true
    · rw [show (if in64 x.n = true ∧ x.d = 0 then (x.n, nx, (0 : Int)) else (0, 0, 1)) = (if x.d = 0 then (x.n, nx, 0) else (0, 0, 1)) by simp [hi]] at hP
      by_cases hz : x.d = 0
      · have HX : Hid (N = x.n ∧ NX = nx ∧ ER = 0) := by rw [if_pos hz] at hP; cases hP; exact ⟨rfl, rfl, rfl⟩
        have hsg : (x.d.sign != 0) = false := by rw [hz]; rfl
        have hif : (if in64 x.n = true then x.n else 0) = x.n := if_pos hi
        clear hP hz
        go_wp2_with (first | (go_at_call 52; refine (HN.out _).mono ?_; rintro e w1 ⟨v, rfl, hv, hb1⟩; obtain ⟨b, A, r, c, b', A', r', c', rfl, H6, hu6, hu6'⟩ := hv; have i1 := blk_tk (W := w1) x.k x.t (.bool b) (.slice A r.length c) (.bool b') (.slice A' r'.length c'); have hB1 := below_alloc hb1 (tkObj x.k x.t (.bool b) (.slice A r.length c) (.bool b') (.slice A' r'.length c')); have hz0 := blk_cell i1 0; have hz1 := blk_cell i1 1; have hz2 := blk_cell i1 2; have hz3 := blk_cell i1 3; have hz4 := blk_cell i1 4; have hz5 := blk_cell i1 5; have hzf0 := blk_frozen i1 0; have hzf1 := blk_frozen i1 1; have hzf2 := blk_frozen i1 2; have hzf3 := blk_frozen i1 3; have hzf4 := blk_frozen i1 4; have hzf5 := blk_frozen i1 5) | (go_at_call 64; refine (int64_c (zv_mk H6.out.1 H6.out.2.1 (hu6.alloc (tkObj x.k x.t (.bool b) (.slice A r.length c) (.bool b') (.slice A' r'.length c')))) hn).mono ?_; rintro e w2 ⟨rfl, hb2⟩; have hB2 := below_step hB1 hb2; have i2 := blk_below i1 hb2; have hy0 := blk_cell i2 0; have hy1 := blk_cell i2 1; have hy2 := blk_cell i2 2; have hy3 := blk_cell i2 3; have hy4 := blk_cell i2 4; have hy5 := blk_cell i2 5; have hyf0 := blk_frozen i2 0; have hyf1 := blk_frozen i2 1; have hyf2 := blk_frozen i2 2; have hyf3 := blk_frozen i2 3; have hyf4 := blk_frozen i2 4; have hyf5 := blk_frozen i2 5) | (go_at_call 65; refine (sign_c (zv_mk H6.out.2.2.1 H6.out.2.2.2 ((hu6'.alloc (tkObj x.k x.t (.bool b) (.slice A r.length c) (.bool b') (.slice A' r'.length c'))).below hb2)) hd).mono ?_; rintro e w3 ⟨rfl, hb3⟩; have hB3 := below_step hB2 hb3))
        refine bodyPost_ret (results_list (rs := [.tmp 4, .tmp 5, .tmp 6]) rfl (by simp) (.tmp (.tmp (.tmp .nil)))) rfl ?_
        obtain ⟨rfl, rfl, rfl⟩ := HX.out
        exact ⟨rfl, hB3⟩
      · have HX : Hid (N = 0 ∧ NX = 0 ∧ ER = 1) := by rw [if_neg hz] at hP; cases hP; exact ⟨rfl, rfl, rfl⟩
        have hsg : (x.d.sign != 0) = true := by rw [bne_iff_ne]; intro h; exact hz (Int.sign_eq_zero_iff_zero.1 h)
        clear hP hz
        go_wp2_with (first | (go_at_call 52; refine (HN.out _).mono ?_; rintro e w1 ⟨v, rfl, hv, hb1⟩; obtain ⟨b, A, r, c, b', A', r', c', rfl, H6, hu6, hu6'⟩ := hv; have i1 := blk_tk (W := w1) x.k x.t (.bool b) (.slice A r.length c) (.bool b') (.slice A' r'.length c'); have hB1 := below_alloc hb1 (tkObj x.k x.t (.bool b) (.slice A r.length c) (.bool b') (.slice A' r'.length c')); have hz0 := blk_cell i1 0; have hz1 := blk_cell i1 1; have hz2 := blk_cell i1 2; have hz3 := blk_cell i1 3; have hz4 := blk_cell i1 4; have hz5 := blk_cell i1 5; have hzf0 := blk_frozen i1 0; have hzf1 := blk_frozen i1 1; have hzf2 := blk_frozen i1 2; have hzf3 := blk_frozen i1 3; have hzf4 := blk_frozen i1 4; have hzf5 := blk_frozen i1 5) | (go_at_call 64; refine (int64_c (zv_mk H6.out.1 H6.out.2.1 (hu6.alloc (tkObj x.k x.t (.bool b) (.slice A r.length c) (.bool b') (.slice A' r'.length c')))) hn).mono ?_; rintro e w2 ⟨rfl, hb2⟩; have hB2 := below_step hB1 hb2; have i2 := blk_below i1 hb2; have hy0 := blk_cell i2 0; have hy1 := blk_cell i2 1; have hy2 := blk_cell i2 2; have hy3 := blk_cell i2 3; have hy4 := blk_cell i2 4; have hy5 := blk_cell i2 5; have hyf0 := blk_frozen i2 0; have hyf1 := blk_frozen i2 1; have hyf2 := blk_frozen i2 2; have hyf3 := blk_frozen i2 3; have hyf4 := blk_frozen i2 4; have hyf5 := blk_frozen i2 5) | (go_at_call 65; refine (sign_c (zv_mk H6.out.2.2.1 H6.out.2.2.2 ((hu6'.alloc (tkObj x.k x.t (.bool b) (.slice A r.length c) (.bool b') (.slice A' r'.length c'))).below hb2)) hd).mono ?_; rintro e w3 ⟨rfl, hb3⟩; have hB3 := below_step hB2 hb3))
        refine bodyPost_ret (results_list (rs := [.tmp 4, .tmp 5, .tmp 6]) rfl (by simp) (.tmp (.tmp (.tmp .nil)))) rfl ?_
        obtain ⟨rfl, rfl, rfl⟩ := HX.out
        exact ⟨rfl, hB3⟩
    · have hi' : in64 x.n = false := by simpa using hi
      have HX : Hid (N = 0 ∧ NX = 0 ∧ ER = 1) := by rw [if_neg (fun h => hi h.1)] at hP; cases hP; exact ⟨rfl, rfl, rfl⟩
      clear hP hi
      go_wp2_with (first | (go_at_call 52; refine (HN.out _).mono ?_; rintro e w1 ⟨v, rfl, hv, hb1⟩; obtain ⟨b, A, r, c, b', A', r', c', rfl, H6, hu6, hu6'⟩ := hv; have i1 := blk_tk (W := w1) x.k x.t (.bool b) (.slice A r.length c) (.bool b') (.slice A' r'.length c'); have hB1 := below_alloc hb1 (tkObj x.k x.t (.bool b) (.slice A r.length c) (.bool b') (.slice A' r'.length c')); have hz0 := blk_cell i1 0; have hz1 := blk_cell i1 1; have hz2 := blk_cell i1 2; have hz3 := blk_cell i1 3; have hz4 := blk_cell i1 4; have hz5 := blk_cell i1 5; have hzf0 := blk_frozen i1 0; have hzf1 := blk_frozen i1 1; have hzf2 := blk_frozen i1 2; have hzf3 := blk_frozen i1 3; have hzf4 := blk_frozen i1 4; have hzf5 := blk_frozen i1 5) | (go_at_call 64; refine (int64_c (zv_mk H6.out.1 H6.out.2.1 (hu6.alloc (tkObj x.k x.t (.bool b) (.slice A r.length c) (.bool b') (.slice A' r'.length c')))) hn).mono ?_; rintro e w2 ⟨rfl, hb2⟩; have hB2 := below_step hB1 hb2; have i2 := blk_below i1 hb2; have hy0 := blk_cell i2 0; have hy1 := blk_cell i2 1; have hy2 := blk_cell i2 2; have hy3 := blk_cell i2 3; have hy4 := blk_cell i2 4; have hy5 := blk_cell i2 5; have hyf0 := blk_frozen i2 0; have hyf1 := blk_frozen i2 1; have hyf2 := blk_frozen i2 2; have hyf3 := blk_frozen i2 3; have hyf4 := blk_frozen i2 4; have hyf5 := blk_frozen i2 5) | (go_at_call 65; refine (sign_c (zv_mk H6.out.2.2.1 H6.out.2.2.2 ((hu6'.alloc (tkObj x.k x.t (.bool b) (.slice A r.length c) (.bool b') (.slice A' r'.length c'))).below hb2)) hd).mono ?_; rintro e w3 ⟨rfl, hb3⟩; have hB3 := below_step hB2 hb3))
      refine bodyPost_ret (results_list (rs := [.tmp 4, .tmp 5, .tmp 6]) rfl (by simp) (.tmp (.tmp (.tmp .nil)))) rfl ?_
      obtain ⟨rfl, rfl, rfl⟩ := HX.out
      exact ⟨rfl, hB2⟩
  · have h0b : (er != 0) = true := bne_iff_ne.2 h0
    have HX : Hid (N = 0 ∧ NX = 0 ∧ ER = er) := by rw [if_pos h0] at hP; cases hP; exact ⟨rfl, rfl, rfl⟩
    clear hP h0
    go_wp2_with (first | (go_at_call 52; refine (HN.out _).mono ?_; rintro e w1 ⟨v, rfl, hv, hb1⟩; obtain ⟨b, A, r, c, b', A', r', c', rfl, H6, hu6, hu6'⟩ := hv; have i1 := blk_tk (W := w1) x.k x.t (.bool b) (.slice A r.length c) (.bool b') (.slice A' r'.length c'); have hB1 := below_alloc hb1 (tkObj x.k x.t (.bool b) (.slice A r.length c) (.bool b') (.slice A' r'.length c')); have hz0 := blk_cell i1 0; have hz1 := blk_cell i1 1; have hz2 := blk_cell i1 2; have hz3 := blk_cell i1 3; have hz4 := blk_cell i1 4; have hz5 := blk_cell i1 5; have hzf0 := blk_frozen i1 0; have hzf1 := blk_frozen i1 1; have hzf2 := blk_frozen i1 2; have hzf3 := blk_frozen i1 3; have hzf4 := blk_frozen i1 4; have hzf5 := blk_frozen i1 5))
    refine bodyPost_ret (results_list (rs := [.tmp 4, .tmp 5, .tmp 6]) rfl (by simp) (.tmp (.tmp (.tmp .nil)))) rfl ?_
    obtain ⟨rfl, rfl, rfl⟩ := HX.out
    exact ⟨rfl, hB1⟩
end Ar
end Go.Proofs.Ytnghcgmkncbnnaa
end
section
namespace Go.Proofs.Ytnghcgmkncbnnaa
open Go.RowKit Go.Proofs.YtnghcgmkncbnnaaW.PrintWords Go.Proofs.YtnghcgmkncbnnaaW.PrintLast Go.Proofs.YtnghcgmkncbnnaaW.PrintMore
namespace Ar
open Wd
abbrev rdObj (s : ByteArray) (p e : Int) : Obj := .cells #[.string s, .int .i64 p, .int .i64 e] 67
def takeS (s : ByteArray) (kind : Int) (st : Int × Int) : Int × Int := if st.2 = 0 then ((expS s st.1 kind).2.1, (expS s st.1 kind).2.2) else st
def wordS (s : ByteArray) (word : ByteArray) (st : Int × Int) : Int × Int := if st.2 = 0 then ewS s st.1 word else st
def numS (s : ByteArray) (st : Int × Int) : Int × (Int × Int) := if st.2 = 0 then ((eiS s st.1).1, ((eiS s st.1).2.1, (eiS s st.1).2.2)) else (0, st)
theorem rd_new {w w1 : World} {g : Nat} {s : ByteArray} {p e : Int} (h : w.heap[g]? = some (rdObj s p e)) (hb : Below w.drew.heap.size w.drew w1) : w1.heap[g]? = some (rdObj s p e) := blk_below (blk_drew h) hb
theorem But.drew_below {w w1 : World} (g : Nat) (hb : Below w.drew.heap.size w.drew w1) : But g w w1 := ⟨hb.os, hb.tape, hb.output, hb.size, fun k hk _ => hb.block k hk⟩
theorem rd_two {w1 : World} {g : Nat} {s : ByteArray} {p e : Int} (h : w1.heap[g]? = some (rdObj s p e)) (p' e' : Int) : ((w1.setCell ⟨g, 1, none⟩ (.int .i64 p')).setCell ⟨g, 2, none⟩ (.int .i64 e')).heap[g]? = some (rdObj s p' e') := blk_set (blk_set h 1 _) 2 _
theorem rd_two' {w1 : World} {g : Nat} {s : ByteArray} {p e : Int} (h : w1.heap[g]? = some (rdObj s p e)) (p' e' : Int) : ((w1.setCell ⟨g, 2, none⟩ (.int .i64 e')).setCell ⟨g, 1, none⟩ (.int .i64 p')).heap[g]? = some (rdObj s p' e') := blk_set (blk_set h 2 _) 1 _
theorem But.two {w w1 : World} {g : Nat} (h : But g w w1) (i j : Nat) (u v : Value) : But g w ((w1.setCell ⟨g, i, none⟩ u).setCell ⟨g, j, none⟩ v) := (h.set i u).set j v
set_option maxRecDepth 100000 in
set_option maxHeartbeats 8000000 in
theorem take_c {w : World} {g : Nat} (s : ByteArray) (hs : s.size < 1048576) (p e0 kind : Int) (hr : w.heap[g]? = some (rdObj s p e0)) (hI : e0 = 0 → HicAt s p) :
    Calls Try.prog 35 #[.pointer (some ⟨g, 0, none⟩), .int .u8 kind] w fun e w' => e = .returned (.tuple #[]) ∧ w'.heap[g]? = some (rdObj s (takeS s kind (p, e0)).1 (takeS s kind (p, e0)).2) ∧ But g w w' := by
  have hR := Try.underlying67
  obtain ⟨P1, E1, hP⟩ : ∃ P1 E1, (P1, E1) = takeS s kind (p, e0) := ⟨_, _, rfl⟩
  rw [← hP]
  unfold takeS at hP
  dsimp only at hP
  have hq0 := blk_cell hr 0; have hq1 := blk_cell hr 1; have hq2 := blk_cell hr 2; have hqf0 := blk_frozen hr 0; have hqf1 := blk_frozen hr 1; have hqf2 := blk_frozen hr 2
  go_enter Try.func35, Try.ntmps35
  by_cases h0 : e0 = 0
  · subst h0
    have HN := Lib.hid (fun (W : World) => Expect_c (w := W) s hs p kind (hI rfl))
    rw [if_pos rfl] at hP
    obtain ⟨x, nx, er, hX⟩ : ∃ x nx er, expS s p kind = (x, nx, er) := ⟨_, _, _, rfl⟩
    rw [hX] at HN hP
    have HX : Hid (P1 = nx ∧ E1 = er) := by cases hP; exact ⟨rfl, rfl⟩
    clear hP hX hI
    dsimp only at HN
    go_wp2_with fail
    go_region_with (first | (go_at_call 52; refine (HN.out _).mono ?_; rintro e w1 ⟨v, rfl, hv, hb1⟩; have hB1 := But.drew_below g hb1; have j := rd_new hr hb1; have hj0 := blk_cell j 0; have hj1 := blk_cell j 1; have hj2 := blk_cell j 2; have hjf0 := blk_frozen j 0; have hjf1 := blk_frozen j 1; have hjf2 := blk_frozen j 2))
    all_goals go_wp2
    all_goals go_end0
    all_goals obtain ⟨rfl, rfl⟩ := HX.out
    all_goals first | exact ⟨rfl, rd_two j _ _, hB1.two _ _ _ _⟩ | exact ⟨rfl, rd_two' j _ _, hB1.two _ _ _ _⟩
  · have h0b : (e0 == 0) = false := beq_eq_false_iff_ne.2 h0
    have HX : Hid (P1 = p ∧ E1 = e0) := by rw [if_neg h0] at hP; cases hP; exact ⟨rfl, rfl⟩
    clear hP hI h0
    go_wp2
    go_end0
    obtain ⟨rfl, rfl⟩ := HX.out
    exact ⟨rfl, hr, But.refl g w⟩
set_option maxRecDepth 100000 in
set_option maxHeartbeats 8000000 in
theorem number_c {w : World} {g : Nat} (s : ByteArray) (hs : s.size < 1048576) (p e0 : Int) (hr : w.heap[g]? = some (rdObj s p e0)) (hI : e0 = 0 → HicAt s p) :
    Calls Try.prog 32 #[.pointer (some ⟨g, 0, none⟩)] w fun e w' => e = .returned (.int .i64 (numS s (p, e0)).1) ∧ w'.heap[g]? = some (rdObj s (numS s (p, e0)).2.1 (numS s (p, e0)).2.2) ∧ But g w w' := by
  have hR := Try.underlying67
  obtain ⟨N, P1, E1, hP⟩ : ∃ N P1 E1, (N, P1, E1) = numS s (p, e0) := ⟨_, _, _, rfl⟩
  rw [← hP]
  unfold numS at hP
  dsimp only at hP
  have hq0 := blk_cell hr 0; have hq1 := blk_cell hr 1; have hq2 := blk_cell hr 2; have hqf0 := blk_frozen hr 0; have hqf1 := blk_frozen hr 1; have hqf2 := blk_frozen hr 2
  go_enter Try.func32, Try.ntmps32
  by_cases h0 : e0 = 0
  · subst h0
    have HN := Lib.hid (fun (W : World) => ExpectInt_c (w := W) s hs p (hI rfl))
    rw [if_pos rfl] at hP
    obtain ⟨x, nx, er, hX⟩ : ∃ x nx er, eiS s p = (x, nx, er) := ⟨_, _, _, rfl⟩
    rw [hX] at HN hP
    have HX : Hid (N = x ∧ P1 = nx ∧ E1 = er) := by cases hP; exact ⟨rfl, rfl, rfl⟩
    clear hP hX hI
    dsimp only at HN
    go_wp2_with fail
    go_region_with (first | (go_at_call 50; refine (HN.out _).mono ?_; rintro e w1 ⟨rfl, hb1⟩; have hB1 := But.drew_below g hb1; have j := rd_new hr hb1; have hj0 := blk_cell j 0; have hj1 := blk_cell j 1; have hj2 := blk_cell j 2; have hjf0 := blk_frozen j 0; have hjf1 := blk_frozen j 1; have hjf2 := blk_frozen j 2))
    all_goals go_wp2
    all_goals go_ret
    all_goals obtain ⟨rfl, rfl, rfl⟩ := HX.out
    all_goals first | exact ⟨rfl, rd_two j _ _, hB1.two _ _ _ _⟩ | exact ⟨rfl, rd_two' j _ _, hB1.two _ _ _ _⟩
  · have h0b : (e0 == 0) = false := beq_eq_false_iff_ne.2 h0
    have HX : Hid (N = 0 ∧ P1 = p ∧ E1 = e0) := by rw [if_neg h0] at hP; cases hP; exact ⟨rfl, rfl, rfl⟩
    clear hP hI h0
    go_wp2
    go_ret
    obtain ⟨rfl, rfl, rfl⟩ := HX.out
    exact ⟨rfl, hr, But.refl g w⟩
theorem int_c {w : World} {g : Nat} (s : ByteArray) (hs : s.size < 1048576) (p e0 : Int) (hr : w.heap[g]? = some (rdObj s p e0)) (hI : e0 = 0 → HicAt s p) :
    Calls Try.prog 31 #[.pointer (some ⟨g, 0, none⟩)] w fun e w' => e = .returned (.int .i64 (numS s (p, e0)).1) ∧ w'.heap[g]? = some (rdObj s (numS s (p, e0)).2.1 (numS s (p, e0)).2.2) ∧ But g w w' := by
  have HN := Lib.hid (number_c s hs p e0 hr hI)
  generalize numS s (p, e0) = R at HN ⊢
  go_enter Try.func31, Try.ntmps31
  go_wp2_with (first | (go_at_call 32; refine HN.out.mono ?_; rintro e w1 ⟨rfl, j, hb⟩))
  go_ret
  exact ⟨rfl, j, hb⟩
set_option maxRecDepth 100000 in
set_option maxHeartbeats 8000000 in
theorem begin_c {w : World} {g : Nat} (s : ByteArray) (hs : s.size < 1048576) (p e0 : Int) (word : ByteArray) (hr : w.heap[g]? = some (rdObj s p e0)) (hI : e0 = 0 → HicAt s p) (hI2 : (takeS s 1 (p, e0)).2 = 0 → HicAt s (takeS s 1 (p, e0)).1) :
    Calls Try.prog 30 #[.pointer (some ⟨g, 0, none⟩), .string word] w fun e w' => e = .returned (.tuple #[]) ∧ w'.heap[g]? = some (rdObj s (wordS s word (takeS s 1 (p, e0))).1 (wordS s word (takeS s 1 (p, e0))).2) ∧ But g w w' := by
  have hR := Try.underlying67
  have HT := Lib.hid (take_c s hs p e0 1 hr hI)
  obtain ⟨q, e1, hQ⟩ : ∃ q e1, takeS s 1 (p, e0) = (q, e1) := ⟨_, _, rfl⟩
  rw [hQ] at HT hI2 ⊢
  clear hQ hI
  obtain ⟨P1, E1, hP⟩ : ∃ P1 E1, (P1, E1) = wordS s word (q, e1) := ⟨_, _, rfl⟩
  rw [← hP]
  unfold wordS at hP
  dsimp only at hP HT hI2
  have hq0 := blk_cell hr 0; have hq1 := blk_cell hr 1; have hq2 := blk_cell hr 2; have hqf0 := blk_frozen hr 0; have hqf1 := blk_frozen hr 1; have hqf2 := blk_frozen hr 2
  go_enter Try.func30, Try.ntmps30
  by_cases h0 : e1 = 0
  · subst h0
    have HN := Lib.hid (fun (W : World) => ExpectWord_c (w := W) s hs q word (hI2 rfl))
    rw [if_pos rfl] at hP
    obtain ⟨nx, er, hX⟩ : ∃ nx er, ewS s q word = (nx, er) := ⟨_, _, rfl⟩
    rw [hX] at HN hP
    have HX : Hid (P1 = nx ∧ E1 = er) := by cases hP; exact ⟨rfl, rfl⟩
    clear hP hX hI2
    dsimp only at HN
    go_wp2_with (first | (go_at_call 35; refine HT.out.mono ?_; rintro e w0 ⟨rfl, h1, hB0⟩; have hz0 := blk_cell h1 0; have hz1 := blk_cell h1 1; have hz2 := blk_cell h1 2; have hzf0 := blk_frozen h1 0; have hzf1 := blk_frozen h1 1; have hzf2 := blk_frozen h1 2))
    go_region_with (first | (go_at_call 49; refine (HN.out _).mono ?_; rintro e w1 ⟨rfl, hb1⟩; have hB1 := hB0.trans (But.drew_below g hb1); have j := rd_new h1 hb1; have hj0 := blk_cell j 0; have hj1 := blk_cell j 1; have hj2 := blk_cell j 2; have hjf0 := blk_frozen j 0; have hjf1 := blk_frozen j 1; have hjf2 := blk_frozen j 2))
    all_goals go_wp2
    all_goals go_end0
    all_goals obtain ⟨rfl, rfl⟩ := HX.out
    all_goals first | exact ⟨rfl, rd_two j _ _, hB1.two _ _ _ _⟩ | exact ⟨rfl, rd_two' j _ _, hB1.two _ _ _ _⟩
  · have h0b : (e1 == 0) = false := beq_eq_false_iff_ne.2 h0
    have HX : Hid (P1 = q ∧ E1 = e1) := by rw [if_neg h0] at hP; cases hP; exact ⟨rfl, rfl⟩
    clear hP hI2 h0
    go_wp2_with (first | (go_at_call 35; refine HT.out.mono ?_; rintro e w0 ⟨rfl, h1, hB0⟩; have hz0 := blk_cell h1 0; have hz1 := blk_cell h1 1; have hz2 := blk_cell h1 2; have hzf0 := blk_frozen h1 0; have hzf1 := blk_frozen h1 1; have hzf2 := blk_frozen h1 2))
    go_end0
    obtain ⟨rfl, rfl⟩ := HX.out
    exact ⟨rfl, h1, hB0⟩
end Ar
end Go.Proofs.Ytnghcgmkncbnnaa
end
section
namespace Go.Proofs.Ytnghcgmkncbnnaa
open Go.RowKit Go.Proofs.YtnghcgmkncbnnaaW.PrintWords Go.Proofs.YtnghcgmkncbnnaaW.PrintLast Go.Proofs.YtnghcgmkncbnnaaW.PrintMore
namespace Ar
open Wd
def Good (s : ByteArray) (G : Int → Prop) : Prop := ∀ p, G p → HicAt s p ∧ ((nextS s p).2.2 = 0 → G (nextS s p).2.1)
theorem expS_next {s : ByteArray} {p kind : Int} (h : (expS s p kind).2.2 = 0) : (nextS s p).2.2 = 0 ∧ (nextS s p).1.k = kind ∧ expS s p kind = ((nextS s p).1, (nextS s p).2.1, 0) := by
  unfold expS at h ⊢
  split at h
  · exact absurd h (by decide)
  rename_i h8
  split at h
  · rename_i h0; exact absurd h h0
  rename_i h0
  split at h
  · exact absurd h (by decide)
  rename_i hk
  exact ⟨by simpa using h0, by simpa using hk, by rw [if_neg h8, if_neg h0, if_neg hk]⟩
theorem expS_G {s : ByteArray} {G : Int → Prop} (hG : Good s G) {p kind : Int} (hp : G p) (h : (expS s p kind).2.2 = 0) : G (expS s p kind).2.1 := by
  obtain ⟨h1, _, h3⟩ := expS_next h
  rw [h3]; exact (hG p hp).2 h1
theorem takeS_G {s : ByteArray} {G : Int → Prop} (hG : Good s G) {kind : Int} {st : Int × Int} (hp : st.2 = 0 → G st.1) : (takeS s kind st).2 = 0 → G (takeS s kind st).1 := by
  unfold takeS
  split
  · rename_i h; exact fun he => expS_G hG (hp h) he
  · exact hp
theorem wordS_G {s : ByteArray} {G : Int → Prop} (hG : Good s G) {word : ByteArray} {st : Int × Int} (hp : st.2 = 0 → G st.1) : (wordS s word st).2 = 0 → G (wordS s word st).1 := by
  unfold wordS
  split
  · rename_i h
    unfold ewS
    split
    · exact fun he => absurd he (by decide)
    · exact fun he => expS_G hG (hp h) he
  · exact hp
theorem numS_G {s : ByteArray} {G : Int → Prop} (hG : Good s G) {st : Int × Int} (hp : st.2 = 0 → G st.1) : (numS s st).2.2 = 0 → G (numS s st).2.1 := by
  unfold numS
  split
  · rename_i h
    unfold eiS
    split
    · rename_i h1; exact fun he => absurd he h1
    · rename_i h1
      have h1' : (expS s st.1 4).2.2 = 0 := by simpa using h1
      split
      · exact fun _ => expS_G hG (hp h) h1'
      · exact fun he => absurd he (by decide)
  · exact hp
def Rd (G : Int → Prop) (s : ByteArray) (g : Nat) (W : World) (st : Int × Int) : Prop := W.heap[g]? = some (rdObj s st.1 st.2) ∧ (st.2 = 0 → G st.1)
theorem Rd.far {G : Int → Prop} {s : ByteArray} {g : Nat} {W : World} {st : Int × Int} (h : Rd G s g W st) {p : Addr} (hp : g ≠ p.block) (u : Value) : Rd G s g (W.setCell p u) st := ⟨blk_far h.1 hp u, h.2⟩
theorem Rd.alloc {G : Int → Prop} {s : ByteArray} {g : Nat} {W : World} {st : Int × Int} (h : Rd G s g W st) (o : Obj) : Rd G s g (W.alloc o) st := ⟨blk_alloc h.1 o, h.2⟩
theorem Rd.below {G : Int → Prop} {s : ByteArray} {g : Nat} {W W' : World} {st : Int × Int} (h : Rd G s g W st) (hb : Below W.heap.size W W') : Rd G s g W' st := ⟨blk_below h.1 hb, h.2⟩
theorem Rd.drew {G : Int → Prop} {s : ByteArray} {g : Nat} {W : World} {st : Int × Int} (h : Rd G s g W st) : Rd G s g W.drew st := h
theorem take_s {G : Int → Prop} {s : ByteArray} (hs : s.size < 1048576) (hG : Good s G) {g : Nat} (w : World) (st : Int × Int) (kind : Int) (hr : Rd G s g w st) :
    Calls Try.prog 35 #[.pointer (some ⟨g, 0, none⟩), .int .u8 kind] w fun e w' => e = .returned (.tuple #[]) ∧ Rd G s g w' (takeS s kind st) ∧ But g w w' :=
  (take_c s hs st.1 st.2 kind hr.1 (fun h => (hG _ (hr.2 h)).1)).mono fun _ _ ⟨h1, h2, h3⟩ => ⟨h1, ⟨h2, takeS_G hG hr.2⟩, h3⟩
theorem number_s {G : Int → Prop} {s : ByteArray} (hs : s.size < 1048576) (hG : Good s G) {g : Nat} (w : World) (st : Int × Int) (hr : Rd G s g w st) :
    Calls Try.prog 32 #[.pointer (some ⟨g, 0, none⟩)] w fun e w' => e = .returned (.int .i64 (numS s st).1) ∧ Rd G s g w' (numS s st).2 ∧ But g w w' :=
  (number_c s hs st.1 st.2 hr.1 (fun h => (hG _ (hr.2 h)).1)).mono fun _ _ ⟨h1, h2, h3⟩ => ⟨h1, ⟨h2, numS_G hG hr.2⟩, h3⟩
theorem int_s {G : Int → Prop} {s : ByteArray} (hs : s.size < 1048576) (hG : Good s G) {g : Nat} (w : World) (st : Int × Int) (hr : Rd G s g w st) :
    Calls Try.prog 31 #[.pointer (some ⟨g, 0, none⟩)] w fun e w' => e = .returned (.int .i64 (numS s st).1) ∧ Rd G s g w' (numS s st).2 ∧ But g w w' :=
  (int_c s hs st.1 st.2 hr.1 (fun h => (hG _ (hr.2 h)).1)).mono fun _ _ ⟨h1, h2, h3⟩ => ⟨h1, ⟨h2, numS_G hG hr.2⟩, h3⟩
theorem begin_s {G : Int → Prop} {s : ByteArray} (hs : s.size < 1048576) (hG : Good s G) {g : Nat} (w : World) (st : Int × Int) (word : ByteArray) (hr : Rd G s g w st) :
    Calls Try.prog 30 #[.pointer (some ⟨g, 0, none⟩), .string word] w fun e w' => e = .returned (.tuple #[]) ∧ Rd G s g w' (wordS s word (takeS s 1 st)) ∧ But g w w' :=
  (begin_c s hs st.1 st.2 word hr.1 (fun h => (hG _ (hr.2 h)).1) (fun h => (hG _ (takeS_G hG hr.2 h)).1)).mono fun _ _ ⟨h1, h2, h3⟩ => ⟨h1, ⟨h2, wordS_G hG (takeS_G hG hr.2)⟩, h3⟩
def stepS (s : ByteArray) (st : Int × Int) : (Int × Int) × (Int × Int) :=
  (((numS s (takeS s 1 st)).1, (numS s (numS s (takeS s 1 st)).2).1), takeS s 2 (numS s (numS s (takeS s 1 st)).2).2)
theorem But.alloc {g : Nat} {w W : World} (h : But g w W) (o : Obj) : But g w (W.alloc o) := h.step (below_alloc (Below.refl _ W) o)
set_option maxRecDepth 100000 in
set_option maxHeartbeats 8000000 in
theorem step_s {G : Int → Prop} {s : ByteArray} (hs : s.size < 1048576) (hG : Good s G) {g : Nat} (w : World) (st : Int × Int) (hr : Rd G s g w st) :
    Calls Try.prog 34 #[.pointer (some ⟨g, 0, none⟩)] w fun e w' => e = .returned (.agg #[.int .i64 (stepS s st).1.1, .int .i64 (stepS s st).1.2]) ∧ Rd G s g w' (stepS s st).2 ∧ But g w w' := by
  have hS := Try.underlying40
  have hg : g < w.heap.size := blk_lt hr.1
  have hne : g ≠ w.heap.size := by omega
  have k0 := blk_new w (.cells #[.int .i64 0, .int .i64 0] 40)
  have r0 := hr.alloc (.cells #[.int .i64 0, .int .i64 0] 40)
  have b0 := (But.refl g w).alloc (.cells #[.int .i64 0, .int .i64 0] 40)
  unfold stepS
  have HT := Lib.hid (take_s hs hG (g := g))
  have HN := Lib.hid (number_s hs hG (g := g))
  clear hr hG
  go_enter Try.func34, Try.ntmps34
  go_wp2_with (first | (go_at_call 35; refine (HT.out _ _ 2 (r3.far hne _)).mono ?_; rintro e w4 ⟨rfl, r4, hb4⟩; have b4 := (b3.set_new (Nat.le_refl _) 1 (.int .i64 y)).trans hb4; have k4 := blk_but (blk_set k3 1 (.int .i64 y)) hb4 (Ne.symm hne); have hx0 := blk_cell k4 0; have hx1 := blk_cell k4 1; have hxf0 := blk_frozen k4 0; have hxf1 := blk_frozen k4 1) | (go_at_call 32; refine (HN.out _ _ (r2.far hne _)).mono ?_; rintro e w3 ⟨rfl, r3, hb3⟩; have b3 := (b2.set_new (Nat.le_refl _) 0 (.int .i64 x)).trans hb3; have k3 := blk_but (blk_set k2 0 (.int .i64 x)) hb3 (Ne.symm hne); obtain ⟨y, hy⟩ : ∃ y, (numS s (numS s (takeS s 1 st)).2).1 = y := ⟨_, rfl⟩; rw [hy]; have HY := Lib.hid hy; clear hy; have hz0 := blk_cell k3 0; have hz1 := blk_cell k3 1; have hzf0 := blk_frozen k3 0; have hzf1 := blk_frozen k3 1) | (go_at_call 32; refine (HN.out _ _ r1).mono ?_; rintro e w2 ⟨rfl, r2, hb2⟩; have b2 := b1.trans hb2; have k2 := blk_but k1 hb2 (Ne.symm hne); obtain ⟨x, hx⟩ : ∃ x, (numS s (takeS s 1 st)).1 = x := ⟨_, rfl⟩; rw [hx]; have HX := Lib.hid hx; clear hx; have hy0 := blk_cell k2 0; have hy1 := blk_cell k2 1; have hyf0 := blk_frozen k2 0; have hyf1 := blk_frozen k2 1) | (go_at_call 35; refine (HT.out _ _ 1 r0).mono ?_; rintro e w1 ⟨rfl, r1, hb1⟩; have b1 := b0.trans hb1; have k1 := blk_but k0 hb1 (Ne.symm hne)))
  refine bodyPost_ret (results_cell_row rfl _ _ w.heap.size 40 #[.int .i64 x, .int .i64 y] (0, 0) _ rfl (blk_set (blk_set k4 0 _) 1 _) Try.underlying40 rfl (by kernel_rfl)) rfl ?_
  exact ⟨by rw [HX.out, HY.out], (r4.far hne _).far hne _, (b4.set_new (Nat.le_refl _) 0 _).set_new (Nat.le_refl _) 1 _⟩
end Ar
end Go.Proofs.Ytnghcgmkncbnnaa
end
section
namespace Go.Proofs.Ytnghcgmkncbnnaa
open Go.RowKit Go.Proofs.YtnghcgmkncbnnaaW.PrintWords Go.Proofs.YtnghcgmkncbnnaaW.PrintLast Go.Proofs.YtnghcgmkncbnnaaW.PrintMore
namespace Ar
open Wd
abbrev Stp := E.S40
abbrev kStp := E.k40
def mkS (p : Int × Int) : Stp := ⟨p.1, p.2⟩
def goOn (s : ByteArray) (st : Int × Int) : Bool := st.2 == 0 && pkS s st.1 1
def sevF : Nat → ByteArray → List (Int × Int) → (Int × Int) → List (Int × Int) × (Int × Int)
  | 0, _, acc, st => (acc, st)
  | f + 1, s, acc, st => if goOn s st = true then sevF f s (acc ++ [(stepS s st).1]) (stepS s st).2 else (acc, st)
def left (s : ByteArray) (st : Int × Int) : Nat := if st.2 = 0 then ((s.size : Int) - st.1).toNat + 1 else 0
def sevS (s : ByteArray) (st : Int × Int) : List (Int × Int) × (Int × Int) := sevF (s.size + 1) s [] st
theorem sevF_stop {s : ByteArray} {st : Int × Int} (h : goOn s st = false) : ∀ (f : Nat) (acc : List (Int × Int)), sevF f s acc st = (acc, st)
  | 0, _ => rfl
  | f + 1, acc => by rw [sevF, h]; rfl
theorem sevF_more {s : ByteArray} {st : Int × Int} (h : goOn s st = true) (f : Nat) (acc : List (Int × Int)) : sevF (f + 1) s acc st = sevF f s (acc ++ [(stepS s st).1]) (stepS s st).2 := by rw [sevF, if_pos h]
theorem runS_ne {w : ByteArray} {r : Bool} (h : (runS w r).2 = 0) : 0 < w.size := by
  unfold runS at h
  split at h
  · exact absurd h (by decide)
  · omega
theorem nextS_ok {s : ByteArray} {p : Int} (h : (nextS s p).2.2 = 0) : 0 ≤ p ∧ p < (nextS s p).2.1 ∧ (nextS s p).2.1 ≤ s.size := by
  unfold nextS at h ⊢
  split at h
  · exact absurd h (by decide)
  rename_i hl
  split at h
  · exact absurd h (by decide)
  rename_i hp
  rw [if_neg hl, if_neg hp]
  have hk := sk_le s isSep p.toNat (by omega)
  generalize sk s isSep p.toNat = k at h hk ⊢
  unfold nextAt at h ⊢
  split at h
  · exact absurd h (by decide)
  rename_i hks
  rw [if_neg hks]
  split at h
  · rename_i h1; rw [if_pos h1]; dsimp only; omega
  rename_i h40
  rw [if_neg h40]
  split at h
  · rename_i h1; rw [if_pos h1]; dsimp only; omega
  rename_i h41
  rw [if_neg h41]
  split at h
  · rename_i h1
    rw [if_pos h1]
    dsimp only
    have hr := runS_ne (w := s.extract k (sk s isRun k)) h1
    rw [ByteArray.size_extract] at hr
    have := sk_le s isRun k hk.2
    omega
  · rename_i h1; exact absurd h h1
theorem expS_ok {s : ByteArray} {p kind : Int} (h : (expS s p kind).2.2 = 0) : 0 ≤ p ∧ p < (expS s p kind).2.1 ∧ (expS s p kind).2.1 ≤ s.size := by
  obtain ⟨h1, _, h3⟩ := expS_next h
  rw [h3]; exact nextS_ok h1
theorem takeS_ok {s : ByteArray} {kind : Int} {st : Int × Int} (h : (takeS s kind st).2 = 0) : st.2 = 0 ∧ 0 ≤ st.1 ∧ st.1 < (takeS s kind st).1 ∧ (takeS s kind st).1 ≤ s.size := by
  unfold takeS at h ⊢
  split at h
  · rename_i h0; rw [if_pos h0]; exact ⟨h0, expS_ok h⟩
  · rename_i h0; exact absurd h h0
theorem numS_ok {s : ByteArray} {st : Int × Int} (h : (numS s st).2.2 = 0) : st.2 = 0 ∧ 0 ≤ st.1 ∧ st.1 < (numS s st).2.1 ∧ (numS s st).2.1 ≤ s.size := by
  unfold numS at h ⊢
  split at h
  · rename_i h0
    rw [if_pos h0]
    unfold eiS at h ⊢
    split at h
    · rename_i h1; exact absurd h h1
    · rename_i h1
      have h1' : (expS s st.1 4).2.2 = 0 := by simpa using h1
      rw [if_neg h1]
      split at h
      · rename_i h2; rw [if_pos h2]; exact ⟨h0, expS_ok h1'⟩
      · exact absurd h (by decide)
  · rename_i h0; exact absurd h h0
theorem left_step {s : ByteArray} {st : Int × Int} (h : goOn s st = true) : left s (stepS s st).2 < left s st := by
  have h0 : st.2 = 0 := by unfold goOn at h; simp at h; exact h.1
  unfold left
  rw [if_pos h0]
  split
  · rename_i h1
    obtain ⟨h2, a2, b2, c2⟩ := takeS_ok (show (takeS s 2 _).2 = 0 from h1)
    obtain ⟨h3, a3, b3, c3⟩ := numS_ok h2
    obtain ⟨h4, a4, b4, c4⟩ := numS_ok h3
    obtain ⟨h5, a5, b5, c5⟩ := takeS_ok h4
    show ((s.size : Int) - (takeS s 2 (numS s (numS s (takeS s 1 st)).2).2).1).toNat + 1 < _
    omega
  · omega
theorem goOn_pos {s : ByteArray} {st : Int × Int} (h : goOn s st = true) : st.2 = 0 ∧ 0 ≤ st.1 ∧ 0 < left s st := by
  unfold goOn pkS at h
  simp at h
  refine ⟨h.1, (nextS_ok h.2.1).1, ?_⟩
  unfold left; rw [if_pos h.1]; omega
end Ar
end Go.Proofs.Ytnghcgmkncbnnaa
end
section
namespace Go.Proofs.Ytnghcgmkncbnnaa
open Go.RowKit Go.Proofs.YtnghcgmkncbnnaaW.PrintWords Go.Proofs.YtnghcgmkncbnnaaW.PrintLast Go.Proofs.YtnghcgmkncbnnaaW.PrintMore
namespace Ar
open Wd
abbrev stepV (g : Nat) : Value := .func (.func 34) #[.pointer (some ⟨g, 0, none⟩)] #[]
set_option maxRecDepth 100000 in
set_option maxHeartbeats 8000000 in
theorem several_s {G : Int → Prop} {s : ByteArray} (hs : s.size < 1048576) (hG : Good s G) {g : Nat} (w : World) (st : Int × Int) (hr : Rd G s g w st) (hpos : left s st ≤ s.size + 1) :
    Calls Try.prog 33 #[.pointer (some ⟨g, 0, none⟩), stepV g] w fun e w' => ∃ v, e = .returned v ∧ Kd.R kStp 40 w' w.heap.size (fun k => w.heap.size ≤ k) v ((sevS s st).1.map mkS) ∧ Rd G s g w' (sevS s st).2 ∧ But g w w' := by
  have hR := Try.underlying67
  have hg : g < w.heap.size := blk_lt hr.1
  obtain ⟨L, Er, hP⟩ : ∃ L Er, sevS s st = (L, Er) := ⟨_, _, rfl⟩
  rw [hP]
  have HS := Lib.hid (step_s hs hG (g := g))
  have HP := Lib.hid (fun (W : World) (p : Int) (hp : G p) => Peek_c (w := W) s hs p 1 (hG p hp).1)
  go_enter Try.func33, Try.ntmps33
  go_wp2
  go_loopg [4] (s.size + 1) (fun k v W => ∃ (xs : List (Int × Int)) (q : Int × Int), Hid (sevF k s xs q = (L, Er)) ∧ Hid (left s q ≤ k ∧ xs.length + k ≤ s.size + 1) ∧ Kd.R kStp 40 W w.heap.size (fun k => w.heap.size ≤ k) v (xs.map mkS) ∧ Rd G s g W q ∧ But g w W)
  case atStart => exact ⟨[], st, hP, ⟨hpos, by simp⟩, Kd.R_nil _ _ _ _ _, hr, But.refl g w⟩
  case round =>
    obtain ⟨xs, q, HL, HM, hO, hq, hB⟩ := hrel
    obtain ⟨p, e0⟩ := q
    have hq1 := hq.1
    have hc0 := blk_cell hq1 0; have hc1 := blk_cell hq1 1; have hc2 := blk_cell hq1 2; have hcf0 := blk_frozen hq1 0; have hcf1 := blk_frozen hq1 1; have hcf2 := blk_frozen hq1 2
    by_cases h0 : e0 = 0
    · have h0b : (e0 == 0) = true := beq_iff_eq.2 h0
      have Gp := Lib.hid (hq.2 h0)
      cases hk : pkS s p 1 with
      | false =>
        have hgo : goOn s (p, e0) = false := by unfold goOn; rw [hk, Bool.and_false]
        have HX : Hid (L = xs ∧ Er = (p, e0)) := by have := HL.out; rw [sevF_stop hgo] at this; cases this; exact ⟨rfl, rfl⟩
        have HK := Lib.hid hk
        clear hk h0 hgo
        have HP' := Lib.hid (HP.out · p Gp.out)
        rw [HK.out] at HP'
        go_wp2_with fail
        go_region_held3 (fun w' => w'.cell? ⟨g, 0, none⟩ = some (.string s) ∧ w'.cell? ⟨g, 1, none⟩ = some (.int .i64 p) ∧ w'.cell? ⟨g, 2, none⟩ = some (.int .i64 e0)) (first | exact ⟨hc0, hc1, hc2⟩ | exact ⟨blk_cell j 0, blk_cell j 1, blk_cell j 2⟩) (first | (go_at_call 51; refine (HP'.out _).mono ?_; rintro e w1 ⟨rfl, hb1⟩; have j := rd_new hq1 hb1; have hqj : Rd G s g w1 (p, e0) := ⟨j, hq.2⟩; have hBj := hB.trans (But.drew_below g hb1); have hOj := Kd.R_below (Kd.R_drew hO) hb1))
        go_wp2
        go_ret
        obtain ⟨rfl, rfl⟩ := HX.out
        exact ⟨_, rfl, hOj, hqj, hBj⟩
      | true =>
        have hgo : goOn s (p, e0) = true := by unfold goOn; rw [h0b, hk]; rfl
        have hl := left_step hgo
        have hp0 := goOn_pos hgo
        have HP' := Lib.hid (HP.out · p Gp.out)
        rw [hk] at HP'
        clear hk h0
        have hM := HM.out
        cases gk with
        | zero => exact absurd hM.1 (by omega)
        | succ n =>
          have HX := Lib.hid (show sevF n s (xs ++ [(stepS s (p, e0)).1]) (stepS s (p, e0)).2 = (L, Er) by have := HL.out; rwa [sevF_more hgo] at this)
          have HY : Hid (left s (stepS s (p, e0)).2 ≤ n ∧ (xs ++ [(stepS s (p, e0)).1]).length + n ≤ s.size + 1) := ⟨by omega, by rw [List.length_append, List.length_singleton]; omega⟩
          clear hgo hl hp0
          obtain ⟨⟨x1, x2⟩, q2, hst⟩ : ∃ x q2, stepS s (p, e0) = (x, q2) := ⟨_, _, rfl⟩
          rw [hst] at HX HY
          have HS' := Lib.hid (fun (W : World) (h : Rd G s g W (p, e0)) => HS.out W (p, e0) h)
          rw [hst] at HS'
          clear hst
          go_wp2_with fail
          go_region_held3 (fun w' => w'.cell? ⟨g, 0, none⟩ = some (.string s) ∧ w'.cell? ⟨g, 1, none⟩ = some (.int .i64 p) ∧ w'.cell? ⟨g, 2, none⟩ = some (.int .i64 e0)) (first | exact ⟨hc0, hc1, hc2⟩ | exact ⟨blk_cell j 0, blk_cell j 1, blk_cell j 2⟩) (first | (go_at_call 51; refine (HP'.out _).mono ?_; rintro e w1 ⟨rfl, hb1⟩; have j := rd_new hq1 hb1; have hqj : Rd G s g w1 (p, e0) := ⟨j, hq.2⟩; have hBj := hB.trans (But.drew_below g hb1); have hOj := Kd.R_below (Kd.R_drew hO) hb1))
          go_wp2_with (first | (go_at_call 34; refine (HS'.out _ hqj).mono ?_; rintro e w2 ⟨rfl, hq2, hb2⟩; have hB2 := hBj.trans hb2; have hO2 := Kd.R_step hOj (fun k hk hl => hb2.block k hl (by omega))) | ((with_reducible refine gate_builtin (b := .append) (xs := #[.tmp 21, .tmp 24]) rfl ?_); at_builtin; refine Kd.R_append kStp (w0 := w2) w.heap.size rfl (.tmp 21) (.tmp 24) 28 40 (.agg #[.int .i64 0, .int .i64 0]) 16 rfl Try.underlying28 E.info40 rfl (by decide) (by decide) _ (xs.map mkS) (mkS (x1, x2)) [.int .i64 x1, .int .i64 x2] (fun k => w.heap.size ≤ k) (fun _ => False) rfl rfl (E.k40_mkM _ _ _ _) (fun _ h => h.elim) (fun k hk => Nat.le_trans hB2.size hk) hO2 (Below.refl _ _) hB2.size (by rw [List.length_map]; have := HY.out.2; rw [List.length_append, List.length_singleton] at this; omega) ?_; intro v3 w3 hO3 hb3 _ _))
          go_roundg n
          case measure => omega
          case rel => exact ⟨xs ++ [(x1, x2)], q2, HX.out, HY.out, by rw [List.map_append]; exact hO3, ⟨(hb3.block g hg).trans hq2.1, hq2.2⟩, ⟨hb3.os.trans hB2.os, hb3.tape.trans hB2.tape, hb3.output.trans hB2.output, Nat.le_trans hB2.size hb3.size, fun k hk hn => (hb3.block k hk).trans (hB2.block k hk hn)⟩⟩
    · have h0b : (e0 == 0) = false := beq_eq_false_iff_ne.2 h0
      have hgo : goOn s (p, e0) = false := by unfold goOn; rw [h0b, Bool.false_and]
      have HX : Hid (L = xs ∧ Er = (p, e0)) := by have := HL.out; rw [sevF_stop hgo] at this; cases this; exact ⟨rfl, rfl⟩
      clear h0 hgo
      go_wp2_with fail
      go_quiet (fail)
      go_wp2
      go_ret
      obtain ⟨rfl, rfl⟩ := HX.out
      exact ⟨_, rfl, Kd.R_drewN hO _, hq, hB.step (pw_below_drewN (Below.refl _ _) _)⟩
end Ar
end Go.Proofs.Ytnghcgmkncbnnaa
end
section
namespace Go.Proofs.Ytnghcgmkncbnnaa
open Go.RowKit Go.Proofs.YtnghcgmkncbnnaaW.PrintWords Go.Proofs.YtnghcgmkncbnnaaW.PrintLast Go.Proofs.YtnghcgmkncbnnaaW.PrintMore
namespace Ar
open Wd
abbrev rdS (l : List Stp) (i : Nat) : Stp := E.rd_T40 l i
def badStep (x : Stp) : Bool := decide (x.f0 < 1) || decide (1000000 < x.f0) || decide (x.f1 < -1000000) || decide (1000000 < x.f1)
def curW (after : Int → Int → Bool) (l : List Stp) : Nat → Nat → Int
  | 0, _ => 0
  | n + 1, i => if badStep (rdS l i) = true then 1 else if 0 < i ∧ after (rdS l (i - 1)).f1 (rdS l i).f1 = false then 3 else curW after l n (i + 1)
def curS (after : Int → Int → Bool) (l : List Stp) : Int := if l.length = 0 then 4 else if 3 < l.length then 5 else curW after l l.length 0
def rise (a b : Int) : Bool := decide (a < b)
def fall (a b : Int) : Bool := decide (b < a)
theorem bad_of1 {x : Stp} (h : x.f0 < 1) : badStep x = true := by unfold badStep; rw [decide_eq_true h]; rfl
theorem bad_of2 {x : Stp} (h : 1000000 < x.f0) : badStep x = true := by unfold badStep; rw [decide_eq_true h]; simp
theorem bad_of3 {x : Stp} (h : x.f1 < -1000000) : badStep x = true := by unfold badStep; rw [decide_eq_true h]; simp
theorem bad_of4 {x : Stp} (h : 1000000 < x.f1) : badStep x = true := by unfold badStep; rw [decide_eq_true h]; simp
theorem bad_not {x : Stp} (h1 : ¬ x.f0 < 1) (h2 : ¬ 1000000 < x.f0) (h3 : ¬ x.f1 < -1000000) (h4 : ¬ 1000000 < x.f1) : badStep x = false := by unfold badStep; rw [decide_eq_false h1, decide_eq_false h2, decide_eq_false h3, decide_eq_false h4]; rfl
theorem rise1_c {w : World} (a b : Int) : Calls Try.prog 62 #[.int .i64 a, .int .i64 b] w fun e w' => e = .returned (.bool (rise a b)) ∧ w' = w := by
  unfold rise
  go_enter Try.func62, Try.ntmps62
  go_wp2
  go_ret
  exact ⟨rfl, rfl⟩
theorem rising_c {w : World} : Calls Try.prog 46 #[] w fun e w' => e = .returned (.agg #[fnV 62]) ∧ Below w.heap.size w w' := by
  have hT := Try.underlying99
  go_enter Try.func46, Try.ntmps46
  go_wp2
  exact bodyPost_ret (results_cell_row rfl _ _ w.heap.size 99 #[fnV 62] (0, 0) _ rfl (blk_new w _) hT rfl (by kernel_rfl)) rfl ⟨rfl, below_alloc (Below.refl _ w) _⟩
set_option maxRecDepth 100000 in
set_option maxHeartbeats 8000000 in
theorem wrongR_c {w : World} (A : Option Addr) (c : Nat) (l : List Stp) (hr : Kd.C kStp w A l.length l) (hc : l.length ≤ c) :
    Calls Try.prog 47 #[.agg #[fnV 62], .slice A l.length c] w fun e w' => e = .returned (.int .i64 (curS rise l)) ∧ Below w.heap.size w w' := by
  have hT := Try.underlying99
  have hS := Try.underlying40
  have hb0 := below_alloc (Below.refl _ w) (.cells #[fnV 62] 99)
  have k0 := blk_new w (.cells #[fnV 62] 99)
  obtain ⟨R, hP⟩ : ∃ R, R = curS rise l := ⟨_, rfl⟩
  rw [← hP]
  unfold curS at hP
  go_enter Try.func47, Try.ntmps47
  by_cases h0 : l.length = 0
  · have h0b : ((l.length : Int) == 0) = true := beq_iff_eq.2 (by omega)
    rw [if_pos h0] at hP
    have HX := Lib.hid hP
    clear hP h0
    go_wp2
    go_ret
    exact ⟨by rw [HX.out]; rfl, hb0⟩
  · have h0b : ((l.length : Int) == 0) = false := beq_eq_false_iff_ne.2 (by omega)
    rw [if_neg h0] at hP
    by_cases h3 : 3 < l.length
    · have h3b : decide ((3 : Int) < (l.length : Int)) = true := decide_eq_true (by omega)
      rw [if_pos h3] at hP
      have HX := Lib.hid hP
      clear hP h0 h3
      go_wp2
      go_ret
      exact ⟨by rw [HX.out]; rfl, hb0⟩
    · have h3b : decide ((3 : Int) < (l.length : Int)) = false := decide_eq_false (by omega)
      rw [if_neg h3] at hP
      have HX := Lib.hid hP
      have HL := Lib.hid (Nat.le_of_not_lt h3)
      clear hP h0 h3
      go_wp2
      go_loopg [17] l.length (fun k v W => ∃ i : Nat, v = .int .i64 i ∧ i + k = l.length ∧ Hid (R = curW rise l k i) ∧ Below w.heap.size w W ∧ W.heap[w.heap.size]? = some (.cells #[fnV 62] 99 (0, 0)))
      case atStart => exact ⟨0, rfl, by omega, HX.out, hb0, k0⟩
      case round =>
        obtain ⟨i, rfl, hi, HR, hB, kb⟩ := hrel
        cases gk with
        | zero =>
          obtain rfl : i = l.length := by omega
          have hlb : decide ((l.length : Int) < (l.length : Int)) = false := decide_eq_false (by omega)
          go_wp2
          go_ret
          exact ⟨by rw [HR.out]; rfl, hB⟩
        | succ n =>
          have hlt : i < l.length := by omega
          have hlb : decide ((i : Int) < (l.length : Int)) = true := decide_eq_true (by omega)
          have hrW : Kd.C kStp wr A l.length l := Kd.C_below hr hB
          obtain ⟨ad, rfl, g0, g1⟩ := E.at_T40 hrW i (by omega) (by omega)
          obtain ⟨⟨x0, x1⟩, hx⟩ : ∃ x, rdS l i = x := ⟨_, rfl⟩
          rw [show E.rd_T40 l ((i : Nat) : Int) = ⟨x0, x1⟩ from hx] at g0 g1
          dsimp only at g0 g1
          rw [Int.toNat_natCast] at g0 g1
          have hHR : R = if badStep ⟨x0, x1⟩ = true then 1 else if 0 < i ∧ rise (rdS l (i - 1)).f1 x1 = false then 3 else curW rise l n (i + 1) := by have h := HR.out; unfold curW at h; rw [hx] at h; exact h
          have HI := Lib.hid hx
          clear hx HR HX
          have kx := blk_new wr (.cells #[.int .i64 x0, .int .i64 x1] 40)
          have kb1 := blk_alloc kb (.cells #[.int .i64 x0, .int .i64 x1] 40)
          have hB1 := below_alloc hB (.cells #[.int .i64 x0, .int .i64 x1] 40)
          have hk0 := blk_cell kx 0; have hk1 := blk_cell kx 1; have hkf0 := blk_frozen kx 0; have hkf1 := blk_frozen kx 1; have hf0 := blk_cell kb1 0; have hff0 := blk_frozen kb1 0
          by_cases c1 : x0 < 1
          · have d1 : decide (x0 < 1) = true := decide_eq_true c1
            have HB : Hid (R = 1) := by rw [hHR, if_pos (bad_of1 (x := ⟨x0, x1⟩) c1)]; exact rfl
            clear hHR c1
            go_wp2
            go_ret
            exact ⟨by rw [HB.out]; rfl, below_alloc hB _⟩
          have d1 : decide (x0 < 1) = false := decide_eq_false c1
          by_cases c2 : 1000000 < x0
          · have d2 : decide (1000000 < x0) = true := decide_eq_true c2
            have HB : Hid (R = 1) := by rw [hHR, if_pos (bad_of2 (x := ⟨x0, x1⟩) c2)]; exact rfl
            clear hHR c2
            go_wp2
            go_ret
            exact ⟨by rw [HB.out]; rfl, below_alloc hB _⟩
          have d2 : decide (1000000 < x0) = false := decide_eq_false c2
          by_cases c3 : x1 < -1000000
          · have d3 : decide (x1 < -1000000) = true := decide_eq_true c3
            have HB : Hid (R = 1) := by rw [hHR, if_pos (bad_of3 (x := ⟨x0, x1⟩) c3)]; exact rfl
            clear hHR c3
            go_wp2
            go_ret
            exact ⟨by rw [HB.out]; rfl, below_alloc hB _⟩
          have d3 : decide (x1 < -1000000) = false := decide_eq_false c3
          by_cases c4 : 1000000 < x1
          · have d4 : decide (1000000 < x1) = true := decide_eq_true c4
            have HB : Hid (R = 1) := by rw [hHR, if_pos (bad_of4 (x := ⟨x0, x1⟩) c4)]; exact rfl
            clear hHR c4
            go_wp2
            go_ret
            exact ⟨by rw [HB.out]; rfl, below_alloc hB _⟩
          have d4 : decide (1000000 < x1) = false := decide_eq_false c4
          rw [if_neg (by rw [bad_not (x := ⟨x0, x1⟩) c1 c2 c3 c4]; decide)] at hHR
          clear c1 c2 c3 c4
          by_cases hi0 : i = 0
          · have hz : decide ((0 : Int) < (i : Int)) = false := decide_eq_false (by omega)
            have HY : Hid (R = curW rise l n (i + 1)) := by rw [hHR, if_neg (fun h => absurd h.1 (by omega))]; exact rfl
            have HI0 := Lib.hid hi0
            clear hHR hi0
            go_wp2_with fail
            obtain rfl := HI0.out
            go_quiet (fail)
            go_wp2
            go_roundg n
            case measure => omega
            case rel => exact ⟨0 + 1, rfl, by omega, HY.out, pw_below_drewN hB1 _, blk_drewN kb1 _⟩
          · obtain ⟨j, HJ⟩ : ∃ j, Hid (i = j + 1) := ⟨i - 1, by show i = i - 1 + 1; omega⟩
            have hz : decide ((0 : Int) < (i : Int)) = true := decide_eq_true (by omega)
            have hw : wrap64 ((i : Int) - 1) = (j : Int) := by have h1 := HL.out; have h2 := HJ.out; unfold wrap64; omega
            have hjl : j < l.length := by have h2 := HJ.out; omega
            obtain ⟨ad', had, q0, q1⟩ := E.at_T40 (Kd.C_alloc hrW (.cells #[.int .i64 x0, .int .i64 x1] 40)) j (by omega) (by omega)
            obtain rfl := Option.some.inj had
            obtain ⟨y, hy⟩ : ∃ y, (rdS l j).f1 = y := ⟨_, rfl⟩
            rw [show (E.rd_T40 l ((j : Nat) : Int)).f1 = y from hy] at q1
            rw [Int.toNat_natCast] at q0 q1
            have hHR' : R = if rise y x1 = false then 3 else curW rise l n (i + 1) := by
              rw [hHR, show i - 1 = j by have h2 := HJ.out; omega, hy]
              simp only [show 0 < i by omega, true_and]
            clear hHR hy hi0
            have hzn : decide (0 < i) = true := decide_eq_true (by have h2 := HJ.out; omega)
            have hw2 : IntKind.i64.wrap ((i : Int) - 1) = (j : Int) := by have h := hw; unfold wrap64 at h; rw [IntKind.wrap_i64]; exact h
            have hw3 : wrap64 ((i : Int) + 1) = ((i + 1 : Nat) : Int) := w64succ i (by have h1 := HL.out; omega)
            have hj1 : (0 : Int) ≤ (j : Int) := by omega
            have hj2 : (j : Int) < (l.length : Int) := by omega
            cases hf : rise y x1 with
            | true =>
              have HY : Hid (R = curW rise l n (i + 1)) := by rw [hHR', hf]; exact rfl
              have HF := Lib.hid ((fun W => rise1_c (w := W) y x1))
              rw [hf] at HF
              clear hHR' hf
              go_wp2_with fail
              go_region_held3 (fun w' => w'.cell? ⟨w.heap.size, 0, none⟩ = some (fnV 62) ∧ w'.cell? ⟨wr.heap.size, 1, none⟩ = some (.int .i64 x1) ∧ w'.cell? ⟨(ad.add (j * 2)).block, (ad.add (j * 2)).off + 1, none⟩ = some (.int .i64 y)) (first | exact ⟨hf0, hk1, q1⟩) (first | (go_at_call 62; refine (HF.out _).mono ?_; rintro e w1 ⟨rfl, rfl⟩))
              go_wp2
              go_roundg n
              case measure => omega
              case rel => exact ⟨i + 1, congrArg (Value.int .i64) hw3, by omega, HY.out, hB1.drew, kb1⟩
            | false =>
              have HY : Hid (R = 3) := by rw [hHR', hf]; exact rfl
              have HF := Lib.hid ((fun W => rise1_c (w := W) y x1))
              rw [hf] at HF
              clear hHR' hf
              go_wp2_with fail
              go_region_held3 (fun w' => w'.cell? ⟨w.heap.size, 0, none⟩ = some (fnV 62) ∧ w'.cell? ⟨wr.heap.size, 1, none⟩ = some (.int .i64 x1) ∧ w'.cell? ⟨(ad.add (j * 2)).block, (ad.add (j * 2)).off + 1, none⟩ = some (.int .i64 y)) (first | exact ⟨hf0, hk1, q1⟩) (first | (go_at_call 62; refine (HF.out _).mono ?_; rintro e w1 ⟨rfl, rfl⟩))
              go_wp2
              go_ret
              exact ⟨by rw [HY.out]; rfl, hB1.drew⟩
theorem fall1_c {w : World} (a b : Int) : Calls Try.prog 75 #[.int .i64 a, .int .i64 b] w fun e w' => e = .returned (.bool (fall a b)) ∧ w' = w := by
  unfold fall
  go_enter Try.func75, Try.ntmps75
  go_wp2
  go_ret
  exact ⟨rfl, rfl⟩
theorem falling_c {w : World} : Calls Try.prog 61 #[] w fun e w' => e = .returned (.agg #[fnV 75]) ∧ Below w.heap.size w w' := by
  have hT := Try.underlying99
  go_enter Try.func61, Try.ntmps61
  go_wp2
  exact bodyPost_ret (results_cell_row rfl _ _ w.heap.size 99 #[fnV 75] (0, 0) _ rfl (blk_new w _) hT rfl (by kernel_rfl)) rfl ⟨rfl, below_alloc (Below.refl _ w) _⟩
set_option maxRecDepth 100000 in
set_option maxHeartbeats 8000000 in
theorem wrongF_c {w : World} (A : Option Addr) (c : Nat) (l : List Stp) (hr : Kd.C kStp w A l.length l) (hc : l.length ≤ c) :
    Calls Try.prog 47 #[.agg #[fnV 75], .slice A l.length c] w fun e w' => e = .returned (.int .i64 (curS fall l)) ∧ Below w.heap.size w w' := by
  have hT := Try.underlying99
  have hS := Try.underlying40
  have hb0 := below_alloc (Below.refl _ w) (.cells #[fnV 75] 99)
  have k0 := blk_new w (.cells #[fnV 75] 99)
  obtain ⟨R, hP⟩ : ∃ R, R = curS fall l := ⟨_, rfl⟩
  rw [← hP]
  unfold curS at hP
  go_enter Try.func47, Try.ntmps47
  by_cases h0 : l.length = 0
  · have h0b : ((l.length : Int) == 0) = true := beq_iff_eq.2 (by omega)
    rw [if_pos h0] at hP
    have HX := Lib.hid hP
    clear hP h0
    go_wp2
    go_ret
    exact ⟨by rw [HX.out]; rfl, hb0⟩
  · have h0b : ((l.length : Int) == 0) = false := beq_eq_false_iff_ne.2 (by omega)
    rw [if_neg h0] at hP
    by_cases h3 : 3 < l.length
    · have h3b : decide ((3 : Int) < (l.length : Int)) = true := decide_eq_true (by omega)
      rw [if_pos h3] at hP
      have HX := Lib.hid hP
      clear hP h0 h3
      go_wp2
      go_ret
      exact ⟨by rw [HX.out]; rfl, hb0⟩
    · have h3b : decide ((3 : Int) < (l.length : Int)) = false := decide_eq_false (by omega)
      rw [if_neg h3] at hP
      have HX := Lib.hid hP
      have HL := Lib.hid (Nat.le_of_not_lt h3)
      clear hP h0 h3
      go_wp2
      go_loopg [17] l.length (fun k v W => ∃ i : Nat, v = .int .i64 i ∧ i + k = l.length ∧ Hid (R = curW fall l k i) ∧ Below w.heap.size w W ∧ W.heap[w.heap.size]? = some (.cells #[fnV 75] 99 (0, 0)))
      case atStart => exact ⟨0, rfl, by omega, HX.out, hb0, k0⟩
      case round =>
        obtain ⟨i, rfl, hi, HR, hB, kb⟩ := hrel
        cases gk with
        | zero =>
          obtain rfl : i = l.length := by omega
          have hlb : decide ((l.length : Int) < (l.length : Int)) = false := decide_eq_false (by omega)
          go_wp2
          go_ret
          exact ⟨by rw [HR.out]; rfl, hB⟩
        | succ n =>
          have hlt : i < l.length := by omega
          have hlb : decide ((i : Int) < (l.length : Int)) = true := decide_eq_true (by omega)
          have hrW : Kd.C kStp wr A l.length l := Kd.C_below hr hB
          obtain ⟨ad, rfl, g0, g1⟩ := E.at_T40 hrW i (by omega) (by omega)
          obtain ⟨⟨x0, x1⟩, hx⟩ : ∃ x, rdS l i = x := ⟨_, rfl⟩
          rw [show E.rd_T40 l ((i : Nat) : Int) = ⟨x0, x1⟩ from hx] at g0 g1
          dsimp only at g0 g1
          rw [Int.toNat_natCast] at g0 g1
          have hHR : R = if badStep ⟨x0, x1⟩ = true then 1 else if 0 < i ∧ fall (rdS l (i - 1)).f1 x1 = false then 3 else curW fall l n (i + 1) := by have h := HR.out; unfold curW at h; rw [hx] at h; exact h
          have HI := Lib.hid hx
          clear hx HR HX
          have kx := blk_new wr (.cells #[.int .i64 x0, .int .i64 x1] 40)
          have kb1 := blk_alloc kb (.cells #[.int .i64 x0, .int .i64 x1] 40)
          have hB1 := below_alloc hB (.cells #[.int .i64 x0, .int .i64 x1] 40)
          have hk0 := blk_cell kx 0; have hk1 := blk_cell kx 1; have hkf0 := blk_frozen kx 0; have hkf1 := blk_frozen kx 1; have hf0 := blk_cell kb1 0; have hff0 := blk_frozen kb1 0
          by_cases c1 : x0 < 1
          · have d1 : decide (x0 < 1) = true := decide_eq_true c1
            have HB : Hid (R = 1) := by rw [hHR, if_pos (bad_of1 (x := ⟨x0, x1⟩) c1)]; exact rfl
            clear hHR c1
            go_wp2
            go_ret
            exact ⟨by rw [HB.out]; rfl, below_alloc hB _⟩
          have d1 : decide (x0 < 1) = false := decide_eq_false c1
          by_cases c2 : 1000000 < x0
          · have d2 : decide (1000000 < x0) = true := decide_eq_true c2
            have HB : Hid (R = 1) := by rw [hHR, if_pos (bad_of2 (x := ⟨x0, x1⟩) c2)]; exact rfl
            clear hHR c2
            go_wp2
            go_ret
            exact ⟨by rw [HB.out]; rfl, below_alloc hB _⟩
          have d2 : decide (1000000 < x0) = false := decide_eq_false c2
          by_cases c3 : x1 < -1000000
          · have d3 : decide (x1 < -1000000) = true := decide_eq_true c3
            have HB : Hid (R = 1) := by rw [hHR, if_pos (bad_of3 (x := ⟨x0, x1⟩) c3)]; exact rfl
            clear hHR c3
            go_wp2
            go_ret
            exact ⟨by rw [HB.out]; rfl, below_alloc hB _⟩
          have d3 : decide (x1 < -1000000) = false := decide_eq_false c3
          by_cases c4 : 1000000 < x1
          · have d4 : decide (1000000 < x1) = true := decide_eq_true c4
            have HB : Hid (R = 1) := by rw [hHR, if_pos (bad_of4 (x := ⟨x0, x1⟩) c4)]; exact rfl
            clear hHR c4
            go_wp2
            go_ret
            exact ⟨by rw [HB.out]; rfl, below_alloc hB _⟩
          have d4 : decide (1000000 < x1) = false := decide_eq_false c4
          rw [if_neg (by rw [bad_not (x := ⟨x0, x1⟩) c1 c2 c3 c4]; decide)] at hHR
          clear c1 c2 c3 c4
          by_cases hi0 : i = 0
          · have hz : decide ((0 : Int) < (i : Int)) = false := decide_eq_false (by omega)
            have HY : Hid (R = curW fall l n (i + 1)) := by rw [hHR, if_neg (fun h => absurd h.1 (by omega))]; exact rfl
            have HI0 := Lib.hid hi0
            clear hHR hi0
            go_wp2_with fail
            obtain rfl := HI0.out
            go_quiet (fail)
            go_wp2
            go_roundg n
            case measure => omega
            case rel => exact ⟨0 + 1, rfl, by omega, HY.out, pw_below_drewN hB1 _, blk_drewN kb1 _⟩
          · obtain ⟨j, HJ⟩ : ∃ j, Hid (i = j + 1) := ⟨i - 1, by show i = i - 1 + 1; omega⟩
            have hz : decide ((0 : Int) < (i : Int)) = true := decide_eq_true (by omega)
            have hw : wrap64 ((i : Int) - 1) = (j : Int) := by have h1 := HL.out; have h2 := HJ.out; unfold wrap64; omega
            have hjl : j < l.length := by have h2 := HJ.out; omega
            obtain ⟨ad', had, q0, q1⟩ := E.at_T40 (Kd.C_alloc hrW (.cells #[.int .i64 x0, .int .i64 x1] 40)) j (by omega) (by omega)
            obtain rfl := Option.some.inj had
            obtain ⟨y, hy⟩ : ∃ y, (rdS l j).f1 = y := ⟨_, rfl⟩
            rw [show (E.rd_T40 l ((j : Nat) : Int)).f1 = y from hy] at q1
            rw [Int.toNat_natCast] at q0 q1
            have hHR' : R = if fall y x1 = false then 3 else curW fall l n (i + 1) := by
              rw [hHR, show i - 1 = j by have h2 := HJ.out; omega, hy]
              simp only [show 0 < i by omega, true_and]
            clear hHR hy hi0
            have hzn : decide (0 < i) = true := decide_eq_true (by have h2 := HJ.out; omega)
            have hw2 : IntKind.i64.wrap ((i : Int) - 1) = (j : Int) := by have h := hw; unfold wrap64 at h; rw [IntKind.wrap_i64]; exact h
            have hw3 : wrap64 ((i : Int) + 1) = ((i + 1 : Nat) : Int) := w64succ i (by have h1 := HL.out; omega)
            have hj1 : (0 : Int) ≤ (j : Int) := by omega
            have hj2 : (j : Int) < (l.length : Int) := by omega
            cases hf : fall y x1 with
            | true =>
              have HY : Hid (R = curW fall l n (i + 1)) := by rw [hHR', hf]; exact rfl
              have HF := Lib.hid ((fun W => fall1_c (w := W) y x1))
              rw [hf] at HF
              clear hHR' hf
              go_wp2_with fail
              go_region_held3 (fun w' => w'.cell? ⟨w.heap.size, 0, none⟩ = some (fnV 75) ∧ w'.cell? ⟨wr.heap.size, 1, none⟩ = some (.int .i64 x1) ∧ w'.cell? ⟨(ad.add (j * 2)).block, (ad.add (j * 2)).off + 1, none⟩ = some (.int .i64 y)) (first | exact ⟨hf0, hk1, q1⟩) (first | (go_at_call 75; refine (HF.out _).mono ?_; rintro e w1 ⟨rfl, rfl⟩))
              go_wp2
              go_roundg n
              case measure => omega
              case rel => exact ⟨i + 1, congrArg (Value.int .i64) hw3, by omega, HY.out, hB1.drew, kb1⟩
            | false =>
              have HY : Hid (R = 3) := by rw [hHR', hf]; exact rfl
              have HF := Lib.hid ((fun W => fall1_c (w := W) y x1))
              rw [hf] at HF
              clear hHR' hf
              go_wp2_with fail
              go_region_held3 (fun w' => w'.cell? ⟨w.heap.size, 0, none⟩ = some (fnV 75) ∧ w'.cell? ⟨wr.heap.size, 1, none⟩ = some (.int .i64 x1) ∧ w'.cell? ⟨(ad.add (j * 2)).block, (ad.add (j * 2)).off + 1, none⟩ = some (.int .i64 y)) (first | exact ⟨hf0, hk1, q1⟩) (first | (go_at_call 75; refine (HF.out _).mono ?_; rintro e w1 ⟨rfl, rfl⟩))
              go_wp2
              go_ret
              exact ⟨by rw [HY.out]; rfl, hB1.drew⟩
end Ar
end Go.Proofs.Ytnghcgmkncbnnaa
end
section
namespace Go.Proofs.Ytnghcgmkncbnnaa
open Go.RowKit Go.Proofs.YtnghcgmkncbnnaaW.PrintWords Go.Proofs.YtnghcgmkncbnnaaW.PrintLast Go.Proofs.YtnghcgmkncbnnaaW.PrintMore
namespace Ar
open Wd
def curveS (l : List Stp) : Int := if curS fall l = 0 then 0 else curS rise l
def sumF (l : List Stp) : Nat → Nat → Int → Int
  | 0, _, acc => acc
  | n + 1, i, acc => sumF l n (i + 1) (wrap64 (acc + (rdS l i).f0))
def sumS (l : List Stp) : Int := if curveS l = 0 then sumF l l.length 0 0 else 0
def maxS (l : List Stp) : Int := if curS rise l = 0 then sumS l else 0
theorem CheckOffer_c {w : World} (A : Option Addr) (c : Nat) (l : List Stp) (hr : Kd.C kStp w A l.length l) (hc : l.length ≤ c) :
    Calls Try.prog 27 #[.slice A l.length c] w fun e w' => e = .returned (.int .i64 (curS rise l)) ∧ Below w.heap.size w w' := by
  have HW := Lib.hid (fun (W : World) (h : Below w.heap.size w W) => wrongR_c (w := W) A c l (Kd.C_below hr h) hc)
  generalize curS rise l = R at HW ⊢
  go_enter Try.func27, Try.ntmps27
  go_wp2_with (first | (go_at_call 46; refine rising_c.mono ?_; rintro e w1 ⟨rfl, hb1⟩) | (go_at_call 47; refine (HW.out _ hb1).mono ?_; rintro e w2 ⟨rfl, hb2⟩; have hB2 := below_step hb1 hb2))
  go_ret
  exact ⟨rfl, hB2⟩
theorem CheckBid_c {w : World} (A : Option Addr) (c : Nat) (l : List Stp) (hr : Kd.C kStp w A l.length l) (hc : l.length ≤ c) :
    Calls Try.prog 45 #[.slice A l.length c] w fun e w' => e = .returned (.int .i64 (curS fall l)) ∧ Below w.heap.size w w' := by
  have HW := Lib.hid (fun (W : World) (h : Below w.heap.size w W) => wrongF_c (w := W) A c l (Kd.C_below hr h) hc)
  generalize curS fall l = R at HW ⊢
  go_enter Try.func45, Try.ntmps45
  go_wp2_with (first | (go_at_call 61; refine falling_c.mono ?_; rintro e w1 ⟨rfl, hb1⟩) | (go_at_call 47; refine (HW.out _ hb1).mono ?_; rintro e w2 ⟨rfl, hb2⟩; have hB2 := below_step hb1 hb2))
  go_ret
  exact ⟨rfl, hB2⟩
theorem curve_c {w : World} (A : Option Addr) (c : Nat) (l : List Stp) (hr : Kd.C kStp w A l.length l) (hc : l.length ≤ c) :
    Calls Try.prog 63 #[.slice A l.length c] w fun e w' => e = .returned (.int .i64 (curveS l)) ∧ Below w.heap.size w w' := by
  have HB := Lib.hid (fun (W : World) (h : Below w.heap.size w W) => CheckBid_c (w := W) A c l (Kd.C_below hr h) hc)
  have HO := Lib.hid (fun (W : World) (h : Below w.heap.size w W) => CheckOffer_c (w := W) A c l (Kd.C_below hr h) hc)
  unfold curveS
  generalize curS rise l = R at HO ⊢
  generalize curS fall l = F at HB ⊢
  by_cases h : F = 0
  · subst h
    rw [if_pos rfl]
    go_enter Try.func63, Try.ntmps63
    go_wp2_with (first | (go_at_call 45; refine (HB.out _ (Below.refl _ _)).mono ?_; rintro e w1 ⟨rfl, hb1⟩))
    go_ret
    exact ⟨rfl, hb1⟩
  · rw [if_neg h]
    have hb : (F == 0) = false := beq_eq_false_iff_ne.2 h
    clear h
    go_enter Try.func63, Try.ntmps63
    go_wp2_with (first | (go_at_call 45; refine (HB.out _ (Below.refl _ _)).mono ?_; rintro e w1 ⟨rfl, hb1⟩) | (go_at_call 27; refine (HO.out _ hb1).mono ?_; rintro e w2 ⟨rfl, hb2⟩; have hB2 := below_step hb1 hb2))
    go_ret
    exact ⟨rfl, hB2⟩
set_option maxRecDepth 100000 in
set_option maxHeartbeats 8000000 in
theorem Sum_c {w : World} (A : Option Addr) (c : Nat) (l : List Stp) (hr : Kd.C kStp w A l.length l) (hc : l.length ≤ c) (hlen : l.length < 1073741824) :
    Calls Try.prog 48 #[.slice A l.length c] w fun e w' => e = .returned (.int .i64 (sumS l)) ∧ Below w.heap.size w w' := by
  have hS := Try.underlying40
  have HC := Lib.hid (curve_c (w := w) A c l hr hc)
  obtain ⟨R, hP⟩ : ∃ R, R = sumS l := ⟨_, rfl⟩
  rw [← hP]
  unfold sumS at hP
  generalize curveS l = F at HC hP
  by_cases h : F = 0
  · subst h
    rw [if_pos rfl] at hP
    have HX := Lib.hid hP
    clear hP
    go_enter Try.func48, Try.ntmps48
    go_wp2_with (first | (go_at_call 63; refine HC.out.mono ?_; rintro e w1 ⟨rfl, hb1⟩))
    go_loopg [3, 11] l.length (fun k v3 v W => ∃ (i : Nat) (acc : Int), v = .int .i64 i ∧ v3 = .int .i64 acc ∧ i + k = l.length ∧ Hid (R = sumF l k i acc) ∧ Below w.heap.size w W)
    case atStart => exact ⟨0, 0, rfl, rfl, by omega, HX.out, hb1⟩
    case round =>
      obtain ⟨i, acc, rfl, rfl, hi, HR, hB⟩ := hrel
      cases gk with
      | zero =>
        obtain rfl : i = l.length := by omega
        have hlb : decide ((l.length : Int) < (l.length : Int)) = false := decide_eq_false (by omega)
        go_wp2
        go_ret
        exact ⟨by rw [HR.out]; rfl, hB⟩
      | succ n =>
        have hlt : i < l.length := by omega
        have hlb : decide ((i : Int) < (l.length : Int)) = true := decide_eq_true (by omega)
        have hrW : Kd.C kStp wr A l.length l := Kd.C_below hr hB
        obtain ⟨ad, rfl, g0, g1⟩ := E.at_T40 hrW i (by omega) (by omega)
        obtain ⟨⟨x0, x1⟩, hx⟩ : ∃ x, rdS l i = x := ⟨_, rfl⟩
        rw [show E.rd_T40 l ((i : Nat) : Int) = ⟨x0, x1⟩ from hx] at g0 g1
        dsimp only at g0 g1
        rw [Int.toNat_natCast] at g0 g1
        have HY : Hid (R = sumF l n (i + 1) (wrap64 (acc + x0))) := by have h := HR.out; unfold sumF at h; rw [hx] at h; exact h
        clear hx HR HX
        have kx := blk_new wr (.cells #[.int .i64 x0, .int .i64 x1] 40)
        have hB1 := below_alloc hB (.cells #[.int .i64 x0, .int .i64 x1] 40)
        have hw3 : wrap64 ((i : Int) + 1) = ((i + 1 : Nat) : Int) := w64succ i (by omega)
        have hk0 := blk_cell kx 0; have hk1 := blk_cell kx 1; have hkf0 := blk_frozen kx 0; have hkf1 := blk_frozen kx 1
        go_wp2
        go_roundg n
        case measure => omega
        case rel => exact ⟨i + 1, _, by first | exact congrArg (Value.int .i64) hw3 | exact congrArg (Value.int .i64) (Int.natCast_succ i).symm, rfl, by omega, HY.out, hB1⟩
  · rw [if_neg h] at hP
    have hb : (F != 0) = true := bne_iff_ne.2 h
    subst hP
    clear h
    go_enter Try.func48, Try.ntmps48
    go_wp2_with (first | (go_at_call 63; refine HC.out.mono ?_; rintro e w1 ⟨rfl, hb1⟩))
    go_ret
    exact ⟨rfl, hb1⟩
def inR (n a b : Int) : Bool := decide (a ≤ n) && decide (n ≤ b)
theorem within_c {w : World} (n a b : Int) : Calls Try.prog 26 #[.int .i64 n, .int .i64 a, .int .i64 b] w fun e w' => e = .returned (.bool (inR n a b)) ∧ w' = w := by
  unfold inR
  by_cases h : a ≤ n
  · have h1 : decide (a ≤ n) = true := decide_eq_true h
    clear h
    go_enter Try.func26, Try.ntmps26
    go_wp2
    go_ret
    exact ⟨by rw [h1, Bool.true_and]; rfl, rfl⟩
  · have h1 : decide (a ≤ n) = false := decide_eq_false h
    clear h
    go_enter Try.func26, Try.ntmps26
    go_wp2
    go_ret
    exact ⟨by rw [h1, Bool.false_and]; rfl, rfl⟩
theorem within64_c {w : World} (n a b : Int) : Calls Try.prog 28 #[.int .i64 n, .int .i64 a, .int .i64 b] w fun e w' => e = .returned (.bool (inR n a b)) ∧ w' = w := by
  unfold inR
  by_cases h : a ≤ n
  · have h1 : decide (a ≤ n) = true := decide_eq_true h
    clear h
    go_enter Try.func28, Try.ntmps28
    go_wp2
    go_ret
    exact ⟨by rw [h1, Bool.true_and]; rfl, rfl⟩
  · have h1 : decide (a ≤ n) = false := decide_eq_false h
    clear h
    go_enter Try.func28, Try.ntmps28
    go_wp2
    go_ret
    exact ⟨by rw [h1, Bool.false_and]; rfl, rfl⟩
structure Un where mk ::
  bus : Int
  min : Int
  steps : List Stp
  up : Int
  down : Int
  start : Int
  idle : Int
  spin : Int
  on : Int
abbrev unC (u : Un) (v : Value) : Array Value := #[.int .i64 u.bus, .int .i64 u.min, v, .int .i64 u.up, .int .i64 u.down, .int .i64 u.start, .int .i64 u.idle, .int .i64 u.spin, .int .i64 u.on]
set_option maxRecDepth 100000 in
set_option maxHeartbeats 8000000 in
theorem Max_c {w : World} (u : Un) (A : Option Addr) (c : Nat) (hr : Kd.C kStp w A u.steps.length u.steps) (hc : u.steps.length ≤ c) (hlen : u.steps.length < 1073741824) :
    Calls Try.prog 29 #[.agg (unC u (.slice A u.steps.length c))] w fun e w' => e = .returned (.int .i64 (maxS u.steps)) ∧ Below w.heap.size w w' := by
  have hU := Try.underlying30
  obtain ⟨bus, mi, l, up, dn, st, idl, sp, on⟩ := u
  dsimp only [unC] at hr hc hlen ⊢
  have hb0 := below_alloc (Below.refl _ w) (.cells #[.int .i64 bus, .int .i64 mi, .slice A l.length c, .int .i64 up, .int .i64 dn, .int .i64 st, .int .i64 idl, .int .i64 sp, .int .i64 on] 30)
  have k0 := blk_new w (.cells #[.int .i64 bus, .int .i64 mi, .slice A l.length c, .int .i64 up, .int .i64 dn, .int .i64 st, .int .i64 idl, .int .i64 sp, .int .i64 on] 30)
  have HO := Lib.hid (fun (W : World) (h : Below w.heap.size w W) => CheckOffer_c (w := W) A c l (Kd.C_below hr h) hc)
  have HS := Lib.hid (fun (W : World) (h : Below w.heap.size w W) => Sum_c (w := W) A c l (Kd.C_below hr h) hc hlen)
  unfold maxS
  generalize curS rise l = F at HO ⊢
  generalize sumS l = R at HS ⊢
  have hk0 := blk_cell k0 0; have hk1 := blk_cell k0 1; have hk2 := blk_cell k0 2; have hk3 := blk_cell k0 3; have hk4 := blk_cell k0 4; have hk5 := blk_cell k0 5; have hk6 := blk_cell k0 6; have hk7 := blk_cell k0 7; have hk8 := blk_cell k0 8; have hkf0 := blk_frozen k0 0; have hkf1 := blk_frozen k0 1; have hkf2 := blk_frozen k0 2; have hkf3 := blk_frozen k0 3; have hkf4 := blk_frozen k0 4; have hkf5 := blk_frozen k0 5; have hkf6 := blk_frozen k0 6; have hkf7 := blk_frozen k0 7; have hkf8 := blk_frozen k0 8
  by_cases h : F = 0
  · subst h
    rw [if_pos rfl]
    go_enter Try.func29, Try.ntmps29
    go_wp2_with (first | (go_at_call 27; refine (HO.out _ hb0).mono ?_; rintro e w1 ⟨rfl, hb1⟩; have hB1 := below_step hb0 hb1; have k1 := blk_below k0 hb1; have hj0 := blk_cell k1 0; have hj1 := blk_cell k1 1; have hj2 := blk_cell k1 2; have hj3 := blk_cell k1 3; have hj4 := blk_cell k1 4; have hj5 := blk_cell k1 5; have hj6 := blk_cell k1 6; have hj7 := blk_cell k1 7; have hj8 := blk_cell k1 8; have hjf0 := blk_frozen k1 0; have hjf1 := blk_frozen k1 1; have hjf2 := blk_frozen k1 2; have hjf3 := blk_frozen k1 3; have hjf4 := blk_frozen k1 4; have hjf5 := blk_frozen k1 5; have hjf6 := blk_frozen k1 6; have hjf7 := blk_frozen k1 7; have hjf8 := blk_frozen k1 8) | (go_at_call 48; refine (HS.out _ hB1).mono ?_; rintro e w2 ⟨rfl, hb2⟩; have hB2 := below_step hB1 hb2))
    go_ret
    exact ⟨rfl, hB2⟩
  · rw [if_neg h]
    have hb : (F != 0) = true := bne_iff_ne.2 h
    clear h
    go_enter Try.func29, Try.ntmps29
    go_wp2_with (first | (go_at_call 27; refine (HO.out _ hb0).mono ?_; rintro e w1 ⟨rfl, hb1⟩; have hB1 := below_step hb0 hb1; have k1 := blk_below k0 hb1))
    go_ret
    exact ⟨rfl, hB1⟩
end Ar
end Go.Proofs.Ytnghcgmkncbnnaa
end
section
namespace Go.Proofs.Ytnghcgmkncbnnaa
open Go.RowKit Go.Proofs.YtnghcgmkncbnnaaW.PrintWords Go.Proofs.YtnghcgmkncbnnaaW.PrintLast Go.Proofs.YtnghcgmkncbnnaaW.PrintMore
namespace Ar
open Wd
theorem wp_region_cls {P : Program} {id : Nat} {Q : Exit → Act → World → Prop} {a : Act} {w : World} {l : List Oper} {X : Type} (f : X → World) (hm : P.follows .mixedOrders = true) (hB : Region.lexB .any l.toArray = true) (hC : ∃ x, w.drew = f x)
    (h : wpQuiet P l.toArray (fun w' => ∃ x : X, w' = f x) (fun a' => ∀ w', (∃ x : X, w' = f x) → Q .normal a' w') l a) : (Code.region id l.toArray true).wp P Q a w :=
  wp_region_quiet (C := fun w' => ∃ x : X, w' = f x) hm hB hC (by simpa using h)
theorem cls_of (S : World → Prop) : ∃ (X : Type) (f : X → World), (∀ x, S (f x)) ∧ (∀ W, S W → ∃ x, W = f x) := ⟨{W : World // S W}, Subtype.val, fun x => x.2, fun W h => ⟨⟨W, h⟩, rfl⟩⟩
def checkU (u : Un) : Int :=
  if inR u.bus 0 5 = false then 1 else if curS rise u.steps ≠ 0 then curS rise u.steps else
    if ((inR u.min 0 (maxS u.steps) && inR u.spin 0 1000000) && (inR u.up 1 6 && inR u.down 1 6 && inR u.on (-6) 6 && u.on != 0) && (inR u.start 0 1000000000 && inR u.idle 0 1000000000)) = true then 0 else 1
set_option maxRecDepth 100000 in
set_option maxHeartbeats 8000000 in
theorem Check_c {w : World} (u : Un) (A : Option Addr) (c : Nat) (hr : Kd.C kStp w A u.steps.length u.steps) (hc : u.steps.length ≤ c) (hlen : u.steps.length < 1073741824) :
    Calls Try.prog 16 #[.agg (unC u (.slice A u.steps.length c)), .int .i64 6] w fun e w' => e = .returned (.int .i64 (checkU u)) ∧ Below w.heap.size w w' := by
  have hU := Try.underlying30
  obtain ⟨R, hP⟩ : ∃ R, R = checkU u := ⟨_, rfl⟩
  rw [← hP]
  unfold checkU at hP
  have HM := Lib.hid (fun (W : World) (h : Below w.heap.size w W) => Max_c (w := W) u A c (Kd.C_below hr h) hc hlen)
  obtain ⟨bus, mi, l, up, dn, st, idl, sp, on⟩ := u
  dsimp only [unC] at hr hc hlen hP HM ⊢
  have hb0 := below_alloc (Below.refl _ w) (.cells #[.int .i64 bus, .int .i64 mi, .slice A l.length c, .int .i64 up, .int .i64 dn, .int .i64 st, .int .i64 idl, .int .i64 sp, .int .i64 on] 30)
  have k0 := blk_new w (.cells #[.int .i64 bus, .int .i64 mi, .slice A l.length c, .int .i64 up, .int .i64 dn, .int .i64 st, .int .i64 idl, .int .i64 sp, .int .i64 on] 30)
  have HO := Lib.hid (fun (W : World) (h : Below w.heap.size w W) => CheckOffer_c (w := W) A c l (Kd.C_below hr h) hc)
  generalize curS rise l = F at HO hP
  generalize maxS l = M at HM hP
  have HW := Lib.hid (fun (W : World) n a b => within_c (w := W) n a b)
  have HV := Lib.hid (fun (W : World) n a b => within64_c (w := W) n a b)
  have hk0 := blk_cell k0 0; have hk1 := blk_cell k0 1; have hk2 := blk_cell k0 2; have hk3 := blk_cell k0 3; have hk4 := blk_cell k0 4; have hk5 := blk_cell k0 5; have hk6 := blk_cell k0 6; have hk7 := blk_cell k0 7; have hk8 := blk_cell k0 8; have hkf0 := blk_frozen k0 0; have hkf1 := blk_frozen k0 1; have hkf2 := blk_frozen k0 2; have hkf3 := blk_frozen k0 3; have hkf4 := blk_frozen k0 4; have hkf5 := blk_frozen k0 5; have hkf6 := blk_frozen k0 6; have hkf7 := blk_frozen k0 7; have hkf8 := blk_frozen k0 8
  cases p0 : inR bus 0 5 with
  | false =>
    have HX : Hid (R = 1) := by rw [hP, if_pos p0]; exact rfl
    have HW0 := Lib.hid (fun W => HW.out W bus 0 5)
    rw [p0] at HW0
    clear hP p0
    go_enter Try.func16, Try.ntmps16
    go_wp2_with (first | (go_at_call 26; refine (HW0.out _).mono ?_; rintro e w1 ⟨rfl, rfl⟩))
    go_ret
    exact ⟨by rw [HX.out]; rfl, hb0⟩
  | true =>
    have HW0 := Lib.hid (fun W => HW.out W bus 0 5)
    rw [p0] at HW0
    rw [if_neg (by rw [p0]; decide)] at hP
    clear p0
    by_cases h : F = 0
    · subst h
      rw [if_neg (by simp)] at hP
      cases p1 : inR mi 0 M with
      | false =>
        have HX : Hid (R = 1) := by rw [hP, p1]; exact rfl
        have HV1 := Lib.hid (fun W => HV.out W mi 0 M)
        rw [p1] at HV1
        clear hP p1
        go_enter Try.func16, Try.ntmps16
        go_wp2_with (first | (go_at_call 26; refine (HW0.out _).mono ?_; rintro e w1 ⟨rfl, rfl⟩) | (go_at_call 27; refine (HO.out _ hb0).mono ?_; rintro e w1 ⟨rfl, hb1⟩; have hB1 := below_step hb0 hb1; have i1 := blk_below k0 hb1))
        obtain ⟨X, f, hf, hg⟩ := cls_of (fun W : World => Below w.heap.size w W ∧ W.heap[w.heap.size]? = some (.cells #[.int .i64 bus, .int .i64 mi, .slice A l.length c, .int .i64 up, .int .i64 dn, .int .i64 st, .int .i64 idl, .int .i64 sp, .int .i64 on] 30 (0, 0)))
        have HF := Lib.hid hf
        have HM' : Hid (∀ x : X, Calls Try.prog 29 #[.agg #[.int .i64 bus, .int .i64 mi, .slice A l.length c, .int .i64 up, .int .i64 dn, .int .i64 st, .int .i64 idl, .int .i64 sp, .int .i64 on]] (f x) fun e w' => e = .returned (.int .i64 M) ∧ ∃ y : X, w' = f y) := fun x => (HM.out (f x) (hf x).1).mono fun e w' ⟨he, hb⟩ => ⟨he, hg _ ⟨below_step (hf x).1 hb, blk_below (hf x).2 hb⟩⟩
        have HV' : Hid (∀ x : X, Calls Try.prog 28 #[.int .i64 mi, .int .i64 0, .int .i64 M] (f x) fun e w' => e = .returned (.bool false) ∧ ∃ y : X, w' = f y) := fun x => (HV1.out (f x)).mono fun e w' ⟨he, h⟩ => ⟨he, x, h⟩
        have HG := Lib.hid (hg w1.drew ⟨below_drew hB1, i1⟩)
        have hne : Nonempty X := HG.out.elim (fun x _ => ⟨x⟩)
        have u0 : ∀ x : X, (f x).cell? ⟨w.heap.size, 0, none⟩ = some (.int .i64 bus) := fun x => blk_cell (hf x).2 0
        have u1 : ∀ x : X, (f x).cell? ⟨w.heap.size, 1, none⟩ = some (.int .i64 mi) := fun x => blk_cell (hf x).2 1
        have u2 : ∀ x : X, (f x).cell? ⟨w.heap.size, 2, none⟩ = some (.slice A l.length c) := fun x => blk_cell (hf x).2 2
        have u3 : ∀ x : X, (f x).cell? ⟨w.heap.size, 3, none⟩ = some (.int .i64 up) := fun x => blk_cell (hf x).2 3
        have u4 : ∀ x : X, (f x).cell? ⟨w.heap.size, 4, none⟩ = some (.int .i64 dn) := fun x => blk_cell (hf x).2 4
        have u5 : ∀ x : X, (f x).cell? ⟨w.heap.size, 5, none⟩ = some (.int .i64 st) := fun x => blk_cell (hf x).2 5
        have u6 : ∀ x : X, (f x).cell? ⟨w.heap.size, 6, none⟩ = some (.int .i64 idl) := fun x => blk_cell (hf x).2 6
        have u7 : ∀ x : X, (f x).cell? ⟨w.heap.size, 7, none⟩ = some (.int .i64 sp) := fun x => blk_cell (hf x).2 7
        have u8 : ∀ x : X, (f x).cell? ⟨w.heap.size, 8, none⟩ = some (.int .i64 on) := fun x => blk_cell (hf x).2 8
        clear hf hg
        refine wp_region_cls f (by kernel_rfl) (by kernel_rfl) HG.out ?_
        repeat (go_big_quiet_step (first | exact HM'.out _ | exact HV'.out _))
        refine wpQuiet_nil ?_
        rintro w2 ⟨x, rfl⟩
        have hB2 := (HF.out x).1
        have i2 := (HF.out x).2
        have hj0 := blk_cell i2 0; have hj1 := blk_cell i2 1; have hj2 := blk_cell i2 2; have hj3 := blk_cell i2 3; have hj4 := blk_cell i2 4; have hj5 := blk_cell i2 5; have hj6 := blk_cell i2 6; have hj7 := blk_cell i2 7; have hj8 := blk_cell i2 8; have hjf0 := blk_frozen i2 0; have hjf1 := blk_frozen i2 1; have hjf2 := blk_frozen i2 2; have hjf3 := blk_frozen i2 3; have hjf4 := blk_frozen i2 4; have hjf5 := blk_frozen i2 5; have hjf6 := blk_frozen i2 6; have hjf7 := blk_frozen i2 7; have hjf8 := blk_frozen i2 8
        go_wp2_with (first | (go_at_call 26; refine (HW.out _ _ _ _).mono ?_; rintro e w4 ⟨rfl, rfl⟩) | (go_at_call 28; refine (HV.out _ _ _ _).mono ?_; rintro e w4 ⟨rfl, rfl⟩))
        all_goals go_ret
        all_goals refine ⟨?_, hB2⟩
        all_goals rw [HX.out]
        all_goals simp_all
      | true =>
        rw [p1, Bool.true_and] at hP
        have HX := Lib.hid hP
        have HV1 := Lib.hid (fun W => HV.out W mi 0 M)
        rw [p1] at HV1
        clear hP p1
        go_enter Try.func16, Try.ntmps16
        go_wp2_with (first | (go_at_call 26; refine (HW0.out _).mono ?_; rintro e w1 ⟨rfl, rfl⟩) | (go_at_call 27; refine (HO.out _ hb0).mono ?_; rintro e w1 ⟨rfl, hb1⟩; have hB1 := below_step hb0 hb1; have i1 := blk_below k0 hb1))
        go_region_held3 (fun w' => w'.cell? ⟨w.heap.size, 0, none⟩ = some (.int .i64 bus) ∧ w'.cell? ⟨w.heap.size, 1, none⟩ = some (.int .i64 mi) ∧ w'.cell? ⟨w.heap.size, 2, none⟩ = some (.slice A l.length c) ∧ w'.cell? ⟨w.heap.size, 3, none⟩ = some (.int .i64 up) ∧ w'.cell? ⟨w.heap.size, 4, none⟩ = some (.int .i64 dn) ∧ w'.cell? ⟨w.heap.size, 5, none⟩ = some (.int .i64 st) ∧ w'.cell? ⟨w.heap.size, 6, none⟩ = some (.int .i64 idl) ∧ w'.cell? ⟨w.heap.size, 7, none⟩ = some (.int .i64 sp) ∧ w'.cell? ⟨w.heap.size, 8, none⟩ = some (.int .i64 on)) (first | exact ⟨blk_cell i1 0, blk_cell i1 1, blk_cell i1 2, blk_cell i1 3, blk_cell i1 4, blk_cell i1 5, blk_cell i1 6, blk_cell i1 7, blk_cell i1 8⟩ | exact ⟨blk_cell i2 0, blk_cell i2 1, blk_cell i2 2, blk_cell i2 3, blk_cell i2 4, blk_cell i2 5, blk_cell i2 6, blk_cell i2 7, blk_cell i2 8⟩) (first | (go_at_call 29; refine (HM.out _ hB1.drew).mono ?_; rintro e w2 ⟨rfl, hb2⟩; have i2 := blk_below (blk_drew i1) hb2; have hB2 := below_step hB1.drew hb2) | (go_at_call_of 28 (Value.int .i64 sp); refine (HV.out _ sp 0 1000000).mono ?_; rintro e w3 ⟨rfl, rfl⟩) | (go_at_call_of 28 (Value.int .i64 mi); refine (HV1.out _).mono ?_; rintro e w3 ⟨rfl, rfl⟩))
        have hj0 := blk_cell i2 0; have hj1 := blk_cell i2 1; have hj2 := blk_cell i2 2; have hj3 := blk_cell i2 3; have hj4 := blk_cell i2 4; have hj5 := blk_cell i2 5; have hj6 := blk_cell i2 6; have hj7 := blk_cell i2 7; have hj8 := blk_cell i2 8; have hjf0 := blk_frozen i2 0; have hjf1 := blk_frozen i2 1; have hjf2 := blk_frozen i2 2; have hjf3 := blk_frozen i2 3; have hjf4 := blk_frozen i2 4; have hjf5 := blk_frozen i2 5; have hjf6 := blk_frozen i2 6; have hjf7 := blk_frozen i2 7; have hjf8 := blk_frozen i2 8
        go_wp2_with (first | (go_at_call 26; refine (HW.out _ _ _ _).mono ?_; rintro e w4 ⟨rfl, rfl⟩) | (go_at_call 28; refine (HV.out _ _ _ _).mono ?_; rintro e w4 ⟨rfl, rfl⟩))
        all_goals go_ret
        all_goals refine ⟨?_, hB2⟩
        all_goals rw [HX.out]
        all_goals simp_all
    · rw [if_pos h] at hP
      have HX := Lib.hid hP
      have hb : (F != 0) = true := bne_iff_ne.2 h
      clear hP h
      go_enter Try.func16, Try.ntmps16
      go_wp2_with (first | (go_at_call 26; refine (HW0.out _).mono ?_; rintro e w1 ⟨rfl, rfl⟩) | (go_at_call 27; refine (HO.out _ hb0).mono ?_; rintro e w1 ⟨rfl, hb1⟩; have hB1 := below_step hb0 hb1))
      go_ret
      exact ⟨by rw [HX.out]; rfl, hB1⟩
end Ar
end Go.Proofs.Ytnghcgmkncbnnaa
end
section
namespace Go.Proofs.Ytnghcgmkncbnnaa
open Go.RowKit Go.Proofs.YtnghcgmkncbnnaaW.PrintWords Go.Proofs.YtnghcgmkncbnnaaW.PrintLast Go.Proofs.YtnghcgmkncbnnaaW.PrintMore
namespace Ar
open Wd
def checkB (bus : Int) (l : List Stp) : Int := if bus < 0 ∨ 6 ≤ bus then 1 else curS fall l
abbrev biC (bus : Int) (v : Value) : Array Value := #[.int .i64 bus, v]
set_option maxRecDepth 100000 in
set_option maxHeartbeats 8000000 in
theorem wrong_c {w : World} (bus : Int) (l : List Stp) (A : Option Addr) (c : Nat) (hr : Kd.C kStp w A l.length l) (hc : l.length ≤ c) :
    Calls Try.prog 25 #[.agg (biC bus (.slice A l.length c))] w fun e w' => e = .returned (.int .i64 (checkB bus l)) ∧ Below w.heap.size w w' := by
  have hU := Try.underlying33
  have hb0 := below_alloc (Below.refl _ w) (.cells #[.int .i64 bus, .slice A l.length c] 33)
  have k0 := blk_new w (.cells #[.int .i64 bus, .slice A l.length c] 33)
  have HO := Lib.hid (fun (W : World) (h : Below w.heap.size w W) => CheckBid_c (w := W) A c l (Kd.C_below hr h) hc)
  unfold checkB
  generalize curS fall l = F at HO ⊢
  have hk0 := blk_cell k0 0; have hk1 := blk_cell k0 1; have hkf0 := blk_frozen k0 0; have hkf1 := blk_frozen k0 1
  by_cases h0 : bus < 0
  · have d0 : decide (bus < 0) = true := decide_eq_true h0
    rw [if_pos (.inl h0)]
    clear h0
    go_enter Try.func25, Try.ntmps25
    go_wp2
    go_ret
    exact ⟨rfl, hb0⟩
  · have d0 : decide (bus < 0) = false := decide_eq_false h0
    by_cases h6 : 6 ≤ bus
    · have d6 : decide (6 ≤ bus) = true := decide_eq_true h6
      rw [if_pos (.inr h6)]
      clear h0 h6
      go_enter Try.func25, Try.ntmps25
      go_wp2
      go_ret
      exact ⟨rfl, hb0⟩
    · have d6 : decide (6 ≤ bus) = false := decide_eq_false h6
      rw [if_neg (fun h => h.elim h0 h6)]
      clear h0 h6
      go_enter Try.func25, Try.ntmps25
      go_wp2_with (first | (go_at_call 45; refine (HO.out _ hb0).mono ?_; rintro e w1 ⟨rfl, hb1⟩; have hB1 := below_step hb0 hb1))
      go_ret
      exact ⟨rfl, hB1⟩
theorem sevF_len {s : ByteArray} : ∀ (f : Nat) (acc : List (Int × Int)) (st : Int × Int), (sevF f s acc st).1.length ≤ acc.length + f
  | 0, acc, st => by simp [sevF]
  | f + 1, acc, st => by
    unfold sevF
    split
    · refine Nat.le_trans (sevF_len f _ _) ?_
      rw [List.length_append, List.length_singleton]; omega
    · dsimp only; omega
theorem sevS_len (s : ByteArray) (st : Int × Int) : ((sevS s st).1.map mkS).length ≤ s.size + 1 := by
  rw [List.length_map]
  refine Nat.le_trans (sevF_len _ _ _) ?_
  simp
theorem left_at {s : ByteArray} {st : Int × Int} (h : st.2 = 0 → 0 ≤ st.1) : left s st ≤ s.size + 1 := by
  unfold left; split
  · rename_i h0; have := h h0; omega
  · omega
theorem numS_at {s : ByteArray} {st : Int × Int} (h : (numS s st).2.2 = 0) : 0 ≤ (numS s st).2.1 := by have := numS_ok h; omega
def bidB : ByteArray := ⟨#[98, 105, 100]⟩
def rdbid (s : ByteArray) (p : Int) : Int × List (Int × Int) × (Int × Int) :=
  match numS s (wordS s bidB (takeS s 1 (p, 0))) with
  | (a0, q1) =>
  match sevS s q1 with
  | (l, q) => (a0, l, takeS s 2 q)
def outB (bus : Int) (l : List Stp) (q : Int × Int) : (Int × List Stp) × Int × Int := if q.2 ≠ 0 then ((0, []), 0, q.2) else if checkB bus l ≠ 0 then ((0, []), 0, checkB bus l) else ((bus, l), q.1, 0)
def parseB (s : ByteArray) (p : Int) : (Int × List Stp) × Int × Int :=
  match rdbid s p with
  | (a0, l, q) => outB a0 (l.map mkS) q
theorem R_readsA {W : World} {b e n c : Nat} {ok : Nat → Prop} {A : Option Addr} {xs : List Stp} (h : Kd.R kStp e W b ok (.slice A n c) xs) : xs.length ≤ c ∧ Kd.C kStp W A xs.length xs := by
  obtain ⟨A', c', hv, hc, hC⟩ := Kd.R_reads h
  injection hv with h1 h2 h3
  subst h1; subst h3
  exact ⟨hc, hC⟩
theorem C_nil (W : World) : Kd.C kStp W none 0 [] := (R_readsA (Kd.R_nil kStp 0 W 0 (fun _ => True))).2
theorem far2bid {W : World} {g b : Nat} {t : TypeId} {cs : Array Value} (h : W.heap[g]? = some (.cells cs t (0, 0))) (hn : g ≠ b) (a0 a1 : Value) : ((W.setCell ⟨b, 0, none⟩ a0).setCell ⟨b, 1, none⟩ a1).heap[g]? = some (.cells cs t (0, 0)) := by
  have h1 := blk_far (p := ⟨b, 0, none⟩) h hn a0; have h2 := blk_far (p := ⟨b, 1, none⟩) h1 hn a1
  exact h2
theorem set2bid {W : World} {b : Nat} {t : TypeId} {c0 c1 : Value} (h : W.heap[b]? = some (.cells #[c0, c1] t (0, 0))) (a0 a1 : Value) : ((W.setCell ⟨b, 0, none⟩ a0).setCell ⟨b, 1, none⟩ a1).heap[b]? = some (.cells #[a0, a1] t (0, 0)) := by
  have h1 : (W.setCell ⟨b, 0, none⟩ a0).heap[b]? = some (.cells #[a0, c1] t (0, 0)) := blk_set h 0 a0; have h2 : ((W.setCell ⟨b, 0, none⟩ a0).setCell ⟨b, 1, none⟩ a1).heap[b]? = some (.cells #[a0, a1] t (0, 0)) := blk_set h1 1 a1
  exact h2
theorem bel2bid {w W : World} {b : Nat} (h : Below w.heap.size w W) (hb : w.heap.size ≤ b) (a0 a1 : Value) : Below w.heap.size w ((W.setCell ⟨b, 0, none⟩ a0).setCell ⟨b, 1, none⟩ a1) := by
  have h1 := h.setCell (p := ⟨b, 0, none⟩) hb a0; have h2 := h1.setCell (p := ⟨b, 1, none⟩) hb a1
  exact h2
theorem row2bid {W : World} {b e base : Nat} {ok : Nat → Prop} {v : Value} {xs : List Stp} (h : Kd.R kStp e W base ok v xs) (hb : ∀ k, ok k → k ≠ b) (a0 a1 : Value) : Kd.R kStp e ((W.setCell ⟨b, 0, none⟩ a0).setCell ⟨b, 1, none⟩ a1) base ok v xs := by
  have h1 := Kd.R_far (p := ⟨b, 0, none⟩) h hb a0; have h2 := Kd.R_far (p := ⟨b, 1, none⟩) h1 hb a1
  exact h2
set_option maxRecDepth 100000 in
set_option maxHeartbeats 16000000 in
theorem ParseBid_c {G : Int → Prop} {s : ByteArray} (hs : s.size < 1048576) (hG : Good s G) {w : World} (p : Int) (hp : G p) :
    Calls Try.prog 18 #[.string s, .int .i64 p] w fun e w' => ∃ (A : Option Addr) (c : Nat), (parseB s p).1.2.length ≤ c ∧ e = .returned (.tuple #[.agg (biC (parseB s p).1.1 (.slice A (parseB s p).1.2.length c)), .int .i64 (parseB s p).2.1, .int .i64 (parseB s p).2.2]) ∧ Kd.C kStp w' A (parseB s p).1.2.length (parseB s p).1.2 ∧ Below w.heap.size w w' := by
  have hT := Try.underlying33
  have hR := Try.underlying67
  have hgb : (w.heap.size + 1) ≠ w.heap.size := by omega
  have hbg : w.heap.size ≠ (w.heap.size + 1) := by omega
  have b0 := below_alloc (below_alloc (Below.refl _ w) (.cells #[.int .i64 0, .slice none 0 0] 33)) (rdObj s p 0)
  have k0 := blk_alloc (blk_new w (.cells #[.int .i64 0, .slice none 0 0] 33)) (rdObj s p 0)
  have r0' := blk_new (w.alloc (.cells #[.int .i64 0, .slice none 0 0] 33)) (rdObj s p 0)
  rw [World.size_alloc] at r0'
  have r0 : Rd G s (w.heap.size + 1) ((w.alloc (.cells #[.int .i64 0, .slice none 0 0] 33)).alloc (rdObj s p 0)) (p, 0) := ⟨r0', fun _ => hp⟩
  clear r0'
  obtain ⟨X, NX, ER, hP⟩ : ∃ X NX ER, (X, NX, ER) = parseB s p := ⟨_, _, _, rfl⟩
  rw [← hP]
  unfold parseB rdbid at hP
  have HB := Lib.hid (fun (W : World) => begin_s hs hG (g := (w.heap.size + 1)) W (p, 0) bidB)
  obtain ⟨q0, h0⟩ : ∃ q, wordS s bidB (takeS s 1 (p, 0)) = q := ⟨_, rfl⟩
  rw [h0] at HB hP
  clear h0
  have Ha0 := Lib.hid (fun (W : World) => int_s hs hG (g := (w.heap.size + 1)) W q0)
  have hat := @numS_at s q0
  obtain ⟨a0, q1, h1⟩ : ∃ x q, numS s q0 = (x, q) := ⟨_, _, rfl⟩
  rw [h1] at Ha0 hP hat
  clear h1
  dsimp only at Ha0 hP hat
  have HV := Lib.hid (fun (W : World) (h : Rd G s (w.heap.size + 1) W q1) => several_s hs hG (g := (w.heap.size + 1)) W q1 h (left_at hat))
  have hlen := sevS_len s q1
  obtain ⟨l', qv, hv⟩ : ∃ x q, sevS s q1 = (x, q) := ⟨_, _, rfl⟩
  rw [hv] at HV hP hlen
  clear hv hat
  dsimp only at HV hP hlen
  obtain ⟨l, hl⟩ : ∃ l, l'.map mkS = l := ⟨_, rfl⟩
  rw [hl] at HV hP hlen
  clear hl
  have hlen : l.length < 1073741824 := by omega
  have HT := Lib.hid (fun (W : World) => take_s hs hG (g := (w.heap.size + 1)) W qv 2)
  obtain ⟨⟨P1, E1⟩, ht⟩ : ∃ q, takeS s 2 qv = q := ⟨_, rfl⟩
  rw [ht] at HT hP
  clear ht
  unfold outB at hP
  dsimp only at HT hP
  have HC := Lib.hid (fun (W : World) (A : Option Addr) (c : Nat) (h : Kd.C kStp W A l.length l) (hc : l.length ≤ c) => wrong_c (w := W) a0 l A c h hc)
  generalize checkB a0 l = CK at HC hP
  have HP := Lib.hid hP
  clear hP
  go_enter Try.func18, Try.ntmps18
  go_wp2_with (first | (go_at_call 25; refine (HC.out _ A c hCA hcA).mono ?_; rintro e w5 ⟨rfl, hb5⟩; have b5 := below_step b4 hb5; have k5 := blk_below k4 hb5; have y5 := blk_below y4 hb5; have hO5 := Kd.R_below hO4 hb5; have z5_0 := blk_cell y5 0; have z5_1 := blk_cell y5 1; have z5_2 := blk_cell y5 2; have z5_f0 := blk_frozen y5 0; have z5_f1 := blk_frozen y5 1; have z5_f2 := blk_frozen y5 2; have x5_0 := blk_cell k5 0; have x5_1 := blk_cell k5 1; have x5_f0 := blk_frozen k5 0; have x5_f1 := blk_frozen k5 1) | (go_at_call 35; refine (HT.out _ (r3.far hgb _)).mono ?_; rintro e w4 ⟨rfl, r4, hb4⟩; have b4 := But.below (below_set (j := 1) (v := .slice A l.length c) b3 (Nat.le_refl _)) (Nat.le_succ _) hb4; have k4 : w4.heap[w.heap.size]? = some (.cells #[.int .i64 a0, .slice A l.length c] 33 (0, 0)) := blk_but (blk_set k3 1 (.slice A l.length c)) hb4 hbg; have hO4 := Kd.R_step (Kd.R_far hO3 (p := ⟨w.heap.size, 1, none⟩) (fun k hk => by first | omega | (dsimp only; omega) | (dsimp only at hk; omega)) (.slice A l.length c)) (fun k hk hl => hb4.block k hl (by omega)); obtain ⟨hcA, hCA⟩ := R_readsA hO4; have y4 := r4.1; have z4_0 := blk_cell y4 0; have z4_1 := blk_cell y4 1; have z4_2 := blk_cell y4 2; have z4_f0 := blk_frozen y4 0; have z4_f1 := blk_frozen y4 1; have z4_f2 := blk_frozen y4 2; have x4_0 := blk_cell k4 0; have x4_1 := blk_cell k4 1; have x4_f0 := blk_frozen k4 0; have x4_f1 := blk_frozen k4 1) | (go_at_call 33; refine (HV.out _ (r2.far hgb _)).mono ?_; rintro e w3 ⟨v, rfl, hO, r3, hb3⟩; have b3 := But.below (below_set (j := 0) (v := .int .i64 a0) b2 (Nat.le_refl _)) (Nat.le_succ _) hb3; have k3 : w3.heap[w.heap.size]? = some (.cells #[.int .i64 a0, .slice none 0 0] 33 (0, 0)) := blk_but (blk_set k2 0 (.int .i64 a0)) hb3 hbg; have hO3 := Kd.R_mono (ok' := fun k => w.heap.size + 1 < k) hO (fun k hk => Nat.lt_of_lt_of_le (blk_lt (r2.far hgb _).1) hk); obtain ⟨A, c, rfl⟩ := Kd.R_slice hO3; have x3_0 := blk_cell k3 0; have x3_1 := blk_cell k3 1; have x3_f0 := blk_frozen k3 0; have x3_f1 := blk_frozen k3 1) | (go_at_call 31; refine (Ha0.out _ r1).mono ?_; rintro e w2 ⟨rfl, r2, hb2⟩; have b2 := But.below b1 (Nat.le_succ _) hb2; have k2 : w2.heap[w.heap.size]? = some (.cells #[.int .i64 0, .slice none 0 0] 33 (0, 0)) := blk_but k1 hb2 hbg; have x2_0 := blk_cell k2 0; have x2_1 := blk_cell k2 1; have x2_f0 := blk_frozen k2 0; have x2_f1 := blk_frozen k2 1) | (go_at_call 30; refine (HB.out _ r0).mono ?_; rintro e w1 ⟨rfl, r1, hb1⟩; have b1 := But.below b0 (Nat.le_succ _) hb1; have k1 : w1.heap[w.heap.size]? = some (.cells #[.int .i64 0, .slice none 0 0] 33 (0, 0)) := blk_but k0 hb1 hbg; have x1_0 := blk_cell k1 0; have x1_1 := blk_cell k1 1; have x1_f0 := blk_frozen k1 0; have x1_f1 := blk_frozen k1 1))
  · have hE : E1 = 0 := beq_iff_eq.1 (by assumption)
    have hK : CK ≠ 0 := bne_iff_ne.1 (by assumption)
    have HX : Hid (X = (0, []) ∧ NX = 0 ∧ ER = CK) := by have hP := HP.out; rw [if_neg (by rw [hE]; simp), if_pos hK] at hP; cases hP; exact ⟨rfl, rfl, rfl⟩
    clear hE hK HP
    have y := blk_set y5 2 (.int .i64 CK)
    have k := blk_far k5 (p := ⟨(w.heap.size + 1), 2, none⟩) hbg (.int .i64 CK)
    have b := below_set (j := 2) (v := .int .i64 CK) b5 (Nat.le_succ _)
    have v_0 := blk_cell k 0; have v_1 := blk_cell k 1; have v_f0 := blk_frozen k 0; have v_f1 := blk_frozen k 1
    have s1 : (w5.setCell ⟨(w.heap.size + 1), 2, none⟩ (.int .i64 CK)).drew.cell? ⟨(w.heap.size + 1), 2, none⟩ = some (.int .i64 CK) := blk_cell y 2
    have s2 : (((w5.setCell ⟨(w.heap.size + 1), 2, none⟩ (.int .i64 CK)).setCell ⟨w.heap.size, 0, none⟩ (.int .i64 0)).setCell ⟨w.heap.size, 1, none⟩ (.slice none 0 0)).drew.cell? ⟨(w.heap.size + 1), 2, none⟩ = some (.int .i64 CK) := blk_cell (blk_drew (far2bid y hgb (.int .i64 0) (.slice none 0 0))) 2
    first | go_region_held3 (fun w' => w'.cell? ⟨(w.heap.size + 1), 2, none⟩ = some (.int .i64 CK)) (first | with_reducible exact s1 | with_reducible exact s2) (fail) | fail
    clear s1 s2
    all_goals go_wp2
    all_goals refine bodyPost_ret (results_list (rs := [.cell 4 33, .tmp 5, .tmp 6]) rfl (by simp) (.cell w.heap.size 33 #[.int .i64 0, .slice none 0 0] (0, 0) _ rfl (blk_drew (set2bid k (.int .i64 0) (.slice none 0 0))) Try.underlying33 rfl (by kernel_rfl) (.tmp (.tmp .nil)))) rfl ?_
    all_goals obtain ⟨rfl, rfl, rfl⟩ := HX.out
    all_goals exact ⟨none, 0, Nat.le_refl _, rfl, C_nil _, below_drew (bel2bid b (Nat.le_refl _) (.int .i64 0) (.slice none 0 0))⟩
  · have hE : E1 = 0 := beq_iff_eq.1 (by assumption)
    have hK : CK = 0 := bne_eq_false_iff_eq.1 (by assumption)
    have HX : Hid (X = (a0, l) ∧ NX = P1 ∧ ER = 0) := by have hP := HP.out; rw [if_neg (by rw [hE]; simp), if_neg (by rw [hK]; simp)] at hP; cases hP; exact ⟨rfl, rfl, rfl⟩
    clear hE hK HP
    have y := blk_set y5 2 (.int .i64 CK)
    have k := blk_far k5 (p := ⟨(w.heap.size + 1), 2, none⟩) hbg (.int .i64 CK)
    have hO' := (Kd.R_far (p := ⟨(w.heap.size + 1), 2, none⟩) hO5 (fun k hk => by first | omega | (dsimp only; omega) | (dsimp only at hk; omega)) (.int .i64 CK))
    have b := below_set (j := 2) (v := .int .i64 CK) b5 (Nat.le_succ _)
    have v_0 := blk_cell k 0; have v_1 := blk_cell k 1; have v_f0 := blk_frozen k 0; have v_f1 := blk_frozen k 1
    have s1 : (w5.setCell ⟨(w.heap.size + 1), 2, none⟩ (.int .i64 CK)).drew.cell? ⟨(w.heap.size + 1), 1, none⟩ = some (.int .i64 P1) ∧ (w5.setCell ⟨(w.heap.size + 1), 2, none⟩ (.int .i64 CK)).drew.cell? ⟨w.heap.size, 0, none⟩ = some (.int .i64 a0) ∧ (w5.setCell ⟨(w.heap.size + 1), 2, none⟩ (.int .i64 CK)).drew.cell? ⟨w.heap.size, 1, none⟩ = some (.slice A l.length c) := ⟨blk_cell y 1, blk_cell k 0, blk_cell k 1⟩
    have s2 : (((w5.setCell ⟨(w.heap.size + 1), 2, none⟩ (.int .i64 CK)).setCell ⟨w.heap.size, 0, none⟩ (.int .i64 a0)).setCell ⟨w.heap.size, 1, none⟩ (.slice A l.length c)).drew.cell? ⟨(w.heap.size + 1), 1, none⟩ = some (.int .i64 P1) ∧ (((w5.setCell ⟨(w.heap.size + 1), 2, none⟩ (.int .i64 CK)).setCell ⟨w.heap.size, 0, none⟩ (.int .i64 a0)).setCell ⟨w.heap.size, 1, none⟩ (.slice A l.length c)).drew.cell? ⟨w.heap.size, 0, none⟩ = some (.int .i64 a0) ∧ (((w5.setCell ⟨(w.heap.size + 1), 2, none⟩ (.int .i64 CK)).setCell ⟨w.heap.size, 0, none⟩ (.int .i64 a0)).setCell ⟨w.heap.size, 1, none⟩ (.slice A l.length c)).drew.cell? ⟨w.heap.size, 1, none⟩ = some (.slice A l.length c) := ⟨blk_cell (blk_drew (far2bid y hgb (.int .i64 a0) (.slice A l.length c))) 1, blk_cell (blk_drew (set2bid k (.int .i64 a0) (.slice A l.length c))) 0, blk_cell (blk_drew (set2bid k (.int .i64 a0) (.slice A l.length c))) 1⟩
    first | go_region_held3 (fun w' => w'.cell? ⟨(w.heap.size + 1), 1, none⟩ = some (.int .i64 P1) ∧ w'.cell? ⟨w.heap.size, 0, none⟩ = some (.int .i64 a0) ∧ w'.cell? ⟨w.heap.size, 1, none⟩ = some (.slice A l.length c)) (first | with_reducible exact s1 | with_reducible exact s2) (fail) | fail
    clear s1 s2
    all_goals go_wp2
    all_goals refine bodyPost_ret (results_list (rs := [.cell 4 33, .tmp 5, .tmp 6]) rfl (by simp) (.cell w.heap.size 33 #[.int .i64 a0, .slice A l.length c] (0, 0) _ rfl (blk_drew (set2bid k (.int .i64 a0) (.slice A l.length c))) Try.underlying33 rfl (by kernel_rfl) (.tmp (.tmp .nil)))) rfl ?_
    all_goals obtain ⟨rfl, rfl, rfl⟩ := HX.out
    all_goals exact ⟨A, c, hcA, rfl, (R_readsA (Kd.R_drew (row2bid hO' (fun k hk => by omega) (.int .i64 a0) (.slice A l.length c)))).2, below_drew (bel2bid b (Nat.le_refl _) (.int .i64 a0) (.slice A l.length c))⟩
  · have hE : E1 ≠ 0 := bne_iff_ne.1 (by assumption)
    have HX : Hid (X = (0, []) ∧ NX = 0 ∧ ER = E1) := by have hP := HP.out; rw [if_pos hE] at hP; cases hP; exact ⟨rfl, rfl, rfl⟩
    clear hE HP
    have b := b4
    have s1 : w4.drew.cell? ⟨(w.heap.size + 1), 2, none⟩ = some (.int .i64 E1) := blk_cell y4 2
    have s2 : ((w4.setCell ⟨w.heap.size, 0, none⟩ (.int .i64 0)).setCell ⟨w.heap.size, 1, none⟩ (.slice none 0 0)).drew.cell? ⟨(w.heap.size + 1), 2, none⟩ = some (.int .i64 E1) := blk_cell (blk_drew (far2bid y4 hgb (.int .i64 0) (.slice none 0 0))) 2
    first | go_region_held3 (fun w' => w'.cell? ⟨(w.heap.size + 1), 2, none⟩ = some (.int .i64 E1)) (first | with_reducible exact s1 | with_reducible exact s2) (fail) | fail
    clear s1 s2
    all_goals go_wp2
    all_goals refine bodyPost_ret (results_list (rs := [.cell 4 33, .tmp 5, .tmp 6]) rfl (by simp) (.cell w.heap.size 33 #[.int .i64 0, .slice none 0 0] (0, 0) _ rfl (blk_drew (set2bid k4 (.int .i64 0) (.slice none 0 0))) Try.underlying33 rfl (by kernel_rfl) (.tmp (.tmp .nil)))) rfl ?_
    all_goals obtain ⟨rfl, rfl, rfl⟩ := HX.out
    all_goals exact ⟨none, 0, Nat.le_refl _, rfl, C_nil _, below_drew (bel2bid b (Nat.le_refl _) (.int .i64 0) (.slice none 0 0))⟩
end Ar
end Go.Proofs.Ytnghcgmkncbnnaa
end
section
namespace Go.Proofs.Ytnghcgmkncbnnaa
open Go.RowKit Go.Proofs.YtnghcgmkncbnnaaW.PrintWords Go.Proofs.YtnghcgmkncbnnaaW.PrintLast Go.Proofs.YtnghcgmkncbnnaaW.PrintMore
namespace Ar
open Wd
def unitB : ByteArray := ⟨#[117, 110, 105, 116]⟩
def rdunit (s : ByteArray) (p : Int) : Int × Int × Int × Int × Int × Int × Int × Int × List (Int × Int) × (Int × Int) :=
  match numS s (wordS s unitB (takeS s 1 (p, 0))) with
  | (a0, q1) =>
  match numS s q1 with
  | (a1, q2) =>
  match numS s q2 with
  | (a3, q3) =>
  match numS s q3 with
  | (a4, q4) =>
  match numS s q4 with
  | (a5, q5) =>
  match numS s q5 with
  | (a6, q6) =>
  match numS s q6 with
  | (a7, q7) =>
  match numS s q7 with
  | (a8, q8) =>
  match sevS s q8 with
  | (l, q) => (a0, a1, a3, a4, a5, a6, a7, a8, l, takeS s 2 q)
def zeroU : Un := ⟨0, 0, [], 0, 0, 0, 0, 0, 0⟩
def outU (u : Un) (q : Int × Int) : Un × Int × Int := if q.2 ≠ 0 then (zeroU, 0, q.2) else if checkU u ≠ 0 then (zeroU, 0, checkU u) else (u, q.1, 0)
def parseU (s : ByteArray) (p : Int) : Un × Int × Int :=
  match rdunit s p with
  | (a0, a1, a3, a4, a5, a6, a7, a8, l, q) => outU ⟨a0, a1, l.map mkS, a3, a4, a5, a6, a7, a8⟩ q
theorem far9unit {W : World} {g b : Nat} {t : TypeId} {cs : Array Value} (h : W.heap[g]? = some (.cells cs t (0, 0))) (hn : g ≠ b) (a0 a1 a2 a3 a4 a5 a6 a7 a8 : Value) : (((((((((W.setCell ⟨b, 0, none⟩ a0).setCell ⟨b, 1, none⟩ a1).setCell ⟨b, 2, none⟩ a2).setCell ⟨b, 3, none⟩ a3).setCell ⟨b, 4, none⟩ a4).setCell ⟨b, 5, none⟩ a5).setCell ⟨b, 6, none⟩ a6).setCell ⟨b, 7, none⟩ a7).setCell ⟨b, 8, none⟩ a8).heap[g]? = some (.cells cs t (0, 0)) := by
  have h1 := blk_far (p := ⟨b, 0, none⟩) h hn a0; have h2 := blk_far (p := ⟨b, 1, none⟩) h1 hn a1; have h3 := blk_far (p := ⟨b, 2, none⟩) h2 hn a2; have h4 := blk_far (p := ⟨b, 3, none⟩) h3 hn a3; have h5 := blk_far (p := ⟨b, 4, none⟩) h4 hn a4; have h6 := blk_far (p := ⟨b, 5, none⟩) h5 hn a5; have h7 := blk_far (p := ⟨b, 6, none⟩) h6 hn a6; have h8 := blk_far (p := ⟨b, 7, none⟩) h7 hn a7; have h9 := blk_far (p := ⟨b, 8, none⟩) h8 hn a8
  exact h9
theorem set9unit {W : World} {b : Nat} {t : TypeId} {c0 c1 c2 c3 c4 c5 c6 c7 c8 : Value} (h : W.heap[b]? = some (.cells #[c0, c1, c2, c3, c4, c5, c6, c7, c8] t (0, 0))) (a0 a1 a2 a3 a4 a5 a6 a7 a8 : Value) : (((((((((W.setCell ⟨b, 0, none⟩ a0).setCell ⟨b, 1, none⟩ a1).setCell ⟨b, 2, none⟩ a2).setCell ⟨b, 3, none⟩ a3).setCell ⟨b, 4, none⟩ a4).setCell ⟨b, 5, none⟩ a5).setCell ⟨b, 6, none⟩ a6).setCell ⟨b, 7, none⟩ a7).setCell ⟨b, 8, none⟩ a8).heap[b]? = some (.cells #[a0, a1, a2, a3, a4, a5, a6, a7, a8] t (0, 0)) := by
  have h1 : (W.setCell ⟨b, 0, none⟩ a0).heap[b]? = some (.cells #[a0, c1, c2, c3, c4, c5, c6, c7, c8] t (0, 0)) := blk_set h 0 a0; have h2 : ((W.setCell ⟨b, 0, none⟩ a0).setCell ⟨b, 1, none⟩ a1).heap[b]? = some (.cells #[a0, a1, c2, c3, c4, c5, c6, c7, c8] t (0, 0)) := blk_set h1 1 a1; have h3 : (((W.setCell ⟨b, 0, none⟩ a0).setCell ⟨b, 1, none⟩ a1).setCell ⟨b, 2, none⟩ a2).heap[b]? = some (.cells #[a0, a1, a2, c3, c4, c5, c6, c7, c8] t (0, 0)) := blk_set h2 2 a2; have h4 : ((((W.setCell ⟨b, 0, none⟩ a0).setCell ⟨b, 1, none⟩ a1).setCell ⟨b, 2, none⟩ a2).setCell ⟨b, 3, none⟩ a3).heap[b]? = some (.cells #[a0, a1, a2, a3, c4, c5, c6, c7, c8] t (0, 0)) := blk_set h3 3 a3; have h5 : (((((W.setCell ⟨b, 0, none⟩ a0).setCell ⟨b, 1, none⟩ a1).setCell ⟨b, 2, none⟩ a2).setCell ⟨b, 3, none⟩ a3).setCell ⟨b, 4, none⟩ a4).heap[b]? = some (.cells #[a0, a1, a2, a3, a4, c5, c6, c7, c8] t (0, 0)) := blk_set h4 4 a4; have h6 : ((((((W.setCell ⟨b, 0, none⟩ a0).setCell ⟨b, 1, none⟩ a1).setCell ⟨b, 2, none⟩ a2).setCell ⟨b, 3, none⟩ a3).setCell ⟨b, 4, none⟩ a4).setCell ⟨b, 5, none⟩ a5).heap[b]? = some (.cells #[a0, a1, a2, a3, a4, a5, c6, c7, c8] t (0, 0)) := blk_set h5 5 a5; have h7 : (((((((W.setCell ⟨b, 0, none⟩ a0).setCell ⟨b, 1, none⟩ a1).setCell ⟨b, 2, none⟩ a2).setCell ⟨b, 3, none⟩ a3).setCell ⟨b, 4, none⟩ a4).setCell ⟨b, 5, none⟩ a5).setCell ⟨b, 6, none⟩ a6).heap[b]? = some (.cells #[a0, a1, a2, a3, a4, a5, a6, c7, c8] t (0, 0)) := blk_set h6 6 a6; have h8 : ((((((((W.setCell ⟨b, 0, none⟩ a0).setCell ⟨b, 1, none⟩ a1).setCell ⟨b, 2, none⟩ a2).setCell ⟨b, 3, none⟩ a3).setCell ⟨b, 4, none⟩ a4).setCell ⟨b, 5, none⟩ a5).setCell ⟨b, 6, none⟩ a6).setCell ⟨b, 7, none⟩ a7).heap[b]? = some (.cells #[a0, a1, a2, a3, a4, a5, a6, a7, c8] t (0, 0)) := blk_set h7 7 a7; have h9 : (((((((((W.setCell ⟨b, 0, none⟩ a0).setCell ⟨b, 1, none⟩ a1).setCell ⟨b, 2, none⟩ a2).setCell ⟨b, 3, none⟩ a3).setCell ⟨b, 4, none⟩ a4).setCell ⟨b, 5, none⟩ a5).setCell ⟨b, 6, none⟩ a6).setCell ⟨b, 7, none⟩ a7).setCell ⟨b, 8, none⟩ a8).heap[b]? = some (.cells #[a0, a1, a2, a3, a4, a5, a6, a7, a8] t (0, 0)) := blk_set h8 8 a8
  exact h9
theorem bel9unit {w W : World} {b : Nat} (h : Below w.heap.size w W) (hb : w.heap.size ≤ b) (a0 a1 a2 a3 a4 a5 a6 a7 a8 : Value) : Below w.heap.size w (((((((((W.setCell ⟨b, 0, none⟩ a0).setCell ⟨b, 1, none⟩ a1).setCell ⟨b, 2, none⟩ a2).setCell ⟨b, 3, none⟩ a3).setCell ⟨b, 4, none⟩ a4).setCell ⟨b, 5, none⟩ a5).setCell ⟨b, 6, none⟩ a6).setCell ⟨b, 7, none⟩ a7).setCell ⟨b, 8, none⟩ a8) := by
  have h1 := h.setCell (p := ⟨b, 0, none⟩) hb a0; have h2 := h1.setCell (p := ⟨b, 1, none⟩) hb a1; have h3 := h2.setCell (p := ⟨b, 2, none⟩) hb a2; have h4 := h3.setCell (p := ⟨b, 3, none⟩) hb a3; have h5 := h4.setCell (p := ⟨b, 4, none⟩) hb a4; have h6 := h5.setCell (p := ⟨b, 5, none⟩) hb a5; have h7 := h6.setCell (p := ⟨b, 6, none⟩) hb a6; have h8 := h7.setCell (p := ⟨b, 7, none⟩) hb a7; have h9 := h8.setCell (p := ⟨b, 8, none⟩) hb a8
  exact h9
theorem row9unit {W : World} {b e base : Nat} {ok : Nat → Prop} {v : Value} {xs : List Stp} (h : Kd.R kStp e W base ok v xs) (hb : ∀ k, ok k → k ≠ b) (a0 a1 a2 a3 a4 a5 a6 a7 a8 : Value) : Kd.R kStp e (((((((((W.setCell ⟨b, 0, none⟩ a0).setCell ⟨b, 1, none⟩ a1).setCell ⟨b, 2, none⟩ a2).setCell ⟨b, 3, none⟩ a3).setCell ⟨b, 4, none⟩ a4).setCell ⟨b, 5, none⟩ a5).setCell ⟨b, 6, none⟩ a6).setCell ⟨b, 7, none⟩ a7).setCell ⟨b, 8, none⟩ a8) base ok v xs := by
  have h1 := Kd.R_far (p := ⟨b, 0, none⟩) h hb a0; have h2 := Kd.R_far (p := ⟨b, 1, none⟩) h1 hb a1; have h3 := Kd.R_far (p := ⟨b, 2, none⟩) h2 hb a2; have h4 := Kd.R_far (p := ⟨b, 3, none⟩) h3 hb a3; have h5 := Kd.R_far (p := ⟨b, 4, none⟩) h4 hb a4; have h6 := Kd.R_far (p := ⟨b, 5, none⟩) h5 hb a5; have h7 := Kd.R_far (p := ⟨b, 6, none⟩) h6 hb a6; have h8 := Kd.R_far (p := ⟨b, 7, none⟩) h7 hb a7; have h9 := Kd.R_far (p := ⟨b, 8, none⟩) h8 hb a8
  exact h9
set_option maxRecDepth 100000 in
set_option maxHeartbeats 16000000 in
theorem ParseUnit_c {G : Int → Prop} {s : ByteArray} (hs : s.size < 1048576) (hG : Good s G) {w : World} (p : Int) (hp : G p) :
    Calls Try.prog 17 #[.string s, .int .i64 p] w fun e w' => ∃ (A : Option Addr) (c : Nat), (parseU s p).1.steps.length ≤ c ∧ e = .returned (.tuple #[.agg (unC (parseU s p).1 (.slice A (parseU s p).1.steps.length c)), .int .i64 (parseU s p).2.1, .int .i64 (parseU s p).2.2]) ∧ Kd.C kStp w' A (parseU s p).1.steps.length (parseU s p).1.steps ∧ Below w.heap.size w w' := by
  have hT := Try.underlying30
  have hR := Try.underlying67
  have hgb : (w.heap.size + 1) ≠ w.heap.size := by omega
  have hbg : w.heap.size ≠ (w.heap.size + 1) := by omega
  have b0 := below_alloc (below_alloc (Below.refl _ w) (.cells #[.int .i64 0, .int .i64 0, .slice none 0 0, .int .i64 0, .int .i64 0, .int .i64 0, .int .i64 0, .int .i64 0, .int .i64 0] 30)) (rdObj s p 0)
  have k0 := blk_alloc (blk_new w (.cells #[.int .i64 0, .int .i64 0, .slice none 0 0, .int .i64 0, .int .i64 0, .int .i64 0, .int .i64 0, .int .i64 0, .int .i64 0] 30)) (rdObj s p 0)
  have r0' := blk_new (w.alloc (.cells #[.int .i64 0, .int .i64 0, .slice none 0 0, .int .i64 0, .int .i64 0, .int .i64 0, .int .i64 0, .int .i64 0, .int .i64 0] 30)) (rdObj s p 0)
  rw [World.size_alloc] at r0'
  have r0 : Rd G s (w.heap.size + 1) ((w.alloc (.cells #[.int .i64 0, .int .i64 0, .slice none 0 0, .int .i64 0, .int .i64 0, .int .i64 0, .int .i64 0, .int .i64 0, .int .i64 0] 30)).alloc (rdObj s p 0)) (p, 0) := ⟨r0', fun _ => hp⟩
  clear r0'
  obtain ⟨X, NX, ER, hP⟩ : ∃ X NX ER, (X, NX, ER) = parseU s p := ⟨_, _, _, rfl⟩
  rw [← hP]
  unfold parseU rdunit at hP
  have HB := Lib.hid (fun (W : World) => begin_s hs hG (g := (w.heap.size + 1)) W (p, 0) unitB)
  obtain ⟨q0, h0⟩ : ∃ q, wordS s unitB (takeS s 1 (p, 0)) = q := ⟨_, rfl⟩
  rw [h0] at HB hP
  clear h0
  have Ha0 := Lib.hid (fun (W : World) => int_s hs hG (g := (w.heap.size + 1)) W q0)
  obtain ⟨a0, q1, h1⟩ : ∃ x q, numS s q0 = (x, q) := ⟨_, _, rfl⟩
  rw [h1] at Ha0 hP
  clear h1
  dsimp only at Ha0 hP
  have Ha1 := Lib.hid (fun (W : World) => number_s hs hG (g := (w.heap.size + 1)) W q1)
  obtain ⟨a1, q2, h2⟩ : ∃ x q, numS s q1 = (x, q) := ⟨_, _, rfl⟩
  rw [h2] at Ha1 hP
  clear h2
  dsimp only at Ha1 hP
  have Ha3 := Lib.hid (fun (W : World) => int_s hs hG (g := (w.heap.size + 1)) W q2)
  obtain ⟨a3, q3, h3⟩ : ∃ x q, numS s q2 = (x, q) := ⟨_, _, rfl⟩
  rw [h3] at Ha3 hP
  clear h3
  dsimp only at Ha3 hP
  have Ha4 := Lib.hid (fun (W : World) => int_s hs hG (g := (w.heap.size + 1)) W q3)
  obtain ⟨a4, q4, h4⟩ : ∃ x q, numS s q3 = (x, q) := ⟨_, _, rfl⟩
  rw [h4] at Ha4 hP
  clear h4
  dsimp only at Ha4 hP
  have Ha5 := Lib.hid (fun (W : World) => number_s hs hG (g := (w.heap.size + 1)) W q4)
  obtain ⟨a5, q5, h5⟩ : ∃ x q, numS s q4 = (x, q) := ⟨_, _, rfl⟩
  rw [h5] at Ha5 hP
  clear h5
  dsimp only at Ha5 hP
  have Ha6 := Lib.hid (fun (W : World) => number_s hs hG (g := (w.heap.size + 1)) W q5)
  obtain ⟨a6, q6, h6⟩ : ∃ x q, numS s q5 = (x, q) := ⟨_, _, rfl⟩
  rw [h6] at Ha6 hP
  clear h6
  dsimp only at Ha6 hP
  have Ha7 := Lib.hid (fun (W : World) => number_s hs hG (g := (w.heap.size + 1)) W q6)
  obtain ⟨a7, q7, h7⟩ : ∃ x q, numS s q6 = (x, q) := ⟨_, _, rfl⟩
  rw [h7] at Ha7 hP
  clear h7
  dsimp only at Ha7 hP
  have Ha8 := Lib.hid (fun (W : World) => int_s hs hG (g := (w.heap.size + 1)) W q7)
  have hat := @numS_at s q7
  obtain ⟨a8, q8, h8⟩ : ∃ x q, numS s q7 = (x, q) := ⟨_, _, rfl⟩
  rw [h8] at Ha8 hP hat
  clear h8
  dsimp only at Ha8 hP hat
  have HV := Lib.hid (fun (W : World) (h : Rd G s (w.heap.size + 1) W q8) => several_s hs hG (g := (w.heap.size + 1)) W q8 h (left_at hat))
  have hlen := sevS_len s q8
  obtain ⟨l', qv, hv⟩ : ∃ x q, sevS s q8 = (x, q) := ⟨_, _, rfl⟩
  rw [hv] at HV hP hlen
  clear hv hat
  dsimp only at HV hP hlen
  obtain ⟨l, hl⟩ : ∃ l, l'.map mkS = l := ⟨_, rfl⟩
  rw [hl] at HV hP hlen
  clear hl
  have hlen : l.length < 1073741824 := by omega
  have HT := Lib.hid (fun (W : World) => take_s hs hG (g := (w.heap.size + 1)) W qv 2)
  obtain ⟨⟨P1, E1⟩, ht⟩ : ∃ q, takeS s 2 qv = q := ⟨_, rfl⟩
  rw [ht] at HT hP
  clear ht
  unfold outU at hP
  dsimp only at HT hP
  have HC := Lib.hid (fun (W : World) (A : Option Addr) (c : Nat) (h : Kd.C kStp W A l.length l) (hc : l.length ≤ c) => Check_c (w := W) ⟨a0, a1, l, a3, a4, a5, a6, a7, a8⟩ A c h hc hlen)
  generalize checkU ⟨a0, a1, l, a3, a4, a5, a6, a7, a8⟩ = CK at HC hP
  have HP := Lib.hid hP
  clear hP
  go_enter Try.func17, Try.ntmps17
  go_wp2_with (first | (go_at_call 16; refine (HC.out _ A c hCA hcA).mono ?_; rintro e w12 ⟨rfl, hb12⟩; have b12 := below_step b11 hb12; have k12 := blk_below k11 hb12; have y12 := blk_below y11 hb12; have hO12 := Kd.R_below hO11 hb12; have z12_0 := blk_cell y12 0; have z12_1 := blk_cell y12 1; have z12_2 := blk_cell y12 2; have z12_f0 := blk_frozen y12 0; have z12_f1 := blk_frozen y12 1; have z12_f2 := blk_frozen y12 2; have x12_0 := blk_cell k12 0; have x12_1 := blk_cell k12 1; have x12_2 := blk_cell k12 2; have x12_3 := blk_cell k12 3; have x12_4 := blk_cell k12 4; have x12_5 := blk_cell k12 5; have x12_6 := blk_cell k12 6; have x12_7 := blk_cell k12 7; have x12_8 := blk_cell k12 8; have x12_f0 := blk_frozen k12 0; have x12_f1 := blk_frozen k12 1; have x12_f2 := blk_frozen k12 2; have x12_f3 := blk_frozen k12 3; have x12_f4 := blk_frozen k12 4; have x12_f5 := blk_frozen k12 5; have x12_f6 := blk_frozen k12 6; have x12_f7 := blk_frozen k12 7; have x12_f8 := blk_frozen k12 8) | (go_at_call 35; refine (HT.out _ (r10.far hgb _)).mono ?_; rintro e w11 ⟨rfl, r11, hb11⟩; have b11 := But.below (below_set (j := 2) (v := .slice A l.length c) b10 (Nat.le_refl _)) (Nat.le_succ _) hb11; have k11 : w11.heap[w.heap.size]? = some (.cells #[.int .i64 a0, .int .i64 a1, .slice A l.length c, .int .i64 a3, .int .i64 a4, .int .i64 a5, .int .i64 a6, .int .i64 a7, .int .i64 a8] 30 (0, 0)) := blk_but (blk_set k10 2 (.slice A l.length c)) hb11 hbg; have hO11 := Kd.R_step (Kd.R_far hO10 (p := ⟨w.heap.size, 2, none⟩) (fun k hk => by first | omega | (dsimp only; omega) | (dsimp only at hk; omega)) (.slice A l.length c)) (fun k hk hl => hb11.block k hl (by omega)); obtain ⟨hcA, hCA⟩ := R_readsA hO11; have y11 := r11.1; have z11_0 := blk_cell y11 0; have z11_1 := blk_cell y11 1; have z11_2 := blk_cell y11 2; have z11_f0 := blk_frozen y11 0; have z11_f1 := blk_frozen y11 1; have z11_f2 := blk_frozen y11 2; have x11_0 := blk_cell k11 0; have x11_1 := blk_cell k11 1; have x11_2 := blk_cell k11 2; have x11_3 := blk_cell k11 3; have x11_4 := blk_cell k11 4; have x11_5 := blk_cell k11 5; have x11_6 := blk_cell k11 6; have x11_7 := blk_cell k11 7; have x11_8 := blk_cell k11 8; have x11_f0 := blk_frozen k11 0; have x11_f1 := blk_frozen k11 1; have x11_f2 := blk_frozen k11 2; have x11_f3 := blk_frozen k11 3; have x11_f4 := blk_frozen k11 4; have x11_f5 := blk_frozen k11 5; have x11_f6 := blk_frozen k11 6; have x11_f7 := blk_frozen k11 7; have x11_f8 := blk_frozen k11 8) | (go_at_call 33; refine (HV.out _ (r9.far hgb _)).mono ?_; rintro e w10 ⟨v, rfl, hO, r10, hb10⟩; have b10 := But.below (below_set (j := 8) (v := .int .i64 a8) b9 (Nat.le_refl _)) (Nat.le_succ _) hb10; have k10 : w10.heap[w.heap.size]? = some (.cells #[.int .i64 a0, .int .i64 a1, .slice none 0 0, .int .i64 a3, .int .i64 a4, .int .i64 a5, .int .i64 a6, .int .i64 a7, .int .i64 a8] 30 (0, 0)) := blk_but (blk_set k9 8 (.int .i64 a8)) hb10 hbg; have hO10 := Kd.R_mono (ok' := fun k => w.heap.size + 1 < k) hO (fun k hk => Nat.lt_of_lt_of_le (blk_lt (r9.far hgb _).1) hk); obtain ⟨A, c, rfl⟩ := Kd.R_slice hO10; have x10_0 := blk_cell k10 0; have x10_1 := blk_cell k10 1; have x10_2 := blk_cell k10 2; have x10_3 := blk_cell k10 3; have x10_4 := blk_cell k10 4; have x10_5 := blk_cell k10 5; have x10_6 := blk_cell k10 6; have x10_7 := blk_cell k10 7; have x10_8 := blk_cell k10 8; have x10_f0 := blk_frozen k10 0; have x10_f1 := blk_frozen k10 1; have x10_f2 := blk_frozen k10 2; have x10_f3 := blk_frozen k10 3; have x10_f4 := blk_frozen k10 4; have x10_f5 := blk_frozen k10 5; have x10_f6 := blk_frozen k10 6; have x10_f7 := blk_frozen k10 7; have x10_f8 := blk_frozen k10 8) | (go_at_call 31; refine (Ha8.out _ (((r8.far hgb _).far hgb _).far hgb _)).mono ?_; rintro e w9 ⟨rfl, r9, hb9⟩; have b9 := But.below (below_set (j := 7) (v := .int .i64 a7) (below_set (j := 6) (v := .int .i64 a6) (below_set (j := 5) (v := .int .i64 a5) b8 (Nat.le_refl _)) (Nat.le_refl _)) (Nat.le_refl _)) (Nat.le_succ _) hb9; have k9 : w9.heap[w.heap.size]? = some (.cells #[.int .i64 a0, .int .i64 a1, .slice none 0 0, .int .i64 a3, .int .i64 a4, .int .i64 a5, .int .i64 a6, .int .i64 a7, .int .i64 0] 30 (0, 0)) := blk_but (blk_set (blk_set (blk_set k8 5 (.int .i64 a5)) 6 (.int .i64 a6)) 7 (.int .i64 a7)) hb9 hbg; have x9_0 := blk_cell k9 0; have x9_1 := blk_cell k9 1; have x9_2 := blk_cell k9 2; have x9_3 := blk_cell k9 3; have x9_4 := blk_cell k9 4; have x9_5 := blk_cell k9 5; have x9_6 := blk_cell k9 6; have x9_7 := blk_cell k9 7; have x9_8 := blk_cell k9 8; have x9_f0 := blk_frozen k9 0; have x9_f1 := blk_frozen k9 1; have x9_f2 := blk_frozen k9 2; have x9_f3 := blk_frozen k9 3; have x9_f4 := blk_frozen k9 4; have x9_f5 := blk_frozen k9 5; have x9_f6 := blk_frozen k9 6; have x9_f7 := blk_frozen k9 7; have x9_f8 := blk_frozen k9 8) | (go_at_call 32; refine (Ha7.out _ r7).mono ?_; rintro e w8 ⟨rfl, r8, hb8⟩; have b8 := But.below b7 (Nat.le_succ _) hb8; have k8 : w8.heap[w.heap.size]? = some (.cells #[.int .i64 a0, .int .i64 a1, .slice none 0 0, .int .i64 a3, .int .i64 a4, .int .i64 0, .int .i64 0, .int .i64 0, .int .i64 0] 30 (0, 0)) := blk_but k7 hb8 hbg; have x8_0 := blk_cell k8 0; have x8_1 := blk_cell k8 1; have x8_2 := blk_cell k8 2; have x8_3 := blk_cell k8 3; have x8_4 := blk_cell k8 4; have x8_5 := blk_cell k8 5; have x8_6 := blk_cell k8 6; have x8_7 := blk_cell k8 7; have x8_8 := blk_cell k8 8; have x8_f0 := blk_frozen k8 0; have x8_f1 := blk_frozen k8 1; have x8_f2 := blk_frozen k8 2; have x8_f3 := blk_frozen k8 3; have x8_f4 := blk_frozen k8 4; have x8_f5 := blk_frozen k8 5; have x8_f6 := blk_frozen k8 6; have x8_f7 := blk_frozen k8 7; have x8_f8 := blk_frozen k8 8) | (go_at_call 32; refine (Ha6.out _ r6).mono ?_; rintro e w7 ⟨rfl, r7, hb7⟩; have b7 := But.below b6 (Nat.le_succ _) hb7; have k7 : w7.heap[w.heap.size]? = some (.cells #[.int .i64 a0, .int .i64 a1, .slice none 0 0, .int .i64 a3, .int .i64 a4, .int .i64 0, .int .i64 0, .int .i64 0, .int .i64 0] 30 (0, 0)) := blk_but k6 hb7 hbg; have x7_0 := blk_cell k7 0; have x7_1 := blk_cell k7 1; have x7_2 := blk_cell k7 2; have x7_3 := blk_cell k7 3; have x7_4 := blk_cell k7 4; have x7_5 := blk_cell k7 5; have x7_6 := blk_cell k7 6; have x7_7 := blk_cell k7 7; have x7_8 := blk_cell k7 8; have x7_f0 := blk_frozen k7 0; have x7_f1 := blk_frozen k7 1; have x7_f2 := blk_frozen k7 2; have x7_f3 := blk_frozen k7 3; have x7_f4 := blk_frozen k7 4; have x7_f5 := blk_frozen k7 5; have x7_f6 := blk_frozen k7 6; have x7_f7 := blk_frozen k7 7; have x7_f8 := blk_frozen k7 8) | (go_at_call 32; refine (Ha5.out _ ((r5.far hgb _).far hgb _)).mono ?_; rintro e w6 ⟨rfl, r6, hb6⟩; have b6 := But.below (below_set (j := 4) (v := .int .i64 a4) (below_set (j := 3) (v := .int .i64 a3) b5 (Nat.le_refl _)) (Nat.le_refl _)) (Nat.le_succ _) hb6; have k6 : w6.heap[w.heap.size]? = some (.cells #[.int .i64 a0, .int .i64 a1, .slice none 0 0, .int .i64 a3, .int .i64 a4, .int .i64 0, .int .i64 0, .int .i64 0, .int .i64 0] 30 (0, 0)) := blk_but (blk_set (blk_set k5 3 (.int .i64 a3)) 4 (.int .i64 a4)) hb6 hbg; have x6_0 := blk_cell k6 0; have x6_1 := blk_cell k6 1; have x6_2 := blk_cell k6 2; have x6_3 := blk_cell k6 3; have x6_4 := blk_cell k6 4; have x6_5 := blk_cell k6 5; have x6_6 := blk_cell k6 6; have x6_7 := blk_cell k6 7; have x6_8 := blk_cell k6 8; have x6_f0 := blk_frozen k6 0; have x6_f1 := blk_frozen k6 1; have x6_f2 := blk_frozen k6 2; have x6_f3 := blk_frozen k6 3; have x6_f4 := blk_frozen k6 4; have x6_f5 := blk_frozen k6 5; have x6_f6 := blk_frozen k6 6; have x6_f7 := blk_frozen k6 7; have x6_f8 := blk_frozen k6 8) | (go_at_call 31; refine (Ha4.out _ r4).mono ?_; rintro e w5 ⟨rfl, r5, hb5⟩; have b5 := But.below b4 (Nat.le_succ _) hb5; have k5 : w5.heap[w.heap.size]? = some (.cells #[.int .i64 a0, .int .i64 a1, .slice none 0 0, .int .i64 0, .int .i64 0, .int .i64 0, .int .i64 0, .int .i64 0, .int .i64 0] 30 (0, 0)) := blk_but k4 hb5 hbg; have x5_0 := blk_cell k5 0; have x5_1 := blk_cell k5 1; have x5_2 := blk_cell k5 2; have x5_3 := blk_cell k5 3; have x5_4 := blk_cell k5 4; have x5_5 := blk_cell k5 5; have x5_6 := blk_cell k5 6; have x5_7 := blk_cell k5 7; have x5_8 := blk_cell k5 8; have x5_f0 := blk_frozen k5 0; have x5_f1 := blk_frozen k5 1; have x5_f2 := blk_frozen k5 2; have x5_f3 := blk_frozen k5 3; have x5_f4 := blk_frozen k5 4; have x5_f5 := blk_frozen k5 5; have x5_f6 := blk_frozen k5 6; have x5_f7 := blk_frozen k5 7; have x5_f8 := blk_frozen k5 8) | (go_at_call 31; refine (Ha3.out _ ((r3.far hgb _).far hgb _)).mono ?_; rintro e w4 ⟨rfl, r4, hb4⟩; have b4 := But.below (below_set (j := 1) (v := .int .i64 a1) (below_set (j := 0) (v := .int .i64 a0) b3 (Nat.le_refl _)) (Nat.le_refl _)) (Nat.le_succ _) hb4; have k4 : w4.heap[w.heap.size]? = some (.cells #[.int .i64 a0, .int .i64 a1, .slice none 0 0, .int .i64 0, .int .i64 0, .int .i64 0, .int .i64 0, .int .i64 0, .int .i64 0] 30 (0, 0)) := blk_but (blk_set (blk_set k3 0 (.int .i64 a0)) 1 (.int .i64 a1)) hb4 hbg; have x4_0 := blk_cell k4 0; have x4_1 := blk_cell k4 1; have x4_2 := blk_cell k4 2; have x4_3 := blk_cell k4 3; have x4_4 := blk_cell k4 4; have x4_5 := blk_cell k4 5; have x4_6 := blk_cell k4 6; have x4_7 := blk_cell k4 7; have x4_8 := blk_cell k4 8; have x4_f0 := blk_frozen k4 0; have x4_f1 := blk_frozen k4 1; have x4_f2 := blk_frozen k4 2; have x4_f3 := blk_frozen k4 3; have x4_f4 := blk_frozen k4 4; have x4_f5 := blk_frozen k4 5; have x4_f6 := blk_frozen k4 6; have x4_f7 := blk_frozen k4 7; have x4_f8 := blk_frozen k4 8) | (go_at_call 32; refine (Ha1.out _ r2).mono ?_; rintro e w3 ⟨rfl, r3, hb3⟩; have b3 := But.below b2 (Nat.le_succ _) hb3; have k3 : w3.heap[w.heap.size]? = some (.cells #[.int .i64 0, .int .i64 0, .slice none 0 0, .int .i64 0, .int .i64 0, .int .i64 0, .int .i64 0, .int .i64 0, .int .i64 0] 30 (0, 0)) := blk_but k2 hb3 hbg; have x3_0 := blk_cell k3 0; have x3_1 := blk_cell k3 1; have x3_2 := blk_cell k3 2; have x3_3 := blk_cell k3 3; have x3_4 := blk_cell k3 4; have x3_5 := blk_cell k3 5; have x3_6 := blk_cell k3 6; have x3_7 := blk_cell k3 7; have x3_8 := blk_cell k3 8; have x3_f0 := blk_frozen k3 0; have x3_f1 := blk_frozen k3 1; have x3_f2 := blk_frozen k3 2; have x3_f3 := blk_frozen k3 3; have x3_f4 := blk_frozen k3 4; have x3_f5 := blk_frozen k3 5; have x3_f6 := blk_frozen k3 6; have x3_f7 := blk_frozen k3 7; have x3_f8 := blk_frozen k3 8) | (go_at_call 31; refine (Ha0.out _ r1).mono ?_; rintro e w2 ⟨rfl, r2, hb2⟩; have b2 := But.below b1 (Nat.le_succ _) hb2; have k2 : w2.heap[w.heap.size]? = some (.cells #[.int .i64 0, .int .i64 0, .slice none 0 0, .int .i64 0, .int .i64 0, .int .i64 0, .int .i64 0, .int .i64 0, .int .i64 0] 30 (0, 0)) := blk_but k1 hb2 hbg; have x2_0 := blk_cell k2 0; have x2_1 := blk_cell k2 1; have x2_2 := blk_cell k2 2; have x2_3 := blk_cell k2 3; have x2_4 := blk_cell k2 4; have x2_5 := blk_cell k2 5; have x2_6 := blk_cell k2 6; have x2_7 := blk_cell k2 7; have x2_8 := blk_cell k2 8; have x2_f0 := blk_frozen k2 0; have x2_f1 := blk_frozen k2 1; have x2_f2 := blk_frozen k2 2; have x2_f3 := blk_frozen k2 3; have x2_f4 := blk_frozen k2 4; have x2_f5 := blk_frozen k2 5; have x2_f6 := blk_frozen k2 6; have x2_f7 := blk_frozen k2 7; have x2_f8 := blk_frozen k2 8) | (go_at_call 30; refine (HB.out _ r0).mono ?_; rintro e w1 ⟨rfl, r1, hb1⟩; have b1 := But.below b0 (Nat.le_succ _) hb1; have k1 : w1.heap[w.heap.size]? = some (.cells #[.int .i64 0, .int .i64 0, .slice none 0 0, .int .i64 0, .int .i64 0, .int .i64 0, .int .i64 0, .int .i64 0, .int .i64 0] 30 (0, 0)) := blk_but k0 hb1 hbg; have x1_0 := blk_cell k1 0; have x1_1 := blk_cell k1 1; have x1_2 := blk_cell k1 2; have x1_3 := blk_cell k1 3; have x1_4 := blk_cell k1 4; have x1_5 := blk_cell k1 5; have x1_6 := blk_cell k1 6; have x1_7 := blk_cell k1 7; have x1_8 := blk_cell k1 8; have x1_f0 := blk_frozen k1 0; have x1_f1 := blk_frozen k1 1; have x1_f2 := blk_frozen k1 2; have x1_f3 := blk_frozen k1 3; have x1_f4 := blk_frozen k1 4; have x1_f5 := blk_frozen k1 5; have x1_f6 := blk_frozen k1 6; have x1_f7 := blk_frozen k1 7; have x1_f8 := blk_frozen k1 8))
  · have hE : E1 = 0 := beq_iff_eq.1 (by assumption)
    have hK : CK ≠ 0 := bne_iff_ne.1 (by assumption)
    have HX : Hid (X = zeroU ∧ NX = 0 ∧ ER = CK) := by have hP := HP.out; rw [if_neg (by rw [hE]; simp), if_pos hK] at hP; cases hP; exact ⟨rfl, rfl, rfl⟩
    clear hE hK HP
    have y := blk_set y12 2 (.int .i64 CK)
    have k := blk_far k12 (p := ⟨(w.heap.size + 1), 2, none⟩) hbg (.int .i64 CK)
    have b := below_set (j := 2) (v := .int .i64 CK) b12 (Nat.le_succ _)
    have v_0 := blk_cell k 0; have v_1 := blk_cell k 1; have v_2 := blk_cell k 2; have v_3 := blk_cell k 3; have v_4 := blk_cell k 4; have v_5 := blk_cell k 5; have v_6 := blk_cell k 6; have v_7 := blk_cell k 7; have v_8 := blk_cell k 8; have v_f0 := blk_frozen k 0; have v_f1 := blk_frozen k 1; have v_f2 := blk_frozen k 2; have v_f3 := blk_frozen k 3; have v_f4 := blk_frozen k 4; have v_f5 := blk_frozen k 5; have v_f6 := blk_frozen k 6; have v_f7 := blk_frozen k 7; have v_f8 := blk_frozen k 8
    have s1 : (w12.setCell ⟨(w.heap.size + 1), 2, none⟩ (.int .i64 CK)).drew.cell? ⟨(w.heap.size + 1), 2, none⟩ = some (.int .i64 CK) := blk_cell y 2
    have s2 : ((((((((((w12.setCell ⟨(w.heap.size + 1), 2, none⟩ (.int .i64 CK)).setCell ⟨w.heap.size, 0, none⟩ (.int .i64 0)).setCell ⟨w.heap.size, 1, none⟩ (.int .i64 0)).setCell ⟨w.heap.size, 2, none⟩ (.slice none 0 0)).setCell ⟨w.heap.size, 3, none⟩ (.int .i64 0)).setCell ⟨w.heap.size, 4, none⟩ (.int .i64 0)).setCell ⟨w.heap.size, 5, none⟩ (.int .i64 0)).setCell ⟨w.heap.size, 6, none⟩ (.int .i64 0)).setCell ⟨w.heap.size, 7, none⟩ (.int .i64 0)).setCell ⟨w.heap.size, 8, none⟩ (.int .i64 0)).drew.cell? ⟨(w.heap.size + 1), 2, none⟩ = some (.int .i64 CK) := blk_cell (blk_drew (far9unit y hgb (.int .i64 0) (.int .i64 0) (.slice none 0 0) (.int .i64 0) (.int .i64 0) (.int .i64 0) (.int .i64 0) (.int .i64 0) (.int .i64 0))) 2
    first | go_region_held3 (fun w' => w'.cell? ⟨(w.heap.size + 1), 2, none⟩ = some (.int .i64 CK)) (first | with_reducible exact s1 | with_reducible exact s2) (fail) | fail
    clear s1 s2
    all_goals go_wp2
    all_goals refine bodyPost_ret (results_list (rs := [.cell 4 30, .tmp 5, .tmp 6]) rfl (by simp) (.cell w.heap.size 30 #[.int .i64 0, .int .i64 0, .slice none 0 0, .int .i64 0, .int .i64 0, .int .i64 0, .int .i64 0, .int .i64 0, .int .i64 0] (0, 0) _ rfl (blk_drew (set9unit k (.int .i64 0) (.int .i64 0) (.slice none 0 0) (.int .i64 0) (.int .i64 0) (.int .i64 0) (.int .i64 0) (.int .i64 0) (.int .i64 0))) Try.underlying30 rfl (by kernel_rfl) (.tmp (.tmp .nil)))) rfl ?_
    all_goals obtain ⟨rfl, rfl, rfl⟩ := HX.out
    all_goals exact ⟨none, 0, Nat.le_refl _, rfl, C_nil _, below_drew (bel9unit b (Nat.le_refl _) (.int .i64 0) (.int .i64 0) (.slice none 0 0) (.int .i64 0) (.int .i64 0) (.int .i64 0) (.int .i64 0) (.int .i64 0) (.int .i64 0))⟩
  · have hE : E1 = 0 := beq_iff_eq.1 (by assumption)
    have hK : CK = 0 := bne_eq_false_iff_eq.1 (by assumption)
    have HX : Hid (X = ⟨a0, a1, l, a3, a4, a5, a6, a7, a8⟩ ∧ NX = P1 ∧ ER = 0) := by have hP := HP.out; rw [if_neg (by rw [hE]; simp), if_neg (by rw [hK]; simp)] at hP; cases hP; exact ⟨rfl, rfl, rfl⟩
    clear hE hK HP
    have y := blk_set y12 2 (.int .i64 CK)
    have k := blk_far k12 (p := ⟨(w.heap.size + 1), 2, none⟩) hbg (.int .i64 CK)
    have hO' := (Kd.R_far (p := ⟨(w.heap.size + 1), 2, none⟩) hO12 (fun k hk => by first | omega | (dsimp only; omega) | (dsimp only at hk; omega)) (.int .i64 CK))
    have b := below_set (j := 2) (v := .int .i64 CK) b12 (Nat.le_succ _)
    have v_0 := blk_cell k 0; have v_1 := blk_cell k 1; have v_2 := blk_cell k 2; have v_3 := blk_cell k 3; have v_4 := blk_cell k 4; have v_5 := blk_cell k 5; have v_6 := blk_cell k 6; have v_7 := blk_cell k 7; have v_8 := blk_cell k 8; have v_f0 := blk_frozen k 0; have v_f1 := blk_frozen k 1; have v_f2 := blk_frozen k 2; have v_f3 := blk_frozen k 3; have v_f4 := blk_frozen k 4; have v_f5 := blk_frozen k 5; have v_f6 := blk_frozen k 6; have v_f7 := blk_frozen k 7; have v_f8 := blk_frozen k 8
    have s1 : (w12.setCell ⟨(w.heap.size + 1), 2, none⟩ (.int .i64 CK)).drew.cell? ⟨(w.heap.size + 1), 1, none⟩ = some (.int .i64 P1) ∧ (w12.setCell ⟨(w.heap.size + 1), 2, none⟩ (.int .i64 CK)).drew.cell? ⟨w.heap.size, 0, none⟩ = some (.int .i64 a0) ∧ (w12.setCell ⟨(w.heap.size + 1), 2, none⟩ (.int .i64 CK)).drew.cell? ⟨w.heap.size, 1, none⟩ = some (.int .i64 a1) ∧ (w12.setCell ⟨(w.heap.size + 1), 2, none⟩ (.int .i64 CK)).drew.cell? ⟨w.heap.size, 2, none⟩ = some (.slice A l.length c) ∧ (w12.setCell ⟨(w.heap.size + 1), 2, none⟩ (.int .i64 CK)).drew.cell? ⟨w.heap.size, 3, none⟩ = some (.int .i64 a3) ∧ (w12.setCell ⟨(w.heap.size + 1), 2, none⟩ (.int .i64 CK)).drew.cell? ⟨w.heap.size, 4, none⟩ = some (.int .i64 a4) ∧ (w12.setCell ⟨(w.heap.size + 1), 2, none⟩ (.int .i64 CK)).drew.cell? ⟨w.heap.size, 5, none⟩ = some (.int .i64 a5) ∧ (w12.setCell ⟨(w.heap.size + 1), 2, none⟩ (.int .i64 CK)).drew.cell? ⟨w.heap.size, 6, none⟩ = some (.int .i64 a6) ∧ (w12.setCell ⟨(w.heap.size + 1), 2, none⟩ (.int .i64 CK)).drew.cell? ⟨w.heap.size, 7, none⟩ = some (.int .i64 a7) ∧ (w12.setCell ⟨(w.heap.size + 1), 2, none⟩ (.int .i64 CK)).drew.cell? ⟨w.heap.size, 8, none⟩ = some (.int .i64 a8) := ⟨blk_cell y 1, blk_cell k 0, blk_cell k 1, blk_cell k 2, blk_cell k 3, blk_cell k 4, blk_cell k 5, blk_cell k 6, blk_cell k 7, blk_cell k 8⟩
    have s2 : ((((((((((w12.setCell ⟨(w.heap.size + 1), 2, none⟩ (.int .i64 CK)).setCell ⟨w.heap.size, 0, none⟩ (.int .i64 a0)).setCell ⟨w.heap.size, 1, none⟩ (.int .i64 a1)).setCell ⟨w.heap.size, 2, none⟩ (.slice A l.length c)).setCell ⟨w.heap.size, 3, none⟩ (.int .i64 a3)).setCell ⟨w.heap.size, 4, none⟩ (.int .i64 a4)).setCell ⟨w.heap.size, 5, none⟩ (.int .i64 a5)).setCell ⟨w.heap.size, 6, none⟩ (.int .i64 a6)).setCell ⟨w.heap.size, 7, none⟩ (.int .i64 a7)).setCell ⟨w.heap.size, 8, none⟩ (.int .i64 a8)).drew.cell? ⟨(w.heap.size + 1), 1, none⟩ = some (.int .i64 P1) ∧ ((((((((((w12.setCell ⟨(w.heap.size + 1), 2, none⟩ (.int .i64 CK)).setCell ⟨w.heap.size, 0, none⟩ (.int .i64 a0)).setCell ⟨w.heap.size, 1, none⟩ (.int .i64 a1)).setCell ⟨w.heap.size, 2, none⟩ (.slice A l.length c)).setCell ⟨w.heap.size, 3, none⟩ (.int .i64 a3)).setCell ⟨w.heap.size, 4, none⟩ (.int .i64 a4)).setCell ⟨w.heap.size, 5, none⟩ (.int .i64 a5)).setCell ⟨w.heap.size, 6, none⟩ (.int .i64 a6)).setCell ⟨w.heap.size, 7, none⟩ (.int .i64 a7)).setCell ⟨w.heap.size, 8, none⟩ (.int .i64 a8)).drew.cell? ⟨w.heap.size, 0, none⟩ = some (.int .i64 a0) ∧ ((((((((((w12.setCell ⟨(w.heap.size + 1), 2, none⟩ (.int .i64 CK)).setCell ⟨w.heap.size, 0, none⟩ (.int .i64 a0)).setCell ⟨w.heap.size, 1, none⟩ (.int .i64 a1)).setCell ⟨w.heap.size, 2, none⟩ (.slice A l.length c)).setCell ⟨w.heap.size, 3, none⟩ (.int .i64 a3)).setCell ⟨w.heap.size, 4, none⟩ (.int .i64 a4)).setCell ⟨w.heap.size, 5, none⟩ (.int .i64 a5)).setCell ⟨w.heap.size, 6, none⟩ (.int .i64 a6)).setCell ⟨w.heap.size, 7, none⟩ (.int .i64 a7)).setCell ⟨w.heap.size, 8, none⟩ (.int .i64 a8)).drew.cell? ⟨w.heap.size, 1, none⟩ = some (.int .i64 a1) ∧ ((((((((((w12.setCell ⟨(w.heap.size + 1), 2, none⟩ (.int .i64 CK)).setCell ⟨w.heap.size, 0, none⟩ (.int .i64 a0)).setCell ⟨w.heap.size, 1, none⟩ (.int .i64 a1)).setCell ⟨w.heap.size, 2, none⟩ (.slice A l.length c)).setCell ⟨w.heap.size, 3, none⟩ (.int .i64 a3)).setCell ⟨w.heap.size, 4, none⟩ (.int .i64 a4)).setCell ⟨w.heap.size, 5, none⟩ (.int .i64 a5)).setCell ⟨w.heap.size, 6, none⟩ (.int .i64 a6)).setCell ⟨w.heap.size, 7, none⟩ (.int .i64 a7)).setCell ⟨w.heap.size, 8, none⟩ (.int .i64 a8)).drew.cell? ⟨w.heap.size, 2, none⟩ = some (.slice A l.length c) ∧ ((((((((((w12.setCell ⟨(w.heap.size + 1), 2, none⟩ (.int .i64 CK)).setCell ⟨w.heap.size, 0, none⟩ (.int .i64 a0)).setCell ⟨w.heap.size, 1, none⟩ (.int .i64 a1)).setCell ⟨w.heap.size, 2, none⟩ (.slice A l.length c)).setCell ⟨w.heap.size, 3, none⟩ (.int .i64 a3)).setCell ⟨w.heap.size, 4, none⟩ (.int .i64 a4)).setCell ⟨w.heap.size, 5, none⟩ (.int .i64 a5)).setCell ⟨w.heap.size, 6, none⟩ (.int .i64 a6)).setCell ⟨w.heap.size, 7, none⟩ (.int .i64 a7)).setCell ⟨w.heap.size, 8, none⟩ (.int .i64 a8)).drew.cell? ⟨w.heap.size, 3, none⟩ = some (.int .i64 a3) ∧ ((((((((((w12.setCell ⟨(w.heap.size + 1), 2, none⟩ (.int .i64 CK)).setCell ⟨w.heap.size, 0, none⟩ (.int .i64 a0)).setCell ⟨w.heap.size, 1, none⟩ (.int .i64 a1)).setCell ⟨w.heap.size, 2, none⟩ (.slice A l.length c)).setCell ⟨w.heap.size, 3, none⟩ (.int .i64 a3)).setCell ⟨w.heap.size, 4, none⟩ (.int .i64 a4)).setCell ⟨w.heap.size, 5, none⟩ (.int .i64 a5)).setCell ⟨w.heap.size, 6, none⟩ (.int .i64 a6)).setCell ⟨w.heap.size, 7, none⟩ (.int .i64 a7)).setCell ⟨w.heap.size, 8, none⟩ (.int .i64 a8)).drew.cell? ⟨w.heap.size, 4, none⟩ = some (.int .i64 a4) ∧ ((((((((((w12.setCell ⟨(w.heap.size + 1), 2, none⟩ (.int .i64 CK)).setCell ⟨w.heap.size, 0, none⟩ (.int .i64 a0)).setCell ⟨w.heap.size, 1, none⟩ (.int .i64 a1)).setCell ⟨w.heap.size, 2, none⟩ (.slice A l.length c)).setCell ⟨w.heap.size, 3, none⟩ (.int .i64 a3)).setCell ⟨w.heap.size, 4, none⟩ (.int .i64 a4)).setCell ⟨w.heap.size, 5, none⟩ (.int .i64 a5)).setCell ⟨w.heap.size, 6, none⟩ (.int .i64 a6)).setCell ⟨w.heap.size, 7, none⟩ (.int .i64 a7)).setCell ⟨w.heap.size, 8, none⟩ (.int .i64 a8)).drew.cell? ⟨w.heap.size, 5, none⟩ = some (.int .i64 a5) ∧ ((((((((((w12.setCell ⟨(w.heap.size + 1), 2, none⟩ (.int .i64 CK)).setCell ⟨w.heap.size, 0, none⟩ (.int .i64 a0)).setCell ⟨w.heap.size, 1, none⟩ (.int .i64 a1)).setCell ⟨w.heap.size, 2, none⟩ (.slice A l.length c)).setCell ⟨w.heap.size, 3, none⟩ (.int .i64 a3)).setCell ⟨w.heap.size, 4, none⟩ (.int .i64 a4)).setCell ⟨w.heap.size, 5, none⟩ (.int .i64 a5)).setCell ⟨w.heap.size, 6, none⟩ (.int .i64 a6)).setCell ⟨w.heap.size, 7, none⟩ (.int .i64 a7)).setCell ⟨w.heap.size, 8, none⟩ (.int .i64 a8)).drew.cell? ⟨w.heap.size, 6, none⟩ = some (.int .i64 a6) ∧ ((((((((((w12.setCell ⟨(w.heap.size + 1), 2, none⟩ (.int .i64 CK)).setCell ⟨w.heap.size, 0, none⟩ (.int .i64 a0)).setCell ⟨w.heap.size, 1, none⟩ (.int .i64 a1)).setCell ⟨w.heap.size, 2, none⟩ (.slice A l.length c)).setCell ⟨w.heap.size, 3, none⟩ (.int .i64 a3)).setCell ⟨w.heap.size, 4, none⟩ (.int .i64 a4)).setCell ⟨w.heap.size, 5, none⟩ (.int .i64 a5)).setCell ⟨w.heap.size, 6, none⟩ (.int .i64 a6)).setCell ⟨w.heap.size, 7, none⟩ (.int .i64 a7)).setCell ⟨w.heap.size, 8, none⟩ (.int .i64 a8)).drew.cell? ⟨w.heap.size, 7, none⟩ = some (.int .i64 a7) ∧ ((((((((((w12.setCell ⟨(w.heap.size + 1), 2, none⟩ (.int .i64 CK)).setCell ⟨w.heap.size, 0, none⟩ (.int .i64 a0)).setCell ⟨w.heap.size, 1, none⟩ (.int .i64 a1)).setCell ⟨w.heap.size, 2, none⟩ (.slice A l.length c)).setCell ⟨w.heap.size, 3, none⟩ (.int .i64 a3)).setCell ⟨w.heap.size, 4, none⟩ (.int .i64 a4)).setCell ⟨w.heap.size, 5, none⟩ (.int .i64 a5)).setCell ⟨w.heap.size, 6, none⟩ (.int .i64 a6)).setCell ⟨w.heap.size, 7, none⟩ (.int .i64 a7)).setCell ⟨w.heap.size, 8, none⟩ (.int .i64 a8)).drew.cell? ⟨w.heap.size, 8, none⟩ = some (.int .i64 a8) := ⟨blk_cell (blk_drew (far9unit y hgb (.int .i64 a0) (.int .i64 a1) (.slice A l.length c) (.int .i64 a3) (.int .i64 a4) (.int .i64 a5) (.int .i64 a6) (.int .i64 a7) (.int .i64 a8))) 1, blk_cell (blk_drew (set9unit k (.int .i64 a0) (.int .i64 a1) (.slice A l.length c) (.int .i64 a3) (.int .i64 a4) (.int .i64 a5) (.int .i64 a6) (.int .i64 a7) (.int .i64 a8))) 0, blk_cell (blk_drew (set9unit k (.int .i64 a0) (.int .i64 a1) (.slice A l.length c) (.int .i64 a3) (.int .i64 a4) (.int .i64 a5) (.int .i64 a6) (.int .i64 a7) (.int .i64 a8))) 1, blk_cell (blk_drew (set9unit k (.int .i64 a0) (.int .i64 a1) (.slice A l.length c) (.int .i64 a3) (.int .i64 a4) (.int .i64 a5) (.int .i64 a6) (.int .i64 a7) (.int .i64 a8))) 2, blk_cell (blk_drew (set9unit k (.int .i64 a0) (.int .i64 a1) (.slice A l.length c) (.int .i64 a3) (.int .i64 a4) (.int .i64 a5) (.int .i64 a6) (.int .i64 a7) (.int .i64 a8))) 3, blk_cell (blk_drew (set9unit k (.int .i64 a0) (.int .i64 a1) (.slice A l.length c) (.int .i64 a3) (.int .i64 a4) (.int .i64 a5) (.int .i64 a6) (.int .i64 a7) (.int .i64 a8))) 4, blk_cell (blk_drew (set9unit k (.int .i64 a0) (.int .i64 a1) (.slice A l.length c) (.int .i64 a3) (.int .i64 a4) (.int .i64 a5) (.int .i64 a6) (.int .i64 a7) (.int .i64 a8))) 5, blk_cell (blk_drew (set9unit k (.int .i64 a0) (.int .i64 a1) (.slice A l.length c) (.int .i64 a3) (.int .i64 a4) (.int .i64 a5) (.int .i64 a6) (.int .i64 a7) (.int .i64 a8))) 6, blk_cell (blk_drew (set9unit k (.int .i64 a0) (.int .i64 a1) (.slice A l.length c) (.int .i64 a3) (.int .i64 a4) (.int .i64 a5) (.int .i64 a6) (.int .i64 a7) (.int .i64 a8))) 7, blk_cell (blk_drew (set9unit k (.int .i64 a0) (.int .i64 a1) (.slice A l.length c) (.int .i64 a3) (.int .i64 a4) (.int .i64 a5) (.int .i64 a6) (.int .i64 a7) (.int .i64 a8))) 8⟩
    first | go_region_held3 (fun w' => w'.cell? ⟨(w.heap.size + 1), 1, none⟩ = some (.int .i64 P1) ∧ w'.cell? ⟨w.heap.size, 0, none⟩ = some (.int .i64 a0) ∧ w'.cell? ⟨w.heap.size, 1, none⟩ = some (.int .i64 a1) ∧ w'.cell? ⟨w.heap.size, 2, none⟩ = some (.slice A l.length c) ∧ w'.cell? ⟨w.heap.size, 3, none⟩ = some (.int .i64 a3) ∧ w'.cell? ⟨w.heap.size, 4, none⟩ = some (.int .i64 a4) ∧ w'.cell? ⟨w.heap.size, 5, none⟩ = some (.int .i64 a5) ∧ w'.cell? ⟨w.heap.size, 6, none⟩ = some (.int .i64 a6) ∧ w'.cell? ⟨w.heap.size, 7, none⟩ = some (.int .i64 a7) ∧ w'.cell? ⟨w.heap.size, 8, none⟩ = some (.int .i64 a8)) (first | with_reducible exact s1 | with_reducible exact s2) (fail) | fail
    clear s1 s2
    all_goals go_wp2
    all_goals refine bodyPost_ret (results_list (rs := [.cell 4 30, .tmp 5, .tmp 6]) rfl (by simp) (.cell w.heap.size 30 #[.int .i64 a0, .int .i64 a1, .slice A l.length c, .int .i64 a3, .int .i64 a4, .int .i64 a5, .int .i64 a6, .int .i64 a7, .int .i64 a8] (0, 0) _ rfl (blk_drew (set9unit k (.int .i64 a0) (.int .i64 a1) (.slice A l.length c) (.int .i64 a3) (.int .i64 a4) (.int .i64 a5) (.int .i64 a6) (.int .i64 a7) (.int .i64 a8))) Try.underlying30 rfl (by kernel_rfl) (.tmp (.tmp .nil)))) rfl ?_
    all_goals obtain ⟨rfl, rfl, rfl⟩ := HX.out
    all_goals exact ⟨A, c, hcA, rfl, (R_readsA (Kd.R_drew (row9unit hO' (fun k hk => by omega) (.int .i64 a0) (.int .i64 a1) (.slice A l.length c) (.int .i64 a3) (.int .i64 a4) (.int .i64 a5) (.int .i64 a6) (.int .i64 a7) (.int .i64 a8)))).2, below_drew (bel9unit b (Nat.le_refl _) (.int .i64 a0) (.int .i64 a1) (.slice A l.length c) (.int .i64 a3) (.int .i64 a4) (.int .i64 a5) (.int .i64 a6) (.int .i64 a7) (.int .i64 a8))⟩
  · have hE : E1 ≠ 0 := bne_iff_ne.1 (by assumption)
    have HX : Hid (X = zeroU ∧ NX = 0 ∧ ER = E1) := by have hP := HP.out; rw [if_pos hE] at hP; cases hP; exact ⟨rfl, rfl, rfl⟩
    clear hE HP
    have b := b11
    have s1 : w11.drew.cell? ⟨(w.heap.size + 1), 2, none⟩ = some (.int .i64 E1) := blk_cell y11 2
    have s2 : (((((((((w11.setCell ⟨w.heap.size, 0, none⟩ (.int .i64 0)).setCell ⟨w.heap.size, 1, none⟩ (.int .i64 0)).setCell ⟨w.heap.size, 2, none⟩ (.slice none 0 0)).setCell ⟨w.heap.size, 3, none⟩ (.int .i64 0)).setCell ⟨w.heap.size, 4, none⟩ (.int .i64 0)).setCell ⟨w.heap.size, 5, none⟩ (.int .i64 0)).setCell ⟨w.heap.size, 6, none⟩ (.int .i64 0)).setCell ⟨w.heap.size, 7, none⟩ (.int .i64 0)).setCell ⟨w.heap.size, 8, none⟩ (.int .i64 0)).drew.cell? ⟨(w.heap.size + 1), 2, none⟩ = some (.int .i64 E1) := blk_cell (blk_drew (far9unit y11 hgb (.int .i64 0) (.int .i64 0) (.slice none 0 0) (.int .i64 0) (.int .i64 0) (.int .i64 0) (.int .i64 0) (.int .i64 0) (.int .i64 0))) 2
    first | go_region_held3 (fun w' => w'.cell? ⟨(w.heap.size + 1), 2, none⟩ = some (.int .i64 E1)) (first | with_reducible exact s1 | with_reducible exact s2) (fail) | fail
    clear s1 s2
    all_goals go_wp2
    all_goals refine bodyPost_ret (results_list (rs := [.cell 4 30, .tmp 5, .tmp 6]) rfl (by simp) (.cell w.heap.size 30 #[.int .i64 0, .int .i64 0, .slice none 0 0, .int .i64 0, .int .i64 0, .int .i64 0, .int .i64 0, .int .i64 0, .int .i64 0] (0, 0) _ rfl (blk_drew (set9unit k11 (.int .i64 0) (.int .i64 0) (.slice none 0 0) (.int .i64 0) (.int .i64 0) (.int .i64 0) (.int .i64 0) (.int .i64 0) (.int .i64 0))) Try.underlying30 rfl (by kernel_rfl) (.tmp (.tmp .nil)))) rfl ?_
    all_goals obtain ⟨rfl, rfl, rfl⟩ := HX.out
    all_goals exact ⟨none, 0, Nat.le_refl _, rfl, C_nil _, below_drew (bel9unit b (Nat.le_refl _) (.int .i64 0) (.int .i64 0) (.slice none 0 0) (.int .i64 0) (.int .i64 0) (.int .i64 0) (.int .i64 0) (.int .i64 0) (.int .i64 0))⟩
end Ar
end Go.Proofs.Ytnghcgmkncbnnaa
end
section
namespace Go.Proofs.Ytnghcgmkncbnnaa
open Go.RowKit Go.Proofs.YtnghcgmkncbnnaaW.PrintWords Go.Proofs.YtnghcgmkncbnnaaW.PrintLast Go.Proofs.YtnghcgmkncbnnaaW.PrintMore
namespace Ar
open Wd
abbrev bs (s : ByteArray) : List UInt8 := s.data.toList
end Ar
end Go.Proofs.Ytnghcgmkncbnnaa
end
