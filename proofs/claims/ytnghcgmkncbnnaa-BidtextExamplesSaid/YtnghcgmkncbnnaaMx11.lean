/- Part 11 of the proof: strings.Builder: copyCheck, WriteByte, WriteString. The text of a sequence of tokens. Package bidtext: the tokens of a text, num and bracketed. Package bidtext: show. Package bidtext: FormatUnit, FormatBid. What is right has small numbers; its text is the reference's text. The statements' own helpers: Same, SameBid, Long, ex, exBid, unit, bid. The places of a text whose numbers have short denominators; the texts of the examples. awake: the chapter's examples hold. -/
import Derived.Test.YtnghcgmkncbnnaaMx1
import Derived.Test.YtnghcgmkncbnnaaMx8
import Derived.Test.YtnghcgmkncbnnaaMx10
set_option linter.unusedVariables false
set_option linter.unusedSimpArgs false
section
namespace Go.Proofs.Ytnghcgmkncbnnaa
open Go.RowKit Go.Proofs.YtnghcgmkncbnnaaW.PrintWords Go.Proofs.YtnghcgmkncbnnaaW.PrintLast Go.Proofs.YtnghcgmkncbnnaaW.PrintMore
namespace Ar
open Wd
theorem sizeB : (Try.prog.info? 85).map (·.size) = some 2 := by kernel_rfl
theorem liesB : liesAt Try.prog Try.prog.depth 85 (2 / Try.prog.cellsOf 85) 0 85 1 = true := by kernel_rfl
theorem infoU8 : (Try.prog.info? 5).map (fun i => (i.zero, i.size, i.bytes)) = some (some (.int .u8 0), 1, 1) := by kernel_rfl
set_option maxRecDepth 100000 in
set_option maxHeartbeats 4000000 in
theorem copyCheck_c (B b : Nat) (bs : List Value) (w : World) (h : Lib.IsBuilder 85 5 B b bs w) :
    Calls Try.prog 59 #[.pointer (some ⟨b, 0, none⟩)] w fun e w' => e = .returned (.tuple #[]) ∧ Lib.BuilderAt 85 5 B b (.pointer (some ⟨b, 0, none⟩)) bs w' ∧ Below B w w' := by
  have hT := Try.underlying85
  obtain ⟨j, hj, hjs⟩ := Option.map_eq_some_iff.1 sizeB
  rcases h with h | h
  · have c0 := h.cell0
    have hfz := h.frozen0
    have hsh := h.shape
    go_enter Try.func59, Try.ntmps59
    go_wp2
    rw [Lib.run_to_unsafe w ⟨b, 0, none⟩ Try.underlying83 Try.underlying127 hj (by rw [hjs]; decide) hsh (Nat.zero_lt_succ 1)]
    simp only [Result.andThen]
    rw [Oper.upon_value]
    go_wp2
    rw [run_callFunc_extern Try.func73 (by kernel_rfl) (by kernel_rfl) (by kernel_rfl) (e := Extern.AbiNoEscape.same) (by kernel_rfl)]
    rw [Lib.run_noEscape]
    simp only [Result.andThen]
    rw [Oper.upon_value]
    go_wp2
    rw [Lib.run_from_unsafe w ⟨b, 0, none⟩ Try.underlying127 Try.underlying83 hj hsh liesB]
    simp only [Result.andThen]
    rw [Oper.upon_value]
    go_wp2
    go_end0
    exact ⟨rfl, h.used _, (Below.refl B w).setCell (p := ⟨b, 0, none⟩) h.1 _⟩
  · have c0 := h.cell0
    go_enter Try.func59, Try.ntmps59
    go_wp2
    rw [Lib.run_neq_ptr_same w _ Try.underlying83 hj]
    go_wp2
    go_end0
    exact ⟨rfl, h, Below.refl B _⟩
set_option maxRecDepth 100000 in
set_option maxHeartbeats 4000000 in
theorem writeByte_c (B b : Nat) (bs : List Value) (c : Int) (w : World) (h : Lib.IsBuilder 85 5 B b bs w) (hlen : bs.length + 1 ≤ 140737488355328) (hBw : B ≤ w.heap.size) :
    Calls Try.prog 38 #[.pointer (some ⟨b, 0, none⟩), .int .u8 c] w fun e w' => e = .returned .nilIface ∧ Lib.BuilderAt 85 5 B b (.pointer (some ⟨b, 0, none⟩)) (bs ++ [.int .u8 c]) w' ∧ Below B w w' := by
  have hT := Try.underlying85
  obtain ⟨i0, hi, hz0, hz1, hz2⟩ := info_parts infoU8
  go_enter Try.func38, Try.ntmps38
  go_wp2_with (go_at_call 59; refine (copyCheck_c B b bs _ h).mono ?_)
  rintro e w1 ⟨rfl, h1, hb1⟩
  obtain ⟨hB, v, hbk, hown, hne⟩ := h1
  have c0 := blk_cell hbk 0
  have c1 := blk_cell hbk 1
  go_wp2_with (at_builtin; refine wpList_append_own _ rfl _ _ 25 rfl B 5 i0 (.int .u8 0) 1 1 Try.underlying25 hi hz0 hz1 hz2 rfl (by decide) _ _ _ rfl (hown.alloc _) ⟨w1.heap.size, 0, none⟩ 1 1 [.int .u8 c] rfl rfl ?c1 ?c2 ?c3 ?c4 ?c5 ?_)
  case c1 =>
    intro j u hj
    match j, hj with
    | 0, hj => simp at hj; subst hj; simp [Addr.add]
  case c2 => intro u hu; simp at hu; subst hu; rfl
  case c3 => unfold maxLen; omega
  case c4 => omega
  case c5 => have := hb1.size; simp; omega
  intro v' w2 hown' hgrow _
  have hlt := blk_lt hbk
  have hb2 : w2.heap[b]? = some (.cells #[.pointer (some ⟨b, 0, none⟩), v] 85 (0, 0)) := (hgrow.block b (by simp; omega) (fun e => hne e.symm)).trans (blk_alloc hbk _)
  have d0 := blk_cell hb2 0
  have d1 := blk_cell hb2 1
  have f1 := blk_frozen hb2 1
  obtain ⟨g, cap, rfl⟩ : ∃ g cap, v' = .slice (some ⟨g, 0, none⟩) (bs.length + 1) cap := by
    rcases hown'.2 with ⟨_, h0⟩ | ⟨g, cap, cur, hv, _⟩
    · omega
    · exact ⟨g, cap, hv⟩
  go_wp2
  go_ret
  refine ⟨rfl, ?_, ?_⟩
  · exact Lib.BuilderAt.put (T := 85) (e := 5) hB hb2 (bs' := bs ++ [.int .u8 c]) (by simpa using hown') (by decide)
  · exact ((hb1.alloc (by have := hb1.size; omega) _).grown hgrow (by have := hb1.size; simp; omega) (fun k hk => (hown.lt k hk).1)).setCell (p := ⟨b, 1, none⟩) hB _
set_option maxRecDepth 100000 in
set_option maxHeartbeats 4000000 in
theorem writeString_c (B b : Nat) (bs : List Value) (s : ByteArray) (w : World) (h : Lib.IsBuilder 85 5 B b bs w) (hlen : bs.length + s.size ≤ 140737488355328) (hBw : B ≤ w.heap.size) :
    Calls Try.prog 39 #[.pointer (some ⟨b, 0, none⟩), .string s] w fun e w' => e = .returned (.tuple #[.int .i64 s.size, .nilIface]) ∧ Lib.BuilderAt 85 5 B b (.pointer (some ⟨b, 0, none⟩)) (bs ++ Lib.strCells s) w' ∧ Below B w w' := by
  have hT := Try.underlying85
  obtain ⟨i0, hi, hz0, hz1, hz2⟩ := info_parts infoU8
  go_enter Try.func39, Try.ntmps39
  go_wp2_with (go_at_call 59; refine (copyCheck_c B b bs _ h).mono ?_)
  rintro e w1 ⟨rfl, h1, hb1⟩
  obtain ⟨hB, v, hbk, hown, hne⟩ := h1
  have c0 := blk_cell hbk 0
  have c1 := blk_cell hbk 1
  go_wp2_with (at_builtin; refine Lib.wpList_append_own_string _ rfl _ _ 25 9 rfl B 5 i0 Try.underlying25 Try.underlying9 hi hz0 hz1 hz2 _ _ _ rfl hown s rfl ?c3 ?c4 ?c5 ?_)
  case c3 => unfold maxLen; omega
  case c4 => omega
  case c5 => have := hb1.size; omega
  intro v' w2 hown' hgrow _
  have hlt := blk_lt hbk
  have hb2 : w2.heap[b]? = some (.cells #[.pointer (some ⟨b, 0, none⟩), v] 85 (0, 0)) := (hgrow.block b hlt (fun e => hne e.symm)).trans hbk
  have d0 := blk_cell hb2 0
  have d1 := blk_cell hb2 1
  have f1 := blk_frozen hb2 1
  obtain ⟨ao, n', cap, rfl⟩ : ∃ ao n' cap, v' = .slice ao n' cap := by
    rcases hown'.2 with ⟨hv, _⟩ | ⟨g, cap, cur, hv, _⟩
    · exact ⟨_, _, _, hv⟩
    · exact ⟨_, _, _, hv⟩
  go_wp2
  go_ret2
  refine ⟨rfl, ?_, ?_⟩
  · exact Lib.BuilderAt.put (T := 85) (e := 5) hB hb2 (bs' := bs ++ Lib.strCells s) (by simpa [Lib.strCells_length] using hown') (by decide)
  · exact (hb1.grown hgrow (by have := hb1.size; omega) (fun k hk => (hown.lt k hk).1)).setCell (p := ⟨b, 1, none⟩) hB _
end Ar
end Go.Proofs.Ytnghcgmkncbnnaa
end
section
namespace Go.Proofs.Ytnghcgmkncbnnaa
open Go.RowKit Go.Proofs.YtnghcgmkncbnnaaW.PrintWords Go.Proofs.YtnghcgmkncbnnaaW.PrintLast Go.Proofs.YtnghcgmkncbnnaaW.PrintMore
namespace Ar
open Wd
abbrev TkS := E.S80
abbrev kTk := E.k80
def tkS (x : Tk) : TkS := ⟨x.k, x.t, ⟨⟨decide (x.n < 0), digs x.n.natAbs⟩, ⟨decide (x.d < 0), digs x.d.natAbs⟩⟩⟩
def rdK (l : List Tk) (i : Nat) : Tk := l.getD i noTk
def fmtTo (l : List Tk) : Nat → List UInt8
  | 0 => []
  | i + 1 => fmtTo l i ++ ((if 0 < i ∧ (rdK l (i - 1)).k ≠ 1 ∧ (rdK l i).k ≠ 2 then [32] else []) ++ (textB (rdK l i)).data.toList)
theorem fmtTo_mono (l : List Tk) : ∀ (n i : Nat), (fmtTo l i).length ≤ (fmtTo l (i + n)).length
  | 0, _ => Nat.le_refl _
  | n + 1, i => Nat.le_trans (fmtTo_mono l n i) (by rw [show i + (n + 1) = (i + n) + 1 from rfl, fmtTo, List.length_append]; omega)
theorem fmtTo_le (l : List Tk) {i : Nat} (h : i ≤ l.length) : (fmtTo l i).length ≤ (fmtTo l l.length).length := by
  have := fmtTo_mono l (l.length - i) i
  rwa [show i + (l.length - i) = l.length by omega] at this
theorem bld_below {T e : TypeId} {B b : Nat} {bs : List Value} {w w' : World} (h : Lib.IsBuilder T e B b bs w) (hb : Below w.heap.size w w') : Lib.IsBuilder T e B b bs w' := by
  have hk : ∀ p, Lib.BuilderAt T e B b p bs w → Lib.BuilderAt T e B b p bs w' := by
    rintro p ⟨h1, v, h2, h3, h4⟩
    exact ⟨h1, v, blk_below h2 hb, own_other h3 (row := none) ⟨hb.os, hb.tape, hb.output, hb.size, fun k hk _ => hb.block k hk⟩ (by cases hv : v.ownBlock <;> simp), h4⟩
  exact h.imp (hk _) (hk _)
theorem bc_len (l : List UInt8) : (Lib.byteCells l).length = l.length := by simp [Lib.byteCells]
theorem c_uv {W : World} {A : Option Addr} {l : List Int} {c : Nat} (hc : l.length ≤ c) (h : (Kd.int .u32).C W A l.length l) : Uv W (fun k => k < W.heap.size) (.slice A l.length c) l := Kd.V_mk hc (Kd.C_F (Kd.heap_int .u32) h)
theorem rdK_map (l : List Tk) (i : Nat) (h : i < l.length) : E.rd_T80 (l.map tkS) ((i : Nat) : Int) = tkS (rdK l i) := by
  unfold E.rd_T80 rdK
  rw [Int.toNat_natCast, List.getD_eq_getElem?_getD, List.getD_eq_getElem?_getD, List.getElem?_map, List.getElem?_eq_getElem h]; rfl
theorem prevC {W : World} {ad : Addr} {l : List Tk} (h : Kd.C kTk W (some ad) (l.map tkS).length (l.map tkS)) (j : Nat) (hj : j < l.length) : W.cell? (ad.add (j * 6)) = some (.int .u8 (rdK l j).k) := by
  obtain ⟨ad', _, _, _, _, had, g0, _⟩ := E.at_T80 h j (by omega) (by rw [List.length_map]; omega)
  obtain rfl := Option.some.inj had
  rw [rdK_map l j hj, Int.toNat_natCast] at g0
  exact g0
set_option maxRecDepth 100000 in
set_option maxHeartbeats 8000000 in
theorem tokFormat_c {w : World} (A : Option Addr) (c : Nat) (l : List Tk) (hr : Kd.C kTk w A (l.map tkS).length (l.map tkS)) (hc : (l.map tkS).length ≤ c) (hok : ∀ x ∈ l, okTk x) (hlen : (fmtTo l l.length).length ≤ 65536) (hl : l.length < 1073741824) :
    Calls Try.prog 21 #[.slice A (l.map tkS).length c] w fun e w' => e = .returned (.tuple #[.string ⟨(fmtTo l l.length).toArray⟩, .int .i64 0]) ∧ Below w.heap.size w w' := by
  have hK := Try.underlying80
  have hu := Try.underlying85
  obtain ⟨R, hR⟩ : ∃ R, fmtTo l l.length = R := ⟨_, rfl⟩
  rw [hR] at hlen ⊢
  have hlm : (l.map tkS).length = l.length := List.length_map ..
  have HM := Lib.hid hlm
  obtain ⟨n, hn⟩ : ∃ n, (l.map tkS).length = n := ⟨_, rfl⟩
  rw [hn] at hr hc hlm ⊢
  have HNl := Lib.hid hlm
  have HRr := Lib.hid hR
  have HLen := Lib.hid hlen
  have Hok := Lib.hid hok
  clear hlm hn hR hok
  have hb0 := below_alloc (Below.refl _ w) (.cells #[.pointer none, .slice none 0 0] 85)
  have i0 := Lib.hid (Lib.fresh_isBuilder 85 5 w)
  have hnl : n < 1073741824 := by have := HNl.out; omega
  go_enter Try.func21, Try.ntmps21
  go_wp2
  go_loopg [11] n (fun k v W => ∃ i : Nat, v = .int .i64 i ∧ i + k = n ∧ Hid (Lib.IsBuilder 85 5 w.heap.size w.heap.size (Lib.byteCells (fmtTo l i)) W) ∧ Below w.heap.size w W)
  case atStart => exact ⟨0, rfl, by omega, i0, hb0⟩
  case round =>
    obtain ⟨i, rfl, hi, HI, hB⟩ := hrel
    cases gk with
    | zero =>
      obtain rfl : i = n := by omega
      have hlb : decide ((i : Int) < (i : Int)) = false := decide_eq_false (by omega)
      have hG : decide ((65536 : Int) < ((Lib.byteCells (fmtTo l i)).length : Int)) = false := by
        rw [bc_len, HNl.out, HRr.out]; have := HLen.out; exact decide_eq_false (by omega)
      go_wp2_with (first | (go_at_call 40; refine (Try.Builder_Len _ _ _ _ HI.out).mono ?_; rintro e w1 ⟨rfl, rfl⟩) | (go_at_call 41; refine (Try.Builder_String_any _ _ _ _ HI.out hB.size).mono ?_; rintro e w2 ⟨rfl, hb2⟩; have hB2 := hB.trans hb2))
      go_ret2
      exact ⟨by rw [HNl.out, HRr.out]; rfl, hB2⟩
    | succ m =>
      have hlt : i < n := by omega
      have hlb : decide ((i : Int) < (n : Int)) = true := decide_eq_true (by omega)
      have hrW : Kd.C kTk wr A (l.map tkS).length (l.map tkS) := by rw [HM.out, ← HNl.out]; exact Kd.C_below hr hB
      have hil : i < l.length := by have := HNl.out; omega
      obtain ⟨ad, A1, c1, A2, c2, rfl, g0, g1, g2, g3, g4, g5, hc1, hC1, hc2, hC2⟩ := E.at_T80 hrW i (by omega) (by have := HM.out; omega)
      obtain ⟨x, hx⟩ : ∃ x, rdK l i = x := ⟨_, rfl⟩
      rw [rdK_map l i hil, hx] at g0 g1 g2 g3 g4 g5 hc1 hC1 hc2 hC2
      obtain ⟨b, r1, b', r2, hb, hr1, hb', hr2⟩ : ∃ b r1 b' r2, decide (x.n < 0) = b ∧ digs x.n.natAbs = r1 ∧ decide (x.d < 0) = b' ∧ digs x.d.natAbs = r2 := ⟨_, _, _, _, rfl, rfl, rfl, rfl⟩
      dsimp only [tkS] at g0 g1 g2 g3 g4 g5 hc1 hC1 hc2 hC2
      rw [hb] at g2; rw [hr1] at g3 hc1 hC1; rw [hb'] at g4; rw [hr2] at g5 hc2 hC2
      rw [Int.toNat_natCast] at g0 g1 g2 g3 g4 g5
      have Hv : Hid (b = decide (x.n < 0) ∧ r1 = digs x.n.natAbs ∧ b' = decide (x.d < 0) ∧ r2 = digs x.d.natAbs) := ⟨hb.symm, hr1.symm, hb'.symm, hr2.symm⟩
      have hu1 := (c_uv hc1 hC1).alloc (tkObj x.k x.t (.bool b) (.slice A1 r1.length c1) (.bool b') (.slice A2 r2.length c2))
      have hu2 := (c_uv hc2 hC2).alloc (tkObj x.k x.t (.bool b) (.slice A1 r1.length c1) (.bool b') (.slice A2 r2.length c2))
      have hokx : okTk x := by rw [← hx]; exact Hok.out _ (by unfold rdK; rw [List.getD_eq_getElem?_getD, List.getElem?_eq_getElem hil]; exact List.getElem_mem hil)
      have HT := Lib.hid (fun (W : World) (ok : Nat → Prop) (v : Value) (h : TV W ok v x) => text_c h hokx)
      have HX := Lib.hid hx
      clear hx hb hr1 hb' hr2 hc1 hC1 hc2 hC2 hokx
      have kx := blk_tk (W := wr) x.k x.t (.bool b) (.slice A1 r1.length c1) (.bool b') (.slice A2 r2.length c2)
      have hB0 := below_alloc hB (tkObj x.k x.t (.bool b) (.slice A1 r1.length c1) (.bool b') (.slice A2 r2.length c2))
      have hy0 := blk_cell kx 0; have hy1 := blk_cell kx 1; have hy2 := blk_cell kx 2; have hy3 := blk_cell kx 3; have hy4 := blk_cell kx 4; have hy5 := blk_cell kx 5; have hyf0 := blk_frozen kx 0; have hyf1 := blk_frozen kx 1; have hyf2 := blk_frozen kx 2; have hyf3 := blk_frozen kx 3; have hyf4 := blk_frozen kx 4; have hyf5 := blk_frozen kx 5
      have hfl := fmtTo_le l (show i + 1 ≤ l.length from hil)
      rw [HRr.out] at hfl
      have hFs : fmtTo l (i + 1) = fmtTo l i ++ ((if 0 < i ∧ (rdK l (i - 1)).k ≠ 1 ∧ x.k ≠ 2 then [32] else []) ++ (textB x).data.toList) := by rw [← HX.out]; exact rfl
      have HN : Hid ((fmtTo l i).length + 1 + (textB x).size ≤ 100000) := by
        have h2 := HLen.out
        rw [hFs, List.length_append, List.length_append] at hfl
        have h3 : (textB x).data.toList.length = (textB x).size := by rw [Array.length_toList]; rfl
        show _ ≤ _
        omega
      clear hfl
      have hw3 : wrap64 ((i : Int) + 1) = ((i + 1 : Nat) : Int) := w64succ i (by omega)
      by_cases hi0 : i = 0
      · have hz0 : decide ((0 : Int) < (i : Int)) = false := decide_eq_false (by omega)
        have hzn : decide (0 < i) = false := decide_eq_false (by omega)
        have HF : Hid (fmtTo l (i + 1) = fmtTo l i ++ ([] ++ (textB x).data.toList)) := by rw [hFs, if_neg (fun h => absurd h.1 (by omega))]; exact rfl
        clear hFs hi0
        go_wp2_with (first | (go_at_call 39; refine (writeString_c _ _ _ _ _ I1.out (by rw [bc_len]; have := HN.out; omega) hB1.size).mono ?_; rintro e w3 ⟨rfl, I3, hb3⟩; have hB3 := hB1.trans hb3) | (go_at_call 37; refine (HT.out _ _ _ ⟨b, A1, r1, c1, b', A2, r2, c2, rfl, Hv, hu1, hu2⟩).mono ?_; rintro e w1 ⟨rfl, hb1⟩; have hB1 := below_step hB0 hb1; have i1 := blk_below kx hb1; have I1 := Lib.hid (bld_below (bld_below HI.out (below_alloc (Below.refl _ wr) (tkObj x.k x.t (.bool b) (.slice A1 r1.length c1) (.bool b') (.slice A2 r2.length c2)))) hb1); have hz0 := blk_cell i1 0; have hz1 := blk_cell i1 1; have hz2 := blk_cell i1 2; have hz3 := blk_cell i1 3; have hz4 := blk_cell i1 4; have hz5 := blk_cell i1 5; have hzf0 := blk_frozen i1 0; have hzf1 := blk_frozen i1 1; have hzf2 := blk_frozen i1 2; have hzf3 := blk_frozen i1 3; have hzf4 := blk_frozen i1 4; have hzf5 := blk_frozen i1 5))
        go_roundg m
        case measure => omega
        case rel => exact ⟨i + 1, by first | exact congrArg (Value.int .i64) hw3 | exact congrArg (Value.int .i64) (Int.natCast_succ i).symm, by omega, by rw [HF.out, List.nil_append, Lib.byteCells_append, ← Lib.strCells_eq]; exact .inr I3, hB3⟩
      · obtain ⟨j, HJ⟩ : ∃ j, Hid (i = j + 1) := ⟨i - 1, by show i = i - 1 + 1; omega⟩
        have hz0 : decide ((0 : Int) < (i : Int)) = true := decide_eq_true (by omega)
        have hzn : decide (0 < i) = true := decide_eq_true (by omega)
        have hw : wrap64 ((i : Int) - 1) = (j : Int) := by have h2 := HJ.out; rw [w64in _ (by omega) (by omega)]; omega
        have hw2 : IntKind.i64.wrap ((i : Int) - 1) = (j : Int) := by have h := hw; unfold wrap64 at h; rw [IntKind.wrap_i64]; exact h
        have HJl : Hid (j < l.length) := by have h2 := HJ.out; show _ < _; omega
        have hj1 : (0 : Int) ≤ (j : Int) := by omega
        have hj2 : (j : Int) < (n : Int) := by have h2 := HJ.out; omega
        obtain ⟨y, hy⟩ : ∃ y, rdK l j = y := ⟨_, rfl⟩
        have HY := Lib.hid hy
        rw [show i - 1 = j by have h2 := HJ.out; omega, hy] at hFs
        clear hy
        by_cases h1 : y.k = 1
        · have d1 : (y.k != 1) = false := by rw [h1]; rfl
          have HF : Hid (fmtTo l (i + 1) = fmtTo l i ++ ([] ++ (textB x).data.toList)) := by rw [hFs, if_neg (fun h => h.2.1 h1)]; exact rfl
          clear hFs h1 hi0
          go_wp2_with (first | (go_at_call 39; refine (writeString_c _ _ _ _ _ I1.out (by rw [bc_len]; have := HN.out; omega) hB1.size).mono ?_; rintro e w3 ⟨rfl, I3, hb3⟩; have hB3 := hB1.trans hb3) | (go_at_call 37; refine (HT.out _ _ _ ⟨b, A1, r1, c1, b', A2, r2, c2, rfl, Hv, hu1, hu2⟩).mono ?_; rintro e w1 ⟨rfl, hb1⟩; have hB1 := below_step hB0 hb1; have i1 := blk_below kx hb1; have I1 := Lib.hid (bld_below (bld_below HI.out (below_alloc (Below.refl _ wr) (tkObj x.k x.t (.bool b) (.slice A1 r1.length c1) (.bool b') (.slice A2 r2.length c2)))) hb1); have hz0 := blk_cell i1 0; have hz1 := blk_cell i1 1; have hz2 := blk_cell i1 2; have hz3 := blk_cell i1 3; have hz4 := blk_cell i1 4; have hz5 := blk_cell i1 5; have hzf0 := blk_frozen i1 0; have hzf1 := blk_frozen i1 1; have hzf2 := blk_frozen i1 2; have hzf3 := blk_frozen i1 3; have hzf4 := blk_frozen i1 4; have hzf5 := blk_frozen i1 5; have q0 := prevC (Kd.C_below (Kd.C_alloc hrW (tkObj x.k x.t (.bool b) (.slice A1 r1.length c1) (.bool b') (.slice A2 r2.length c2))) hb1) j HJl.out; rw [HY.out] at q0))
          go_roundg m
          case measure => omega
          case rel => exact ⟨i + 1, by first | exact congrArg (Value.int .i64) hw3 | exact congrArg (Value.int .i64) (Int.natCast_succ i).symm, by omega, by rw [HF.out, List.nil_append, Lib.byteCells_append, ← Lib.strCells_eq]; exact .inr I3, hB3⟩
        · have d1 : (y.k != 1) = true := bne_iff_ne.2 h1
          by_cases h2 : x.k = 2
          · have d2 : (x.k != 2) = false := by rw [h2]; rfl
            have HF : Hid (fmtTo l (i + 1) = fmtTo l i ++ ([] ++ (textB x).data.toList)) := by rw [hFs, if_neg (fun h => h.2.2 h2)]; exact rfl
            clear hFs h1 h2 hi0
            go_wp2_with (first | (go_at_call 39; refine (writeString_c _ _ _ _ _ I1.out (by rw [bc_len]; have := HN.out; omega) hB1.size).mono ?_; rintro e w3 ⟨rfl, I3, hb3⟩; have hB3 := hB1.trans hb3) | (go_at_call 37; refine (HT.out _ _ _ ⟨b, A1, r1, c1, b', A2, r2, c2, rfl, Hv, hu1, hu2⟩).mono ?_; rintro e w1 ⟨rfl, hb1⟩; have hB1 := below_step hB0 hb1; have i1 := blk_below kx hb1; have I1 := Lib.hid (bld_below (bld_below HI.out (below_alloc (Below.refl _ wr) (tkObj x.k x.t (.bool b) (.slice A1 r1.length c1) (.bool b') (.slice A2 r2.length c2)))) hb1); have hz0 := blk_cell i1 0; have hz1 := blk_cell i1 1; have hz2 := blk_cell i1 2; have hz3 := blk_cell i1 3; have hz4 := blk_cell i1 4; have hz5 := blk_cell i1 5; have hzf0 := blk_frozen i1 0; have hzf1 := blk_frozen i1 1; have hzf2 := blk_frozen i1 2; have hzf3 := blk_frozen i1 3; have hzf4 := blk_frozen i1 4; have hzf5 := blk_frozen i1 5; have q0 := prevC (Kd.C_below (Kd.C_alloc hrW (tkObj x.k x.t (.bool b) (.slice A1 r1.length c1) (.bool b') (.slice A2 r2.length c2))) hb1) j HJl.out; rw [HY.out] at q0))
            go_roundg m
            case measure => omega
            case rel => exact ⟨i + 1, by first | exact congrArg (Value.int .i64) hw3 | exact congrArg (Value.int .i64) (Int.natCast_succ i).symm, by omega, by rw [HF.out, List.nil_append, Lib.byteCells_append, ← Lib.strCells_eq]; exact .inr I3, hB3⟩
          · have d2 : (x.k != 2) = true := bne_iff_ne.2 h2
            have HF : Hid (fmtTo l (i + 1) = fmtTo l i ++ ([32] ++ (textB x).data.toList)) := by rw [hFs, if_pos ⟨by omega, h1, h2⟩]; exact rfl
            clear hFs h1 h2 hi0
            go_wp2_with (first | (go_at_call 39; refine (writeString_c _ _ _ _ _ (.inr I2) (by rw [List.length_append, bc_len, List.length_singleton]; have := HN.out; omega) hB2.size).mono ?_; rintro e w3 ⟨rfl, I3, hb3⟩; have hB3 := hB2.trans hb3) | (go_at_call 38; refine (writeByte_c _ _ _ _ _ I1.out (by rw [bc_len]; have := HN.out; omega) hB1.size).mono ?_; rintro e w2 ⟨rfl, I2, hb2⟩; have hB2 := hB1.trans hb2) | (go_at_call 37; refine (HT.out _ _ _ ⟨b, A1, r1, c1, b', A2, r2, c2, rfl, Hv, hu1, hu2⟩).mono ?_; rintro e w1 ⟨rfl, hb1⟩; have hB1 := below_step hB0 hb1; have i1 := blk_below kx hb1; have I1 := Lib.hid (bld_below (bld_below HI.out (below_alloc (Below.refl _ wr) (tkObj x.k x.t (.bool b) (.slice A1 r1.length c1) (.bool b') (.slice A2 r2.length c2)))) hb1); have hz0 := blk_cell i1 0; have hz1 := blk_cell i1 1; have hz2 := blk_cell i1 2; have hz3 := blk_cell i1 3; have hz4 := blk_cell i1 4; have hz5 := blk_cell i1 5; have hzf0 := blk_frozen i1 0; have hzf1 := blk_frozen i1 1; have hzf2 := blk_frozen i1 2; have hzf3 := blk_frozen i1 3; have hzf4 := blk_frozen i1 4; have hzf5 := blk_frozen i1 5; have q0 := prevC (Kd.C_below (Kd.C_alloc hrW (tkObj x.k x.t (.bool b) (.slice A1 r1.length c1) (.bool b') (.slice A2 r2.length c2))) hb1) j HJl.out; rw [HY.out] at q0))
            go_roundg m
            case measure => omega
            case rel => exact ⟨i + 1, by first | exact congrArg (Value.int .i64) hw3 | exact congrArg (Value.int .i64) (Int.natCast_succ i).symm, by omega, by rw [HF.out, Lib.byteCells_append, Lib.byteCells_append, ← Lib.strCells_eq, ← List.append_assoc]; exact .inr I3, hB3⟩
end Ar
end Go.Proofs.Ytnghcgmkncbnnaa
end
section
namespace Go.Proofs.Ytnghcgmkncbnnaa
open Go.RowKit Go.Proofs.YtnghcgmkncbnnaaW.PrintWords Go.Proofs.YtnghcgmkncbnnaaW.PrintLast Go.Proofs.YtnghcgmkncbnnaaW.PrintMore
namespace Ar
open Wd
def brk (l : List Tk) : List Tk := tkO :: (l ++ [tkC])
theorem uv_F {W : World} {ok : Nat → Prop} {A : Option Addr} {r : List Int} {c : Nat} (h : Uv W ok (.slice A r.length c) r) : r.length ≤ c ∧ Kd.F (Kd.int .u32) W ok A r.length r := by
  refine ⟨?_, Kd.V_F h⟩
  obtain ⟨A', c', hv, hl, _⟩ := h
  injection hv with _ _ h3
  omega
theorem tv_FK {W : World} {ok : Nat → Prop} {x : Tk} {b b' : Bool} {A A' : Option Addr} {r r' : List Int} {c c' : Nat} (H : Hid (b = decide (x.n < 0) ∧ r = digs x.n.natAbs ∧ b' = decide (x.d < 0) ∧ r' = digs x.d.natAbs)) (hu : Uv W ok (.slice A r.length c) r) (hu' : Uv W ok (.slice A' r'.length c') r') :
    Kd.FK kTk W ok (tkS x) [.int .u8 x.k, .string x.t, .bool b, .slice A r.length c, .bool b', .slice A' r'.length c'] := by
  obtain ⟨rfl, rfl, rfl, rfl⟩ := H.out
  exact E.k80_mkF W ok (tkS x) (uv_F hu).1 (uv_F hu).2 (uv_F hu').1 (uv_F hu').2
theorem add0 (g m : Nat) : (⟨g, 0, none⟩ : Addr).add m = ⟨g, m, none⟩ := by unfold Addr.add; split <;> simp_all
theorem lit2_V {W : World} {ok : Nat → Prop} {x y : Tk} {cx cy : List Value} (hx : Kd.FK kTk W ok (tkS x) cx) (hy : Kd.FK kTk W ok (tkS y) cy) (base : Nat) :
    Kd.V kTk 80 (W.alloc (.cells (cx ++ cy).toArray 80)) base (fun k => ok k ∨ k = W.heap.size) (.slice (some ⟨W.heap.size, 0, none⟩) 2 2) [tkS x, tkS y] := by
  have lx : cx.length = 6 := kTk.K_len (Kd.FK_now hx)
  have ly : cy.length = 6 := kTk.K_len (Kd.FK_now hy)
  have hx1 := Kd.FK_below hx (below_alloc (Below.refl _ W) (.cells (cx ++ cy).toArray 80))
  have hy1 := Kd.FK_below hy (below_alloc (Below.refl _ W) (.cells (cx ++ cy).toArray 80))
  refine Kd.V_mk (xs := [tkS x, tkS y]) (A := some ⟨W.heap.size, 0, none⟩) (Nat.le_refl 2) (fun W' hW => ⟨rfl, (by decide : 2 ≤ 9223372036854775807), fun _ => ⟨_, rfl, fun j p hp => ?_⟩⟩)
  have hb : W'.heap[W.heap.size]? = some (.cells (cx ++ cy).toArray 80 (0, 0)) := (hW _ (.inr rfl) (by rw [World.size_alloc]; omega)).trans (blk_new W _)
  match j, hp with
  | 0, hp =>
    obtain rfl : tkS x = p := by simpa using hp
    refine ⟨cx, lx, hx1 W' (fun k hk hl => hW k (.inl hk) hl), fun i u hu => ?_⟩
    rw [add0, blk_cell hb]
    have hi : i < cx.length := (List.getElem?_eq_some_iff.1 hu).1
    simp only [Nat.zero_mul, Nat.zero_add, List.getElem?_toArray]
    rw [List.getElem?_append_left hi, hu]
  | 1, hp =>
    obtain rfl : tkS y = p := by simpa using hp
    refine ⟨cy, ly, hy1 W' (fun k hk hl => hW k (.inl hk) hl), fun i u hu => ?_⟩
    rw [add0, blk_cell hb]
    have e : 1 * kTk.sz + i = cx.length + i := by rw [lx]; rfl
    rw [e]
    simp only [List.getElem?_toArray]
    rw [List.getElem?_append_right (by omega), Nat.add_sub_cancel_left, hu]
  | j + 2, hp => simp at hp
set_option maxRecDepth 100000 in
set_option maxHeartbeats 4000000 in
theorem num_c {w : World} (n : Int) (hn : -9223372036854775808 ≤ n ∧ n < 9223372036854775808) :
    Calls Try.prog 43 #[.int .i64 n] w fun e w' => ∃ v, e = .returned v ∧ TV w' (fun k => w.heap.size ≤ k) v (tkN n) ∧ Below w.heap.size w w' := by
  have hK := Try.underlying80
  have hb0 := below_alloc (Below.refl _ w) (.cells nilT 80)
  have k0 := blk_new w (.cells nilT 80)
  have HF := Lib.hid (QfromInt_c (w := w.alloc (.cells nilT 80)) n hn.1 hn.2)
  go_enter Try.func43, Try.ntmps43
  go_wp2_with (first | (go_at_call 60; refine HF.out.mono ?_; rintro e w1 ⟨v, rfl, hv, hb1⟩; obtain ⟨b, A, r, c, b', A', r', c', rfl, H, hu, hu'⟩ := hv; have hB1 := below_step hb0 hb1; have i1 := blk_below k0 hb1; have hz0 := blk_cell i1 0; have hz1 := blk_cell i1 1; have hz2 := blk_cell i1 2; have hz3 := blk_cell i1 3; have hz4 := blk_cell i1 4; have hz5 := blk_cell i1 5; have hzf0 := blk_frozen i1 0; have hzf1 := blk_frozen i1 1; have hzf2 := blk_frozen i1 2; have hzf3 := blk_frozen i1 3; have hzf4 := blk_frozen i1 4; have hzf5 := blk_frozen i1 5) | ((with_reducible refine gate_store (t := 80) (p := 2) rfl ?_); refine store_op rfl 80 _ _ rfl rfl w.heap.size #[.int .u8 4, .string ⟨#[]⟩, .bool b, .slice A r.length c, .bool b', .slice A' r'.length c'] nilT rfl rfl 80 i1 (by kernel_rfl) rfl (by simp [Value.oneCell']) ?_; intro w2 i2 hb2; have hB2 := But.below hB1 (Nat.le_refl _) hb2))
  refine bodyPost_ret (results_cell_row rfl _ _ w.heap.size 80 #[.int .u8 4, .string ⟨#[]⟩, .bool b, .slice A r.length c, .bool b', .slice A' r'.length c'] (0, 0) _ rfl i2 Try.underlying80 rfl (by kernel_rfl)) rfl ?_
  have hne : ∀ j, (w.alloc (.cells nilT 80)).heap.size ≤ j → j ≠ w.heap.size := fun j hj => by rw [World.size_alloc] at hj; omega
  exact ⟨_, rfl, ⟨b, A, r, c, b', A', r', c', rfl, H, (hu.but hb2 hne).mono (fun j hj => by rw [World.size_alloc] at hj; omega), (hu'.but hb2 hne).mono (fun j hj => by rw [World.size_alloc] at hj; omega)⟩, hB2⟩
theorem brk_f (l : List Tk) (hl : l.length < 1000000000) : E.bidtext_bracketed.f (l.map tkS) = some ((brk l).map tkS) := by
  unfold E.bidtext_bracketed.f brk
  simp only [Option.bind_some, List.length_map, List.length_cons, List.length_nil, List.length_append]
  rw [if_pos (by omega), if_pos (by omega)]
  simp only [List.map_cons, List.map_append, List.map_nil, List.cons_append, List.nil_append]
  rfl
theorem brk_c {w : World} {ok : Nat → Prop} (A : Option Addr) (c : Nat) (l : List Tk) (hs : Kd.V kTk 80 w w.heap.size ok (.slice A (l.map tkS).length c) (l.map tkS)) (hl : l.length < 1000000000) :
    Calls Try.prog 44 #[.slice A (l.map tkS).length c] w fun e w' => ∃ v, e = .returned v ∧ Kd.N kTk 80 w' w.heap.size (fun k => ok k ∨ w.heap.size ≤ k) v ((brk l).map tkS) ∧ Below w.heap.size w w' :=
  E.bidtext_bracketed.calls ok A c _ _ w hs (brk_f l hl)
end Ar
end Go.Proofs.Ytnghcgmkncbnnaa
end
section
namespace Go.Proofs.Ytnghcgmkncbnnaa
open Go.RowKit Go.Proofs.YtnghcgmkncbnnaaW.PrintWords Go.Proofs.YtnghcgmkncbnnaaW.PrintLast Go.Proofs.YtnghcgmkncbnnaaW.PrintMore
namespace Ar
open Wd
def stT (s : Stp) : List Tk := brk [tkN s.f0, tkN s.f1]
def showT (word : ByteArray) (ns : List Int) (ls : List Stp) : List Tk := brk (tkW word :: (ns.map tkN ++ ls.flatMap stT))
theorem rd_int {W : World} {A : Option Addr} {ns : List Int} (h : (Kd.int .i64).C W A ns.length ns) (i : Nat) (hi : i < ns.length) : ∃ ad, A = some ad ∧ W.cell? (ad.add i) = some (.int .i64 (ns.getD i 0)) := by
  obtain ⟨ad, c, e, hl, hK, hc⟩ := Kd.C_get h 0 (i : Int) (by omega) (by omega)
  rw [Int.toNat_natCast] at hc hK
  refine ⟨ad, e, ?_⟩
  obtain rfl : c = [.int .i64 (ns.getD i 0)] := hK
  have := hc 0 _ rfl
  simpa [show (Kd.int .i64).sz = 1 from rfl] using this
theorem take_snocI {α : Type} (l : List α) (i : Nat) (d : α) (h : i < l.length) : l.take (i + 1) = l.take i ++ [l.getD i d] := by
  rw [List.take_add_one, List.getElem?_eq_getElem h, List.getD_eq_getElem?_getD, List.getElem?_eq_getElem h]; rfl
theorem stT_len (s : Stp) : (stT s).length = 4 := rfl
theorem flat_len (ls : List Stp) : (ls.flatMap stT).length = 4 * ls.length := by
  induction ls with
  | nil => rfl
  | cons s ls ih => rw [List.flatMap_cons, List.length_append, ih, stT_len, List.length_cons]; omega
theorem brk_r {w : World} {ok : Nat → Prop} (A : Option Addr) (c : Nat) (l : List Tk) (hs : Kd.V kTk 80 w w.heap.size ok (.slice A (l.map tkS).length c) (l.map tkS)) (hl : l.length < 1000000000) :
    Calls Try.prog 44 #[.slice A (l.map tkS).length c] w fun e w' => ∃ (A' : Option Addr) (c' : Nat), e = .returned (.slice A' ((brk l).map tkS).length c') ∧ ((brk l).map tkS).length ≤ c' ∧ Kd.C kTk w' A' ((brk l).map tkS).length ((brk l).map tkS) ∧ Below w.heap.size w w' :=
  (brk_c A c l hs hl).mono fun e w' ⟨v, he, hN, hb⟩ => by
    obtain ⟨A', c', rfl, hc, hC⟩ := Kd.N_reads hN
    exact ⟨A', c', he, hc, hC, hb⟩
theorem fsz {W : World} {o : Obj} {k : Nat} (h : (W.alloc o).drew.heap.size ≤ k) : W.heap.size ≤ k := by
  have : (W.alloc o).drew.heap.size = W.heap.size + 1 := World.size_alloc W o
  omega
theorem below_lit {W W' : World} {o : Obj} (h : Below (W.alloc o).heap.size (W.alloc o) W') : Below W.heap.size W W' := below_step (below_alloc (Below.refl _ W) o) h
set_option maxRecDepth 100000 in
set_option maxHeartbeats 8000000 in
theorem show_c {w : World} (word : ByteArray) (ns : List Int) (ls : List Stp) (A1 A2 : Option Addr) (c1 c2 : Nat)
    (hr1 : Kd.C kStp w A1 ls.length ls) (hc1 : ls.length ≤ c1) (hr2 : (Kd.int .i64).C w A2 ns.length ns) (hc2 : ns.length ≤ c2)
    (hn : ∀ n ∈ ns, i64r n) (hs : ∀ s ∈ ls, i64r s.f0 ∧ i64r s.f1) (hl1 : ls.length < 1000000) (hl2 : ns.length < 1000000)
    (hok : ∀ x ∈ showT word ns ls, okTk x) (hlen : (fmtTo (showT word ns ls) (showT word ns ls).length).length ≤ 65536) :
    Calls Try.prog 24 #[.string word, .slice A1 ls.length c1, .slice A2 ns.length c2] w fun e w' => e = .returned (.tuple #[.string ⟨(fmtTo (showT word ns ls) (showT word ns ls).length).toArray⟩, .int .i64 0]) ∧ Below w.heap.size w w' := by
  have hK := Try.underlying80
  have hS := Try.underlying40
  have HFm := Lib.hid (fun (W : World) A c h hc => tokFormat_c (w := W) A c (showT word ns ls) h hc hok hlen (by unfold showT brk; simp only [List.length_cons, List.length_append, List.length_map, flat_len, List.length_nil]; omega))
  obtain ⟨R, hR⟩ : ∃ R : ByteArray, R = ⟨(fmtTo (showT word ns ls) (showT word ns ls).length).toArray⟩ := ⟨_, rfl⟩
  rw [← hR] at HFm ⊢
  clear hR hok hlen
  have HBk := Lib.hid (fun (W : World) (ok : Nat → Prop) (A : Option Addr) (c : Nat) h => brk_r (w := W) (ok := ok) A c (tkW word :: (ns.map tkN ++ ls.flatMap stT)) h (by simp only [List.length_cons, List.length_append, List.length_map, flat_len]; omega))
  obtain ⟨X, hX⟩ : ∃ X, (showT word ns ls).map tkS = X := ⟨_, rfl⟩
  obtain ⟨Y, hY⟩ : ∃ Y, (tkW word :: (ns.map tkN ++ ls.flatMap stT)).map tkS = Y := ⟨_, rfl⟩
  rw [hX] at HFm
  rw [hY, show (brk (tkW word :: (ns.map tkN ++ ls.flatMap stT))).map tkS = X from hX] at HBk
  have HY := Lib.hid hY
  clear hX hY
  have Hn := Lib.hid hn
  have Hs := Lib.hid hs
  clear hn hs
  go_enter Try.func24, Try.ntmps24
  go_wp2_with (first | ((with_reducible refine gate_dst (N := 15) rfl ?_); refine Kd.N_lit kTk (w0 := w) w.heap.size 80 rfl (N' := 15) rfl (xs := [tkS (tkW word)]) (inner := [.int .u8 3, .string word, .bool false, .slice none 0 0, .bool false, .slice none 0 0]) (ok := fun k => w.heap.size ≤ k) (okp := fun _ => False) ?hr (Reps.c6 (E.k80_mkF _ _ (tkS (tkW word)) (Nat.le_refl _) (Kd.F_nil _ _ _) (Nat.le_refl _) (Kd.F_nil _ _ _)) (Reps.none _ _)) (fun _ h => h.elim) (Nat.le_refl _) (Below.refl _ _) (Nat.le_refl _) (by simp) ?_; (case hr => first | (go_simp; done) | (go_simp; rfl)); intro v0 w0 hN0 hb0 _ _))
  go_loopg [8, 18] ns.length (fun k v8 v W => ∃ i : Nat, v = .int .i64 i ∧ i + k = ns.length ∧ Kd.N kTk 80 W w.heap.size (fun k => w.heap.size ≤ k) v8 ((tkW word :: (ns.take i).map tkN).map tkS) ∧ Below w.heap.size w W)
  case atStart => exact ⟨0, rfl, by omega, hN0, hb0⟩
  case round =>
    obtain ⟨i, rfl, hi, hN, hB⟩ := hrel
    cases gk with
    | zero =>
      obtain rfl : i = ns.length := by omega
      have hlb : decide ((ns.length : Int) < (ns.length : Int)) = false := decide_eq_false (by omega)
      rw [List.take_length] at hN
      go_wp2
      go_loopg [8, 30] ls.length (fun k v8 v W => ∃ i : Nat, v = .int .i64 i ∧ i + k = ls.length ∧ Kd.N kTk 80 W w.heap.size (fun k => w.heap.size ≤ k) v8 ((tkW word :: (ns.map tkN ++ (ls.take i).flatMap stT)).map tkS) ∧ Below w.heap.size w W)
      case atStart => exact ⟨0, rfl, by omega, by rw [List.take_zero, List.flatMap_nil, List.append_nil]; exact hN, hB⟩
      case round =>
        obtain ⟨i, rfl, hi, hN, hB⟩ := hrel
        cases gk with
        | zero =>
          obtain rfl : i = ls.length := by omega
          have hlb : decide ((ls.length : Int) < (ls.length : Int)) = false := decide_eq_false (by omega)
          rw [List.take_length, HY.out] at hN
          obtain ⟨A8, c8, rfl⟩ := Kd.N_slice hN
          go_wp2_with (first | (go_at_call 44; refine (HBk.out _ _ A8 c8 (Kd.N_V hN)).mono ?_; rintro e w1 ⟨A9, c9, rfl, hc9, hC9, hb1⟩; have hB1 := below_step hB hb1) | (go_at_call 21; refine (HFm.out _ A9 c9 hC9 hc9).mono ?_; rintro e w2 ⟨rfl, hb2⟩; have hB2 := below_step hB1 hb2))
          go_ret2
          exact ⟨rfl, hB2⟩
        | succ n =>
          have hlt : i < ls.length := by omega
          have hlb : decide ((i : Int) < (ls.length : Int)) = true := decide_eq_true (by omega)
          obtain ⟨ad, rfl, g0, g1⟩ := E.at_T40 (Kd.C_below hr1 hB) i (by omega) (by omega)
          obtain ⟨⟨x0, x1⟩, hx⟩ : ∃ x, rdS ls i = x := ⟨_, rfl⟩
          rw [show E.rd_T40 ls ((i : Nat) : Int) = ⟨x0, x1⟩ from hx] at g0 g1
          dsimp only at g0 g1
          rw [Int.toNat_natCast] at g0 g1
          have hxg : ls.getD i E.z40 = ⟨x0, x1⟩ := hx
          have hxr : i64r x0 ∧ i64r x1 := by
            have := Hs.out (ls.getD i E.z40) (by rw [List.getD_eq_getElem?_getD, List.getElem?_eq_getElem hlt]; exact List.getElem_mem hlt)
            rw [hxg] at this; exact this
          have hts := take_snocI ls i E.z40 hlt
          rw [hxg] at hts
          have HT := Lib.hid hts
          have HQ0 := Lib.hid (fun (W : World) => num_c (w := W) x0 hxr.1)
          have HQ1 := Lib.hid (fun (W : World) => num_c (w := W) x1 hxr.2)
          have hw3 : wrap64 ((i : Int) + 1) = ((i + 1 : Nat) : Int) := w64succ i (by omega)
          have hfl : (tkW word :: (ns.map tkN ++ (ls.take i).flatMap stT)).length ≤ 6000000 := by simp only [List.length_cons, List.length_append, List.length_map, flat_len, List.length_take]; omega
          have HL := Lib.hid hfl
          clear hx hxg hts hxr hfl
          have kx := blk_new wr (.cells #[.int .i64 x0, .int .i64 x1] 40)
          have hB1 := below_alloc hB (.cells #[.int .i64 x0, .int .i64 x1] 40)
          have hN1 := Kd.N_alloc hN (.cells #[.int .i64 x0, .int .i64 x1] 40)
          have hNl := Kd.N_lt hN
          have hk0 := blk_cell kx 0; have hk1 := blk_cell kx 1; have hkf0 := blk_frozen kx 0; have hkf1 := blk_frozen kx 1
          go_wp2_with fail
          first | go_region_held3 (fun w' => w'.cell? ⟨wr.heap.size, 0, none⟩ = some (.int .i64 x0) ∧ w'.cell? ⟨wr.heap.size, 1, none⟩ = some (.int .i64 x1)) (first | exact ⟨hk0, hk1⟩ | exact ⟨blk_cell ka 0, blk_cell ka 1⟩ | exact ⟨blk_cell kb 0, blk_cell kb 1⟩ | exact ⟨blk_cell (blk_alloc kb _) 0, blk_cell (blk_alloc kb _) 1⟩ | exact ⟨blk_cell kc 0, blk_cell kc 1⟩ | exact ⟨blk_cell kd 0, blk_cell kd 1⟩) (first | (go_at_call_of 43 (Value.int .i64 x0); refine (HQ0.out _).mono ?_; rintro e w1 ⟨v1, rfl, hv1, hb1⟩; obtain ⟨p1, B1, r1, d1, p1', B1', r1', d1', rfl, H1, hu1, hu1'⟩ := hv1; have hBa := below_step (below_drew hB1) hb1; have ka := blk_below (blk_drew kx) hb1; have hNa := Kd.N_below (Kd.N_drew hN1) hb1) | (go_at_call_of 43 (Value.int .i64 x1); refine (HQ1.out _).mono ?_; rintro e w2 ⟨v2, rfl, hv2, hb2⟩; obtain ⟨p2, B2, r2, d2, p2', B2', r2', d2', rfl, H2, hu2, hu2'⟩ := hv2; have hBb := below_step hBa hb2; have kb := blk_below ka hb2; have hNb := Kd.N_below hNa hb2; have hsa := hb1.size; have F1 := Kd.FK_mono (ok' := fun k => wr.heap.size ≤ k) (Kd.FK_below (tv_FK H1 hu1 hu1') hb2) (fun k hk => fsz hk); have F2 := Kd.FK_mono (ok' := fun k => wr.heap.size ≤ k) (tv_FK H2 hu2 hu2') (fun k hk => Nat.le_trans (fsz hsa) hk)) | (go_at_call 44; refine (brk_c (some ⟨w2.heap.size, 0, none⟩) 2 [tkN x0, tkN x1] (lit2_V F1 F2 _) (show 2 < 1000000000 by decide)).mono ?_; rintro e w3 ⟨v3, rfl, hN3, hb3⟩; have hb3' := below_lit hb3; have hBc := below_step hBb hb3'; have kc := blk_below kb hb3'; have hNc := Kd.N_below hNb hb3'; have hsb : wr.heap.size ≤ w2.heap.size := Nat.le_of_lt (blk_lt kb); obtain ⟨A3, c3, rfl⟩ := Kd.N_slice hN3) | (refine Kd.N_append_rows_step kTk (w0 := w3) w.heap.size (by rfl) (.tmp 34) (.tmp 42) 52 80 (.agg #[.int .u8 0, .string ⟨#[]⟩, .bool false, .slice none 0 0, .bool false, .slice none 0 0]) 88 rfl Try.underlying52 E.info80 rfl (by decide) (by decide) _ _ ((brk [tkN x0, tkN x1]).map tkS) A3 _ c3 (fun k => w.heap.size ≤ k) (fun k => wr.heap.size ≤ k) rfl rfl hNc (Kd.F_mono (Kd.N_F hN3) (fun k hk => by rw [World.size_alloc] at hk; omega)) (fun k hk => ⟨Nat.le_trans hB.size hk, fun he => absurd (hNl k he.symm) (by omega)⟩) (fun k hk => Nat.le_trans hBc.size hk) (Below.refl _ _) hBc.size (by rw [List.length_map]; have := HL.out; simp only [brk, List.length_map, List.length_cons, List.length_append, List.length_nil] at this ⊢; omega) ?_; intro v4 w4 hN4 hb4 hg4 _; have kd := blk_grown kc hg4 (fun he => absurd (hNl _ he.symm) (Nat.lt_irrefl _)))) | fail
          go_wp2
          go_roundg n
          case measure => omega
          case rel => exact ⟨i + 1, by first | exact congrArg (Value.int .i64) hw3 | exact congrArg (Value.int .i64) (Int.natCast_succ i).symm, by omega, by rw [HT.out, List.flatMap_append, ← List.append_assoc, ← List.cons_append, List.map_append]; exact hN4, hBc.trans hb4⟩
    | succ n =>
      have hlt : i < ns.length := by omega
      have hlb : decide ((i : Int) < (ns.length : Int)) = true := decide_eq_true (by omega)
      obtain ⟨ad, rfl, g0⟩ := rd_int (Kd.C_below hr2 hB) i hlt
      obtain ⟨x, hx⟩ : ∃ x, ns.getD i 0 = x := ⟨_, rfl⟩
      rw [hx] at g0
      have hxr : i64r x := by rw [← hx]; exact Hn.out _ (by rw [List.getD_eq_getElem?_getD, List.getElem?_eq_getElem hlt]; exact List.getElem_mem hlt)
      have hts := take_snocI ns i 0 hlt
      rw [hx] at hts
      have HT := Lib.hid hts
      have HQ := Lib.hid (num_c (w := wr) x hxr)
      have hw3 : wrap64 ((i : Int) + 1) = ((i + 1 : Nat) : Int) := w64succ i (by omega)
      clear hx hts hxr
      go_wp2_with (first | (go_at_call 43; refine HQ.out.mono ?_; rintro e w1 ⟨v, rfl, hv, hb1⟩; obtain ⟨b, A, r, c, b', A', r', c', rfl, H, hu, hu'⟩ := hv; have hB1 := below_step hB hb1; have hN1 := Kd.N_below hN hb1) | ((with_reducible refine gate_builtin (b := .append) (xs := #[.tmp 22, .tmp 25]) rfl ?_); at_builtin; refine Kd.N_append kTk (w0 := w1) w.heap.size rfl (.tmp 22) (.tmp 25) 52 80 (.agg #[.int .u8 0, .string ⟨#[]⟩, .bool false, .slice none 0 0, .bool false, .slice none 0 0]) 88 rfl Try.underlying52 E.info80 rfl (by decide) (by decide) _ _ (tkS (tkN x)) [.int .u8 4, .string ⟨#[]⟩, .bool b, .slice A r.length c, .bool b', .slice A' r'.length c'] (fun k => w.heap.size ≤ k) (fun k => wr.heap.size ≤ k) rfl rfl (tv_FK H hu hu') (fun k hk => ⟨Nat.le_trans hB.size hk, fun he => absurd (Kd.N_lt hN k he.symm) (by omega)⟩) (fun k hk => Nat.le_trans hB1.size hk) hN1 (Below.refl _ _) hB1.size (by simp only [List.length_map, List.length_cons, List.length_take]; omega) ?_; intro v2 w2 hN2 hb2 _ _))
      go_roundg n
      case measure => omega
      case rel => exact ⟨i + 1, by first | exact congrArg (Value.int .i64) hw3 | exact congrArg (Value.int .i64) (Int.natCast_succ i).symm, by omega, by rw [HT.out, List.map_append, ← List.cons_append, List.map_append]; exact hN2, hB1.trans hb2⟩
end Ar
end Go.Proofs.Ytnghcgmkncbnnaa
end
section
namespace Go.Proofs.Ytnghcgmkncbnnaa
open Go.RowKit Go.Proofs.YtnghcgmkncbnnaaW.PrintWords Go.Proofs.YtnghcgmkncbnnaaW.PrintLast Go.Proofs.YtnghcgmkncbnnaaW.PrintMore
namespace Ar
open Wd
def unNums (u : Un) : List Int := [u.bus, u.min, u.up, u.down, u.start, u.idle, u.spin, u.on]
def unText (u : Un) : ByteArray := ⟨(fmtTo (showT unitB (unNums u) u.steps) (showT unitB (unNums u) u.steps).length).toArray⟩
def biText (bus : Int) (l : List Stp) : ByteArray := ⟨(fmtTo (showT bidB [bus] l) (showT bidB [bus] l).length).toArray⟩
def showOk (word : ByteArray) (ns : List Int) (ls : List Stp) : Prop :=
  (∀ n ∈ ns, i64r n) ∧ (∀ s ∈ ls, i64r s.f0 ∧ i64r s.f1) ∧ (∀ x ∈ showT word ns ls, okTk x) ∧ (fmtTo (showT word ns ls) (showT word ns ls).length).length ≤ 65536
theorem litI_C {W : World} (ns : List Int) (hl : ns.length ≤ 9223372036854775807) : (Kd.int .i64).C (W.alloc (.cells (ns.map (Value.int .i64)).toArray 2)) (some ⟨W.heap.size, 0, none⟩) ns.length ns := by
  refine ⟨rfl, hl, fun _ => ⟨_, rfl, fun j p hp => ⟨[.int .i64 p], rfl, rfl, fun i u hu => ?_⟩⟩⟩
  match i, hu with
  | 0, hu =>
    obtain rfl : Value.int .i64 p = u := by simpa using hu
    rw [add0, blk_cell (blk_new W _), show (Kd.int .i64).sz = 1 from rfl]
    simp [hp]
  | i + 1, hu => simp at hu
set_option maxRecDepth 100000 in
set_option maxHeartbeats 8000000 in
theorem FormatBid_c {w : World} (bus : Int) (l : List Stp) (A : Option Addr) (c : Nat) (hr : Kd.C kStp w A l.length l) (hc : l.length ≤ c) (hlen : l.length < 1000000) (hok : checkB bus l = 0 → showOk bidB [bus] l) :
    Calls Try.prog 13 #[.agg (biC bus (.slice A l.length c))] w fun e w' => e = .returned (.tuple #[.string (if checkB bus l = 0 then biText bus l else ⟨#[]⟩), .int .i64 (checkB bus l)]) ∧ Below w.heap.size w w' := by
  have hU := Try.underlying33
  have hb0 := below_alloc (Below.refl _ w) (.cells #[.int .i64 bus, .slice A l.length c] 33)
  have k0 := blk_new w (.cells #[.int .i64 bus, .slice A l.length c] 33)
  have HW := Lib.hid (wrong_c (w := w.alloc (.cells #[.int .i64 bus, .slice A l.length c] 33)) bus l A c (Kd.C_alloc hr _) hc)
  have HR := Lib.hid (fun (W : World) (h : Below w.heap.size w W) => (Kd.C_below hr h : Kd.C kStp W A l.length l))
  have HS := Lib.hid (fun (h0 : checkB bus l = 0) (W : World) A1 A2 c1 c2 h1 h2 h3 h4 => show_c (w := W) bidB [bus] l A1 A2 c1 c2 h1 h2 h3 h4 (hok h0).1 (hok h0).2.1 hlen (show 1 < 1000000 by decide) (hok h0).2.2.1 (hok h0).2.2.2)
  obtain ⟨R, hR⟩ : ∃ R : ByteArray, (⟨(fmtTo (showT bidB [bus] l) (showT bidB [bus] l).length).toArray⟩ : ByteArray) = R := ⟨_, rfl⟩
  unfold biText
  rw [hR] at HS ⊢
  clear hR hok hr
  generalize checkB bus l = F at HW HS ⊢
  have hk0 := blk_cell k0 0; have hk1 := blk_cell k0 1; have hkf0 := blk_frozen k0 0; have hkf1 := blk_frozen k0 1
  by_cases h : F = 0
  · subst h
    have HS' := Lib.hid (HS.out rfl)
    rw [if_pos rfl]
    clear HS
    go_enter Try.func13, Try.ntmps13
    go_wp2_with (first | (go_at_call 25; refine HW.out.mono ?_; rintro e w1 ⟨rfl, hb1⟩; have hB1 := below_step hb0 hb1; have i1 := blk_below k0 hb1; have hj0 := blk_cell i1 0; have hj1 := blk_cell i1 1; have hjf0 := blk_frozen i1 0; have hjf1 := blk_frozen i1 1) | (go_at_call 24; refine (HS'.out _ A (some ⟨w1.heap.size, 0, none⟩) c 1 (HR.out _ (below_alloc hB1 (.cells #[.int .i64 bus] 2))) hc (litI_C [bus] (show 1 ≤ 9223372036854775807 by decide)) (Nat.le_refl 1)).mono ?_; rintro e w2 ⟨rfl, hb2⟩; have hB2 := below_step (below_alloc hB1 (.cells #[.int .i64 bus] 2)) hb2))
    go_ret2
    exact ⟨rfl, hB2⟩
  · rw [if_neg h]
    have hb : (F != 0) = true := bne_iff_ne.2 h
    clear h HS
    go_enter Try.func13, Try.ntmps13
    go_wp2_with (first | (go_at_call 25; refine HW.out.mono ?_; rintro e w1 ⟨rfl, hb1⟩; have hB1 := below_step hb0 hb1; have i1 := blk_below k0 hb1))
    go_ret2
    exact ⟨rfl, hB1⟩
set_option maxRecDepth 100000 in
set_option maxHeartbeats 8000000 in
theorem FormatUnit_c {w : World} (u : Un) (A : Option Addr) (c : Nat) (hr : Kd.C kStp w A u.steps.length u.steps) (hc : u.steps.length ≤ c) (hlen : u.steps.length < 1000000) (hok : checkU u = 0 → showOk unitB (unNums u) u.steps) :
    Calls Try.prog 12 #[.agg (unC u (.slice A u.steps.length c))] w fun e w' => e = .returned (.tuple #[.string (if checkU u = 0 then unText u else ⟨#[]⟩), .int .i64 (checkU u)]) ∧ Below w.heap.size w w' := by
  have hU := Try.underlying30
  have HW := Lib.hid (fun (W : World) (h : Below w.heap.size w W) => Check_c (w := W) u A c (Kd.C_below hr h) hc (by omega))
  have HR := Lib.hid (fun (W : World) (h : Below w.heap.size w W) => (Kd.C_below hr h : Kd.C kStp W A u.steps.length u.steps))
  have HS := Lib.hid (fun (h0 : checkU u = 0) (W : World) A1 A2 c1 c2 h1 h2 h3 h4 => show_c (w := W) unitB (unNums u) u.steps A1 A2 c1 c2 h1 h2 h3 h4 (hok h0).1 (hok h0).2.1 hlen (show 8 < 1000000 by decide) (hok h0).2.2.1 (hok h0).2.2.2)
  obtain ⟨R, hR⟩ : ∃ R : ByteArray, (⟨(fmtTo (showT unitB (unNums u) u.steps) (showT unitB (unNums u) u.steps).length).toArray⟩ : ByteArray) = R := ⟨_, rfl⟩
  unfold unText
  rw [hR] at HS ⊢
  clear hR hok hr
  generalize checkU u = F at HW HS ⊢
  obtain ⟨bus, mi, l, up, dn, st, idl, sp, on⟩ := u
  dsimp only [unC, unNums] at hc hlen HW HR HS ⊢
  have hb0 := below_alloc (Below.refl _ w) (.cells #[.int .i64 bus, .int .i64 mi, .slice A l.length c, .int .i64 up, .int .i64 dn, .int .i64 st, .int .i64 idl, .int .i64 sp, .int .i64 on] 30)
  have k0 := blk_new w (.cells #[.int .i64 bus, .int .i64 mi, .slice A l.length c, .int .i64 up, .int .i64 dn, .int .i64 st, .int .i64 idl, .int .i64 sp, .int .i64 on] 30)
  have hk0 := blk_cell k0 0; have hk1 := blk_cell k0 1; have hk2 := blk_cell k0 2; have hk3 := blk_cell k0 3; have hk4 := blk_cell k0 4; have hk5 := blk_cell k0 5; have hk6 := blk_cell k0 6; have hk7 := blk_cell k0 7; have hk8 := blk_cell k0 8; have hkf0 := blk_frozen k0 0; have hkf1 := blk_frozen k0 1; have hkf2 := blk_frozen k0 2; have hkf3 := blk_frozen k0 3; have hkf4 := blk_frozen k0 4; have hkf5 := blk_frozen k0 5; have hkf6 := blk_frozen k0 6; have hkf7 := blk_frozen k0 7; have hkf8 := blk_frozen k0 8
  by_cases h : F = 0
  · subst h
    have HS' := Lib.hid (HS.out rfl)
    rw [if_pos rfl]
    clear HS
    go_enter Try.func12, Try.ntmps12
    go_wp2_with (first | (go_at_call 16; refine (HW.out _ hb0).mono ?_; rintro e w1 ⟨rfl, hb1⟩; have hB1 := below_step hb0 hb1; have i1 := blk_below k0 hb1; have hj0 := blk_cell i1 0; have hj1 := blk_cell i1 1; have hj2 := blk_cell i1 2; have hj3 := blk_cell i1 3; have hj4 := blk_cell i1 4; have hj5 := blk_cell i1 5; have hj6 := blk_cell i1 6; have hj7 := blk_cell i1 7; have hj8 := blk_cell i1 8; have hjf0 := blk_frozen i1 0; have hjf1 := blk_frozen i1 1; have hjf2 := blk_frozen i1 2; have hjf3 := blk_frozen i1 3; have hjf4 := blk_frozen i1 4; have hjf5 := blk_frozen i1 5; have hjf6 := blk_frozen i1 6; have hjf7 := blk_frozen i1 7; have hjf8 := blk_frozen i1 8) | (go_at_call 24; refine (HS'.out _ A (some ⟨w1.heap.size, 0, none⟩) c 8 (HR.out _ (below_alloc hB1 (.cells #[.int .i64 bus, .int .i64 mi, .int .i64 up, .int .i64 dn, .int .i64 st, .int .i64 idl, .int .i64 sp, .int .i64 on] 2))) hc (litI_C [bus, mi, up, dn, st, idl, sp, on] (show 8 ≤ 9223372036854775807 by decide)) (Nat.le_refl 8)).mono ?_; rintro e w2 ⟨rfl, hb2⟩; have hB2 := below_step (below_alloc hB1 (.cells #[.int .i64 bus, .int .i64 mi, .int .i64 up, .int .i64 dn, .int .i64 st, .int .i64 idl, .int .i64 sp, .int .i64 on] 2)) hb2))
    go_ret2
    exact ⟨rfl, hB2⟩
  · rw [if_neg h]
    have hb : (F != 0) = true := bne_iff_ne.2 h
    clear h HS
    go_enter Try.func12, Try.ntmps12
    go_wp2_with (first | (go_at_call 16; refine (HW.out _ hb0).mono ?_; rintro e w1 ⟨rfl, hb1⟩; have hB1 := below_step hb0 hb1; have i1 := blk_below k0 hb1))
    go_ret2
    exact ⟨rfl, hB1⟩
end Ar
end Go.Proofs.Ytnghcgmkncbnnaa
end
section
namespace Go.Proofs.Ytnghcgmkncbnnaa
open Go.RowKit Go.Proofs.YtnghcgmkncbnnaaW.PrintWords Go.Proofs.YtnghcgmkncbnnaaW.PrintLast Go.Proofs.YtnghcgmkncbnnaaW.PrintMore
namespace Ar
open Wd
theorem good_step {x : Stp} (h : badStep x = false) : 1 ≤ x.f0 ∧ x.f0 ≤ 1000000 ∧ -1000000 ≤ x.f1 ∧ x.f1 ≤ 1000000 := by
  refine ⟨?_, ?_, ?_, ?_⟩
  · by_cases h1 : x.f0 < 1
    · rw [bad_of1 h1] at h; cases h
    · omega
  · by_cases h1 : 1000000 < x.f0
    · rw [bad_of2 h1] at h; cases h
    · omega
  · by_cases h1 : x.f1 < -1000000
    · rw [bad_of3 h1] at h; cases h
    · omega
  · by_cases h1 : 1000000 < x.f1
    · rw [bad_of4 h1] at h; cases h
    · omega
theorem curW_good {after : Int → Int → Bool} {l : List Stp} : ∀ (n i : Nat), curW after l n i = 0 → ∀ j, i ≤ j → j < i + n → badStep (rdS l j) = false
  | 0, i, _, j, h1, h2 => by omega
  | n + 1, i, h, j, h1, h2 => by
    unfold curW at h
    cases hb : badStep (rdS l i) with
    | true => rw [if_pos hb] at h; cases h
    | false =>
      rw [if_neg (by rw [hb]; decide)] at h
      split at h
      · cases h
      · by_cases hj : j = i
        · rw [hj]; exact hb
        · exact curW_good n (i + 1) h j (by omega) (by omega)
theorem curS_len {after : Int → Int → Bool} {l : List Stp} (h : curS after l = 0) : l.length ≤ 3 ∧ 0 < l.length := by
  unfold curS at h
  split at h
  · cases h
  · split at h
    · cases h
    · omega
theorem curS_good {after : Int → Int → Bool} {l : List Stp} (h : curS after l = 0) : ∀ j, j < l.length → badStep (rdS l j) = false := by
  have hl := curS_len h
  unfold curS at h
  rw [if_neg (by omega), if_neg (by omega)] at h
  exact fun j hj => curW_good l.length 0 h j (Nat.zero_le _) (by omega)
theorem rdS_mem {l : List Stp} {s : Stp} (h : s ∈ l) : ∃ j, j < l.length ∧ rdS l j = s := by
  obtain ⟨j, hj, rfl⟩ := List.mem_iff_getElem.1 h
  refine ⟨j, hj, ?_⟩
  unfold rdS E.rd_T40
  rw [Int.toNat_natCast, List.getD_eq_getElem?_getD, List.getElem?_eq_getElem hj]; rfl
theorem curS_mem {after : Int → Int → Bool} {l : List Stp} (h : curS after l = 0) {s : Stp} (hs : s ∈ l) : 1 ≤ s.f0 ∧ s.f0 ≤ 1000000 ∧ -1000000 ≤ s.f1 ∧ s.f1 ≤ 1000000 := by
  obtain ⟨j, hj, rfl⟩ := rdS_mem hs
  exact good_step (curS_good h j hj)
theorem sumF_le {l : List Stp} (h : ∀ j, j < l.length → badStep (rdS l j) = false) : ∀ (n i : Nat) (acc : Int), i + n = l.length → 0 ≤ acc → acc + n * 1000000 < 4611686018427387904 → sumF l n i acc ≤ acc + n * 1000000
  | 0, i, acc, hi, h0, h1 => by simp [sumF]
  | n + 1, i, acc, hi, h0, h1 => by
    obtain ⟨g1, g2, _, _⟩ := good_step (h i (by omega))
    unfold sumF
    have h2 : acc + (rdS l i).f0 + n * 1000000 < 4611686018427387904 := by omega
    rw [w64in _ (by omega) (by omega)]
    refine Int.le_trans (sumF_le h n (i + 1) _ (by omega) (by omega) h2) ?_
    omega
theorem maxS_le {l : List Stp} (h : curS rise l = 0) : maxS l ≤ 3000000 := by
  have hl := curS_len h
  unfold maxS; rw [if_pos h]
  unfold sumS
  split
  · refine Int.le_trans (sumF_le (curS_good h) l.length 0 0 (by omega) (Int.le_refl 0) (by omega)) (by omega)
  · decide
theorem inR_le {n a b : Int} (h : inR n a b = true) : a ≤ n ∧ n ≤ b := by
  unfold inR at h
  rw [Bool.and_eq_true, decide_eq_true_iff, decide_eq_true_iff] at h
  exact h
def Tn (n : Int) : Prop := -1000000000000 ≤ n ∧ n ≤ 1000000000000
theorem tn_i64 {n : Int} (h : Tn n) : i64r n := by unfold Tn at h; unfold i64r; omega
theorem tn_of {n a b : Int} (h : inR n a b = true) (ha : -1000000000000 ≤ a) (hb : b ≤ 1000000000000) : Tn n := by
  have := inR_le h; unfold Tn; omega
theorem tn_steps {after : Int → Int → Bool} {l : List Stp} (h : curS after l = 0) : ∀ s ∈ l, Tn s.f0 ∧ Tn s.f1 := fun s hs => by
  have := curS_mem h hs; unfold Tn; omega
theorem checkU_ok {u : Un} (h : checkU u = 0) : (∀ n ∈ unNums u, Tn n) ∧ (∀ s ∈ u.steps, Tn s.f0 ∧ Tn s.f1) ∧ u.steps.length ≤ 3 := by
  unfold checkU at h
  cases h0 : inR u.bus 0 5 with
  | false => rw [if_pos h0] at h; cases h
  | true =>
    rw [if_neg (by rw [h0]; decide)] at h
    by_cases h1 : curS rise u.steps = 0
    · rw [if_neg (by rw [h1]; simp)] at h
      split at h
      · rename_i hb
        simp only [Bool.and_eq_true] at hb
        obtain ⟨⟨⟨m1, m2⟩, ⟨⟨m3, m4⟩, m5⟩, _⟩, m6, m7⟩ := hb
        have hm := maxS_le h1
        refine ⟨fun n hn => ?_, tn_steps h1, (curS_len h1).1⟩
        unfold unNums at hn
        simp only [List.mem_cons, List.not_mem_nil, or_false] at hn
        rcases hn with rfl | rfl | rfl | rfl | rfl | rfl | rfl | rfl
        · exact tn_of h0 (by decide) (by decide)
        · exact tn_of m1 (by decide) (by omega)
        · exact tn_of m3 (by decide) (by decide)
        · exact tn_of m4 (by decide) (by decide)
        · exact tn_of m6 (by decide) (by decide)
        · exact tn_of m7 (by decide) (by decide)
        · exact tn_of m2 (by decide) (by decide)
        · exact tn_of m5 (by decide) (by decide)
      · cases h
    · rw [if_pos h1] at h; exact absurd h h1
theorem checkB_ok {bus : Int} {l : List Stp} (h : checkB bus l = 0) : Tn bus ∧ (∀ s ∈ l, Tn s.f0 ∧ Tn s.f1) ∧ l.length ≤ 3 := by
  unfold checkB at h
  split at h
  · cases h
  · rename_i hb
    refine ⟨?_, tn_steps h, (curS_len h).1⟩
    unfold Tn; omega
def goT (p : Int) : List Tk → List UInt8
  | [] => []
  | x :: l => (if p ≠ 1 ∧ x.k ≠ 2 then [32] else []) ++ ((textB x).data.toList ++ goT x.k l)
def lastK (p : Int) : List Tk → Int
  | [] => p
  | x :: l => lastK x.k l
theorem goT_app : ∀ (a b : List Tk) (p : Int), goT p (a ++ b) = goT p a ++ goT (lastK p a) b
  | [], b, p => rfl
  | x :: a, b, p => by rw [List.cons_append, goT, goT, lastK, goT_app a b]; simp
theorem lastK_snoc : ∀ (a : List Tk) (x : Tk) (p : Int), lastK p (a ++ [x]) = x.k
  | [], x, p => rfl
  | y :: a, x, p => by rw [List.cons_append, lastK, lastK_snoc a x]
theorem take_snocT (l : List Tk) (i : Nat) (h : i < l.length) : l.take (i + 1) = l.take i ++ [rdK l i] := take_snocI l i noTk h
theorem fmtTo_go (l : List Tk) : ∀ i, i ≤ l.length → fmtTo l i = goT 1 (l.take i)
  | 0, _ => rfl
  | i + 1, h => by
    rw [fmtTo, fmtTo_go l i (by omega), take_snocT l i (by omega), goT_app, goT, goT, List.append_nil]
    congr 2
    cases i with
    | zero => rw [if_neg (by omega), if_neg (by simp [lastK])]
    | succ i =>
      have e : lastK 1 (l.take (i + 1)) = (rdK l i).k := by rw [take_snocT l i (by omega), lastK_snoc]
      rw [e, Nat.add_sub_cancel]
      by_cases hc : (rdK l i).k ≠ 1 ∧ (rdK l (i + 1)).k ≠ 2
      · rw [if_pos ⟨by omega, hc⟩, if_pos hc]
      · rw [if_neg (fun g => hc g.2), if_neg hc]
theorem fmtTo_all (l : List Tk) : fmtTo l l.length = goT 1 l := by rw [fmtTo_go l l.length (Nat.le_refl _), List.take_length]
def nT (n : Int) : List UInt8 := 32 :: (decB n).data.toList
def sT (s : Stp) : List UInt8 := 32 :: 40 :: (decB s.f0).data.toList ++ nT s.f1 ++ [41]
theorem goT_nums : ∀ (ns : List Int) (X : List Tk) (p : Int), p ≠ 1 → ∃ q, q ≠ 1 ∧ goT p (ns.map tkN ++ X) = ns.flatMap nT ++ goT q X
  | [], X, p, h => ⟨p, h, rfl⟩
  | n :: ns, X, p, h => by
    obtain ⟨q, hq, e⟩ := goT_nums ns X 4 (by decide)
    refine ⟨q, hq, ?_⟩
    rw [List.map_cons, List.cons_append, goT, show (tkN n).k = 4 from rfl, if_pos ⟨h, by decide⟩, e, List.flatMap_cons]
    rw [show textB (tkN n) = decB n from rfl]
    simp [nT]
theorem goT_steps : ∀ (ls : List Stp) (X : List Tk) (p : Int), p ≠ 1 → ∃ q, q ≠ 1 ∧ goT p (ls.flatMap stT ++ X) = ls.flatMap sT ++ goT q X
  | [], X, p, h => ⟨p, h, rfl⟩
  | s :: ls, X, p, h => by
    obtain ⟨q, hq, e⟩ := goT_steps ls X 2 (by decide)
    refine ⟨q, hq, ?_⟩
    rw [List.flatMap_cons, List.flatMap_cons, List.append_assoc]
    rw [show stT s = [tkO, tkN s.f0, tkN s.f1, tkC] from rfl, List.cons_append, List.cons_append, List.cons_append, List.cons_append, List.nil_append, goT, goT, goT, goT]
    rw [show tkO.k = 1 from rfl, show (tkN s.f0).k = 4 from rfl, show (tkN s.f1).k = 4 from rfl, show tkC.k = 2 from rfl, e]
    rw [if_pos ⟨h, by decide⟩, if_neg (by decide), if_pos (by decide), if_neg (by decide)]
    rw [show textB (tkN s.f0) = decB s.f0 from rfl, show textB (tkN s.f1) = decB s.f1 from rfl, show (textB tkO).data.toList = [40] from rfl, show (textB tkC).data.toList = [41] from rfl]
    simp [sT, nT]
theorem show_text (word : ByteArray) (ns : List Int) (ls : List Stp) : fmtTo (showT word ns ls) (showT word ns ls).length = 40 :: word.data.toList ++ (ns.flatMap nT ++ (ls.flatMap sT ++ [41])) := by
  rw [fmtTo_all]
  unfold showT brk
  rw [List.cons_append, List.append_assoc, goT, goT]
  rw [if_neg (by decide), show tkO.k = 1 from rfl, show (tkW word).k = 3 from rfl, if_neg (by decide)]
  obtain ⟨q, hq, e⟩ := goT_nums ns (ls.flatMap stT ++ [tkC]) 3 (by decide)
  obtain ⟨q', hq', e'⟩ := goT_steps ls [tkC] q hq
  rw [e, e', goT, goT, show tkC.k = 2 from rfl, if_neg (by simp)]
  rw [show (textB tkO).data.toList = [40] from rfl, show (textB tkC).data.toList = [41] from rfl, show textB (tkW word) = word from rfl]
  simp
theorem flat_le {α : Type} {f : α → List UInt8} {m : Nat} (hf : ∀ x, (f x).length ≤ m) : ∀ l : List α, (l.flatMap f).length ≤ m * l.length
  | [] => by simp
  | x :: l => by
    rw [List.flatMap_cons, List.length_append, List.length_cons, Nat.mul_add]
    have := flat_le hf l; have := hf x; omega
theorem nT_len (n : Int) : (nT n).length ≤ 41 := by
  have h := decB_len n
  unfold nT; rw [List.length_cons, Array.length_toList]
  exact Nat.succ_le_succ h
theorem sT_len (s : Stp) : (sT s).length ≤ 84 := by
  have h := decB_len s.f0
  have h2 := nT_len s.f1
  unfold sT
  rw [List.length_append, List.length_append, List.length_cons, List.length_cons, Array.length_toList, List.length_singleton]
  have h3 : (decB s.f0).data.size ≤ 40 := h
  omega
theorem ok_W (word : ByteArray) (hw : ¬ word.size = 0) (hw2 : word.size < 1048576) (hk : sk word isLet 0 = word.size) : okTk (tkW word) := .inr (.inr (.inl ⟨rfl, hw, hw2, hk⟩))
theorem ok_N {n : Int} (h : Tn n) : okTk (tkN n) := .inr (.inr (.inr ⟨rfl, rfl, by have h1 : (tkN n).n = n := rfl; rw [h1]; unfold Tn at h; omega⟩))
theorem show_ok (word : ByteArray) (ns : List Int) (ls : List Stp) (hw : okTk (tkW word)) (hw2 : word.size ≤ 100) (hn : ∀ n ∈ ns, Tn n) (hs : ∀ s ∈ ls, Tn s.f0 ∧ Tn s.f1) (hl : ls.length ≤ 3) (hl2 : ns.length ≤ 8) : showOk word ns ls := by
  refine ⟨fun n h => tn_i64 (hn n h), fun s h => ⟨tn_i64 (hs s h).1, tn_i64 (hs s h).2⟩, fun x hx => ?_, ?_⟩
  · unfold showT brk at hx
    simp only [List.mem_cons, List.mem_append, List.mem_map, List.mem_flatMap, List.not_mem_nil, or_false] at hx
    rcases hx with rfl | (rfl | ⟨n, hn', rfl⟩ | ⟨s, hs', hx⟩) | rfl
    · exact .inl rfl
    · exact hw
    · exact ok_N (hn n hn')
    · rw [show stT s = [tkO, tkN s.f0, tkN s.f1, tkC] from rfl] at hx
      simp only [List.mem_cons, List.not_mem_nil, or_false] at hx
      rcases hx with rfl | rfl | rfl | rfl
      · exact .inl rfl
      · exact ok_N (hs s hs').1
      · exact ok_N (hs s hs').2
      · exact .inr (.inl rfl)
    · exact .inr (.inl rfl)
  · rw [show_text]
    have h1 := flat_le nT_len ns
    have h2 := flat_le sT_len ls
    have h3 : word.data.toList.length ≤ 100 := by rw [Array.length_toList]; exact hw2
    simp only [List.length_append, List.length_cons, List.length_nil]
    omega
theorem unit_W : okTk (tkW unitB) := ok_W _ (by decide) (by decide) (by rfl)
theorem bid_W : okTk (tkW bidB) := ok_W _ (by decide) (by decide) (by rfl)
theorem showU_ok {u : Un} (h : checkU u = 0) : showOk unitB (unNums u) u.steps := by
  obtain ⟨h1, h2, h3⟩ := checkU_ok h
  exact show_ok _ _ _ unit_W (by decide) h1 h2 h3 (Nat.le_refl 8)
theorem showB_ok {bus : Int} {l : List Stp} (h : checkB bus l = 0) : showOk bidB [bus] l := by
  obtain ⟨h1, h2, h3⟩ := checkB_ok h
  exact show_ok _ _ _ bid_W (by decide) (fun n hn => by rw [List.mem_singleton.1 hn]; exact h1) h2 h3 (show 1 ≤ 8 by decide)
end Ar
end Go.Proofs.Ytnghcgmkncbnnaa
end
section
namespace Go.Proofs.Ytnghcgmkncbnnaa
open Go.RowKit Go.Proofs.YtnghcgmkncbnnaaW.PrintWords Go.Proofs.YtnghcgmkncbnnaaW.PrintLast Go.Proofs.YtnghcgmkncbnnaaW.PrintMore
namespace Ar
open Wd
theorem same_l0 (l : List Stp) (hl : l.length < 1000000) : ∀ (n i k : Nat), i + n = l.length → n < k → E.pylonref23_Same.l0 k l l (i : Int) = some true
  | n, i, 0, h, hk => by omega
  | 0, i, k + 1, h, hk => by
    unfold E.pylonref23_Same.l0
    rw [if_neg (by omega)]
  | n + 1, i, k + 1, h, hk => by
    unfold E.pylonref23_Same.l0
    have hw : wrap64 ((i : Int) + 1) = ((i + 1 : Nat) : Int) := by rw [w64succ _ (by omega)]
    have ih := same_l0 l hl n (i + 1) k (by omega) (by omega)
    rw [if_pos (by omega)]
    simp only [hw, ih]
    simp
    try omega
theorem same_f (l : List Stp) (hl : l.length < 1000000) : E.pylonref23_Same.f (l.length + 1) l l = some true := by
  unfold E.pylonref23_Same.f
  have := same_l0 l hl l.length 0 (l.length + 1) (by omega) (by omega)
  rw [if_pos rfl]; exact this
theorem same23_c {w : World} (A A' : Option Addr) (c c' : Nat) (l : List Stp) (h : Kd.C kStp w A l.length l) (hc : l.length ≤ c) (h' : Kd.C kStp w A' l.length l) (hc' : l.length ≤ c') (hl : l.length < 1000000) :
    Calls Try.prog 42 #[.slice A l.length c, .slice A' l.length c'] w fun e w' => e = .returned (.bool true) ∧ Drawn0 w w' :=
  E.pylonref23_Same.calls _ A c l A' c' l true w h hc h' hc' (same_f l hl)
theorem sameBid_c {w : World} (bus : Int) (A A' : Option Addr) (c c' : Nat) (l : List Stp) (h : Kd.C kStp w A l.length l) (hc : l.length ≤ c) (h' : Kd.C kStp w A' l.length l) (hc' : l.length ≤ c') (hl : l.length < 1000000) :
    Calls Try.prog 23 #[.agg (biC bus (.slice A l.length c)), .agg (biC bus (.slice A' l.length c'))] w fun e w' => e = .returned (.bool true) ∧ Below w.heap.size w w' :=
  E.pylonref31_SameBid.calls (l.length + 1) bus A c l bus A' c' l true w h hc h' hc' (by unfold E.pylonref31_SameBid.f; rw [if_pos rfl, same_f l hl]; rfl)
def exU : Un := ⟨0, 2, [⟨5, 1⟩, ⟨4, 3⟩], 2, 2, 5, 3, 0, -1⟩
def exL : List Stp := [⟨4, 1000000⟩, ⟨4, 2⟩]
theorem ex_c {w : World} : Calls Try.prog 14 #[] w fun e w' => ∃ (A : Option Addr) (c : Nat), exU.steps.length ≤ c ∧ e = .returned (.agg (unC exU (.slice A exU.steps.length c))) ∧ Kd.C kStp w' A exU.steps.length exU.steps ∧ Below w.heap.size w w' :=
  (E.pylonlaw31_ex.calls _ _ _ _ _ _ _ _ _ w rfl).mono fun e w' ⟨v, he, hR, hb⟩ => by
    obtain ⟨A, c, rfl, hc, hC⟩ := Kd.R_reads hR
    exact ⟨A, c, hc, he, hC, hb⟩
theorem exBid_c {w : World} : Calls Try.prog 11 #[] w fun e w' => ∃ (A : Option Addr) (c : Nat), exL.length ≤ c ∧ e = .returned (.agg (biC 1 (.slice A exL.length c))) ∧ Kd.C kStp w' A exL.length exL ∧ Below w.heap.size w w' :=
  (E.pylonlaw31_exBid.calls _ _ w rfl).mono fun e w' ⟨v, he, hR, hb⟩ => by
    obtain ⟨A, c, rfl, hc, hC⟩ := Kd.R_reads hR
    exact ⟨A, c, hc, he, hC, hb⟩
set_option maxRecDepth 100000 in
set_option maxHeartbeats 8000000 in
theorem same31_c {w : World} (u : Un) (A A' : Option Addr) (c c' : Nat) (h : Kd.C kStp w A u.steps.length u.steps) (hc : u.steps.length ≤ c) (h' : Kd.C kStp w A' u.steps.length u.steps) (hc' : u.steps.length ≤ c') (hl : u.steps.length < 1000000) :
    Calls Try.prog 22 #[.agg (unC u (.slice A u.steps.length c)), .agg (unC u (.slice A' u.steps.length c'))] w fun e w' => e = .returned (.bool true) ∧ Below w.heap.size w w' := by
  have hU := Try.underlying30
  obtain ⟨bus, mi, l, up, dn, st, idl, sp, on⟩ := u
  dsimp only [unC] at h hc h' hc' hl ⊢
  have hb0 := below_alloc (below_alloc (Below.refl _ w) (.cells #[.int .i64 bus, .int .i64 mi, .slice A l.length c, .int .i64 up, .int .i64 dn, .int .i64 st, .int .i64 idl, .int .i64 sp, .int .i64 on] 30)) (.cells #[.int .i64 bus, .int .i64 mi, .slice A' l.length c', .int .i64 up, .int .i64 dn, .int .i64 st, .int .i64 idl, .int .i64 sp, .int .i64 on] 30)
  have k0 := blk_alloc (blk_new w (.cells #[.int .i64 bus, .int .i64 mi, .slice A l.length c, .int .i64 up, .int .i64 dn, .int .i64 st, .int .i64 idl, .int .i64 sp, .int .i64 on] 30)) (.cells #[.int .i64 bus, .int .i64 mi, .slice A' l.length c', .int .i64 up, .int .i64 dn, .int .i64 st, .int .i64 idl, .int .i64 sp, .int .i64 on] 30)
  have j0 := blk_new (w.alloc (.cells #[.int .i64 bus, .int .i64 mi, .slice A l.length c, .int .i64 up, .int .i64 dn, .int .i64 st, .int .i64 idl, .int .i64 sp, .int .i64 on] 30)) (.cells #[.int .i64 bus, .int .i64 mi, .slice A' l.length c', .int .i64 up, .int .i64 dn, .int .i64 st, .int .i64 idl, .int .i64 sp, .int .i64 on] 30)
  rw [World.size_alloc] at j0
  have HS := Lib.hid (same23_c (w := (w.alloc (.cells #[.int .i64 bus, .int .i64 mi, .slice A l.length c, .int .i64 up, .int .i64 dn, .int .i64 st, .int .i64 idl, .int .i64 sp, .int .i64 on] 30)).alloc (.cells #[.int .i64 bus, .int .i64 mi, .slice A' l.length c', .int .i64 up, .int .i64 dn, .int .i64 st, .int .i64 idl, .int .i64 sp, .int .i64 on] 30)) A A' c c' l (Kd.C_below h hb0) hc (Kd.C_below h' hb0) hc' hl)
  have hgb : (w.heap.size + 1) ≠ w.heap.size := by omega
  have hbg : w.heap.size ≠ (w.heap.size + 1) := by omega
  have hk0 := blk_cell k0 0; have hk1 := blk_cell k0 1; have hk2 := blk_cell k0 2; have hk3 := blk_cell k0 3; have hk4 := blk_cell k0 4; have hk5 := blk_cell k0 5; have hk6 := blk_cell k0 6; have hk7 := blk_cell k0 7; have hk8 := blk_cell k0 8; have hkf0 := blk_frozen k0 0; have hkf1 := blk_frozen k0 1; have hkf2 := blk_frozen k0 2; have hkf3 := blk_frozen k0 3; have hkf4 := blk_frozen k0 4; have hkf5 := blk_frozen k0 5; have hkf6 := blk_frozen k0 6; have hkf7 := blk_frozen k0 7; have hkf8 := blk_frozen k0 8
  have hj0 := blk_cell j0 0; have hj1 := blk_cell j0 1; have hj2 := blk_cell j0 2; have hj3 := blk_cell j0 3; have hj4 := blk_cell j0 4; have hj5 := blk_cell j0 5; have hj6 := blk_cell j0 6; have hj7 := blk_cell j0 7; have hj8 := blk_cell j0 8; have hjf0 := blk_frozen j0 0; have hjf1 := blk_frozen j0 1; have hjf2 := blk_frozen j0 2; have hjf3 := blk_frozen j0 3; have hjf4 := blk_frozen j0 4; have hjf5 := blk_frozen j0 5; have hjf6 := blk_frozen j0 6; have hjf7 := blk_frozen j0 7; have hjf8 := blk_frozen j0 8
  go_enter Try.func22, Try.ntmps22
  go_wp2_with (first | (go_at_call 42; refine HS.out.mono ?_; rintro e w1 ⟨rfl, ⟨nd, rfl⟩⟩))
  go_ret
  exact ⟨rfl, pw_below_drewN hb0 _⟩
set_option maxRecDepth 100000 in
set_option maxHeartbeats 8000000 in
theorem unit_c {w : World} {G : Int → Prop} {s : ByteArray} (hs : s.size < 1048576) (hG : Good s G) (p : Int) (hp : G p) (u : Un) (n er : Int) (hP : parseU s p = (u, n, er)) (A : Option Addr) (c : Nat) (h : Kd.C kStp w A u.steps.length u.steps) (hc : u.steps.length ≤ c) (hl : u.steps.length < 1000000) :
    Calls Try.prog 9 #[.string s, .int .i64 p, .agg (unC u (.slice A u.steps.length c)), .int .i64 n, .int .i64 er] w fun e w' => e = .returned (.bool true) ∧ Below w.heap.size w w' := by
  have hU := Try.underlying30
  have HP := Lib.hid (fun (W : World) => ParseUnit_c hs hG (w := W) p hp)
  rw [hP] at HP
  dsimp only at HP
  have HS := Lib.hid (fun (W : World) (hb : Below w.heap.size w W) (A' : Option Addr) (c' : Nat) (h1 : Kd.C kStp W A' u.steps.length u.steps) (hc1 : u.steps.length ≤ c') => same31_c (w := W) u A' A c' c h1 hc1 (Kd.C_below h hb) hc hl)
  clear hs hG hp hP hl
  obtain ⟨bus, mi, l, up, dn, st, idl, sp, on⟩ := u
  dsimp only [unC] at h hc HP HS ⊢
  have hb0 := below_alloc (Below.refl _ w) (.cells #[.int .i64 bus, .int .i64 mi, .slice A l.length c, .int .i64 up, .int .i64 dn, .int .i64 st, .int .i64 idl, .int .i64 sp, .int .i64 on] 30)
  have k0 := blk_new w (.cells #[.int .i64 bus, .int .i64 mi, .slice A l.length c, .int .i64 up, .int .i64 dn, .int .i64 st, .int .i64 idl, .int .i64 sp, .int .i64 on] 30)
  have hk0 := blk_cell k0 0; have hk1 := blk_cell k0 1; have hk2 := blk_cell k0 2; have hk3 := blk_cell k0 3; have hk4 := blk_cell k0 4; have hk5 := blk_cell k0 5; have hk6 := blk_cell k0 6; have hk7 := blk_cell k0 7; have hk8 := blk_cell k0 8; have hkf0 := blk_frozen k0 0; have hkf1 := blk_frozen k0 1; have hkf2 := blk_frozen k0 2; have hkf3 := blk_frozen k0 3; have hkf4 := blk_frozen k0 4; have hkf5 := blk_frozen k0 5; have hkf6 := blk_frozen k0 6; have hkf7 := blk_frozen k0 7; have hkf8 := blk_frozen k0 8
  go_enter Try.func9, Try.ntmps9
  go_wp2_with (first | (go_at_call 17; refine (HP.out _).mono ?_; rintro e w1 ⟨A1, c1, hc1, rfl, hr1, hb1⟩; have hB1 := below_step hb0 hb1; have i1 := blk_alloc (blk_below k0 hb1) (.cells #[.int .i64 bus, .int .i64 mi, .slice A1 l.length c1, .int .i64 up, .int .i64 dn, .int .i64 st, .int .i64 idl, .int .i64 sp, .int .i64 on] 30); have hB2 := below_alloc hB1 (.cells #[.int .i64 bus, .int .i64 mi, .slice A1 l.length c1, .int .i64 up, .int .i64 dn, .int .i64 st, .int .i64 idl, .int .i64 sp, .int .i64 on] 30); have hi0 := blk_cell i1 0; have hi1 := blk_cell i1 1; have hi2 := blk_cell i1 2; have hi3 := blk_cell i1 3; have hi4 := blk_cell i1 4; have hi5 := blk_cell i1 5; have hi6 := blk_cell i1 6; have hi7 := blk_cell i1 7; have hi8 := blk_cell i1 8; have hif0 := blk_frozen i1 0; have hif1 := blk_frozen i1 1; have hif2 := blk_frozen i1 2; have hif3 := blk_frozen i1 3; have hif4 := blk_frozen i1 4; have hif5 := blk_frozen i1 5; have hif6 := blk_frozen i1 6; have hif7 := blk_frozen i1 7; have hif8 := blk_frozen i1 8) | (go_at_call 22; refine (HS.out _ hB2 A1 c1 (Kd.C_below hr1 (below_alloc (Below.refl _ w1) (.cells #[.int .i64 bus, .int .i64 mi, .slice A1 l.length c1, .int .i64 up, .int .i64 dn, .int .i64 st, .int .i64 idl, .int .i64 sp, .int .i64 on] 30))) hc1).mono ?_; rintro e w3 ⟨rfl, hb3⟩; have hB3 := below_step hB2 hb3))
  go_ret
  exact ⟨rfl, hB3⟩
set_option maxRecDepth 100000 in
set_option maxHeartbeats 8000000 in
theorem bid_c {w : World} {G : Int → Prop} {s : ByteArray} (hs : s.size < 1048576) (hG : Good s G) (p : Int) (hp : G p) (bus : Int) (l : List Stp) (n er : Int) (hP : parseB s p = ((bus, l), n, er)) (A : Option Addr) (c : Nat) (h : Kd.C kStp w A l.length l) (hc : l.length ≤ c) (hl : l.length < 1000000) :
    Calls Try.prog 10 #[.string s, .int .i64 p, .agg (biC bus (.slice A l.length c)), .int .i64 n, .int .i64 er] w fun e w' => e = .returned (.bool true) ∧ Below w.heap.size w w' := by
  have hU := Try.underlying33
  have HP := Lib.hid (fun (W : World) => ParseBid_c hs hG (w := W) p hp)
  rw [hP] at HP
  dsimp only at HP
  have HS := Lib.hid (fun (W : World) (hb : Below w.heap.size w W) (A' : Option Addr) (c' : Nat) (h1 : Kd.C kStp W A' l.length l) (hc1 : l.length ≤ c') => sameBid_c (w := W) bus A' A c' c l h1 hc1 (Kd.C_below h hb) hc hl)
  clear hs hG hp hP hl
  have hb0 := below_alloc (Below.refl _ w) (.cells #[.int .i64 bus, .slice A l.length c] 33)
  have k0 := blk_new w (.cells #[.int .i64 bus, .slice A l.length c] 33)
  have hk0 := blk_cell k0 0; have hk1 := blk_cell k0 1; have hkf0 := blk_frozen k0 0; have hkf1 := blk_frozen k0 1
  go_enter Try.func10, Try.ntmps10
  go_wp2_with (first | (go_at_call 18; refine (HP.out _).mono ?_; rintro e w1 ⟨A1, c1, hc1, rfl, hr1, hb1⟩; have hB1 := below_step hb0 hb1; have i1 := blk_alloc (blk_below k0 hb1) (.cells #[.int .i64 bus, .slice A1 l.length c1] 33); have hB2 := below_alloc hB1 (.cells #[.int .i64 bus, .slice A1 l.length c1] 33); have hi0 := blk_cell i1 0; have hi1 := blk_cell i1 1; have hif0 := blk_frozen i1 0; have hif1 := blk_frozen i1 1) | (go_at_call 23; refine (HS.out _ hB2 A1 c1 (Kd.C_below hr1 (below_alloc (Below.refl _ w1) (.cells #[.int .i64 bus, .slice A1 l.length c1] 33))) hc1).mono ?_; rintro e w3 ⟨rfl, hb3⟩; have hB3 := below_step hB2 hb3))
  go_ret
  exact ⟨rfl, hB3⟩
end Ar
end Go.Proofs.Ytnghcgmkncbnnaa
end
section
namespace Go.Proofs.Ytnghcgmkncbnnaa
open Go.RowKit Go.Proofs.YtnghcgmkncbnnaaW.PrintWords Go.Proofs.YtnghcgmkncbnnaaW.PrintLast Go.Proofs.YtnghcgmkncbnnaaW.PrintMore
namespace Ar
open Wd
theorem hic_of {w : ByteArray} (hs : w.size < 1048576) (h0 : 0 ≤ pD w) (hb : (den1 (pD w)).natAbs < 4294967296) : Hic w := by
  intro _ _ _ W ok v hv
  have hd : Sm (pD w) := by
    unfold pD
    split
    · refine zOf_sm _ (Nat.lt_of_le_of_lt ?_ hs)
      unfold qB; exact extract_size_le _ _ _
    · unfold Sm; decide
  have hn : Sm (zOf (qA w)) := by
    refine zOf_sm _ (Nat.lt_of_le_of_lt ?_ hs)
    unfold qA; split
    · exact Nat.le_refl _
    · exact extract_size_le _ _ _
  exact IsCanQ_c div_one hv hn hd h0 hb
def okTx (w : ByteArray) : Bool := decide (0 ≤ pD w) && decide ((den1 (pD w)).natAbs < 4294967296)
def wdAt (s : ByteArray) (k : Nat) : ByteArray := s.extract (sk s isSep k) (sk s (fun b => isLet b || isDig b) (sk s isSep k))
def allOk (s : ByteArray) : Nat → Bool
  | 0 => okTx (wdAt s 0)
  | k + 1 => okTx (wdAt s (k + 1)) && allOk s k
theorem allOk_at {s : ByteArray} : ∀ {n k : Nat}, allOk s n = true → k ≤ n → okTx (wdAt s k) = true
  | 0, k, h, hk => by rw [show k = 0 by omega]; exact h
  | n + 1, k, h, hk => by
    unfold allOk at h
    rw [Bool.and_eq_true] at h
    rcases Nat.lt_or_ge n k with h1 | h1
    · rw [show k = n + 1 by omega]; exact h.1
    · exact allOk_at h.2 h1
def inT (s : ByteArray) (p : Int) : Prop := 0 ≤ p ∧ p ≤ s.size
theorem next_in {s : ByteArray} {p : Int} (h : inT s p) (hn : (nextS s p).2.2 = 0) : inT s (nextS s p).2.1 := by
  unfold nextS at hn ⊢
  split at hn
  · cases hn
  rename_i h1
  rw [if_neg h1]
  split at hn
  · cases hn
  rename_i h2
  rw [if_neg h2]
  have hk := sk_le s isSep p.toNat (by unfold inT at h; omega)
  generalize sk s isSep p.toNat = k at hn hk ⊢
  unfold nextAt at hn ⊢
  by_cases h3 : k = s.size
  · rw [if_pos h3] at hn; cases hn
  rw [if_neg h3]
  by_cases h4 : bt s k = 40
  · rw [if_pos h4]; unfold inT; dsimp only; omega
  rw [if_neg h4]
  by_cases h5 : bt s k = 41
  · rw [if_pos h5]; unfold inT; dsimp only; omega
  rw [if_neg h5]
  have hr := sk_le s isRun k hk.2
  split
  · unfold inT; dsimp only; omega
  · rename_i h6
    rw [if_neg h3, if_neg h4, if_neg h5, if_neg h6] at hn
    exact absurd hn h6
theorem good_all {s : ByteArray} (hs : s.size < 1048576) (h : allOk s s.size = true) : Good s (inT s) := by
  intro p hp
  refine ⟨?_, fun hn => next_in hp hn⟩
  have h1 := allOk_at h (show p.toNat ≤ s.size by unfold inT at hp; omega)
  unfold okTx at h1
  rw [Bool.and_eq_true, decide_eq_true_iff, decide_eq_true_iff] at h1
  exact hic_of (Nat.lt_of_le_of_lt (extract_size_le _ _ _) hs) h1.1 h1.2
theorem in0 (s : ByteArray) : inT s 0 := ⟨Int.le_refl 0, by omega⟩
def tx1 : ByteArray := ⟨#[40, 117, 110, 105, 116, 32, 48, 32, 50, 32, 50, 32, 50, 32, 53, 32, 51, 32, 48, 32, 45, 49, 32, 40, 53, 32, 49, 41, 32, 40, 52, 32, 51, 41, 41]⟩
def tx2 : ByteArray := ⟨#[40, 98, 105, 100, 32, 49, 32, 40, 52, 32, 49, 48, 48, 48, 48, 48, 48, 41, 32, 40, 52, 32, 50, 41, 41]⟩
def tx3 : ByteArray := ⟨#[40, 117, 110, 105, 116, 32, 48, 32, 50, 41]⟩
def tx4 : ByteArray := ⟨#[40, 117, 110, 105, 116, 32, 48, 32, 50, 32, 50, 32, 50, 32, 53, 32, 51, 32, 48, 32, 45, 49, 41]⟩
def tx5 : ByteArray := ⟨#[40, 98, 105, 100, 32, 49, 32, 40, 52, 32, 50, 41, 32, 40, 52, 32, 57, 41, 41]⟩
def tx6 : ByteArray := ⟨#[40, 98, 105, 100, 32, 49, 32, 40, 52, 32, 50, 41]⟩
def tx7 : ByteArray := ⟨#[40, 98, 105, 100, 32, 49, 47, 50, 32, 40, 52, 32, 50, 41, 41]⟩
theorem g1 : allOk tx1 tx1.size = true := by kernel_rfl
theorem g2 : allOk tx2 tx2.size = true := by kernel_rfl
theorem g3 : allOk tx3 tx3.size = true := by kernel_rfl
theorem g4 : allOk tx4 tx4.size = true := by kernel_rfl
theorem g5 : allOk tx5 tx5.size = true := by kernel_rfl
theorem g6 : allOk tx6 tx6.size = true := by kernel_rfl
theorem g7 : allOk tx7 tx7.size = true := by kernel_rfl
theorem p1 : parseU tx1 0 = (exU, 35, 0) := by kernel_rfl
theorem p2 : parseB tx2 0 = ((1, exL), 25, 0) := by kernel_rfl
theorem p3 : parseU tx3 0 = (zeroU, 0, 3) := by kernel_rfl
theorem p4 : parseU tx4 0 = (zeroU, 0, 4) := by kernel_rfl
theorem p5 : parseB tx5 0 = ((0, []), 0, 3) := by kernel_rfl
theorem p6 : parseB tx6 0 = ((0, []), 0, 4) := by kernel_rfl
theorem p7 : parseB tx7 0 = ((0, []), 0, 1) := by kernel_rfl
theorem c1 : checkU exU = 0 := by kernel_rfl
theorem c2 : checkB 1 exL = 0 := by kernel_rfl
theorem t1 : unText exU = tx1 := by kernel_rfl
theorem t2 : biText 1 exL = tx2 := by kernel_rfl
end Ar
end Go.Proofs.Ytnghcgmkncbnnaa
end
section
namespace Go.Proofs.Ytnghcgmkncbnnaa
open Go.RowKit Go.Proofs.YtnghcgmkncbnnaaW.PrintWords Go.Proofs.YtnghcgmkncbnnaaW.PrintLast Go.Proofs.YtnghcgmkncbnnaaW.PrintMore
namespace Ar
open Wd
theorem fU_c {w : World} (A : Option Addr) (c : Nat) (hr : Kd.C kStp w A exU.steps.length exU.steps) (hc : exU.steps.length ≤ c) :
    Calls Try.prog 12 #[.agg (unC exU (.slice A exU.steps.length c))] w fun e w' => e = .returned (.tuple #[.string tx1, .int .i64 0]) ∧ Below w.heap.size w w' := by
  have h := FormatUnit_c exU A c hr hc (show 2 < 1000000 by decide) showU_ok
  rw [c1, if_pos rfl, t1] at h
  exact h
theorem fB_c {w : World} (A : Option Addr) (c : Nat) (hr : Kd.C kStp w A exL.length exL) (hc : exL.length ≤ c) :
    Calls Try.prog 13 #[.agg (biC 1 (.slice A exL.length c))] w fun e w' => e = .returned (.tuple #[.string tx2, .int .i64 0]) ∧ Below w.heap.size w w' := by
  have h := FormatBid_c 1 exL A c hr hc (show 2 < 1000000 by decide) showB_ok
  rw [c2, if_pos rfl, t2] at h
  exact h
set_option maxRecDepth 100000 in
set_option maxHeartbeats 16000000 in
theorem awake_c {w : World} : Calls Try.prog 8 #[] w fun e w' => e = .returned (.bool true) ∧ Below w.heap.size w w' := by
  have hU := Try.underlying30
  have hV := Try.underlying33
  have HE := Lib.hid (fun (W : World) => ex_c (w := W))
  have HB := Lib.hid (fun (W : World) => exBid_c (w := W))
  have HF := Lib.hid (fun (W : World) A c h1 h2 => fU_c (w := W) A c h1 h2)
  have HG := Lib.hid (fun (W : World) A c h1 h2 => fB_c (w := W) A c h1 h2)
  have H1 := Lib.hid (fun (W : World) A c h1 h2 => unit_c (w := W) (show tx1.size < 1048576 by decide) (good_all (show tx1.size < 1048576 by decide) g1) 0 (in0 _) exU 35 0 p1 A c h1 h2 (show 2 < 1000000 by decide))
  have H2 := Lib.hid (fun (W : World) A c h1 h2 => bid_c (w := W) (show tx2.size < 1048576 by decide) (good_all (show tx2.size < 1048576 by decide) g2) 0 (in0 _) 1 exL 25 0 p2 A c h1 h2 (show 2 < 1000000 by decide))
  have H3 := Lib.hid (fun (W : World) => unit_c (w := W) (show tx3.size < 1048576 by decide) (good_all (show tx3.size < 1048576 by decide) g3) 0 (in0 _) zeroU 0 3 p3 none 0 (C_nil W) (Nat.le_refl 0) (show 0 < 1000000 by decide))
  have H4 := Lib.hid (fun (W : World) => unit_c (w := W) (show tx4.size < 1048576 by decide) (good_all (show tx4.size < 1048576 by decide) g4) 0 (in0 _) zeroU 0 4 p4 none 0 (C_nil W) (Nat.le_refl 0) (show 0 < 1000000 by decide))
  have H5 := Lib.hid (fun (W : World) => bid_c (w := W) (show tx5.size < 1048576 by decide) (good_all (show tx5.size < 1048576 by decide) g5) 0 (in0 _) 0 [] 0 3 p5 none 0 (C_nil W) (Nat.le_refl 0) (show 0 < 1000000 by decide))
  have H6 := Lib.hid (fun (W : World) => bid_c (w := W) (show tx6.size < 1048576 by decide) (good_all (show tx6.size < 1048576 by decide) g6) 0 (in0 _) 0 [] 0 4 p6 none 0 (C_nil W) (Nat.le_refl 0) (show 0 < 1000000 by decide))
  have H7 := Lib.hid (fun (W : World) => bid_c (w := W) (show tx7.size < 1048576 by decide) (good_all (show tx7.size < 1048576 by decide) g7) 0 (in0 _) 0 [] 0 1 p7 none 0 (C_nil W) (Nat.le_refl 0) (show 0 < 1000000 by decide))
  dsimp only [unC, zeroU, exU, exL, tx1, tx2, tx3, tx4, tx5, tx6, tx7, List.length] at HE HB HF HG H1 H2 H3 H4 H5 H6 H7
  go_enter Try.func8, Try.ntmps8
  go_wp2_with (first | (go_at_call 10; have hz := hB12; refine (H7.out _).mono ?_; rintro e w13 ⟨rfl, hb13⟩; have hB13 := below_step hB12 hb13) | (go_at_call 10; have hz := hB11; refine (H6.out _).mono ?_; rintro e w12 ⟨rfl, hb12⟩; have hB12 := below_step hB11 hb12) | (go_at_call 10; have hz := hB10; refine (H5.out _).mono ?_; rintro e w11 ⟨rfl, hb11⟩; have hB11 := below_step hB10 hb11) | (go_at_call 9; have hz := hB9; refine (H4.out _).mono ?_; rintro e w10 ⟨rfl, hb10⟩; have hB10 := below_step hB9 hb10) | (go_at_call 9; have hz := hB8; refine (H3.out _).mono ?_; rintro e w9 ⟨rfl, hb9⟩; have hB9 := below_step hB8 hb9) | (go_at_call 10; have hz := hB7; refine (H2.out _ A7 k7 hr7 hc7).mono ?_; rintro e w8 ⟨rfl, hb8⟩; have hB8 := below_step hB7 hb8) | (go_at_call 11; have hz := hB6; refine (HB.out _).mono ?_; rintro e w7 ⟨A7, k7, hc7, rfl, hr7, hb7⟩; have hB7 := below_step hB6 hb7) | (go_at_call 9; have hz := hB5; refine (H1.out _ A5 k5 hr5 hc5).mono ?_; rintro e w6 ⟨rfl, hb6⟩; have hB6 := below_step hB5 hb6) | (go_at_call 14; have hz := hB4; refine (HE.out _).mono ?_; rintro e w5 ⟨A5, k5, hc5, rfl, hr5, hb5⟩; have hB5 := below_step hB4 hb5) | (go_at_call 13; have hz := hB3; refine (HG.out _ A3 k3 hr3 hc3).mono ?_; rintro e w4 ⟨rfl, hb4⟩; have hB4 := below_step hB3 hb4) | (go_at_call 11; have hz := hB2; refine (HB.out _).mono ?_; rintro e w3 ⟨A3, k3, hc3, rfl, hr3, hb3⟩; have hB3 := below_step hB2 hb3) | (go_at_call 12; have hz := hB1; refine (HF.out _ A1 k1 hr1 hc1).mono ?_; rintro e w2 ⟨rfl, hb2⟩; have hB2 := below_step hB1 hb2) | (go_at_call 14; refine (HE.out _).mono ?_; rintro e w1 ⟨A1, k1, hc1, rfl, hr1, hb1⟩; have hB1 := hb1))
  go_ret
  exact ⟨rfl, hB13⟩
end Ar
end Go.Proofs.Ytnghcgmkncbnnaa
end
