/- Part 13 of the proof: strings.Builder: copyCheck, WriteByte, WriteString. The text of a sequence of tokens. Package bidtext: the tokens of a text, num and bracketed. Package bidtext: show. The reference's From: contract. Package bidtext: FormatUnit, FormatBid. -/
import Derived.Test.YtnghcgmkncbnnaaGreatM9
import Derived.Test.YtnghcgmkncbnnaaGreatM10
import Derived.Test.YtnghcgmkncbnnaaGreatM12
section
namespace Go.Proofs.YtnghcgmkncbnnaaGreat
open Go.RowKit Go.Proofs.YtnghcgmkncbnnaaGreatW.PrintWords Go.Proofs.YtnghcgmkncbnnaaGreatW.PrintLast Go.Proofs.YtnghcgmkncbnnaaGreatW.PrintMore
namespace Ar
open Wd
theorem sizeB : (Tryz.prog.info? 97).map (·.size) = some 2 := by kernel_rfl
theorem liesB : liesAt Tryz.prog Tryz.prog.depth 97 (2 / Tryz.prog.cellsOf 97) 0 97 1 = true := by kernel_rfl
theorem infoU8 : (Tryz.prog.info? 5).map (fun i => (i.zero, i.size, i.bytes)) = some (some (.int .u8 0), 1, 1) := by kernel_rfl
set_option maxRecDepth 100000 in
set_option maxHeartbeats 4000000 in
theorem copyCheck_c (B b : Nat) (bs : List Value) (w : World) (h : Lib.IsBuilder 97 5 B b bs w) :
    Calls Tryz.prog 80 #[.pointer (some ⟨b, 0, none⟩)] w fun e w' => e = .returned (.tuple #[]) ∧ Lib.BuilderAt 97 5 B b (.pointer (some ⟨b, 0, none⟩)) bs w' ∧ Below B w w' := by
  have hT := Tryz.underlying97
  obtain ⟨j, hj, hjs⟩ := Option.map_eq_some_iff.1 sizeB
  rcases h with h | h
  · have c0 := h.cell0
    have hfz := h.frozen0
    have hsh := h.shape
    go_enter Tryz.func80, Tryz.ntmps80
    go_wp2
    rw [Lib.run_to_unsafe w ⟨b, 0, none⟩ Tryz.underlying94 Tryz.underlying142 hj (by rw [hjs]; decide) hsh (Nat.zero_lt_succ 1)]
    simp only [Result.andThen]
    rw [Oper.upon_value]
    go_wp2
    rw [run_callFunc_extern Tryz.func98 (by kernel_rfl) (by kernel_rfl) (by kernel_rfl) (e := Extern.AbiNoEscape.same) (by kernel_rfl)]
    rw [Lib.run_noEscape]
    simp only [Result.andThen]
    rw [Oper.upon_value]
    go_wp2
    rw [Lib.run_from_unsafe w ⟨b, 0, none⟩ Tryz.underlying142 Tryz.underlying94 hj hsh liesB]
    simp only [Result.andThen]
    rw [Oper.upon_value]
    go_wp2
    go_end0
    exact ⟨rfl, h.used _, (Below.refl B w).setCell (p := ⟨b, 0, none⟩) h.1 _⟩
  · have c0 := h.cell0
    go_enter Tryz.func80, Tryz.ntmps80
    go_wp2
    rw [Lib.run_neq_ptr_same w _ Tryz.underlying94 hj]
    go_wp2
    go_end0
    exact ⟨rfl, h, Below.refl B _⟩
set_option maxRecDepth 100000 in
set_option maxHeartbeats 4000000 in
theorem writeByte_c (B b : Nat) (bs : List Value) (c : Int) (w : World) (h : Lib.IsBuilder 97 5 B b bs w) (hlen : bs.length + 1 ≤ 140737488355328) (hBw : B ≤ w.heap.size) :
    Calls Tryz.prog 59 #[.pointer (some ⟨b, 0, none⟩), .int .u8 c] w fun e w' => e = .returned .nilIface ∧ Lib.BuilderAt 97 5 B b (.pointer (some ⟨b, 0, none⟩)) (bs ++ [.int .u8 c]) w' ∧ Below B w w' := by
  have hT := Tryz.underlying97
  obtain ⟨i0, hi, hz0, hz1, hz2⟩ := info_parts infoU8
  go_enter Tryz.func59, Tryz.ntmps59
  go_wp2_with (go_at_call 80; refine (copyCheck_c B b bs _ h).mono ?_)
  rintro e w1 ⟨rfl, h1, hb1⟩
  obtain ⟨hB, v, hbk, hown, hne⟩ := h1
  have c0 := blk_cell hbk 0
  have c1 := blk_cell hbk 1
  go_wp2_with (at_builtin; refine wpList_append_own _ rfl _ _ 95 rfl B 5 i0 (.int .u8 0) 1 1 Tryz.underlying95 hi hz0 hz1 hz2 rfl (by decide) _ _ _ rfl (hown.alloc _) ⟨w1.heap.size, 0, none⟩ 1 1 [.int .u8 c] rfl rfl ?c1 ?c2 ?c3 ?c4 ?c5 ?_)
  case c1 =>
    intro j u hj
    match j, hj with
    | 0, hj => simp at hj; subst hj; simp [Addr.add]
  case c2 => intro u hu; simp at hu; subst hu; rfl
  case c3 => unfold maxLen; omega
  case c4 => omega
  case c5 => have := hb1.size; simp; omega
  intro v' w2 hown' hgrow _
  have hlt := blk_lt hbk
  have hb2 : w2.heap[b]? = some (.cells #[.pointer (some ⟨b, 0, none⟩), v] 97 (0, 0)) := (hgrow.block b (by simp; omega) (fun e => hne e.symm)).trans (blk_alloc hbk _)
  have d0 := blk_cell hb2 0
  have d1 := blk_cell hb2 1
  have f1 := blk_frozen hb2 1
  obtain ⟨g, cap, rfl⟩ : ∃ g cap, v' = .slice (some ⟨g, 0, none⟩) (bs.length + 1) cap := by
    rcases hown'.2 with ⟨_, h0⟩ | ⟨g, cap, cur, hv, _⟩
    · omega
    · exact ⟨g, cap, hv⟩
  go_wp2
  go_ret
  refine ⟨rfl, ?_, ?_⟩
  · exact Lib.BuilderAt.put (T := 97) (e := 5) hB hb2 (bs' := bs ++ [.int .u8 c]) (by simpa using hown') (by decide)
  · exact ((hb1.alloc (by have := hb1.size; omega) _).grown hgrow (by have := hb1.size; simp; omega) (fun k hk => (hown.lt k hk).1)).setCell (p := ⟨b, 1, none⟩) hB _
set_option maxRecDepth 100000 in
set_option maxHeartbeats 4000000 in
theorem writeString_c (B b : Nat) (bs : List Value) (s : ByteArray) (w : World) (h : Lib.IsBuilder 97 5 B b bs w) (hlen : bs.length + s.size ≤ 140737488355328) (hBw : B ≤ w.heap.size) :
    Calls Tryz.prog 60 #[.pointer (some ⟨b, 0, none⟩), .string s] w fun e w' => e = .returned (.tuple #[.int .i64 s.size, .nilIface]) ∧ Lib.BuilderAt 97 5 B b (.pointer (some ⟨b, 0, none⟩)) (bs ++ Lib.strCells s) w' ∧ Below B w w' := by
  have hT := Tryz.underlying97
  obtain ⟨i0, hi, hz0, hz1, hz2⟩ := info_parts infoU8
  go_enter Tryz.func60, Tryz.ntmps60
  go_wp2_with (go_at_call 80; refine (copyCheck_c B b bs _ h).mono ?_)
  rintro e w1 ⟨rfl, h1, hb1⟩
  obtain ⟨hB, v, hbk, hown, hne⟩ := h1
  have c0 := blk_cell hbk 0
  have c1 := blk_cell hbk 1
  go_wp2_with (at_builtin; refine Lib.wpList_append_own_string _ rfl _ _ 95 9 rfl B 5 i0 Tryz.underlying95 Tryz.underlying9 hi hz0 hz1 hz2 _ _ _ rfl hown s rfl ?c3 ?c4 ?c5 ?_)
  case c3 => unfold maxLen; omega
  case c4 => omega
  case c5 => have := hb1.size; omega
  intro v' w2 hown' hgrow _
  have hlt := blk_lt hbk
  have hb2 : w2.heap[b]? = some (.cells #[.pointer (some ⟨b, 0, none⟩), v] 97 (0, 0)) := (hgrow.block b hlt (fun e => hne e.symm)).trans hbk
  have d0 := blk_cell hb2 0
  have d1 := blk_cell hb2 1
  have f1 := blk_frozen hb2 1
  obtain ⟨ao, n', cap, rfl⟩ : ∃ ao n' cap, v' = .slice ao n' cap := by
    rcases hown'.2 with ⟨hv, _⟩ | ⟨g, cap, cur, hv, _⟩
    · exact ⟨_, _, _, hv⟩
    · exact ⟨_, _, _, hv⟩
  go_wp2
  go_ret2
  refine ⟨rfl, ?_, ?_⟩
  · exact Lib.BuilderAt.put (T := 97) (e := 5) hB hb2 (bs' := bs ++ Lib.strCells s) (by simpa [Lib.strCells_length] using hown') (by decide)
  · exact (hb1.grown hgrow (by have := hb1.size; omega) (fun k hk => (hown.lt k hk).1)).setCell (p := ⟨b, 1, none⟩) hB _
end Ar
end Go.Proofs.YtnghcgmkncbnnaaGreat
end
section
namespace Go.Proofs.YtnghcgmkncbnnaaGreat
open Go.RowKit Go.Proofs.YtnghcgmkncbnnaaGreatW.PrintWords Go.Proofs.YtnghcgmkncbnnaaGreatW.PrintLast Go.Proofs.YtnghcgmkncbnnaaGreatW.PrintMore
namespace Ar
open Wd
abbrev TkS := E.S78
abbrev kTk := E.k78
def tkS (x : Tk) : TkS := ⟨x.k, x.t, ⟨⟨decide (x.n < 0), digs x.n.natAbs⟩, ⟨decide (x.d < 0), digs x.d.natAbs⟩⟩⟩
def rdK (l : List Tk) (i : Nat) : Tk := l.getD i noTk
def fmtTo (l : List Tk) : Nat → List UInt8
  | 0 => []
  | i + 1 => fmtTo l i ++ ((if 0 < i ∧ (rdK l (i - 1)).k ≠ 1 ∧ (rdK l i).k ≠ 2 then [32] else []) ++ (textB (rdK l i)).data.toList)
theorem fmtTo_mono (l : List Tk) : ∀ (n i : Nat), (fmtTo l i).length ≤ (fmtTo l (i + n)).length
  | 0, _ => Nat.le_refl _
  | n + 1, i => Nat.le_trans (fmtTo_mono l n i) (by rw [show i + (n + 1) = (i + n) + 1 from rfl, fmtTo, List.length_append]; omega)
theorem fmtTo_le (l : List Tk) {i : Nat} (h : i ≤ l.length) : (fmtTo l i).length ≤ (fmtTo l l.length).length := by
  have := fmtTo_mono l (l.length - i) i
  rwa [show i + (l.length - i) = l.length by omega] at this
theorem bld_below {T e : TypeId} {B b : Nat} {bs : List Value} {w w' : World} (h : Lib.IsBuilder T e B b bs w) (hb : Below w.heap.size w w') : Lib.IsBuilder T e B b bs w' := by
  have hk : ∀ p, Lib.BuilderAt T e B b p bs w → Lib.BuilderAt T e B b p bs w' := by
    rintro p ⟨h1, v, h2, h3, h4⟩
    exact ⟨h1, v, blk_below h2 hb, own_other h3 (row := none) ⟨hb.os, hb.tape, hb.output, hb.size, fun k hk _ => hb.block k hk⟩ (by cases hv : v.ownBlock <;> simp), h4⟩
  exact h.imp (hk _) (hk _)
theorem bc_len (l : List UInt8) : (Lib.byteCells l).length = l.length := by simp [Lib.byteCells]
theorem c_uv {W : World} {A : Option Addr} {l : List Int} {c : Nat} (hc : l.length ≤ c) (h : (Kd.int .u32).C W A l.length l) : Uv W (fun k => k < W.heap.size) (.slice A l.length c) l := Kd.V_mk hc (Kd.C_F (Kd.heap_int .u32) h)
theorem rdK_map (l : List Tk) (i : Nat) (h : i < l.length) : E.rd_T78 (l.map tkS) ((i : Nat) : Int) = tkS (rdK l i) := by
  unfold E.rd_T78 rdK
  rw [Int.toNat_natCast, List.getD_eq_getElem?_getD, List.getD_eq_getElem?_getD, List.getElem?_map, List.getElem?_eq_getElem h]; rfl
theorem prevC {W : World} {ad : Addr} {l : List Tk} (h : Kd.C kTk W (some ad) (l.map tkS).length (l.map tkS)) (j : Nat) (hj : j < l.length) : W.cell? (ad.add (j * 6)) = some (.int .u8 (rdK l j).k) := by
  obtain ⟨ad', _, _, _, _, had, g0, _⟩ := E.at_T78 h j (by omega) (by rw [List.length_map]; omega)
  obtain rfl := Option.some.inj had
  rw [rdK_map l j hj, Int.toNat_natCast] at g0
  exact g0
set_option maxRecDepth 100000 in
set_option maxHeartbeats 8000000 in
theorem tokFormat_c {w : World} (A : Option Addr) (c : Nat) (l : List Tk) (hr : Kd.C kTk w A (l.map tkS).length (l.map tkS)) (hc : (l.map tkS).length ≤ c) (hok : ∀ x ∈ l, okTk x) (hlen : (fmtTo l l.length).length ≤ 65536) (hl : l.length < 1073741824) :
    Calls Tryz.prog 44 #[.slice A (l.map tkS).length c] w fun e w' => e = .returned (.tuple #[.string ⟨(fmtTo l l.length).toArray⟩, .int .i64 0]) ∧ Below w.heap.size w w' := by
  have hK := Tryz.underlying78
  have hu := Tryz.underlying97
  obtain ⟨R, hR⟩ : ∃ R, fmtTo l l.length = R := ⟨_, rfl⟩
  rw [hR] at hlen ⊢
  have hlm : (l.map tkS).length = l.length := List.length_map ..
  have HM := Lib.hid hlm
  obtain ⟨n, hn⟩ : ∃ n, (l.map tkS).length = n := ⟨_, rfl⟩
  rw [hn] at hr hc hlm ⊢
  have HNl := Lib.hid hlm
  have HRr := Lib.hid hR
  have HLen := Lib.hid hlen
  have Hok := Lib.hid hok
  clear hlm hn hR hok
  have hb0 := below_alloc (Below.refl _ w) (.cells #[.pointer none, .slice none 0 0] 97)
  have i0 := Lib.hid (Lib.fresh_isBuilder 97 5 w)
  have hnl : n < 1073741824 := by have := HNl.out; omega
  go_enter Tryz.func44, Tryz.ntmps44
  go_wp2
  go_loopg [11] n (fun k v W => ∃ i : Nat, v = .int .i64 i ∧ i + k = n ∧ Hid (Lib.IsBuilder 97 5 w.heap.size w.heap.size (Lib.byteCells (fmtTo l i)) W) ∧ Below w.heap.size w W)
  case atStart => exact ⟨0, rfl, by omega, i0, hb0⟩
  case round =>
    obtain ⟨i, rfl, hi, HI, hB⟩ := hrel
    cases gk with
    | zero =>
      obtain rfl : i = n := by omega
      have hlb : decide ((i : Int) < (i : Int)) = false := decide_eq_false (by omega)
      have hG : decide ((65536 : Int) < ((Lib.byteCells (fmtTo l i)).length : Int)) = false := by
        rw [bc_len, HNl.out, HRr.out]; have := HLen.out; exact decide_eq_false (by omega)
      go_wp2_with (first | (go_at_call 61; refine (Tryz.Builder_Len _ _ _ _ HI.out).mono ?_; rintro e w1 ⟨rfl, rfl⟩) | (go_at_call 62; refine (Tryz.Builder_String_any _ _ _ _ HI.out hB.size).mono ?_; rintro e w2 ⟨rfl, hb2⟩; have hB2 := hB.trans hb2))
      go_ret2
      exact ⟨by rw [HNl.out, HRr.out]; rfl, hB2⟩
    | succ m =>
      have hlt : i < n := by omega
      have hlb : decide ((i : Int) < (n : Int)) = true := decide_eq_true (by omega)
      have hrW : Kd.C kTk wr A (l.map tkS).length (l.map tkS) := by rw [HM.out, ← HNl.out]; exact Kd.C_below hr hB
      have hil : i < l.length := by have := HNl.out; omega
      obtain ⟨ad, A1, c1, A2, c2, rfl, g0, g1, g2, g3, g4, g5, hc1, hC1, hc2, hC2⟩ := E.at_T78 hrW i (by omega) (by have := HM.out; omega)
      obtain ⟨x, hx⟩ : ∃ x, rdK l i = x := ⟨_, rfl⟩
      rw [rdK_map l i hil, hx] at g0 g1 g2 g3 g4 g5 hc1 hC1 hc2 hC2
      obtain ⟨b, r1, b', r2, hb, hr1, hb', hr2⟩ : ∃ b r1 b' r2, decide (x.n < 0) = b ∧ digs x.n.natAbs = r1 ∧ decide (x.d < 0) = b' ∧ digs x.d.natAbs = r2 := ⟨_, _, _, _, rfl, rfl, rfl, rfl⟩
      dsimp only [tkS] at g0 g1 g2 g3 g4 g5 hc1 hC1 hc2 hC2
      rw [hb] at g2; rw [hr1] at g3 hc1 hC1; rw [hb'] at g4; rw [hr2] at g5 hc2 hC2
      rw [Int.toNat_natCast] at g0 g1 g2 g3 g4 g5
      have Hv : Hid (b = decide (x.n < 0) ∧ r1 = digs x.n.natAbs ∧ b' = decide (x.d < 0) ∧ r2 = digs x.d.natAbs) := ⟨hb.symm, hr1.symm, hb'.symm, hr2.symm⟩
      have hu1 := (c_uv hc1 hC1).alloc (tkObj x.k x.t (.bool b) (.slice A1 r1.length c1) (.bool b') (.slice A2 r2.length c2))
      have hu2 := (c_uv hc2 hC2).alloc (tkObj x.k x.t (.bool b) (.slice A1 r1.length c1) (.bool b') (.slice A2 r2.length c2))
      have hokx : okTk x := by rw [← hx]; exact Hok.out _ (by unfold rdK; rw [List.getD_eq_getElem?_getD, List.getElem?_eq_getElem hil]; exact List.getElem_mem hil)
      have HT := Lib.hid (fun (W : World) (ok : Nat → Prop) (v : Value) (h : TV W ok v x) => text_c h hokx)
      have HX := Lib.hid hx
      clear hx hb hr1 hb' hr2 hc1 hC1 hc2 hC2 hokx
      have kx := blk_tk (W := wr) x.k x.t (.bool b) (.slice A1 r1.length c1) (.bool b') (.slice A2 r2.length c2)
      have hB0 := below_alloc hB (tkObj x.k x.t (.bool b) (.slice A1 r1.length c1) (.bool b') (.slice A2 r2.length c2))
      have hy0 := blk_cell kx 0; have hy1 := blk_cell kx 1; have hy2 := blk_cell kx 2; have hy3 := blk_cell kx 3; have hy4 := blk_cell kx 4; have hy5 := blk_cell kx 5; have hyf0 := blk_frozen kx 0; have hyf1 := blk_frozen kx 1; have hyf2 := blk_frozen kx 2; have hyf3 := blk_frozen kx 3; have hyf4 := blk_frozen kx 4; have hyf5 := blk_frozen kx 5
      have hfl := fmtTo_le l (show i + 1 ≤ l.length from hil)
      rw [HRr.out] at hfl
      have hFs : fmtTo l (i + 1) = fmtTo l i ++ ((if 0 < i ∧ (rdK l (i - 1)).k ≠ 1 ∧ x.k ≠ 2 then [32] else []) ++ (textB x).data.toList) := by rw [← HX.out]; exact rfl
      have HN : Hid ((fmtTo l i).length + 1 + (textB x).size ≤ 100000) := by
        have h2 := HLen.out
        rw [hFs, List.length_append, List.length_append] at hfl
        have h3 : (textB x).data.toList.length = (textB x).size := by rw [Array.length_toList]; rfl
        show _ ≤ _
        omega
      clear hfl
      have hw3 : wrap64 ((i : Int) + 1) = ((i + 1 : Nat) : Int) := w64succ i (by omega)
      by_cases hi0 : i = 0
      · have hz0 : decide ((0 : Int) < (i : Int)) = false := decide_eq_false (by omega)
        have hzn : decide (0 < i) = false := decide_eq_false (by omega)
        have HF : Hid (fmtTo l (i + 1) = fmtTo l i ++ ([] ++ (textB x).data.toList)) := by rw [hFs, if_neg (fun h => absurd h.1 (by omega))]; exact rfl
        clear hFs hi0
        go_wp2_with (first | (go_at_call 60; refine (writeString_c _ _ _ _ _ I1.out (by rw [bc_len]; have := HN.out; omega) hB1.size).mono ?_; rintro e w3 ⟨rfl, I3, hb3⟩; have hB3 := hB1.trans hb3) | (go_at_call 58; refine (HT.out _ _ _ ⟨b, A1, r1, c1, b', A2, r2, c2, rfl, Hv, hu1, hu2⟩).mono ?_; rintro e w1 ⟨rfl, hb1⟩; have hB1 := below_step hB0 hb1; have i1 := blk_below kx hb1; have I1 := Lib.hid (bld_below (bld_below HI.out (below_alloc (Below.refl _ wr) (tkObj x.k x.t (.bool b) (.slice A1 r1.length c1) (.bool b') (.slice A2 r2.length c2)))) hb1); have hz0 := blk_cell i1 0; have hz1 := blk_cell i1 1; have hz2 := blk_cell i1 2; have hz3 := blk_cell i1 3; have hz4 := blk_cell i1 4; have hz5 := blk_cell i1 5; have hzf0 := blk_frozen i1 0; have hzf1 := blk_frozen i1 1; have hzf2 := blk_frozen i1 2; have hzf3 := blk_frozen i1 3; have hzf4 := blk_frozen i1 4; have hzf5 := blk_frozen i1 5))
        go_roundg m
        case measure => omega
        case rel => exact ⟨i + 1, by first | exact congrArg (Value.int .i64) hw3 | exact congrArg (Value.int .i64) (Int.natCast_succ i).symm, by omega, by rw [HF.out, List.nil_append, Lib.byteCells_append, ← Lib.strCells_eq]; exact .inr I3, hB3⟩
      · obtain ⟨j, HJ⟩ : ∃ j, Hid (i = j + 1) := ⟨i - 1, by show i = i - 1 + 1; omega⟩
        have hz0 : decide ((0 : Int) < (i : Int)) = true := decide_eq_true (by omega)
        have hzn : decide (0 < i) = true := decide_eq_true (by omega)
        have hw : wrap64 ((i : Int) - 1) = (j : Int) := by have h2 := HJ.out; rw [w64in _ (by omega) (by omega)]; omega
        have hw2 : IntKind.i64.wrap ((i : Int) - 1) = (j : Int) := by have h := hw; unfold wrap64 at h; rw [IntKind.wrap_i64]; exact h
        have HJl : Hid (j < l.length) := by have h2 := HJ.out; show _ < _; omega
        have hj1 : (0 : Int) ≤ (j : Int) := by omega
        have hj2 : (j : Int) < (n : Int) := by have h2 := HJ.out; omega
        obtain ⟨y, hy⟩ : ∃ y, rdK l j = y := ⟨_, rfl⟩
        have HY := Lib.hid hy
        rw [show i - 1 = j by have h2 := HJ.out; omega, hy] at hFs
        clear hy
        by_cases h1 : y.k = 1
        · have d1 : (y.k != 1) = false := by rw [h1]; rfl
          have HF : Hid (fmtTo l (i + 1) = fmtTo l i ++ ([] ++ (textB x).data.toList)) := by rw [hFs, if_neg (fun h => h.2.1 h1)]; exact rfl
          clear hFs h1 hi0
          go_wp2_with (first | (go_at_call 60; refine (writeString_c _ _ _ _ _ I1.out (by rw [bc_len]; have := HN.out; omega) hB1.size).mono ?_; rintro e w3 ⟨rfl, I3, hb3⟩; have hB3 := hB1.trans hb3) | (go_at_call 58; refine (HT.out _ _ _ ⟨b, A1, r1, c1, b', A2, r2, c2, rfl, Hv, hu1, hu2⟩).mono ?_; rintro e w1 ⟨rfl, hb1⟩; have hB1 := below_step hB0 hb1; have i1 := blk_below kx hb1; have I1 := Lib.hid (bld_below (bld_below HI.out (below_alloc (Below.refl _ wr) (tkObj x.k x.t (.bool b) (.slice A1 r1.length c1) (.bool b') (.slice A2 r2.length c2)))) hb1); have hz0 := blk_cell i1 0; have hz1 := blk_cell i1 1; have hz2 := blk_cell i1 2; have hz3 := blk_cell i1 3; have hz4 := blk_cell i1 4; have hz5 := blk_cell i1 5; have hzf0 := blk_frozen i1 0; have hzf1 := blk_frozen i1 1; have hzf2 := blk_frozen i1 2; have hzf3 := blk_frozen i1 3; have hzf4 := blk_frozen i1 4; have hzf5 := blk_frozen i1 5; have q0 := prevC (Kd.C_below (Kd.C_alloc hrW (tkObj x.k x.t (.bool b) (.slice A1 r1.length c1) (.bool b') (.slice A2 r2.length c2))) hb1) j HJl.out; rw [HY.out] at q0))
          go_roundg m
          case measure => omega
          case rel => exact ⟨i + 1, by first | exact congrArg (Value.int .i64) hw3 | exact congrArg (Value.int .i64) (Int.natCast_succ i).symm, by omega, by rw [HF.out, List.nil_append, Lib.byteCells_append, ← Lib.strCells_eq]; exact .inr I3, hB3⟩
        · have d1 : (y.k != 1) = true := bne_iff_ne.2 h1
          by_cases h2 : x.k = 2
          · have d2 : (x.k != 2) = false := by rw [h2]; rfl
            have HF : Hid (fmtTo l (i + 1) = fmtTo l i ++ ([] ++ (textB x).data.toList)) := by rw [hFs, if_neg (fun h => h.2.2 h2)]; exact rfl
            clear hFs h1 h2 hi0
            go_wp2_with (first | (go_at_call 60; refine (writeString_c _ _ _ _ _ I1.out (by rw [bc_len]; have := HN.out; omega) hB1.size).mono ?_; rintro e w3 ⟨rfl, I3, hb3⟩; have hB3 := hB1.trans hb3) | (go_at_call 58; refine (HT.out _ _ _ ⟨b, A1, r1, c1, b', A2, r2, c2, rfl, Hv, hu1, hu2⟩).mono ?_; rintro e w1 ⟨rfl, hb1⟩; have hB1 := below_step hB0 hb1; have i1 := blk_below kx hb1; have I1 := Lib.hid (bld_below (bld_below HI.out (below_alloc (Below.refl _ wr) (tkObj x.k x.t (.bool b) (.slice A1 r1.length c1) (.bool b') (.slice A2 r2.length c2)))) hb1); have hz0 := blk_cell i1 0; have hz1 := blk_cell i1 1; have hz2 := blk_cell i1 2; have hz3 := blk_cell i1 3; have hz4 := blk_cell i1 4; have hz5 := blk_cell i1 5; have hzf0 := blk_frozen i1 0; have hzf1 := blk_frozen i1 1; have hzf2 := blk_frozen i1 2; have hzf3 := blk_frozen i1 3; have hzf4 := blk_frozen i1 4; have hzf5 := blk_frozen i1 5; have q0 := prevC (Kd.C_below (Kd.C_alloc hrW (tkObj x.k x.t (.bool b) (.slice A1 r1.length c1) (.bool b') (.slice A2 r2.length c2))) hb1) j HJl.out; rw [HY.out] at q0))
            go_roundg m
            case measure => omega
            case rel => exact ⟨i + 1, by first | exact congrArg (Value.int .i64) hw3 | exact congrArg (Value.int .i64) (Int.natCast_succ i).symm, by omega, by rw [HF.out, List.nil_append, Lib.byteCells_append, ← Lib.strCells_eq]; exact .inr I3, hB3⟩
          · have d2 : (x.k != 2) = true := bne_iff_ne.2 h2
            have HF : Hid (fmtTo l (i + 1) = fmtTo l i ++ ([32] ++ (textB x).data.toList)) := by rw [hFs, if_pos ⟨by omega, h1, h2⟩]; exact rfl
            clear hFs h1 h2 hi0
            go_wp2_with (first | (go_at_call 60; refine (writeString_c _ _ _ _ _ (.inr I2) (by rw [List.length_append, bc_len, List.length_singleton]; have := HN.out; omega) hB2.size).mono ?_; rintro e w3 ⟨rfl, I3, hb3⟩; have hB3 := hB2.trans hb3) | (go_at_call 59; refine (writeByte_c _ _ _ _ _ I1.out (by rw [bc_len]; have := HN.out; omega) hB1.size).mono ?_; rintro e w2 ⟨rfl, I2, hb2⟩; have hB2 := hB1.trans hb2) | (go_at_call 58; refine (HT.out _ _ _ ⟨b, A1, r1, c1, b', A2, r2, c2, rfl, Hv, hu1, hu2⟩).mono ?_; rintro e w1 ⟨rfl, hb1⟩; have hB1 := below_step hB0 hb1; have i1 := blk_below kx hb1; have I1 := Lib.hid (bld_below (bld_below HI.out (below_alloc (Below.refl _ wr) (tkObj x.k x.t (.bool b) (.slice A1 r1.length c1) (.bool b') (.slice A2 r2.length c2)))) hb1); have hz0 := blk_cell i1 0; have hz1 := blk_cell i1 1; have hz2 := blk_cell i1 2; have hz3 := blk_cell i1 3; have hz4 := blk_cell i1 4; have hz5 := blk_cell i1 5; have hzf0 := blk_frozen i1 0; have hzf1 := blk_frozen i1 1; have hzf2 := blk_frozen i1 2; have hzf3 := blk_frozen i1 3; have hzf4 := blk_frozen i1 4; have hzf5 := blk_frozen i1 5; have q0 := prevC (Kd.C_below (Kd.C_alloc hrW (tkObj x.k x.t (.bool b) (.slice A1 r1.length c1) (.bool b') (.slice A2 r2.length c2))) hb1) j HJl.out; rw [HY.out] at q0))
            go_roundg m
            case measure => omega
            case rel => exact ⟨i + 1, by first | exact congrArg (Value.int .i64) hw3 | exact congrArg (Value.int .i64) (Int.natCast_succ i).symm, by omega, by rw [HF.out, Lib.byteCells_append, Lib.byteCells_append, ← Lib.strCells_eq, ← List.append_assoc]; exact .inr I3, hB3⟩
end Ar
end Go.Proofs.YtnghcgmkncbnnaaGreat
end
section
namespace Go.Proofs.YtnghcgmkncbnnaaGreat
open Go.RowKit Go.Proofs.YtnghcgmkncbnnaaGreatW.PrintWords Go.Proofs.YtnghcgmkncbnnaaGreatW.PrintLast Go.Proofs.YtnghcgmkncbnnaaGreatW.PrintMore
namespace Ar
open Wd
def tkN (n : Int) : Tk := ⟨4, ⟨#[]⟩, n, 0⟩
def tkO : Tk := ⟨1, ⟨#[]⟩, 0, 0⟩
def tkC : Tk := ⟨2, ⟨#[]⟩, 0, 0⟩
def brk (l : List Tk) : List Tk := tkO :: (l ++ [tkC])
theorem uv_F {W : World} {ok : Nat → Prop} {A : Option Addr} {r : List Int} {c : Nat} (h : Uv W ok (.slice A r.length c) r) : r.length ≤ c ∧ Kd.F (Kd.int .u32) W ok A r.length r := by
  refine ⟨?_, Kd.V_F h⟩
  obtain ⟨A', c', hv, hl, _⟩ := h
  injection hv with _ _ h3
  omega
theorem tv_FK {W : World} {ok : Nat → Prop} {x : Tk} {b b' : Bool} {A A' : Option Addr} {r r' : List Int} {c c' : Nat} (H : Hid (b = decide (x.n < 0) ∧ r = digs x.n.natAbs ∧ b' = decide (x.d < 0) ∧ r' = digs x.d.natAbs)) (hu : Uv W ok (.slice A r.length c) r) (hu' : Uv W ok (.slice A' r'.length c') r') :
    Kd.FK kTk W ok (tkS x) [.int .u8 x.k, .string x.t, .bool b, .slice A r.length c, .bool b', .slice A' r'.length c'] := by
  obtain ⟨rfl, rfl, rfl, rfl⟩ := H.out
  exact E.k78_mkF W ok (tkS x) (uv_F hu).1 (uv_F hu).2 (uv_F hu').1 (uv_F hu').2
theorem add0 (g m : Nat) : (⟨g, 0, none⟩ : Addr).add m = ⟨g, m, none⟩ := by unfold Addr.add; split <;> simp_all
theorem lit2_V {W : World} {ok : Nat → Prop} {x y : Tk} {cx cy : List Value} (hx : Kd.FK kTk W ok (tkS x) cx) (hy : Kd.FK kTk W ok (tkS y) cy) (base : Nat) :
    Kd.V kTk 78 (W.alloc (.cells (cx ++ cy).toArray 78)) base (fun k => ok k ∨ k = W.heap.size) (.slice (some ⟨W.heap.size, 0, none⟩) 2 2) [tkS x, tkS y] := by
  have lx : cx.length = 6 := kTk.K_len (Kd.FK_now hx)
  have ly : cy.length = 6 := kTk.K_len (Kd.FK_now hy)
  have hx1 := Kd.FK_below hx (below_alloc (Below.refl _ W) (.cells (cx ++ cy).toArray 78))
  have hy1 := Kd.FK_below hy (below_alloc (Below.refl _ W) (.cells (cx ++ cy).toArray 78))
  refine Kd.V_mk (xs := [tkS x, tkS y]) (A := some ⟨W.heap.size, 0, none⟩) (Nat.le_refl 2) (fun W' hW => ⟨rfl, (by decide : 2 ≤ 9223372036854775807), fun _ => ⟨_, rfl, fun j p hp => ?_⟩⟩)
  have hb : W'.heap[W.heap.size]? = some (.cells (cx ++ cy).toArray 78 (0, 0)) := (hW _ (.inr rfl) (by rw [World.size_alloc]; omega)).trans (blk_new W _)
  match j, hp with
  | 0, hp =>
    obtain rfl : tkS x = p := by simpa using hp
    refine ⟨cx, lx, hx1 W' (fun k hk hl => hW k (.inl hk) hl), fun i u hu => ?_⟩
    rw [add0, blk_cell hb]
    have hi : i < cx.length := (List.getElem?_eq_some_iff.1 hu).1
    simp only [Nat.zero_mul, Nat.zero_add, List.getElem?_toArray]
    rw [List.getElem?_append_left hi, hu]
  | 1, hp =>
    obtain rfl : tkS y = p := by simpa using hp
    refine ⟨cy, ly, hy1 W' (fun k hk hl => hW k (.inl hk) hl), fun i u hu => ?_⟩
    rw [add0, blk_cell hb]
    have e : 1 * kTk.sz + i = cx.length + i := by rw [lx]; rfl
    rw [e]
    simp only [List.getElem?_toArray]
    rw [List.getElem?_append_right (by omega), Nat.add_sub_cancel_left, hu]
  | j + 2, hp => simp at hp
set_option maxRecDepth 100000 in
set_option maxHeartbeats 4000000 in
theorem num_c {w : World} (n : Int) (hn : -9223372036854775808 ≤ n ∧ n < 9223372036854775808) :
    Calls Tryz.prog 42 #[.int .i64 n] w fun e w' => ∃ v, e = .returned v ∧ TV w' (fun k => w.heap.size ≤ k) v (tkN n) ∧ Below w.heap.size w w' := by
  have hK := Tryz.underlying78
  have hb0 := below_alloc (Below.refl _ w) (.cells nilT 78)
  have k0 := blk_new w (.cells nilT 78)
  have HF := Lib.hid (QfromInt_c (w := w.alloc (.cells nilT 78)) n hn.1 hn.2)
  go_enter Tryz.func42, Tryz.ntmps42
  go_wp2_with (first | (go_at_call 57; refine HF.out.mono ?_; rintro e w1 ⟨v, rfl, hv, hb1⟩; obtain ⟨b, A, r, c, b', A', r', c', rfl, H, hu, hu'⟩ := hv; have hB1 := below_step hb0 hb1; have i1 := blk_below k0 hb1; have hz0 := blk_cell i1 0; have hz1 := blk_cell i1 1; have hz2 := blk_cell i1 2; have hz3 := blk_cell i1 3; have hz4 := blk_cell i1 4; have hz5 := blk_cell i1 5; have hzf0 := blk_frozen i1 0; have hzf1 := blk_frozen i1 1; have hzf2 := blk_frozen i1 2; have hzf3 := blk_frozen i1 3; have hzf4 := blk_frozen i1 4; have hzf5 := blk_frozen i1 5) | ((with_reducible refine gate_store (t := 78) (p := 2) rfl ?_); refine store_op rfl 78 _ _ rfl rfl w.heap.size #[.int .u8 4, .string ⟨#[]⟩, .bool b, .slice A r.length c, .bool b', .slice A' r'.length c'] nilT rfl rfl 78 i1 (by kernel_rfl) rfl (by simp [Value.oneCell']) ?_; intro w2 i2 hb2; have hB2 := But.below hB1 (Nat.le_refl _) hb2))
  refine bodyPost_ret (results_cell_row rfl _ _ w.heap.size 78 #[.int .u8 4, .string ⟨#[]⟩, .bool b, .slice A r.length c, .bool b', .slice A' r'.length c'] (0, 0) _ rfl i2 Tryz.underlying78 rfl (by kernel_rfl)) rfl ?_
  have hne : ∀ j, (w.alloc (.cells nilT 78)).heap.size ≤ j → j ≠ w.heap.size := fun j hj => by rw [World.size_alloc] at hj; omega
  exact ⟨_, rfl, ⟨b, A, r, c, b', A', r', c', rfl, H, (hu.but hb2 hne).mono (fun j hj => by rw [World.size_alloc] at hj; omega), (hu'.but hb2 hne).mono (fun j hj => by rw [World.size_alloc] at hj; omega)⟩, hB2⟩
theorem brk_f (l : List Tk) (hl : l.length < 1000000000) : E.bidtext_bracketed.f (l.map tkS) = some ((brk l).map tkS) := by
  unfold E.bidtext_bracketed.f brk
  simp only [Option.bind_some, List.length_map, List.length_cons, List.length_nil, List.length_append]
  rw [if_pos (by omega), if_pos (by omega)]
  simp only [List.map_cons, List.map_append, List.map_nil, List.cons_append, List.nil_append]
  rfl
theorem brk_c {w : World} {ok : Nat → Prop} (A : Option Addr) (c : Nat) (l : List Tk) (hs : Kd.V kTk 78 w w.heap.size ok (.slice A (l.map tkS).length c) (l.map tkS)) (hl : l.length < 1000000000) :
    Calls Tryz.prog 43 #[.slice A (l.map tkS).length c] w fun e w' => ∃ v, e = .returned v ∧ Kd.N kTk 78 w' w.heap.size (fun k => ok k ∨ w.heap.size ≤ k) v ((brk l).map tkS) ∧ Below w.heap.size w w' :=
  E.bidtext_bracketed.calls ok A c _ _ w hs (brk_f l hl)
end Ar
end Go.Proofs.YtnghcgmkncbnnaaGreat
end
section
namespace Go.Proofs.YtnghcgmkncbnnaaGreat
open Go.RowKit Go.Proofs.YtnghcgmkncbnnaaGreatW.PrintWords Go.Proofs.YtnghcgmkncbnnaaGreatW.PrintLast Go.Proofs.YtnghcgmkncbnnaaGreatW.PrintMore
namespace Ar
open Wd
def i64r (n : Int) : Prop := -9223372036854775808 ≤ n ∧ n < 9223372036854775808
def tkW (word : ByteArray) : Tk := ⟨3, word, 0, 0⟩
def stT (s : Stp) : List Tk := brk [tkN s.f0, tkN s.f1]
def showT (word : ByteArray) (ns : List Int) (ls : List Stp) : List Tk := brk (tkW word :: (ns.map tkN ++ ls.flatMap stT))
theorem rd_int {W : World} {A : Option Addr} {ns : List Int} (h : (Kd.int .i64).C W A ns.length ns) (i : Nat) (hi : i < ns.length) : ∃ ad, A = some ad ∧ W.cell? (ad.add i) = some (.int .i64 (ns.getD i 0)) := by
  obtain ⟨ad, c, e, hl, hK, hc⟩ := Kd.C_get h 0 (i : Int) (by omega) (by omega)
  rw [Int.toNat_natCast] at hc hK
  refine ⟨ad, e, ?_⟩
  obtain rfl : c = [.int .i64 (ns.getD i 0)] := hK
  have := hc 0 _ rfl
  simpa [show (Kd.int .i64).sz = 1 from rfl] using this
theorem take_snocI {α : Type} (l : List α) (i : Nat) (d : α) (h : i < l.length) : l.take (i + 1) = l.take i ++ [l.getD i d] := by
  rw [List.take_add_one, List.getElem?_eq_getElem h, List.getD_eq_getElem?_getD, List.getElem?_eq_getElem h]; rfl
theorem stT_len (s : Stp) : (stT s).length = 4 := rfl
theorem flat_len (ls : List Stp) : (ls.flatMap stT).length = 4 * ls.length := by
  induction ls with
  | nil => rfl
  | cons s ls ih => rw [List.flatMap_cons, List.length_append, ih, stT_len, List.length_cons]; omega
theorem brk_r {w : World} {ok : Nat → Prop} (A : Option Addr) (c : Nat) (l : List Tk) (hs : Kd.V kTk 78 w w.heap.size ok (.slice A (l.map tkS).length c) (l.map tkS)) (hl : l.length < 1000000000) :
    Calls Tryz.prog 43 #[.slice A (l.map tkS).length c] w fun e w' => ∃ (A' : Option Addr) (c' : Nat), e = .returned (.slice A' ((brk l).map tkS).length c') ∧ ((brk l).map tkS).length ≤ c' ∧ Kd.C kTk w' A' ((brk l).map tkS).length ((brk l).map tkS) ∧ Below w.heap.size w w' :=
  (brk_c A c l hs hl).mono fun e w' ⟨v, he, hN, hb⟩ => by
    obtain ⟨A', c', rfl, hc, hC⟩ := Kd.N_reads hN
    exact ⟨A', c', he, hc, hC, hb⟩
theorem fsz {W : World} {o : Obj} {k : Nat} (h : (W.alloc o).drew.heap.size ≤ k) : W.heap.size ≤ k := by
  have : (W.alloc o).drew.heap.size = W.heap.size + 1 := World.size_alloc W o
  omega
theorem below_lit {W W' : World} {o : Obj} (h : Below (W.alloc o).heap.size (W.alloc o) W') : Below W.heap.size W W' := below_step (below_alloc (Below.refl _ W) o) h
set_option maxRecDepth 100000 in
set_option maxHeartbeats 8000000 in
theorem show_c {w : World} (word : ByteArray) (ns : List Int) (ls : List Stp) (A1 A2 : Option Addr) (c1 c2 : Nat)
    (hr1 : Kd.C kStp w A1 ls.length ls) (hc1 : ls.length ≤ c1) (hr2 : (Kd.int .i64).C w A2 ns.length ns) (hc2 : ns.length ≤ c2)
    (hn : ∀ n ∈ ns, i64r n) (hs : ∀ s ∈ ls, i64r s.f0 ∧ i64r s.f1) (hl1 : ls.length < 1000000) (hl2 : ns.length < 1000000)
    (hok : ∀ x ∈ showT word ns ls, okTk x) (hlen : (fmtTo (showT word ns ls) (showT word ns ls).length).length ≤ 65536) :
    Calls Tryz.prog 23 #[.string word, .slice A1 ls.length c1, .slice A2 ns.length c2] w fun e w' => e = .returned (.tuple #[.string ⟨(fmtTo (showT word ns ls) (showT word ns ls).length).toArray⟩, .int .i64 0]) ∧ Below w.heap.size w w' := by
  have hK := Tryz.underlying78
  have hS := Tryz.underlying60
  have HFm := Lib.hid (fun (W : World) A c h hc => tokFormat_c (w := W) A c (showT word ns ls) h hc hok hlen (by unfold showT brk; simp only [List.length_cons, List.length_append, List.length_map, flat_len, List.length_nil]; omega))
  obtain ⟨R, hR⟩ : ∃ R : ByteArray, R = ⟨(fmtTo (showT word ns ls) (showT word ns ls).length).toArray⟩ := ⟨_, rfl⟩
  rw [← hR] at HFm ⊢
  clear hR hok hlen
  have HBk := Lib.hid (fun (W : World) (ok : Nat → Prop) (A : Option Addr) (c : Nat) h => brk_r (w := W) (ok := ok) A c (tkW word :: (ns.map tkN ++ ls.flatMap stT)) h (by simp only [List.length_cons, List.length_append, List.length_map, flat_len]; omega))
  obtain ⟨X, hX⟩ : ∃ X, (showT word ns ls).map tkS = X := ⟨_, rfl⟩
  obtain ⟨Y, hY⟩ : ∃ Y, (tkW word :: (ns.map tkN ++ ls.flatMap stT)).map tkS = Y := ⟨_, rfl⟩
  rw [hX] at HFm
  rw [hY, show (brk (tkW word :: (ns.map tkN ++ ls.flatMap stT))).map tkS = X from hX] at HBk
  have HY := Lib.hid hY
  clear hX hY
  have Hn := Lib.hid hn
  have Hs := Lib.hid hs
  clear hn hs
  go_enter Tryz.func23, Tryz.ntmps23
  go_wp2_with (first | ((with_reducible refine gate_dst (N := 15) rfl ?_); refine Kd.N_lit kTk (w0 := w) w.heap.size 78 rfl (N' := 15) rfl (xs := [tkS (tkW word)]) (inner := [.int .u8 3, .string word, .bool false, .slice none 0 0, .bool false, .slice none 0 0]) (ok := fun k => w.heap.size ≤ k) (okp := fun _ => False) ?hr (Reps.c6 (E.k78_mkF _ _ (tkS (tkW word)) (Nat.le_refl _) (Kd.F_nil _ _ _) (Nat.le_refl _) (Kd.F_nil _ _ _)) (Reps.none _ _)) (fun _ h => h.elim) (Nat.le_refl _) (Below.refl _ _) (Nat.le_refl _) (by simp) ?_; (case hr => first | (go_simp; done) | (go_simp; rfl)); intro v0 w0 hN0 hb0 _ _))
  go_loopg [8, 18] ns.length (fun k v8 v W => ∃ i : Nat, v = .int .i64 i ∧ i + k = ns.length ∧ Kd.N kTk 78 W w.heap.size (fun k => w.heap.size ≤ k) v8 ((tkW word :: (ns.take i).map tkN).map tkS) ∧ Below w.heap.size w W)
  case atStart => exact ⟨0, rfl, by omega, hN0, hb0⟩
  case round =>
    obtain ⟨i, rfl, hi, hN, hB⟩ := hrel
    cases gk with
    | zero =>
      obtain rfl : i = ns.length := by omega
      have hlb : decide ((ns.length : Int) < (ns.length : Int)) = false := decide_eq_false (by omega)
      rw [List.take_length] at hN
      go_wp2
      go_loopg [8, 30] ls.length (fun k v8 v W => ∃ i : Nat, v = .int .i64 i ∧ i + k = ls.length ∧ Kd.N kTk 78 W w.heap.size (fun k => w.heap.size ≤ k) v8 ((tkW word :: (ns.map tkN ++ (ls.take i).flatMap stT)).map tkS) ∧ Below w.heap.size w W)
      case atStart => exact ⟨0, rfl, by omega, by rw [List.take_zero, List.flatMap_nil, List.append_nil]; exact hN, hB⟩
      case round =>
        obtain ⟨i, rfl, hi, hN, hB⟩ := hrel
        cases gk with
        | zero =>
          obtain rfl : i = ls.length := by omega
          have hlb : decide ((ls.length : Int) < (ls.length : Int)) = false := decide_eq_false (by omega)
          rw [List.take_length, HY.out] at hN
          obtain ⟨A8, c8, rfl⟩ := Kd.N_slice hN
          go_wp2_with (first | (go_at_call 43; refine (HBk.out _ _ A8 c8 (Kd.N_V hN)).mono ?_; rintro e w1 ⟨A9, c9, rfl, hc9, hC9, hb1⟩; have hB1 := below_step hB hb1) | (go_at_call 44; refine (HFm.out _ A9 c9 hC9 hc9).mono ?_; rintro e w2 ⟨rfl, hb2⟩; have hB2 := below_step hB1 hb2))
          go_ret2
          exact ⟨rfl, hB2⟩
        | succ n =>
          have hlt : i < ls.length := by omega
          have hlb : decide ((i : Int) < (ls.length : Int)) = true := decide_eq_true (by omega)
          obtain ⟨ad, rfl, g0, g1⟩ := E.at_T60 (Kd.C_below hr1 hB) i (by omega) (by omega)
          obtain ⟨⟨x0, x1⟩, hx⟩ : ∃ x, rdS ls i = x := ⟨_, rfl⟩
          rw [show E.rd_T60 ls ((i : Nat) : Int) = ⟨x0, x1⟩ from hx] at g0 g1
          dsimp only at g0 g1
          rw [Int.toNat_natCast] at g0 g1
          have hxg : ls.getD i E.z60 = ⟨x0, x1⟩ := hx
          have hxr : i64r x0 ∧ i64r x1 := by
            have := Hs.out (ls.getD i E.z60) (by rw [List.getD_eq_getElem?_getD, List.getElem?_eq_getElem hlt]; exact List.getElem_mem hlt)
            rw [hxg] at this; exact this
          have hts := take_snocI ls i E.z60 hlt
          rw [hxg] at hts
          have HT := Lib.hid hts
          have HQ0 := Lib.hid (fun (W : World) => num_c (w := W) x0 hxr.1)
          have HQ1 := Lib.hid (fun (W : World) => num_c (w := W) x1 hxr.2)
          have hw3 : wrap64 ((i : Int) + 1) = ((i + 1 : Nat) : Int) := w64succ i (by omega)
          have hfl : (tkW word :: (ns.map tkN ++ (ls.take i).flatMap stT)).length ≤ 6000000 := by simp only [List.length_cons, List.length_append, List.length_map, flat_len, List.length_take]; omega
          have HL := Lib.hid hfl
          clear hx hxg hts hxr hfl
          have kx := blk_new wr (.cells #[.int .i64 x0, .int .i64 x1] 60)
          have hB1 := below_alloc hB (.cells #[.int .i64 x0, .int .i64 x1] 60)
          have hN1 := Kd.N_alloc hN (.cells #[.int .i64 x0, .int .i64 x1] 60)
          have hNl := Kd.N_lt hN
          have hk0 := blk_cell kx 0; have hk1 := blk_cell kx 1; have hkf0 := blk_frozen kx 0; have hkf1 := blk_frozen kx 1
          go_wp2_with fail
          first | go_region_held3 (fun w' => w'.cell? ⟨wr.heap.size, 0, none⟩ = some (.int .i64 x0) ∧ w'.cell? ⟨wr.heap.size, 1, none⟩ = some (.int .i64 x1)) (first | exact ⟨hk0, hk1⟩ | exact ⟨blk_cell ka 0, blk_cell ka 1⟩ | exact ⟨blk_cell kb 0, blk_cell kb 1⟩ | exact ⟨blk_cell (blk_alloc kb _) 0, blk_cell (blk_alloc kb _) 1⟩ | exact ⟨blk_cell kc 0, blk_cell kc 1⟩ | exact ⟨blk_cell kd 0, blk_cell kd 1⟩) (first | (go_at_call_of 42 (Value.int .i64 x0); refine (HQ0.out _).mono ?_; rintro e w1 ⟨v1, rfl, hv1, hb1⟩; obtain ⟨p1, B1, r1, d1, p1', B1', r1', d1', rfl, H1, hu1, hu1'⟩ := hv1; have hBa := below_step (below_drew hB1) hb1; have ka := blk_below (blk_drew kx) hb1; have hNa := Kd.N_below (Kd.N_drew hN1) hb1) | (go_at_call_of 42 (Value.int .i64 x1); refine (HQ1.out _).mono ?_; rintro e w2 ⟨v2, rfl, hv2, hb2⟩; obtain ⟨p2, B2, r2, d2, p2', B2', r2', d2', rfl, H2, hu2, hu2'⟩ := hv2; have hBb := below_step hBa hb2; have kb := blk_below ka hb2; have hNb := Kd.N_below hNa hb2; have hsa := hb1.size; have F1 := Kd.FK_mono (ok' := fun k => wr.heap.size ≤ k) (Kd.FK_below (tv_FK H1 hu1 hu1') hb2) (fun k hk => fsz hk); have F2 := Kd.FK_mono (ok' := fun k => wr.heap.size ≤ k) (tv_FK H2 hu2 hu2') (fun k hk => Nat.le_trans (fsz hsa) hk)) | (go_at_call 43; refine (brk_c (some ⟨w2.heap.size, 0, none⟩) 2 [tkN x0, tkN x1] (lit2_V F1 F2 _) (show 2 < 1000000000 by decide)).mono ?_; rintro e w3 ⟨v3, rfl, hN3, hb3⟩; have hb3' := below_lit hb3; have hBc := below_step hBb hb3'; have kc := blk_below kb hb3'; have hNc := Kd.N_below hNb hb3'; have hsb : wr.heap.size ≤ w2.heap.size := Nat.le_of_lt (blk_lt kb); obtain ⟨A3, c3, rfl⟩ := Kd.N_slice hN3) | (refine Kd.N_append_rows_step kTk (w0 := w3) w.heap.size (by rfl) (.tmp 34) (.tmp 42) 79 78 (.agg #[.int .u8 0, .string ⟨#[]⟩, .bool false, .slice none 0 0, .bool false, .slice none 0 0]) 88 rfl Tryz.underlying79 E.info78 rfl (by decide) (by decide) _ _ ((brk [tkN x0, tkN x1]).map tkS) A3 _ c3 (fun k => w.heap.size ≤ k) (fun k => wr.heap.size ≤ k) rfl rfl hNc (Kd.F_mono (Kd.N_F hN3) (fun k hk => by rw [World.size_alloc] at hk; omega)) (fun k hk => ⟨Nat.le_trans hB.size hk, fun he => absurd (hNl k he.symm) (by omega)⟩) (fun k hk => Nat.le_trans hBc.size hk) (Below.refl _ _) hBc.size (by rw [List.length_map]; have := HL.out; simp only [brk, List.length_map, List.length_cons, List.length_append, List.length_nil] at this ⊢; omega) ?_; intro v4 w4 hN4 hb4 hg4 _; have kd := blk_grown kc hg4 (fun he => absurd (hNl _ he.symm) (Nat.lt_irrefl _)))) | fail
          go_wp2
          go_roundg n
          case measure => omega
          case rel => exact ⟨i + 1, by first | exact congrArg (Value.int .i64) hw3 | exact congrArg (Value.int .i64) (Int.natCast_succ i).symm, by omega, by rw [HT.out, List.flatMap_append, ← List.append_assoc, ← List.cons_append, List.map_append]; exact hN4, hBc.trans hb4⟩
    | succ n =>
      have hlt : i < ns.length := by omega
      have hlb : decide ((i : Int) < (ns.length : Int)) = true := decide_eq_true (by omega)
      obtain ⟨ad, rfl, g0⟩ := rd_int (Kd.C_below hr2 hB) i hlt
      obtain ⟨x, hx⟩ : ∃ x, ns.getD i 0 = x := ⟨_, rfl⟩
      rw [hx] at g0
      have hxr : i64r x := by rw [← hx]; exact Hn.out _ (by rw [List.getD_eq_getElem?_getD, List.getElem?_eq_getElem hlt]; exact List.getElem_mem hlt)
      have hts := take_snocI ns i 0 hlt
      rw [hx] at hts
      have HT := Lib.hid hts
      have HQ := Lib.hid (num_c (w := wr) x hxr)
      have hw3 : wrap64 ((i : Int) + 1) = ((i + 1 : Nat) : Int) := w64succ i (by omega)
      clear hx hts hxr
      go_wp2_with (first | (go_at_call 42; refine HQ.out.mono ?_; rintro e w1 ⟨v, rfl, hv, hb1⟩; obtain ⟨b, A, r, c, b', A', r', c', rfl, H, hu, hu'⟩ := hv; have hB1 := below_step hB hb1; have hN1 := Kd.N_below hN hb1) | ((with_reducible refine gate_builtin (b := .append) (xs := #[.tmp 22, .tmp 25]) rfl ?_); at_builtin; refine Kd.N_append kTk (w0 := w1) w.heap.size rfl (.tmp 22) (.tmp 25) 79 78 (.agg #[.int .u8 0, .string ⟨#[]⟩, .bool false, .slice none 0 0, .bool false, .slice none 0 0]) 88 rfl Tryz.underlying79 E.info78 rfl (by decide) (by decide) _ _ (tkS (tkN x)) [.int .u8 4, .string ⟨#[]⟩, .bool b, .slice A r.length c, .bool b', .slice A' r'.length c'] (fun k => w.heap.size ≤ k) (fun k => wr.heap.size ≤ k) rfl rfl (tv_FK H hu hu') (fun k hk => ⟨Nat.le_trans hB.size hk, fun he => absurd (Kd.N_lt hN k he.symm) (by omega)⟩) (fun k hk => Nat.le_trans hB1.size hk) hN1 (Below.refl _ _) hB1.size (by simp only [List.length_map, List.length_cons, List.length_take]; omega) ?_; intro v2 w2 hN2 hb2 _ _))
      go_roundg n
      case measure => omega
      case rel => exact ⟨i + 1, by first | exact congrArg (Value.int .i64) hw3 | exact congrArg (Value.int .i64) (Int.natCast_succ i).symm, by omega, by rw [HT.out, List.map_append, ← List.cons_append, List.map_append]; exact hN2, hB1.trans hb2⟩
end Ar
end Go.Proofs.YtnghcgmkncbnnaaGreat
end
section
namespace Go.Proofs.YtnghcgmkncbnnaaGreat
open Go.RowKit Go.Proofs.YtnghcgmkncbnnaaGreatW.PrintWords Go.Proofs.YtnghcgmkncbnnaaGreatW.PrintLast Go.Proofs.YtnghcgmkncbnnaaGreatW.PrintMore
namespace Ar
open Wd
theorem litU_C {W : World} {g : Nat} (ns : List Int) (hl : ns.length ≤ 9223372036854775807) (hg : W.heap.size = g) : (Kd.int .u32).C (W.alloc (.cells (ns.map (Value.int .u32)).toArray 114)) (some ⟨g, 0, none⟩) ns.length ns := by
  subst hg
  refine ⟨rfl, hl, fun _ => ⟨_, rfl, fun j p hp => ⟨[.int .u32 p], rfl, rfl, fun i u hu => ?_⟩⟩⟩
  match i, hu with
  | 0, hu =>
    obtain rfl : Value.int .u32 p = u := by simpa using hu
    rw [add0, blk_cell (blk_new W _), show (Kd.int .u32).sz = 1 from rfl]
    simp [hp]
  | i + 1, hu => simp at hu
set_option maxRecDepth 100000 in
set_option maxHeartbeats 4000000 in
theorem refFrom_c {w : World} (n : Int) (hn : i64r n) :
    Calls Tryz.prog 49 #[.int .i64 n] w fun e w' => ∃ v, e = .returned v ∧ ZV w' (fun k => w.heap.size ≤ k) v n ∧ Below w.heap.size w w' := by
  have hT := Tryz.underlying74
  unfold i64r at hn
  by_cases h : n < 0
  · have hb : decide (n < 0) = true := decide_eq_true h
    obtain ⟨X0, h0⟩ : ∃ X0, (IntKind.u64.wrap (-IntKind.u64.wrap n)).tmod 4294967296 % 4294967296 = X0 := ⟨_, rfl⟩
    obtain ⟨X1, h1⟩ : ∃ X1, IntKind.u64.wrap ((IntKind.u64.wrap (-IntKind.u64.wrap n)).tdiv 4294967296) % 4294967296 = X1 := ⟨_, rfl⟩
    have hok : okW [X0, X1] := okW_cons.2 ⟨by rw [← h0]; omega, okW_cons.2 ⟨by rw [← h1]; omega, okW_nil⟩⟩
    have hv : val [X0, X1] = n.natAbs := by
      have e0 : X0 = ((n.natAbs % 4294967296 : Nat) : Int) := by rw [← h0]; simp only [u64w]; rw [Int.tmod_eq_emod_of_nonneg (by omega)]; omega
      have e1 : X1 = ((n.natAbs / 4294967296 : Nat) : Int) := by rw [← h1]; simp only [u64w]; rw [Int.tdiv_eq_ediv_of_nonneg (by omega)]; omega
      rw [e0, e1]; simp only [val, Int.toNat_natCast]; omega
    have HL := Lib.hid (F.pylonref01_Least.calls 50 true (some ⟨w.heap.size + 1, 0, none⟩) 2 [X0, X1] _ _ _ (litU_C (W := w.alloc (.cells #[.bool false, .slice none 0 0] 74)) [X0, X1] (show 2 ≤ 9223372036854775807 by decide) (World.size_alloc w _)) (Nat.le_refl 2) (least_f true [X0, X1] hok (Nat.le_refl 2)))
    rw [hv] at HL
    obtain ⟨bb, hbb⟩ : ∃ bb, (true && decide (n.natAbs ≠ 0)) = bb := ⟨_, rfl⟩
    obtain ⟨dd, hdd⟩ : ∃ dd, digs n.natAbs = dd := ⟨_, rfl⟩
    rw [hbb, hdd] at HL
    have HBB : Hid (bb = decide (n < 0)) := by show bb = _; rw [← hbb]; rw [decide_eq_true h, Bool.true_and]; exact decide_eq_true (by omega)
    have HDD := Lib.hid hdd
    clear hbb hdd
    have H0 := Lib.hid h0
    have H1 := Lib.hid h1
    clear h0 h1 hv hok
    have hb0 := below_alloc (Below.refl _ w) (.cells #[.bool false, .slice none 0 0] 74)
    have hb1 := below_alloc hb0 (.cells #[.int .u32 X0, .int .u32 X1] 114)
    have k1 := blk_alloc (blk_new w (.cells #[.bool false, .slice none 0 0] 74)) (.cells #[.int .u32 X0, .int .u32 X1] 114)
    go_enter Tryz.func49, Tryz.ntmps49
    go_wp2_with (first | (go_at_call 70; rw [H0.out, H1.out]; refine HL.out.mono ?_; rintro e w2 ⟨v2, rfl, hR, hb2⟩; obtain ⟨A2, c2, rfl⟩ := Kd.R_slice hR; have hB2 := below_step hb1 hb2; have k2 := blk_below k1 hb2; have hz0 := blk_cell k2 0; have hz1 := blk_cell k2 1; have hzf0 := blk_frozen k2 0; have hzf1 := blk_frozen k2 1))
    refine bodyPost_ret (results_cell_row rfl _ _ w.heap.size 74 #[.bool bb, .slice A2 dd.length c2] (0, 0) _ rfl (blk_set (blk_set k2 0 _) 1 _) hT rfl (by kernel_rfl)) rfl ?_
    refine ⟨_, rfl, ⟨_, by rw [HBB.out], ?_⟩, (hB2.setCell (p := ⟨w.heap.size, 0, none⟩) (Nat.le_refl _) _).setCell (p := ⟨w.heap.size, 1, none⟩) (Nat.le_refl _) _⟩
    · have hR2 := Kd.R_mono (Kd.R_bound hR) (ok' := fun k => w.heap.size < k) (fun k hk => by have h3 := hk.2.1; simp only [World.size_alloc] at h3; omega)
      have hU : Uv w2 (fun k => w.heap.size < k) (.slice A2 dd.length c2) dd := (Kd.R_V (e := 114) (base' := 0) hR2 : Kd.V (Kd.int .u32) 114 w2 0 _ (.slice A2 dd.length c2) dd)
      rw [HDD.out]
      exact ((hU.far (p := ⟨w.heap.size, 0, none⟩) (fun k hk => by dsimp only at hk ⊢; omega) _).far (p := ⟨w.heap.size, 1, none⟩) (fun k hk => by dsimp only at hk ⊢; omega) _).mono (fun k hk => Nat.le_of_lt hk)
  · have hb : decide (n < 0) = false := decide_eq_false h
    obtain ⟨X0, h0⟩ : ∃ X0, n % 4294967296 = X0 := ⟨_, rfl⟩
    obtain ⟨X1, h1⟩ : ∃ X1, n / 4294967296 = X1 := ⟨_, rfl⟩
    have hok : okW [X0, X1] := okW_cons.2 ⟨by rw [← h0]; omega, okW_cons.2 ⟨by rw [← h1]; omega, okW_nil⟩⟩
    have hv : val [X0, X1] = n.natAbs := by
      have e0 : X0 = ((n.natAbs % 4294967296 : Nat) : Int) := by rw [← h0]; omega
      have e1 : X1 = ((n.natAbs / 4294967296 : Nat) : Int) := by rw [← h1]; omega
      rw [e0, e1]; simp only [val, Int.toNat_natCast]; omega
    have HL := Lib.hid (F.pylonref01_Least.calls 50 false (some ⟨w.heap.size + 1, 0, none⟩) 2 [X0, X1] _ _ _ (litU_C (W := w.alloc (.cells #[.bool false, .slice none 0 0] 74)) [X0, X1] (show 2 ≤ 9223372036854775807 by decide) (World.size_alloc w _)) (Nat.le_refl 2) (least_f false [X0, X1] hok (Nat.le_refl 2)))
    rw [hv] at HL
    obtain ⟨bb, hbb⟩ : ∃ bb, (false && decide (n.natAbs ≠ 0)) = bb := ⟨_, rfl⟩
    obtain ⟨dd, hdd⟩ : ∃ dd, digs n.natAbs = dd := ⟨_, rfl⟩
    rw [hbb, hdd] at HL
    have HBB : Hid (bb = decide (n < 0)) := by show bb = _; rw [← hbb]; rw [decide_eq_false h, Bool.false_and]
    have HDD := Lib.hid hdd
    clear hbb hdd
    have H0 := Lib.hid h0
    have H1 := Lib.hid h1
    clear h0 h1 hv hok
    have hb0 := below_alloc (Below.refl _ w) (.cells #[.bool false, .slice none 0 0] 74)
    have hb1 := below_alloc hb0 (.cells #[.int .u32 X0, .int .u32 X1] 114)
    have k1 := blk_alloc (blk_new w (.cells #[.bool false, .slice none 0 0] 74)) (.cells #[.int .u32 X0, .int .u32 X1] 114)
    go_enter Tryz.func49, Tryz.ntmps49
    go_wp2_with (first | (go_at_call 70; rw [H0.out, H1.out]; refine HL.out.mono ?_; rintro e w2 ⟨v2, rfl, hR, hb2⟩; obtain ⟨A2, c2, rfl⟩ := Kd.R_slice hR; have hB2 := below_step hb1 hb2; have k2 := blk_below k1 hb2; have hz0 := blk_cell k2 0; have hz1 := blk_cell k2 1; have hzf0 := blk_frozen k2 0; have hzf1 := blk_frozen k2 1))
    refine bodyPost_ret (results_cell_row rfl _ _ w.heap.size 74 #[.bool bb, .slice A2 dd.length c2] (0, 0) _ rfl (blk_set (blk_set k2 0 _) 1 _) hT rfl (by kernel_rfl)) rfl ?_
    refine ⟨_, rfl, ⟨_, by rw [HBB.out], ?_⟩, (hB2.setCell (p := ⟨w.heap.size, 0, none⟩) (Nat.le_refl _) _).setCell (p := ⟨w.heap.size, 1, none⟩) (Nat.le_refl _) _⟩
    · have hR2 := Kd.R_mono (Kd.R_bound hR) (ok' := fun k => w.heap.size < k) (fun k hk => by have h3 := hk.2.1; simp only [World.size_alloc] at h3; omega)
      have hU : Uv w2 (fun k => w.heap.size < k) (.slice A2 dd.length c2) dd := (Kd.R_V (e := 114) (base' := 0) hR2 : Kd.V (Kd.int .u32) 114 w2 0 _ (.slice A2 dd.length c2) dd)
      rw [HDD.out]
      exact ((hU.far (p := ⟨w.heap.size, 0, none⟩) (fun k hk => by dsimp only at hk ⊢; omega) _).far (p := ⟨w.heap.size, 1, none⟩) (fun k hk => by dsimp only at hk ⊢; omega) _).mono (fun k hk => Nat.le_of_lt hk)
end Ar
end Go.Proofs.YtnghcgmkncbnnaaGreat
end
section
namespace Go.Proofs.YtnghcgmkncbnnaaGreat
open Go.RowKit Go.Proofs.YtnghcgmkncbnnaaGreatW.PrintWords Go.Proofs.YtnghcgmkncbnnaaGreatW.PrintLast Go.Proofs.YtnghcgmkncbnnaaGreatW.PrintMore
namespace Ar
open Wd
def unNums (u : Un) : List Int := [u.bus, u.min, u.up, u.down, u.start, u.idle, u.spin, u.on]
def unText (u : Un) : ByteArray := ⟨(fmtTo (showT unitB (unNums u) u.steps) (showT unitB (unNums u) u.steps).length).toArray⟩
def biText (bus : Int) (l : List Stp) : ByteArray := ⟨(fmtTo (showT bidB [bus] l) (showT bidB [bus] l).length).toArray⟩
def showOk (word : ByteArray) (ns : List Int) (ls : List Stp) : Prop :=
  (∀ n ∈ ns, i64r n) ∧ (∀ s ∈ ls, i64r s.f0 ∧ i64r s.f1) ∧ (∀ x ∈ showT word ns ls, okTk x) ∧ (fmtTo (showT word ns ls) (showT word ns ls).length).length ≤ 65536
theorem litI_C {W : World} (ns : List Int) (hl : ns.length ≤ 9223372036854775807) : (Kd.int .i64).C (W.alloc (.cells (ns.map (Value.int .i64)).toArray 2)) (some ⟨W.heap.size, 0, none⟩) ns.length ns := by
  refine ⟨rfl, hl, fun _ => ⟨_, rfl, fun j p hp => ⟨[.int .i64 p], rfl, rfl, fun i u hu => ?_⟩⟩⟩
  match i, hu with
  | 0, hu =>
    obtain rfl : Value.int .i64 p = u := by simpa using hu
    rw [add0, blk_cell (blk_new W _), show (Kd.int .i64).sz = 1 from rfl]
    simp [hp]
  | i + 1, hu => simp at hu
set_option maxRecDepth 100000 in
set_option maxHeartbeats 8000000 in
theorem FormatBid_c {w : World} (bus : Int) (l : List Stp) (A : Option Addr) (c : Nat) (hr : Kd.C kStp w A l.length l) (hc : l.length ≤ c) (hlen : l.length < 1000000) (hok : checkB bus l = 0 → showOk bidB [bus] l) :
    Calls Tryz.prog 9 #[.agg (biC bus (.slice A l.length c))] w fun e w' => e = .returned (.tuple #[.string (if checkB bus l = 0 then biText bus l else ⟨#[]⟩), .int .i64 (checkB bus l)]) ∧ Below w.heap.size w w' := by
  have hU := Tryz.underlying26
  have hb0 := below_alloc (Below.refl _ w) (.cells #[.int .i64 bus, .slice A l.length c] 26)
  have k0 := blk_new w (.cells #[.int .i64 bus, .slice A l.length c] 26)
  have HW := Lib.hid (wrong_c (w := w.alloc (.cells #[.int .i64 bus, .slice A l.length c] 26)) bus l A c (Kd.C_alloc hr _) hc)
  have HR := Lib.hid (fun (W : World) (h : Below w.heap.size w W) => (Kd.C_below hr h : Kd.C kStp W A l.length l))
  have HS := Lib.hid (fun (h0 : checkB bus l = 0) (W : World) A1 A2 c1 c2 h1 h2 h3 h4 => show_c (w := W) bidB [bus] l A1 A2 c1 c2 h1 h2 h3 h4 (hok h0).1 (hok h0).2.1 hlen (show 1 < 1000000 by decide) (hok h0).2.2.1 (hok h0).2.2.2)
  obtain ⟨R, hR⟩ : ∃ R : ByteArray, (⟨(fmtTo (showT bidB [bus] l) (showT bidB [bus] l).length).toArray⟩ : ByteArray) = R := ⟨_, rfl⟩
  unfold biText
  rw [hR] at HS ⊢
  clear hR hok hr
  generalize checkB bus l = F at HW HS ⊢
  have hk0 := blk_cell k0 0; have hk1 := blk_cell k0 1; have hkf0 := blk_frozen k0 0; have hkf1 := blk_frozen k0 1
  by_cases h : F = 0
  · subst h
    have HS' := Lib.hid (HS.out rfl)
    rw [if_pos rfl]
    clear HS
    go_enter Tryz.func9, Tryz.ntmps9
    go_wp2_with (first | (go_at_call 25; refine HW.out.mono ?_; rintro e w1 ⟨rfl, hb1⟩; have hB1 := below_step hb0 hb1; have i1 := blk_below k0 hb1; have hj0 := blk_cell i1 0; have hj1 := blk_cell i1 1; have hjf0 := blk_frozen i1 0; have hjf1 := blk_frozen i1 1) | (go_at_call 23; refine (HS'.out _ A (some ⟨w1.heap.size, 0, none⟩) c 1 (HR.out _ (below_alloc hB1 (.cells #[.int .i64 bus] 2))) hc (litI_C [bus] (show 1 ≤ 9223372036854775807 by decide)) (Nat.le_refl 1)).mono ?_; rintro e w2 ⟨rfl, hb2⟩; have hB2 := below_step (below_alloc hB1 (.cells #[.int .i64 bus] 2)) hb2))
    go_ret2
    exact ⟨rfl, hB2⟩
  · rw [if_neg h]
    have hb : (F != 0) = true := bne_iff_ne.2 h
    clear h HS
    go_enter Tryz.func9, Tryz.ntmps9
    go_wp2_with (first | (go_at_call 25; refine HW.out.mono ?_; rintro e w1 ⟨rfl, hb1⟩; have hB1 := below_step hb0 hb1; have i1 := blk_below k0 hb1))
    go_ret2
    exact ⟨rfl, hB1⟩
set_option maxRecDepth 100000 in
set_option maxHeartbeats 8000000 in
theorem FormatUnit_c {w : World} (u : Un) (A : Option Addr) (c : Nat) (hr : Kd.C kStp w A u.steps.length u.steps) (hc : u.steps.length ≤ c) (hlen : u.steps.length < 1000000) (hok : checkU u = 0 → showOk unitB (unNums u) u.steps) :
    Calls Tryz.prog 7 #[.agg (unC u (.slice A u.steps.length c))] w fun e w' => e = .returned (.tuple #[.string (if checkU u = 0 then unText u else ⟨#[]⟩), .int .i64 (checkU u)]) ∧ Below w.heap.size w w' := by
  have hU := Tryz.underlying24
  have HW := Lib.hid (fun (W : World) (h : Below w.heap.size w W) => Check_c (w := W) u A c (Kd.C_below hr h) hc (by omega))
  have HR := Lib.hid (fun (W : World) (h : Below w.heap.size w W) => (Kd.C_below hr h : Kd.C kStp W A u.steps.length u.steps))
  have HS := Lib.hid (fun (h0 : checkU u = 0) (W : World) A1 A2 c1 c2 h1 h2 h3 h4 => show_c (w := W) unitB (unNums u) u.steps A1 A2 c1 c2 h1 h2 h3 h4 (hok h0).1 (hok h0).2.1 hlen (show 8 < 1000000 by decide) (hok h0).2.2.1 (hok h0).2.2.2)
  obtain ⟨R, hR⟩ : ∃ R : ByteArray, (⟨(fmtTo (showT unitB (unNums u) u.steps) (showT unitB (unNums u) u.steps).length).toArray⟩ : ByteArray) = R := ⟨_, rfl⟩
  unfold unText
  rw [hR] at HS ⊢
  clear hR hok hr
  generalize checkU u = F at HW HS ⊢
  obtain ⟨bus, mi, l, up, dn, st, idl, sp, on⟩ := u
  dsimp only [unC, unNums] at hc hlen HW HR HS ⊢
  have hb0 := below_alloc (Below.refl _ w) (.cells #[.int .i64 bus, .int .i64 mi, .slice A l.length c, .int .i64 up, .int .i64 dn, .int .i64 st, .int .i64 idl, .int .i64 sp, .int .i64 on] 24)
  have k0 := blk_new w (.cells #[.int .i64 bus, .int .i64 mi, .slice A l.length c, .int .i64 up, .int .i64 dn, .int .i64 st, .int .i64 idl, .int .i64 sp, .int .i64 on] 24)
  have hk0 := blk_cell k0 0; have hk1 := blk_cell k0 1; have hk2 := blk_cell k0 2; have hk3 := blk_cell k0 3; have hk4 := blk_cell k0 4; have hk5 := blk_cell k0 5; have hk6 := blk_cell k0 6; have hk7 := blk_cell k0 7; have hk8 := blk_cell k0 8; have hkf0 := blk_frozen k0 0; have hkf1 := blk_frozen k0 1; have hkf2 := blk_frozen k0 2; have hkf3 := blk_frozen k0 3; have hkf4 := blk_frozen k0 4; have hkf5 := blk_frozen k0 5; have hkf6 := blk_frozen k0 6; have hkf7 := blk_frozen k0 7; have hkf8 := blk_frozen k0 8
  by_cases h : F = 0
  · subst h
    have HS' := Lib.hid (HS.out rfl)
    rw [if_pos rfl]
    clear HS
    go_enter Tryz.func7, Tryz.ntmps7
    go_wp2_with (first | (go_at_call 16; refine (HW.out _ hb0).mono ?_; rintro e w1 ⟨rfl, hb1⟩; have hB1 := below_step hb0 hb1; have i1 := blk_below k0 hb1; have hj0 := blk_cell i1 0; have hj1 := blk_cell i1 1; have hj2 := blk_cell i1 2; have hj3 := blk_cell i1 3; have hj4 := blk_cell i1 4; have hj5 := blk_cell i1 5; have hj6 := blk_cell i1 6; have hj7 := blk_cell i1 7; have hj8 := blk_cell i1 8; have hjf0 := blk_frozen i1 0; have hjf1 := blk_frozen i1 1; have hjf2 := blk_frozen i1 2; have hjf3 := blk_frozen i1 3; have hjf4 := blk_frozen i1 4; have hjf5 := blk_frozen i1 5; have hjf6 := blk_frozen i1 6; have hjf7 := blk_frozen i1 7; have hjf8 := blk_frozen i1 8) | (go_at_call 23; refine (HS'.out _ A (some ⟨w1.heap.size, 0, none⟩) c 8 (HR.out _ (below_alloc hB1 (.cells #[.int .i64 bus, .int .i64 mi, .int .i64 up, .int .i64 dn, .int .i64 st, .int .i64 idl, .int .i64 sp, .int .i64 on] 2))) hc (litI_C [bus, mi, up, dn, st, idl, sp, on] (show 8 ≤ 9223372036854775807 by decide)) (Nat.le_refl 8)).mono ?_; rintro e w2 ⟨rfl, hb2⟩; have hB2 := below_step (below_alloc hB1 (.cells #[.int .i64 bus, .int .i64 mi, .int .i64 up, .int .i64 dn, .int .i64 st, .int .i64 idl, .int .i64 sp, .int .i64 on] 2)) hb2))
    go_ret2
    exact ⟨rfl, hB2⟩
  · rw [if_neg h]
    have hb : (F != 0) = true := bne_iff_ne.2 h
    clear h HS
    go_enter Tryz.func7, Tryz.ntmps7
    go_wp2_with (first | (go_at_call 16; refine (HW.out _ hb0).mono ?_; rintro e w1 ⟨rfl, hb1⟩; have hB1 := below_step hb0 hb1; have i1 := blk_below k0 hb1))
    go_ret2
    exact ⟨rfl, hB1⟩
end Ar
end Go.Proofs.YtnghcgmkncbnnaaGreat
end
