/- Part 13 of the proof: The reference's integers: digits of base 2^16, their numbers, in plain Lean. The reference's integers: from digits of base 2^16 back to words, the sign, short division, the decimal text, in plain Lean. The reference's integers: their decimal text is the program's. The reference's From. -/
import Derived.Test.YtnghcgmkncbnnaaGreatMi8
import Derived.Test.YtnghcgmkncbnnaaGreatMi12
set_option linter.unusedVariables false
set_option linter.unusedSimpArgs false
section
namespace Go.Proofs.YtnghcgmkncbnnaaGreat
open Go.RowKit Go.Proofs.YtnghcgmkncbnnaaGreatW.PrintWords Go.Proofs.YtnghcgmkncbnnaaGreatW.PrintLast Go.Proofs.YtnghcgmkncbnnaaGreatW.PrintMore
namespace Ar
open Wd
theorem take_snocH (l : List Int) (i : Nat) (h : i < l.length) : l.take (i + 1) = l.take i ++ [rd l i] := by
  rw [List.take_add_one, List.getElem?_eq_getElem h, rd_get, Int.toNat_natCast, List.getElem?_eq_getElem h]; rfl
theorem Hd_ok_take {l : List Int} (h : Hd.okW l) (n : Nat) : Hd.okW (l.take n) := fun x hx => h x (List.mem_of_mem_take hx)
theorem trim16 (l : List Int) (hl : Hd.okW l) (hlen : l.length < 1073741824) : ∀ (n k : Nat), n ≤ l.length → n < k → F.pylonref01_trim.l0 k l (n : Int) = some (Hd.digs (Hd.val (l.take n)))
  | 0, 0, _, hk => absurd hk (by omega)
  | 0, k + 1, hn, hk => by
    rw [F.pylonref01_trim.l0, if_neg (by simp), if_pos (by simp), if_pos (by omega)]; rfl
  | n + 1, 0, hn, hk => absurd hk (by omega)
  | n + 1, k + 1, hn, hk => by
    have e1 : wrap64 (((n + 1 : Nat) : Int) - 1) = n := by rw [w64in _ (by omega) (by omega)]; omega
    rw [F.pylonref01_trim.l0, e1, if_pos (by omega), if_pos (by omega), if_pos (by omega)]
    have hs := take_snocH l n (by omega)
    by_cases h0 : rd l n = 0
    · rw [if_pos h0, trim16 l hl hlen n k (by omega) (by omega), hs, Hd.val_snoc, h0]; simp
    · rw [if_neg h0, if_pos (by omega), if_pos (by omega), Int.toNat_natCast]
      congr 1
      refine (Hd.digs_val _ (Hd_ok_take hl _) ?_).symm
      intro x hx
      rw [hs, List.getLast?_append] at hx
      simp at hx
      rw [← hx]; exact h0
theorem trim16_f (l : List Int) (hl : Hd.okW l) (hlen : l.length < 1073741824) (k : Nat) (hk : l.length < k) : F.pylonref01_trim.f k l = some (Hd.digs (Hd.val l)) := by
  unfold F.pylonref01_trim.f
  rw [trim16 l hl hlen l.length k (Nat.le_refl _) hk, List.take_length]
def hflat : List Int → List Int
  | [] => []
  | w :: l => w % 65536 :: w / 65536 :: hflat l
theorem hflat_val {l : List Int} (h : okW l) : Hd.val (hflat l) = val l := by
  induction l with
  | nil => rfl
  | cons w l ih =>
    have h1 := (okW_cons.1 h).1
    unfold hflat Hd.val Hd.val val
    rw [ih (okW_cons.1 h).2]
    omega
theorem u32_wrap (x : Int) : IntKind.u32.wrap x = x % 4294967296 := by simp [IntKind.wrap, IntKind.signed, IntKind.bits]
theorem halves_l0 (ws : List Int) (hw : okW ws) (hlen : ws.length < 1000000) : ∀ (r i : Nat) (acc : List Int) (k : Nat), i + r = ws.length → Hd.okW acc → acc.length + 3 * r + 3 ≤ k → acc.length + 2 * r < 100000000 →
    F.pylonref01_halves.l0 k ws acc (i : Int) = some (Hd.digs (Hd.val (acc ++ hflat (ws.drop i))))
  | r, i, acc, 0, hi, ha, hk, hb => absurd hk (by omega)
  | 0, i, acc, k + 1, hi, ha, hk, hb => by
    rw [F.pylonref01_halves.l0, if_neg (by omega), trim16_f acc ha (by omega) k (by omega), Option.bind_some, List.drop_of_length_le (by omega)]
    simp [hflat]
  | r + 1, i, acc, k + 1, hi, ha, hk, hb => by
    have hx : 0 ≤ rd ws i ∧ rd ws i < 4294967296 := by rw [rd_get]; exact wrd_of ws hw _
    have e1 : wrap64 (Int.tmod (rd ws i) 65536) = rd ws i % 65536 := by rw [Int.tmod_eq_emod_of_nonneg hx.1, w64in _ (by omega) (by omega)]
    have e2 : wrap64 (IntKind.u32.wrap (Int.tdiv (rd ws i) 65536)) = rd ws i / 65536 := by rw [Int.tdiv_eq_ediv_of_nonneg hx.1, u32_wrap, w64in _ (by omega) (by omega)]; omega
    rw [F.pylonref01_halves.l0, if_pos (by omega), if_pos (by omega), e1, e2, Option.bind_some, if_pos (by simp; omega)]
    have hd : ws.drop i = rd ws i :: ws.drop (i + 1) := by
      rw [rd_get, Int.toNat_natCast, List.drop_eq_getElem_cons (show i < ws.length by omega), List.getElem?_eq_getElem (show i < ws.length by omega)]; rfl
    rw [w64succ i (by omega), halves_l0 ws hw hlen r (i + 1) _ k (by omega) (Hd.okW_append.2 ⟨ha, Hd.okW_cons.2 ⟨by omega, Hd.okW_cons.2 ⟨by omega, Hd.okW_nil⟩⟩⟩) (by simp; omega) (by simp; omega), hd]
    simp [hflat]
theorem halves_f (ws : List Int) (hw : okW ws) (hlen : ws.length < 1000000) (k : Nat) (hk : 3 * ws.length + 3 ≤ k) : F.pylonref01_halves.f k ws = some (Hd.digs (val ws)) := by
  unfold F.pylonref01_halves.f
  have := halves_l0 ws hw hlen ws.length 0 [] k (by omega) Hd.okW_nil (by simpa using hk) (by simp; omega)
  rw [show ((0 : Nat) : Int) = 0 from rfl] at this
  rw [this, List.drop_zero, List.nil_append, hflat_val hw]
end Ar
end Go.Proofs.YtnghcgmkncbnnaaGreat
end
section
namespace Go.Proofs.YtnghcgmkncbnnaaGreat
open Go.RowKit Go.Proofs.YtnghcgmkncbnnaaGreatW.PrintWords Go.Proofs.YtnghcgmkncbnnaaGreatW.PrintLast Go.Proofs.YtnghcgmkncbnnaaGreatW.PrintMore
namespace Ar
open Wd
theorem rdN (l : List Int) (i : Nat) : rd l (i : Int) = l[i]?.getD 0 := by rw [rd_get, Int.toNat_natCast]
theorem small16 (l : List Int) (hl : Hd.okW l) (hlen : l.length ≤ 3) : ∀ (n k : Nat) (acc : Nat), n ≤ l.length → n < k → acc = Hd.val (l.drop n) →
    F.pylonref01_small.l0 k l (acc : Int) ((n : Int) - 1) = some ((Hd.val l : Nat) : Int)
  | n, 0, acc, _, hk, _ => absurd hk (by omega)
  | 0, k + 1, acc, hn, hk, ha => by
    rw [F.pylonref01_small.l0, if_neg (by simp), ha, List.drop_zero]
  | n + 1, k + 1, acc, hn, hk, ha => by
    have hv : Hd.val l < 65536 ^ 3 := Nat.lt_of_lt_of_le (Hd.val_lt l hl) (Nat.pow_le_pow_right (by decide) hlen)
    have hd : l.drop n = rd l n :: l.drop (n + 1) := by
      rw [rdN, List.drop_eq_getElem_cons (show n < l.length by omega), List.getElem?_eq_getElem (show n < l.length by omega)]; rfl
    have hx : 0 ≤ rd l n ∧ rd l n < 65536 := by rw [rdN, List.getElem?_eq_getElem (show n < l.length by omega)]; exact hl _ (List.getElem_mem (by omega))
    have hv2 : Hd.val (l.drop n) ≤ Hd.val l := by
      conv => rhs; rw [← List.take_append_drop n l]
      have : ∀ a b : List Int, Hd.val b ≤ Hd.val (a ++ b) := by
        intro a b
        induction a with
        | nil => exact Nat.le_refl _
        | cons x a ih => rw [List.cons_append, Hd.val]; omega
      exact this _ _
    have hn1 : Hd.val (l.drop n) = (rd l n).toNat + 65536 * Hd.val (l.drop (n + 1)) := by rw [hd, Hd.val]
    have e0 : (((n + 1 : Nat) : Int) - 1) = (n : Int) := by omega
    have e1 : wrap64 (wrap64 ((acc : Int) * 65536) + rd l n) = ((Hd.val (l.drop n) : Nat) : Int) := by
      rw [w64in ((acc : Int) * 65536) (by omega) (by omega), w64in _ (by omega) (by omega), hn1, ← ha]; omega
    rw [F.pylonref01_small.l0, e0, if_pos (by omega), if_pos (by omega), if_pos (by omega), e1, w64in ((n : Int) - 1) (by omega) (by omega)]
    exact small16 l hl hlen n k _ (by omega) (by omega) rfl
theorem small16_f (l : List Int) (hl : Hd.okW l) (hlen : l.length ≤ 3) (k : Nat) (hk : l.length < k) : F.pylonref01_small.f k l = some ((Hd.val l : Nat) : Int) := by
  unfold F.pylonref01_small.f
  have := small16 l hl hlen l.length k 0 (Nat.le_refl _) hk (by rw [List.drop_length]; rfl)
  rw [w64in _ (by omega) (by omega)]
  exact this
theorem back16_f (v : Nat) (hv : v < 281474976710656) (k : Nat) (hk : 3 < k) : F.pylonref01_back.f k (v : Int) = some (Hd.digs v) := by
  unfold F.pylonref01_back.f
  have e1 : Int.tmod (v : Int) 65536 = ((v % 65536 : Nat) : Int) := by rw [Int.tmod_eq_emod_of_nonneg (by omega)]; omega
  have e2 : wrap64 (Int.tdiv (v : Int) 65536) = ((v / 65536 : Nat) : Int) := by rw [Int.tdiv_eq_ediv_of_nonneg (by omega), w64in _ (by omega) (by omega)]; omega
  have e3 : Int.tmod ((v / 65536 : Nat) : Int) 65536 = ((v / 65536 % 65536 : Nat) : Int) := by rw [Int.tmod_eq_emod_of_nonneg (by omega)]; omega
  have e4 : wrap64 (Int.tdiv ((v / 65536 : Nat) : Int) 65536) = ((v / 65536 / 65536 : Nat) : Int) := by rw [Int.tdiv_eq_ediv_of_nonneg (by omega), w64in _ (by omega) (by omega)]; omega
  rw [e2, e1, e3, e4]
  have hok : Hd.okW [((v % 65536 : Nat) : Int), ((v / 65536 % 65536 : Nat) : Int), ((v / 65536 / 65536 : Nat) : Int)] :=
    Hd.okW_cons.2 ⟨by omega, Hd.okW_cons.2 ⟨by omega, Hd.okW_cons.2 ⟨by omega, Hd.okW_nil⟩⟩⟩
  rw [trim16_f _ hok (by simp) k (by simpa using hk), Option.bind_some]
  congr 2
  simp only [Hd.val, Int.toNat_natCast]
  omega
theorem Hd_val_drop (l : List Int) (m : Nat) (h : m < l.length) : Hd.val (l.drop m) = (l[m]?.getD 0).toNat + 65536 * Hd.val (l.drop (m + 1)) := by
  rw [List.drop_eq_getElem_cons h]
  simp [Hd.val, List.getElem?_eq_getElem h]
theorem hT16 {x : Nat} (V : Nat) (h : x < 65536) : x + 65536 * (V % 10) < 1000000 := by omega
theorem short16 (l : List Int) (hl : Hd.okW l) (hlen : l.length < 1000) (K : Nat) : ∀ (j : Nat), j ≤ l.length →
    F.pylonref01_div.l0 (l.length + 5 + K + j) l [10] (List.replicate j 0 ++ Hd.wds (l.length - j) (Hd.val (l.drop j) / 10)) ((Hd.val (l.drop j) % 10 : Nat) : Int) ((j : Int) - 1) = some (Hd.digs (Hd.val l / 10), Hd.digs (Hd.val l % 10)) := by
  intro j
  induction j with
  | zero =>
    intro _
    rw [show l.length + 5 + K + 0 = (l.length + 4 + K) + 1 from by omega]
    rw [F.pylonref01_div.l0, if_neg (by omega)]
    have hm := trim16_f (Hd.wds l.length (Hd.val l / 10)) (Hd.wds_ok _ _) (by rw [Hd.wds_length]; omega) (l.length + 4 + K) (by rw [Hd.wds_length]; omega)
    rw [Hd.val_wds_lt _ _ (Nat.lt_of_le_of_lt (Nat.div_le_self _ _) (Hd.val_lt l hl))] at hm
    have hmm : F.pylonref01_trim.f (l.length + 4 + K) (List.replicate 0 0 ++ Hd.wds (l.length - 0) (Hd.val (l.drop 0) / 10)) = some (Hd.digs (Hd.val l / 10)) := by
      simpa only [List.replicate_zero, List.nil_append, Nat.sub_zero, List.drop_zero] using hm
    have h1 := trim16_f [((Hd.val l % 10 : Nat) : Int)] (Hd.okW_cons.2 ⟨by omega, Hd.okW_nil⟩) (by simp) (l.length + 4 + K) (by simp; omega)
    rw [show Hd.val [((Hd.val l % 10 : Nat) : Int)] = Hd.val l % 10 by simp only [Hd.val]; omega] at h1
    rw [hmm, Option.bind_some, List.drop_zero, h1]; rfl
  | succ j ih =>
    intro hj
    have ih' := ih (by omega)
    obtain ⟨x, hx⟩ : ∃ x, x = (l[j]?.getD 0).toNat := ⟨_, rfl⟩
    have hxr : 0 ≤ l[j]?.getD 0 ∧ l[j]?.getD 0 < 65536 := by
      rw [List.getElem?_eq_getElem (show j < l.length by omega)]
      exact hl _ (List.getElem_mem (by omega))
    have hx1 : x < 65536 := by omega
    have hrd : rd l (j : Int) = (x : Int) := by rw [rdN]; omega
    rw [Hd_val_drop l j (by omega), ← hx] at ih'
    generalize Hd.val (l.drop (j + 1)) = V at ih' ⊢
    have hT : x + 65536 * (V % 10) < 1000000 := hT16 V hx1
    have h1 : (x + 65536 * V) / 10 = (x + 65536 * (V % 10)) / 10 + 65536 * (V / 10) := by omega
    have h2 : (x + 65536 * V) % 10 = (x + 65536 * (V % 10)) % 10 := by omega
    have h3 : (x + 65536 * (V % 10)) / 10 < 65536 := by omega
    rw [h1, h2] at ih'
    have q4 : ∀ r v : Nat, r < 65536 → Hd.wds (l.length - j) (r + 65536 * v) = (r : Int) :: Hd.wds (l.length - (j + 1)) v := by
      intro r v hr
      rw [show l.length - j = (l.length - (j + 1)) + 1 from by omega]
      simp only [Hd.wds]
      congr 2
      · omega
      · omega
    rw [q4 _ _ h3, ← set_rep] at ih'
    have hlen2 : (List.replicate (j + 1) (0 : Int) ++ Hd.wds (l.length - (j + 1)) (V / 10)).length = l.length := by simp [Hd.wds_length]; omega
    have e0 : (((j + 1 : Nat) : Int) - 1) = (j : Int) := by omega
    have e1 : wrap64 (wrap64 (((V % 10 : Nat) : Int) * 65536) + (x : Int)) = ((x + 65536 * (V % 10) : Nat) : Int) := by
      rw [w64in (((V % 10 : Nat) : Int) * 65536) (by omega) (by omega), w64in _ (by omega) (by omega)]; omega
    have e2 : ∀ T : Nat, T < 1000000 → wrap64 (Int.tdiv (T : Int) 10) = ((T / 10 : Nat) : Int) := fun T hT => by rw [Int.tdiv_eq_ediv_of_nonneg (by omega), w64in _ (by omega) (by omega)]; omega
    have e3 : ∀ T : Nat, Int.tmod (T : Int) 10 = ((T % 10 : Nat) : Int) := fun T => by rw [Int.tmod_eq_emod_of_nonneg (by omega)]; omega
    rw [show l.length + 5 + K + (j + 1) = (l.length + 5 + K + j) + 1 from by omega, F.pylonref01_div.l0, e0]
    have c1 : (j : Int) ≥ 0 := Int.natCast_nonneg j
    have c2 : (j : Int) < (l.length : Int) := by omega
    rw [if_pos c1, if_pos c1, if_pos c2, if_pos (show (0 : Int) < ((([10] : List Int).length : Nat) : Int) by decide)]
    rw [show rd [(10 : Int)] 0 = 10 from rfl, if_neg (by decide), if_pos (by rw [hlen2]; omega), hrd, e1, e2 _ hT, e3, w64in ((j : Int) - 1) (by omega) (by omega), Int.toNat_natCast]
    exact ih'
theorem div10_f (m : Nat) (hm : m < 18446744073709551616) (k : Nat) (hk : 15 ≤ k) : F.pylonref01_div.f k (Hd.digs m) [10] = some (Hd.digs (m / 10), Hd.digs (m % 10)) := by
  unfold F.pylonref01_div.f
  obtain ⟨k, rfl⟩ : ∃ k', k = k' + 1 := ⟨k - 1, by omega⟩
  by_cases h3 : (Hd.digs m).length ≤ 3
  · have hm2 : m < 281474976710656 := by
      have := Hd.val_lt (Hd.digs m) (Hd.digs_ok m)
      rw [Hd.val_digs] at this
      exact Nat.lt_of_lt_of_le this (Nat.pow_le_pow_right (by decide) h3)
    rw [if_pos (by omega), show decide ((([10] : List Int).length : Int) ≤ 3) = true from rfl, F.pylonref01_div.j0, if_pos rfl]
    rw [small16_f _ (Hd.digs_ok m) h3 k (by omega), Hd.val_digs, Option.bind_some, small16_f [10] (Hd.okW_cons.2 ⟨by omega, Hd.okW_nil⟩) (by decide) k (by simp; omega), Option.bind_some]
    rw [show ((Hd.val [10] : Nat) : Int) = 10 from rfl, if_neg (by decide)]
    have e1 : wrap64 (Int.tdiv (m : Int) 10) = ((m / 10 : Nat) : Int) := by rw [Int.tdiv_eq_ediv_of_nonneg (by omega), w64in _ (by omega) (by omega)]; omega
    have e2 : Int.tmod (m : Int) 10 = ((m % 10 : Nat) : Int) := by rw [Int.tmod_eq_emod_of_nonneg (by omega)]; omega
    rw [e1, back16_f _ (by omega) k (by omega), Option.bind_some, Option.bind_some, Option.bind_some, if_neg (by decide), e2, back16_f _ (by omega) k (by omega), Option.bind_some]
  · have h4 := Hd.digs_len_le m 4 (by omega)
    have hl : (Hd.digs m).length = 4 := by omega
    rw [if_neg (by omega), F.pylonref01_div.j0, if_neg (by decide), if_pos (by omega), if_pos (by rw [hl]; decide), Option.bind_some, if_pos (show ((([10] : List Int).length : Nat) : Int) = 1 from rfl)]
    have := short16 (Hd.digs m) (Hd.digs_ok m) (by omega) (k - 13) 4 (by omega)
    rw [Hd.val_digs] at this
    rw [List.drop_of_length_le (by omega), hl] at this
    rw [hl, show wrap64 (((4 : Nat) : Int) - 1) = ((4 : Nat) : Int) - 1 from w64in _ (by omega) (by omega)]
    have hk2 : 4 + 5 + (k - 13) + 4 = k := by omega
    rw [hk2] at this
    simpa [Hd.val, Hd.wds] using this
theorem at0 (n : Nat) (hn : n < 10) : F.pylonref01_at.f (Hd.digs n) 0 = some (n : Int) := by
  unfold F.pylonref01_at.f
  by_cases h : n = 0
  · subst h; rfl
  · have hd : Hd.digs n = [(n : Int)] := by
      rw [Hd.digs_pos n (by omega), show n / 65536 = 0 by omega, Nat.mod_eq_of_lt (by omega)]; rfl
    rw [hd, if_pos (by simp), if_pos (by decide)]; rfl
theorem sign16_f (neg : Bool) (n : Nat) (hn : n < 18446744073709551616) (k : Nat) (hk : 9 ≤ k) : F.pylonref01_Sign.f k neg (digs n) = some (if n = 0 then 0 else if neg = true then -1 else 1) := by
  unfold F.pylonref01_Sign.f
  have hl := digs_len_le n 2 (by omega)
  rw [halves_f _ (digs_ok n) (by omega) k (by omega), val_digs, Option.bind_some]
  by_cases h : n = 0
  · subst h; rw [if_pos (by rfl), if_pos rfl]
  · rw [if_neg (by intro h2; exact h (Hd.digs_nil.1 (List.length_eq_zero_iff.1 (by omega)))), if_neg h]
    cases neg <;> rfl
theorem str_app (a b : List Int) : strOfNums (a ++ b) = strOfNums a ++ strOfNums b := by
  unfold strOfNums
  refine ByteArray.ext ?_
  simp
end Ar
end Go.Proofs.YtnghcgmkncbnnaaGreat
end
section
namespace Go.Proofs.YtnghcgmkncbnnaaGreat
open Go.RowKit Go.Proofs.YtnghcgmkncbnnaaGreatW.PrintWords Go.Proofs.YtnghcgmkncbnnaaGreatW.PrintLast Go.Proofs.YtnghcgmkncbnnaaGreatW.PrintMore
namespace Ar
open Wd
theorem toList_empty (s : ByteArray) : (s.toList == ([] : List UInt8)) = decide (s.size = 0) := by
  rw [ByteArray.toList_eq]
  by_cases h : s.size = 0
  · rw [decide_eq_true h]
    have : s.data.toList = [] := List.length_eq_zero_iff.1 (by rw [Array.length_toList]; exact h)
    rw [this]; rfl
  · rw [decide_eq_false h, beq_eq_false_iff_ne]
    intro h2
    exact h (by have := congrArg List.length h2; rwa [Array.length_toList] at this)
theorem str_len (l : List Int) : (strOfNums l).size = l.length := by
  show (strOfNums l).data.size = _
  unfold strOfNums; simp
theorem text_l0 (neg : Bool) (n : Nat) (hn : n < 18446744073709551616) : ∀ (f m : Nat) (s : List Int) (k : Nat), m < 10 ^ f → m < 18446744073709551616 → s ≠ [] → 2 * f + 20 ≤ k → s.length + f < 1000000 →
    F.pylonref01_Text.l0 k (Hd.digs m) (strOfNums s) neg (digs n) = some (strOfNums ((if (if n = 0 then (0 : Int) else if neg = true then -1 else 1) < 0 then [45] else []) ++ ((rdig f m).reverse ++ s)))
  | f, m, s, 0, hm, hm2, hs, hk, hl => absurd hk (by omega)
  | f, m, s, 1, hm, hm2, hs, hk, hl => absurd hk (by omega)
  | f, m, s, k + 2, hm, hm2, hs, hk, hl => by
    have hsz : ¬ (strOfNums s).size = 0 := by rw [str_len]; exact fun h => hs (List.length_eq_zero_iff.1 h)
    rw [F.pylonref01_Text.l0]
    by_cases h0 : m = 0
    · subst h0
      have hr : rdig f 0 = [] := by cases f <;> simp [rdig]
      rw [if_neg (by rw [show Hd.digs 0 = [] from rfl]; simp), toList_empty, decide_eq_false hsz, F.pylonref01_Text.j1, if_neg (by decide), sign16_f neg n hn k (by omega), Option.bind_some, hr, List.reverse_nil, List.nil_append]
      by_cases hsg : (if n = 0 then (0 : Int) else if neg = true then -1 else 1) < 0
      · rw [if_pos hsg, if_pos hsg, if_pos (by rw [str_len]; omega), str_app]; rfl
      · rw [if_neg hsg, if_neg hsg, List.nil_append]
    · have hne : 0 < (Hd.digs m).length := List.length_pos_iff.2 (fun e => h0 (Hd.digs_nil.1 e))
      rw [if_pos (by omega), F.pylonref01_Text.j1, if_pos rfl, div10_f m hm2 k (by omega), Option.bind_some, at0 _ (by omega), Option.bind_some, Option.bind_some, if_pos (by rw [str_len, str_len]; simp; omega), ← str_app]
      cases f with
      | zero => exact absurd hm (by simpa using h0)
      | succ f =>
        have hmm : (48 + ((m % 10 : Nat) : Int)) % 256 = ((48 + m % 10 : Nat) : Int) := by omega
        rw [hmm, text_l0 neg n hn f (m / 10) _ k (by rw [Nat.pow_succ] at hm; omega) (by omega) (by simp) (by omega) (by simp; omega)]
        congr 3
        rw [rdig, if_neg h0]
        simp
theorem text_f (z : Int) (hz : z.natAbs < 18446744073709551616) : F.pylonref01_Text.f 200 (decide (z < 0)) (digs z.natAbs) = some (decB z) := by
  unfold F.pylonref01_Text.f
  have hl := digs_len_le z.natAbs 2 (by omega)
  rw [halves_f _ (digs_ok _) (by omega) 200 (by omega), val_digs, Option.bind_some]
  unfold decB decL
  by_cases h0 : z = 0
  · subst h0
    rw [if_pos rfl, show (0 : Int).natAbs = 0 from rfl, F.pylonref01_Text.l0, if_neg (by rw [show Hd.digs 0 = [] from rfl]; simp), toList_empty, decide_eq_true (by rfl), F.pylonref01_Text.j1, if_pos rfl, div10_f 0 (by decide) 198 (by decide), Option.bind_some, at0 _ (by decide), Option.bind_some, Option.bind_some, if_pos (by rw [str_len]; simp [ByteArray.size])]
    rw [show strOfNums [(48 + ((0 % 10 : Nat) : Int)) % 256] ++ (⟨#[]⟩ : ByteArray) = strOfNums [48] by rw [← show strOfNums [] = (⟨#[]⟩ : ByteArray) from rfl, ← str_app]; rfl]
    rw [text_l0 _ 0 (by decide) 1 (0 / 10) _ 198 (by decide) (by decide) (by simp) (by decide) (by decide)]
    rfl
  · have hm : z.natAbs ≠ 0 := by omega
    have hne : 0 < (Hd.digs z.natAbs).length := List.length_pos_iff.2 (fun e => hm (Hd.digs_nil.1 e))
    rw [if_neg h0, F.pylonref01_Text.l0, if_pos (by omega), F.pylonref01_Text.j1, if_pos rfl, div10_f _ hz 198 (by omega), Option.bind_some, at0 _ (by omega), Option.bind_some, Option.bind_some, if_pos (by rw [str_len]; simp [ByteArray.size])]
    have hmm : (48 + ((z.natAbs % 10 : Nat) : Int)) % 256 = ((48 + z.natAbs % 10 : Nat) : Int) := by omega
    rw [hmm, show strOfNums [((48 + z.natAbs % 10 : Nat) : Int)] ++ (⟨#[]⟩ : ByteArray) = strOfNums [((48 + z.natAbs % 10 : Nat) : Int)] by rw [← show strOfNums [] = (⟨#[]⟩ : ByteArray) from rfl, ← str_app, List.append_nil]]
    rw [text_l0 _ z.natAbs (by omega) 31 (z.natAbs / 10) _ 198 (by omega) (by omega) (by simp) (by omega) (by simp)]
    congr 2
    have hr : rdig 32 z.natAbs = ((48 + z.natAbs % 10 : Nat) : Int) :: rdig 31 (z.natAbs / 10) := by rw [rdig, if_neg hm]
    rw [hr]
    by_cases hneg : z < 0
    · rw [if_pos hneg, if_neg hm, if_pos (decide_eq_true hneg), if_pos (by decide)]; simp
    · rw [if_neg hneg, if_neg hm, if_neg (by rw [decide_eq_false hneg]; decide)]; simp
theorem refText_c {w : World} {ok : Nat → Prop} {v : Value} {z : Int} (hv : ZV w ok v z) (hz : z.natAbs < 18446744073709551616) :
    Calls Tryz.prog 48 #[v] w fun e w' => e = .returned (.string (decB z)) ∧ Below w.heap.size w w' := by
  obtain ⟨sv, rfl, hu⟩ := hv
  obtain ⟨A, c, rfl, hc, hC⟩ := hu.slice
  exact F.pylonref01_Text.calls 200 _ A c _ _ w hC hc (text_f z hz)
end Ar
end Go.Proofs.YtnghcgmkncbnnaaGreat
end
section
namespace Go.Proofs.YtnghcgmkncbnnaaGreat
open Go.RowKit Go.Proofs.YtnghcgmkncbnnaaGreatW.PrintWords Go.Proofs.YtnghcgmkncbnnaaGreatW.PrintLast Go.Proofs.YtnghcgmkncbnnaaGreatW.PrintMore
namespace Ar
open Wd
def wpair : List Int → List Int
  | [] => []
  | [a] => [a]
  | a :: b :: l => (a + 65536 * b) :: wpair l
theorem wpair_ok : ∀ {l : List Int}, Hd.okW l → okW (wpair l)
  | [], _ => okW_nil
  | [a], h => okW_cons.2 ⟨by have := (Hd.okW_cons.1 h).1; omega, okW_nil⟩
  | a :: b :: l, h => by
    have h1 := (Hd.okW_cons.1 h).1
    have h2 := (Hd.okW_cons.1 (Hd.okW_cons.1 h).2)
    exact okW_cons.2 ⟨by omega, wpair_ok h2.2⟩
theorem wpair_val : ∀ {l : List Int}, Hd.okW l → val (wpair l) = Hd.val l
  | [], _ => rfl
  | [a], h => by simp [wpair, val, Hd.val]
  | a :: b :: l, h => by
    have h1 := (Hd.okW_cons.1 h).1
    have h2 := (Hd.okW_cons.1 (Hd.okW_cons.1 h).2)
    rw [wpair, val, Hd.val, Hd.val, wpair_val h2.2]
    omega
theorem wpair_last : ∀ {l : List Int}, Hd.okW l → (∀ x, l.getLast? = some x → x ≠ 0) → ∀ x, (wpair l).getLast? = some x → x ≠ 0
  | [], _, _, x, hx => by simp [wpair] at hx
  | [a], _, h, x, hx => h x (by simpa [wpair] using hx)
  | [a, b], hk, h, x, hx => by
    have hb := h b (by simp)
    have h1 := (Hd.okW_cons.1 hk).1
    have h2 := (Hd.okW_cons.1 (Hd.okW_cons.1 hk).2).1
    obtain rfl : a + 65536 * b = x := by simpa [wpair] using hx
    omega
  | a :: b :: c :: l, hk, h, x, hx => by
    have h2 := (Hd.okW_cons.1 (Hd.okW_cons.1 hk).2)
    refine wpair_last h2.2 (fun y hy => h y (by simpa using hy)) x ?_
    have hne : ∃ z zs, wpair (c :: l) = z :: zs := by cases l <;> exact ⟨_, _, rfl⟩
    obtain ⟨z, zs, hz⟩ := hne
    rw [wpair, hz] at hx
    rw [hz]
    simpa using hx
theorem wpair_digs (n : Nat) : wpair (Hd.digs n) = digs n := by
  have h1 := wpair_val (Hd.digs_ok n)
  rw [Hd.val_digs] at h1
  have := digs_val _ (wpair_ok (Hd.digs_ok n)) (wpair_last (Hd.digs_ok n) (Hd.digs_last n))
  rw [h1] at this
  exact this.symm
theorem at_mid (a b : List Int) (x : Int) : F.pylonref01_at.f (a ++ x :: b) ((a.length : Nat) : Int) = some x := by
  unfold F.pylonref01_at.f
  rw [if_pos (by simp; omega), if_pos (by omega), rd_mid]
theorem at_end (a : List Int) : F.pylonref01_at.f a ((a.length : Nat) : Int) = some 0 := by
  unfold F.pylonref01_at.f
  rw [if_neg (by omega)]
theorem of_l0 (neg : Bool) : ∀ (suf pre acc : List Int) (k : Nat), Hd.okW suf → suf.length + 2 ≤ k → pre.length + 2 * suf.length + acc.length < 1000000 →
    F.pylonref01_of.l0 k neg (pre ++ suf) acc ((pre.length : Nat) : Int) = some (neg && decide (0 < (acc ++ wpair suf).length), acc ++ wpair suf)
  | suf, pre, acc, 0, h, hk, hl => absurd hk (by omega)
  | [], pre, acc, k + 1, h, hk, hl => by
    rw [F.pylonref01_of.l0, if_neg (by simp), wpair, List.append_nil]
    cases neg <;> simp
  | [a], pre, acc, k + 1, h, hk, hl => by
    have h1 := (Hd.okW_cons.1 h).1
    have e2 : wrap64 (((pre.length : Nat) : Int) + 1) = (((pre ++ [a]).length : Nat) : Int) := by rw [w64succ _ (by simp at hl; omega)]; simp
    have e3 : wrap64 (((pre.length : Nat) : Int) + 2) = (((pre ++ [a, 0]).length : Nat) : Int) := by rw [w64in _ (by omega) (by simp at hl; omega)]; simp
    rw [F.pylonref01_of.l0, if_pos (by simp; omega), show pre ++ [a] = pre ++ a :: [] from rfl, at_mid, Option.bind_some, e2, at_end, Option.bind_some, if_pos (by omega), e3]
    cases k with
    | zero => exact absurd hk (by simp)
    | succ k =>
      rw [F.pylonref01_of.l0, if_neg (by simp)]
      rw [show (a + 0 % 4294967296 * 65536) % 4294967296 = a by omega, wpair]
      cases neg <;> simp
  | a :: b :: suf, pre, acc, k + 1, h, hk, hl => by
    have h1 := (Hd.okW_cons.1 h).1
    have h2 := (Hd.okW_cons.1 (Hd.okW_cons.1 h).2)
    simp only [List.length_cons] at hk hl
    have e2 : wrap64 (((pre.length : Nat) : Int) + 1) = (((pre ++ [a]).length : Nat) : Int) := by rw [w64succ _ (by omega)]; simp
    have e3 : wrap64 (((pre.length : Nat) : Int) + 2) = (((pre ++ [a, b]).length : Nat) : Int) := by rw [w64in _ (by omega) (by omega)]; simp
    rw [F.pylonref01_of.l0, if_pos (by simp; omega), at_mid, Option.bind_some, e2, show pre ++ a :: b :: suf = (pre ++ [a]) ++ b :: suf by simp, at_mid, Option.bind_some, if_pos (by omega), e3, show (pre ++ [a]) ++ b :: suf = (pre ++ [a, b]) ++ suf by simp,
      of_l0 neg suf (pre ++ [a, b]) _ k h2.2 (by omega) (by simp; omega), show (a + b % 4294967296 * 65536) % 4294967296 = a + 65536 * b by omega, wpair]
    simp
theorem of_f (neg : Bool) (n : Nat) (hn : n < 18446744073709551616) (k : Nat) (hk : 20 ≤ k) : F.pylonref01_of.f k neg (Hd.digs n) = some (neg && decide (n ≠ 0), digs n) := by
  unfold F.pylonref01_of.f
  have hl := Hd.digs_len_le n 4 (by omega)
  rw [trim16_f _ (Hd.digs_ok n) (by omega) k (by omega), Hd.val_digs, Option.bind_some]
  have := of_l0 neg (Hd.digs n) [] [] k (Hd.digs_ok n) (by omega) (by simp; omega)
  simp only [List.nil_append, List.length_nil] at this
  rw [show ((0 : Nat) : Int) = 0 from rfl] at this
  rw [this, wpair_digs]
  congr 2
  by_cases h : n = 0
  · subst h; simp [digs_zero]
  · have : 0 < (digs n).length := List.length_pos_iff.2 (fun e => h (digs_nil.1 e))
    simp [h, this]
theorem least_f (neg : Bool) (ws : List Int) (hw : okW ws) (hl : ws.length ≤ 2) : F.pylonref01_Least.f 50 neg ws = some (neg && decide (val ws ≠ 0), digs (val ws)) := by
  unfold F.pylonref01_Least.f
  have hv : val ws < 18446744073709551616 := Nat.lt_of_lt_of_le (val_lt ws hw) (Nat.le_trans (Nat.pow_le_pow_right (by decide) hl) (by decide))
  rw [halves_f ws hw (by omega) 50 (by omega), Option.bind_some, of_f _ _ hv 50 (by decide), Option.bind_some]
end Ar
end Go.Proofs.YtnghcgmkncbnnaaGreat
end
