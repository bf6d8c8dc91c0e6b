/- Part 13 of the proof: Package bidtext: what is formatted is parsed as it was; what is parsed is right; every text is read rightly. A proper prefix of a text that denotes a unit, or a bid, denotes none; the text is read alike wherever it lies; no condition. The law BidtextSubstring: the walk. -/
import Derived.Test.YtnghcgmkncbnnaaMu11
import Derived.Test.YtnghcgmkncbnnaaMu12
set_option linter.unusedVariables false
set_option linter.unusedSimpArgs false
section
namespace Go.Proofs.Ytnghcgmkncbnnaa
open Go.RowKit Go.Proofs.YtnghcgmkncbnnaaW.PrintWords Go.Proofs.YtnghcgmkncbnnaaW.PrintLast Go.Proofs.YtnghcgmkncbnnaaW.PrintMore
namespace Ar
open Wd
theorem zOf_len (s : ByteArray) : (digs (zOf s).natAbs).length < 1048570 := by
  unfold zOf
  rw [(sg_sign _ _).2]
  unfold pMag
  split
  · decide
  · rename_i hl
    split
    · decide
    · split
      · decide
      · split
        · next h => have := decN_digs h; dsimp only; omega
        · decide
theorem pD_len (s : ByteArray) : (digs (pD s).natAbs).length < 1048570 := by
  unfold pD
  split
  · exact zOf_len _
  · decide
theorem good_any (s : ByteArray) : Good s (fun _ => True) := fun _ _ => ⟨fun _ _ _ _ _ _ hv => IsCanQ_all hv (zOf_len _) (pD_len _), fun _ => trivial⟩
theorem outU_ok {u : Un} {e : Int} (h : checkU u = 0) : outU u (e, 0) = (u, e, 0) := by
  unfold outU
  rw [if_neg (fun g => g rfl), if_neg (fun g => g h)]
theorem outB_ok {bus : Int} {l : List Stp} {e : Int} (h : checkB bus l = 0) : outB bus l (e, 0) = ((bus, l), e, 0) := by
  unfold outB
  rw [if_neg (fun g => g rfl), if_neg (fun g => g h)]
theorem unText_len (u : Un) (h : u.steps.length ≤ 100) : (unText u).size ≤ 20000 := by
  have h1 := flat_le nT_len (unNums u)
  have h2 := flat_le sT_len u.steps
  have h3 : (unNums u).length = 8 := rfl
  rw [← bs_len]
  show (fmtTo (showT unitB (unNums u) u.steps) (showT unitB (unNums u) u.steps).length).length ≤ _
  rw [show_text]
  simp only [List.length_append, List.length_cons, List.length_nil]
  have h4 : unitB.data.toList.length = 4 := rfl
  omega
theorem biText_len (bus : Int) (l : List Stp) (h : l.length ≤ 100) : (biText bus l).size ≤ 20000 := by
  have h1 := flat_le nT_len [bus]
  have h2 := flat_le sT_len l
  have h3 : [bus].length = 1 := rfl
  rw [← bs_len]
  show (fmtTo (showT bidB [bus] l) (showT bidB [bus] l).length).length ≤ _
  rw [show_text]
  simp only [List.length_append, List.length_cons, List.length_nil]
  have h4 : bidB.data.toList.length = 3 := rfl
  omega
theorem tn_all {u : Un} (h : checkU u = 0) : (∀ n ∈ unNums u, i64r n) ∧ (∀ s ∈ u.steps, i64r s.f0 ∧ i64r s.f1) ∧ u.steps.length ≤ 3 := by
  obtain ⟨h1, h2, h3⟩ := checkU_ok h
  exact ⟨fun n hn => tn_i64 (h1 n hn), fun s hs => ⟨tn_i64 (h2 s hs).1, tn_i64 (h2 s hs).2⟩, h3⟩
theorem tn_allB {bus : Int} {l : List Stp} (h : checkB bus l = 0) : i64r bus ∧ (∀ s ∈ l, i64r s.f0 ∧ i64r s.f1) ∧ l.length ≤ 3 := by
  obtain ⟨h1, h2, h3⟩ := checkB_ok h
  exact ⟨tn_i64 h1, fun s hs => ⟨tn_i64 (h2 s hs).1, tn_i64 (h2 s hs).2⟩, h3⟩
theorem unit_back {u : Un} (h : checkU u = 0) : parseU (unText u) 0 = (u, ((unText u).size : Int), 0) := by
  obtain ⟨h1, h2, h3⟩ := tn_all h
  have := unText_ch (s := unText u) (A := []) (R := []) (u := u) (by have := unText_len u (by omega); omega) (by simp) h1 h2
  simp only [List.length_nil, Nat.zero_add, Int.natCast_zero] at this
  rw [this, outU_ok h]
theorem bid_back {bus : Int} {l : List Stp} (h : checkB bus l = 0) : parseB (biText bus l) 0 = ((bus, l), ((biText bus l).size : Int), 0) := by
  obtain ⟨h1, h2, h3⟩ := tn_allB h
  have := biText_ch (s := biText bus l) (A := []) (R := []) (bus := bus) (l := l) (by have := biText_len bus l (by omega); omega) (by simp) h1 h2
  simp only [List.length_nil, Nat.zero_add, Int.natCast_zero] at this
  rw [this, outB_ok h]
theorem outU_in {u : Un} {q : Int × Int} (h : (outU u q).2.2 = 0) : q.2 = 0 ∧ checkU u = 0 ∧ outU u q = (u, q.1, 0) := by
  unfold outU at h ⊢
  split at h
  · rename_i g; exact absurd h g
  · rename_i g
    split at h
    · rename_i g2; exact absurd h g2
    · rename_i g2; rw [if_neg g, if_neg g2]; exact ⟨by simpa using g, by simpa using g2, rfl⟩
theorem outB_in {bus : Int} {l : List Stp} {q : Int × Int} (h : (outB bus l q).2.2 = 0) : q.2 = 0 ∧ checkB bus l = 0 ∧ outB bus l q = ((bus, l), q.1, 0) := by
  unfold outB at h ⊢
  split at h
  · rename_i g; exact absurd h g
  · rename_i g
    split at h
    · rename_i g2; exact absurd h g2
    · rename_i g2; rw [if_neg g, if_neg g2]; exact ⟨by simpa using g, by simpa using g2, rfl⟩
theorem wordS_ok {s w : ByteArray} {st : Int × Int} (h : (wordS s w st).2 = 0) : st.2 = 0 ∧ 0 ≤ st.1 ∧ st.1 < (wordS s w st).1 ∧ (wordS s w st).1 ≤ s.size := by
  unfold wordS at h ⊢
  split at h
  · rename_i h0
    rw [if_pos h0]
    unfold ewS at h ⊢
    split at h
    · exact absurd h (by decide)
    · rename_i h1
      rw [if_neg h1]
      exact ⟨h0, expS_ok h⟩
  · rename_i h0; exact absurd h h0
theorem stepS_ok {s : ByteArray} {st : Int × Int} (h : (stepS s st).2.2 = 0) : st.2 = 0 ∧ 0 ≤ st.1 ∧ st.1 < (stepS s st).2.1 ∧ (stepS s st).2.1 ≤ s.size := by
  obtain ⟨h2, a2, b2, c2⟩ := takeS_ok (show (takeS s 2 _).2 = 0 from h)
  obtain ⟨h3, a3, b3, c3⟩ := numS_ok h2
  obtain ⟨h4, a4, b4, c4⟩ := numS_ok h3
  obtain ⟨h5, a5, b5, c5⟩ := takeS_ok h4
  refine ⟨h5, a5, ?_, c2⟩
  show st.1 < (takeS s 2 (numS s (numS s (takeS s 1 st)).2).2).1
  omega
theorem sevF_ok {s : ByteArray} : ∀ (f : Nat) (acc : List (Int × Int)) (st : Int × Int), (sevF f s acc st).2.2 = 0 → st.2 = 0 ∧ st.1 ≤ (sevF f s acc st).2.1
  | 0, acc, st, h => ⟨h, Int.le_refl _⟩
  | f + 1, acc, st, h => by
    rw [sevF] at h ⊢
    split at h
    · rename_i hg
      rw [if_pos hg]
      obtain ⟨h1, h2⟩ := sevF_ok f _ _ h
      obtain ⟨h3, h4, h5, h6⟩ := stepS_ok h1
      exact ⟨h3, by omega⟩
    · rename_i hg
      rw [if_neg hg]
      exact ⟨h, Int.le_refl _⟩
theorem parseU_in {s : ByteArray} {p : Int} (h : (parseU s p).2.2 = 0) : checkU (parseU s p).1 = 0 ∧ p < (parseU s p).2.1 ∧ (parseU s p).2.1 ≤ s.size := by
  unfold parseU rdunit at h ⊢
  dsimp only at h ⊢
  obtain ⟨h1, h2, h3⟩ := outU_in h
  rw [h3]
  dsimp only
  obtain ⟨e0, a0, b0, c0⟩ := takeS_ok h1
  obtain ⟨e1, b1⟩ := sevF_ok _ _ _ e0
  obtain ⟨e2, a2, b2, c2⟩ := numS_ok e1
  obtain ⟨e3, a3, b3, c3⟩ := numS_ok e2
  obtain ⟨e4, a4, b4, c4⟩ := numS_ok e3
  obtain ⟨e5, a5, b5, c5⟩ := numS_ok e4
  obtain ⟨e6, a6, b6, c6⟩ := numS_ok e5
  obtain ⟨e7, a7, b7, c7⟩ := numS_ok e6
  obtain ⟨e8, a8, b8, c8⟩ := numS_ok e7
  obtain ⟨e9, a9, b9, c9⟩ := numS_ok e8
  obtain ⟨e10, a10, b10, c10⟩ := wordS_ok e9
  obtain ⟨e11, a11, b11, c11⟩ := takeS_ok e10
  refine ⟨h2, ?_, c0⟩
  have b1' : _ ≤ (sevS s _).2.1 := b1
  dsimp only at b11
  omega
theorem parseB_in {s : ByteArray} {p : Int} (h : (parseB s p).2.2 = 0) : checkB (parseB s p).1.1 (parseB s p).1.2 = 0 ∧ p < (parseB s p).2.1 ∧ (parseB s p).2.1 ≤ s.size := by
  unfold parseB rdbid at h ⊢
  dsimp only at h ⊢
  obtain ⟨h1, h2, h3⟩ := outB_in h
  rw [h3]
  dsimp only
  obtain ⟨e0, a0, b0, c0⟩ := takeS_ok h1
  obtain ⟨e1, b1⟩ := sevF_ok _ _ _ e0
  obtain ⟨e9, a9, b9, c9⟩ := numS_ok e1
  obtain ⟨e10, a10, b10, c10⟩ := wordS_ok e9
  obtain ⟨e11, a11, b11, c11⟩ := takeS_ok e10
  refine ⟨h2, ?_, c0⟩
  have b1' : _ ≤ (sevS s _).2.1 := b1
  dsimp only at b11
  omega
end Ar
end Go.Proofs.Ytnghcgmkncbnnaa
end
section
namespace Go.Proofs.Ytnghcgmkncbnnaa
open Go.RowKit Go.Proofs.YtnghcgmkncbnnaaW.PrintWords Go.Proofs.YtnghcgmkncbnnaaW.PrintLast Go.Proofs.YtnghcgmkncbnnaaW.PrintMore
namespace Ar
open Wd
def Pre (t s : ByteArray) : Prop := s.size ≤ 65536 ∧ ∃ R, bs s = bs t ++ R
theorem pre_size {t s : ByteArray} (h : Pre t s) : t.size ≤ s.size := by
  obtain ⟨_, R, h⟩ := h
  have := len_mid h
  rw [bs_len] at this; omega
theorem pre_bt {t s : ByteArray} (h : Pre t s) {k : Nat} (hk : k < t.size) : bt s k = bt t k := by
  obtain ⟨_, R, h⟩ := h
  rw [bt_get, bt_get, h, List.getElem?_append_left (by rw [bs_len]; exact hk)]
theorem skF_pre {t s : ByteArray} (h : Pre t s) {P : Int → Bool} : ∀ (f k f' : Nat), k + f = t.size → f ≤ f' → skF f t P k < t.size → skF f' s P k = skF f t P k
  | 0, k, f', hk, _, hl => by rw [skF] at hl; omega
  | f + 1, k, 0, _, hf, _ => absurd hf (by omega)
  | f + 1, k, f' + 1, hk, hf, hl => by
    rw [skF] at hl ⊢
    rw [skF, pre_bt h (show k < t.size by omega)]
    split
    · rename_i hp
      rw [if_pos hp] at hl
      exact skF_pre h f (k + 1) f' (by omega) (by omega) hl
    · rfl
theorem sk_pre {t s : ByteArray} (h : Pre t s) {P : Int → Bool} {k : Nat} (hk : k ≤ t.size) (hl : sk t P k < t.size) : sk s P k = sk t P k := by
  have := pre_size h
  unfold sk at hl ⊢
  exact skF_pre h _ k _ (by omega) (by omega) hl
theorem ext_pre {t s : ByteArray} (h : Pre t s) {a b : Nat} (hb : b ≤ t.size) : s.extract a b = t.extract a b := by
  obtain ⟨_, R, h⟩ := h
  refine bs_inj ?_
  have h' : s.data.toList = t.data.toList ++ R := h
  have hb' : b ≤ t.data.toList.length := by rw [Array.length_toList]; exact hb
  show (s.extract a b).data.toList = (t.extract a b).data.toList
  rw [ByteArray.data_extract, ByteArray.data_extract, Array.toList_extract, Array.toList_extract, h']
  simp only [List.extract_eq_take_drop]
  by_cases hab : a ≤ b
  · rw [List.drop_append_of_le_length (by omega), List.take_append_of_le_length (by rw [List.length_drop]; omega)]
  · rw [show b - a = 0 by omega, List.take_zero, List.take_zero]
theorem runS_k {w : ByteArray} {r : Bool} (h : (runS w r).2 = 0) : (runS w r).1.k = 3 ∨ (runS w r).1.k = 4 := by
  unfold runS at h ⊢
  split at h
  · exact absurd h (by decide)
  rename_i h1
  rw [if_neg h1]
  split at h
  · rename_i h2; rw [if_pos h2]; exact .inl rfl
  rename_i h2
  rw [if_neg h2]
  split at h
  · exact absurd h (by decide)
  rename_i h3
  rw [if_neg h3]
  split at h
  · rename_i h4; rw [if_pos h4]; exact .inr rfl
  · rename_i h4; exact absurd h h4
theorem next_pre {t s : ByteArray} (h : Pre t s) {p : Int} (h0 : (nextS t p).2.2 = 0) (hq : (nextS t p).2.1 < t.size ∨ (nextS t p).1.k = 1 ∨ (nextS t p).1.k = 2) : nextS s p = nextS t p := by
  have hs := pre_size h
  have hs2 := h.1
  unfold nextS at h0 hq ⊢
  rw [if_neg (by omega)] at h0 hq ⊢
  split at h0
  · exact absurd h0 (by decide)
  rename_i hp
  rw [if_neg hp] at hq ⊢
  rw [if_neg (by omega), if_neg (by omega)]
  have hk := sk_le t isSep p.toNat (by omega)
  have hk1 : sk t isSep p.toNat < t.size := by
    unfold nextAt at h0
    split at h0
    · exact absurd h0 (by decide)
    · omega
  rw [sk_pre h (by omega) hk1]
  generalize sk t isSep p.toNat = k at h0 hq hk1
  unfold nextAt at h0 hq ⊢
  rw [if_neg (by omega)] at h0 hq
  rw [if_neg (show ¬ k = s.size by omega), if_neg (show ¬ k = t.size by omega), pre_bt h hk1]
  by_cases h40 : bt t k = 40
  · rw [if_pos h40, if_pos h40]
  rw [if_neg h40] at h0 hq
  rw [if_neg h40, if_neg h40]
  by_cases h41 : bt t k = 41
  · rw [if_pos h41, if_pos h41]
  rw [if_neg h41] at h0 hq
  rw [if_neg h41, if_neg h41]
  have he := sk_le t isRun k (by omega)
  split at h0
  · rename_i hr
    rw [if_pos hr] at hq
    have hk34 := runS_k (w := t.extract k (sk t isRun k)) hr
    have hlt : sk t isRun k < t.size := by
      rcases hq with hq | hq | hq
      · dsimp only at hq; omega
      · have hq' : (tkOf (t.extract k (sk t isRun k))).1.k = 1 := hq
        unfold tkOf at hq'; omega
      · have hq' : (tkOf (t.extract k (sk t isRun k))).1.k = 2 := hq
        unfold tkOf at hq'; omega
    rw [sk_pre h (by omega) hlt, ext_pre h he.2]
  · rename_i hr; exact absurd h0 hr
theorem exp_pre {t s : ByteArray} (h : Pre t s) {p kd : Int} (h0 : (expS t p kd).2.2 = 0) (hq : (expS t p kd).2.1 < t.size ∨ kd = 1 ∨ kd = 2) : expS s p kd = expS t p kd := by
  obtain ⟨h1, h2, h3⟩ := expS_next h0
  rw [h3] at hq
  have hn := next_pre h h1 (by rw [h2]; exact hq)
  unfold expS
  rw [hn]
theorem take_pre {t s : ByteArray} (h : Pre t s) {kd : Int} {st : Int × Int} (h0 : (takeS t kd st).2 = 0) (hq : (takeS t kd st).1 < t.size ∨ kd = 1 ∨ kd = 2) : takeS s kd st = takeS t kd st := by
  unfold takeS at h0 hq ⊢
  split at h0
  · rename_i he
    rw [if_pos he] at hq ⊢
    rw [if_pos he, exp_pre h h0 hq]
  · rename_i he; rw [if_neg he, if_neg he]
theorem word_pre {t s : ByteArray} (h : Pre t s) {w : ByteArray} {st : Int × Int} (h0 : (wordS t w st).2 = 0) (hq : (wordS t w st).1 < t.size) : wordS s w st = wordS t w st := by
  unfold wordS at h0 hq ⊢
  split at h0
  · rename_i he
    rw [if_pos he] at hq ⊢
    rw [if_pos he]
    unfold ewS at h0 hq ⊢
    split at h0
    · exact absurd h0 (by decide)
    · rename_i hw
      rw [if_neg hw] at hq
      rw [exp_pre h h0 (.inl hq)]
  · rename_i he; rw [if_neg he, if_neg he]
theorem num_pre {t s : ByteArray} (h : Pre t s) {st : Int × Int} (h0 : (numS t st).2.2 = 0) (hq : (numS t st).2.1 < t.size) : numS s st = numS t st := by
  unfold numS at h0 hq ⊢
  split at h0
  · rename_i he
    rw [if_pos he] at hq ⊢
    rw [if_pos he]
    unfold eiS at h0 hq ⊢
    split at h0
    · rename_i h1; exact absurd h0 h1
    · rename_i h1
      have h1' : (expS t st.1 4).2.2 = 0 := by simpa using h1
      rw [if_neg h1] at hq
      split at h0
      · rename_i h2
        rw [if_pos h2] at hq
        rw [exp_pre h h1' (.inl hq)]
      · exact absurd h0 (by decide)
  · rename_i he; rw [if_neg he, if_neg he]
theorem step_pre {t s : ByteArray} (h : Pre t s) {st : Int × Int} (h0 : (stepS t st).2.2 = 0) : stepS s st = stepS t st := by
  obtain ⟨h2, a2, b2, c2⟩ := takeS_ok (show (takeS t 2 _).2 = 0 from h0)
  obtain ⟨h3, a3, b3, c3⟩ := numS_ok h2
  obtain ⟨h4, a4, b4, c4⟩ := numS_ok h3
  have e1 := take_pre h (kd := 1) (st := st) h4 (.inr (.inl rfl))
  have e2 := num_pre h h3 (by omega)
  have e3 := num_pre h h2 (by omega)
  have e4 := take_pre h (kd := 2) (show (takeS t 2 _).2 = 0 from h0) (.inr (.inr rfl))
  unfold stepS
  rw [e1, e2, e3, e4]
theorem pk_pre {t s : ByteArray} (h : Pre t s) {p : Int} (h0 : (nextS t p).2.2 = 0) (hk : (nextS t p).1.k = 1 ∨ (nextS t p).1.k = 2) : pkS s p 1 = pkS t p 1 := by
  unfold pkS; rw [next_pre h h0 (.inr hk)]
theorem sev_pre {t s : ByteArray} (h : Pre t s) : ∀ (f f' : Nat) (acc : List (Int × Int)) (st : Int × Int), left t st ≤ f → left s st ≤ f' → (takeS t 2 (sevF f t acc st).2).2 = 0 → sevF f' s acc st = sevF f t acc st
  | f, f', acc, st, hf, hf', h0 => by
    cases hg : goOn t st with
    | false =>
      rw [sevF_stop hg] at h0
      rw [sevF_stop hg]
      have h1 := (takeS_ok h0).1
      have hgs : goOn s st = false := by
        unfold takeS at h0
        rw [if_pos h1] at h0
        obtain ⟨n1, n2, _⟩ := expS_next h0
        unfold goOn at hg ⊢
        rw [pk_pre h n1 (.inr n2)]; exact hg
      exact sevF_stop hgs _ _
    | true =>
      obtain ⟨g1, g2, g3⟩ := goOn_pos hg
      have hl := left_step hg
      have hgs : goOn s st = true := by
        have hg' := hg
        unfold goOn at hg' ⊢
        rw [Bool.and_eq_true] at hg'
        have hk := hg'.2
        unfold pkS at hk
        rw [Bool.and_eq_true, beq_iff_eq, beq_iff_eq] at hk
        rw [pk_pre h hk.1 (.inl hk.2)]; exact hg
      have hls := left_step hgs
      cases f with
      | zero => exact absurd hf (by omega)
      | succ f =>
        rw [sevF_more hg] at h0
        rw [sevF_more hg]
        have h5 : (stepS t st).2.2 = 0 := (sevF_ok f _ _ (takeS_ok h0).1).1
        have e := step_pre h h5
        rw [e] at hls
        cases f' with
        | zero => exact absurd hf' (by have := goOn_pos hgs; omega)
        | succ f' =>
          rw [sevF_more hgs, e]
          exact sev_pre h f f' _ _ (by omega) (by omega) h0
theorem sevS_pre {t s : ByteArray} (h : Pre t s) {st : Int × Int} (hp : 0 ≤ st.1) (h0 : (takeS t 2 (sevS t st).2).2 = 0) : sevS s st = sevS t st :=
  sev_pre h _ _ [] st (by unfold left; split <;> omega) (by unfold left; split <;> omega) h0
theorem rdunit_pre {t s : ByteArray} (h : Pre t s) {p : Int} (h0 : (parseU t p).2.2 = 0) : parseU s p = parseU t p := by
  unfold parseU rdunit at h0 ⊢
  dsimp only at h0 ⊢
  obtain ⟨h1, _, _⟩ := outU_in h0
  obtain ⟨e0, a0, b0, c0⟩ := takeS_ok h1
  obtain ⟨e1, b1⟩ := sevF_ok _ _ _ e0
  have b1' : _ ≤ (sevS t _).2.1 := b1
  obtain ⟨e2, a2, b2, c2⟩ := numS_ok e1
  obtain ⟨e3, a3, b3, c3⟩ := numS_ok e2
  obtain ⟨e4, a4, b4, c4⟩ := numS_ok e3
  obtain ⟨e5, a5, b5, c5⟩ := numS_ok e4
  obtain ⟨e6, a6, b6, c6⟩ := numS_ok e5
  obtain ⟨e7, a7, b7, c7⟩ := numS_ok e6
  obtain ⟨e8, a8, b8, c8⟩ := numS_ok e7
  obtain ⟨e9, a9, b9, c9⟩ := numS_ok e8
  obtain ⟨e10, a10, b10, c10⟩ := wordS_ok e9
  have q11 := take_pre h (kd := 1) (st := (p, 0)) e10 (.inr (.inl rfl))
  have q10 := word_pre h e9 (by omega)
  have q9 := num_pre h e8 (by omega)
  have q8 := num_pre h e7 (by omega)
  have q7 := num_pre h e6 (by omega)
  have q6 := num_pre h e5 (by omega)
  have q5 := num_pre h e4 (by omega)
  have q4 := num_pre h e3 (by omega)
  have q3 := num_pre h e2 (by omega)
  have q2 := num_pre h e1 (by omega)
  have q1 := sevS_pre h (st := (numS t _).2) (by omega) h1
  have q0 := take_pre h (kd := 2) h1 (.inr (.inr rfl))
  rw [q11, q10, q9, q8, q7, q6, q5, q4, q3, q2, q1, q0]
theorem rdbid_pre {t s : ByteArray} (h : Pre t s) {p : Int} (h0 : (parseB t p).2.2 = 0) : parseB s p = parseB t p := by
  unfold parseB rdbid at h0 ⊢
  dsimp only at h0 ⊢
  obtain ⟨h1, _, _⟩ := outB_in h0
  obtain ⟨e0, a0, b0, c0⟩ := takeS_ok h1
  obtain ⟨e1, b1⟩ := sevF_ok _ _ _ e0
  have b1' : _ ≤ (sevS t _).2.1 := b1
  obtain ⟨e9, a9, b9, c9⟩ := numS_ok e1
  obtain ⟨e10, a10, b10, c10⟩ := wordS_ok e9
  have q11 := take_pre h (kd := 1) (st := (p, 0)) e10 (.inr (.inl rfl))
  have q10 := word_pre h e9 (by omega)
  have q9 := num_pre h e1 (by omega)
  have q1 := sevS_pre h (st := (numS t _).2) (by omega) h1
  have q0 := take_pre h (kd := 2) h1 (.inr (.inr rfl))
  rw [q11, q10, q9, q1, q0]
theorem pre_ext {s : ByteArray} (hs : s.size ≤ 65536) (k : Nat) : Pre (s.extract 0 k) s := by
  refine ⟨hs, (bs s).drop k, ?_⟩
  show s.data.toList = (s.extract 0 k).data.toList ++ s.data.toList.drop k
  rw [ByteArray.data_extract, Array.toList_extract]
  simp
theorem unit_cut {u : Un} (hu : checkU u = 0) {k : Nat} (hk : k < (unText u).size) : (parseU ((unText u).extract 0 k) 0).2.2 ≠ 0 := by
  intro h0
  have hl := unText_len u (by have := (tn_all hu).2.2; omega)
  have h1 := rdunit_pre (pre_ext (by omega) k) h0
  have h2 := (parseU_in h0).2.2
  rw [← h1, unit_back hu, ByteArray.size_extract] at h2
  dsimp only at h2
  omega
theorem bid_cut {bus : Int} {l : List Stp} (hu : checkB bus l = 0) {k : Nat} (hk : k < (biText bus l).size) : (parseB ((biText bus l).extract 0 k) 0).2.2 ≠ 0 := by
  intro h0
  have hl := biText_len bus l (by have := (tn_allB hu).2.2; omega)
  have h1 := rdbid_pre (pre_ext (by omega) k) h0
  have h2 := (parseB_in h0).2.2
  rw [← h1, bid_back hu, ByteArray.size_extract] at h2
  dsimp only at h2
  omega
theorem unit_mid {u : Un} (hu : checkU u = 0) {a b : ByteArray} (ha : a.size + b.size ≤ 5000) : parseU (a ++ unText u ++ b) a.size = (u, (a.size : Int) + ((unText u).size : Int), 0) := by
  obtain ⟨h1, h2, h3⟩ := tn_all hu
  have hl := unText_len u (by omega)
  have := unText_ch (s := a ++ unText u ++ b) (A := bs a) (R := bs b) (u := u) (by rw [ByteArray.size_append, ByteArray.size_append]; omega) (by rw [bs_app, bs_app]; simp) h1 h2
  rw [bs_len] at this
  rw [this, outU_ok hu, Int.natCast_add]
theorem bid_mid {bus : Int} {l : List Stp} (hu : checkB bus l = 0) {a b : ByteArray} (ha : a.size + b.size ≤ 5000) : parseB (a ++ biText bus l ++ b) a.size = ((bus, l), (a.size : Int) + ((biText bus l).size : Int), 0) := by
  obtain ⟨h1, h2, h3⟩ := tn_allB hu
  have hl := biText_len bus l (by omega)
  have := biText_ch (s := a ++ biText bus l ++ b) (A := bs a) (R := bs b) (bus := bus) (l := l) (by rw [ByteArray.size_append, ByteArray.size_append]; omega) (by rw [bs_app, bs_app]; simp) h1 h2
  rw [bs_len] at this
  rw [this, outB_ok hu, Int.natCast_add]
end Ar
end Go.Proofs.Ytnghcgmkncbnnaa
end
section
namespace Go.Proofs.Ytnghcgmkncbnnaa
open Go.RowKit Go.Proofs.YtnghcgmkncbnnaaW.PrintWords Go.Proofs.YtnghcgmkncbnnaaW.PrintLast Go.Proofs.YtnghcgmkncbnnaaW.PrintMore
namespace Ar
open Wd
theorem long_b {w : World} (s : ByteArray) (A : Option Addr) (c : Nat) (l : List Stp) (h : Kd.C kStp w A l.length l) (hc : l.length ≤ c) :
    Calls Try.prog 15 #[.string s, .slice A l.length c] w fun e w' => e = .returned (.bool (decide (5000 < s.size) || decide (50 < l.length))) ∧ Below w.heap.size w w' :=
  (long_c s A c l h hc).mono fun _ _ ⟨h1, h2⟩ => ⟨h1, h2.below⟩
theorem unit_m {w : World} {u : Un} {A : Option Addr} {c : Nat} (hu : checkU u = 0) {a b : ByteArray} (ha : a.size + b.size ≤ 5000) (h : Kd.C kStp w A u.steps.length u.steps) (hc : u.steps.length ≤ c) :
    Calls Try.prog 9 #[.string (a ++ unText u ++ b), .int .i64 a.size, .agg (unC u (.slice A u.steps.length c)), .int .i64 ((a.size : Int) + ((unText u).size : Int)), .int .i64 0] w fun e w' => e = .returned (.bool true) ∧ Below w.heap.size w w' := by
  have hl := (tn_all hu).2.2
  have hp := unit_mid hu ha
  have hz := unText_len u (by omega)
  have hs : (a ++ unText u ++ b).size < 1048576 := by rw [ByteArray.size_append, ByteArray.size_append]; omega
  generalize a ++ unText u ++ b = X at hp hs ⊢
  generalize ((a.size : Int) + ((unText u).size : Int)) = E at hp ⊢
  exact unit_c hs (good_any X) a.size trivial u E 0 hp A c h hc (by omega)
theorem bid_m {w : World} {bus : Int} {l : List Stp} {A : Option Addr} {c : Nat} (hu : checkB bus l = 0) {a b : ByteArray} (ha : a.size + b.size ≤ 5000) (h : Kd.C kStp w A l.length l) (hc : l.length ≤ c) :
    Calls Try.prog 10 #[.string (a ++ biText bus l ++ b), .int .i64 a.size, .agg (biC bus (.slice A l.length c)), .int .i64 ((a.size : Int) + ((biText bus l).size : Int)), .int .i64 0] w fun e w' => e = .returned (.bool true) ∧ Below w.heap.size w w' := by
  have hl := (tn_allB hu).2.2
  have hp := bid_mid hu ha
  have hz := biText_len bus l (by omega)
  have hs : (a ++ biText bus l ++ b).size < 1048576 := by rw [ByteArray.size_append, ByteArray.size_append]; omega
  generalize a ++ biText bus l ++ b = X at hp hs ⊢
  generalize ((a.size : Int) + ((biText bus l).size : Int)) = E at hp ⊢
  exact bid_c hs (good_any X) a.size trivial bus l E 0 hp A c h hc (by omega)
theorem unText_pos (u : Un) : 0 < (unText u).size := by
  rw [← bs_len]
  show 0 < (fmtTo (showT unitB (unNums u) u.steps) (showT unitB (unNums u) u.steps).length).length
  rw [show_text]; simp
theorem biText_pos (bus : Int) (l : List Stp) : 0 < (biText bus l).size := by
  rw [← bs_len]
  show 0 < (fmtTo (showT bidB [bus] l) (showT bidB [bus] l).length).length
  rw [show_text]; simp
structure CutF (a b S : ByteArray) (q : Int) (k : Nat) : Prop where
  h1 : Int.tmod q (S.size : Int) = (k : Int)
  h2 : ((S.size : Int) == 0) = false
  h4 : a.size + S.size ≤ 9223372036854775807
  h5 : (a ++ S).size + b.size ≤ 9223372036854775807
  h6 : k < S.size
theorem cutF {a b S : ByteArray} {q : Int} (hq : 0 ≤ q ∧ q ≤ 65535) (ha : a.size + b.size ≤ 5000) (h0 : 0 < S.size) (h1 : S.size ≤ 20000) : CutF a b S q (q.toNat % S.size) := by
  have hm : q.toNat % S.size < S.size := Nat.mod_lt _ h0
  refine ⟨?_, beq_eq_false_iff_ne.2 (by omega), by omega, by rw [ByteArray.size_append]; omega, hm⟩
  rw [Int.tmod_eq_emod_of_nonneg hq.1]
  obtain ⟨m, rfl⟩ := Int.eq_ofNat_of_zero_le hq.1
  rw [Int.toNat_natCast, ← Int.natCast_emod]
set_option maxRecDepth 100000 in
set_option maxHeartbeats 32000000 in
theorem substring_c {w : World} (u : Un) (bus : Int) (l : List Stp) (A A' : Option Addr) (c c' : Nat) (a b : ByteArray) (q : Int) (h : Kd.C kStp w A u.steps.length u.steps) (hc : u.steps.length ≤ c) (h' : Kd.C kStp w A' l.length l) (hc' : l.length ≤ c') (hsa : a.size ≤ 140737488351232) (hsb : b.size ≤ 140737488351232) (hq : 0 ≤ q ∧ q ≤ 65535) :
    Calls Try.prog 6 #[.agg (unC u (.slice A u.steps.length c)), .agg (biC bus (.slice A' l.length c')), .string a, .string b, .int .u16 q] w fun e w' => e = .returned (.bool true) ∧ Below w.heap.size w w' := by
  have hU := Try.underlying30
  have hV := Try.underlying33
  have HL := Lib.hid (fun (W : World) (hb : Below w.heap.size w W) => long_b (w := W) (a ++ b) A c u.steps (Kd.C_below h hb) hc)
  have HM := Lib.hid (fun (W : World) (hb : Below w.heap.size w W) => long_b (w := W) ⟨#[]⟩ A' c' l (Kd.C_below h' hb) hc')
  have HA := Lib.hid (fun (W : World) => awake_c (w := W))
  have HU := Lib.hid (fun (W : World) (hb : Below w.heap.size w W) (hl : u.steps.length < 1000000) => FormatUnit_c (w := W) u A c (Kd.C_below h hb) hc hl showU_ok)
  have HB := Lib.hid (fun (W : World) (hb : Below w.heap.size w W) (hl : l.length < 1000000) => FormatBid_c (w := W) bus l A' c' (Kd.C_below h' hb) hc' hl showB_ok)
  have hab : a.size + b.size ≤ 9223372036854775807 := by omega
  have hq64 : wrap64 q = q := w64in _ (by omega) (by omega)
  have e0 : decide (5000 < (⟨#[]⟩ : ByteArray).size) = false := rfl
  rw [e0] at HM
  simp only [Bool.false_or] at HM
  clear e0
  obtain ⟨b0, hb0d⟩ : ∃ z, (decide (5000 < (a ++ b).size) || decide (50 < u.steps.length)) = z := ⟨_, rfl⟩
  obtain ⟨b1, hb1d⟩ : ∃ b, decide (50 < l.length) = b := ⟨_, rfl⟩
  have HNn : Hid (b0 = false → (a ++ b).size ≤ 5000 ∧ u.steps.length < 1000000) := fun e => by rw [e, Bool.or_eq_false_iff, decide_eq_false_iff_not, decide_eq_false_iff_not] at hb0d; first | omega | exact ⟨by omega, by omega⟩
  have HNo : Hid (b1 = false → l.length < 1000000) := fun e => by rw [e, decide_eq_false_iff_not] at hb1d; omega
  rw [hb0d] at HL
  rw [hb1d] at HM
  clear hb0d hb1d
  have hsz : b0 = false → a.size + b.size ≤ 5000 := fun e => by have := (HNn.out e).1; rwa [ByteArray.size_append] at this
  have HN : Hid (b0 = false → checkU u = 0 → ∀ W, Below w.heap.size w W → Calls Try.prog 9 #[.string (a ++ unText u ++ b), .int .i64 a.size, .agg (unC u (.slice A u.steps.length c)), .int .i64 ((a.size : Int) + ((unText u).size : Int)), .int .i64 0] W fun e w' => e = .returned (.bool true) ∧ Below W.heap.size W w') := fun e0 e W hb => unit_m e (hsz e0) (Kd.C_below h hb) hc
  have HO : Hid (b0 = false → checkB bus l = 0 → ∀ W, Below w.heap.size w W → Calls Try.prog 10 #[.string (a ++ biText bus l ++ b), .int .i64 a.size, .agg (biC bus (.slice A' l.length c')), .int .i64 ((a.size : Int) + ((biText bus l).size : Int)), .int .i64 0] W fun e w' => e = .returned (.bool true) ∧ Below W.heap.size W w') := fun e0 e W hb => bid_m e (hsz e0) (Kd.C_below h' hb) hc'
  obtain ⟨k1, hk1⟩ : ∃ k, q.toNat % (unText u).size = k := ⟨_, rfl⟩
  obtain ⟨k2, hk2⟩ : ∃ k, q.toNat % (biText bus l).size = k := ⟨_, rfl⟩
  have hf1 : b0 = false → checkU u = 0 → CutF a b (unText u) q k1 := fun e0 e => hk1 ▸ cutF hq (hsz e0) (unText_pos u) (unText_len u (by have := (tn_all e).2.2; omega))
  have hf2 : b0 = false → checkB bus l = 0 → CutF a b (biText bus l) q k2 := fun e0 e => hk2 ▸ cutF hq (hsz e0) (biText_pos bus l) (biText_len bus l (by have := (tn_allB e).2.2; omega))
  obtain ⟨V, N, G, hVp⟩ : ∃ V N G, parseU ((unText u).extract 0 k1) 0 = (V, N, G) := ⟨_, _, _, rfl⟩
  obtain ⟨D, M, I, hDp⟩ : ∃ D M I, parseB ((biText bus l).extract 0 k2) 0 = (D, M, I) := ⟨_, _, _, rfl⟩
  obtain ⟨db, ld⟩ := D
  have hG : b0 = false → checkU u = 0 → G ≠ 0 := fun e0 e => by have := unit_cut e (hf1 e0 e).h6; rw [hVp] at this; exact this
  have hI : b0 = false → checkB bus l = 0 → I ≠ 0 := fun e0 e => by have := bid_cut e (hf2 e0 e).h6; rw [hDp] at this; exact this
  have HPU := Lib.hid (fun (W : World) (hs : ((unText u).extract 0 k1).size < 1048576) => ParseUnit_c hs (good_any _) (w := W) 0 trivial)
  have HPB := Lib.hid (fun (W : World) (hs : ((biText bus l).extract 0 k2).size < 1048576) => ParseBid_c hs (good_any _) (w := W) 0 trivial)
  rw [hVp] at HPU
  rw [hDp] at HPB
  have HZ1 : Hid (checkU u = 0 → ((unText u).extract 0 k1).size < 1048576) := fun e => Nat.lt_of_le_of_lt (extract_size_le _ _ _) (by have := unText_len u (by have := (tn_all e).2.2; omega); omega)
  have HZ2 : Hid (checkB bus l = 0 → ((biText bus l).extract 0 k2).size < 1048576) := fun e => Nat.lt_of_le_of_lt (extract_size_le _ _ _) (by have := biText_len bus l (by have := (tn_allB e).2.2; omega); omega)
  clear hVp hDp hk1 hk2
  have HF1 := Lib.hid hf1
  have HF2 := Lib.hid hf2
  have HG := Lib.hid hG
  have HI := Lib.hid hI
  clear hf1 hf2 hG hI hsz hsa hsb h h' hc hc'
  obtain ⟨S1, hS1⟩ : ∃ S : ByteArray, unText u = S := ⟨_, rfl⟩
  obtain ⟨S2, hS2⟩ : ∃ S : ByteArray, biText bus l = S := ⟨_, rfl⟩
  rw [hS1] at HU HN HF1 HPU HZ1
  rw [hS2] at HB HO HF2 HPB HZ2
  clear hS1 hS2
  generalize checkU u = F1 at HU HN HF1 HG HZ1
  generalize checkB bus l = F2 at HB HO HF2 HI HZ2
  obtain ⟨vb, vmi, lv, vup, vdn, vst, vid, vsp, von⟩ := V
  dsimp only [unC] at HPU HPB
  generalize lv.length = nv at HPU
  generalize ld.length = nd at HPB
  obtain ⟨ub, mi, lu, up, dn, st, idl, sp, on⟩ := u
  dsimp only [unC] at HU HL HN HNn ⊢
  generalize lu.length = n1 at HU HL HN HNn ⊢
  generalize l.length = n2 at HB HM HO HNo ⊢
  have hB := below_alloc (below_alloc (Below.refl _ w) (.cells #[.int .i64 ub, .int .i64 mi, .slice A n1 c, .int .i64 up, .int .i64 dn, .int .i64 st, .int .i64 idl, .int .i64 sp, .int .i64 on] 30)) (.cells #[.int .i64 bus, .slice A' n2 c'] 33)
  have kk := blk_alloc (blk_new w (.cells #[.int .i64 ub, .int .i64 mi, .slice A n1 c, .int .i64 up, .int .i64 dn, .int .i64 st, .int .i64 idl, .int .i64 sp, .int .i64 on] 30)) (.cells #[.int .i64 bus, .slice A' n2 c'] 33)
  have jj := blk_new (w.alloc (.cells #[.int .i64 ub, .int .i64 mi, .slice A n1 c, .int .i64 up, .int .i64 dn, .int .i64 st, .int .i64 idl, .int .i64 sp, .int .i64 on] 30)) (.cells #[.int .i64 bus, .slice A' n2 c'] 33)
  rw [World.size_alloc] at jj
  have hgb : (w.heap.size + 1) ≠ w.heap.size := by omega
  have hbg : w.heap.size ≠ (w.heap.size + 1) := by omega
  have hk0 := blk_cell kk 0; have hk1 := blk_cell kk 1; have hk2 := blk_cell kk 2; have hk3 := blk_cell kk 3; have hk4 := blk_cell kk 4; have hk5 := blk_cell kk 5; have hk6 := blk_cell kk 6; have hk7 := blk_cell kk 7; have hk8 := blk_cell kk 8
  have hj0 := blk_cell jj 0; have hj1 := blk_cell jj 1
  cases b0 with
  | true =>
    go_enter Try.func6, Try.ntmps6
    go_wp2_with (first | (go_at_call_of 15 (Value.slice A n1 c); refine (HL.out _ hB).mono ?_; rintro e w1 ⟨rfl, hb⟩; replace hB := below_step hB hb; replace kk := blk_below kk hb; replace jj := blk_below jj hb; replace hk0 := blk_cell kk 0; replace hk1 := blk_cell kk 1; replace hk2 := blk_cell kk 2; replace hk3 := blk_cell kk 3; replace hk4 := blk_cell kk 4; replace hk5 := blk_cell kk 5; replace hk6 := blk_cell kk 6; replace hk7 := blk_cell kk 7; replace hk8 := blk_cell kk 8; replace hj0 := blk_cell jj 0; replace hj1 := blk_cell jj 1; clear hb) | (go_at_call 8; refine (HA.out _).mono ?_; rintro e w3 ⟨rfl, hb⟩; replace hB := below_step hB hb; replace kk := blk_below kk hb; replace jj := blk_below jj hb; replace hk0 := blk_cell kk 0; replace hk1 := blk_cell kk 1; replace hk2 := blk_cell kk 2; replace hk3 := blk_cell kk 3; replace hk4 := blk_cell kk 4; replace hk5 := blk_cell kk 5; replace hk6 := blk_cell kk 6; replace hk7 := blk_cell kk 7; replace hk8 := blk_cell kk 8; replace hj0 := blk_cell jj 0; replace hj1 := blk_cell jj 1; clear hb))
    go_ret
    exact ⟨rfl, hB⟩
  | false =>
    have HN1 := Lib.hid (HNn.out rfl)
    cases b1 with
    | true =>
      go_enter Try.func6, Try.ntmps6
      go_wp2_with (first | (go_at_call_of 15 (Value.slice A' n2 c'); refine (HM.out _ hB).mono ?_; rintro e w2 ⟨rfl, hb⟩; replace hB := below_step hB hb; replace kk := blk_below kk hb; replace jj := blk_below jj hb; replace hk0 := blk_cell kk 0; replace hk1 := blk_cell kk 1; replace hk2 := blk_cell kk 2; replace hk3 := blk_cell kk 3; replace hk4 := blk_cell kk 4; replace hk5 := blk_cell kk 5; replace hk6 := blk_cell kk 6; replace hk7 := blk_cell kk 7; replace hk8 := blk_cell kk 8; replace hj0 := blk_cell jj 0; replace hj1 := blk_cell jj 1; clear hb) | (go_at_call_of 15 (Value.slice A n1 c); refine (HL.out _ hB).mono ?_; rintro e w1 ⟨rfl, hb⟩; replace hB := below_step hB hb; replace kk := blk_below kk hb; replace jj := blk_below jj hb; replace hk0 := blk_cell kk 0; replace hk1 := blk_cell kk 1; replace hk2 := blk_cell kk 2; replace hk3 := blk_cell kk 3; replace hk4 := blk_cell kk 4; replace hk5 := blk_cell kk 5; replace hk6 := blk_cell kk 6; replace hk7 := blk_cell kk 7; replace hk8 := blk_cell kk 8; replace hj0 := blk_cell jj 0; replace hj1 := blk_cell jj 1; clear hb) | (go_at_call 8; refine (HA.out _).mono ?_; rintro e w3 ⟨rfl, hb⟩; replace hB := below_step hB hb; replace kk := blk_below kk hb; replace jj := blk_below jj hb; replace hk0 := blk_cell kk 0; replace hk1 := blk_cell kk 1; replace hk2 := blk_cell kk 2; replace hk3 := blk_cell kk 3; replace hk4 := blk_cell kk 4; replace hk5 := blk_cell kk 5; replace hk6 := blk_cell kk 6; replace hk7 := blk_cell kk 7; replace hk8 := blk_cell kk 8; replace hj0 := blk_cell jj 0; replace hj1 := blk_cell jj 1; clear hb))
      go_ret
      exact ⟨rfl, hB⟩
    | false =>
      have HN0 := Lib.hid (HNo.out rfl)
      have HN1' := Lib.hid (HN.out rfl)
      have HO1' := Lib.hid (HO.out rfl)
      have HF1' := Lib.hid (HF1.out rfl)
      have HF2' := Lib.hid (HF2.out rfl)
      have HG' := Lib.hid (HG.out rfl)
      have HI' := Lib.hid (HI.out rfl)
      clear HN HO HF1 HF2 HG HI
      have K1 : (F1 = 0 ∧ CutF a b S1 q k1 ∧ (G == 0) = false) ∨ ((F1 == 0) = false ∧ (F1 != 0) = true) := by
        by_cases e : F1 = 0
        · exact .inl ⟨e, HF1'.out e, beq_eq_false_iff_ne.2 (HG'.out e)⟩
        · exact .inr ⟨beq_eq_false_iff_ne.2 e, bne_iff_ne.2 e⟩
      have K2 : (F2 = 0 ∧ CutF a b S2 q k2 ∧ (I != 0) = true) ∨ ((F2 == 0) = false ∧ (F2 != 0) = true) := by
        by_cases e : F2 = 0
        · exact .inl ⟨e, HF2'.out e, bne_iff_ne.2 (HI'.out e)⟩
        · exact .inr ⟨beq_eq_false_iff_ne.2 e, bne_iff_ne.2 e⟩
      clear HF1' HF2' HG' HI'
      rcases K1 with ⟨rfl, ⟨f1, f2, f4, f5, f6⟩, q1⟩ | ⟨q1, q1'⟩
      all_goals rcases K2 with ⟨rfl, ⟨g1, g2, g4, g5, g6⟩, q2⟩ | ⟨q2, q2'⟩
      all_goals try rw [if_pos rfl] at HU
      all_goals try rw [if_pos rfl] at HB
      all_goals go_enter Try.func6, Try.ntmps6
      all_goals go_wp2_with (first | (go_at_call 10; refine (HO1'.out (by trivial) _ hB).mono ?_; rintro e w9 ⟨rfl, hb⟩; replace hB := below_step hB hb; replace kk := blk_below kk hb; replace jj := blk_below jj hb; clear hb) | (go_at_call 18; refine (HPB.out _ (HZ2.out (by trivial))).mono ?_; rintro e w8 ⟨A2, c2, hc2, rfl, hr2, hb⟩; replace hB := below_alloc (below_step hB hb) (.cells #[.int .i64 db, .slice A2 nd c2] 33); replace kk := blk_alloc (blk_below kk hb) (.cells #[.int .i64 db, .slice A2 nd c2] 33); replace jj := blk_alloc (blk_below jj hb) (.cells #[.int .i64 db, .slice A2 nd c2] 33); replace hk0 := blk_cell kk 0; replace hk1 := blk_cell kk 1; replace hk2 := blk_cell kk 2; replace hk3 := blk_cell kk 3; replace hk4 := blk_cell kk 4; replace hk5 := blk_cell kk 5; replace hk6 := blk_cell kk 6; replace hk7 := blk_cell kk 7; replace hk8 := blk_cell kk 8; replace hj0 := blk_cell jj 0; replace hj1 := blk_cell jj 1; clear hb) | (go_at_call 17; refine (HPU.out _ (HZ1.out (by trivial))).mono ?_; rintro e w7 ⟨A1, c1, hc1, rfl, hr1, hb⟩; replace hB := below_alloc (below_step hB hb) (.cells #[.int .i64 vb, .int .i64 vmi, .slice A1 nv c1, .int .i64 vup, .int .i64 vdn, .int .i64 vst, .int .i64 vid, .int .i64 vsp, .int .i64 von] 30); replace kk := blk_alloc (blk_below kk hb) (.cells #[.int .i64 vb, .int .i64 vmi, .slice A1 nv c1, .int .i64 vup, .int .i64 vdn, .int .i64 vst, .int .i64 vid, .int .i64 vsp, .int .i64 von] 30); replace jj := blk_alloc (blk_below jj hb) (.cells #[.int .i64 vb, .int .i64 vmi, .slice A1 nv c1, .int .i64 vup, .int .i64 vdn, .int .i64 vst, .int .i64 vid, .int .i64 vsp, .int .i64 von] 30); replace hk0 := blk_cell kk 0; replace hk1 := blk_cell kk 1; replace hk2 := blk_cell kk 2; replace hk3 := blk_cell kk 3; replace hk4 := blk_cell kk 4; replace hk5 := blk_cell kk 5; replace hk6 := blk_cell kk 6; replace hk7 := blk_cell kk 7; replace hk8 := blk_cell kk 8; replace hj0 := blk_cell jj 0; replace hj1 := blk_cell jj 1; clear hb) | (go_at_call 9; refine (HN1'.out (by trivial) _ hB).mono ?_; rintro e w6 ⟨rfl, hb⟩; replace hB := below_step hB hb; replace kk := blk_below kk hb; replace jj := blk_below jj hb; replace hk0 := blk_cell kk 0; replace hk1 := blk_cell kk 1; replace hk2 := blk_cell kk 2; replace hk3 := blk_cell kk 3; replace hk4 := blk_cell kk 4; replace hk5 := blk_cell kk 5; replace hk6 := blk_cell kk 6; replace hk7 := blk_cell kk 7; replace hk8 := blk_cell kk 8; replace hj0 := blk_cell jj 0; replace hj1 := blk_cell jj 1; clear hb) | (go_at_call_of 13 (Value.agg #[.int .i64 bus, .slice A' n2 c']); refine (HB.out _ hB HN0.out).mono ?_; rintro e w5 ⟨rfl, hb⟩; replace hB := below_step hB hb; replace kk := blk_below kk hb; replace jj := blk_below jj hb; replace hk0 := blk_cell kk 0; replace hk1 := blk_cell kk 1; replace hk2 := blk_cell kk 2; replace hk3 := blk_cell kk 3; replace hk4 := blk_cell kk 4; replace hk5 := blk_cell kk 5; replace hk6 := blk_cell kk 6; replace hk7 := blk_cell kk 7; replace hk8 := blk_cell kk 8; replace hj0 := blk_cell jj 0; replace hj1 := blk_cell jj 1; clear hb) | (go_at_call_of 12 (Value.agg #[.int .i64 ub, .int .i64 mi, .slice A n1 c, .int .i64 up, .int .i64 dn, .int .i64 st, .int .i64 idl, .int .i64 sp, .int .i64 on]); refine (HU.out _ hB HN1.out.2).mono ?_; rintro e w4 ⟨rfl, hb⟩; replace hB := below_step hB hb; replace kk := blk_below kk hb; replace jj := blk_below jj hb; replace hk0 := blk_cell kk 0; replace hk1 := blk_cell kk 1; replace hk2 := blk_cell kk 2; replace hk3 := blk_cell kk 3; replace hk4 := blk_cell kk 4; replace hk5 := blk_cell kk 5; replace hk6 := blk_cell kk 6; replace hk7 := blk_cell kk 7; replace hk8 := blk_cell kk 8; replace hj0 := blk_cell jj 0; replace hj1 := blk_cell jj 1; clear hb) | (go_at_call 8; refine (HA.out _).mono ?_; rintro e w3 ⟨rfl, hb⟩; replace hB := below_step hB hb; replace kk := blk_below kk hb; replace jj := blk_below jj hb; replace hk0 := blk_cell kk 0; replace hk1 := blk_cell kk 1; replace hk2 := blk_cell kk 2; replace hk3 := blk_cell kk 3; replace hk4 := blk_cell kk 4; replace hk5 := blk_cell kk 5; replace hk6 := blk_cell kk 6; replace hk7 := blk_cell kk 7; replace hk8 := blk_cell kk 8; replace hj0 := blk_cell jj 0; replace hj1 := blk_cell jj 1; clear hb) | (go_at_call_of 15 (Value.slice A' n2 c'); refine (HM.out _ hB).mono ?_; rintro e w2 ⟨rfl, hb⟩; replace hB := below_step hB hb; replace kk := blk_below kk hb; replace jj := blk_below jj hb; replace hk0 := blk_cell kk 0; replace hk1 := blk_cell kk 1; replace hk2 := blk_cell kk 2; replace hk3 := blk_cell kk 3; replace hk4 := blk_cell kk 4; replace hk5 := blk_cell kk 5; replace hk6 := blk_cell kk 6; replace hk7 := blk_cell kk 7; replace hk8 := blk_cell kk 8; replace hj0 := blk_cell jj 0; replace hj1 := blk_cell jj 1; clear hb) | (go_at_call_of 15 (Value.slice A n1 c); refine (HL.out _ hB).mono ?_; rintro e w1 ⟨rfl, hb⟩; replace hB := below_step hB hb; replace kk := blk_below kk hb; replace jj := blk_below jj hb; replace hk0 := blk_cell kk 0; replace hk1 := blk_cell kk 1; replace hk2 := blk_cell kk 2; replace hk3 := blk_cell kk 3; replace hk4 := blk_cell kk 4; replace hk5 := blk_cell kk 5; replace hk6 := blk_cell kk 6; replace hk7 := blk_cell kk 7; replace hk8 := blk_cell kk 8; replace hj0 := blk_cell jj 0; replace hj1 := blk_cell jj 1; clear hb))
      all_goals go_ret
      all_goals exact ⟨rfl, hB⟩
end Ar
end Go.Proofs.Ytnghcgmkncbnnaa
end
