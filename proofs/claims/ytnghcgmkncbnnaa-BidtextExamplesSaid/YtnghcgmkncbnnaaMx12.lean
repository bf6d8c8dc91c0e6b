/- Part 12 of the proof: Dividing magnitudes of package whole as the model runs it: by any magnitude. Rationals of package frac as the model runs them: any denominator. -/
import Derived.Test.YtnghcgmkncbnnaaMx8
set_option linter.unusedVariables false
set_option linter.unusedSimpArgs false
section
namespace Go.Proofs.Ytnghcgmkncbnnaa
open Go.RowKit Go.Proofs.YtnghcgmkncbnnaaW.PrintWords Go.Proofs.YtnghcgmkncbnnaaW.PrintLast Go.Proofs.YtnghcgmkncbnnaaW.PrintMore
namespace Ar
open Wd
theorem l0_more {k : Nat} {a b q r : List Int} {n i : Int} {z : List Int × List Int} (h : X.whole_div.l0 k a b q r n i = some z) : ∀ m, X.whole_div.l0 (k + m) a b q r n i = some z
  | 0 => h
  | m + 1 => (X.whole_div.mono_l (k + m)).1 _ _ _ _ _ _ _ (l0_more h m)
theorem okL_digs {v : Nat} (h : (digs v).length < 1073741824) : okL (digs v) = true := okL_iff.2 ⟨digs_ok v, h⟩
theorem trim_x {l : List Int} (h : okW l) (hl : l.length < 1073741824) : X.whole_trim.f l = some (digs (val l)) := by unfold X.whole_trim.f; rw [if_pos (okL_iff.2 ⟨h, hl⟩)]
theorem mul_x {b m : Nat} (hb : (digs b).length < 1048577) (hm : m < 4294967296) : X.whole_mul.f (digs b) [(m : Int)] = some (wds ((digs b).length + 1) (b * m)) := by
  have h1 : okL [(m : Int)] = true := okL_iff.2 ⟨okW1 m hm, by simp⟩
  unfold X.whole_mul.f
  rw [if_pos ⟨okL_digs (by omega), h1⟩, val_digs, val1]; rfl
theorem wds_mul {b m : Nat} (hb : (digs b).length < 1048577) (hm : m < 4294967296) : X.whole_trim.f (wds ((digs b).length + 1) (b * m)) = some (digs (b * m)) := by
  rw [trim_x (wds_ok _ _) (by rw [wds_length]; omega), val_wds_lt]
  have := digs_lt b _ (Nat.le_refl _)
  rw [Nat.pow_succ]
  exact Nat.mul_lt_mul_of_lt_of_le this (Nat.le_of_lt hm) (by decide)
theorem digs_mul_len {b m : Nat} (hb : (digs b).length < 1048577) (hm : m < 4294967296) : (digs (b * m)).length < 1048579 := by
  have := digs_len_le (b * m) ((digs b).length + 1) (by
    have := digs_lt b _ (Nat.le_refl _)
    rw [Nat.pow_succ]
    exact Nat.mul_lt_mul_of_lt_of_le this (Nat.le_of_lt hm) (by decide))
  omega
theorem cmp_x {x y : Nat} (hx : (digs x).length < 1073741824) (hy : (digs y).length < 1073741824) : ∃ c : Int, X.whole_cmp.f (digs x) (digs y) = some c ∧ (c ≤ 0 ↔ x ≤ y) := by
  unfold X.whole_cmp.f
  rw [if_pos ⟨okL_digs hx, okL_digs hy⟩, val_digs, val_digs]
  by_cases hl : (digs x).length = (digs y).length
  · rw [if_pos hl]
    refine ⟨_, rfl, ?_⟩
    split
    · omega
    · split <;> omega
  · rw [if_neg hl]
    refine ⟨_, rfl, ?_⟩
    have h1 : x ≤ y → (digs x).length ≤ (digs y).length := digs_len_mono
    have h2 : y ≤ x → (digs y).length ≤ (digs x).length := digs_len_mono
    rcases Nat.le_total x y with h | h
    · have := h1 h; omega
    · have := h2 h
      refine ⟨fun h' => by omega, fun h' => by have := h1 h'; omega⟩
theorem sub_x {x y : Nat} (hx : (digs x).length < 1048580) (hy : (digs y).length < 1048580) (h : y ≤ x) : (X.whole_sub.f (digs x) (digs y)).bind X.whole_trim.f = some (digs (x - y)) := by
  unfold X.whole_sub.f
  rw [if_pos ⟨⟨okL_digs (by omega), okL_digs (by omega)⟩, by rw [val_digs, val_digs]; exact h⟩, val_digs, val_digs, Option.bind_some, trim_x (wds_ok _ _) (by rw [wds_length]; omega), val_wds_lt]
  have := digs_lt x _ (Nat.le_refl _)
  refine Nat.lt_of_lt_of_le (Nat.lt_of_le_of_lt (Nat.sub_le x y) this) (Nat.pow_le_pow_right (by decide) (by omega))
theorem search_x {b R i : Nat} (hb0 : 0 < b) (hb : (digs b).length < 1048577) (hR : (digs R).length < 1048579) {a q : List Int} (hiq : i < q.length) {n k : Int} {z : List Int × List Int} {K : Nat}
    (h : X.whole_div.l0 K a (digs b) (q.set i ((R / b : Nat) : Int)) (digs (R % b)) n (wrap64 (k + 1)) = some z) :
    ∀ (m lo hi : Nat), lo ≤ R / b → R / b < hi → hi ≤ 4294967296 → hi - lo ≤ 2 ^ m → X.whole_div.l1 (K + m + 1) a (digs b) q (digs R) i lo hi n k = some z
  | m, lo, hi, h1, h2, h3, h4 => by
    rw [X.whole_div.l1]
    have e1 : IntKind.u64.wrap ((hi : Int) - (lo : Int)) = ((hi - lo : Nat) : Int) := by rw [u64in _ (by omega) (by omega)]; omega
    have e2 : IntKind.u64.wrap (Int.tdiv (IntKind.u64.wrap ((lo : Int) + (hi : Int))) 2) = (((lo + hi) / 2 : Nat) : Int) := by
      rw [u64in ((lo : Int) + (hi : Int)) (by omega) (by omega), Int.tdiv_eq_ediv_of_nonneg (by omega), u64in _ (by omega) (by omega)]; omega
    rw [e1]
    by_cases hd : hi - lo > 1
    · rw [if_pos (by omega), e2]
      have hmid : (lo + hi) / 2 < 4294967296 := by omega
      have e3 : ((((lo + hi) / 2 : Nat) : Int) % 4294967296) = (((lo + hi) / 2 : Nat) : Int) := by omega
      rw [e3, mul_x hb hmid, Option.bind_some, wds_mul hb hmid, Option.bind_some]
      obtain ⟨c, hc, hcc⟩ := cmp_x (x := b * ((lo + hi) / 2)) (y := R) (by have := digs_mul_len hb hmid; omega) (by omega)
      rw [hc, Option.bind_some]
      cases m with
      | zero => exact absurd h4 (by omega)
      | succ m =>
        rw [Nat.pow_succ] at h4
        by_cases hle : c ≤ 0
        · rw [if_pos hle]
          have : (lo + hi) / 2 ≤ R / b := (Nat.le_div_iff_mul_le hb0).2 (by rw [Nat.mul_comm]; exact hcc.1 hle)
          exact search_x hb0 hb hR hiq h m ((lo + hi) / 2) hi this h2 h3 (by omega)
        · rw [if_neg hle]
          have : R / b < (lo + hi) / 2 := (Nat.div_lt_iff_lt_mul hb0).2 (by rw [Nat.mul_comm]; have := fun g => hle (hcc.2 g); omega)
          exact search_x hb0 hb hR hiq h m lo ((lo + hi) / 2) h1 this (by omega) (by omega)
    · rw [if_neg (by omega), if_pos (by omega), if_pos (by omega)]
      have hlo : lo = R / b := by omega
      have e3 : ((lo : Int) % 4294967296) = (lo : Int) := by omega
      have hle : b * lo ≤ R := by rw [hlo]; exact Nat.mul_div_le R b
      rw [e3, mul_x hb (by omega), Option.bind_some, wds_mul hb (by omega), Option.bind_some]
      have hs := sub_x (x := R) (y := b * lo) (by omega) (by have := digs_mul_len (m := lo) hb (by omega); omega) hle
      have hmod : R - b * lo = R % b := by rw [hlo]; have := Nat.div_add_mod R b; omega
      rw [hmod] at hs
      obtain ⟨t, ht, hs⟩ := Option.bind_eq_some_iff.mp hs
      rw [ht, Option.bind_some, hs, Option.bind_some, hlo]
      simp only [Int.toNat_natCast]
      exact l0_more h m
theorem long_x {a b : Nat} (hb0 : 0 < b) (ha : (digs a).length < 1048577) (hb : (digs b).length < 1048577) : ∀ j, j ≤ (digs a).length →
    X.whole_div.l0 (40 * j + 1) (digs a) (digs b) (List.replicate j 0 ++ wds ((digs a).length - j) (val ((digs a).drop j) / b)) (digs (val ((digs a).drop j) % b)) ((digs a).length : Int) (((digs a).length - j : Nat) : Int) = some (digs (a / b), digs (a % b)) := by
  intro j
  have hvl : ∀ j, val ((digs a).drop j) ≤ a := by
    intro j
    have h1 : digs a = (digs a).take j ++ (digs a).drop j := (List.take_append_drop j _).symm
    have h2 := val_digs a
    rw [h1] at h2
    have h3 : ∀ (x y : List Int), val y ≤ val (x ++ y) := by
      intro x y
      induction x with
      | nil => exact Nat.le_refl _
      | cons u x ih => rw [List.cons_append, val]; omega
    have := h3 ((digs a).take j) ((digs a).drop j)
    omega
  induction j with
  | zero =>
    intro _
    rw [X.whole_div.l0, if_neg (by omega)]
    have hm := trim_x (wds_ok (digs a).length (a / b)) (by rw [wds_length]; omega)
    rw [val_wds_lt _ _ (Nat.lt_of_le_of_lt (Nat.div_le_self _ _) (digs_lt a _ (Nat.le_refl _)))] at hm
    have hmm : X.whole_trim.f (List.replicate 0 0 ++ wds ((digs a).length - 0) (val ((digs a).drop 0) / b)) = some (digs (a / b)) := by
      simpa only [List.replicate_zero, List.nil_append, Nat.sub_zero, List.drop_zero, val_digs] using hm
    rw [hmm, Option.bind_some, List.drop_zero, val_digs]
  | succ j ih =>
    intro hj
    have ih' := ih (by omega)
    obtain ⟨n, hn⟩ : ∃ n, (digs a).length = n := ⟨_, rfl⟩
    rw [hn] at hj ih' ⊢
    have hx := wrd_of (digs a) (digs_ok a) j
    rw [val_drop (digs a) j (by omega)] at ih'
    obtain ⟨x, hxd⟩ : ∃ x, x = ((digs a)[j]?.getD 0).toNat := ⟨_, rfl⟩
    rw [← hxd] at ih'
    have hx1 : x < 4294967296 := by omega
    have hrd : rd (digs a) (j : Int) = (x : Int) := by rw [rd_get, Int.toNat_natCast, hxd]; omega
    obtain ⟨V, hV⟩ : ∃ V, val ((digs a).drop (j + 1)) = V := ⟨_, rfl⟩
    have hVa := hvl (j + 1)
    have hvj := hvl j
    rw [val_drop (digs a) j (by omega), ← hxd, hV] at hvj
    rw [hV] at ih' hVa ⊢
    obtain ⟨h1, h2, h3⟩ := div_step b x V hb0 hx1
    rw [h1, h2] at ih'
    have hat : wrap64 (wrap64 ((n : Int) - 1) - ((n - (j + 1) : Nat) : Int)) = j := by unfold wrap64; omega
    obtain ⟨R, hR⟩ : ∃ R, x + 4294967296 * (V % b) = R := ⟨_, rfl⟩
    rw [hR] at ih' h3
    have hRa : R ≤ a := by have := Nat.mod_le V b; omega
    have hRl : (digs R).length < 1048579 := by have := digs_len_mono hRa; omega
    have q3 : wrap64 (((n - (j + 1) : Nat) : Int) + 1) = ((n - j : Nat) : Int) := by unfold wrap64; omega
    have q4 : ∀ r v : Nat, r < 4294967296 → wds (n - j) (r + 4294967296 * v) = (r : Int) :: wds (n - (j + 1)) v := by
      intro r v hr
      rw [show n - j = (n - (j + 1)) + 1 from by omega]
      simp only [wds]
      congr 2
      · omega
      · omega
    rw [q4 _ _ h3, ← set_rep] at ih'
    have hml : (digs (V % b)).length ≤ n := by rw [← hn]; exact digs_len_mono (Nat.le_trans (Nat.mod_le _ _) hVa)
    have ht : X.whole_trim.f ([(x : Int)] ++ digs (V % b)) = some (digs R) := by
      rw [trim_x (okW_append.2 ⟨okW1 x hx1, digs_ok _⟩) (by rw [List.length_append, List.length_singleton]; omega)]
      rw [List.singleton_append, val, val_digs, Int.toNat_natCast, hR]
    have hlen2 : j < (List.replicate (j + 1) (0 : Int) ++ wds (n - (j + 1)) (V / b)).length := by simp [wds_length]; omega
    rw [← q3] at ih'
    rw [show 40 * (j + 1) + 1 = (40 * j + 38 + 1 + 1) + 1 from by omega, X.whole_div.l0, if_pos (by omega), hn, hat, if_pos (by omega), if_pos (by omega), hrd, Option.bind_some]
    rw [if_pos (by rw [List.length_singleton]; omega), ht, Option.bind_some]
    have fin := fun (m lo hi : Nat) g1 g2 g3 g4 => search_x hb0 hb hRl hlen2 ih' m lo hi g1 g2 g3 g4
    by_cases hlt : ((digs R).length : Int) < ((digs b).length : Int)
    · rw [if_pos hlt, X.whole_div.j1]
      have hRb : R < b := by
        rcases Nat.lt_or_ge R b with g | g
        · exact g
        · have := digs_len_mono g; omega
      have := fin 36 0 1 (Nat.zero_le _) (by rw [Nat.div_eq_of_lt hRb]; decide) (by decide) (by decide)
      rw [show 40 * j + 38 + 1 = 40 * j + 1 + 36 + 1 + 1 by omega]
      exact (X.whole_div.mono_l (40 * j + 1 + 36 + 1)).2.2 _ _ _ _ _ _ _ _ _ _ this
    · rw [if_neg hlt, X.whole_div.j1]
      have := fin 36 0 4294967296 (Nat.zero_le _) h3 (Nat.le_refl _) (by decide)
      rw [show 40 * j + 38 + 1 = 40 * j + 1 + 36 + 1 + 1 by omega]
      exact (X.whole_div.mono_l (40 * j + 1 + 36 + 1)).2.2 _ _ _ _ _ _ _ _ _ _ this
theorem div_x {a b : Nat} (hb0 : 0 < b) (ha : (digs a).length < 1048577) (hb : (digs b).length < 1048577) (h1 : ¬ (digs b).length = 1) : X.whole_div.f (40 * (digs a).length + 1) (digs a) (digs b) = some (digs (a / b), digs (a % b)) := by
  unfold X.whole_div.f
  rw [if_neg (by omega), if_pos (by omega), if_pos (by simp only [Int.toNat_natCast]; omega)]
  have := long_x hb0 ha hb (digs a).length (Nat.le_refl _)
  simp only [List.drop_length, val, Nat.zero_div, Nat.zero_mod, Nat.sub_self, wds, List.append_nil, Int.natCast_zero, digs_zero] at this
  exact this
theorem div_any (B : Nat) : DivAt B := by
  intro w oka okb A C ca cc a b hua hub hla hlb h0 _
  by_cases h1 : (digs b).length = 1
  · have hlt := digs_lt b 1 (by omega)
    exact div_one w oka okb A C ca cc a b hua hub hla hlb h0 (by simpa using hlt)
  · obtain ⟨A', ca', e1, hca, hCa⟩ := hua.slice
    obtain ⟨C', cc', e2, hcc, hCc⟩ := hub.slice
    cases e1; cases e2
    refine (X.whole_div.calls _ A ca (digs a) C cc (digs b) _ _ w hCa hca hCc hcc (div_x h0 (by omega) (by omega) h1)).mono ?_
    rintro e w' ⟨v1, v2, rfl, hV1, hV2, hb⟩
    obtain ⟨A1, c1, rfl⟩ := Kd.V_slice hV1
    obtain ⟨A2, c2, rfl⟩ := Kd.V_slice hV2
    exact ⟨A1, _, c1, A2, _, c2, rfl, ⟨rfl, rfl⟩, hV1, hV2, hb⟩
end Ar
end Go.Proofs.Ytnghcgmkncbnnaa
end
section
namespace Go.Proofs.Ytnghcgmkncbnnaa
open Go.RowKit Go.Proofs.YtnghcgmkncbnnaaW.PrintWords Go.Proofs.YtnghcgmkncbnnaaW.PrintLast Go.Proofs.YtnghcgmkncbnnaaW.PrintMore
namespace Ar
open Wd
theorem sm_neg {d : Int} (h : Sm d) : Sm (-d) := by unfold Sm at h ⊢; rw [Int.natAbs_neg]; exact h
set_option maxRecDepth 100000 in
set_option maxHeartbeats 8000000 in
theorem of_neg_c {w : World} {ok : Nat → Prop} {v : Value} {n d : Int} (hv : QV w ok v n d) (hd : d < 0) (hn : Sm n) (hs : Sm d) :
    Calls Try.prog 82 #[v] w fun e w' => ∃ v', e = .returned v' ∧ QV w' (fun k => w.heap.size ≤ k) v' (-n) (-d) ∧ Below w.heap.size w w' := by
  obtain ⟨b, A, r, c, b', A', r', c', rfl, H, h1, h2⟩ := hv
  have hT := Try.underlying76
  have hQ := Try.underlying78
  have hP := Try.underlying142
  have hB : Below w.heap.size w ((w.alloc (.cells #[.bool b, .slice A r.length c, .bool b', .slice A' r'.length c'] 78)).alloc (.cells nilQ 142)) := below_alloc (below_alloc (Below.refl _ w) _) _
  have k1 := blk_alloc (blk_new w (.cells #[.bool b, .slice A r.length c, .bool b', .slice A' r'.length c'] 78)) (.cells nilQ 142)
  have k2 := blk_new (w.alloc (.cells #[.bool b, .slice A r.length c, .bool b', .slice A' r'.length c'] 78)) (.cells nilQ 142)
  simp only [World.size_alloc] at k2
  have z1 := zv_mk H.out.1 H.out.2.1 ((h1.any.alloc (.cells #[.bool b, .slice A r.length c, .bool b', .slice A' r'.length c'] 78)).alloc (.cells nilQ 142))
  have z2 := zv_mk H.out.2.2.1 H.out.2.2.2 ((h2.any.alloc (.cells #[.bool b, .slice A r.length c, .bool b', .slice A' r'.length c'] 78)).alloc (.cells nilQ 142))
  have hsg : d.sign = -1 := Int.sign_eq_neg_one_of_neg hd
  have d1 : w.heap.size ≠ w.heap.size + 1 := by omega
  have e0 : ((-1 : Int) == 0) = false := rfl
  go_enter Try.func82, Try.ntmps82
  go_wp2_with (go_at_call 65; refine (sign_c z2 hs).mono ?_; rw [hsg]; rintro e w1 ⟨rfl, hb1⟩; have i1 := blk_below k1 hb1; have i2 := blk_below k2 hb1; have hy0 := blk_cell i1 0; have hy1 := blk_cell i1 1; have hy2 := blk_cell i1 2; have hy3 := blk_cell i1 3; have hyf0 := blk_frozen i1 0; have hyf1 := blk_frozen i1 1; have hyf2 := blk_frozen i1 2; have hyf3 := blk_frozen i1 3)
  go_region_held3 (fun w' => w'.cell? ⟨w.heap.size, 0, none⟩ = some (.bool b) ∧ w'.cell? ⟨w.heap.size, 1, none⟩ = some (.slice A r.length c) ∧ w'.cell? ⟨w.heap.size, 2, none⟩ = some (.bool b') ∧ w'.cell? ⟨w.heap.size, 3, none⟩ = some (.slice A' r'.length c')) (first | exact ⟨hy0, hy1, hy2, hy3⟩ | exact ⟨blk_cell j1 0, blk_cell j1 1, blk_cell j1 2, blk_cell j1 3⟩ | exact ⟨blk_cell l1 0, blk_cell l1 1, blk_cell l1 2, blk_cell l1 3⟩ | exact ⟨blk_cell (blk_far (blk_far (blk_far (blk_far l1 d1 _) d1 _) d1 _) d1 _) 0, blk_cell (blk_far (blk_far (blk_far (blk_far l1 d1 _) d1 _) d1 _) d1 _) 1, blk_cell (blk_far (blk_far (blk_far (blk_far l1 d1 _) d1 _) d1 _) d1 _) 2, blk_cell (blk_far (blk_far (blk_far (blk_far l1 d1 _) d1 _) d1 _) d1 _) 3⟩) (first | (go_at_call_of 92 (Value.agg #[.bool b, .slice A r.length c]); refine (neg_c (z1.below hb1).drew hn).mono ?_; rintro e w2 ⟨v2, rfl, hv2, hb2⟩; obtain ⟨b2, A2, r2, c2, rfl, H2, hu2⟩ := zv_openh hv2; have j1 := blk_below (blk_drew i1) hb2; have j2 := blk_below (blk_drew i2) hb2; have zz := ((z2.below hb1).drew).below hb2) | (go_at_call_of 92 (Value.agg #[.bool b', .slice A' r'.length c']); refine (neg_c zz hs).mono ?_; rintro e w3 ⟨v3, rfl, hv3, hb3⟩; obtain ⟨b3, A3, r3, c3, rfl, H3, hu3⟩ := zv_openh hv3; have l1 := blk_below j1 hb3; have l2 := blk_below j2 hb3; have hx0 := blk_cell l2 0; have hx1 := blk_cell l2 1; have hx2 := blk_cell l2 2; have hx3 := blk_cell l2 3; have hxf0 := blk_frozen l2 0; have hxf1 := blk_frozen l2 1; have hxf2 := blk_frozen l2 2; have hxf3 := blk_frozen l2 3))
  go_wp2
  refine bodyPost_ret (results_cell_row rfl _ _ (w.heap.size + 1) 142 #[.bool b2, .slice A2 r2.length c2, .bool b3, .slice A3 r3.length c3] (0, 0) _ rfl (blk_set (blk_set (blk_set (blk_set l2 0 _) 1 _) 2 _) 3 _) hP rfl (by kernel_rfl)) rfl ?_
  have s1 : w.heap.size + 2 ≤ w1.heap.size := blk_lt i2
  have s2 : w1.heap.size ≤ w2.heap.size := hb2.size
  exact qv_store (w := w) (g := w.heap.size + 1) (ok := fun k => w.heap.size + 2 ≤ k) (-n) (-d) (below_step (below_step (below_step hB hb1).drew hb2) hb3) (by omega) ((hu2.below hb3).mono (fun k hk => Nat.le_trans s1 hk)) (hu3.mono (fun k hk => by omega)) (fun k hk => by omega) ⟨H2.out.1, H2.out.2, H3.out.1, H3.out.2⟩ (fun k hk => by omega)
set_option maxRecDepth 100000 in
set_option maxHeartbeats 8000000 in
theorem Canonical_neg_c {w : World} {ok : Nat → Prop} {v : Value} {n d : Int} (hv : QV w ok v n d) (hn : Sm n) (hs : Sm d) (hd : d < 0) :
    Calls Try.prog 71 #[v] w fun e w' => ∃ v', e = .returned v' ∧ QV w' (fun k => w.heap.size ≤ k) v' (cnN (-n) (-d)) (cnD (-n) (-d)) ∧ Below w.heap.size w w' := by
  have hv0 := hv
  obtain ⟨b, A, r, c, b', A', r', c', rfl, H, h1, h2⟩ := hv
  have hT := Try.underlying76
  have hQ := Try.underlying78
  have hP := Try.underlying142
  have hB : Below w.heap.size w ((w.alloc (.cells #[.bool b, .slice A r.length c, .bool b', .slice A' r'.length c'] 78)).alloc (.cells nilQ 78)) := below_alloc (below_alloc (Below.refl _ w) _) _
  have k1 := blk_alloc (blk_new w (.cells #[.bool b, .slice A r.length c, .bool b', .slice A' r'.length c'] 78)) (.cells nilQ 78)
  have k2 := blk_new (w.alloc (.cells #[.bool b, .slice A r.length c, .bool b', .slice A' r'.length c'] 78)) (.cells nilQ 78)
  simp only [World.size_alloc] at k2
  have hq := (hv0.alloc (.cells #[.bool b, .slice A r.length c, .bool b', .slice A' r'.length c'] 78)).alloc (.cells nilQ 78)
  have hden : den1 (-d) = -d := by unfold den1; rw [if_neg (by omega)]
  go_enter Try.func71, Try.ntmps71
  go_wp2_with (first | (go_at_call 82; refine (of_neg_c hq hd hn hs).mono ?_; rintro e w1 ⟨v1, rfl, hv1, hb1⟩; have i1 := blk_below k2 hb1) | (go_at_call 83; refine (least_c (div_any ((-d).natAbs + 1)) hv1 (sm_neg hn) (sm_neg hs) (by omega) (Nat.lt_succ_self _)).mono ?_; rintro e w2 ⟨v2, rfl, hv2, hb2⟩; obtain ⟨b2, A2, r2, c2, b3, A3, r3, c3, rfl, H2, hu2, hu3⟩ := hv2; have j2 := blk_below i1 hb2; have hx0 := blk_cell j2 0; have hx1 := blk_cell j2 1; have hx2 := blk_cell j2 2; have hx3 := blk_cell j2 3; have hxf0 := blk_frozen j2 0; have hxf1 := blk_frozen j2 1; have hxf2 := blk_frozen j2 2; have hxf3 := blk_frozen j2 3))
  refine bodyPost_ret (results_cell_row rfl _ _ (w.heap.size + 1) 78 #[.bool b2, .slice A2 r2.length c2, .bool b3, .slice A3 r3.length c3] (0, 0) _ rfl (blk_set (blk_set (blk_set (blk_set j2 0 _) 1 _) 2 _) 3 _) Try.underlying78 rfl (by kernel_rfl)) rfl ?_
  have s1 : w.heap.size + 2 ≤ w1.heap.size := blk_lt i1
  have H3 : Hid (b2 = decide (cnN (-n) (-d) < 0) ∧ r2 = digs (cnN (-n) (-d)).natAbs ∧ b3 = decide (cnD (-n) (-d) < 0) ∧ r3 = digs (cnD (-n) (-d)).natAbs) := by unfold cnN cnD; rw [hden]; exact H2
  exact qv_store (cnN (-n) (-d)) (cnD (-n) (-d)) (below_step (below_step hB hb1) hb2) (by omega) hu2 hu3 (fun k hk => by omega) H3.out (fun k hk => by omega)
theorem sm_of {d : Int} (h : (digs d.natAbs).length < 1048570) : Sm d := by unfold Sm; omega
theorem sm_two {d x : Int} (h : (digs d.natAbs).length < 1048570) (hx : x.natAbs ≤ d.natAbs * 2) : Sm x := by
  unfold Sm
  have h8 := digs_len_le (d.natAbs * 2) ((digs d.natAbs).length + 1) (by have := digs_lt d.natAbs _ (Nat.le_refl _); rw [Nat.pow_succ]; omega)
  have := digs_len_mono hx
  omega
theorem cnN_le (n d : Int) : (cnN n d).natAbs ≤ n.natAbs := by
  unfold cnN
  rw [(sg_sign _ _).2]
  exact Nat.div_le_self _ _
theorem cnD_nn (n d : Int) : 0 ≤ cnD n d := by
  unfold cnD
  split
  · exact Int.le_refl 0
  · exact Int.natCast_nonneg _
set_option maxRecDepth 100000 in
set_option maxHeartbeats 8000000 in
theorem IsCanQ_all {w : World} {ok : Nat → Prop} {v : Value} {n d : Int} (hv : QV w ok v n d) (hn' : (digs n.natAbs).length < 1048570) (hs' : (digs d.natAbs).length < 1048570) :
    Calls Try.prog 81 #[v] w fun e w' => e = .returned (.bool (decide (isCn n d))) ∧ Below w.heap.size w w' := by
  have hn := sm_of hn'
  have hs := sm_of hs'
  by_cases hd0 : 0 ≤ d
  · exact IsCanQ_c (div_any ((den1 d).natAbs + 1)) hv hn hs hd0 (Nat.lt_succ_self _)
  have hd : d < 0 := by omega
  have hv0 := hv
  obtain ⟨b, A, r, c, b', A', r', c', rfl, H, h1, h2⟩ := hv
  have hT := Try.underlying76
  have hQ := Try.underlying78
  have hB : Below w.heap.size w (w.alloc (.cells #[.bool b, .slice A r.length c, .bool b', .slice A' r'.length c'] 78)) := below_alloc (Below.refl _ w) _
  have k1 := blk_new w (.cells #[.bool b, .slice A r.length c, .bool b', .slice A' r'.length c'] 78)
  have hq := hv0.alloc (.cells #[.bool b, .slice A r.length c, .bool b', .slice A' r'.length c'] 78)
  have z1 := zv_mk H.out.1 H.out.2.1 (h1.alloc (.cells #[.bool b, .slice A r.length c, .bool b', .slice A' r'.length c'] 78))
  have z2 := zv_mk H.out.2.2.1 H.out.2.2.2 (h2.alloc (.cells #[.bool b, .slice A r.length c, .bool b', .slice A' r'.length c'] 78))
  have E2 : decide (isCn n d) = false := decide_eq_false (fun h => by have h2 := h.2; have := cnD_nn n d; omega)
  rw [E2]
  clear E2
  have HC := Lib.hid (Canonical_neg_c hq hn hs hd)
  have S1 : Sm (cnN (-n) (-d)) := cnN_sm' (sm_neg hn)
  have S2 : Sm (cnD (-n) (-d)) := (cnD_sm (n := -n) (by omega) (sm_neg hs)).2
  have S3 : Sm (n - cnN (-n) (-d)) := sm_two hn' (by have := cnN_le (-n) (-d); omega)
  have S4 : Sm (d - cnD (-n) (-d)) := sm_two hs' (by have := (cnD_le (n := -n) (d := -d) (by omega)).2; omega)
  have g2 : ((d - cnD (-n) (-d)).sign == 0) = false := by
    rw [beq_eq_false_iff_ne]; intro h
    have := Int.sign_eq_zero_iff_zero.1 h
    have := cnD_nn (-n) (-d)
    omega
  generalize cnN (-n) (-d) = N at HC S1 S3
  generalize cnD (-n) (-d) = D at HC S2 S4 g2
  clear hq hn' hs' hd hd0 hv0
  cases g1 : ((n - N).sign == 0) with
  | true =>
    go_enter Try.func81, Try.ntmps81
    go_wp2_with (first | (go_at_call 71; refine HC.out.mono ?_; rintro e w1 ⟨v1, rfl, hv1, hb1⟩; obtain ⟨b2, A2, r2, c2, b3, A3, r3, c3, rfl, H2, hu2, hu3⟩ := hv1; have hb2 := below_step hb1 (below_alloc (Below.refl _ w1) (.cells #[.bool b2, .slice A2 r2.length c2, .bool b3, .slice A3 r3.length c3] 78)); have i1 := blk_below k1 hb2; have kx := blk_new w1 (.cells #[.bool b2, .slice A2 r2.length c2, .bool b3, .slice A3 r3.length c3] 78); have y1 := zv_mk H2.out.1 H2.out.2.1 (hu2.alloc (.cells #[.bool b2, .slice A2 r2.length c2, .bool b3, .slice A3 r3.length c3] 78)); have y2 := zv_mk H2.out.2.2.1 H2.out.2.2.2 (hu3.alloc (.cells #[.bool b2, .slice A2 r2.length c2, .bool b3, .slice A3 r3.length c3] 78)); have hy0 := blk_cell i1 0; have hy1 := blk_cell i1 1; have hy2 := blk_cell i1 2; have hy3 := blk_cell i1 3; have hyf0 := blk_frozen i1 0; have hyf1 := blk_frozen i1 1; have hyf2 := blk_frozen i1 2; have hyf3 := blk_frozen i1 3) | (go_at_call_of 90 (Value.agg #[.bool b, .slice A r.length c]); refine (iscan_c (z1.below hb2) hn).mono ?_; rintro e w2 ⟨rfl, hb3⟩; have i2 := blk_below i1 hb3; have hz0 := blk_cell i2 0; have hz1 := blk_cell i2 1; have hz2 := blk_cell i2 2; have hz3 := blk_cell i2 3; have hzf0 := blk_frozen i2 0; have hzf1 := blk_frozen i2 1; have hzf2 := blk_frozen i2 2; have hzf3 := blk_frozen i2 3) | (go_at_call_of 90 (Value.agg #[.bool b', .slice A' r'.length c']); refine (iscan_c ((z2.below hb2).below hb3) hs).mono ?_; rintro e w3 ⟨rfl, hb4⟩; have i3 := blk_below i2 hb4; have kx3 := blk_below (blk_below kx hb3) hb4; have ha0 := blk_cell i3 0; have ha1 := blk_cell i3 1; have ha2 := blk_cell i3 2; have ha3 := blk_cell i3 3; have haf0 := blk_frozen i3 0; have haf1 := blk_frozen i3 1; have haf2 := blk_frozen i3 2; have haf3 := blk_frozen i3 3; have hc0 := blk_cell kx3 0; have hc1 := blk_cell kx3 1; have hc2 := blk_cell kx3 2; have hc3 := blk_cell kx3 3; have hcf0 := blk_frozen kx3 0; have hcf1 := blk_frozen kx3 1; have hcf2 := blk_frozen kx3 2; have hcf3 := blk_frozen kx3 3) | (go_at_call_of 91 (Value.agg #[.bool b, .slice A r.length c]); refine (Cmp_c (((z1.below hb2).below hb3).below hb4) ((y1.below hb3).below hb4) hn S1 S3).mono ?_; rintro e w4 ⟨rfl, hb5⟩; have i4 := blk_below i3 hb5; have kx4 := blk_below kx3 hb5; have he0 := blk_cell i4 0; have he1 := blk_cell i4 1; have he2 := blk_cell i4 2; have he3 := blk_cell i4 3; have hef0 := blk_frozen i4 0; have hef1 := blk_frozen i4 1; have hef2 := blk_frozen i4 2; have hef3 := blk_frozen i4 3; have hf0 := blk_cell kx4 0; have hf1 := blk_cell kx4 1; have hf2 := blk_cell kx4 2; have hf3 := blk_cell kx4 3; have hff0 := blk_frozen kx4 0; have hff1 := blk_frozen kx4 1; have hff2 := blk_frozen kx4 2; have hff3 := blk_frozen kx4 3) | (go_at_call_of 91 (Value.agg #[.bool b', .slice A' r'.length c']); refine (Cmp_c ((((z2.below hb2).below hb3).below hb4).below hb5) (((y2.below hb3).below hb4).below hb5) hs S2 S4).mono ?_; rintro e w5 ⟨rfl, hb6⟩))
    go_ret
    exact ⟨rfl, below_step (below_step (below_step (below_step (below_step hB hb2) hb3) hb4) hb5) hb6⟩
  | false =>
    go_enter Try.func81, Try.ntmps81
    go_wp2_with (first | (go_at_call 71; refine HC.out.mono ?_; rintro e w1 ⟨v1, rfl, hv1, hb1⟩; obtain ⟨b2, A2, r2, c2, b3, A3, r3, c3, rfl, H2, hu2, hu3⟩ := hv1; have hb2 := below_step hb1 (below_alloc (Below.refl _ w1) (.cells #[.bool b2, .slice A2 r2.length c2, .bool b3, .slice A3 r3.length c3] 78)); have i1 := blk_below k1 hb2; have kx := blk_new w1 (.cells #[.bool b2, .slice A2 r2.length c2, .bool b3, .slice A3 r3.length c3] 78); have y1 := zv_mk H2.out.1 H2.out.2.1 (hu2.alloc (.cells #[.bool b2, .slice A2 r2.length c2, .bool b3, .slice A3 r3.length c3] 78)); have y2 := zv_mk H2.out.2.2.1 H2.out.2.2.2 (hu3.alloc (.cells #[.bool b2, .slice A2 r2.length c2, .bool b3, .slice A3 r3.length c3] 78)); have hy0 := blk_cell i1 0; have hy1 := blk_cell i1 1; have hy2 := blk_cell i1 2; have hy3 := blk_cell i1 3; have hyf0 := blk_frozen i1 0; have hyf1 := blk_frozen i1 1; have hyf2 := blk_frozen i1 2; have hyf3 := blk_frozen i1 3) | (go_at_call_of 90 (Value.agg #[.bool b, .slice A r.length c]); refine (iscan_c (z1.below hb2) hn).mono ?_; rintro e w2 ⟨rfl, hb3⟩; have i2 := blk_below i1 hb3; have hz0 := blk_cell i2 0; have hz1 := blk_cell i2 1; have hz2 := blk_cell i2 2; have hz3 := blk_cell i2 3; have hzf0 := blk_frozen i2 0; have hzf1 := blk_frozen i2 1; have hzf2 := blk_frozen i2 2; have hzf3 := blk_frozen i2 3) | (go_at_call_of 90 (Value.agg #[.bool b', .slice A' r'.length c']); refine (iscan_c ((z2.below hb2).below hb3) hs).mono ?_; rintro e w3 ⟨rfl, hb4⟩; have i3 := blk_below i2 hb4; have kx3 := blk_below (blk_below kx hb3) hb4; have ha0 := blk_cell i3 0; have ha1 := blk_cell i3 1; have ha2 := blk_cell i3 2; have ha3 := blk_cell i3 3; have haf0 := blk_frozen i3 0; have haf1 := blk_frozen i3 1; have haf2 := blk_frozen i3 2; have haf3 := blk_frozen i3 3; have hc0 := blk_cell kx3 0; have hc1 := blk_cell kx3 1; have hc2 := blk_cell kx3 2; have hc3 := blk_cell kx3 3; have hcf0 := blk_frozen kx3 0; have hcf1 := blk_frozen kx3 1; have hcf2 := blk_frozen kx3 2; have hcf3 := blk_frozen kx3 3) | (go_at_call_of 91 (Value.agg #[.bool b, .slice A r.length c]); refine (Cmp_c (((z1.below hb2).below hb3).below hb4) ((y1.below hb3).below hb4) hn S1 S3).mono ?_; rintro e w4 ⟨rfl, hb5⟩; have i4 := blk_below i3 hb5; have kx4 := blk_below kx3 hb5; have he0 := blk_cell i4 0; have he1 := blk_cell i4 1; have he2 := blk_cell i4 2; have he3 := blk_cell i4 3; have hef0 := blk_frozen i4 0; have hef1 := blk_frozen i4 1; have hef2 := blk_frozen i4 2; have hef3 := blk_frozen i4 3; have hf0 := blk_cell kx4 0; have hf1 := blk_cell kx4 1; have hf2 := blk_cell kx4 2; have hf3 := blk_cell kx4 3; have hff0 := blk_frozen kx4 0; have hff1 := blk_frozen kx4 1; have hff2 := blk_frozen kx4 2; have hff3 := blk_frozen kx4 3))
    go_ret
    exact ⟨rfl, below_step (below_step (below_step (below_step hB hb2) hb3) hb4) hb5⟩
end Ar
end Go.Proofs.Ytnghcgmkncbnnaa
end
