/- Part 15 of the proof: The arguments of the statements: a unit, a bid, as the given rows read them. -/
import Derived.Below
import Derived.ChangeOld
import Derived.Deep.SlicePairs
import Derived.OpenShut
import Derived.ProofKit
import Derived.ShutString
import Derived.SizedLaws
import Derived.WalkKit
import Derived.Test.YtnghcgmkncbnnaaGreatMi11
set_option linter.unusedVariables false
set_option linter.unusedSimpArgs false
section
namespace Go.Proofs.YtnghcgmkncbnnaaGreat
open Go.RowKit Go.Proofs.YtnghcgmkncbnnaaGreatW.PrintWords Go.Proofs.YtnghcgmkncbnnaaGreatW.PrintLast Go.Proofs.YtnghcgmkncbnnaaGreatW.PrintMore
open Go.ChangeShapes Go.WideShapes Go.ChangeAt Go.Deep
namespace Ar
open Wd
theorem intD {H : Type} {enc : TypeId × Value → H} {W : World} {fuel : Nat} {k : IntKind} {t : TypeId} {v : Value} {x : DataW H × List MemPlace} (ht : Tryz.prog.underlying t = some (.int k)) (h : DataW.trod enc Tryz.prog W 0 (fun _ => true) true fuel t [v] = some x) : ∃ n, v = .int k n ∧ (Lit.int k n).wf = true := by
  obtain ⟨n, h1, _, h3⟩ := DataW.trod_int ht h
  exact ⟨n, by simpa using h1, h3⟩
theorem wf64 {n : Int} (h : (Lit.int .i64 n).wf = true) : i64r n := by
  unfold i64r
  simp [Lit.wf, IntKind.min, IntKind.max, IntKind.signed, IntKind.bits] at h
  omega
theorem stepsD2 {H : Type} {enc : TypeId × Value → H} {W : World} {fuel : Nat} {v : Value} {x : DataW H × List MemPlace} (h : DataW.trod enc Tryz.prog W 0 (fun _ => true) true fuel 22 [v] = some x) :
    ∃ (A : Option Addr) (c : Nat) (l : List Stp), v = .slice A l.length c ∧ l.length ≤ c ∧ Kd.C kStp W A l.length l ∧ ∀ s ∈ l, i64r s.f0 ∧ i64r s.f1 := by
  rcases open_slice_pairs Tryz.underlying22 Tryz.underlying60 (by kernel_rfl) rfl rfl (by kernel_rfl) (by kernel_rfl) h with ⟨hc, _⟩ | ⟨a, len, cap, m, n, V0, V1, D0, D1, P0, P1, hc, _, hl, hm, hmm, _, hx⟩
  · obtain rfl : v = .slice none 0 0 := by simpa using hc
    exact ⟨none, 0, [], rfl, Nat.le_refl 0, C_nil W, fun s h => by cases h⟩
  · obtain rfl : v = .slice (some a) len cap := by simpa using hc
    have hm' : len ≤ m := by rw [hmm]; simpa using hl
    have he : ∀ i, i < len → ∃ p : Stp, V0 i = .int .i64 p.f0 ∧ V1 i = .int .i64 p.f1 ∧ i64r p.f0 ∧ i64r p.f1 := fun i hi => by
      obtain ⟨_, _, h0, h1⟩ := hx i (by omega)
      obtain ⟨n0, e0, r0⟩ := intD Tryz.underlying2 h0
      obtain ⟨n1, e1, r1⟩ := intD Tryz.underlying2 h1
      exact ⟨⟨n0, n1⟩, e0, e1, wf64 r0, wf64 r1⟩
    obtain ⟨f, hf⟩ : ∃ f : Nat → Stp, ∀ i, i < len → V0 i = .int .i64 (f i).f0 ∧ V1 i = .int .i64 (f i).f1 ∧ i64r (f i).f0 ∧ i64r (f i).f1 := ⟨fun i => if hi : i < len then (he i hi).choose else ⟨0, 0⟩, fun i hi => by dsimp only; rw [dif_pos hi]; exact (he i hi).choose_spec⟩
    have hlen : ((List.range len).map f).length = len := by simp
    refine ⟨some a, cap, (List.range len).map f, by rw [hlen], by rw [hlen]; exact hl, ?_, fun s hs => ?_⟩
    rotate_left 1
    · obtain ⟨j, hj, rfl⟩ := List.mem_map.1 hs
      exact (hf j (List.mem_range.1 hj)).2.2
    refine ⟨rfl, by rw [hlen]; unfold maxLen at hm; omega, fun _ => ⟨a, rfl, fun j p hp => ?_⟩⟩
    have hj : j < len := by have := (List.getElem?_eq_some_iff.1 hp).1; omega
    obtain rfl : f j = p := by simpa [List.getElem?_map, List.getElem?_range hj] using hp
    obtain ⟨g0, g1, _, _⟩ := hx j (by omega)
    rw [(hf j hj).1] at g0
    rw [(hf j hj).2.1] at g1
    refine ⟨[.int .i64 (f j).f0, .int .i64 (f j).f1], rfl, E.k60_mk W (f j), fun i u hu => ?_⟩
    rw [show E.k60.sz = 2 from rfl]
    match i, hu with
    | 0, hu => obtain rfl := Option.some.inj hu; exact g0
    | 1, hu => obtain rfl := Option.some.inj hu; exact g1
    | i + 2, hu => simp at hu
set_option maxRecDepth 100000 in
theorem unitD2 {H : Type} {enc : TypeId × Value → H} {W : World} {B : Nat} {v : Value} {d : DataW H} {p : List MemPlace} (hval : Value.okWide Tryz.prog W .any B 24 v) (h : DataW.Trod enc Tryz.prog W 0 (fun _ => true) true 24 v d p) :
    ∃ (u : Un) (A : Option Addr) (c : Nat), v = .agg (unC u (.slice A u.steps.length c)) ∧ u.steps.length ≤ c ∧ Kd.C kStp W A u.steps.length u.steps ∧ (∀ n ∈ unNums u, i64r n) ∧ ∀ s ∈ u.steps, i64r s.f0 ∧ i64r s.f1 := by
  have hU := Tryz.underlying24
  obtain ⟨cs, rfl, hs⟩ := okWide_struct hU hval
  rw [show Tryz.prog.cellsOf 24 = 9 from by kernel_rfl] at hs
  obtain ⟨fuel, hf⟩ := h
  obtain ⟨xs, n, _, _, hl, hx, hfs⟩ := DataW.trod_struct hU hf
  have hxs : xs.length = 9 := hx
  obtain ⟨cl, rfl⟩ : ∃ cl : List Value, cs = cl.toArray := ⟨cs.toList, by simp⟩
  have hcl : cl.length = 9 := by simpa using hs
  match cl, hcl with
  | [c0, c1, c2, c3, c4, c5, c6, c7, c8], _ =>
    match xs, hxs with
    | [x0, x1, x2, x3, x4, x5, x6, x7, x8], _ =>
      have f0 := hfs 0 _ rfl
      have f1 := hfs 1 _ rfl
      have f2 := hfs 2 _ rfl
      have f3 := hfs 3 _ rfl
      have f4 := hfs 4 _ rfl
      have f5 := hfs 5 _ rfl
      have f6 := hfs 6 _ rfl
      have f7 := hfs 7 _ rfl
      have f8 := hfs 8 _ rfl
      rw [show Tryz.prog.cellsOf _ = 1 from by kernel_rfl] at f0 f1 f2 f3 f4 f5 f6 f7 f8
      obtain ⟨n0, rfl, r0⟩ := intD (v := c0) Tryz.underlying3 f0
      obtain ⟨n1, rfl, r1⟩ := intD (v := c1) Tryz.underlying2 f1
      obtain ⟨A, c, l, rfl, hlc, hC, hR⟩ := stepsD2 (v := c2) f2
      obtain ⟨n3, rfl, r3⟩ := intD (v := c3) Tryz.underlying3 f3
      obtain ⟨n4, rfl, r4⟩ := intD (v := c4) Tryz.underlying3 f4
      obtain ⟨n5, rfl, r5⟩ := intD (v := c5) Tryz.underlying2 f5
      obtain ⟨n6, rfl, r6⟩ := intD (v := c6) Tryz.underlying2 f6
      obtain ⟨n7, rfl, r7⟩ := intD (v := c7) Tryz.underlying2 f7
      obtain ⟨n8, rfl, r8⟩ := intD (v := c8) Tryz.underlying3 f8
      refine ⟨⟨n0, n1, l, n3, n4, n5, n6, n7, n8⟩, A, c, rfl, hlc, hC, fun n hn => ?_, hR⟩
      unfold unNums at hn
      simp only [List.mem_cons, List.not_mem_nil, or_false] at hn
      rcases hn with rfl | rfl | rfl | rfl | rfl | rfl | rfl | rfl
      · exact wf64 r0
      · exact wf64 r1
      · exact wf64 r3
      · exact wf64 r4
      · exact wf64 r5
      · exact wf64 r6
      · exact wf64 r7
      · exact wf64 r8
set_option maxRecDepth 100000 in
theorem bidD2 {H : Type} {enc : TypeId × Value → H} {W : World} {B : Nat} {v : Value} {d : DataW H} {p : List MemPlace} (hval : Value.okWide Tryz.prog W .any B 26 v) (h : DataW.Trod enc Tryz.prog W 0 (fun _ => true) true 26 v d p) :
    ∃ (bus : Int) (l : List Stp) (A : Option Addr) (c : Nat), v = .agg (biC bus (.slice A l.length c)) ∧ l.length ≤ c ∧ Kd.C kStp W A l.length l ∧ i64r bus ∧ ∀ s ∈ l, i64r s.f0 ∧ i64r s.f1 := by
  have hU := Tryz.underlying26
  obtain ⟨cs, rfl, hs⟩ := okWide_struct hU hval
  rw [show Tryz.prog.cellsOf 26 = 2 from by kernel_rfl] at hs
  obtain ⟨fuel, hf⟩ := h
  obtain ⟨xs, n, _, _, hl, hx, hfs⟩ := DataW.trod_struct hU hf
  have hxs : xs.length = 2 := hx
  obtain ⟨cl, rfl⟩ : ∃ cl : List Value, cs = cl.toArray := ⟨cs.toList, by simp⟩
  have hcl : cl.length = 2 := by simpa using hs
  match cl, hcl with
  | [c0, c1], _ =>
    match xs, hxs with
    | [x0, x1], _ =>
      have f0 := hfs 0 _ rfl
      have f1 := hfs 1 _ rfl
      rw [show Tryz.prog.cellsOf _ = 1 from by kernel_rfl] at f0 f1
      obtain ⟨n0, rfl, r0⟩ := intD (v := c0) Tryz.underlying3 f0
      obtain ⟨A, c, l, rfl, hlc, hC, hR⟩ := stepsD2 (v := c1) f1
      exact ⟨n0, l, A, c, rfl, hlc, hC, wf64 r0, hR⟩
end Ar
end Go.Proofs.YtnghcgmkncbnnaaGreat
end
