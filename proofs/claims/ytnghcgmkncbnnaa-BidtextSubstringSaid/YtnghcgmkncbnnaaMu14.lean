/- Part 14 of the proof: The arguments of the statements: a unit, a bid, as the given rows read them. -/
import Derived.Below
import Derived.ChangeOld
import Derived.Deep.SlicePairs
import Derived.OpenShut
import Derived.ProofKit
import Derived.ShutString
import Derived.SizedLaws
import Derived.WalkKit
import Derived.Test.YtnghcgmkncbnnaaMu11
set_option linter.unusedVariables false
set_option linter.unusedSimpArgs false
section
namespace Go.Proofs.Ytnghcgmkncbnnaa
open Go.RowKit Go.Proofs.YtnghcgmkncbnnaaW.PrintWords Go.Proofs.YtnghcgmkncbnnaaW.PrintLast Go.Proofs.YtnghcgmkncbnnaaW.PrintMore
open Go.ChangeShapes Go.WideShapes Go.ChangeAt Go.Deep
namespace Ar
open Wd
theorem intD {H : Type} {enc : TypeId × Value → H} {W : World} {fuel : Nat} {k : IntKind} {t : TypeId} {v : Value} {x : DataW H × List MemPlace} (ht : Try.prog.underlying t = some (.int k)) (h : DataW.trod enc Try.prog W 0 (fun _ => true) true fuel t [v] = some x) : ∃ n, v = .int k n := by
  obtain ⟨n, h1, _⟩ := DataW.trod_int ht h
  exact ⟨n, by simpa using h1⟩
theorem stepsD {H : Type} {enc : TypeId × Value → H} {W : World} {fuel : Nat} {v : Value} {x : DataW H × List MemPlace} (h : DataW.trod enc Try.prog W 0 (fun _ => true) true fuel 28 [v] = some x) :
    ∃ (A : Option Addr) (c : Nat) (l : List Stp), v = .slice A l.length c ∧ l.length ≤ c ∧ Kd.C kStp W A l.length l := by
  rcases open_slice_pairs Try.underlying28 Try.underlying40 (by kernel_rfl) rfl rfl (by kernel_rfl) (by kernel_rfl) h with ⟨hc, _⟩ | ⟨a, len, cap, m, n, V0, V1, D0, D1, P0, P1, hc, _, hl, hm, hmm, _, hx⟩
  · obtain rfl : v = .slice none 0 0 := by simpa using hc
    exact ⟨none, 0, [], rfl, Nat.le_refl 0, C_nil W⟩
  · obtain rfl : v = .slice (some a) len cap := by simpa using hc
    have hm' : len ≤ m := by rw [hmm]; simpa using hl
    have he : ∀ i, i < len → ∃ p : Stp, V0 i = .int .i64 p.f0 ∧ V1 i = .int .i64 p.f1 := fun i hi => by
      obtain ⟨_, _, h0, h1⟩ := hx i (by omega)
      obtain ⟨n0, e0⟩ := intD Try.underlying2 h0
      obtain ⟨n1, e1⟩ := intD Try.underlying2 h1
      exact ⟨⟨n0, n1⟩, e0, e1⟩
    obtain ⟨f, hf⟩ : ∃ f : Nat → Stp, ∀ i, i < len → V0 i = .int .i64 (f i).f0 ∧ V1 i = .int .i64 (f i).f1 := ⟨fun i => if hi : i < len then (he i hi).choose else ⟨0, 0⟩, fun i hi => by dsimp only; rw [dif_pos hi]; exact (he i hi).choose_spec⟩
    have hlen : ((List.range len).map f).length = len := by simp
    refine ⟨some a, cap, (List.range len).map f, by rw [hlen], by rw [hlen]; exact hl, ?_⟩
    refine ⟨rfl, by rw [hlen]; unfold maxLen at hm; omega, fun _ => ⟨a, rfl, fun j p hp => ?_⟩⟩
    have hj : j < len := by have := (List.getElem?_eq_some_iff.1 hp).1; omega
    obtain rfl : f j = p := by simpa [List.getElem?_map, List.getElem?_range hj] using hp
    obtain ⟨g0, g1, _, _⟩ := hx j (by omega)
    rw [(hf j hj).1] at g0
    rw [(hf j hj).2] at g1
    refine ⟨[.int .i64 (f j).f0, .int .i64 (f j).f1], rfl, E.k40_mk W (f j), fun i u hu => ?_⟩
    rw [show E.k40.sz = 2 from rfl]
    match i, hu with
    | 0, hu => obtain rfl := Option.some.inj hu; exact g0
    | 1, hu => obtain rfl := Option.some.inj hu; exact g1
    | i + 2, hu => simp at hu
set_option maxRecDepth 100000 in
theorem unitD {H : Type} {enc : TypeId × Value → H} {W : World} {B : Nat} {v : Value} {d : DataW H} {p : List MemPlace} (hval : Value.okWide Try.prog W .any B 30 v) (h : DataW.Trod enc Try.prog W 0 (fun _ => true) true 30 v d p) :
    ∃ (u : Un) (A : Option Addr) (c : Nat), v = .agg (unC u (.slice A u.steps.length c)) ∧ u.steps.length ≤ c ∧ Kd.C kStp W A u.steps.length u.steps := by
  have hU := Try.underlying30
  obtain ⟨cs, rfl, hs⟩ := okWide_struct hU hval
  rw [show Try.prog.cellsOf 30 = 9 from by kernel_rfl] at hs
  obtain ⟨fuel, hf⟩ := h
  obtain ⟨xs, n, _, _, hl, hx, hfs⟩ := DataW.trod_struct hU hf
  have hxs : xs.length = 9 := hx
  obtain ⟨cl, rfl⟩ : ∃ cl : List Value, cs = cl.toArray := ⟨cs.toList, by simp⟩
  have hcl : cl.length = 9 := by simpa using hs
  match cl, hcl with
  | [c0, c1, c2, c3, c4, c5, c6, c7, c8], _ =>
    match xs, hxs with
    | [x0, x1, x2, x3, x4, x5, x6, x7, x8], _ =>
      have f0 := hfs 0 _ rfl
      have f1 := hfs 1 _ rfl
      have f2 := hfs 2 _ rfl
      have f3 := hfs 3 _ rfl
      have f4 := hfs 4 _ rfl
      have f5 := hfs 5 _ rfl
      have f6 := hfs 6 _ rfl
      have f7 := hfs 7 _ rfl
      have f8 := hfs 8 _ rfl
      rw [show Try.prog.cellsOf _ = 1 from by kernel_rfl] at f0 f1 f2 f3 f4 f5 f6 f7 f8
      obtain ⟨n0, rfl⟩ := intD (v := c0) Try.underlying3 f0
      obtain ⟨n1, rfl⟩ := intD (v := c1) Try.underlying2 f1
      obtain ⟨A, c, l, rfl, hlc, hC⟩ := stepsD (v := c2) f2
      obtain ⟨n3, rfl⟩ := intD (v := c3) Try.underlying3 f3
      obtain ⟨n4, rfl⟩ := intD (v := c4) Try.underlying3 f4
      obtain ⟨n5, rfl⟩ := intD (v := c5) Try.underlying2 f5
      obtain ⟨n6, rfl⟩ := intD (v := c6) Try.underlying2 f6
      obtain ⟨n7, rfl⟩ := intD (v := c7) Try.underlying2 f7
      obtain ⟨n8, rfl⟩ := intD (v := c8) Try.underlying3 f8
      exact ⟨⟨n0, n1, l, n3, n4, n5, n6, n7, n8⟩, A, c, rfl, hlc, hC⟩
set_option maxRecDepth 100000 in
theorem bidD {H : Type} {enc : TypeId × Value → H} {W : World} {B : Nat} {v : Value} {d : DataW H} {p : List MemPlace} (hval : Value.okWide Try.prog W .any B 33 v) (h : DataW.Trod enc Try.prog W 0 (fun _ => true) true 33 v d p) :
    ∃ (bus : Int) (l : List Stp) (A : Option Addr) (c : Nat), v = .agg (biC bus (.slice A l.length c)) ∧ l.length ≤ c ∧ Kd.C kStp W A l.length l := by
  have hU := Try.underlying33
  obtain ⟨cs, rfl, hs⟩ := okWide_struct hU hval
  rw [show Try.prog.cellsOf 33 = 2 from by kernel_rfl] at hs
  obtain ⟨fuel, hf⟩ := h
  obtain ⟨xs, n, _, _, hl, hx, hfs⟩ := DataW.trod_struct hU hf
  have hxs : xs.length = 2 := hx
  obtain ⟨cl, rfl⟩ : ∃ cl : List Value, cs = cl.toArray := ⟨cs.toList, by simp⟩
  have hcl : cl.length = 2 := by simpa using hs
  match cl, hcl with
  | [c0, c1], _ =>
    match xs, hxs with
    | [x0, x1], _ =>
      have f0 := hfs 0 _ rfl
      have f1 := hfs 1 _ rfl
      rw [show Try.prog.cellsOf _ = 1 from by kernel_rfl] at f0 f1
      obtain ⟨n0, rfl⟩ := intD (v := c0) Try.underlying3 f0
      obtain ⟨A, c, l, rfl, hlc, hC⟩ := stepsD (v := c1) f1
      exact ⟨n0, l, A, c, rfl, hlc, hC⟩
end Ar
end Go.Proofs.Ytnghcgmkncbnnaa
end
