/- Arguments that are slices of numbers, as the evaluator takes them. -/
import Derived.Test.YtiinagmombigpaaLowA
import Derived.WalkKit
import Derived.ProofKit
import Derived.OpenShut
set_option linter.unusedSimpArgs false
set_option linter.unusedVariables false
set_option linter.unnecessarySimpa false

/- Arguments that are slices of numbers, as the evaluator takes them. -/
set_option linter.unusedVariables false
namespace Go.Abs
open Go.ChangeShapes Go.WideShapes

abbrev iK (k : IntKind) (n : Int) : AV := .lit (.int k n)
theorem vrels_int (imm : Imm) (k : IntKind) : ∀ xs : List Int, VRels imm noMu 1 (xs.map (iK k)) (xs.map (Value.int k))
  | [] => by simp only [List.map_nil, VRels]
  | x :: xs => by
    simp only [List.map_cons, VRels]
    exact ⟨.int k x, _, rfl, rfl, by simp [Value.cells, one, Value.oneCell'], rfl, vrels_int imm k xs⟩

theorem ints_arg {P : Program} {W : World} {H : Type} {enc : TypeId × Value → H} {base : Nat} {t e : TypeId} {k : IntKind} {v : Value} {d : DataW H} {ps : List MemPlace} (ht : P.underlying t = some (.slice e)) (he : P.underlying e = some (.int k)) (hc : P.cellsOf e = 1)
    (hval : Value.okWide P W .any base t v) (hd : DataW.Trod enc P W 0 (fun _ => true) true t v d ps) :
    ∃ (xs : List Int) (a : AV), Sl 1 a (xs.map (iK k)) ∧ (∀ x ∈ xs, (Lit.int k x).wf = true) ∧ xs.length ≤ maxLen ∧ VR (memImm W) noMu a v := by
  obtain ⟨a0, len, cap, rfl⟩ := okWide_slice ht hval
  obtain ⟨fuel, hf⟩ := hd
  rcases open_ints ht he hc hf with ⟨hcs, hx⟩ | ⟨a, len', cap', zs, hcs, _, hle, hmax, hall, hx, cell, wf⟩
  · simp [Value.cells] at hcs
    obtain ⟨rfl, rfl, rfl⟩ := hcs
    exact ⟨[], .lit (.slice none 0 0), .inr (.inr ⟨rfl, rfl⟩), (fun x hx => by cases hx), Nat.zero_le _, by simp only [VR]⟩
  · simp [Value.cells] at hcs
    obtain ⟨rfl, rfl, rfl⟩ := hcs
    simp only [if_true] at hall
    have hspot : a.spot = none := by
      simp only [Value.okWide, ht, Cell.okWide, Cell.ok, World.has] at hval
      exact hval.2.2.2.1
    obtain ⟨b, off, spot⟩ := a
    dsimp only at hspot
    subst hspot
    have hlen : (zs.take len).length = len := by rw [List.length_take]; omega
    refine ⟨zs.take len, .vec 1 .shared ((zs.take len).map (iK k)), .inr (.inl rfl), fun x hx => wf x (List.mem_of_mem_take hx), by omega, ?_⟩
    simp only [VR, List.length_map, hlen]
    refine ⟨b, off, cap, (zs.take len).map (Value.int k), rfl, by decide, (fun h => by cases h), hle, vrels_int _ _ _, fun i c hi => ?_⟩
    rw [List.getElem?_map] at hi
    have hi' : i < len := by
      cases h : (zs.take len)[i]? with
      | none => rw [h] at hi; cases hi
      | some z => have := (List.getElem?_eq_some_iff.1 h).1; omega
    have hz : zs[i]? = some (zs.getD i 0) := by
      rw [List.getD_eq_getElem?_getD, List.getElem?_eq_getElem (by omega)]; rfl
    rw [List.getElem?_take_of_lt hi', hz] at hi
    simp only [Option.map_some, Option.some.injEq] at hi
    have := cell i (by omega)
    rw [add_plain] at this
    rw [memImm, this, hi]
end Go.Abs
