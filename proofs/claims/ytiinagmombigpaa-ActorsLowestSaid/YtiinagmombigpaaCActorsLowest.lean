/- Proved here: the statement ActorsLowest holds, without conditions. -/
import Derived.Test.YtiinagmombigpaaLowB
import Derived.Test.YtiinagmombigpaaOpen1
import Derived.Test.YtiinagmombigpaaEvH
import Derived.Test.YtiinagmombigpaaRows
import Derived.WalkKit
import Derived.ProofKit
import Derived.OpenShut
import Derived.ChangeOld
import Derived.Below
import Derived.SizedLaws
set_option linter.unusedSimpArgs false
set_option linter.unusedVariables false
set_option linter.unnecessarySimpa false

/- Proved here: the statement ActorsLowest holds, without conditions. -/
namespace Go.Proofs.Ytiinagmombigpaa.actorsLowest
open Go.ChangeShapes Go.WideShapes Go.ChangeAt Go.RowKit Go.Abs
set_option linter.unusedVariables false
theorem own : ownKnob Try.prog.godebug = none := by kernel_rfl
theorem laidOut : laidOutB Try.prog = true := by kernel_rfl
set_option maxRecDepth 100000 in
theorem lifted (os : Os) (started : os.Started) (H : Type) (enc : TypeId × Value → H) :
    ReturnsInHanded {} Try.checked os 3 .any (Rows.actorsLowestSpec.pre6 enc Try.prog Try.f3 Rows.actorsLowestRow.domain false) (Rows.actorsLowestSpec.post enc Try.prog Try.f3 false true false false) := by
  refine returnsInHanded_of_change_sized (C := Try.checked) own started (by kernel_rfl) Try.func3
    (ChangeSpec.witness6 (enc := enc) (C := Try.checked) false ⟨#[], #[.int .u8 0, .slice none 0 0], []⟩ 8 (by kernel_rfl) (by kernel_rfl) (by kernel_rfl) (by kernel_rfl)) ?_
  intro W base args ds gs before hval0 hW hcnd hsz0 _
  have hval : ∀ (j : Nat) t v, Try.f3.params[j]? = some t → args[j]? = some v → Value.okWide Try.prog W .any base t v := hval0
  have hW' := hW
  obtain ⟨p, q, hA0, hV, rfl, hfz, hnd⟩ := hW
  have hA : DataW.TrodAll enc Try.prog W 0 (fun _ => true) true Try.f3.params.toList args.toList ds p := hA0
  rw [Try.params3] at hA hval
  obtain ⟨v0, v1, d0, d1, p0, p1, rfl, rfl, rfl, h0, h1⟩ := trodAll_two hA
  obtain ⟨rfl, rfl⟩ := trodVars_none hV
  have h0k := h0
  have h1k := h1
  obtain ⟨b, rfl, rfl, rfl, wb⟩ := open_int Try.underlying5 (hval 0 5 v0 rfl rfl) h0
  have bb := Go.bounds_u8 wb
  obtain ⟨xs, a, hs, hx, _, hv⟩ := ints_arg Try.underlying22 Try.underlying5 (by kernel_rfl) (hval 1 22 v1 rfl rfl) h1
  clear hA0 hval0 hsz0
  simp only [List.append_nil, List.nil_append] at hW'
  have hlt : ∀ x ∈ p1, x.block < W.heap.size := fun x hx => by simpa using hW'.lt x (by simpa using hx)
  obtain ⟨H', hc⟩ := Tab.lowest_ok hs (fun x h => by have := Go.bounds_u8 (hx x h); omega) (b := b) (by omega)
  rw [← den_call_eq] at hc
  obtain ⟨k, hk⟩ := den_call.1 hc
  have walk := call_sound (P := Try.prog) (w := W) (cargs := #[.int .u8 b, v1]) Tab.tOk Tab.fOk Tab.mixed (by simp only [VRs]; exact ⟨_, _, rfl, rfl, _, _, rfl, hv, rfl⟩) hk
  refine walk.mono fun e W' ⟨he, bel⟩ => ?_
  subst he
  exact ⟨_, rfl, _, _, _, [], _, [], hW', trodAll_mk1 (shut_bool Try.underlying4 _), trodAll_mk2 (shut_int Try.underlying5 wb) (Below.trod laidOut (by kernel_rfl) (of_decide_eq_true (by kernel_rfl)) h1k bel hlt), rfl, bel.frame _, fun h => by cases h⟩
theorem over : Rows.actorsLowestRow.holds Try.pinned (OpenSpec.ofChange Rows.actorsLowestSpec) :=
  OpenClaim.holds_of_wide 3 Try.f3 rfl rfl rfl rfl rfl rfl rfl ⟨rfl, rfl, rfl, rfl, rfl⟩ rfl rfl rfl rfl rfl (by kernel_rfl) Try.func3
    (Head.joined 3 Try.f3 Rows.actorsLowestSpec Rows.actorsLowestRow Head.mayEnter rfl rfl (by kernel_rfl) Head.laid Head.rowed Head.heard)
    (of_decide_eq_true (by kernel_rfl)) (by unfold Func.isWrapper; first | (rw [if_pos (by decide +kernel)]; kernel_rfl) | (rw [if_neg (by decide +kernel)]; exact ⟨rfl, rfl⟩))
    (fun os started H enc _ => lifted os started H enc)
theorem proved : Rows.ActorsLowestSaid := over
#print axioms proved
end Go.Proofs.Ytiinagmombigpaa.actorsLowest
namespace Go.Proofs.Ytiinagmombigpaa
/-- The row, under a short name, for the claim. -/
theorem actorsLowest_holds : Rows.ActorsLowestSaid := actorsLowest.proved
end Go.Proofs.Ytiinagmombigpaa
