/- Proved here: the closed statement StateKnown answers true, without conditions. -/
import Derived.Test.YtiinagmombigpaaOk
import Derived.Test.YtiinagmombigpaaHead
import Derived.Test.YtiinagmombigpaaRStateKnown1
import Derived.Test.YtiinagmombigpaaRows
import Derived.WalkKit
import Derived.ProofKit
import Derived.OpenShut
import Derived.ChangeOld
import Derived.Below
import Derived.SizedLaws
namespace Go.Proofs.Ytiinagmombigpaa.stateKnown
open Go.ChangeShapes Go.WideShapes Go.ChangeAt Go.RowKit Go.Abs
set_option linter.unusedVariables false
theorem own : ownKnob Try.prog.godebug = none := by kernel_rfl
def table : List Row := [Tab.stateKnown.r56, Tab.stateKnown.r55, Tab.stateKnown.r54, Tab.stateKnown.r53, Tab.stateKnown.r7, Tab.stateKnown.r52, Tab.stateKnown.r2, Tab.stateKnown.r0, Tab.stateKnown.r51, Tab.stateKnown.r50, Tab.stateKnown.r49, Tab.stateKnown.r48, Tab.stateKnown.r47, Tab.stateKnown.r46, Tab.stateKnown.r45, Tab.stateKnown.r44, Tab.stateKnown.r43, Tab.stateKnown.r42, Tab.stateKnown.r41, Tab.stateKnown.r40, Tab.stateKnown.r39, Tab.stateKnown.r38, Tab.stateKnown.r37, Tab.stateKnown.r36, Tab.stateKnown.r35, Tab.stateKnown.r34, Tab.stateKnown.r33, Tab.stateKnown.r32, Tab.stateKnown.r31, Tab.stateKnown.r30, Tab.stateKnown.r29, Tab.stateKnown.r28, Tab.stateKnown.r27, Tab.stateKnown.r26, Tab.stateKnown.r25, Tab.stateKnown.r24, Tab.stateKnown.r23, Tab.stateKnown.r22, Tab.stateKnown.r21, Tab.stateKnown.r20, Tab.stateKnown.r19, Tab.stateKnown.r18, Tab.stateKnown.r17, Tab.stateKnown.r16, Tab.stateKnown.r15, Tab.stateKnown.r14, Tab.stateKnown.r13, Tab.stateKnown.r12, Tab.stateKnown.r11, Tab.stateKnown.r10, Tab.stateKnown.r9, Tab.stateKnown.r8, Tab.stateKnown.r6, Tab.stateKnown.r5, Tab.stateKnown.r4, Tab.stateKnown.r3, Tab.stateKnown.r1]
theorem table_ok : ∀ r ∈ table, r.ok Try.prog := (okc Tab.stateKnown.r56_ok (okc Tab.stateKnown.r55_ok (okc Tab.stateKnown.r54_ok (okc Tab.stateKnown.r53_ok (okc Tab.stateKnown.r7_ok (okc Tab.stateKnown.r52_ok (okc Tab.stateKnown.r2_ok (okc Tab.stateKnown.r0_ok (okc Tab.stateKnown.r51_ok (okc Tab.stateKnown.r50_ok (okc Tab.stateKnown.r49_ok (okc Tab.stateKnown.r48_ok (okc Tab.stateKnown.r47_ok (okc Tab.stateKnown.r46_ok (okc Tab.stateKnown.r45_ok (okc Tab.stateKnown.r44_ok (okc Tab.stateKnown.r43_ok (okc Tab.stateKnown.r42_ok (okc Tab.stateKnown.r41_ok (okc Tab.stateKnown.r40_ok (okc Tab.stateKnown.r39_ok (okc Tab.stateKnown.r38_ok (okc Tab.stateKnown.r37_ok (okc Tab.stateKnown.r36_ok (okc Tab.stateKnown.r35_ok (okc Tab.stateKnown.r34_ok (okc Tab.stateKnown.r33_ok (okc Tab.stateKnown.r32_ok (okc Tab.stateKnown.r31_ok (okc Tab.stateKnown.r30_ok (okc Tab.stateKnown.r29_ok (okc Tab.stateKnown.r28_ok (okc Tab.stateKnown.r27_ok (okc Tab.stateKnown.r26_ok (okc Tab.stateKnown.r25_ok (okc Tab.stateKnown.r24_ok (okc Tab.stateKnown.r23_ok (okc Tab.stateKnown.r22_ok (okc Tab.stateKnown.r21_ok (okc Tab.stateKnown.r20_ok (okc Tab.stateKnown.r19_ok (okc Tab.stateKnown.r18_ok (okc Tab.stateKnown.r17_ok (okc Tab.stateKnown.r16_ok (okc Tab.stateKnown.r15_ok (okc Tab.stateKnown.r14_ok (okc Tab.stateKnown.r13_ok (okc Tab.stateKnown.r12_ok (okc Tab.stateKnown.r11_ok (okc Tab.stateKnown.r10_ok (okc Tab.stateKnown.r9_ok (okc Tab.stateKnown.r8_ok (okc Tab.stateKnown.r6_ok (okc Tab.stateKnown.r5_ok (okc Tab.stateKnown.r4_ok (okc Tab.stateKnown.r3_ok (okc Tab.stateKnown.r1_ok okn)))))))))))))))))))))))))))))))))))))))))))))))))))))))))
theorem comes : isTrue ((lvlT Tab.cx table 3000).call 0 27 [] []) = true := by kernel_rfl
theorem walk (w : World) : Calls Try.prog 27 #[] w fun e w' => e = .returned (.bool true) ∧ Below w.heap.size w w' :=
  callT_sound Tab.tOk Tab.fOk Tab.mixed table_ok 3000 comes
set_option maxRecDepth 100000 in
theorem lifted (os : Os) (started : os.Started) (H : Type) (enc : TypeId × Value → H) :
    ReturnsInHanded {} Try.checked os 27 .any (Rows.stateKnownSpec.pre6 enc Try.prog Try.f27 Rows.stateKnownRow.domain false) (Rows.stateKnownSpec.post enc Try.prog Try.f27 false true false false) := by
  refine returnsInHanded_of_change_sized (C := Try.checked) own started (by kernel_rfl) Try.func27
    (ChangeSpec.witness6 (enc := enc) (C := Try.checked) false ⟨#[], #[], []⟩ 8 (by kernel_rfl) (by kernel_rfl) (by kernel_rfl) (by kernel_rfl)) ?_
  intro W base args ds gs before hval0 hW hcnd hsz0 _
  have hW' := hW
  obtain ⟨p, q, hA0, hV, rfl, hfz, hnd⟩ := hW
  have hA : DataW.TrodAll enc Try.prog W 0 (fun _ => true) true Try.f27.params.toList args.toList ds p := hA0
  rw [Try.params27] at hA
  obtain ⟨rfl, rfl, rfl⟩ := trodAll_none hA
  obtain ⟨rfl, rfl⟩ := trodVars_none hV
  clear hA0 hval0 hsz0
  refine (walk W).mono fun e W' ⟨he, bel⟩ => ?_
  subst he
  exact ⟨_, rfl, _, _, _, [], _, [], hW', trodAll_mk1 (shut_bool Try.underlying4 _), trodAll_mk0, rfl, bel.frame _, fun h => by cases h⟩
theorem over : Rows.stateKnownRow.holds Try.pinned (OpenSpec.ofChange Rows.stateKnownSpec) :=
  OpenClaim.holds_of_wide 27 Try.f27 rfl rfl rfl rfl rfl rfl rfl ⟨rfl, rfl, rfl, rfl, rfl⟩ rfl rfl rfl rfl rfl (by kernel_rfl) Try.func27
    (Head.joined 27 Try.f27 Rows.stateKnownSpec Rows.stateKnownRow Head.mayEnter rfl rfl (by kernel_rfl) Head.laid Head.rowed Head.heard)
    (of_decide_eq_true (by kernel_rfl)) (by unfold Func.isWrapper; first | (rw [if_pos (by decide +kernel)]; kernel_rfl) | (rw [if_neg (by decide +kernel)]; exact ⟨rfl, rfl⟩))
    (fun os started H enc _ => lifted os started H enc)
theorem proved : Rows.StateKnownSaid := over
#print axioms proved
end Go.Proofs.Ytiinagmombigpaa.stateKnown
namespace Go.Proofs.Ytiinagmombigpaa
/-- The row, under a short name, for the claim. -/
theorem stateKnown_holds : Rows.StateKnownSaid := stateKnown.proved
end Go.Proofs.Ytiinagmombigpaa
