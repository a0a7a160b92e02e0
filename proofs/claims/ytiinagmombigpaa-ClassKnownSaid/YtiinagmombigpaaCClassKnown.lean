/- Proved here: the closed statement ClassKnown answers true, without conditions. -/
import Derived.Test.YtiinagmombigpaaOk
import Derived.Test.YtiinagmombigpaaHead
import Derived.Test.YtiinagmombigpaaRClassKnown1
import Derived.Test.YtiinagmombigpaaRows
import Derived.WalkKit
import Derived.ProofKit
import Derived.OpenShut
import Derived.ChangeOld
import Derived.Below
import Derived.SizedLaws
namespace Go.Proofs.Ytiinagmombigpaa.classKnown
open Go.ChangeShapes Go.WideShapes Go.ChangeAt Go.RowKit Go.Abs
set_option linter.unusedVariables false
theorem own : ownKnob Try.prog.godebug = none := by kernel_rfl
def table : List Row := [Tab.classKnown.r38, Tab.classKnown.r37, Tab.classKnown.r36, Tab.classKnown.r10, Tab.classKnown.r34, Tab.classKnown.r7, Tab.classKnown.r0, Tab.classKnown.r33, Tab.classKnown.r32, Tab.classKnown.r35, Tab.classKnown.r31, Tab.classKnown.r30, Tab.classKnown.r28, Tab.classKnown.r2, Tab.classKnown.r1, Tab.classKnown.r29, Tab.classKnown.r27, Tab.classKnown.r26, Tab.classKnown.r24, Tab.classKnown.r23, Tab.classKnown.r22, Tab.classKnown.r21, Tab.classKnown.r25, Tab.classKnown.r20, Tab.classKnown.r19, Tab.classKnown.r17, Tab.classKnown.r18, Tab.classKnown.r16, Tab.classKnown.r15, Tab.classKnown.r14, Tab.classKnown.r13, Tab.classKnown.r12, Tab.classKnown.r11, Tab.classKnown.r8, Tab.classKnown.r6, Tab.classKnown.r5, Tab.classKnown.r4, Tab.classKnown.r3, Tab.classKnown.r9]
theorem table_ok : ∀ r ∈ table, r.ok Try.prog := (okc Tab.classKnown.r38_ok (okc Tab.classKnown.r37_ok (okc Tab.classKnown.r36_ok (okc Tab.classKnown.r10_ok (okc Tab.classKnown.r34_ok (okc Tab.classKnown.r7_ok (okc Tab.classKnown.r0_ok (okc Tab.classKnown.r33_ok (okc Tab.classKnown.r32_ok (okc Tab.classKnown.r35_ok (okc Tab.classKnown.r31_ok (okc Tab.classKnown.r30_ok (okc Tab.classKnown.r28_ok (okc Tab.classKnown.r2_ok (okc Tab.classKnown.r1_ok (okc Tab.classKnown.r29_ok (okc Tab.classKnown.r27_ok (okc Tab.classKnown.r26_ok (okc Tab.classKnown.r24_ok (okc Tab.classKnown.r23_ok (okc Tab.classKnown.r22_ok (okc Tab.classKnown.r21_ok (okc Tab.classKnown.r25_ok (okc Tab.classKnown.r20_ok (okc Tab.classKnown.r19_ok (okc Tab.classKnown.r17_ok (okc Tab.classKnown.r18_ok (okc Tab.classKnown.r16_ok (okc Tab.classKnown.r15_ok (okc Tab.classKnown.r14_ok (okc Tab.classKnown.r13_ok (okc Tab.classKnown.r12_ok (okc Tab.classKnown.r11_ok (okc Tab.classKnown.r8_ok (okc Tab.classKnown.r6_ok (okc Tab.classKnown.r5_ok (okc Tab.classKnown.r4_ok (okc Tab.classKnown.r3_ok (okc Tab.classKnown.r9_ok okn)))))))))))))))))))))))))))))))))))))))
theorem comes : isTrue ((lvlT Tab.cx table 3000).call 0 25 [] []) = true := by kernel_rfl
theorem walk (w : World) : Calls Try.prog 25 #[] w fun e w' => e = .returned (.bool true) ∧ Below w.heap.size w w' :=
  callT_sound Tab.tOk Tab.fOk Tab.mixed table_ok 3000 comes
set_option maxRecDepth 100000 in
theorem lifted (os : Os) (started : os.Started) (H : Type) (enc : TypeId × Value → H) :
    ReturnsInHanded {} Try.checked os 25 .any (Rows.classKnownSpec.pre6 enc Try.prog Try.f25 Rows.classKnownRow.domain false) (Rows.classKnownSpec.post enc Try.prog Try.f25 false true false false) := by
  refine returnsInHanded_of_change_sized (C := Try.checked) own started (by kernel_rfl) Try.func25
    (ChangeSpec.witness6 (enc := enc) (C := Try.checked) false ⟨#[], #[], []⟩ 8 (by kernel_rfl) (by kernel_rfl) (by kernel_rfl) (by kernel_rfl)) ?_
  intro W base args ds gs before hval0 hW hcnd hsz0 _
  have hW' := hW
  obtain ⟨p, q, hA0, hV, rfl, hfz, hnd⟩ := hW
  have hA : DataW.TrodAll enc Try.prog W 0 (fun _ => true) true Try.f25.params.toList args.toList ds p := hA0
  rw [Try.params25] at hA
  obtain ⟨rfl, rfl, rfl⟩ := trodAll_none hA
  obtain ⟨rfl, rfl⟩ := trodVars_none hV
  clear hA0 hval0 hsz0
  refine (walk W).mono fun e W' ⟨he, bel⟩ => ?_
  subst he
  exact ⟨_, rfl, _, _, _, [], _, [], hW', trodAll_mk1 (shut_bool Try.underlying4 _), trodAll_mk0, rfl, bel.frame _, fun h => by cases h⟩
theorem over : Rows.classKnownRow.holds Try.pinned (OpenSpec.ofChange Rows.classKnownSpec) :=
  OpenClaim.holds_of_wide 25 Try.f25 rfl rfl rfl rfl rfl rfl rfl ⟨rfl, rfl, rfl, rfl, rfl⟩ rfl rfl rfl rfl rfl (by kernel_rfl) Try.func25
    (Head.joined 25 Try.f25 Rows.classKnownSpec Rows.classKnownRow Head.mayEnter rfl rfl (by kernel_rfl) Head.laid Head.rowed Head.heard)
    (of_decide_eq_true (by kernel_rfl)) (by unfold Func.isWrapper; first | (rw [if_pos (by decide +kernel)]; kernel_rfl) | (rw [if_neg (by decide +kernel)]; exact ⟨rfl, rfl⟩))
    (fun os started H enc _ => lifted os started H enc)
theorem proved : Rows.ClassKnownSaid := over
#print axioms proved
end Go.Proofs.Ytiinagmombigpaa.classKnown
namespace Go.Proofs.Ytiinagmombigpaa
/-- The row, under a short name, for the claim. -/
theorem classKnown_holds : Rows.ClassKnownSaid := classKnown.proved
end Go.Proofs.Ytiinagmombigpaa
