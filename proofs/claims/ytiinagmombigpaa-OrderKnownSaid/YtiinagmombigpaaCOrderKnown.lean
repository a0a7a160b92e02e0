/- Proved here: the closed statement OrderKnown answers true, without conditions. -/
import Derived.Test.YtiinagmombigpaaOk
import Derived.Test.YtiinagmombigpaaHead
import Derived.Test.YtiinagmombigpaaROrderKnown1
import Derived.Test.YtiinagmombigpaaRows
import Derived.WalkKit
import Derived.ProofKit
import Derived.OpenShut
import Derived.ChangeOld
import Derived.Below
import Derived.SizedLaws
namespace Go.Proofs.Ytiinagmombigpaa.orderKnown
open Go.ChangeShapes Go.WideShapes Go.ChangeAt Go.RowKit Go.Abs
set_option linter.unusedVariables false
theorem own : ownKnob Try.prog.godebug = none := by kernel_rfl
def table : List Row := [Tab.orderKnown.r39, Tab.orderKnown.r38, Tab.orderKnown.r32, Tab.orderKnown.r31, Tab.orderKnown.r3, Tab.orderKnown.r0, Tab.orderKnown.r30, Tab.orderKnown.r37, Tab.orderKnown.r29, Tab.orderKnown.r28, Tab.orderKnown.r27, Tab.orderKnown.r23, Tab.orderKnown.r36, Tab.orderKnown.r26, Tab.orderKnown.r25, Tab.orderKnown.r24, Tab.orderKnown.r35, Tab.orderKnown.r34, Tab.orderKnown.r33, Tab.orderKnown.r22, Tab.orderKnown.r21, Tab.orderKnown.r20, Tab.orderKnown.r19, Tab.orderKnown.r5, Tab.orderKnown.r4, Tab.orderKnown.r18, Tab.orderKnown.r1, Tab.orderKnown.r17, Tab.orderKnown.r16, Tab.orderKnown.r15, Tab.orderKnown.r7, Tab.orderKnown.r6, Tab.orderKnown.r2, Tab.orderKnown.r14, Tab.orderKnown.r13, Tab.orderKnown.r12, Tab.orderKnown.r11, Tab.orderKnown.r10, Tab.orderKnown.r9, Tab.orderKnown.r8]
theorem table_ok : ∀ r ∈ table, r.ok Try.prog := (okc Tab.orderKnown.r39_ok (okc Tab.orderKnown.r38_ok (okc Tab.orderKnown.r32_ok (okc Tab.orderKnown.r31_ok (okc Tab.orderKnown.r3_ok (okc Tab.orderKnown.r0_ok (okc Tab.orderKnown.r30_ok (okc Tab.orderKnown.r37_ok (okc Tab.orderKnown.r29_ok (okc Tab.orderKnown.r28_ok (okc Tab.orderKnown.r27_ok (okc Tab.orderKnown.r23_ok (okc Tab.orderKnown.r36_ok (okc Tab.orderKnown.r26_ok (okc Tab.orderKnown.r25_ok (okc Tab.orderKnown.r24_ok (okc Tab.orderKnown.r35_ok (okc Tab.orderKnown.r34_ok (okc Tab.orderKnown.r33_ok (okc Tab.orderKnown.r22_ok (okc Tab.orderKnown.r21_ok (okc Tab.orderKnown.r20_ok (okc Tab.orderKnown.r19_ok (okc Tab.orderKnown.r5_ok (okc Tab.orderKnown.r4_ok (okc Tab.orderKnown.r18_ok (okc Tab.orderKnown.r1_ok (okc Tab.orderKnown.r17_ok (okc Tab.orderKnown.r16_ok (okc Tab.orderKnown.r15_ok (okc Tab.orderKnown.r7_ok (okc Tab.orderKnown.r6_ok (okc Tab.orderKnown.r2_ok (okc Tab.orderKnown.r14_ok (okc Tab.orderKnown.r13_ok (okc Tab.orderKnown.r12_ok (okc Tab.orderKnown.r11_ok (okc Tab.orderKnown.r10_ok (okc Tab.orderKnown.r9_ok (okc Tab.orderKnown.r8_ok okn))))))))))))))))))))))))))))))))))))))))
theorem comes : isTrue ((lvlT Tab.cx table 3000).call 0 20 [] []) = true := by kernel_rfl
theorem walk (w : World) : Calls Try.prog 20 #[] w fun e w' => e = .returned (.bool true) ∧ Below w.heap.size w w' :=
  callT_sound Tab.tOk Tab.fOk Tab.mixed table_ok 3000 comes
set_option maxRecDepth 100000 in
theorem lifted (os : Os) (started : os.Started) (H : Type) (enc : TypeId × Value → H) :
    ReturnsInHanded {} Try.checked os 20 .any (Rows.orderKnownSpec.pre6 enc Try.prog Try.f20 Rows.orderKnownRow.domain false) (Rows.orderKnownSpec.post enc Try.prog Try.f20 false true false false) := by
  refine returnsInHanded_of_change_sized (C := Try.checked) own started (by kernel_rfl) Try.func20
    (ChangeSpec.witness6 (enc := enc) (C := Try.checked) false ⟨#[], #[], []⟩ 8 (by kernel_rfl) (by kernel_rfl) (by kernel_rfl) (by kernel_rfl)) ?_
  intro W base args ds gs before hval0 hW hcnd hsz0 _
  have hW' := hW
  obtain ⟨p, q, hA0, hV, rfl, hfz, hnd⟩ := hW
  have hA : DataW.TrodAll enc Try.prog W 0 (fun _ => true) true Try.f20.params.toList args.toList ds p := hA0
  rw [Try.params20] at hA
  obtain ⟨rfl, rfl, rfl⟩ := trodAll_none hA
  obtain ⟨rfl, rfl⟩ := trodVars_none hV
  clear hA0 hval0 hsz0
  refine (walk W).mono fun e W' ⟨he, bel⟩ => ?_
  subst he
  exact ⟨_, rfl, _, _, _, [], _, [], hW', trodAll_mk1 (shut_bool Try.underlying4 _), trodAll_mk0, rfl, bel.frame _, fun h => by cases h⟩
theorem over : Rows.orderKnownRow.holds Try.pinned (OpenSpec.ofChange Rows.orderKnownSpec) :=
  OpenClaim.holds_of_wide 20 Try.f20 rfl rfl rfl rfl rfl rfl rfl ⟨rfl, rfl, rfl, rfl, rfl⟩ rfl rfl rfl rfl rfl (by kernel_rfl) Try.func20
    (Head.joined 20 Try.f20 Rows.orderKnownSpec Rows.orderKnownRow Head.mayEnter rfl rfl (by kernel_rfl) Head.laid Head.rowed Head.heard)
    (of_decide_eq_true (by kernel_rfl)) (by unfold Func.isWrapper; first | (rw [if_pos (by decide +kernel)]; kernel_rfl) | (rw [if_neg (by decide +kernel)]; exact ⟨rfl, rfl⟩))
    (fun os started H enc _ => lifted os started H enc)
theorem proved : Rows.OrderKnownSaid := over
#print axioms proved
end Go.Proofs.Ytiinagmombigpaa.orderKnown
namespace Go.Proofs.Ytiinagmombigpaa
/-- The row, under a short name, for the claim. -/
theorem orderKnown_holds : Rows.OrderKnownSaid := orderKnown.proved
end Go.Proofs.Ytiinagmombigpaa
