/- Proved here: the closed statement BootKnown answers true, without conditions. -/
import Derived.Test.YtiinagmombigpaaOk
import Derived.Test.YtiinagmombigpaaHead
import Derived.Test.YtiinagmombigpaaRBootKnown3
import Derived.Test.YtiinagmombigpaaRows
import Derived.WalkKit
import Derived.ProofKit
import Derived.OpenShut
import Derived.ChangeOld
import Derived.Below
import Derived.SizedLaws
namespace Go.Proofs.Ytiinagmombigpaa.bootKnown
open Go.ChangeShapes Go.WideShapes Go.ChangeAt Go.RowKit Go.Abs
set_option linter.unusedVariables false
theorem own : ownKnob Try.prog.godebug = none := by kernel_rfl
def table : List Row := [Tab.bootKnown.r115, Tab.bootKnown.r114, Tab.bootKnown.r113, Tab.bootKnown.r112, Tab.bootKnown.r111, Tab.bootKnown.r7, Tab.bootKnown.r110, Tab.bootKnown.r3, Tab.bootKnown.r0, Tab.bootKnown.r2, Tab.bootKnown.r1, Tab.bootKnown.r109, Tab.bootKnown.r108, Tab.bootKnown.r107, Tab.bootKnown.r106, Tab.bootKnown.r10, Tab.bootKnown.r9, Tab.bootKnown.r8, Tab.bootKnown.r6, Tab.bootKnown.r5, Tab.bootKnown.r4, Tab.bootKnown.r105, Tab.bootKnown.r104, Tab.bootKnown.r103, Tab.bootKnown.r102, Tab.bootKnown.r101, Tab.bootKnown.r100, Tab.bootKnown.r99, Tab.bootKnown.r98, Tab.bootKnown.r97, Tab.bootKnown.r96, Tab.bootKnown.r95, Tab.bootKnown.r94, Tab.bootKnown.r93, Tab.bootKnown.r92, Tab.bootKnown.r91, Tab.bootKnown.r90, Tab.bootKnown.r89, Tab.bootKnown.r88, Tab.bootKnown.r87, Tab.bootKnown.r86, Tab.bootKnown.r85, Tab.bootKnown.r84, Tab.bootKnown.r83, Tab.bootKnown.r82, Tab.bootKnown.r81, Tab.bootKnown.r80, Tab.bootKnown.r79, Tab.bootKnown.r78, Tab.bootKnown.r77, Tab.bootKnown.r76, Tab.bootKnown.r75, Tab.bootKnown.r74, Tab.bootKnown.r73, Tab.bootKnown.r72, Tab.bootKnown.r71, Tab.bootKnown.r70, Tab.bootKnown.r69, Tab.bootKnown.r68, Tab.bootKnown.r67, Tab.bootKnown.r66, Tab.bootKnown.r65, Tab.bootKnown.r64, Tab.bootKnown.r63, Tab.bootKnown.r62, Tab.bootKnown.r61, Tab.bootKnown.r60, Tab.bootKnown.r59, Tab.bootKnown.r58, Tab.bootKnown.r57, Tab.bootKnown.r56, Tab.bootKnown.r55, Tab.bootKnown.r54, Tab.bootKnown.r53, Tab.bootKnown.r52, Tab.bootKnown.r51, Tab.bootKnown.r50, Tab.bootKnown.r49, Tab.bootKnown.r48, Tab.bootKnown.r47, Tab.bootKnown.r46, Tab.bootKnown.r45, Tab.bootKnown.r44, Tab.bootKnown.r43, Tab.bootKnown.r42, Tab.bootKnown.r41, Tab.bootKnown.r40, Tab.bootKnown.r39, Tab.bootKnown.r38, Tab.bootKnown.r37, Tab.bootKnown.r36, Tab.bootKnown.r35, Tab.bootKnown.r34, Tab.bootKnown.r33, Tab.bootKnown.r32, Tab.bootKnown.r31, Tab.bootKnown.r30, Tab.bootKnown.r29, Tab.bootKnown.r28, Tab.bootKnown.r27, Tab.bootKnown.r26, Tab.bootKnown.r25, Tab.bootKnown.r24, Tab.bootKnown.r23, Tab.bootKnown.r22, Tab.bootKnown.r21, Tab.bootKnown.r20, Tab.bootKnown.r19, Tab.bootKnown.r18, Tab.bootKnown.r17, Tab.bootKnown.r16, Tab.bootKnown.r15, Tab.bootKnown.r14, Tab.bootKnown.r13, Tab.bootKnown.r12, Tab.bootKnown.r11]
theorem table_ok : ∀ r ∈ table, r.ok Try.prog := (okc Tab.bootKnown.r115_ok (okc Tab.bootKnown.r114_ok (okc Tab.bootKnown.r113_ok (okc Tab.bootKnown.r112_ok (okc Tab.bootKnown.r111_ok (okc Tab.bootKnown.r7_ok (okc Tab.bootKnown.r110_ok (okc Tab.bootKnown.r3_ok (okc Tab.bootKnown.r0_ok (okc Tab.bootKnown.r2_ok (okc Tab.bootKnown.r1_ok (okc Tab.bootKnown.r109_ok (okc Tab.bootKnown.r108_ok (okc Tab.bootKnown.r107_ok (okc Tab.bootKnown.r106_ok (okc Tab.bootKnown.r10_ok (okc Tab.bootKnown.r9_ok (okc Tab.bootKnown.r8_ok (okc Tab.bootKnown.r6_ok (okc Tab.bootKnown.r5_ok (okc Tab.bootKnown.r4_ok (okc Tab.bootKnown.r105_ok (okc Tab.bootKnown.r104_ok (okc Tab.bootKnown.r103_ok (okc Tab.bootKnown.r102_ok (okc Tab.bootKnown.r101_ok (okc Tab.bootKnown.r100_ok (okc Tab.bootKnown.r99_ok (okc Tab.bootKnown.r98_ok (okc Tab.bootKnown.r97_ok (okc Tab.bootKnown.r96_ok (okc Tab.bootKnown.r95_ok (okc Tab.bootKnown.r94_ok (okc Tab.bootKnown.r93_ok (okc Tab.bootKnown.r92_ok (okc Tab.bootKnown.r91_ok (okc Tab.bootKnown.r90_ok (okc Tab.bootKnown.r89_ok (okc Tab.bootKnown.r88_ok (okc Tab.bootKnown.r87_ok (okc Tab.bootKnown.r86_ok (okc Tab.bootKnown.r85_ok (okc Tab.bootKnown.r84_ok (okc Tab.bootKnown.r83_ok (okc Tab.bootKnown.r82_ok (okc Tab.bootKnown.r81_ok (okc Tab.bootKnown.r80_ok (okc Tab.bootKnown.r79_ok (okc Tab.bootKnown.r78_ok (okc Tab.bootKnown.r77_ok (okc Tab.bootKnown.r76_ok (okc Tab.bootKnown.r75_ok (okc Tab.bootKnown.r74_ok (okc Tab.bootKnown.r73_ok (okc Tab.bootKnown.r72_ok (okc Tab.bootKnown.r71_ok (okc Tab.bootKnown.r70_ok (okc Tab.bootKnown.r69_ok (okc Tab.bootKnown.r68_ok (okc Tab.bootKnown.r67_ok (okc Tab.bootKnown.r66_ok (okc Tab.bootKnown.r65_ok (okc Tab.bootKnown.r64_ok (okc Tab.bootKnown.r63_ok (okc Tab.bootKnown.r62_ok (okc Tab.bootKnown.r61_ok (okc Tab.bootKnown.r60_ok (okc Tab.bootKnown.r59_ok (okc Tab.bootKnown.r58_ok (okc Tab.bootKnown.r57_ok (okc Tab.bootKnown.r56_ok (okc Tab.bootKnown.r55_ok (okc Tab.bootKnown.r54_ok (okc Tab.bootKnown.r53_ok (okc Tab.bootKnown.r52_ok (okc Tab.bootKnown.r51_ok (okc Tab.bootKnown.r50_ok (okc Tab.bootKnown.r49_ok (okc Tab.bootKnown.r48_ok (okc Tab.bootKnown.r47_ok (okc Tab.bootKnown.r46_ok (okc Tab.bootKnown.r45_ok (okc Tab.bootKnown.r44_ok (okc Tab.bootKnown.r43_ok (okc Tab.bootKnown.r42_ok (okc Tab.bootKnown.r41_ok (okc Tab.bootKnown.r40_ok (okc Tab.bootKnown.r39_ok (okc Tab.bootKnown.r38_ok (okc Tab.bootKnown.r37_ok (okc Tab.bootKnown.r36_ok (okc Tab.bootKnown.r35_ok (okc Tab.bootKnown.r34_ok (okc Tab.bootKnown.r33_ok (okc Tab.bootKnown.r32_ok (okc Tab.bootKnown.r31_ok (okc Tab.bootKnown.r30_ok (okc Tab.bootKnown.r29_ok (okc Tab.bootKnown.r28_ok (okc Tab.bootKnown.r27_ok (okc Tab.bootKnown.r26_ok (okc Tab.bootKnown.r25_ok (okc Tab.bootKnown.r24_ok (okc Tab.bootKnown.r23_ok (okc Tab.bootKnown.r22_ok (okc Tab.bootKnown.r21_ok (okc Tab.bootKnown.r20_ok (okc Tab.bootKnown.r19_ok (okc Tab.bootKnown.r18_ok (okc Tab.bootKnown.r17_ok (okc Tab.bootKnown.r16_ok (okc Tab.bootKnown.r15_ok (okc Tab.bootKnown.r14_ok (okc Tab.bootKnown.r13_ok (okc Tab.bootKnown.r12_ok (okc Tab.bootKnown.r11_ok okn))))))))))))))))))))))))))))))))))))))))))))))))))))))))))))))))))))))))))))))))))))))))))))))))))))))))))))))))))))
theorem comes : isTrue ((lvlT Tab.cx table 3000).call 0 32 [] []) = true := by kernel_rfl
theorem walk (w : World) : Calls Try.prog 32 #[] w fun e w' => e = .returned (.bool true) ∧ Below w.heap.size w w' :=
  callT_sound Tab.tOk Tab.fOk Tab.mixed table_ok 3000 comes
set_option maxRecDepth 100000 in
theorem lifted (os : Os) (started : os.Started) (H : Type) (enc : TypeId × Value → H) :
    ReturnsInHanded {} Try.checked os 32 .any (Rows.bootKnownSpec.pre6 enc Try.prog Try.f32 Rows.bootKnownRow.domain false) (Rows.bootKnownSpec.post enc Try.prog Try.f32 false true false false) := by
  refine returnsInHanded_of_change_sized (C := Try.checked) own started (by kernel_rfl) Try.func32
    (ChangeSpec.witness6 (enc := enc) (C := Try.checked) false ⟨#[], #[], []⟩ 8 (by kernel_rfl) (by kernel_rfl) (by kernel_rfl) (by kernel_rfl)) ?_
  intro W base args ds gs before hval0 hW hcnd hsz0 _
  have hW' := hW
  obtain ⟨p, q, hA0, hV, rfl, hfz, hnd⟩ := hW
  have hA : DataW.TrodAll enc Try.prog W 0 (fun _ => true) true Try.f32.params.toList args.toList ds p := hA0
  rw [Try.params32] at hA
  obtain ⟨rfl, rfl, rfl⟩ := trodAll_none hA
  obtain ⟨rfl, rfl⟩ := trodVars_none hV
  clear hA0 hval0 hsz0
  refine (walk W).mono fun e W' ⟨he, bel⟩ => ?_
  subst he
  exact ⟨_, rfl, _, _, _, [], _, [], hW', trodAll_mk1 (shut_bool Try.underlying4 _), trodAll_mk0, rfl, bel.frame _, fun h => by cases h⟩
theorem over : Rows.bootKnownRow.holds Try.pinned (OpenSpec.ofChange Rows.bootKnownSpec) :=
  OpenClaim.holds_of_wide 32 Try.f32 rfl rfl rfl rfl rfl rfl rfl ⟨rfl, rfl, rfl, rfl, rfl⟩ rfl rfl rfl rfl rfl (by kernel_rfl) Try.func32
    (Head.joined 32 Try.f32 Rows.bootKnownSpec Rows.bootKnownRow Head.mayEnter rfl rfl (by kernel_rfl) Head.laid Head.rowed Head.heard)
    (of_decide_eq_true (by kernel_rfl)) (by unfold Func.isWrapper; first | (rw [if_pos (by decide +kernel)]; kernel_rfl) | (rw [if_neg (by decide +kernel)]; exact ⟨rfl, rfl⟩))
    (fun os started H enc _ => lifted os started H enc)
theorem proved : Rows.BootKnownSaid := over
#print axioms proved
end Go.Proofs.Ytiinagmombigpaa.bootKnown
namespace Go.Proofs.Ytiinagmombigpaa
/-- The row, under a short name, for the claim. -/
theorem bootKnown_holds : Rows.BootKnownSaid := bootKnown.proved
end Go.Proofs.Ytiinagmombigpaa
