/- Codes of this seat's functions, their regions step by step. (Printed by a program.) -/
import Derived.Test.YtiinagmombigpaaEvY
import Derived.Test.YtiinagmombigpaaFnA
set_option linter.unnecessarySimpa false
set_option linter.unusedSimpArgs false
set_option linter.unusedVariables false
namespace Go.Abs.Tab
noncomputable def g19_0:=regAt Proofs.Try.f19 0
@[go_sem] theorem x19_0:XR 19 g19_0 [opo 5 (.box 63 (.tmp 2)),opo 6 (.assign (.const (.bool false)))]:=xk
@[go_sem] theorem t19_0:TK g19_0:=tk
noncomputable def g19_1:=regAt Proofs.Try.f19 1
@[go_sem] theorem x19_1:XR 19 g19_1 [mvo 15 0,opo 16 (.call ⟨(.value (.func 63)),#[(.tmp 15)],#[56]⟩),aso 0 16]:=xk
@[go_sem] theorem t19_1:TK g19_1:=tk
noncomputable def g19_2:=regAt Proofs.Try.f19 2
@[go_sem] theorem x19_2:XR 19 g19_2 [mvo 18 0,opo 19 (.call ⟨(.value (.func 67)),#[(.tmp 18)],#[56]⟩),mvo 17 19,opo 20 (.extract (.tmp 17) 0),opo 21 (.extract (.tmp 17) 1),aso 7 20,aso 8 21]:=xk
@[go_sem] theorem t19_2:TK g19_2:=tk
noncomputable def g19_3:=regAt Proofs.Try.f19 3
@[go_sem] theorem x19_3:XR 19 g19_3 [mvo 23 0,opo 24 (.call ⟨(.value (.func 68)),#[(.tmp 23)],#[56]⟩),mvo 22 24,opo 25 (.extract (.tmp 22) 0),opo 26 (.extract (.tmp 22) 1),aso 9 25,aso 10 26]:=xk
@[go_sem] theorem t19_3:TK g19_3:=tk
noncomputable def g19_4:=regAt Proofs.Try.f19 4
@[go_sem] theorem x19_4:XR 19 g19_4 [mvo 28 0,mvo 29 1,ldo 30 63 5,opo 31 (.call ⟨(.value (.func 69)),#[(.tmp 28),(.tmp 29),(.tmp 30)],#[56,3,63]⟩),mvo 27 31,opo 32 (.extract (.tmp 27) 0),opo 33 (.extract (.tmp 27) 1),aso 11 32,aso 12 33]:=xk
@[go_sem] theorem t19_4:TK g19_4:=tk
noncomputable def g19_5:=regAt Proofs.Try.f19 5
@[go_sem] theorem x19_5:XR 19 g19_5 [mvo 35 0,mvo 36 1,ldo 37 63 5,opo 38 (.call ⟨(.value (.func 70)),#[(.tmp 35),(.tmp 36),(.tmp 37)],#[56,3,63]⟩),mvo 34 38,opo 39 (.extract (.tmp 34) 0),opo 40 (.extract (.tmp 34) 1),aso 13 39,aso 14 40]:=xk
@[go_sem] theorem t19_5:TK g19_5:=tk
noncomputable def g19_6:=regAt Proofs.Try.f19 6
@[go_sem] theorem x19_6:XR 19 g19_6 [mvo 41 7,mvo 42 9,opo 43 (.binOp .eql 3 (.tmp 41) (.tmp 42) 3),mvo 44 43,(some 45,(.move (.tmp 8)),some (44,true)),(some 46,(.move (.tmp 10)),some (44,true)),(some 47,(.binOp .eql 27 (.tmp 45) (.tmp 46) 27),some (44,true)),opo 48 (.pick (.tmp 44) (.tmp 47) (.const (.bool false))),mvo 49 48,(some 50,(.move (.tmp 11)),some (49,true)),(some 51,(.move (.tmp 13)),some (49,true)),(some 52,(.binOp .eql 3 (.tmp 50) (.tmp 51) 3),some (49,true)),opo 53 (.pick (.tmp 49) (.tmp 52) (.const (.bool false))),mvo 54 53,(some 55,(.move (.tmp 12)),some (54,true)),(some 56,(.move (.tmp 14)),some (54,true)),(some 57,(.binOp .eql 4 (.tmp 55) (.tmp 56) 4),some (54,true)),opo 58 (.pick (.tmp 54) (.tmp 57) (.const (.bool false))),mvo 59 58,(some 60,(.call ⟨(.value (.func 66)),#[],#[]⟩),some (59,true)),opo 61 (.pick (.tmp 59) (.tmp 60) (.const (.bool false))),aso 6 61]:=xk
@[go_sem] theorem t19_6:TK g19_6:=tk
theorem b19:Proofs.Try.f19.body=some (.seq (.region 0 g19_0 false) (.seq (.region 1 g19_1 false) (.seq (.region 2 g19_2 false) (.seq (.region 3 g19_3 false) (.seq (.region 4 g19_4 false) (.seq (.region 5 g19_5 false) (.seq (.region 6 g19_6 false) .ret))))))):=by kernel_rfl
theorem c19{h:Hd}{ro:Nat}{H:Hp}(a0 a1 a2:AV):callB cx h ro 19 [a0,a1,a2] H=returned cx [(.tmp 6)] (ex cx h ro 19 62 (.seq (.region 0 g19_0 false) (.seq (.region 1 g19_1 false) (.seq (.region 2 g19_2 false) (.seq (.region 3 g19_3 false) (.seq (.region 4 g19_4 false) (.seq (.region 5 g19_5 false) (.seq (.region 6 g19_6 false) .ret))))))) (((PT.nil.set 0 (drp a0)).set 1 (drp a1)).set 2 (drp a2)) H):=by
 have hf:cx.fns 19=some Proofs.Try.f19:=by kernel_rfl
 simp only[callB,hf,funced,b19,bodied]
 rfl
noncomputable def g72_0:=regAt Proofs.Try.f72 0
@[go_sem] theorem x72_0:XR 72 g72_0 [opo 2 (.assign (.const (.slice none 0 0)))]:=xk
@[go_sem] theorem t72_0:TK g72_0:=tk
noncomputable def g72_1:=regAt Proofs.Try.f72 1
@[go_sem] theorem x72_1:XR 72 g72_1 [opo 3 (.assign (.const (.slice none 0 0)))]:=xk
@[go_sem] theorem t72_1:TK g72_1:=tk
noncomputable def g72_2:=regAt Proofs.Try.f72 2
@[go_sem] theorem x72_2:XR 72 g72_2 [opo 4 (.assign (.const (.int .i64 0)))]:=xk
@[go_sem] theorem t72_2:TK g72_2:=tk
noncomputable def g72_3:=regAt Proofs.Try.f72 3
@[go_sem] theorem x72_3:XR 72 g72_3 [mvo 6 4,mvo 7 0,opo 8 (.call ⟨(.builtin .len),#[(.tmp 7)],#[56]⟩),opo 9 (.binOp .lss 3 (.tmp 6) (.tmp 8) 3),mvo 10 9,(some 11,(.move (.tmp 4)),some (10,true)),(some 12,(.binOp .lss 3 (.tmp 11) (.const (.int .i64 10)) 3),some (10,true)),opo 13 (.pick (.tmp 10) (.tmp 12) (.const (.bool false)))]:=xk
@[go_sem] theorem t72_3:TK g72_3:=tk
noncomputable def g72_4:=regAt Proofs.Try.f72 4
@[go_sem] theorem x72_4:XR 72 g72_4 [mvo 16 0,mvo 17 4,iao 18 56 16 17,ldo 19 66 18,opo 5 (.alloc 66),(none,(.store 66 (.tmp 5) (.tmp 19)),none)]:=xk
@[go_sem] theorem t72_4:TK g72_4:=tk
noncomputable def g72_5:=regAt Proofs.Try.f72 5
@[go_sem] theorem x72_5:XR 72 g72_5 [fao 20 66 5 4,ldo 21 64 20,fao 22 66 5 4,ldo 23 64 22,opo 24 (.call ⟨(.builtin .len),#[(.tmp 23)],#[64]⟩),opo 25 (.call ⟨(.builtin .min),#[(.tmp 24),(.const (.int .i64 9))],#[3,3]⟩),opo 26 (.slice 64 (.tmp 21) none (some (.tmp 25)) none),fao 27 66 5 4,(none,(.store 64 (.tmp 27) (.tmp 26)),none)]:=xk
@[go_sem] theorem t72_5:TK g72_5:=tk
noncomputable def g72_6:=regAt Proofs.Try.f72 6
@[go_sem] theorem x72_6:XR 72 g72_6 [mvo 28 3,ldo 29 66 5,opo 30 (.buildSlice 56 1 #[(0,(.tmp 29))]),opo 31 (.call ⟨(.builtin .append),#[(.tmp 28),(.tmp 30)],#[56,56]⟩),aso 3 31]:=xk
@[go_sem] theorem t72_6_28:takes g72_6 28=true:=nk
@[go_sem] theorem t72_6_29:takes g72_6 29=false:=nk
@[go_sem] theorem t72_6_30:takes g72_6 30=false:=nk
@[go_sem] theorem t72_6_31:takes g72_6 31=false:=nk
@[go_sem] theorem t72_6_3:takes g72_6 3=false:=nk
noncomputable def g72_7:=regAt Proofs.Try.f72 7
@[go_sem] theorem x72_7:XR 72 g72_7 [mvo 14 4,opo 15 (.binOp .add 3 (.tmp 14) (.const (.int .i64 1)) 3),aso 4 15]:=xk
@[go_sem] theorem t72_7:TK g72_7:=tk
noncomputable def g72_8:=regAt Proofs.Try.f72 8
@[go_sem] theorem x72_8:XR 72 g72_8 [mvo 32 3,aso 2 32]:=xk
@[go_sem] theorem t72_8:TK g72_8:=tk
noncomputable def l72_0:Code:=(.seq (.seq (.region 3 g72_3 false) (.cond (.tmp 13) .skip (.exit 0))) (.seq (.block 1 (.seq (.region 5 g72_4 false) (.seq (.region 6 g72_5 false) (.region 7 g72_6 false)))) (.region 4 g72_7 false)))
theorem dl72_0{ro nt:Nat}{fr:PT}{H:Hp}:(den cx).loop ro 72 nt l72_0 fr H=xbind (ex cx (den cx) ro 72 nt (.seq (.seq (.region 3 g72_3 false) (.cond (.tmp 13) .skip (.exit 0))) (.seq (.block 1 (.seq (.region 5 g72_4 false) (.seq (.region 6 g72_5 false) (.region 7 g72_6 false)))) (.region 4 g72_7 false))) fr H) (contR (trimmed ((den cx).loop ro 72 nt l72_0) H.length)):=den_loop_x l72_0
theorem b72:Proofs.Try.f72.body=some (.seq (.region 0 g72_0 false) (.seq (.region 1 g72_1 false) (.seq (.seq (.region 2 g72_2 false) (.block 0 (.loop l72_0))) (.seq (.region 8 g72_8 false) .ret)))):=by kernel_rfl
theorem c72{h:Hd}{ro:Nat}{H:Hp}(a0:AV):callB cx h ro 72 [a0] H=returned cx [(.tmp 2)] (ex cx h ro 72 33 (.seq (.region 0 g72_0 false) (.seq (.region 1 g72_1 false) (.seq (.seq (.region 2 g72_2 false) (.block 0 (.loop l72_0))) (.seq (.region 8 g72_8 false) .ret)))) (PT.nil.set 0 (drp a0)) H):=by
 have hf:cx.fns 72=some Proofs.Try.f72:=by kernel_rfl
 simp only[callB,hf,funced,b72,bodied]
 rfl
noncomputable def g76_0:=regAt Proofs.Try.f76 0
@[go_sem] theorem x76_0:XR 76 g76_0 [opo 0 (.assign (.const (.bool false)))]:=xk
@[go_sem] theorem t76_0:TK g76_0:=tk
noncomputable def g76_1:=regAt Proofs.Try.f76 1
@[go_sem] theorem x76_1:XR 76 g76_1 [opo 10 (.call ⟨(.value (.func 84)),#[(.const (.int .i64 1)),(.const (.int .i64 0)),(.const (.int .i64 1)),(.const (.int .i64 0))],#[3,3,3,3]⟩),opo 11 (.build 66 #[]),opo 12 (.buildSlice 56 2 #[(0,(.tmp 10)),(1,(.tmp 11))]),opo 13 (.call ⟨(.value (.func 73)),#[(.tmp 12)],#[56]⟩),mvo 9 13,opo 14 (.extract (.tmp 9) 0),opo 15 (.extract (.tmp 9) 1),opo 1 (.alloc 95),(none,(.store 95 (.tmp 1) (.tmp 14)),none),aso 2 15]:=xk
@[go_sem] theorem t76_1:TK g76_1:=tk
noncomputable def g76_2:=regAt Proofs.Try.f76 2
@[go_sem] theorem x76_2:XR 76 g76_2 [opo 17 (.call ⟨(.value (.func 84)),#[(.const (.int .i64 1)),(.const (.int .i64 0)),(.const (.int .i64 1)),(.const (.int .i64 0))],#[3,3,3,3]⟩),opo 18 (.call ⟨(.value (.func 84)),#[(.const (.int .i64 2)),(.const (.int .i64 1)),(.const (.int .i64 0)),(.const (.int .i64 3))],#[3,3,3,3]⟩),opo 19 (.call ⟨(.value (.func 84)),#[(.const (.int .i64 1)),(.const (.int .i64 5)),(.const (.int .i64 3)),(.const (.int .i64 0))],#[3,3,3,3]⟩),opo 20 (.call ⟨(.value (.func 84)),#[(.const (.int .i64 2)),(.const (.int .i64 6)),(.const (.int .i64 2)),(.const (.int .i64 3))],#[3,3,3,3]⟩),opo 21 (.buildSlice 56 4 #[(0,(.tmp 17)),(1,(.tmp 18)),(2,(.tmp 19)),(3,(.tmp 20))]),opo 22 (.call ⟨(.value (.func 73)),#[(.tmp 21)],#[56]⟩),mvo 16 22,opo 23 (.extract (.tmp 16) 0),opo 24 (.extract (.tmp 16) 1),opo 3 (.alloc 95),(none,(.store 95 (.tmp 3) (.tmp 23)),none),aso 4 24]:=xk
@[go_sem] theorem t76_2:TK g76_2:=tk
noncomputable def g76_3:=regAt Proofs.Try.f76 3
@[go_sem] theorem x76_3:XR 76 g76_3 [opo 26 (.call ⟨(.value (.func 84)),#[(.const (.int .i64 1)),(.const (.int .i64 0)),(.const (.int .i64 1)),(.const (.int .i64 0))],#[3,3,3,3]⟩),opo 27 (.call ⟨(.value (.func 84)),#[(.const (.int .i64 2)),(.const (.int .i64 1)),(.const (.int .i64 0)),(.const (.int .i64 2))],#[3,3,3,3]⟩),opo 28 (.buildSlice 56 2 #[(0,(.tmp 26)),(1,(.tmp 27))]),opo 29 (.call ⟨(.value (.func 73)),#[(.tmp 28)],#[56]⟩),mvo 25 29,opo 30 (.extract (.tmp 25) 0),opo 31 (.extract (.tmp 25) 1),opo 5 (.alloc 95),(none,(.store 95 (.tmp 5) (.tmp 30)),none),aso 6 31]:=xk
@[go_sem] theorem t76_3:TK g76_3:=tk
noncomputable def g76_4:=regAt Proofs.Try.f76 4
@[go_sem] theorem x76_4:XR 76 g76_4 [opo 33 (.call ⟨(.value (.func 84)),#[(.const (.int .i64 1)),(.const (.int .i64 0)),(.const (.int .i64 0)),(.const (.int .i64 1))],#[3,3,3,3]⟩),opo 34 (.call ⟨(.value (.func 84)),#[(.const (.int .i64 1)),(.const (.int .i64 0)),(.const (.int .i64 0)),(.const (.int .i64 2))],#[3,3,3,3]⟩),opo 35 (.build 66 #[]),opo 36 (.buildSlice 56 3 #[(0,(.tmp 33)),(1,(.tmp 34)),(2,(.tmp 35))]),opo 37 (.call ⟨(.value (.func 73)),#[(.tmp 36)],#[56]⟩),mvo 32 37,opo 38 (.extract (.tmp 32) 0),opo 39 (.extract (.tmp 32) 1),opo 7 (.alloc 95),(none,(.store 95 (.tmp 7) (.tmp 38)),none),aso 8 39]:=xk
@[go_sem] theorem t76_4:TK g76_4:=tk
noncomputable def g76_5:=regAt Proofs.Try.f76 5
@[go_sem] theorem x76_5:XR 76 g76_5 [mvo 40 2,opo 41 (.binOp .neq 27 (.tmp 40) (.const (.int .i64 0)) 27),mvo 42 41,(some 43,(.move (.tmp 4)),some (42,false)),(some 44,(.binOp .neq 27 (.tmp 43) (.const (.int .i64 0)) 27),some (42,false)),opo 45 (.pick (.tmp 42) (.const (.bool true)) (.tmp 44)),mvo 46 45,(some 47,(.move (.tmp 8)),some (46,false)),(some 48,(.binOp .neq 27 (.tmp 47) (.const (.int .i64 0)) 27),some (46,false)),opo 49 (.pick (.tmp 46) (.const (.bool true)) (.tmp 48)),mvo 50 49,(some 51,(.move (.tmp 6)),some (50,false)),(some 52,(.binOp .neq 27 (.tmp 51) (.const (.int .i64 0)) 27),some (50,false)),opo 53 (.pick (.tmp 50) (.const (.bool true)) (.tmp 52)),mvo 54 53,(some 55,(.fieldAddr 95 (.tmp 1) 0),some (54,false)),(some 56,(.load 93 (.tmp 55)),some (54,false)),(some 57,(.call ⟨(.builtin .len),#[(.tmp 56)],#[93]⟩),some (54,false)),(some 58,(.binOp .neq 3 (.tmp 57) (.const (.int .i64 3)) 3),some (54,false)),opo 59 (.pick (.tmp 54) (.const (.bool true)) (.tmp 58)),mvo 60 59,(some 61,(.fieldAddr 95 (.tmp 3) 2),some (60,false)),(some 62,(.load 31 (.tmp 61)),some (60,false)),(some 63,(.call ⟨(.builtin .len),#[(.tmp 62)],#[31]⟩),some (60,false)),(some 64,(.binOp .neq 3 (.tmp 63) (.const (.int .i64 8)) 3),some (60,false)),opo 65 (.pick (.tmp 60) (.const (.bool true)) (.tmp 64))]:=xk
@[go_sem] theorem t76_5:TK g76_5:=tk
noncomputable def g76_6:=regAt Proofs.Try.f76 6
@[go_sem] theorem x76_6:XR 76 g76_6 [opo 0 (.assign (.const (.bool false)))]:=xk
@[go_sem] theorem t76_6:TK g76_6:=tk
noncomputable def g76_7:=regAt Proofs.Try.f76 7
@[go_sem] theorem x76_7:XUR 76 g76_7 [(0,0,[],ldo 66 95 1),(1,0,[0],opo 67 (.buildSlice 31 4 #[(0,(.const (.int .i64 0))),(1,(.const (.int .i64 1))),(2,(.const (.int .i64 2))),(3,(.const (.int .i64 1)))])),(2,0,[],opo 68 (.call ⟨(.value (.func 136)),#[(.tmp 66),(.tmp 67)],#[95,31]⟩)),(3,0,[],mvo 69 68),(4,0,[],(some 70,(.fieldAddr 95 (.tmp 1) 0),some (69,true))),(5,0,[],(some 71,(.load 93 (.tmp 70)),some (69,true))),(6,0,[],(some 72,(.indexAddr 93 (.tmp 71) (.const (.int .i64 0))),some (69,true))),(7,0,[],(some 73,(.fieldAddr 111 (.tmp 72) 0),some (69,true))),(8,0,[],(some 74,(.load 3 (.tmp 73)),some (69,true))),(9,0,[],(some 75,(.binOp .eql 3 (.tmp 74) (.const (.int .i64 1)) 3),some (69,true))),(10,0,[],opo 76 (.pick (.tmp 69) (.tmp 75) (.const (.bool false)))),(11,0,[],mvo 77 76),(12,0,[],(some 78,(.fieldAddr 95 (.tmp 1) 0),some (77,true))),(13,0,[],(some 79,(.load 93 (.tmp 78)),some (77,true))),(14,0,[],(some 80,(.indexAddr 93 (.tmp 79) (.const (.int .i64 1))),some (77,true))),(15,0,[],(some 81,(.fieldAddr 111 (.tmp 80) 0),some (77,true))),(16,0,[],(some 82,(.load 3 (.tmp 81)),some (77,true))),(17,0,[],(some 83,(.binOp .eql 3 (.tmp 82) (.const (.int .i64 0)) 3),some (77,true))),(18,0,[],opo 84 (.pick (.tmp 77) (.tmp 83) (.const (.bool false)))),(19,0,[],mvo 85 84),(20,0,[],(some 86,(.fieldAddr 95 (.tmp 1) 0),some (85,true))),(21,0,[],(some 87,(.load 93 (.tmp 86)),some (85,true))),(22,0,[],(some 88,(.indexAddr 93 (.tmp 87) (.const (.int .i64 2))),some (85,true))),(23,0,[],(some 89,(.fieldAddr 111 (.tmp 88) 0),some (85,true))),(24,0,[],(some 90,(.load 3 (.tmp 89)),some (85,true))),(25,0,[],(some 91,(.binOp .eql 3 (.tmp 90) (.const (.int .i64 2)) 3),some (85,true))),(26,0,[],opo 92 (.pick (.tmp 85) (.tmp 91) (.const (.bool false)))),(27,0,[],mvo 93 92),(28,0,[],(some 94,(.load 95 (.tmp 3)),some (93,true))),(29,0,[28],(some 95,(.buildSlice 31 8 #[(0,(.const (.int .i64 0))),(1,(.const (.int .i64 1))),(2,(.const (.int .i64 0))),(3,(.const (.int .i64 1))),(4,(.const (.int .i64 2))),(5,(.const (.int .i64 3))),(6,(.const (.int .i64 2))),(7,(.const (.int .i64 3)))]),some (93,true))),(30,0,[],(some 96,(.call ⟨(.value (.func 136)),#[(.tmp 94),(.tmp 95)],#[95,31]⟩),some (93,true))),(31,0,[],opo 97 (.pick (.tmp 93) (.tmp 96) (.const (.bool false)))),(32,0,[],mvo 98 97),(33,0,[],(some 99,(.load 95 (.tmp 5)),some (98,true))),(34,0,[33],(some 100,(.buildSlice 31 4 #[(0,(.const (.int .i64 0))),(1,(.const (.int .i64 1))),(2,(.const (.int .i64 1))),(3,(.const (.int .i64 0)))]),some (98,true))),(35,0,[],(some 101,(.call ⟨(.value (.func 136)),#[(.tmp 99),(.tmp 100)],#[95,31]⟩),some (98,true))),(36,0,[],opo 102 (.pick (.tmp 98) (.tmp 101) (.const (.bool false)))),(37,0,[],mvo 103 102),(38,0,[],(some 104,(.fieldAddr 95 (.tmp 3) 2),some (103,true))),(39,0,[],(some 105,(.load 31 (.tmp 104)),some (103,true))),(40,0,[],(some 106,(.indexAddr 31 (.tmp 105) (.const (.int .i64 0))),some (103,true))),(41,0,[],(some 107,(.load 3 (.tmp 106)),some (103,true))),(42,0,[],(some 108,(.binOp .eql 3 (.tmp 107) (.const (.int .i64 0)) 3),some (103,true))),(43,0,[],opo 109 (.pick (.tmp 103) (.tmp 108) (.const (.bool false)))),(44,0,[],mvo 110 109),(45,0,[],(some 111,(.fieldAddr 95 (.tmp 3) 2),some (110,true))),(46,0,[],(some 112,(.load 31 (.tmp 111)),some (110,true))),(47,0,[],(some 113,(.indexAddr 31 (.tmp 112) (.const (.int .i64 2))),some (110,true))),(48,0,[],(some 114,(.load 3 (.tmp 113)),some (110,true))),(49,0,[],(some 115,(.binOp .eql 3 (.tmp 114) (.const (.int .i64 5)) 3),some (110,true))),(50,0,[],opo 116 (.pick (.tmp 110) (.tmp 115) (.const (.bool false)))),(51,0,[],mvo 117 116),(52,0,[],(some 118,(.fieldAddr 95 (.tmp 7) 1),some (117,true))),(53,0,[],(some 119,(.load 31 (.tmp 118)),some (117,true))),(54,0,[],(some 120,(.call ⟨(.builtin .len),#[(.tmp 119)],#[31]⟩),some (117,true))),(55,0,[],(some 121,(.binOp .eql 3 (.tmp 120) (.const (.int .i64 6)) 3),some (117,true))),(56,0,[],opo 122 (.pick (.tmp 117) (.tmp 121) (.const (.bool false)))),(57,0,[],mvo 123 122),(58,0,[],(some 124,(.fieldAddr 95 (.tmp 7) 1),some (123,true))),(59,0,[],(some 125,(.load 31 (.tmp 124)),some (123,true))),(60,0,[],(some 126,(.indexAddr 31 (.tmp 125) (.const (.int .i64 0))),some (123,true))),(61,0,[],(some 127,(.load 3 (.tmp 126)),some (123,true))),(62,0,[58,59,60,61],(some 128,(.fieldAddr 95 (.tmp 7) 1),some (123,true))),(63,0,[58,59,60,61],(some 129,(.load 31 (.tmp 128)),some (123,true))),(64,0,[58,59,60,61],(some 130,(.indexAddr 31 (.tmp 129) (.const (.int .i64 1))),some (123,true))),(65,0,[58,59,60,61],(some 131,(.load 3 (.tmp 130)),some (123,true))),(66,0,[],(some 132,(.binOp .neq 3 (.tmp 127) (.tmp 131) 3),some (123,true))),(67,0,[],opo 133 (.pick (.tmp 123) (.tmp 132) (.const (.bool false)))),(68,0,[],aso 0 133)] 0:=xuk
@[go_sem] theorem t76_7:TK g76_7:=tk
theorem b76:Proofs.Try.f76.body=some (.seq (.region 0 g76_0 false) (.seq (.region 1 g76_1 false) (.seq (.region 2 g76_2 false) (.seq (.region 3 g76_3 false) (.seq (.region 4 g76_4 false) (.seq (.seq (.region 5 g76_5 false) (.cond (.tmp 65) (.seq (.region 6 g76_6 false) .ret) .skip)) (.seq (.region 7 g76_7 true) .ret))))))):=by kernel_rfl
theorem c76{h:Hd}{ro:Nat}{H:Hp}:callB cx h ro 76 [] H=returned cx [(.tmp 0)] (ex cx h ro 76 134 (.seq (.region 0 g76_0 false) (.seq (.region 1 g76_1 false) (.seq (.region 2 g76_2 false) (.seq (.region 3 g76_3 false) (.seq (.region 4 g76_4 false) (.seq (.seq (.region 5 g76_5 false) (.cond (.tmp 65) (.seq (.region 6 g76_6 false) .ret) .skip)) (.seq (.region 7 g76_7 true) .ret))))))) PT.nil H):=by
 have hf:cx.fns 76=some Proofs.Try.f76:=by kernel_rfl
 simp only[callB,hf,funced,b76,bodied]
 rw[if_pos (of_decide_eq_true (by kernel_rfl))]
 rfl
noncomputable def g84_0:=regAt Proofs.Try.f84 0
@[go_sem] theorem x84_0:XR 84 g84_0 [opo 8 (.alloc 66)]:=xk
@[go_sem] theorem t84_0:TK g84_0:=tk
noncomputable def g84_1:=regAt Proofs.Try.f84 1
@[go_sem] theorem x84_1:XR 84 g84_1 [mvo 9 0,mvo 10 1,mvo 11 2,mvo 12 3,opo 13 (.build 63 #[(0,(.tmp 11)),(1,(.tmp 12))]),opo 14 (.buildSlice 64 1 #[(0,(.tmp 13))]),opo 15 (.build 66 #[(0,(.tmp 9)),(1,(.tmp 10)),(4,(.tmp 14))]),(none,(.store 66 (.tmp 8) (.tmp 15)),none)]:=xk
@[go_sem] theorem t84_1:TK g84_1:=tk
theorem b84:Proofs.Try.f84.body=some (.seq (.region 0 g84_0 false) (.seq (.region 1 g84_1 false) .ret)):=by kernel_rfl
theorem c84{h:Hd}{ro:Nat}{H:Hp}(a0 a1 a2 a3:AV):callB cx h ro 84 [a0,a1,a2,a3] H=returned cx [(.cell 8 66)] (ex cx h ro 84 16 (.seq (.region 0 g84_0 false) (.seq (.region 1 g84_1 false) .ret)) ((((PT.nil.set 0 (drp a0)).set 1 (drp a1)).set 2 (drp a2)).set 3 (drp a3)) H):=by
 have hf:cx.fns 84=some Proofs.Try.f84:=by kernel_rfl
 simp only[callB,hf,funced,b84,bodied]
 rfl
noncomputable def g136_0:=regAt Proofs.Try.f136 0
@[go_sem] theorem x136_0:XR 136 g136_0 [opo 2 (.box 95 (.tmp 0)),opo 4 (.assign (.const (.bool false)))]:=xk
@[go_sem] theorem t136_0:TK g136_0:=tk
noncomputable def g136_1:=regAt Proofs.Try.f136 1
@[go_sem] theorem x136_1:XR 136 g136_1 [fao 6 95 2 1,ldo 7 31 6,opo 8 (.call ⟨(.builtin .len),#[(.tmp 7)],#[31]⟩),mvo 9 1,opo 10 (.call ⟨(.builtin .len),#[(.tmp 9)],#[31]⟩),opo 11 (.binOp .neq 3 (.tmp 8) (.tmp 10) 3)]:=xk
@[go_sem] theorem t136_1:TK g136_1:=tk
noncomputable def g136_2:=regAt Proofs.Try.f136 2
@[go_sem] theorem x136_2:XR 136 g136_2 [opo 4 (.assign (.const (.bool false)))]:=xk
@[go_sem] theorem t136_2:TK g136_2:=tk
noncomputable def g136_3:=regAt Proofs.Try.f136 3
@[go_sem] theorem x136_3:XR 136 g136_3 [opo 5 (.assign (.const (.int .i64 0)))]:=xk
@[go_sem] theorem t136_3:TK g136_3:=tk
noncomputable def g136_4:=regAt Proofs.Try.f136 4
@[go_sem] theorem x136_4:XR 136 g136_4 [mvo 12 5,mvo 13 1,opo 14 (.call ⟨(.builtin .len),#[(.tmp 13)],#[31]⟩),opo 15 (.binOp .lss 3 (.tmp 12) (.tmp 14) 3)]:=xk
@[go_sem] theorem t136_4:TK g136_4:=tk
noncomputable def g136_5:=regAt Proofs.Try.f136 5
@[go_sem] theorem x136_5:XUR 136 g136_5 [(0,0,[],fao 18 95 2 1),(1,0,[],ldo 19 31 18),(2,0,[0,1],mvo 20 5),(3,0,[],iao 21 31 19 20),(4,0,[],ldo 22 3 21),(5,0,[0,1,2,3,4],mvo 23 1),(6,0,[0,1,2,3,4,5],mvo 24 5),(7,0,[0,1,2,3,4],iao 25 31 23 24),(8,0,[0,1,2,3,4],ldo 26 3 25),(9,0,[],opo 27 (.binOp .neq 3 (.tmp 22) (.tmp 26) 3))] 0:=xuk
@[go_sem] theorem t136_5:TK g136_5:=tk
noncomputable def g136_6:=regAt Proofs.Try.f136 6
@[go_sem] theorem x136_6:XR 136 g136_6 [opo 4 (.assign (.const (.bool false)))]:=xk
@[go_sem] theorem t136_6:TK g136_6:=tk
noncomputable def g136_7:=regAt Proofs.Try.f136 7
@[go_sem] theorem x136_7:XR 136 g136_7 [mvo 16 5,opo 17 (.binOp .add 3 (.tmp 16) (.const (.int .i64 1)) 3),aso 5 17]:=xk
@[go_sem] theorem t136_7:TK g136_7:=tk
noncomputable def g136_8:=regAt Proofs.Try.f136 8
@[go_sem] theorem x136_8:XR 136 g136_8 [opo 4 (.assign (.const (.bool true)))]:=xk
@[go_sem] theorem t136_8:TK g136_8:=tk
noncomputable def l136_0:Code:=(.seq (.seq (.region 4 g136_4 false) (.cond (.tmp 15) .skip (.exit 0))) (.seq (.block 1 (.seq (.region 6 g136_5 true) (.cond (.tmp 27) (.seq (.region 7 g136_6 false) .ret) .skip))) (.region 5 g136_7 false)))
theorem dl136_0{ro nt:Nat}{fr:PT}{H:Hp}:(den cx).loop ro 136 nt l136_0 fr H=xbind (ex cx (den cx) ro 136 nt (.seq (.seq (.region 4 g136_4 false) (.cond (.tmp 15) .skip (.exit 0))) (.seq (.block 1 (.seq (.region 6 g136_5 true) (.cond (.tmp 27) (.seq (.region 7 g136_6 false) .ret) .skip))) (.region 5 g136_7 false))) fr H) (contR (trimmed ((den cx).loop ro 136 nt l136_0) H.length)):=den_loop_x l136_0
theorem b136:Proofs.Try.f136.body=some (.seq (.region 0 g136_0 false) (.seq (.seq (.region 1 g136_1 false) (.cond (.tmp 11) (.seq (.region 2 g136_2 false) .ret) .skip)) (.seq (.seq (.region 3 g136_3 false) (.block 0 (.loop l136_0))) (.seq (.region 8 g136_8 false) .ret)))):=by kernel_rfl
theorem c136{h:Hd}{ro:Nat}{H:Hp}(a0 a1:AV):callB cx h ro 136 [a0,a1] H=returned cx [(.tmp 4)] (ex cx h ro 136 28 (.seq (.region 0 g136_0 false) (.seq (.seq (.region 1 g136_1 false) (.cond (.tmp 11) (.seq (.region 2 g136_2 false) .ret) .skip)) (.seq (.seq (.region 3 g136_3 false) (.block 0 (.loop l136_0))) (.seq (.region 8 g136_8 false) .ret)))) ((PT.nil.set 0 (drp a0)).set 1 (drp a1)) H):=by
 have hf:cx.fns 136=some Proofs.Try.f136:=by kernel_rfl
 simp only[callB,hf,funced,b136,bodied]
 rfl
noncomputable def g21_0:=regAt Proofs.Try.f21 0
@[go_sem] theorem x21_0:XR 21 g21_0 [opo 2 (.assign (.const (.bool false)))]:=xk
@[go_sem] theorem t21_0:TK g21_0:=tk
noncomputable def g21_1:=regAt Proofs.Try.f21 1
@[go_sem] theorem x21_1:XR 21 g21_1 [mvo 7 0,opo 8 (.call ⟨(.value (.func 72)),#[(.tmp 7)],#[56]⟩),aso 0 8]:=xk
@[go_sem] theorem t21_1:TK g21_1:=tk
noncomputable def g21_2:=regAt Proofs.Try.f21 2
@[go_sem] theorem x21_2:XR 21 g21_2 [mvo 10 0,opo 11 (.call ⟨(.value (.func 73)),#[(.tmp 10)],#[56]⟩),mvo 9 11,opo 12 (.extract (.tmp 9) 0),opo 13 (.extract (.tmp 9) 1),opo 3 (.alloc 95),(none,(.store 95 (.tmp 3) (.tmp 12)),none),aso 4 13]:=xk
@[go_sem] theorem t21_2:TK g21_2:=tk
noncomputable def g21_3:=regAt Proofs.Try.f21 3
@[go_sem] theorem x21_3:XR 21 g21_3 [mvo 15 0,opo 16 (.call ⟨(.value (.func 74)),#[(.tmp 15)],#[56]⟩),mvo 14 16,opo 17 (.extract (.tmp 14) 0),opo 18 (.extract (.tmp 14) 1),opo 5 (.alloc 95),(none,(.store 95 (.tmp 5) (.tmp 17)),none),aso 6 18]:=xk
@[go_sem] theorem t21_3:TK g21_3:=tk
noncomputable def g21_4:=regAt Proofs.Try.f21 4
@[go_sem] theorem x21_4:XR 21 g21_4 [mvo 19 4,mvo 20 6,opo 21 (.binOp .eql 27 (.tmp 19) (.tmp 20) 27),mvo 22 21,(some 23,(.load 95 (.tmp 3)),some (22,true)),(some 24,(.load 95 (.tmp 5)),some (22,true)),(some 25,(.call ⟨(.value (.func 75)),#[(.tmp 23),(.tmp 24)],#[95,95]⟩),some (22,true)),opo 26 (.pick (.tmp 22) (.tmp 25) (.const (.bool false))),mvo 27 26,(some 28,(.call ⟨(.value (.func 76)),#[],#[]⟩),some (27,true)),opo 29 (.pick (.tmp 27) (.tmp 28) (.const (.bool false))),aso 2 29]:=xk
@[go_sem] theorem t21_4:TK g21_4:=tk
theorem b21:Proofs.Try.f21.body=some (.seq (.region 0 g21_0 false) (.seq (.region 1 g21_1 false) (.seq (.region 2 g21_2 false) (.seq (.region 3 g21_3 false) (.seq (.region 4 g21_4 false) .ret))))):=by kernel_rfl
theorem c21{h:Hd}{ro:Nat}{H:Hp}(a0:AV):callB cx h ro 21 [a0] H=returned cx [(.tmp 2)] (ex cx h ro 21 30 (.seq (.region 0 g21_0 false) (.seq (.region 1 g21_1 false) (.seq (.region 2 g21_2 false) (.seq (.region 3 g21_3 false) (.seq (.region 4 g21_4 false) .ret))))) (PT.nil.set 0 (drp a0)) H):=by
 have hf:cx.fns 21=some Proofs.Try.f21:=by kernel_rfl
 simp only[callB,hf,funced,b21,bodied]
 rfl
noncomputable def g74_0:=regAt Proofs.Try.f74 0
@[go_sem] theorem x74_0:XR 74 g74_0 [opo 2 (.alloc 95),opo 3 (.assign (.const (.int .i64 0)))]:=xk
@[go_sem] theorem t74_0:TK g74_0:=tk
noncomputable def g74_1:=regAt Proofs.Try.f74 1
@[go_sem] theorem x74_1:XR 74 g74_1 [mvo 24 0,opo 25 (.call ⟨(.value (.func 68)),#[(.tmp 24)],#[56]⟩),mvo 23 25,opo 26 (.extract (.tmp 23) 0),opo 27 (.extract (.tmp 23) 1),aso 4 26,aso 5 27]:=xk
@[go_sem] theorem t74_1:TK g74_1:=tk
noncomputable def g74_2:=regAt Proofs.Try.f74 2
@[go_sem] theorem x74_2:XR 74 g74_2 [mvo 28 5,opo 29 (.binOp .neq 27 (.tmp 28) (.const (.int .i64 0)) 27)]:=xk
@[go_sem] theorem t74_2:TK g74_2:=tk
noncomputable def g74_3:=regAt Proofs.Try.f74 3
@[go_sem] theorem x74_3:XR 74 g74_3 [opo 30 (.build 95 #[]),mvo 31 5,(none,(.store 95 (.tmp 2) (.tmp 30)),none),aso 3 31]:=xk
@[go_sem] theorem t74_3:TK g74_3:=tk
noncomputable def g74_4:=regAt Proofs.Try.f74 4
@[go_sem] theorem x74_4:XR 74 g74_4 [mvo 32 0,opo 33 (.call ⟨(.value (.func 55)),#[(.tmp 32)],#[56]⟩),aso 6 33]:=xk
@[go_sem] theorem t74_4:TK g74_4:=tk
noncomputable def g74_5:=regAt Proofs.Try.f74 5
@[go_sem] theorem x74_5:XR 74 g74_5 [mvo 34 6,opo 35 (.call ⟨(.builtin .len),#[(.tmp 34)],#[56]⟩),opo 36 (.makeSlice 223 (.tmp 35) (.tmp 35)),aso 7 36]:=xk
@[go_sem] theorem t74_5:TK g74_5:=tk
noncomputable def g74_6:=regAt Proofs.Try.f74 6
@[go_sem] theorem x74_6:XR 74 g74_6 [opo 8 (.assign (.const (.int .i64 0)))]:=xk
@[go_sem] theorem t74_6:TK g74_6:=tk
noncomputable def g74_7:=regAt Proofs.Try.f74 7
@[go_sem] theorem x74_7:XR 74 g74_7 [mvo 37 8,mvo 38 6,opo 39 (.call ⟨(.builtin .len),#[(.tmp 38)],#[56]⟩),opo 40 (.binOp .lss 3 (.tmp 37) (.tmp 39) 3)]:=xk
@[go_sem] theorem t74_7:TK g74_7:=tk
noncomputable def g74_8:=regAt Proofs.Try.f74 8
@[go_sem] theorem x74_8:XR 74 g74_8 [mvo 43 7,mvo 44 8,mvo 45 6,opo 46 (.call ⟨(.builtin .len),#[(.tmp 45)],#[56]⟩),opo 47 (.makeSlice 26 (.tmp 46) (.tmp 46)),iao 48 223 43 44,(none,(.store 26 (.tmp 48) (.tmp 47)),none)]:=xk
@[go_sem] theorem t74_8:TK g74_8:=tk
noncomputable def g74_9:=regAt Proofs.Try.f74 9
@[go_sem] theorem x74_9:XR 74 g74_9 [mvo 41 8,opo 42 (.binOp .add 3 (.tmp 41) (.const (.int .i64 1)) 3),aso 8 42]:=xk
@[go_sem] theorem t74_9:TK g74_9:=tk
noncomputable def g74_10:=regAt Proofs.Try.f74 10
@[go_sem] theorem x74_10:XR 74 g74_10 [opo 9 (.assign (.const (.bool true)))]:=xk
@[go_sem] theorem t74_10:TK g74_10:=tk
noncomputable def g74_11:=regAt Proofs.Try.f74 11
@[go_sem] theorem x74_11:XR 74 g74_11 [mvo 49 9]:=xk
@[go_sem] theorem t74_11:TK g74_11:=tk
noncomputable def g74_12:=regAt Proofs.Try.f74 12
@[go_sem] theorem x74_12:XR 74 g74_12 [opo 9 (.assign (.const (.bool false)))]:=xk
@[go_sem] theorem t74_12:TK g74_12:=tk
noncomputable def g74_13:=regAt Proofs.Try.f74 13
@[go_sem] theorem x74_13:XR 74 g74_13 [opo 10 (.assign (.const (.int .i64 0)))]:=xk
@[go_sem] theorem t74_13:TK g74_13:=tk
noncomputable def g74_14:=regAt Proofs.Try.f74 14
@[go_sem] theorem x74_14:XR 74 g74_14 [mvo 50 10,mvo 51 6,opo 52 (.call ⟨(.builtin .len),#[(.tmp 51)],#[56]⟩),opo 53 (.binOp .lss 3 (.tmp 50) (.tmp 52) 3)]:=xk
@[go_sem] theorem t74_14:TK g74_14:=tk
noncomputable def g74_15:=regAt Proofs.Try.f74 15
@[go_sem] theorem x74_15:XR 74 g74_15 [opo 11 (.assign (.const (.int .i64 0)))]:=xk
@[go_sem] theorem t74_15:TK g74_15:=tk
noncomputable def g74_16:=regAt Proofs.Try.f74 16
@[go_sem] theorem x74_16:XR 74 g74_16 [mvo 56 11,mvo 57 6,opo 58 (.call ⟨(.builtin .len),#[(.tmp 57)],#[56]⟩),opo 59 (.binOp .lss 3 (.tmp 56) (.tmp 58) 3)]:=xk
@[go_sem] theorem t74_16:TK g74_16:=tk
noncomputable def g74_17:=regAt Proofs.Try.f74 17
@[go_sem] theorem x74_17:XR 74 g74_17 [mvo 62 6,mvo 63 10,iao 64 56 62 63,fao 65 66 64 0,ldo 66 3 65,opo 67 (.binOp .neq 3 (.tmp 66) (.const (.int .i64 5)) 3),mvo 68 67,(some 69,(.move (.tmp 6)),some (68,true)),(some 70,(.move (.tmp 11)),some (68,true)),(some 71,(.indexAddr 56 (.tmp 69) (.tmp 70)),some (68,true)),(some 72,(.fieldAddr 66 (.tmp 71) 0),some (68,true)),(some 73,(.load 3 (.tmp 72)),some (68,true)),(some 74,(.binOp .neq 3 (.tmp 73) (.const (.int .i64 5)) 3),some (68,true)),opo 75 (.pick (.tmp 68) (.tmp 74) (.const (.bool false))),mvo 76 75,(some 77,(.move (.tmp 7)),some (76,true)),(some 78,(.move (.tmp 10)),some (76,true)),(some 79,(.indexAddr 223 (.tmp 77) (.tmp 78)),some (76,true)),(some 80,(.load 26 (.tmp 79)),some (76,true)),(some 81,(.move (.tmp 11)),some (76,true)),(some 82,(.indexAddr 26 (.tmp 80) (.tmp 81)),some (76,true)),(some 83,(.load 4 (.tmp 82)),some (76,true)),(some 84,(.unOp .not 4 (.tmp 83)),some (76,true)),opo 85 (.pick (.tmp 76) (.tmp 84) (.const (.bool false))),mvo 86 85,(some 87,(.move (.tmp 6)),some (86,true)),(some 88,(.move (.tmp 7)),some (86,true)),(some 89,(.move (.tmp 10)),some (86,true)),(some 90,(.move (.tmp 11)),some (86,true)),(some 91,(.call ⟨(.value (.func 132)),#[(.tmp 87),(.tmp 88),(.tmp 89),(.tmp 90)],#[56,223,3,3]⟩),some (86,true)),opo 92 (.pick (.tmp 86) (.tmp 91) (.const (.bool false)))]:=xk
@[go_sem] theorem t74_17:TK g74_17:=tk
noncomputable def g74_18:=regAt Proofs.Try.f74 18
@[go_sem] theorem x74_18:XR 74 g74_18 [mvo 93 7,mvo 94 10,iao 95 223 93 94,ldo 96 26 95,mvo 97 11,iao 98 26 96 97,(none,(.store 4 (.tmp 98) (.const (.bool true))),none)]:=xk
@[go_sem] theorem t74_18:TK g74_18:=tk
noncomputable def g74_19:=regAt Proofs.Try.f74 19
@[go_sem] theorem x74_19:XR 74 g74_19 [opo 9 (.assign (.const (.bool true)))]:=xk
@[go_sem] theorem t74_19:TK g74_19:=tk
noncomputable def g74_20:=regAt Proofs.Try.f74 20
@[go_sem] theorem x74_20:XR 74 g74_20 [mvo 60 11,opo 61 (.binOp .add 3 (.tmp 60) (.const (.int .i64 1)) 3),aso 11 61]:=xk
@[go_sem] theorem t74_20:TK g74_20:=tk
noncomputable def g74_21:=regAt Proofs.Try.f74 21
@[go_sem] theorem x74_21:XR 74 g74_21 [mvo 54 10,opo 55 (.binOp .add 3 (.tmp 54) (.const (.int .i64 1)) 3),aso 10 55]:=xk
@[go_sem] theorem t74_21:TK g74_21:=tk
noncomputable def g74_22:=regAt Proofs.Try.f74 22
@[go_sem] theorem x74_22:XR 74 g74_22 [opo 12 (.alloc 95)]:=xk
@[go_sem] theorem t74_22:TK g74_22:=tk
noncomputable def g74_23:=regAt Proofs.Try.f74 23
@[go_sem] theorem x74_23:XR 74 g74_23 [opo 13 (.assign (.const (.slice none 0 0)))]:=xk
@[go_sem] theorem t74_23:TK g74_23:=tk
noncomputable def g74_24:=regAt Proofs.Try.f74 24
@[go_sem] theorem x74_24:XR 74 g74_24 [opo 14 (.assign (.const (.int .i64 0)))]:=xk
@[go_sem] theorem t74_24:TK g74_24:=tk
noncomputable def g74_25:=regAt Proofs.Try.f74 25
@[go_sem] theorem x74_25:XR 74 g74_25 [mvo 99 14,mvo 100 6,opo 101 (.call ⟨(.builtin .len),#[(.tmp 100)],#[56]⟩),opo 102 (.binOp .lss 3 (.tmp 99) (.tmp 101) 3)]:=xk
@[go_sem] theorem t74_25:TK g74_25:=tk
noncomputable def g74_26:=regAt Proofs.Try.f74 26
@[go_sem] theorem x74_26:XR 74 g74_26 [mvo 105 6,mvo 106 14,opo 107 (.build 61 #[(0,(.tmp 106))]),opo 108 (.call ⟨(.value (.func 52)),#[(.tmp 105),(.tmp 107)],#[56,61]⟩),opo 15 (.alloc 61),(none,(.store 61 (.tmp 15) (.tmp 108)),none)]:=xk
@[go_sem] theorem t74_26:TK g74_26:=tk
noncomputable def g74_27:=regAt Proofs.Try.f74 27
@[go_sem] theorem x74_27:XR 74 g74_27 [opo 16 (.assign (.const (.int .i64 (-1))))]:=xk
@[go_sem] theorem t74_27:TK g74_27:=tk
noncomputable def g74_28:=regAt Proofs.Try.f74 28
@[go_sem] theorem x74_28:XR 74 g74_28 [opo 17 (.assign (.const (.int .i64 0)))]:=xk
@[go_sem] theorem t74_28:TK g74_28:=tk
noncomputable def g74_29:=regAt Proofs.Try.f74 29
@[go_sem] theorem x74_29:XR 74 g74_29 [mvo 109 17,mvo 110 13,opo 111 (.call ⟨(.builtin .len),#[(.tmp 110)],#[31]⟩),opo 112 (.binOp .lss 3 (.tmp 109) (.tmp 111) 3)]:=xk
@[go_sem] theorem t74_29:TK g74_29:=tk
noncomputable def g74_30:=regAt Proofs.Try.f74 30
@[go_sem] theorem x74_30:XUR 74 g74_30 [(0,0,[],mvo 115 7),(1,0,[0],mvo 116 13),(2,0,[0,1],mvo 117 17),(3,0,[0],iao 118 31 116 117),(4,0,[0],ldo 119 3 118),(5,0,[],iao 120 223 115 119),(6,0,[],ldo 121 26 120),(7,0,[0,1,2,3,4,5,6],fao 122 61 15 0),(8,0,[0,1,2,3,4,5,6],ldo 123 3 122),(9,0,[],iao 124 26 121 123),(10,0,[],ldo 125 4 124),(11,0,[],opo 126 (.unOp .not 4 (.tmp 125)))] 0:=xuk
@[go_sem] theorem t74_30:TK g74_30:=tk
noncomputable def g74_31:=regAt Proofs.Try.f74 31
@[go_sem] theorem x74_31:XR 74 g74_31 [mvo 127 17,aso 16 127]:=xk
@[go_sem] theorem t74_31:TK g74_31:=tk
noncomputable def g74_32:=regAt Proofs.Try.f74 32
@[go_sem] theorem x74_32:XR 74 g74_32 [mvo 113 17,opo 114 (.binOp .add 3 (.tmp 113) (.const (.int .i64 1)) 3),aso 17 114]:=xk
@[go_sem] theorem t74_32:TK g74_32:=tk
noncomputable def g74_33:=regAt Proofs.Try.f74 33
@[go_sem] theorem x74_33:XR 74 g74_33 [mvo 128 16,opo 129 (.binOp .lss 3 (.tmp 128) (.const (.int .i64 0)) 3)]:=xk
@[go_sem] theorem t74_33:TK g74_33:=tk
noncomputable def g74_34:=regAt Proofs.Try.f74 34
@[go_sem] theorem x74_34:XR 74 g74_34 [mvo 130 13,opo 131 (.call ⟨(.builtin .len),#[(.tmp 130)],#[31]⟩),aso 16 131]:=xk
@[go_sem] theorem t74_34:TK g74_34:=tk
noncomputable def g74_35:=regAt Proofs.Try.f74 35
@[go_sem] theorem x74_35:XR 74 g74_35 [mvo 132 13,fao 133 61 15 0,ldo 134 3 133,opo 135 (.buildSlice 31 1 #[(0,(.tmp 134))]),opo 136 (.call ⟨(.builtin .append),#[(.tmp 132),(.tmp 135)],#[31,31]⟩),aso 13 136]:=xk
@[go_sem] theorem t74_35_132:takes g74_35 132=true:=nk
@[go_sem] theorem t74_35_133:takes g74_35 133=false:=nk
@[go_sem] theorem t74_35_134:takes g74_35 134=false:=nk
@[go_sem] theorem t74_35_135:takes g74_35 135=false:=nk
@[go_sem] theorem t74_35_136:takes g74_35 136=false:=nk
@[go_sem] theorem t74_35_13:takes g74_35 13=false:=nk
noncomputable def g74_36:=regAt Proofs.Try.f74 36
@[go_sem] theorem x74_36:XR 74 g74_36 [fao 137 95 12 1,ldo 138 31 137,mvo 139 16,opo 140 (.buildSlice 31 1 #[(0,(.tmp 139))]),opo 141 (.call ⟨(.builtin .append),#[(.tmp 138),(.tmp 140)],#[31,31]⟩),fao 142 95 12 1,(none,(.store 31 (.tmp 142) (.tmp 141)),none)]:=xk
@[go_sem] theorem t74_36_137:takes g74_36 137=false:=nk
@[go_sem] theorem t74_36_138:takes g74_36 138=true:=nk
@[go_sem] theorem t74_36_139:takes g74_36 139=false:=nk
@[go_sem] theorem t74_36_140:takes g74_36 140=false:=nk
@[go_sem] theorem t74_36_141:takes g74_36 141=false:=nk
@[go_sem] theorem t74_36_142:takes g74_36 142=false:=nk
noncomputable def g74_37:=regAt Proofs.Try.f74 37
@[go_sem] theorem x74_37:XUR 74 g74_37 [(0,0,[],mvo 143 6),(1,0,[0],fao 144 61 15 0),(2,0,[0],ldo 145 3 144),(3,0,[],iao 146 56 143 145),(4,0,[],fao 147 66 146 1),(5,0,[],ldo 148 3 147),(6,0,[0,1,2,3,4,5],fao 149 61 15 1),(7,0,[0,1,2,3,4,5],ldo 150 3 149),(8,0,[],opo 151 (.binOp .add 3 (.tmp 148) (.tmp 150) 3)),(9,0,[],aso 18 151)] 0:=xuk
@[go_sem] theorem t74_37:TK g74_37:=tk
noncomputable def g74_38:=regAt Proofs.Try.f74 38
@[go_sem] theorem x74_38:XR 74 g74_38 [mvo 152 6,fao 153 61 15 0,ldo 154 3 153,iao 155 56 152 154,fao 156 66 155 0,ldo 157 3 156,opo 158 (.binOp .eql 3 (.tmp 157) (.const (.int .i64 0)) 3)]:=xk
@[go_sem] theorem t74_38:TK g74_38:=tk
noncomputable def g74_39:=regAt Proofs.Try.f74 39
@[go_sem] theorem x74_39:XR 74 g74_39 [opo 18 (.assign (.const (.int .i64 0)))]:=xk
@[go_sem] theorem t74_39:TK g74_39:=tk
noncomputable def g74_40:=regAt Proofs.Try.f74 40
@[go_sem] theorem x74_40:XR 74 g74_40 [fao 159 95 12 2,ldo 160 31 159,mvo 161 18,opo 162 (.buildSlice 31 1 #[(0,(.tmp 161))]),opo 163 (.call ⟨(.builtin .append),#[(.tmp 160),(.tmp 162)],#[31,31]⟩),fao 164 95 12 2,(none,(.store 31 (.tmp 164) (.tmp 163)),none)]:=xk
@[go_sem] theorem t74_40_159:takes g74_40 159=false:=nk
@[go_sem] theorem t74_40_160:takes g74_40 160=true:=nk
@[go_sem] theorem t74_40_161:takes g74_40 161=false:=nk
@[go_sem] theorem t74_40_162:takes g74_40 162=false:=nk
@[go_sem] theorem t74_40_163:takes g74_40 163=false:=nk
@[go_sem] theorem t74_40_164:takes g74_40 164=false:=nk
noncomputable def g74_41:=regAt Proofs.Try.f74 41
@[go_sem] theorem x74_41:XR 74 g74_41 [mvo 103 14,opo 104 (.binOp .add 3 (.tmp 103) (.const (.int .i64 1)) 3),aso 14 104]:=xk
@[go_sem] theorem t74_41:TK g74_41:=tk
noncomputable def g74_42:=regAt Proofs.Try.f74 42
@[go_sem] theorem x74_42:XR 74 g74_42 [opo 19 (.assign (.const (.int .i64 0)))]:=xk
@[go_sem] theorem t74_42:TK g74_42:=tk
noncomputable def g74_43:=regAt Proofs.Try.f74 43
@[go_sem] theorem x74_43:XR 74 g74_43 [mvo 165 19,mvo 166 13,opo 167 (.call ⟨(.builtin .len),#[(.tmp 166)],#[31]⟩),opo 168 (.binOp .lss 3 (.tmp 165) (.tmp 167) 3)]:=xk
@[go_sem] theorem t74_43:TK g74_43:=tk
noncomputable def g74_44:=regAt Proofs.Try.f74 44
@[go_sem] theorem x74_44:XR 74 g74_44 [mvo 171 6,mvo 172 13,mvo 173 19,iao 174 31 172 173,ldo 175 3 174,iao 176 56 171 175,ldo 177 66 176,opo 20 (.alloc 66),(none,(.store 66 (.tmp 20) (.tmp 177)),none)]:=xk
@[go_sem] theorem t74_44:TK g74_44:=tk
noncomputable def g74_45:=regAt Proofs.Try.f74 45
@[go_sem] theorem x74_45:XUR 74 g74_45 [(0,0,[],fao 178 66 20 0),(1,0,[],ldo 179 3 178),(2,0,[0,1],fao 180 95 12 1),(3,0,[0,1],ldo 181 31 180),(4,0,[0,1,2,3],mvo 182 13),(5,0,[0,1,2,3,4],mvo 183 19),(6,0,[0,1,2,3],iao 184 31 182 183),(7,0,[0,1,2,3],ldo 185 3 184),(8,0,[0,1,2,3,4,5,6,7],mvo 186 0),(9,0,[0,1,2,3,4,5,6,7],opo 187 (.call ⟨(.builtin .len),#[(.tmp 186)],#[56]⟩)),(10,0,[0,1,2,3],opo 188 (.binOp .add 3 (.tmp 185) (.tmp 187) 3)),(11,0,[0,1,2,3,4,5,6,7,8,9,10],mvo 189 6),(12,0,[0,1,2,3,4,5,6,7,8,9,10],opo 190 (.call ⟨(.builtin .len),#[(.tmp 189)],#[56]⟩)),(13,0,[0,1,2,3],opo 191 (.binOp .rem 3 (.tmp 188) (.tmp 190) 3)),(14,0,[0,1],iao 192 31 181 191),(15,0,[0,1],ldo 193 3 192),(16,0,[0,1,2,3,4,5,6,7,8,9,10,11,12,13,14,15],fao 194 66 20 2),(17,0,[0,1,2,3,4,5,6,7,8,9,10,11,12,13,14,15],ldo 195 4 194),(18,0,[],opo 196 (.build 111 #[(0,(.tmp 179)),(1,(.tmp 193)),(2,(.tmp 195))])),(19,0,[0,1,2,3,4,5,6,7,8,9,10,11,12,13,14,15,16,17,18],opo 21 (.alloc 111)),(20,1,[],(none,(.store 111 (.tmp 21) (.tmp 196)),none))] 1:=xuk
@[go_sem] theorem t74_45:TK g74_45:=tk
noncomputable def g74_46:=regAt Proofs.Try.f74 46
@[go_sem] theorem x74_46:XR 74 g74_46 [fao 197 66 20 2,ldo 198 4 197]:=xk
@[go_sem] theorem t74_46:TK g74_46:=tk
noncomputable def g74_47:=regAt Proofs.Try.f74 47
@[go_sem] theorem x74_47:XUR 74 g74_47 [(0,0,[],mvo 199 6),(1,0,[0],ldo 200 95 12),(2,0,[0,1],mvo 201 13),(3,0,[0,1,2],mvo 202 19),(4,0,[0,1],iao 203 31 201 202),(5,0,[0,1],ldo 204 3 203),(6,0,[0,1,2,3,4,5],fao 205 66 20 3),(7,0,[0,1,2,3,4,5],ldo 206 63 205),(8,0,[],opo 207 (.call ⟨(.value (.func 133)),#[(.tmp 199),(.tmp 200),(.tmp 204),(.tmp 206)],#[56,95,3,63]⟩)),(9,0,[],fao 208 111 21 3),(10,0,[],(none,(.store 108 (.tmp 208) (.tmp 207)),none))] 0:=xuk
@[go_sem] theorem t74_47:TK g74_47:=tk
noncomputable def g74_48:=regAt Proofs.Try.f74 48
@[go_sem] theorem x74_48:XR 74 g74_48 [opo 22 (.assign (.const (.int .i64 0)))]:=xk
@[go_sem] theorem t74_48:TK g74_48:=tk
noncomputable def g74_49:=regAt Proofs.Try.f74 49
@[go_sem] theorem x74_49:XR 74 g74_49 [mvo 209 22,fao 210 66 20 4,ldo 211 64 210,opo 212 (.call ⟨(.builtin .len),#[(.tmp 211)],#[64]⟩),opo 213 (.binOp .lss 3 (.tmp 209) (.tmp 212) 3)]:=xk
@[go_sem] theorem t74_49:TK g74_49:=tk
noncomputable def g74_50:=regAt Proofs.Try.f74 50
@[go_sem] theorem x74_50:XUR 74 g74_50 [(0,0,[],fao 216 111 21 4),(1,0,[],ldo 217 109 216),(2,0,[0,1],mvo 218 6),(3,0,[0,1,2],ldo 219 95 12),(4,0,[0,1,2,3],mvo 220 13),(5,0,[0,1,2,3,4],mvo 221 19),(6,0,[0,1,2,3],iao 222 31 220 221),(7,0,[0,1,2,3],ldo 223 3 222),(8,0,[0,1,2,3,4,5,6,7],fao 224 66 20 4),(9,0,[0,1,2,3,4,5,6,7],ldo 225 64 224),(10,0,[0,1,2,3,4,5,6,7,8,9],mvo 226 22),(11,0,[0,1,2,3,4,5,6,7],iao 227 64 225 226),(12,0,[0,1,2,3,4,5,6,7],ldo 228 63 227),(13,0,[0,1],opo 229 (.call ⟨(.value (.func 133)),#[(.tmp 218),(.tmp 219),(.tmp 223),(.tmp 228)],#[56,95,3,63]⟩)),(14,0,[0,1],opo 230 (.buildSlice 109 1 #[(0,(.tmp 229))])),(15,0,[],opo 231 (.call ⟨(.builtin .append),#[(.tmp 217),(.tmp 230)],#[109,109]⟩)),(16,0,[],fao 232 111 21 4),(17,0,[],(none,(.store 109 (.tmp 232) (.tmp 231)),none))] 0:=xuk
@[go_sem] theorem t74_50_216:takes g74_50 216=false:=nk
@[go_sem] theorem t74_50_217:takes g74_50 217=true:=nk
@[go_sem] theorem t74_50_218:takes g74_50 218=false:=nk
@[go_sem] theorem t74_50_219:takes g74_50 219=false:=nk
@[go_sem] theorem t74_50_220:takes g74_50 220=false:=nk
@[go_sem] theorem t74_50_221:takes g74_50 221=false:=nk
@[go_sem] theorem t74_50_222:takes g74_50 222=false:=nk
@[go_sem] theorem t74_50_223:takes g74_50 223=false:=nk
@[go_sem] theorem t74_50_224:takes g74_50 224=false:=nk
@[go_sem] theorem t74_50_225:takes g74_50 225=false:=nk
@[go_sem] theorem t74_50_226:takes g74_50 226=false:=nk
@[go_sem] theorem t74_50_227:takes g74_50 227=false:=nk
@[go_sem] theorem t74_50_228:takes g74_50 228=false:=nk
@[go_sem] theorem t74_50_229:takes g74_50 229=false:=nk
@[go_sem] theorem t74_50_230:takes g74_50 230=false:=nk
@[go_sem] theorem t74_50_231:takes g74_50 231=false:=nk
@[go_sem] theorem t74_50_232:takes g74_50 232=false:=nk
noncomputable def g74_51:=regAt Proofs.Try.f74 51
@[go_sem] theorem x74_51:XR 74 g74_51 [mvo 214 22,opo 215 (.binOp .add 3 (.tmp 214) (.const (.int .i64 1)) 3),aso 22 215]:=xk
@[go_sem] theorem t74_51:TK g74_51:=tk
noncomputable def g74_52:=regAt Proofs.Try.f74 52
@[go_sem] theorem x74_52:XR 74 g74_52 [fao 233 95 12 0,ldo 234 93 233,ldo 235 111 21,opo 236 (.buildSlice 93 1 #[(0,(.tmp 235))]),opo 237 (.call ⟨(.builtin .append),#[(.tmp 234),(.tmp 236)],#[93,93]⟩),fao 238 95 12 0,(none,(.store 93 (.tmp 238) (.tmp 237)),none)]:=xk
@[go_sem] theorem t74_52_233:takes g74_52 233=false:=nk
@[go_sem] theorem t74_52_234:takes g74_52 234=true:=nk
@[go_sem] theorem t74_52_235:takes g74_52 235=false:=nk
@[go_sem] theorem t74_52_236:takes g74_52 236=false:=nk
@[go_sem] theorem t74_52_237:takes g74_52 237=false:=nk
@[go_sem] theorem t74_52_238:takes g74_52 238=false:=nk
noncomputable def g74_53:=regAt Proofs.Try.f74 53
@[go_sem] theorem x74_53:XR 74 g74_53 [mvo 169 19,opo 170 (.binOp .add 3 (.tmp 169) (.const (.int .i64 1)) 3),aso 19 170]:=xk
@[go_sem] theorem t74_53:TK g74_53:=tk
noncomputable def g74_54:=regAt Proofs.Try.f74 54
@[go_sem] theorem x74_54:XR 74 g74_54 [ldo 239 95 12,(none,(.store 95 (.tmp 2) (.tmp 239)),none),opo 3 (.assign (.const (.int .i64 0)))]:=xk
@[go_sem] theorem t74_54:TK g74_54:=tk
noncomputable def l74_0:Code:=(.seq (.seq (.region 7 g74_7 false) (.cond (.tmp 40) .skip (.exit 0))) (.seq (.block 1 (.region 9 g74_8 false)) (.region 8 g74_9 false)))
theorem dl74_0{ro nt:Nat}{fr:PT}{H:Hp}:(den cx).loop ro 74 nt l74_0 fr H=xbind (ex cx (den cx) ro 74 nt (.seq (.seq (.region 7 g74_7 false) (.cond (.tmp 40) .skip (.exit 0))) (.seq (.block 1 (.region 9 g74_8 false)) (.region 8 g74_9 false))) fr H) (contR ((den cx).loop ro 74 nt l74_0)):=den_loop_k l74_0
noncomputable def l74_1:Code:=(.seq (.seq (.region 17 g74_16 false) (.cond (.tmp 59) .skip (.exit 6))) (.seq (.block 7 (.seq (.region 19 g74_17 false) (.cond (.tmp 92) (.seq (.region 20 g74_18 false) (.region 21 g74_19 false)) .skip))) (.region 18 g74_20 false)))
theorem dl74_1{ro nt:Nat}{fr:PT}{H:Hp}:(den cx).loop ro 74 nt l74_1 fr H=xbind (ex cx (den cx) ro 74 nt (.seq (.seq (.region 17 g74_16 false) (.cond (.tmp 59) .skip (.exit 6))) (.seq (.block 7 (.seq (.region 19 g74_17 false) (.cond (.tmp 92) (.seq (.region 20 g74_18 false) (.region 21 g74_19 false)) .skip))) (.region 18 g74_20 false))) fr H) (contR ((den cx).loop ro 74 nt l74_1)):=den_loop_k l74_1
noncomputable def l74_2:Code:=(.seq (.seq (.region 14 g74_14 false) (.cond (.tmp 53) .skip (.exit 4))) (.seq (.block 5 (.seq (.region 16 g74_15 false) (.block 6 (.loop l74_1)))) (.region 15 g74_21 false)))
theorem dl74_2{ro nt:Nat}{fr:PT}{H:Hp}:(den cx).loop ro 74 nt l74_2 fr H=xbind (ex cx (den cx) ro 74 nt (.seq (.seq (.region 14 g74_14 false) (.cond (.tmp 53) .skip (.exit 4))) (.seq (.block 5 (.seq (.region 16 g74_15 false) (.block 6 (.loop l74_1)))) (.region 15 g74_21 false))) fr H) (contR ((den cx).loop ro 74 nt l74_2)):=den_loop_k l74_2
noncomputable def l74_3:Code:=(.seq (.seq (.region 11 g74_11 false) (.cond (.tmp 49) .skip (.exit 2))) (.block 3 (.seq (.region 12 g74_12 false) (.seq (.region 13 g74_13 false) (.block 4 (.loop l74_2))))))
theorem dl74_3{ro nt:Nat}{fr:PT}{H:Hp}:(den cx).loop ro 74 nt l74_3 fr H=xbind (ex cx (den cx) ro 74 nt (.seq (.seq (.region 11 g74_11 false) (.cond (.tmp 49) .skip (.exit 2))) (.block 3 (.seq (.region 12 g74_12 false) (.seq (.region 13 g74_13 false) (.block 4 (.loop l74_2)))))) fr H) (contR ((den cx).loop ro 74 nt l74_3)):=den_loop_k l74_3
noncomputable def l74_4:Code:=(.seq (.seq (.region 30 g74_29 false) (.cond (.tmp 112) .skip (.exit 10))) (.seq (.block 11 (.seq (.region 32 g74_30 true) (.cond (.tmp 126) (.region 33 g74_31 false) .skip))) (.region 31 g74_32 false)))
theorem dl74_4{ro nt:Nat}{fr:PT}{H:Hp}:(den cx).loop ro 74 nt l74_4 fr H=xbind (ex cx (den cx) ro 74 nt (.seq (.seq (.region 30 g74_29 false) (.cond (.tmp 112) .skip (.exit 10))) (.seq (.block 11 (.seq (.region 32 g74_30 true) (.cond (.tmp 126) (.region 33 g74_31 false) .skip))) (.region 31 g74_32 false))) fr H) (contR ((den cx).loop ro 74 nt l74_4)):=den_loop_k l74_4
noncomputable def l74_5:Code:=(.seq (.seq (.region 25 g74_25 false) (.cond (.tmp 102) .skip (.exit 8))) (.seq (.block 9 (.seq (.region 27 g74_26 false) (.seq (.region 28 g74_27 false) (.seq (.seq (.region 29 g74_28 false) (.block 10 (.loop l74_4))) (.seq (.seq (.region 34 g74_33 false) (.cond (.tmp 129) (.seq (.region 35 g74_34 false) (.region 36 g74_35 false)) .skip)) (.seq (.region 37 g74_36 false) (.seq (.region 38 g74_37 true) (.seq (.seq (.region 39 g74_38 false) (.cond (.tmp 158) (.region 40 g74_39 false) .skip)) (.region 41 g74_40 false))))))))) (.region 26 g74_41 false)))
theorem dl74_5{ro nt:Nat}{fr:PT}{H:Hp}:(den cx).loop ro 74 nt l74_5 fr H=xbind (ex cx (den cx) ro 74 nt (.seq (.seq (.region 25 g74_25 false) (.cond (.tmp 102) .skip (.exit 8))) (.seq (.block 9 (.seq (.region 27 g74_26 false) (.seq (.region 28 g74_27 false) (.seq (.seq (.region 29 g74_28 false) (.block 10 (.loop l74_4))) (.seq (.seq (.region 34 g74_33 false) (.cond (.tmp 129) (.seq (.region 35 g74_34 false) (.region 36 g74_35 false)) .skip)) (.seq (.region 37 g74_36 false) (.seq (.region 38 g74_37 true) (.seq (.seq (.region 39 g74_38 false) (.cond (.tmp 158) (.region 40 g74_39 false) .skip)) (.region 41 g74_40 false))))))))) (.region 26 g74_41 false))) fr H) (contR ((den cx).loop ro 74 nt l74_5)):=den_loop_k l74_5
noncomputable def l74_6:Code:=(.seq (.seq (.region 50 g74_49 false) (.cond (.tmp 213) .skip (.exit 14))) (.seq (.block 15 (.region 52 g74_50 true)) (.region 51 g74_51 false)))
theorem dl74_6{ro nt:Nat}{fr:PT}{H:Hp}:(den cx).loop ro 74 nt l74_6 fr H=xbind (ex cx (den cx) ro 74 nt (.seq (.seq (.region 50 g74_49 false) (.cond (.tmp 213) .skip (.exit 14))) (.seq (.block 15 (.region 52 g74_50 true)) (.region 51 g74_51 false))) fr H) (contR ((den cx).loop ro 74 nt l74_6)):=den_loop_k l74_6
noncomputable def l74_7:Code:=(.seq (.seq (.region 43 g74_43 false) (.cond (.tmp 168) .skip (.exit 12))) (.seq (.block 13 (.seq (.region 45 g74_44 false) (.seq (.region 46 g74_45 true) (.seq (.seq (.region 47 g74_46 false) (.cond (.tmp 198) (.region 48 g74_47 true) .skip)) (.seq (.seq (.region 49 g74_48 false) (.block 14 (.loop l74_6))) (.region 53 g74_52 false)))))) (.region 44 g74_53 false)))
theorem dl74_7{ro nt:Nat}{fr:PT}{H:Hp}:(den cx).loop ro 74 nt l74_7 fr H=xbind (ex cx (den cx) ro 74 nt (.seq (.seq (.region 43 g74_43 false) (.cond (.tmp 168) .skip (.exit 12))) (.seq (.block 13 (.seq (.region 45 g74_44 false) (.seq (.region 46 g74_45 true) (.seq (.seq (.region 47 g74_46 false) (.cond (.tmp 198) (.region 48 g74_47 true) .skip)) (.seq (.seq (.region 49 g74_48 false) (.block 14 (.loop l74_6))) (.region 53 g74_52 false)))))) (.region 44 g74_53 false))) fr H) (contR ((den cx).loop ro 74 nt l74_7)):=den_loop_k l74_7
theorem b74:Proofs.Try.f74.body=some (.seq (.region 0 g74_0 false) (.seq (.region 1 g74_1 false) (.seq (.seq (.region 2 g74_2 false) (.cond (.tmp 29) (.seq (.region 3 g74_3 false) .ret) .skip)) (.seq (.region 4 g74_4 false) (.seq (.region 5 g74_5 false) (.seq (.seq (.region 6 g74_6 false) (.block 0 (.loop l74_0))) (.seq (.region 10 g74_10 false) (.seq (.block 2 (.loop l74_3)) (.seq (.region 22 g74_22 false) (.seq (.region 23 g74_23 false) (.seq (.seq (.region 24 g74_24 false) (.block 8 (.loop l74_5))) (.seq (.seq (.region 42 g74_42 false) (.block 12 (.loop l74_7))) (.seq (.region 54 g74_54 false) .ret))))))))))))):=by kernel_rfl
theorem c74{h:Hd}{ro:Nat}{H:Hp}(a0:AV):callB cx h ro 74 [a0] H=returned cx [(.cell 2 95),(.tmp 3)] (ex cx h ro 74 240 (.seq (.region 0 g74_0 false) (.seq (.region 1 g74_1 false) (.seq (.seq (.region 2 g74_2 false) (.cond (.tmp 29) (.seq (.region 3 g74_3 false) .ret) .skip)) (.seq (.region 4 g74_4 false) (.seq (.region 5 g74_5 false) (.seq (.seq (.region 6 g74_6 false) (.block 0 (.loop l74_0))) (.seq (.region 10 g74_10 false) (.seq (.block 2 (.loop l74_3)) (.seq (.region 22 g74_22 false) (.seq (.region 23 g74_23 false) (.seq (.seq (.region 24 g74_24 false) (.block 8 (.loop l74_5))) (.seq (.seq (.region 42 g74_42 false) (.block 12 (.loop l74_7))) (.seq (.region 54 g74_54 false) .ret))))))))))))) (PT.nil.set 0 (drp a0)) H):=by
 have hf:cx.fns 74=some Proofs.Try.f74:=by kernel_rfl
 simp only[callB,hf,funced,b74,bodied]
 rfl
noncomputable def g132_0:=regAt Proofs.Try.f132 0
@[go_sem] theorem x132_0:XR 132 g132_0 [opo 8 (.assign (.const (.bool false)))]:=xk
@[go_sem] theorem t132_0:TK g132_0:=tk
noncomputable def g132_1:=regAt Proofs.Try.f132 1
@[go_sem] theorem x132_1:XUR 132 g132_1 [(0,0,[],mvo 20 0),(1,0,[0],mvo 21 2),(2,0,[],iao 22 56 20 21),(3,0,[],ldo 23 66 22),(4,0,[0,1,2,3],mvo 24 0),(5,0,[0,1,2,3,4],mvo 25 3),(6,0,[0,1,2,3],iao 26 56 24 25),(7,0,[0,1,2,3],ldo 27 66 26),(8,0,[0,1,2,3,4,5,6,7],opo 9 (.alloc 66)),(9,1,[0,1,2,3,4,5,6,7,8],opo 10 (.alloc 66)),(10,2,[4,5,6,7],(none,(.store 66 (.tmp 9) (.tmp 23)),none)),(11,2,[],(none,(.store 66 (.tmp 10) (.tmp 27)),none))] 2:=xuk
@[go_sem] theorem t132_1:TK g132_1:=tk
noncomputable def g132_2:=regAt Proofs.Try.f132 2
@[go_sem] theorem x132_2:XR 132 g132_2 [fao 28 66 9 0,ldo 29 3 28,fao 30 66 10 0,ldo 31 3 30,opo 32 (.binOp .neq 3 (.tmp 29) (.tmp 31) 3),mvo 33 32,(some 34,(.fieldAddr 66 (.tmp 9) 2),some (33,false)),(some 35,(.load 4 (.tmp 34)),some (33,false)),(some 36,(.fieldAddr 66 (.tmp 10) 2),some (33,false)),(some 37,(.load 4 (.tmp 36)),some (33,false)),(some 38,(.binOp .neq 4 (.tmp 35) (.tmp 37) 4),some (33,false)),opo 39 (.pick (.tmp 33) (.const (.bool true)) (.tmp 38)),mvo 40 39,(some 41,(.fieldAddr 66 (.tmp 9) 4),some (40,false)),(some 42,(.load 64 (.tmp 41)),some (40,false)),(some 43,(.call ⟨(.builtin .len),#[(.tmp 42)],#[64]⟩),some (40,false)),(some 44,(.fieldAddr 66 (.tmp 10) 4),some (40,false)),(some 45,(.load 64 (.tmp 44)),some (40,false)),(some 46,(.call ⟨(.builtin .len),#[(.tmp 45)],#[64]⟩),some (40,false)),(some 47,(.binOp .neq 3 (.tmp 43) (.tmp 46) 3),some (40,false)),opo 48 (.pick (.tmp 40) (.const (.bool true)) (.tmp 47))]:=xk
@[go_sem] theorem t132_2:TK g132_2:=tk
noncomputable def g132_3:=regAt Proofs.Try.f132 3
@[go_sem] theorem x132_3:XR 132 g132_3 [opo 8 (.assign (.const (.bool true)))]:=xk
@[go_sem] theorem t132_3:TK g132_3:=tk
noncomputable def g132_4:=regAt Proofs.Try.f132 4
@[go_sem] theorem x132_4:XR 132 g132_4 [fao 49 66 9 2,ldo 50 4 49]:=xk
@[go_sem] theorem t132_4:TK g132_4:=tk
noncomputable def g132_5:=regAt Proofs.Try.f132 5
@[go_sem] theorem x132_5:XR 132 g132_5 [mvo 52 0,mvo 53 2,fao 54 66 9 3,ldo 55 63 54,opo 56 (.call ⟨(.value (.func 162)),#[(.tmp 52),(.tmp 53),(.tmp 55)],#[56,3,63]⟩),mvo 51 56,opo 57 (.extract (.tmp 51) 0),opo 58 (.extract (.tmp 51) 1),aso 11 57,aso 12 58]:=xk
@[go_sem] theorem t132_5:TK g132_5:=tk
noncomputable def g132_6:=regAt Proofs.Try.f132 6
@[go_sem] theorem x132_6:XR 132 g132_6 [mvo 60 0,mvo 61 3,fao 62 66 10 3,ldo 63 63 62,opo 64 (.call ⟨(.value (.func 162)),#[(.tmp 60),(.tmp 61),(.tmp 63)],#[56,3,63]⟩),mvo 59 64,opo 65 (.extract (.tmp 59) 0),opo 66 (.extract (.tmp 59) 1),aso 13 65,aso 14 66]:=xk
@[go_sem] theorem t132_6:TK g132_6:=tk
noncomputable def g132_7:=regAt Proofs.Try.f132 7
@[go_sem] theorem x132_7:XR 132 g132_7 [mvo 67 1,mvo 68 11,iao 69 223 67 68,ldo 70 26 69,mvo 71 13,iao 72 26 70 71,ldo 73 4 72,mvo 74 73,(some 75,(.move (.tmp 12)),some (74,false)),(some 76,(.move (.tmp 14)),some (74,false)),(some 77,(.binOp .neq 3 (.tmp 75) (.tmp 76) 3),some (74,false)),opo 78 (.pick (.tmp 74) (.const (.bool true)) (.tmp 77))]:=xk
@[go_sem] theorem t132_7:TK g132_7:=tk
noncomputable def g132_8:=regAt Proofs.Try.f132 8
@[go_sem] theorem x132_8:XR 132 g132_8 [opo 8 (.assign (.const (.bool true)))]:=xk
@[go_sem] theorem t132_8:TK g132_8:=tk
noncomputable def g132_9:=regAt Proofs.Try.f132 9
@[go_sem] theorem x132_9:XR 132 g132_9 [opo 15 (.assign (.const (.int .i64 0)))]:=xk
@[go_sem] theorem t132_9:TK g132_9:=tk
noncomputable def g132_10:=regAt Proofs.Try.f132 10
@[go_sem] theorem x132_10:XR 132 g132_10 [mvo 79 15,fao 80 66 9 4,ldo 81 64 80,opo 82 (.call ⟨(.builtin .len),#[(.tmp 81)],#[64]⟩),opo 83 (.binOp .lss 3 (.tmp 79) (.tmp 82) 3)]:=xk
@[go_sem] theorem t132_10:TK g132_10:=tk
noncomputable def g132_11:=regAt Proofs.Try.f132 11
@[go_sem] theorem x132_11:XR 132 g132_11 [mvo 87 0,mvo 88 2,fao 89 66 9 4,ldo 90 64 89,mvo 91 15,iao 92 64 90 91,ldo 93 63 92,opo 94 (.call ⟨(.value (.func 162)),#[(.tmp 87),(.tmp 88),(.tmp 93)],#[56,3,63]⟩),mvo 86 94,opo 95 (.extract (.tmp 86) 0),opo 96 (.extract (.tmp 86) 1),aso 16 95,aso 17 96]:=xk
@[go_sem] theorem t132_11:TK g132_11:=tk
noncomputable def g132_12:=regAt Proofs.Try.f132 12
@[go_sem] theorem x132_12:XR 132 g132_12 [mvo 98 0,mvo 99 3,fao 100 66 10 4,ldo 101 64 100,mvo 102 15,iao 103 64 101 102,ldo 104 63 103,opo 105 (.call ⟨(.value (.func 162)),#[(.tmp 98),(.tmp 99),(.tmp 104)],#[56,3,63]⟩),mvo 97 105,opo 106 (.extract (.tmp 97) 0),opo 107 (.extract (.tmp 97) 1),aso 18 106,aso 19 107]:=xk
@[go_sem] theorem t132_12:TK g132_12:=tk
noncomputable def g132_13:=regAt Proofs.Try.f132 13
@[go_sem] theorem x132_13:XR 132 g132_13 [mvo 108 1,mvo 109 16,iao 110 223 108 109,ldo 111 26 110,mvo 112 18,iao 113 26 111 112,ldo 114 4 113,mvo 115 114,(some 116,(.move (.tmp 17)),some (115,false)),(some 117,(.move (.tmp 19)),some (115,false)),(some 118,(.binOp .neq 3 (.tmp 116) (.tmp 117) 3),some (115,false)),opo 119 (.pick (.tmp 115) (.const (.bool true)) (.tmp 118))]:=xk
@[go_sem] theorem t132_13:TK g132_13:=tk
noncomputable def g132_14:=regAt Proofs.Try.f132 14
@[go_sem] theorem x132_14:XR 132 g132_14 [opo 8 (.assign (.const (.bool true)))]:=xk
@[go_sem] theorem t132_14:TK g132_14:=tk
noncomputable def g132_15:=regAt Proofs.Try.f132 15
@[go_sem] theorem x132_15:XR 132 g132_15 [mvo 84 15,opo 85 (.binOp .add 3 (.tmp 84) (.const (.int .i64 1)) 3),aso 15 85]:=xk
@[go_sem] theorem t132_15:TK g132_15:=tk
noncomputable def g132_16:=regAt Proofs.Try.f132 16
@[go_sem] theorem x132_16:XR 132 g132_16 [opo 8 (.assign (.const (.bool false)))]:=xk
@[go_sem] theorem t132_16:TK g132_16:=tk
noncomputable def l132_0:Code:=(.seq (.seq (.region 10 g132_10 false) (.cond (.tmp 83) .skip (.exit 0))) (.seq (.block 1 (.seq (.region 12 g132_11 false) (.seq (.region 13 g132_12 false) (.seq (.region 14 g132_13 false) (.cond (.tmp 119) (.seq (.region 15 g132_14 false) .ret) .skip))))) (.region 11 g132_15 false)))
theorem dl132_0{ro nt:Nat}{fr:PT}{H:Hp}:(den cx).loop ro 132 nt l132_0 fr H=xbind (ex cx (den cx) ro 132 nt (.seq (.seq (.region 10 g132_10 false) (.cond (.tmp 83) .skip (.exit 0))) (.seq (.block 1 (.seq (.region 12 g132_11 false) (.seq (.region 13 g132_12 false) (.seq (.region 14 g132_13 false) (.cond (.tmp 119) (.seq (.region 15 g132_14 false) .ret) .skip))))) (.region 11 g132_15 false))) fr H) (contR (trimmed ((den cx).loop ro 132 nt l132_0) H.length)):=den_loop_x l132_0
theorem b132:Proofs.Try.f132.body=some (.seq (.region 0 g132_0 false) (.seq (.region 1 g132_1 true) (.seq (.seq (.region 2 g132_2 false) (.cond (.tmp 48) (.seq (.region 3 g132_3 false) .ret) .skip)) (.seq (.seq (.region 4 g132_4 false) (.cond (.tmp 50) (.seq (.region 5 g132_5 false) (.seq (.region 6 g132_6 false) (.seq (.region 7 g132_7 false) (.cond (.tmp 78) (.seq (.region 8 g132_8 false) .ret) .skip)))) .skip)) (.seq (.seq (.region 9 g132_9 false) (.block 0 (.loop l132_0))) (.seq (.region 16 g132_16 false) .ret)))))):=by kernel_rfl
theorem c132{h:Hd}{ro:Nat}{H:Hp}(a0 a1 a2 a3:AV):callB cx h ro 132 [a0,a1,a2,a3] H=returned cx [(.tmp 8)] (ex cx h ro 132 120 (.seq (.region 0 g132_0 false) (.seq (.region 1 g132_1 true) (.seq (.seq (.region 2 g132_2 false) (.cond (.tmp 48) (.seq (.region 3 g132_3 false) .ret) .skip)) (.seq (.seq (.region 4 g132_4 false) (.cond (.tmp 50) (.seq (.region 5 g132_5 false) (.seq (.region 6 g132_6 false) (.seq (.region 7 g132_7 false) (.cond (.tmp 78) (.seq (.region 8 g132_8 false) .ret) .skip)))) .skip)) (.seq (.seq (.region 9 g132_9 false) (.block 0 (.loop l132_0))) (.seq (.region 16 g132_16 false) .ret)))))) ((((PT.nil.set 0 (drp a0)).set 1 (drp a1)).set 2 (drp a2)).set 3 (drp a3)) H):=by
 have hf:cx.fns 132=some Proofs.Try.f132:=by kernel_rfl
 simp only[callB,hf,funced,b132,bodied]
 rfl
noncomputable def g133_0:=regAt Proofs.Try.f133 0
@[go_sem] theorem x133_0:XR 133 g133_0 [opo 5 (.box 95 (.tmp 1)),opo 7 (.box 63 (.tmp 3)),opo 8 (.alloc 108)]:=xk
@[go_sem] theorem t133_0:TK g133_0:=tk
noncomputable def g133_1:=regAt Proofs.Try.f133 1
@[go_sem] theorem x133_1:XR 133 g133_1 [mvo 12 0,mvo 13 2,ldo 14 63 7,opo 15 (.call ⟨(.value (.func 162)),#[(.tmp 12),(.tmp 13),(.tmp 14)],#[56,3,63]⟩),mvo 11 15,opo 16 (.extract (.tmp 11) 0),opo 17 (.extract (.tmp 11) 1),aso 9 16,aso 10 17]:=xk
@[go_sem] theorem t133_1:TK g133_1:=tk
noncomputable def g133_2:=regAt Proofs.Try.f133 2
@[go_sem] theorem x133_2:XR 133 g133_2 [fao 18 95 5 1,ldo 19 31 18,mvo 20 9,iao 21 31 19 20,ldo 22 3 21,mvo 23 10,opo 24 (.build 108 #[(0,(.tmp 22)),(1,(.tmp 23))]),(none,(.store 108 (.tmp 8) (.tmp 24)),none)]:=xk
@[go_sem] theorem t133_2:TK g133_2:=tk
theorem b133:Proofs.Try.f133.body=some (.seq (.region 0 g133_0 false) (.seq (.region 1 g133_1 false) (.seq (.region 2 g133_2 false) .ret))):=by kernel_rfl
theorem c133{h:Hd}{ro:Nat}{H:Hp}(a0 a1 a2 a3:AV):callB cx h ro 133 [a0,a1,a2,a3] H=returned cx [(.cell 8 108)] (ex cx h ro 133 25 (.seq (.region 0 g133_0 false) (.seq (.region 1 g133_1 false) (.seq (.region 2 g133_2 false) .ret))) ((((PT.nil.set 0 (drp a0)).set 1 (drp a1)).set 2 (drp a2)).set 3 (drp a3)) H):=by
 have hf:cx.fns 133=some Proofs.Try.f133:=by kernel_rfl
 simp only[callB,hf,funced,b133,bodied]
 rfl
noncomputable def g162_0:=regAt Proofs.Try.f162 0
@[go_sem] theorem x162_0:XR 162 g162_0 [opo 5 (.box 63 (.tmp 2)),opo 6 (.assign (.const (.int .i64 0))),opo 7 (.assign (.const (.int .i64 0)))]:=xk
@[go_sem] theorem t162_0:TK g162_0:=tk
noncomputable def g162_1:=regAt Proofs.Try.f162 1
@[go_sem] theorem x162_1:XR 162 g162_1 [mvo 9 0,fao 10 63 5 0,ldo 11 3 10,fao 12 63 5 1,ldo 13 3 12,opo 14 (.build 61 #[(0,(.tmp 11)),(1,(.tmp 13))]),opo 15 (.call ⟨(.value (.func 52)),#[(.tmp 9),(.tmp 14)],#[56,61]⟩),opo 8 (.alloc 61),(none,(.store 61 (.tmp 8) (.tmp 15)),none)]:=xk
@[go_sem] theorem t162_1:TK g162_1:=tk
noncomputable def g162_2:=regAt Proofs.Try.f162 2
@[go_sem] theorem x162_2:XR 162 g162_2 [mvo 16 0,fao 17 61 8 0,ldo 18 3 17,iao 19 56 16 18,fao 20 66 19 0,ldo 21 3 20,opo 22 (.binOp .eql 3 (.tmp 21) (.const (.int .i64 0)) 3)]:=xk
@[go_sem] theorem t162_2:TK g162_2:=tk
noncomputable def g162_3:=regAt Proofs.Try.f162 3
@[go_sem] theorem x162_3:XR 162 g162_3 [fao 23 61 8 0,ldo 24 3 23,aso 6 24,opo 7 (.assign (.const (.int .i64 0)))]:=xk
@[go_sem] theorem t162_3:TK g162_3:=tk
noncomputable def g162_4:=regAt Proofs.Try.f162 4
@[go_sem] theorem x162_4:XUR 162 g162_4 [(0,0,[],fao 25 61 8 0),(1,0,[],ldo 26 3 25),(2,0,[0,1],mvo 27 0),(3,0,[0,1,2],fao 28 61 8 0),(4,0,[0,1,2],ldo 29 3 28),(5,0,[0,1],iao 30 56 27 29),(6,0,[0,1],fao 31 66 30 1),(7,0,[0,1],ldo 32 3 31),(8,0,[0,1,2,3,4,5,6,7],fao 33 61 8 1),(9,0,[0,1,2,3,4,5,6,7],ldo 34 3 33),(10,0,[0,1],opo 35 (.binOp .add 3 (.tmp 32) (.tmp 34) 3)),(11,0,[0,1,2,3,4,5,6,7,8,9,10],mvo 36 0),(12,0,[0,1,2,3,4,5,6,7,8,9,10,11],mvo 37 1),(13,0,[0,1,2,3,4,5,6,7,8,9,10],iao 38 56 36 37),(14,0,[0,1,2,3,4,5,6,7,8,9,10],fao 39 66 38 1),(15,0,[0,1,2,3,4,5,6,7,8,9,10],ldo 40 3 39),(16,0,[0,1],opo 41 (.binOp .sub 3 (.tmp 35) (.tmp 40) 3)),(17,0,[2,3,4,5,6,7,8,9,10,11,12,13,14,15,16],aso 6 26),(18,0,[],aso 7 41)] 0:=xuk
@[go_sem] theorem t162_4:TK g162_4:=tk
theorem b162:Proofs.Try.f162.body=some (.seq (.region 0 g162_0 false) (.seq (.region 1 g162_1 false) (.seq (.seq (.region 2 g162_2 false) (.cond (.tmp 22) (.seq (.region 3 g162_3 false) .ret) .skip)) (.seq (.region 4 g162_4 true) .ret)))):=by kernel_rfl
theorem c162{h:Hd}{ro:Nat}{H:Hp}(a0 a1 a2:AV):callB cx h ro 162 [a0,a1,a2] H=returned cx [(.tmp 6),(.tmp 7)] (ex cx h ro 162 42 (.seq (.region 0 g162_0 false) (.seq (.region 1 g162_1 false) (.seq (.seq (.region 2 g162_2 false) (.cond (.tmp 22) (.seq (.region 3 g162_3 false) .ret) .skip)) (.seq (.region 4 g162_4 true) .ret)))) (((PT.nil.set 0 (drp a0)).set 1 (drp a1)).set 2 (drp a2)) H):=by
 have hf:cx.fns 162=some Proofs.Try.f162:=by kernel_rfl
 simp only[callB,hf,funced,b162,bodied]
 rfl
noncomputable def g23_0:=regAt Proofs.Try.f23 0
@[go_sem] theorem x23_0:XR 23 g23_0 [opo 4 (.box 61 (.tmp 1)),opo 5 (.box 101 (.tmp 2)),opo 6 (.assign (.const (.bool false)))]:=xk
@[go_sem] theorem t23_0:TK g23_0:=tk
noncomputable def g23_1:=regAt Proofs.Try.f23 1
@[go_sem] theorem x23_1:XR 23 g23_1 [mvo 23 0,opo 24 (.call ⟨(.value (.func 72)),#[(.tmp 23)],#[56]⟩),opo 25 (.call ⟨(.value (.func 74)),#[(.tmp 24)],#[56]⟩),mvo 22 25,opo 26 (.extract (.tmp 22) 0),opo 27 (.extract (.tmp 22) 1),opo 7 (.alloc 95),(none,(.store 95 (.tmp 7) (.tmp 26)),none),aso 8 27]:=xk
@[go_sem] theorem t23_1:TK g23_1:=tk
noncomputable def g23_2:=regAt Proofs.Try.f23 2
@[go_sem] theorem x23_2:XR 23 g23_2 [mvo 28 8,opo 29 (.binOp .neq 27 (.tmp 28) (.const (.int .i64 0)) 27)]:=xk
@[go_sem] theorem t23_2:TK g23_2:=tk
noncomputable def g23_3:=regAt Proofs.Try.f23 3
@[go_sem] theorem x23_3:XR 23 g23_3 [opo 30 (.call ⟨(.value (.func 76)),#[],#[]⟩),aso 6 30]:=xk
@[go_sem] theorem t23_3:TK g23_3:=tk
noncomputable def g23_4:=regAt Proofs.Try.f23 4
@[go_sem] theorem x23_4:XR 23 g23_4 [ldo 32 95 7,ldo 33 61 4,opo 34 (.call ⟨(.value (.func 78)),#[(.tmp 32),(.tmp 33)],#[95,61]⟩),mvo 31 34,opo 35 (.extract (.tmp 31) 0),opo 36 (.extract (.tmp 31) 1),aso 9 35,aso 10 36]:=xk
@[go_sem] theorem t23_4:TK g23_4:=tk
noncomputable def g23_5:=regAt Proofs.Try.f23 5
@[go_sem] theorem x23_5:XR 23 g23_5 [ldo 38 95 7,ldo 39 61 4,opo 40 (.call ⟨(.value (.func 79)),#[(.tmp 38),(.tmp 39)],#[95,61]⟩),mvo 37 40,opo 41 (.extract (.tmp 37) 0),opo 42 (.extract (.tmp 37) 1),aso 11 41,aso 12 42]:=xk
@[go_sem] theorem t23_5:TK g23_5:=tk
noncomputable def g23_6:=regAt Proofs.Try.f23 6
@[go_sem] theorem x23_6:XR 23 g23_6 [mvo 43 9,mvo 44 11,opo 45 (.binOp .neq 3 (.tmp 43) (.tmp 44) 3),mvo 46 45,(some 47,(.move (.tmp 10)),some (46,false)),(some 48,(.move (.tmp 12)),some (46,false)),(some 49,(.binOp .neq 3 (.tmp 47) (.tmp 48) 3),some (46,false)),opo 50 (.pick (.tmp 46) (.const (.bool true)) (.tmp 49))]:=xk
@[go_sem] theorem t23_6:TK g23_6:=tk
noncomputable def g23_7:=regAt Proofs.Try.f23 7
@[go_sem] theorem x23_7:XR 23 g23_7 [opo 6 (.assign (.const (.bool false)))]:=xk
@[go_sem] theorem t23_7:TK g23_7:=tk
noncomputable def g23_8:=regAt Proofs.Try.f23 8
@[go_sem] theorem x23_8:XR 23 g23_8 [opo 13 (.assign (.const (.int .i64 0)))]:=xk
@[go_sem] theorem t23_8:TK g23_8:=tk
noncomputable def g23_9:=regAt Proofs.Try.f23 9
@[go_sem] theorem x23_9:XR 23 g23_9 [mvo 51 13,opo 52 (.binOp .lss 3 (.tmp 51) (.const (.int .i64 2)) 3)]:=xk
@[go_sem] theorem t23_9:TK g23_9:=tk
noncomputable def g23_10:=regAt Proofs.Try.f23 10
@[go_sem] theorem x23_10:XR 23 g23_10 [ldo 56 95 7,opo 57 (.indexAddr 101 (.tmp 5) (.const (.int .i64 0))),ldo 58 3 57,opo 59 (.indexAddr 101 (.tmp 5) (.const (.int .i64 1))),ldo 60 3 59,opo 61 (.indexAddr 101 (.tmp 5) (.const (.int .i64 2))),ldo 62 3 61,opo 63 (.call ⟨(.value (.func 80)),#[(.tmp 56),(.tmp 58),(.tmp 60),(.tmp 62)],#[95,3,3,3]⟩),mvo 55 63,opo 64 (.extract (.tmp 55) 0),opo 65 (.extract (.tmp 55) 1),aso 14 64,aso 15 65]:=xk
@[go_sem] theorem t23_10:TK g23_10:=tk
noncomputable def g23_11:=regAt Proofs.Try.f23 11
@[go_sem] theorem x23_11:XR 23 g23_11 [ldo 67 95 7,opo 68 (.indexAddr 101 (.tmp 5) (.const (.int .i64 0))),ldo 69 3 68,opo 70 (.indexAddr 101 (.tmp 5) (.const (.int .i64 1))),ldo 71 3 70,opo 72 (.indexAddr 101 (.tmp 5) (.const (.int .i64 2))),ldo 73 3 72,opo 74 (.call ⟨(.value (.func 81)),#[(.tmp 67),(.tmp 69),(.tmp 71),(.tmp 73)],#[95,3,3,3]⟩),mvo 66 74,opo 75 (.extract (.tmp 66) 0),opo 76 (.extract (.tmp 66) 1),aso 16 75,aso 17 76]:=xk
@[go_sem] theorem t23_11:TK g23_11:=tk
noncomputable def g23_12:=regAt Proofs.Try.f23 12
@[go_sem] theorem x23_12:XR 23 g23_12 [ldo 78 95 7,opo 79 (.indexAddr 101 (.tmp 5) (.const (.int .i64 0))),ldo 80 3 79,opo 81 (.indexAddr 101 (.tmp 5) (.const (.int .i64 1))),ldo 82 3 81,opo 83 (.call ⟨(.value (.func 82)),#[(.tmp 78),(.tmp 80),(.tmp 82)],#[95,3,3]⟩),mvo 77 83,opo 84 (.extract (.tmp 77) 0),opo 85 (.extract (.tmp 77) 1),aso 18 84,aso 19 85]:=xk
@[go_sem] theorem t23_12:TK g23_12:=tk
noncomputable def g23_13:=regAt Proofs.Try.f23 13
@[go_sem] theorem x23_13:XR 23 g23_13 [ldo 87 95 7,opo 88 (.indexAddr 101 (.tmp 5) (.const (.int .i64 0))),ldo 89 3 88,opo 90 (.indexAddr 101 (.tmp 5) (.const (.int .i64 1))),ldo 91 3 90,opo 92 (.call ⟨(.value (.func 83)),#[(.tmp 87),(.tmp 89),(.tmp 91)],#[95,3,3]⟩),mvo 86 92,opo 93 (.extract (.tmp 86) 0),opo 94 (.extract (.tmp 86) 1),aso 20 93,aso 21 94]:=xk
@[go_sem] theorem t23_13:TK g23_13:=tk
noncomputable def g23_14:=regAt Proofs.Try.f23 14
@[go_sem] theorem x23_14:XR 23 g23_14 [mvo 95 14,mvo 96 16,opo 97 (.binOp .neq 3 (.tmp 95) (.tmp 96) 3),mvo 98 97,(some 99,(.move (.tmp 15)),some (98,false)),(some 100,(.move (.tmp 17)),some (98,false)),(some 101,(.binOp .neq 3 (.tmp 99) (.tmp 100) 3),some (98,false)),opo 102 (.pick (.tmp 98) (.const (.bool true)) (.tmp 101)),mvo 103 102,(some 104,(.move (.tmp 18)),some (103,false)),(some 105,(.move (.tmp 20)),some (103,false)),(some 106,(.binOp .neq 3 (.tmp 104) (.tmp 105) 3),some (103,false)),opo 107 (.pick (.tmp 103) (.const (.bool true)) (.tmp 106)),mvo 108 107,(some 109,(.move (.tmp 19)),some (108,false)),(some 110,(.move (.tmp 21)),some (108,false)),(some 111,(.binOp .neq 3 (.tmp 109) (.tmp 110) 3),some (108,false)),opo 112 (.pick (.tmp 108) (.const (.bool true)) (.tmp 111))]:=xk
@[go_sem] theorem t23_14:TK g23_14:=tk
noncomputable def g23_15:=regAt Proofs.Try.f23 15
@[go_sem] theorem x23_15:XR 23 g23_15 [opo 6 (.assign (.const (.bool false)))]:=xk
@[go_sem] theorem t23_15:TK g23_15:=tk
noncomputable def g23_16:=regAt Proofs.Try.f23 16
@[go_sem] theorem x23_16:XR 23 g23_16 [mvo 113 9,opo 114 (.indexAddr 101 (.tmp 5) (.const (.int .i64 0))),(none,(.store 3 (.tmp 114) (.tmp 113)),none)]:=xk
@[go_sem] theorem t23_16:TK g23_16:=tk
noncomputable def g23_17:=regAt Proofs.Try.f23 17
@[go_sem] theorem x23_17:XR 23 g23_17 [mvo 115 10,opo 116 (.indexAddr 101 (.tmp 5) (.const (.int .i64 1))),(none,(.store 3 (.tmp 116) (.tmp 115)),none)]:=xk
@[go_sem] theorem t23_17:TK g23_17:=tk
noncomputable def g23_18:=regAt Proofs.Try.f23 18
@[go_sem] theorem x23_18:XR 23 g23_18 [mvo 53 13,opo 54 (.binOp .add 3 (.tmp 53) (.const (.int .i64 1)) 3),aso 13 54]:=xk
@[go_sem] theorem t23_18:TK g23_18:=tk
noncomputable def g23_19:=regAt Proofs.Try.f23 19
@[go_sem] theorem x23_19:XR 23 g23_19 [opo 117 (.call ⟨(.value (.func 76)),#[],#[]⟩),aso 6 117]:=xk
@[go_sem] theorem t23_19:TK g23_19:=tk
noncomputable def l23_0:Code:=(.seq (.seq (.region 9 g23_9 false) (.cond (.tmp 52) .skip (.exit 0))) (.seq (.block 1 (.seq (.region 11 g23_10 false) (.seq (.region 12 g23_11 false) (.seq (.region 13 g23_12 false) (.seq (.region 14 g23_13 false) (.seq (.seq (.region 15 g23_14 false) (.cond (.tmp 112) (.seq (.region 16 g23_15 false) .ret) .skip)) (.seq (.region 17 g23_16 false) (.region 18 g23_17 false)))))))) (.region 10 g23_18 false)))
theorem dl23_0{ro nt:Nat}{fr:PT}{H:Hp}:(den cx).loop ro 23 nt l23_0 fr H=xbind (ex cx (den cx) ro 23 nt (.seq (.seq (.region 9 g23_9 false) (.cond (.tmp 52) .skip (.exit 0))) (.seq (.block 1 (.seq (.region 11 g23_10 false) (.seq (.region 12 g23_11 false) (.seq (.region 13 g23_12 false) (.seq (.region 14 g23_13 false) (.seq (.seq (.region 15 g23_14 false) (.cond (.tmp 112) (.seq (.region 16 g23_15 false) .ret) .skip)) (.seq (.region 17 g23_16 false) (.region 18 g23_17 false)))))))) (.region 10 g23_18 false))) fr H) (contR (trimmed ((den cx).loop ro 23 nt l23_0) H.length)):=den_loop_x l23_0
theorem b23:Proofs.Try.f23.body=some (.seq (.region 0 g23_0 false) (.seq (.region 1 g23_1 false) (.seq (.seq (.region 2 g23_2 false) (.cond (.tmp 29) (.seq (.region 3 g23_3 false) .ret) .skip)) (.seq (.region 4 g23_4 false) (.seq (.region 5 g23_5 false) (.seq (.seq (.region 6 g23_6 false) (.cond (.tmp 50) (.seq (.region 7 g23_7 false) .ret) .skip)) (.seq (.seq (.region 8 g23_8 false) (.block 0 (.loop l23_0))) (.seq (.region 19 g23_19 false) .ret)))))))):=by kernel_rfl
theorem c23{h:Hd}{ro:Nat}{H:Hp}(a0 a1 a2:AV):callB cx h ro 23 [a0,a1,a2] H=returned cx [(.tmp 6)] (ex cx h ro 23 118 (.seq (.region 0 g23_0 false) (.seq (.region 1 g23_1 false) (.seq (.seq (.region 2 g23_2 false) (.cond (.tmp 29) (.seq (.region 3 g23_3 false) .ret) .skip)) (.seq (.region 4 g23_4 false) (.seq (.region 5 g23_5 false) (.seq (.seq (.region 6 g23_6 false) (.cond (.tmp 50) (.seq (.region 7 g23_7 false) .ret) .skip)) (.seq (.seq (.region 8 g23_8 false) (.block 0 (.loop l23_0))) (.seq (.region 19 g23_19 false) .ret)))))))) (((PT.nil.set 0 (drp a0)).set 1 (drp a1)).set 2 (drp a2)) H):=by
 have hf:cx.fns 23=some Proofs.Try.f23:=by kernel_rfl
 simp only[callB,hf,funced,b23,bodied]
 rfl
noncomputable def g78_0:=regAt Proofs.Try.f78 0
@[go_sem] theorem x78_0:XR 78 g78_0 [opo 2 (.box 95 (.tmp 0)),opo 3 (.box 61 (.tmp 1)),opo 4 (.assign (.const (.int .i64 0))),opo 5 (.assign (.const (.int .i64 0)))]:=xk
@[go_sem] theorem t78_0:TK g78_0:=tk
noncomputable def g78_1:=regAt Proofs.Try.f78 1
@[go_sem] theorem x78_1:XR 78 g78_1 [fao 6 61 3 0,ldo 7 3 6,opo 8 (.binOp .lss 3 (.tmp 7) (.const (.int .i64 0)) 3),mvo 9 8,(some 10,(.fieldAddr 61 (.tmp 3) 0),some (9,false)),(some 11,(.load 3 (.tmp 10)),some (9,false)),(some 12,(.fieldAddr 95 (.tmp 2) 1),some (9,false)),(some 13,(.load 31 (.tmp 12)),some (9,false)),(some 14,(.call ⟨(.builtin .len),#[(.tmp 13)],#[31]⟩),some (9,false)),(some 15,(.binOp .geq 3 (.tmp 11) (.tmp 14) 3),some (9,false)),opo 16 (.pick (.tmp 9) (.const (.bool true)) (.tmp 15))]:=xk
@[go_sem] theorem t78_1:TK g78_1:=tk
noncomputable def g78_2:=regAt Proofs.Try.f78 2
@[go_sem] theorem x78_2:XR 78 g78_2 [opo 4 (.assign (.const (.int .i64 (-1)))),opo 5 (.assign (.const (.int .i64 0)))]:=xk
@[go_sem] theorem t78_2:TK g78_2:=tk
noncomputable def g78_3:=regAt Proofs.Try.f78 3
@[go_sem] theorem x78_3:XUR 78 g78_3 [(0,0,[],ldo 17 95 2),(1,0,[0],fao 18 95 2 1),(2,0,[0],ldo 19 31 18),(3,0,[0,1,2],fao 20 61 3 0),(4,0,[0,1,2],ldo 21 3 20),(5,0,[0],iao 22 31 19 21),(6,0,[0],ldo 23 3 22),(7,0,[0,1,2,3,4,5,6],fao 24 95 2 2),(8,0,[0,1,2,3,4,5,6],ldo 25 31 24),(9,0,[0,1,2,3,4,5,6,7,8],fao 26 61 3 0),(10,0,[0,1,2,3,4,5,6,7,8],ldo 27 3 26),(11,0,[0,1,2,3,4,5,6],iao 28 31 25 27),(12,0,[0,1,2,3,4,5,6],ldo 29 3 28),(13,0,[0,1,2,3,4,5,6,7,8,9,10,11,12],fao 30 61 3 1),(14,0,[0,1,2,3,4,5,6,7,8,9,10,11,12],ldo 31 3 30),(15,0,[0,1,2,3,4,5,6],opo 32 (.binOp .add 3 (.tmp 29) (.tmp 31) 3)),(16,0,[],opo 33 (.call ⟨(.value (.func 137)),#[(.tmp 17),(.tmp 23),(.tmp 32)],#[95,3,3]⟩)),(17,0,[],opo 34 (.extract (.tmp 33) 0)),(18,0,[17],opo 35 (.extract (.tmp 33) 1)),(19,0,[],aso 4 34),(20,0,[],aso 5 35)] 0:=xuk
@[go_sem] theorem t78_3:TK g78_3:=tk
theorem b78:Proofs.Try.f78.body=some (.seq (.region 0 g78_0 false) (.seq (.seq (.region 1 g78_1 false) (.cond (.tmp 16) (.seq (.region 2 g78_2 false) .ret) .skip)) (.seq (.region 3 g78_3 true) .ret))):=by kernel_rfl
theorem c78{h:Hd}{ro:Nat}{H:Hp}(a0 a1:AV):callB cx h ro 78 [a0,a1] H=returned cx [(.tmp 4),(.tmp 5)] (ex cx h ro 78 36 (.seq (.region 0 g78_0 false) (.seq (.seq (.region 1 g78_1 false) (.cond (.tmp 16) (.seq (.region 2 g78_2 false) .ret) .skip)) (.seq (.region 3 g78_3 true) .ret))) ((PT.nil.set 0 (drp a0)).set 1 (drp a1)) H):=by
 have hf:cx.fns 78=some Proofs.Try.f78:=by kernel_rfl
 simp only[callB,hf,funced,b78,bodied]
 rfl
noncomputable def g79_0:=regAt Proofs.Try.f79 0
@[go_sem] theorem x79_0:XR 79 g79_0 [opo 2 (.box 95 (.tmp 0)),opo 3 (.box 61 (.tmp 1)),opo 4 (.assign (.const (.int .i64 0))),opo 5 (.assign (.const (.int .i64 0)))]:=xk
@[go_sem] theorem t79_0:TK g79_0:=tk
noncomputable def g79_1:=regAt Proofs.Try.f79 1
@[go_sem] theorem x79_1:XR 79 g79_1 [fao 7 61 3 0,ldo 8 3 7,opo 9 (.binOp .lss 3 (.tmp 8) (.const (.int .i64 0)) 3),mvo 10 9,(some 11,(.fieldAddr 61 (.tmp 3) 0),some (10,false)),(some 12,(.load 3 (.tmp 11)),some (10,false)),(some 13,(.fieldAddr 95 (.tmp 2) 1),some (10,false)),(some 14,(.load 31 (.tmp 13)),some (10,false)),(some 15,(.call ⟨(.builtin .len),#[(.tmp 14)],#[31]⟩),some (10,false)),(some 16,(.binOp .geq 3 (.tmp 12) (.tmp 15) 3),some (10,false)),opo 17 (.pick (.tmp 10) (.const (.bool true)) (.tmp 16))]:=xk
@[go_sem] theorem t79_1:TK g79_1:=tk
noncomputable def g79_2:=regAt Proofs.Try.f79 2
@[go_sem] theorem x79_2:XR 79 g79_2 [opo 4 (.assign (.const (.int .i64 (-1)))),opo 5 (.assign (.const (.int .i64 0)))]:=xk
@[go_sem] theorem t79_2:TK g79_2:=tk
noncomputable def g79_3:=regAt Proofs.Try.f79 3
@[go_sem] theorem x79_3:XR 79 g79_3 [fao 18 95 2 1,ldo 19 31 18,fao 20 61 3 0,ldo 21 3 20,iao 22 31 19 21,ldo 23 3 22,aso 6 23]:=xk
@[go_sem] theorem t79_3:TK g79_3:=tk
noncomputable def g79_4:=regAt Proofs.Try.f79 4
@[go_sem] theorem x79_4:XR 79 g79_4 [fao 24 95 2 0,ldo 25 93 24,mvo 26 6,iao 27 93 25 26,fao 28 111 27 0,ldo 29 3 28,opo 30 (.binOp .eql 3 (.tmp 29) (.const (.int .i64 0)) 3)]:=xk
@[go_sem] theorem t79_4:TK g79_4:=tk
noncomputable def g79_5:=regAt Proofs.Try.f79 5
@[go_sem] theorem x79_5:XR 79 g79_5 [mvo 31 6,aso 4 31,opo 5 (.assign (.const (.int .i64 0)))]:=xk
@[go_sem] theorem t79_5:TK g79_5:=tk
noncomputable def g79_6:=regAt Proofs.Try.f79 6
@[go_sem] theorem x79_6:XUR 79 g79_6 [(0,0,[],mvo 32 6),(1,0,[0],fao 33 95 2 2),(2,0,[0],ldo 34 31 33),(3,0,[0,1,2],fao 35 61 3 0),(4,0,[0,1,2],ldo 36 3 35),(5,0,[0],iao 37 31 34 36),(6,0,[0],ldo 38 3 37),(7,0,[0,1,2,3,4,5,6],fao 39 61 3 1),(8,0,[0,1,2,3,4,5,6],ldo 40 3 39),(9,0,[0],opo 41 (.binOp .add 3 (.tmp 38) (.tmp 40) 3)),(10,0,[1,2,3,4,5,6,7,8,9],aso 4 32),(11,0,[],aso 5 41)] 0:=xuk
@[go_sem] theorem t79_6:TK g79_6:=tk
theorem b79:Proofs.Try.f79.body=some (.seq (.region 0 g79_0 false) (.seq (.seq (.region 1 g79_1 false) (.cond (.tmp 17) (.seq (.region 2 g79_2 false) .ret) .skip)) (.seq (.region 3 g79_3 false) (.seq (.seq (.region 4 g79_4 false) (.cond (.tmp 30) (.seq (.region 5 g79_5 false) .ret) .skip)) (.seq (.region 6 g79_6 true) .ret))))):=by kernel_rfl
theorem c79{h:Hd}{ro:Nat}{H:Hp}(a0 a1:AV):callB cx h ro 79 [a0,a1] H=returned cx [(.tmp 4),(.tmp 5)] (ex cx h ro 79 42 (.seq (.region 0 g79_0 false) (.seq (.seq (.region 1 g79_1 false) (.cond (.tmp 17) (.seq (.region 2 g79_2 false) .ret) .skip)) (.seq (.region 3 g79_3 false) (.seq (.seq (.region 4 g79_4 false) (.cond (.tmp 30) (.seq (.region 5 g79_5 false) .ret) .skip)) (.seq (.region 6 g79_6 true) .ret))))) ((PT.nil.set 0 (drp a0)).set 1 (drp a1)) H):=by
 have hf:cx.fns 79=some Proofs.Try.f79:=by kernel_rfl
 simp only[callB,hf,funced,b79,bodied]
 rfl
noncomputable def g80_0:=regAt Proofs.Try.f80 0
@[go_sem] theorem x80_0:XR 80 g80_0 [opo 4 (.box 95 (.tmp 0)),opo 8 (.assign (.const (.int .i64 0))),opo 9 (.assign (.const (.int .i64 0)))]:=xk
@[go_sem] theorem t80_0:TK g80_0:=tk
noncomputable def g80_1:=regAt Proofs.Try.f80 1
@[go_sem] theorem x80_1:XR 80 g80_1 [ldo 11 95 4,mvo 12 1,opo 13 (.call ⟨(.value (.func 138)),#[(.tmp 11),(.tmp 12)],#[95,3]⟩),opo 14 (.unOp .not 4 (.tmp 13)),mvo 15 14,(some 16,(.move (.tmp 3)),some (15,false)),(some 17,(.binOp .lss 3 (.tmp 16) (.const (.int .i64 0)) 3),some (15,false)),opo 18 (.pick (.tmp 15) (.const (.bool true)) (.tmp 17)),mvo 19 18,(some 20,(.move (.tmp 3)),some (19,false)),(some 21,(.fieldAddr 95 (.tmp 4) 0),some (19,false)),(some 22,(.load 93 (.tmp 21)),some (19,false)),(some 23,(.move (.tmp 1)),some (19,false)),(some 24,(.indexAddr 93 (.tmp 22) (.tmp 23)),some (19,false)),(some 25,(.fieldAddr 111 (.tmp 24) 4),some (19,false)),(some 26,(.load 109 (.tmp 25)),some (19,false)),(some 27,(.call ⟨(.builtin .len),#[(.tmp 26)],#[109]⟩),some (19,false)),(some 28,(.binOp .geq 3 (.tmp 20) (.tmp 27) 3),some (19,false)),opo 29 (.pick (.tmp 19) (.const (.bool true)) (.tmp 28))]:=xk
@[go_sem] theorem t80_1:TK g80_1:=tk
noncomputable def g80_2:=regAt Proofs.Try.f80 2
@[go_sem] theorem x80_2:XR 80 g80_2 [opo 8 (.assign (.const (.int .i64 (-1)))),opo 9 (.assign (.const (.int .i64 0)))]:=xk
@[go_sem] theorem t80_2:TK g80_2:=tk
noncomputable def g80_3:=regAt Proofs.Try.f80 3
@[go_sem] theorem x80_3:XR 80 g80_3 [fao 30 95 4 0,ldo 31 93 30,mvo 32 1,iao 33 93 31 32,fao 34 111 33 4,ldo 35 109 34,mvo 36 3,iao 37 109 35 36,ldo 38 108 37,opo 10 (.alloc 108),(none,(.store 108 (.tmp 10) (.tmp 38)),none)]:=xk
@[go_sem] theorem t80_3:TK g80_3:=tk
noncomputable def g80_4:=regAt Proofs.Try.f80 4
@[go_sem] theorem x80_4:XR 80 g80_4 [ldo 39 95 4,fao 40 108 10 0,ldo 41 3 40,mvo 42 2,fao 43 108 10 1,ldo 44 3 43,opo 45 (.binOp .add 3 (.tmp 42) (.tmp 44) 3),opo 46 (.call ⟨(.value (.func 137)),#[(.tmp 39),(.tmp 41),(.tmp 45)],#[95,3,3]⟩),opo 47 (.extract (.tmp 46) 0),opo 48 (.extract (.tmp 46) 1),aso 8 47,aso 9 48]:=xk
@[go_sem] theorem t80_4:TK g80_4:=tk
theorem b80:Proofs.Try.f80.body=some (.seq (.region 0 g80_0 false) (.seq (.seq (.region 1 g80_1 false) (.cond (.tmp 29) (.seq (.region 2 g80_2 false) .ret) .skip)) (.seq (.region 3 g80_3 false) (.seq (.region 4 g80_4 false) .ret)))):=by kernel_rfl
theorem c80{h:Hd}{ro:Nat}{H:Hp}(a0 a1 a2 a3:AV):callB cx h ro 80 [a0,a1,a2,a3] H=returned cx [(.tmp 8),(.tmp 9)] (ex cx h ro 80 49 (.seq (.region 0 g80_0 false) (.seq (.seq (.region 1 g80_1 false) (.cond (.tmp 29) (.seq (.region 2 g80_2 false) .ret) .skip)) (.seq (.region 3 g80_3 false) (.seq (.region 4 g80_4 false) .ret)))) ((((PT.nil.set 0 (drp a0)).set 1 (drp a1)).set 2 (drp a2)).set 3 (drp a3)) H):=by
 have hf:cx.fns 80=some Proofs.Try.f80:=by kernel_rfl
 simp only[callB,hf,funced,b80,bodied]
 rfl
noncomputable def g81_0:=regAt Proofs.Try.f81 0
@[go_sem] theorem x81_0:XR 81 g81_0 [opo 4 (.box 95 (.tmp 0)),opo 8 (.assign (.const (.int .i64 0))),opo 9 (.assign (.const (.int .i64 0)))]:=xk
@[go_sem] theorem t81_0:TK g81_0:=tk
noncomputable def g81_1:=regAt Proofs.Try.f81 1
@[go_sem] theorem x81_1:XR 81 g81_1 [mvo 10 1,opo 11 (.binOp .lss 3 (.tmp 10) (.const (.int .i64 0)) 3),mvo 12 11,(some 13,(.move (.tmp 1)),some (12,false)),(some 14,(.fieldAddr 95 (.tmp 4) 0),some (12,false)),(some 15,(.load 93 (.tmp 14)),some (12,false)),(some 16,(.call ⟨(.builtin .len),#[(.tmp 15)],#[93]⟩),some (12,false)),(some 17,(.binOp .geq 3 (.tmp 13) (.tmp 16) 3),some (12,false)),opo 18 (.pick (.tmp 12) (.const (.bool true)) (.tmp 17)),mvo 19 18,(some 20,(.move (.tmp 3)),some (19,false)),(some 21,(.binOp .lss 3 (.tmp 20) (.const (.int .i64 0)) 3),some (19,false)),opo 22 (.pick (.tmp 19) (.const (.bool true)) (.tmp 21)),mvo 23 22,(some 24,(.move (.tmp 3)),some (23,false)),(some 25,(.fieldAddr 95 (.tmp 4) 0),some (23,false)),(some 26,(.load 93 (.tmp 25)),some (23,false)),(some 27,(.move (.tmp 1)),some (23,false)),(some 28,(.indexAddr 93 (.tmp 26) (.tmp 27)),some (23,false)),(some 29,(.fieldAddr 111 (.tmp 28) 4),some (23,false)),(some 30,(.load 109 (.tmp 29)),some (23,false)),(some 31,(.call ⟨(.builtin .len),#[(.tmp 30)],#[109]⟩),some (23,false)),(some 32,(.binOp .geq 3 (.tmp 24) (.tmp 31) 3),some (23,false)),opo 33 (.pick (.tmp 23) (.const (.bool true)) (.tmp 32))]:=xk
@[go_sem] theorem t81_1:TK g81_1:=tk
noncomputable def g81_2:=regAt Proofs.Try.f81 2
@[go_sem] theorem x81_2:XR 81 g81_2 [opo 8 (.assign (.const (.int .i64 (-1)))),opo 9 (.assign (.const (.int .i64 0)))]:=xk
@[go_sem] theorem t81_2:TK g81_2:=tk
noncomputable def g81_3:=regAt Proofs.Try.f81 3
@[go_sem] theorem x81_3:XUR 81 g81_3 [(0,0,[],ldo 34 95 4),(1,0,[0],fao 35 95 4 0),(2,0,[0],ldo 36 93 35),(3,0,[0,1,2],mvo 37 1),(4,0,[0],iao 38 93 36 37),(5,0,[0],fao 39 111 38 4),(6,0,[0],ldo 40 109 39),(7,0,[0,1,2,3,4,5,6],mvo 41 3),(8,0,[0],iao 42 109 40 41),(9,0,[0],ldo 43 108 42),(10,0,[0,1,2,3,4,5,6,7,8,9],mvo 44 2),(11,0,[],opo 45 (.call ⟨(.value (.func 139)),#[(.tmp 34),(.tmp 43),(.tmp 44)],#[95,108,3]⟩)),(12,0,[],opo 46 (.extract (.tmp 45) 0)),(13,0,[12],opo 47 (.extract (.tmp 45) 1)),(14,0,[],aso 8 46),(15,0,[],aso 9 47)] 0:=xuk
@[go_sem] theorem t81_3:TK g81_3:=tk
theorem b81:Proofs.Try.f81.body=some (.seq (.region 0 g81_0 false) (.seq (.seq (.region 1 g81_1 false) (.cond (.tmp 33) (.seq (.region 2 g81_2 false) .ret) .skip)) (.seq (.region 3 g81_3 true) .ret))):=by kernel_rfl
theorem c81{h:Hd}{ro:Nat}{H:Hp}(a0 a1 a2 a3:AV):callB cx h ro 81 [a0,a1,a2,a3] H=returned cx [(.tmp 8),(.tmp 9)] (ex cx h ro 81 48 (.seq (.region 0 g81_0 false) (.seq (.seq (.region 1 g81_1 false) (.cond (.tmp 33) (.seq (.region 2 g81_2 false) .ret) .skip)) (.seq (.region 3 g81_3 true) .ret))) ((((PT.nil.set 0 (drp a0)).set 1 (drp a1)).set 2 (drp a2)).set 3 (drp a3)) H):=by
 have hf:cx.fns 81=some Proofs.Try.f81:=by kernel_rfl
 simp only[callB,hf,funced,b81,bodied]
 rfl
noncomputable def g82_0:=regAt Proofs.Try.f82 0
@[go_sem] theorem x82_0:XR 82 g82_0 [opo 3 (.box 95 (.tmp 0)),opo 6 (.assign (.const (.int .i64 0))),opo 7 (.assign (.const (.int .i64 0)))]:=xk
@[go_sem] theorem t82_0:TK g82_0:=tk
noncomputable def g82_1:=regAt Proofs.Try.f82 1
@[go_sem] theorem x82_1:XR 82 g82_1 [ldo 9 95 3,mvo 10 1,opo 11 (.call ⟨(.value (.func 138)),#[(.tmp 9),(.tmp 10)],#[95,3]⟩),opo 12 (.unOp .not 4 (.tmp 11)),mvo 13 12,(some 14,(.fieldAddr 95 (.tmp 3) 0),some (13,false)),(some 15,(.load 93 (.tmp 14)),some (13,false)),(some 16,(.move (.tmp 1)),some (13,false)),(some 17,(.indexAddr 93 (.tmp 15) (.tmp 16)),some (13,false)),(some 18,(.fieldAddr 111 (.tmp 17) 2),some (13,false)),(some 19,(.load 4 (.tmp 18)),some (13,false)),(some 20,(.unOp .not 4 (.tmp 19)),some (13,false)),opo 21 (.pick (.tmp 13) (.const (.bool true)) (.tmp 20))]:=xk
@[go_sem] theorem t82_1:TK g82_1:=tk
noncomputable def g82_2:=regAt Proofs.Try.f82 2
@[go_sem] theorem x82_2:XR 82 g82_2 [opo 6 (.assign (.const (.int .i64 (-1)))),opo 7 (.assign (.const (.int .i64 0)))]:=xk
@[go_sem] theorem t82_2:TK g82_2:=tk
noncomputable def g82_3:=regAt Proofs.Try.f82 3
@[go_sem] theorem x82_3:XR 82 g82_3 [fao 22 95 3 0,ldo 23 93 22,mvo 24 1,iao 25 93 23 24,fao 26 111 25 3,ldo 27 108 26,opo 8 (.alloc 108),(none,(.store 108 (.tmp 8) (.tmp 27)),none)]:=xk
@[go_sem] theorem t82_3:TK g82_3:=tk
noncomputable def g82_4:=regAt Proofs.Try.f82 4
@[go_sem] theorem x82_4:XR 82 g82_4 [ldo 28 95 3,fao 29 108 8 0,ldo 30 3 29,mvo 31 2,fao 32 108 8 1,ldo 33 3 32,opo 34 (.binOp .add 3 (.tmp 31) (.tmp 33) 3),opo 35 (.call ⟨(.value (.func 137)),#[(.tmp 28),(.tmp 30),(.tmp 34)],#[95,3,3]⟩),opo 36 (.extract (.tmp 35) 0),opo 37 (.extract (.tmp 35) 1),aso 6 36,aso 7 37]:=xk
@[go_sem] theorem t82_4:TK g82_4:=tk
theorem b82:Proofs.Try.f82.body=some (.seq (.region 0 g82_0 false) (.seq (.seq (.region 1 g82_1 false) (.cond (.tmp 21) (.seq (.region 2 g82_2 false) .ret) .skip)) (.seq (.region 3 g82_3 false) (.seq (.region 4 g82_4 false) .ret)))):=by kernel_rfl
theorem c82{h:Hd}{ro:Nat}{H:Hp}(a0 a1 a2:AV):callB cx h ro 82 [a0,a1,a2] H=returned cx [(.tmp 6),(.tmp 7)] (ex cx h ro 82 38 (.seq (.region 0 g82_0 false) (.seq (.seq (.region 1 g82_1 false) (.cond (.tmp 21) (.seq (.region 2 g82_2 false) .ret) .skip)) (.seq (.region 3 g82_3 false) (.seq (.region 4 g82_4 false) .ret)))) (((PT.nil.set 0 (drp a0)).set 1 (drp a1)).set 2 (drp a2)) H):=by
 have hf:cx.fns 82=some Proofs.Try.f82:=by kernel_rfl
 simp only[callB,hf,funced,b82,bodied]
 rfl
noncomputable def g83_0:=regAt Proofs.Try.f83 0
@[go_sem] theorem x83_0:XR 83 g83_0 [opo 3 (.box 95 (.tmp 0)),opo 6 (.assign (.const (.int .i64 0))),opo 7 (.assign (.const (.int .i64 0)))]:=xk
@[go_sem] theorem t83_0:TK g83_0:=tk
noncomputable def g83_1:=regAt Proofs.Try.f83 1
@[go_sem] theorem x83_1:XR 83 g83_1 [mvo 8 1,opo 9 (.binOp .lss 3 (.tmp 8) (.const (.int .i64 0)) 3),mvo 10 9,(some 11,(.move (.tmp 1)),some (10,false)),(some 12,(.fieldAddr 95 (.tmp 3) 0),some (10,false)),(some 13,(.load 93 (.tmp 12)),some (10,false)),(some 14,(.call ⟨(.builtin .len),#[(.tmp 13)],#[93]⟩),some (10,false)),(some 15,(.binOp .geq 3 (.tmp 11) (.tmp 14) 3),some (10,false)),opo 16 (.pick (.tmp 10) (.const (.bool true)) (.tmp 15)),mvo 17 16,(some 18,(.fieldAddr 95 (.tmp 3) 0),some (17,false)),(some 19,(.load 93 (.tmp 18)),some (17,false)),(some 20,(.move (.tmp 1)),some (17,false)),(some 21,(.indexAddr 93 (.tmp 19) (.tmp 20)),some (17,false)),(some 22,(.fieldAddr 111 (.tmp 21) 2),some (17,false)),(some 23,(.load 4 (.tmp 22)),some (17,false)),(some 24,(.unOp .not 4 (.tmp 23)),some (17,false)),opo 25 (.pick (.tmp 17) (.const (.bool true)) (.tmp 24))]:=xk
@[go_sem] theorem t83_1:TK g83_1:=tk
noncomputable def g83_2:=regAt Proofs.Try.f83 2
@[go_sem] theorem x83_2:XR 83 g83_2 [opo 6 (.assign (.const (.int .i64 (-1)))),opo 7 (.assign (.const (.int .i64 0)))]:=xk
@[go_sem] theorem t83_2:TK g83_2:=tk
noncomputable def g83_3:=regAt Proofs.Try.f83 3
@[go_sem] theorem x83_3:XUR 83 g83_3 [(0,0,[],ldo 26 95 3),(1,0,[0],fao 27 95 3 0),(2,0,[0],ldo 28 93 27),(3,0,[0,1,2],mvo 29 1),(4,0,[0],iao 30 93 28 29),(5,0,[0],fao 31 111 30 3),(6,0,[0],ldo 32 108 31),(7,0,[0,1,2,3,4,5,6],mvo 33 2),(8,0,[],opo 34 (.call ⟨(.value (.func 139)),#[(.tmp 26),(.tmp 32),(.tmp 33)],#[95,108,3]⟩)),(9,0,[],opo 35 (.extract (.tmp 34) 0)),(10,0,[9],opo 36 (.extract (.tmp 34) 1)),(11,0,[],aso 6 35),(12,0,[],aso 7 36)] 0:=xuk
@[go_sem] theorem t83_3:TK g83_3:=tk
theorem b83:Proofs.Try.f83.body=some (.seq (.region 0 g83_0 false) (.seq (.seq (.region 1 g83_1 false) (.cond (.tmp 25) (.seq (.region 2 g83_2 false) .ret) .skip)) (.seq (.region 3 g83_3 true) .ret))):=by kernel_rfl
theorem c83{h:Hd}{ro:Nat}{H:Hp}(a0 a1 a2:AV):callB cx h ro 83 [a0,a1,a2] H=returned cx [(.tmp 6),(.tmp 7)] (ex cx h ro 83 37 (.seq (.region 0 g83_0 false) (.seq (.seq (.region 1 g83_1 false) (.cond (.tmp 25) (.seq (.region 2 g83_2 false) .ret) .skip)) (.seq (.region 3 g83_3 true) .ret))) (((PT.nil.set 0 (drp a0)).set 1 (drp a1)).set 2 (drp a2)) H):=by
 have hf:cx.fns 83=some Proofs.Try.f83:=by kernel_rfl
 simp only[callB,hf,funced,b83,bodied]
 rfl
noncomputable def g137_0:=regAt Proofs.Try.f137 0
@[go_sem] theorem x137_0:XR 137 g137_0 [opo 3 (.box 95 (.tmp 0)),opo 6 (.assign (.const (.int .i64 0))),opo 7 (.assign (.const (.int .i64 0)))]:=xk
@[go_sem] theorem t137_0:TK g137_0:=tk
noncomputable def g137_1:=regAt Proofs.Try.f137 1
@[go_sem] theorem x137_1:XR 137 g137_1 [fao 8 95 3 0,ldo 9 93 8,mvo 10 1,iao 11 93 9 10,fao 12 111 11 0,ldo 13 3 12,opo 14 (.binOp .eql 3 (.tmp 13) (.const (.int .i64 0)) 3)]:=xk
@[go_sem] theorem t137_1:TK g137_1:=tk
noncomputable def g137_2:=regAt Proofs.Try.f137 2
@[go_sem] theorem x137_2:XR 137 g137_2 [opo 2 (.assign (.const (.int .i64 0)))]:=xk
@[go_sem] theorem t137_2:TK g137_2:=tk
noncomputable def g137_3:=regAt Proofs.Try.f137 3
@[go_sem] theorem x137_3:XR 137 g137_3 [mvo 15 1,mvo 16 2,aso 6 15,aso 7 16]:=xk
@[go_sem] theorem t137_3:TK g137_3:=tk
theorem b137:Proofs.Try.f137.body=some (.seq (.region 0 g137_0 false) (.seq (.seq (.region 1 g137_1 false) (.cond (.tmp 14) (.region 2 g137_2 false) .skip)) (.seq (.region 3 g137_3 false) .ret))):=by kernel_rfl
theorem c137{h:Hd}{ro:Nat}{H:Hp}(a0 a1 a2:AV):callB cx h ro 137 [a0,a1,a2] H=returned cx [(.tmp 6),(.tmp 7)] (ex cx h ro 137 17 (.seq (.region 0 g137_0 false) (.seq (.seq (.region 1 g137_1 false) (.cond (.tmp 14) (.region 2 g137_2 false) .skip)) (.seq (.region 3 g137_3 false) .ret))) (((PT.nil.set 0 (drp a0)).set 1 (drp a1)).set 2 (drp a2)) H):=by
 have hf:cx.fns 137=some Proofs.Try.f137:=by kernel_rfl
 simp only[callB,hf,funced,b137,bodied]
 rfl
noncomputable def g138_0:=regAt Proofs.Try.f138 0
@[go_sem] theorem x138_0:XR 138 g138_0 [opo 2 (.box 95 (.tmp 0)),opo 4 (.assign (.const (.bool false)))]:=xk
@[go_sem] theorem t138_0:TK g138_0:=tk
noncomputable def g138_1:=regAt Proofs.Try.f138 1
@[go_sem] theorem x138_1:XR 138 g138_1 [mvo 5 1,opo 6 (.binOp .geq 3 (.tmp 5) (.const (.int .i64 0)) 3),mvo 7 6,(some 8,(.move (.tmp 1)),some (7,true)),(some 9,(.fieldAddr 95 (.tmp 2) 0),some (7,true)),(some 10,(.load 93 (.tmp 9)),some (7,true)),(some 11,(.call ⟨(.builtin .len),#[(.tmp 10)],#[93]⟩),some (7,true)),(some 12,(.binOp .lss 3 (.tmp 8) (.tmp 11) 3),some (7,true)),opo 13 (.pick (.tmp 7) (.tmp 12) (.const (.bool false))),aso 4 13]:=xk
@[go_sem] theorem t138_1:TK g138_1:=tk
theorem b138:Proofs.Try.f138.body=some (.seq (.region 0 g138_0 false) (.seq (.region 1 g138_1 false) .ret)):=by kernel_rfl
theorem c138{h:Hd}{ro:Nat}{H:Hp}(a0 a1:AV):callB cx h ro 138 [a0,a1] H=returned cx [(.tmp 4)] (ex cx h ro 138 14 (.seq (.region 0 g138_0 false) (.seq (.region 1 g138_1 false) .ret)) ((PT.nil.set 0 (drp a0)).set 1 (drp a1)) H):=by
 have hf:cx.fns 138=some Proofs.Try.f138:=by kernel_rfl
 simp only[callB,hf,funced,b138,bodied]
 rfl
noncomputable def g139_0:=regAt Proofs.Try.f139 0
@[go_sem] theorem x139_0:XR 139 g139_0 [opo 3 (.box 95 (.tmp 0)),opo 4 (.box 108 (.tmp 1)),opo 6 (.assign (.const (.int .i64 0))),opo 7 (.assign (.const (.int .i64 0)))]:=xk
@[go_sem] theorem t139_0:TK g139_0:=tk
noncomputable def g139_1:=regAt Proofs.Try.f139 1
@[go_sem] theorem x139_1:XR 139 g139_1 [fao 8 95 3 0,ldo 9 93 8,fao 10 108 4 0,ldo 11 3 10,iao 12 93 9 11,fao 13 111 12 0,ldo 14 3 13,opo 15 (.binOp .eql 3 (.tmp 14) (.const (.int .i64 0)) 3)]:=xk
@[go_sem] theorem t139_1:TK g139_1:=tk
noncomputable def g139_2:=regAt Proofs.Try.f139 2
@[go_sem] theorem x139_2:XR 139 g139_2 [fao 16 108 4 0,ldo 17 3 16,aso 6 17,opo 7 (.assign (.const (.int .i64 0)))]:=xk
@[go_sem] theorem t139_2:TK g139_2:=tk
noncomputable def g139_3:=regAt Proofs.Try.f139 3
@[go_sem] theorem x139_3:XUR 139 g139_3 [(0,0,[],fao 18 108 4 0),(1,0,[],ldo 19 3 18),(2,0,[0,1],mvo 20 2),(3,0,[0,1,2],fao 21 108 4 1),(4,0,[0,1,2],ldo 22 3 21),(5,0,[0,1],opo 23 (.binOp .add 3 (.tmp 20) (.tmp 22) 3)),(6,0,[2,3,4,5],aso 6 19),(7,0,[],aso 7 23)] 0:=xuk
@[go_sem] theorem t139_3:TK g139_3:=tk
theorem b139:Proofs.Try.f139.body=some (.seq (.region 0 g139_0 false) (.seq (.seq (.region 1 g139_1 false) (.cond (.tmp 15) (.seq (.region 2 g139_2 false) .ret) .skip)) (.seq (.region 3 g139_3 true) .ret))):=by kernel_rfl
theorem c139{h:Hd}{ro:Nat}{H:Hp}(a0 a1 a2:AV):callB cx h ro 139 [a0,a1,a2] H=returned cx [(.tmp 6),(.tmp 7)] (ex cx h ro 139 24 (.seq (.region 0 g139_0 false) (.seq (.seq (.region 1 g139_1 false) (.cond (.tmp 15) (.seq (.region 2 g139_2 false) .ret) .skip)) (.seq (.region 3 g139_3 true) .ret))) (((PT.nil.set 0 (drp a0)).set 1 (drp a1)).set 2 (drp a2)) H):=by
 have hf:cx.fns 139=some Proofs.Try.f139:=by kernel_rfl
 simp only[callB,hf,funced,b139,bodied]
 rfl
end Go.Abs.Tab
