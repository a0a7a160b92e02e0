/- Codes of this seat's functions, their regions step by step. (Printed by a program.) -/
import Derived.Test.YtiinagmombigpaaEvY
import Derived.Test.YtiinagmombigpaaFnA
set_option linter.unnecessarySimpa false
set_option linter.unusedSimpArgs false
set_option linter.unusedVariables false
namespace Go.Abs.Tab
noncomputable def g19_0:=regAt Proofs.Try.f19 0
@[go_sem] theorem x19_0:XR 19 g19_0 [opo 5 (.box 63 (.tmp 2)),opo 6 (.assign (.const (.bool false)))]:=xk
@[go_sem] theorem t19_0:TK g19_0:=tk
noncomputable def g19_1:=regAt Proofs.Try.f19 1
@[go_sem] theorem x19_1:XR 19 g19_1 [mvo 15 0,opo 16 (.call ⟨(.value (.func 63)),#[(.tmp 15)],#[56]⟩),aso 0 16]:=xk
@[go_sem] theorem t19_1:TK g19_1:=tk
noncomputable def g19_2:=regAt Proofs.Try.f19 2
@[go_sem] theorem x19_2:XR 19 g19_2 [mvo 18 0,opo 19 (.call ⟨(.value (.func 67)),#[(.tmp 18)],#[56]⟩),mvo 17 19,opo 20 (.extract (.tmp 17) 0),opo 21 (.extract (.tmp 17) 1),aso 7 20,aso 8 21]:=xk
@[go_sem] theorem t19_2:TK g19_2:=tk
noncomputable def g19_3:=regAt Proofs.Try.f19 3
@[go_sem] theorem x19_3:XR 19 g19_3 [mvo 23 0,opo 24 (.call ⟨(.value (.func 68)),#[(.tmp 23)],#[56]⟩),mvo 22 24,opo 25 (.extract (.tmp 22) 0),opo 26 (.extract (.tmp 22) 1),aso 9 25,aso 10 26]:=xk
@[go_sem] theorem t19_3:TK g19_3:=tk
noncomputable def g19_4:=regAt Proofs.Try.f19 4
@[go_sem] theorem x19_4:XR 19 g19_4 [mvo 28 0,mvo 29 1,ldo 30 63 5,opo 31 (.call ⟨(.value (.func 69)),#[(.tmp 28),(.tmp 29),(.tmp 30)],#[56,3,63]⟩),mvo 27 31,opo 32 (.extract (.tmp 27) 0),opo 33 (.extract (.tmp 27) 1),aso 11 32,aso 12 33]:=xk
@[go_sem] theorem t19_4:TK g19_4:=tk
noncomputable def g19_5:=regAt Proofs.Try.f19 5
@[go_sem] theorem x19_5:XR 19 g19_5 [mvo 35 0,mvo 36 1,ldo 37 63 5,opo 38 (.call ⟨(.value (.func 70)),#[(.tmp 35),(.tmp 36),(.tmp 37)],#[56,3,63]⟩),mvo 34 38,opo 39 (.extract (.tmp 34) 0),opo 40 (.extract (.tmp 34) 1),aso 13 39,aso 14 40]:=xk
@[go_sem] theorem t19_5:TK g19_5:=tk
noncomputable def g19_6:=regAt Proofs.Try.f19 6
@[go_sem] theorem x19_6:XR 19 g19_6 [mvo 41 7,mvo 42 9,opo 43 (.binOp .eql 3 (.tmp 41) (.tmp 42) 3),mvo 44 43,(some 45,(.move (.tmp 8)),some (44,true)),(some 46,(.move (.tmp 10)),some (44,true)),(some 47,(.binOp .eql 27 (.tmp 45) (.tmp 46) 27),some (44,true)),opo 48 (.pick (.tmp 44) (.tmp 47) (.const (.bool false))),mvo 49 48,(some 50,(.move (.tmp 11)),some (49,true)),(some 51,(.move (.tmp 13)),some (49,true)),(some 52,(.binOp .eql 3 (.tmp 50) (.tmp 51) 3),some (49,true)),opo 53 (.pick (.tmp 49) (.tmp 52) (.const (.bool false))),mvo 54 53,(some 55,(.move (.tmp 12)),some (54,true)),(some 56,(.move (.tmp 14)),some (54,true)),(some 57,(.binOp .eql 4 (.tmp 55) (.tmp 56) 4),some (54,true)),opo 58 (.pick (.tmp 54) (.tmp 57) (.const (.bool false))),mvo 59 58,(some 60,(.call ⟨(.value (.func 66)),#[],#[]⟩),some (59,true)),opo 61 (.pick (.tmp 59) (.tmp 60) (.const (.bool false))),aso 6 61]:=xk
@[go_sem] theorem t19_6:TK g19_6:=tk
theorem b19:Proofs.Try.f19.body=some (.seq (.region 0 g19_0 false) (.seq (.region 1 g19_1 false) (.seq (.region 2 g19_2 false) (.seq (.region 3 g19_3 false) (.seq (.region 4 g19_4 false) (.seq (.region 5 g19_5 false) (.seq (.region 6 g19_6 false) .ret))))))):=by kernel_rfl
theorem c19{h:Hd}{ro:Nat}{H:Hp}(a0 a1 a2:AV):callB cx h ro 19 [a0,a1,a2] H=returned cx [(.tmp 6)] (ex cx h ro 19 62 (.seq (.region 0 g19_0 false) (.seq (.region 1 g19_1 false) (.seq (.region 2 g19_2 false) (.seq (.region 3 g19_3 false) (.seq (.region 4 g19_4 false) (.seq (.region 5 g19_5 false) (.seq (.region 6 g19_6 false) .ret))))))) (((PT.nil.set 0 (drp a0)).set 1 (drp a1)).set 2 (drp a2)) H):=by
 have hf:cx.fns 19=some Proofs.Try.f19:=by kernel_rfl
 simp only[callB,hf,funced,b19,bodied]
 rfl
noncomputable def g72_0:=regAt Proofs.Try.f72 0
@[go_sem] theorem x72_0:XR 72 g72_0 [opo 2 (.assign (.const (.slice none 0 0)))]:=xk
@[go_sem] theorem t72_0:TK g72_0:=tk
noncomputable def g72_1:=regAt Proofs.Try.f72 1
@[go_sem] theorem x72_1:XR 72 g72_1 [opo 3 (.assign (.const (.slice none 0 0)))]:=xk
@[go_sem] theorem t72_1:TK g72_1:=tk
noncomputable def g72_2:=regAt Proofs.Try.f72 2
@[go_sem] theorem x72_2:XR 72 g72_2 [opo 4 (.assign (.const (.int .i64 0)))]:=xk
@[go_sem] theorem t72_2:TK g72_2:=tk
noncomputable def g72_3:=regAt Proofs.Try.f72 3
@[go_sem] theorem x72_3:XR 72 g72_3 [mvo 6 4,mvo 7 0,opo 8 (.call ⟨(.builtin .len),#[(.tmp 7)],#[56]⟩),opo 9 (.binOp .lss 3 (.tmp 6) (.tmp 8) 3),mvo 10 9,(some 11,(.move (.tmp 4)),some (10,true)),(some 12,(.binOp .lss 3 (.tmp 11) (.const (.int .i64 10)) 3),some (10,true)),opo 13 (.pick (.tmp 10) (.tmp 12) (.const (.bool false)))]:=xk
@[go_sem] theorem t72_3:TK g72_3:=tk
noncomputable def g72_4:=regAt Proofs.Try.f72 4
@[go_sem] theorem x72_4:XR 72 g72_4 [mvo 16 0,mvo 17 4,iao 18 56 16 17,ldo 19 66 18,opo 5 (.alloc 66),(none,(.store 66 (.tmp 5) (.tmp 19)),none)]:=xk
@[go_sem] theorem t72_4:TK g72_4:=tk
noncomputable def g72_5:=regAt Proofs.Try.f72 5
@[go_sem] theorem x72_5:XR 72 g72_5 [fao 20 66 5 4,ldo 21 64 20,fao 22 66 5 4,ldo 23 64 22,opo 24 (.call ⟨(.builtin .len),#[(.tmp 23)],#[64]⟩),opo 25 (.call ⟨(.builtin .min),#[(.tmp 24),(.const (.int .i64 9))],#[3,3]⟩),opo 26 (.slice 64 (.tmp 21) none (some (.tmp 25)) none),fao 27 66 5 4,(none,(.store 64 (.tmp 27) (.tmp 26)),none)]:=xk
@[go_sem] theorem t72_5:TK g72_5:=tk
noncomputable def g72_6:=regAt Proofs.Try.f72 6
@[go_sem] theorem x72_6:XR 72 g72_6 [mvo 28 3,ldo 29 66 5,opo 30 (.buildSlice 56 1 #[(0,(.tmp 29))]),opo 31 (.call ⟨(.builtin .append),#[(.tmp 28),(.tmp 30)],#[56,56]⟩),aso 3 31]:=xk
@[go_sem] theorem t72_6_28:takes g72_6 28=true:=nk
@[go_sem] theorem t72_6_29:takes g72_6 29=false:=nk
@[go_sem] theorem t72_6_30:takes g72_6 30=false:=nk
@[go_sem] theorem t72_6_31:takes g72_6 31=false:=nk
@[go_sem] theorem t72_6_3:takes g72_6 3=false:=nk
noncomputable def g72_7:=regAt Proofs.Try.f72 7
@[go_sem] theorem x72_7:XR 72 g72_7 [mvo 14 4,opo 15 (.binOp .add 3 (.tmp 14) (.const (.int .i64 1)) 3),aso 4 15]:=xk
@[go_sem] theorem t72_7:TK g72_7:=tk
noncomputable def g72_8:=regAt Proofs.Try.f72 8
@[go_sem] theorem x72_8:XR 72 g72_8 [mvo 32 3,aso 2 32]:=xk
@[go_sem] theorem t72_8:TK g72_8:=tk
noncomputable def l72_0:Code:=(.seq (.seq (.region 3 g72_3 false) (.cond (.tmp 13) .skip (.exit 0))) (.seq (.block 1 (.seq (.region 5 g72_4 false) (.seq (.region 6 g72_5 false) (.region 7 g72_6 false)))) (.region 4 g72_7 false)))
theorem dl72_0{ro nt:Nat}{fr:PT}{H:Hp}:(den cx).loop ro 72 nt l72_0 fr H=xbind (ex cx (den cx) ro 72 nt (.seq (.seq (.region 3 g72_3 false) (.cond (.tmp 13) .skip (.exit 0))) (.seq (.block 1 (.seq (.region 5 g72_4 false) (.seq (.region 6 g72_5 false) (.region 7 g72_6 false)))) (.region 4 g72_7 false))) fr H) (contR (trimmed ((den cx).loop ro 72 nt l72_0) H.length)):=den_loop_x l72_0
theorem b72:Proofs.Try.f72.body=some (.seq (.region 0 g72_0 false) (.seq (.region 1 g72_1 false) (.seq (.seq (.region 2 g72_2 false) (.block 0 (.loop l72_0))) (.seq (.region 8 g72_8 false) .ret)))):=by kernel_rfl
theorem c72{h:Hd}{ro:Nat}{H:Hp}(a0:AV):callB cx h ro 72 [a0] H=returned cx [(.tmp 2)] (ex cx h ro 72 33 (.seq (.region 0 g72_0 false) (.seq (.region 1 g72_1 false) (.seq (.seq (.region 2 g72_2 false) (.block 0 (.loop l72_0))) (.seq (.region 8 g72_8 false) .ret)))) (PT.nil.set 0 (drp a0)) H):=by
 have hf:cx.fns 72=some Proofs.Try.f72:=by kernel_rfl
 simp only[callB,hf,funced,b72,bodied]
 rfl
noncomputable def g76_0:=regAt Proofs.Try.f76 0
@[go_sem] theorem x76_0:XR 76 g76_0 [opo 0 (.assign (.const (.bool false)))]:=xk
@[go_sem] theorem t76_0:TK g76_0:=tk
noncomputable def g76_1:=regAt Proofs.Try.f76 1
@[go_sem] theorem x76_1:XR 76 g76_1 [opo 10 (.call ⟨(.value (.func 84)),#[(.const (.int .i64 1)),(.const (.int .i64 0)),(.const (.int .i64 1)),(.const (.int .i64 0))],#[3,3,3,3]⟩),opo 11 (.build 66 #[]),opo 12 (.buildSlice 56 2 #[(0,(.tmp 10)),(1,(.tmp 11))]),opo 13 (.call ⟨(.value (.func 73)),#[(.tmp 12)],#[56]⟩),mvo 9 13,opo 14 (.extract (.tmp 9) 0),opo 15 (.extract (.tmp 9) 1),opo 1 (.alloc 95),(none,(.store 95 (.tmp 1) (.tmp 14)),none),aso 2 15]:=xk
@[go_sem] theorem t76_1:TK g76_1:=tk
noncomputable def g76_2:=regAt Proofs.Try.f76 2
@[go_sem] theorem x76_2:XR 76 g76_2 [opo 17 (.call ⟨(.value (.func 84)),#[(.const (.int .i64 1)),(.const (.int .i64 0)),(.const (.int .i64 1)),(.const (.int .i64 0))],#[3,3,3,3]⟩),opo 18 (.call ⟨(.value (.func 84)),#[(.const (.int .i64 2)),(.const (.int .i64 1)),(.const (.int .i64 0)),(.const (.int .i64 3))],#[3,3,3,3]⟩),opo 19 (.call ⟨(.value (.func 84)),#[(.const (.int .i64 1)),(.const (.int .i64 5)),(.const (.int .i64 3)),(.const (.int .i64 0))],#[3,3,3,3]⟩),opo 20 (.call ⟨(.value (.func 84)),#[(.const (.int .i64 2)),(.const (.int .i64 6)),(.const (.int .i64 2)),(.const (.int .i64 3))],#[3,3,3,3]⟩),opo 21 (.buildSlice 56 4 #[(0,(.tmp 17)),(1,(.tmp 18)),(2,(.tmp 19)),(3,(.tmp 20))]),opo 22 (.call ⟨(.value (.func 73)),#[(.tmp 21)],#[56]⟩),mvo 16 22,opo 23 (.extract (.tmp 16) 0),opo 24 (.extract (.tmp 16) 1),opo 3 (.alloc 95),(none,(.store 95 (.tmp 3) (.tmp 23)),none),aso 4 24]:=xk
@[go_sem] theorem t76_2:TK g76_2:=tk
noncomputable def g76_3:=regAt Proofs.Try.f76 3
@[go_sem] theorem x76_3:XR 76 g76_3 [opo 26 (.call ⟨(.value (.func 84)),#[(.const (.int .i64 1)),(.const (.int .i64 0)),(.const (.int .i64 1)),(.const (.int .i64 0))],#[3,3,3,3]⟩),opo 27 (.call ⟨(.value (.func 84)),#[(.const (.int .i64 2)),(.const (.int .i64 1)),(.const (.int .i64 0)),(.const (.int .i64 2))],#[3,3,3,3]⟩),opo 28 (.buildSlice 56 2 #[(0,(.tmp 26)),(1,(.tmp 27))]),opo 29 (.call ⟨(.value (.func 73)),#[(.tmp 28)],#[56]⟩),mvo 25 29,opo 30 (.extract (.tmp 25) 0),opo 31 (.extract (.tmp 25) 1),opo 5 (.alloc 95),(none,(.store 95 (.tmp 5) (.tmp 30)),none),aso 6 31]:=xk
@[go_sem] theorem t76_3:TK g76_3:=tk
noncomputable def g76_4:=regAt Proofs.Try.f76 4
@[go_sem] theorem x76_4:XR 76 g76_4 [opo 33 (.call ⟨(.value (.func 84)),#[(.const (.int .i64 1)),(.const (.int .i64 0)),(.const (.int .i64 0)),(.const (.int .i64 1))],#[3,3,3,3]⟩),opo 34 (.call ⟨(.value (.func 84)),#[(.const (.int .i64 1)),(.const (.int .i64 0)),(.const (.int .i64 0)),(.const (.int .i64 2))],#[3,3,3,3]⟩),opo 35 (.build 66 #[]),opo 36 (.buildSlice 56 3 #[(0,(.tmp 33)),(1,(.tmp 34)),(2,(.tmp 35))]),opo 37 (.call ⟨(.value (.func 73)),#[(.tmp 36)],#[56]⟩),mvo 32 37,opo 38 (.extract (.tmp 32) 0),opo 39 (.extract (.tmp 32) 1),opo 7 (.alloc 95),(none,(.store 95 (.tmp 7) (.tmp 38)),none),aso 8 39]:=xk
@[go_sem] theorem t76_4:TK g76_4:=tk
noncomputable def g76_5:=regAt Proofs.Try.f76 5
@[go_sem] theorem x76_5:XR 76 g76_5 [mvo 40 2,opo 41 (.binOp .neq 27 (.tmp 40) (.const (.int .i64 0)) 27),mvo 42 41,(some 43,(.move (.tmp 4)),some (42,false)),(some 44,(.binOp .neq 27 (.tmp 43) (.const (.int .i64 0)) 27),some (42,false)),opo 45 (.pick (.tmp 42) (.const (.bool true)) (.tmp 44)),mvo 46 45,(some 47,(.move (.tmp 8)),some (46,false)),(some 48,(.binOp .neq 27 (.tmp 47) (.const (.int .i64 0)) 27),some (46,false)),opo 49 (.pick (.tmp 46) (.const (.bool true)) (.tmp 48)),mvo 50 49,(some 51,(.move (.tmp 6)),some (50,false)),(some 52,(.binOp .neq 27 (.tmp 51) (.const (.int .i64 0)) 27),some (50,false)),opo 53 (.pick (.tmp 50) (.const (.bool true)) (.tmp 52)),mvo 54 53,(some 55,(.fieldAddr 95 (.tmp 1) 0),some (54,false)),(some 56,(.load 93 (.tmp 55)),some (54,false)),(some 57,(.call ⟨(.builtin .len),#[(.tmp 56)],#[93]⟩),some (54,false)),(some 58,(.binOp .neq 3 (.tmp 57) (.const (.int .i64 3)) 3),some (54,false)),opo 59 (.pick (.tmp 54) (.const (.bool true)) (.tmp 58)),mvo 60 59,(some 61,(.fieldAddr 95 (.tmp 3) 2),some (60,false)),(some 62,(.load 31 (.tmp 61)),some (60,false)),(some 63,(.call ⟨(.builtin .len),#[(.tmp 62)],#[31]⟩),some (60,false)),(some 64,(.binOp .neq 3 (.tmp 63) (.const (.int .i64 8)) 3),some (60,false)),opo 65 (.pick (.tmp 60) (.const (.bool true)) (.tmp 64))]:=xk
@[go_sem] theorem t76_5:TK g76_5:=tk
noncomputable def g76_6:=regAt Proofs.Try.f76 6
@[go_sem] theorem x76_6:XR 76 g76_6 [opo 0 (.assign (.const (.bool false)))]:=xk
@[go_sem] theorem t76_6:TK g76_6:=tk
noncomputable def g76_7:=regAt Proofs.Try.f76 7
@[go_sem] theorem x76_7:XUR 76 g76_7 [(0,0,[],ldo 66 95 1),(1,0,[0],opo 67 (.buildSlice 31 4 #[(0,(.const (.int .i64 0))),(1,(.const (.int .i64 1))),(2,(.const (.int .i64 2))),(3,(.const (.int .i64 1)))])),(2,0,[],opo 68 (.call ⟨(.value (.func 136)),#[(.tmp 66),(.tmp 67)],#[95,31]⟩)),(3,0,[],mvo 69 68),(4,0,[],(some 70,(.fieldAddr 95 (.tmp 1) 0),some (69,true))),(5,0,[],(some 71,(.load 93 (.tmp 70)),some (69,true))),(6,0,[],(some 72,(.indexAddr 93 (.tmp 71) (.const (.int .i64 0))),some (69,true))),(7,0,[],(some 73,(.fieldAddr 111 (.tmp 72) 0),some (69,true))),(8,0,[],(some 74,(.load 3 (.tmp 73)),some (69,true))),(9,0,[],(some 75,(.binOp .eql 3 (.tmp 74) (.const (.int .i64 1)) 3),some (69,true))),(10,0,[],opo 76 (.pick (.tmp 69) (.tmp 75) (.const (.bool false)))),(11,0,[],mvo 77 76),(12,0,[],(some 78,(.fieldAddr 95 (.tmp 1) 0),some (77,true))),(13,0,[],(some 79,(.load 93 (.tmp 78)),some (77,true))),(14,0,[],(some 80,(.indexAddr 93 (.tmp 79) (.const (.int .i64 1))),some (77,true))),(15,0,[],(some 81,(.fieldAddr 111 (.tmp 80) 0),some (77,true))),(16,0,[],(some 82,(.load 3 (.tmp 81)),some (77,true))),(17,0,[],(some 83,(.binOp .eql 3 (.tmp 82) (.const (.int .i64 0)) 3),some (77,true))),(18,0,[],opo 84 (.pick (.tmp 77) (.tmp 83) (.const (.bool false)))),(19,0,[],mvo 85 84),(20,0,[],(some 86,(.fieldAddr 95 (.tmp 1) 0),some (85,true))),(21,0,[],(some 87,(.load 93 (.tmp 86)),some (85,true))),(22,0,[],(some 88,(.indexAddr 93 (.tmp 87) (.const (.int .i64 2))),some (85,true))),(23,0,[],(some 89,(.fieldAddr 111 (.tmp 88) 0),some (85,true))),(24,0,[],(some 90,(.load 3 (.tmp 89)),some (85,true))),(25,0,[],(some 91,(.binOp .eql 3 (.tmp 90) (.const (.int .i64 2)) 3),some (85,true))),(26,0,[],opo 92 (.pick (.tmp 85) (.tmp 91) (.const (.bool false)))),(27,0,[],mvo 93 92),(28,0,[],(some 94,(.load 95 (.tmp 3)),some (93,true))),(29,0,[28],(some 95,(.buildSlice 31 8 #[(0,(.const (.int .i64 0))),(1,(.const (.int .i64 1))),(2,(.const (.int .i64 0))),(3,(.const (.int .i64 1))),(4,(.const (.int .i64 2))),(5,(.const (.int .i64 3))),(6,(.const (.int .i64 2))),(7,(.const (.int .i64 3)))]),some (93,true))),(30,0,[],(some 96,(.call ⟨(.value (.func 136)),#[(.tmp 94),(.tmp 95)],#[95,31]⟩),some (93,true))),(31,0,[],opo 97 (.pick (.tmp 93) (.tmp 96) (.const (.bool false)))),(32,0,[],mvo 98 97),(33,0,[],(some 99,(.load 95 (.tmp 5)),some (98,true))),(34,0,[33],(some 100,(.buildSlice 31 4 #[(0,(.const (.int .i64 0))),(1,(.const (.int .i64 1))),(2,(.const (.int .i64 1))),(3,(.const (.int .i64 0)))]),some (98,true))),(35,0,[],(some 101,(.call ⟨(.value (.func 136)),#[(.tmp 99),(.tmp 100)],#[95,31]⟩),some (98,true))),(36,0,[],opo 102 (.pick (.tmp 98) (.tmp 101) (.const (.bool false)))),(37,0,[],mvo 103 102),(38,0,[],(some 104,(.fieldAddr 95 (.tmp 3) 2),some (103,true))),(39,0,[],(some 105,(.load 31 (.tmp 104)),some (103,true))),(40,0,[],(some 106,(.indexAddr 31 (.tmp 105) (.const (.int .i64 0))),some (103,true))),(41,0,[],(some 107,(.load 3 (.tmp 106)),some (103,true))),(42,0,[],(some 108,(.binOp .eql 3 (.tmp 107) (.const (.int .i64 0)) 3),some (103,true))),(43,0,[],opo 109 (.pick (.tmp 103) (.tmp 108) (.const (.bool false)))),(44,0,[],mvo 110 109),(45,0,[],(some 111,(.fieldAddr 95 (.tmp 3) 2),some (110,true))),(46,0,[],(some 112,(.load 31 (.tmp 111)),some (110,true))),(47,0,[],(some 113,(.indexAddr 31 (.tmp 112) (.const (.int .i64 2))),some (110,true))),(48,0,[],(some 114,(.load 3 (.tmp 113)),some (110,true))),(49,0,[],(some 115,(.binOp .eql 3 (.tmp 114) (.const (.int .i64 5)) 3),some (110,true))),(50,0,[],opo 116 (.pick (.tmp 110) (.tmp 115) (.const (.bool false)))),(51,0,[],mvo 117 116),(52,0,[],(some 118,(.fieldAddr 95 (.tmp 7) 1),some (117,true))),(53,0,[],(some 119,(.load 31 (.tmp 118)),some (117,true))),(54,0,[],(some 120,(.call ⟨(.builtin .len),#[(.tmp 119)],#[31]⟩),some (117,true))),(55,0,[],(some 121,(.binOp .eql 3 (.tmp 120) (.const (.int .i64 6)) 3),some (117,true))),(56,0,[],opo 122 (.pick (.tmp 117) (.tmp 121) (.const (.bool false)))),(57,0,[],mvo 123 122),(58,0,[],(some 124,(.fieldAddr 95 (.tmp 7) 1),some (123,true))),(59,0,[],(some 125,(.load 31 (.tmp 124)),some (123,true))),(60,0,[],(some 126,(.indexAddr 31 (.tmp 125) (.const (.int .i64 0))),some (123,true))),(61,0,[],(some 127,(.load 3 (.tmp 126)),some (123,true))),(62,0,[58,59,60,61],(some 128,(.fieldAddr 95 (.tmp 7) 1),some (123,true))),(63,0,[58,59,60,61],(some 129,(.load 31 (.tmp 128)),some (123,true))),(64,0,[58,59,60,61],(some 130,(.indexAddr 31 (.tmp 129) (.const (.int .i64 1))),some (123,true))),(65,0,[58,59,60,61],(some 131,(.load 3 (.tmp 130)),some (123,true))),(66,0,[],(some 132,(.binOp .neq 3 (.tmp 127) (.tmp 131) 3),some (123,true))),(67,0,[],opo 133 (.pick (.tmp 123) (.tmp 132) (.const (.bool false)))),(68,0,[],aso 0 133)] 0:=xuk
@[go_sem] theorem t76_7:TK g76_7:=tk
theorem b76:Proofs.Try.f76.body=some (.seq (.region 0 g76_0 false) (.seq (.region 1 g76_1 false) (.seq (.region 2 g76_2 false) (.seq (.region 3 g76_3 false) (.seq (.region 4 g76_4 false) (.seq (.seq (.region 5 g76_5 false) (.cond (.tmp 65) (.seq (.region 6 g76_6 false) .ret) .skip)) (.seq (.region 7 g76_7 true) .ret))))))):=by kernel_rfl
theorem c76{h:Hd}{ro:Nat}{H:Hp}:callB cx h ro 76 [] H=returned cx [(.tmp 0)] (ex cx h ro 76 134 (.seq (.region 0 g76_0 false) (.seq (.region 1 g76_1 false) (.seq (.region 2 g76_2 false) (.seq (.region 3 g76_3 false) (.seq (.region 4 g76_4 false) (.seq (.seq (.region 5 g76_5 false) (.cond (.tmp 65) (.seq (.region 6 g76_6 false) .ret) .skip)) (.seq (.region 7 g76_7 true) .ret))))))) PT.nil H):=by
 have hf:cx.fns 76=some Proofs.Try.f76:=by kernel_rfl
 simp only[callB,hf,funced,b76,bodied]
 rw[if_pos (of_decide_eq_true (by kernel_rfl))]
 rfl
noncomputable def g84_0:=regAt Proofs.Try.f84 0
@[go_sem] theorem x84_0:XR 84 g84_0 [opo 8 (.alloc 66)]:=xk
@[go_sem] theorem t84_0:TK g84_0:=tk
noncomputable def g84_1:=regAt Proofs.Try.f84 1
@[go_sem] theorem x84_1:XR 84 g84_1 [mvo 9 0,mvo 10 1,mvo 11 2,mvo 12 3,opo 13 (.build 63 #[(0,(.tmp 11)),(1,(.tmp 12))]),opo 14 (.buildSlice 64 1 #[(0,(.tmp 13))]),opo 15 (.build 66 #[(0,(.tmp 9)),(1,(.tmp 10)),(4,(.tmp 14))]),(none,(.store 66 (.tmp 8) (.tmp 15)),none)]:=xk
@[go_sem] theorem t84_1:TK g84_1:=tk
theorem b84:Proofs.Try.f84.body=some (.seq (.region 0 g84_0 false) (.seq (.region 1 g84_1 false) .ret)):=by kernel_rfl
theorem c84{h:Hd}{ro:Nat}{H:Hp}(a0 a1 a2 a3:AV):callB cx h ro 84 [a0,a1,a2,a3] H=returned cx [(.cell 8 66)] (ex cx h ro 84 16 (.seq (.region 0 g84_0 false) (.seq (.region 1 g84_1 false) .ret)) ((((PT.nil.set 0 (drp a0)).set 1 (drp a1)).set 2 (drp a2)).set 3 (drp a3)) H):=by
 have hf:cx.fns 84=some Proofs.Try.f84:=by kernel_rfl
 simp only[callB,hf,funced,b84,bodied]
 rfl
noncomputable def g136_0:=regAt Proofs.Try.f136 0
@[go_sem] theorem x136_0:XR 136 g136_0 [opo 2 (.box 95 (.tmp 0)),opo 4 (.assign (.const (.bool false)))]:=xk
@[go_sem] theorem t136_0:TK g136_0:=tk
noncomputable def g136_1:=regAt Proofs.Try.f136 1
@[go_sem] theorem x136_1:XR 136 g136_1 [fao 6 95 2 1,ldo 7 31 6,opo 8 (.call ⟨(.builtin .len),#[(.tmp 7)],#[31]⟩),mvo 9 1,opo 10 (.call ⟨(.builtin .len),#[(.tmp 9)],#[31]⟩),opo 11 (.binOp .neq 3 (.tmp 8) (.tmp 10) 3)]:=xk
@[go_sem] theorem t136_1:TK g136_1:=tk
noncomputable def g136_2:=regAt Proofs.Try.f136 2
@[go_sem] theorem x136_2:XR 136 g136_2 [opo 4 (.assign (.const (.bool false)))]:=xk
@[go_sem] theorem t136_2:TK g136_2:=tk
noncomputable def g136_3:=regAt Proofs.Try.f136 3
@[go_sem] theorem x136_3:XR 136 g136_3 [opo 5 (.assign (.const (.int .i64 0)))]:=xk
@[go_sem] theorem t136_3:TK g136_3:=tk
noncomputable def g136_4:=regAt Proofs.Try.f136 4
@[go_sem] theorem x136_4:XR 136 g136_4 [mvo 12 5,mvo 13 1,opo 14 (.call ⟨(.builtin .len),#[(.tmp 13)],#[31]⟩),opo 15 (.binOp .lss 3 (.tmp 12) (.tmp 14) 3)]:=xk
@[go_sem] theorem t136_4:TK g136_4:=tk
noncomputable def g136_5:=regAt Proofs.Try.f136 5
@[go_sem] theorem x136_5:XUR 136 g136_5 [(0,0,[],fao 18 95 2 1),(1,0,[],ldo 19 31 18),(2,0,[0,1],mvo 20 5),(3,0,[],iao 21 31 19 20),(4,0,[],ldo 22 3 21),(5,0,[0,1,2,3,4],mvo 23 1),(6,0,[0,1,2,3,4,5],mvo 24 5),(7,0,[0,1,2,3,4],iao 25 31 23 24),(8,0,[0,1,2,3,4],ldo 26 3 25),(9,0,[],opo 27 (.binOp .neq 3 (.tmp 22) (.tmp 26) 3))] 0:=xuk
@[go_sem] theorem t136_5:TK g136_5:=tk
noncomputable def g136_6:=regAt Proofs.Try.f136 6
@[go_sem] theorem x136_6:XR 136 g136_6 [opo 4 (.assign (.const (.bool false)))]:=xk
@[go_sem] theorem t136_6:TK g136_6:=tk
noncomputable def g136_7:=regAt Proofs.Try.f136 7
@[go_sem] theorem x136_7:XR 136 g136_7 [mvo 16 5,opo 17 (.binOp .add 3 (.tmp 16) (.const (.int .i64 1)) 3),aso 5 17]:=xk
@[go_sem] theorem t136_7:TK g136_7:=tk
noncomputable def g136_8:=regAt Proofs.Try.f136 8
@[go_sem] theorem x136_8:XR 136 g136_8 [opo 4 (.assign (.const (.bool true)))]:=xk
@[go_sem] theorem t136_8:TK g136_8:=tk
noncomputable def l136_0:Code:=(.seq (.seq (.region 4 g136_4 false) (.cond (.tmp 15) .skip (.exit 0))) (.seq (.block 1 (.seq (.region 6 g136_5 true) (.cond (.tmp 27) (.seq (.region 7 g136_6 false) .ret) .skip))) (.region 5 g136_7 false)))
theorem dl136_0{ro nt:Nat}{fr:PT}{H:Hp}:(den cx).loop ro 136 nt l136_0 fr H=xbind (ex cx (den cx) ro 136 nt (.seq (.seq (.region 4 g136_4 false) (.cond (.tmp 15) .skip (.exit 0))) (.seq (.block 1 (.seq (.region 6 g136_5 true) (.cond (.tmp 27) (.seq (.region 7 g136_6 false) .ret) .skip))) (.region 5 g136_7 false))) fr H) (contR (trimmed ((den cx).loop ro 136 nt l136_0) H.length)):=den_loop_x l136_0
theorem b136:Proofs.Try.f136.body=some (.seq (.region 0 g136_0 false) (.seq (.seq (.region 1 g136_1 false) (.cond (.tmp 11) (.seq (.region 2 g136_2 false) .ret) .skip)) (.seq (.seq (.region 3 g136_3 false) (.block 0 (.loop l136_0))) (.seq (.region 8 g136_8 false) .ret)))):=by kernel_rfl
theorem c136{h:Hd}{ro:Nat}{H:Hp}(a0 a1:AV):callB cx h ro 136 [a0,a1] H=returned cx [(.tmp 4)] (ex cx h ro 136 28 (.seq (.region 0 g136_0 false) (.seq (.seq (.region 1 g136_1 false) (.cond (.tmp 11) (.seq (.region 2 g136_2 false) .ret) .skip)) (.seq (.seq (.region 3 g136_3 false) (.block 0 (.loop l136_0))) (.seq (.region 8 g136_8 false) .ret)))) ((PT.nil.set 0 (drp a0)).set 1 (drp a1)) H):=by
 have hf:cx.fns 136=some Proofs.Try.f136:=by kernel_rfl
 simp only[callB,hf,funced,b136,bodied]
 rfl
noncomputable def g21_0:=regAt Proofs.Try.f21 0
@[go_sem] theorem x21_0:XR 21 g21_0 [opo 2 (.assign (.const (.bool false)))]:=xk
@[go_sem] theorem t21_0:TK g21_0:=tk
noncomputable def g21_1:=regAt Proofs.Try.f21 1
@[go_sem] theorem x21_1:XR 21 g21_1 [mvo 7 0,opo 8 (.call ⟨(.value (.func 72)),#[(.tmp 7)],#[56]⟩),aso 0 8]:=xk
@[go_sem] theorem t21_1:TK g21_1:=tk
noncomputable def g21_2:=regAt Proofs.Try.f21 2
@[go_sem] theorem x21_2:XR 21 g21_2 [mvo 10 0,opo 11 (.call ⟨(.value (.func 73)),#[(.tmp 10)],#[56]⟩),mvo 9 11,opo 12 (.extract (.tmp 9) 0),opo 13 (.extract (.tmp 9) 1),opo 3 (.alloc 95),(none,(.store 95 (.tmp 3) (.tmp 12)),none),aso 4 13]:=xk
@[go_sem] theorem t21_2:TK g21_2:=tk
noncomputable def g21_3:=regAt Proofs.Try.f21 3
@[go_sem] theorem x21_3:XR 21 g21_3 [mvo 15 0,opo 16 (.call ⟨(.value (.func 74)),#[(.tmp 15)],#[56]⟩),mvo 14 16,opo 17 (.extract (.tmp 14) 0),opo 18 (.extract (.tmp 14) 1),opo 5 (.alloc 95),(none,(.store 95 (.tmp 5) (.tmp 17)),none),aso 6 18]:=xk
@[go_sem] theorem t21_3:TK g21_3:=tk
noncomputable def g21_4:=regAt Proofs.Try.f21 4
@[go_sem] theorem x21_4:XR 21 g21_4 [mvo 19 4,mvo 20 6,opo 21 (.binOp .eql 27 (.tmp 19) (.tmp 20) 27),mvo 22 21,(some 23,(.load 95 (.tmp 3)),some (22,true)),(some 24,(.load 95 (.tmp 5)),some (22,true)),(some 25,(.call ⟨(.value (.func 75)),#[(.tmp 23),(.tmp 24)],#[95,95]⟩),some (22,true)),opo 26 (.pick (.tmp 22) (.tmp 25) (.const (.bool false))),mvo 27 26,(some 28,(.call ⟨(.value (.func 76)),#[],#[]⟩),some (27,true)),opo 29 (.pick (.tmp 27) (.tmp 28) (.const (.bool false))),aso 2 29]:=xk
@[go_sem] theorem t21_4:TK g21_4:=tk
theorem b21:Proofs.Try.f21.body=some (.seq (.region 0 g21_0 false) (.seq (.region 1 g21_1 false) (.seq (.region 2 g21_2 false) (.seq (.region 3 g21_3 false) (.seq (.region 4 g21_4 false) .ret))))):=by kernel_rfl
theorem c21{h:Hd}{ro:Nat}{H:Hp}(a0:AV):callB cx h ro 21 [a0] H=returned cx [(.tmp 2)] (ex cx h ro 21 30 (.seq (.region 0 g21_0 false) (.seq (.region 1 g21_1 false) (.seq (.region 2 g21_2 false) (.seq (.region 3 g21_3 false) (.seq (.region 4 g21_4 false) .ret))))) (PT.nil.set 0 (drp a0)) H):=by
 have hf:cx.fns 21=some Proofs.Try.f21:=by kernel_rfl
 simp only[callB,hf,funced,b21,bodied]
 rfl
noncomputable def g162_0:=regAt Proofs.Try.f162 0
@[go_sem] theorem x162_0:XR 162 g162_0 [opo 5 (.box 63 (.tmp 2)),opo 6 (.assign (.const (.int .i64 0))),opo 7 (.assign (.const (.int .i64 0)))]:=xk
@[go_sem] theorem t162_0:TK g162_0:=tk
noncomputable def g162_1:=regAt Proofs.Try.f162 1
@[go_sem] theorem x162_1:XR 162 g162_1 [mvo 9 0,fao 10 63 5 0,ldo 11 3 10,fao 12 63 5 1,ldo 13 3 12,opo 14 (.build 61 #[(0,(.tmp 11)),(1,(.tmp 13))]),opo 15 (.call ⟨(.value (.func 52)),#[(.tmp 9),(.tmp 14)],#[56,61]⟩),opo 8 (.alloc 61),(none,(.store 61 (.tmp 8) (.tmp 15)),none)]:=xk
@[go_sem] theorem t162_1:TK g162_1:=tk
noncomputable def g162_2:=regAt Proofs.Try.f162 2
@[go_sem] theorem x162_2:XR 162 g162_2 [mvo 16 0,fao 17 61 8 0,ldo 18 3 17,iao 19 56 16 18,fao 20 66 19 0,ldo 21 3 20,opo 22 (.binOp .eql 3 (.tmp 21) (.const (.int .i64 0)) 3)]:=xk
@[go_sem] theorem t162_2:TK g162_2:=tk
noncomputable def g162_3:=regAt Proofs.Try.f162 3
@[go_sem] theorem x162_3:XR 162 g162_3 [fao 23 61 8 0,ldo 24 3 23,aso 6 24,opo 7 (.assign (.const (.int .i64 0)))]:=xk
@[go_sem] theorem t162_3:TK g162_3:=tk
noncomputable def g162_4:=regAt Proofs.Try.f162 4
@[go_sem] theorem x162_4:XUR 162 g162_4 [(0,0,[],fao 25 61 8 0),(1,0,[],ldo 26 3 25),(2,0,[0,1],mvo 27 0),(3,0,[0,1,2],fao 28 61 8 0),(4,0,[0,1,2],ldo 29 3 28),(5,0,[0,1],iao 30 56 27 29),(6,0,[0,1],fao 31 66 30 1),(7,0,[0,1],ldo 32 3 31),(8,0,[0,1,2,3,4,5,6,7],fao 33 61 8 1),(9,0,[0,1,2,3,4,5,6,7],ldo 34 3 33),(10,0,[0,1],opo 35 (.binOp .add 3 (.tmp 32) (.tmp 34) 3)),(11,0,[0,1,2,3,4,5,6,7,8,9,10],mvo 36 0),(12,0,[0,1,2,3,4,5,6,7,8,9,10,11],mvo 37 1),(13,0,[0,1,2,3,4,5,6,7,8,9,10],iao 38 56 36 37),(14,0,[0,1,2,3,4,5,6,7,8,9,10],fao 39 66 38 1),(15,0,[0,1,2,3,4,5,6,7,8,9,10],ldo 40 3 39),(16,0,[0,1],opo 41 (.binOp .sub 3 (.tmp 35) (.tmp 40) 3)),(17,0,[2,3,4,5,6,7,8,9,10,11,12,13,14,15,16],aso 6 26),(18,0,[],aso 7 41)] 0:=xuk
@[go_sem] theorem t162_4:TK g162_4:=tk
theorem b162:Proofs.Try.f162.body=some (.seq (.region 0 g162_0 false) (.seq (.region 1 g162_1 false) (.seq (.seq (.region 2 g162_2 false) (.cond (.tmp 22) (.seq (.region 3 g162_3 false) .ret) .skip)) (.seq (.region 4 g162_4 true) .ret)))):=by kernel_rfl
theorem c162{h:Hd}{ro:Nat}{H:Hp}(a0 a1 a2:AV):callB cx h ro 162 [a0,a1,a2] H=returned cx [(.tmp 6),(.tmp 7)] (ex cx h ro 162 42 (.seq (.region 0 g162_0 false) (.seq (.region 1 g162_1 false) (.seq (.seq (.region 2 g162_2 false) (.cond (.tmp 22) (.seq (.region 3 g162_3 false) .ret) .skip)) (.seq (.region 4 g162_4 true) .ret)))) (((PT.nil.set 0 (drp a0)).set 1 (drp a1)).set 2 (drp a2)) H):=by
 have hf:cx.fns 162=some Proofs.Try.f162:=by kernel_rfl
 simp only[callB,hf,funced,b162,bodied]
 rfl
noncomputable def g78_0:=regAt Proofs.Try.f78 0
@[go_sem] theorem x78_0:XR 78 g78_0 [opo 2 (.box 95 (.tmp 0)),opo 3 (.box 61 (.tmp 1)),opo 4 (.assign (.const (.int .i64 0))),opo 5 (.assign (.const (.int .i64 0)))]:=xk
@[go_sem] theorem t78_0:TK g78_0:=tk
noncomputable def g78_1:=regAt Proofs.Try.f78 1
@[go_sem] theorem x78_1:XR 78 g78_1 [fao 6 61 3 0,ldo 7 3 6,opo 8 (.binOp .lss 3 (.tmp 7) (.const (.int .i64 0)) 3),mvo 9 8,(some 10,(.fieldAddr 61 (.tmp 3) 0),some (9,false)),(some 11,(.load 3 (.tmp 10)),some (9,false)),(some 12,(.fieldAddr 95 (.tmp 2) 1),some (9,false)),(some 13,(.load 31 (.tmp 12)),some (9,false)),(some 14,(.call ⟨(.builtin .len),#[(.tmp 13)],#[31]⟩),some (9,false)),(some 15,(.binOp .geq 3 (.tmp 11) (.tmp 14) 3),some (9,false)),opo 16 (.pick (.tmp 9) (.const (.bool true)) (.tmp 15))]:=xk
@[go_sem] theorem t78_1:TK g78_1:=tk
noncomputable def g78_2:=regAt Proofs.Try.f78 2
@[go_sem] theorem x78_2:XR 78 g78_2 [opo 4 (.assign (.const (.int .i64 (-1)))),opo 5 (.assign (.const (.int .i64 0)))]:=xk
@[go_sem] theorem t78_2:TK g78_2:=tk
noncomputable def g78_3:=regAt Proofs.Try.f78 3
@[go_sem] theorem x78_3:XUR 78 g78_3 [(0,0,[],ldo 17 95 2),(1,0,[0],fao 18 95 2 1),(2,0,[0],ldo 19 31 18),(3,0,[0,1,2],fao 20 61 3 0),(4,0,[0,1,2],ldo 21 3 20),(5,0,[0],iao 22 31 19 21),(6,0,[0],ldo 23 3 22),(7,0,[0,1,2,3,4,5,6],fao 24 95 2 2),(8,0,[0,1,2,3,4,5,6],ldo 25 31 24),(9,0,[0,1,2,3,4,5,6,7,8],fao 26 61 3 0),(10,0,[0,1,2,3,4,5,6,7,8],ldo 27 3 26),(11,0,[0,1,2,3,4,5,6],iao 28 31 25 27),(12,0,[0,1,2,3,4,5,6],ldo 29 3 28),(13,0,[0,1,2,3,4,5,6,7,8,9,10,11,12],fao 30 61 3 1),(14,0,[0,1,2,3,4,5,6,7,8,9,10,11,12],ldo 31 3 30),(15,0,[0,1,2,3,4,5,6],opo 32 (.binOp .add 3 (.tmp 29) (.tmp 31) 3)),(16,0,[],opo 33 (.call ⟨(.value (.func 137)),#[(.tmp 17),(.tmp 23),(.tmp 32)],#[95,3,3]⟩)),(17,0,[],opo 34 (.extract (.tmp 33) 0)),(18,0,[17],opo 35 (.extract (.tmp 33) 1)),(19,0,[],aso 4 34),(20,0,[],aso 5 35)] 0:=xuk
@[go_sem] theorem t78_3:TK g78_3:=tk
theorem b78:Proofs.Try.f78.body=some (.seq (.region 0 g78_0 false) (.seq (.seq (.region 1 g78_1 false) (.cond (.tmp 16) (.seq (.region 2 g78_2 false) .ret) .skip)) (.seq (.region 3 g78_3 true) .ret))):=by kernel_rfl
theorem c78{h:Hd}{ro:Nat}{H:Hp}(a0 a1:AV):callB cx h ro 78 [a0,a1] H=returned cx [(.tmp 4),(.tmp 5)] (ex cx h ro 78 36 (.seq (.region 0 g78_0 false) (.seq (.seq (.region 1 g78_1 false) (.cond (.tmp 16) (.seq (.region 2 g78_2 false) .ret) .skip)) (.seq (.region 3 g78_3 true) .ret))) ((PT.nil.set 0 (drp a0)).set 1 (drp a1)) H):=by
 have hf:cx.fns 78=some Proofs.Try.f78:=by kernel_rfl
 simp only[callB,hf,funced,b78,bodied]
 rfl
noncomputable def g79_0:=regAt Proofs.Try.f79 0
@[go_sem] theorem x79_0:XR 79 g79_0 [opo 2 (.box 95 (.tmp 0)),opo 3 (.box 61 (.tmp 1)),opo 4 (.assign (.const (.int .i64 0))),opo 5 (.assign (.const (.int .i64 0)))]:=xk
@[go_sem] theorem t79_0:TK g79_0:=tk
noncomputable def g79_1:=regAt Proofs.Try.f79 1
@[go_sem] theorem x79_1:XR 79 g79_1 [fao 7 61 3 0,ldo 8 3 7,opo 9 (.binOp .lss 3 (.tmp 8) (.const (.int .i64 0)) 3),mvo 10 9,(some 11,(.fieldAddr 61 (.tmp 3) 0),some (10,false)),(some 12,(.load 3 (.tmp 11)),some (10,false)),(some 13,(.fieldAddr 95 (.tmp 2) 1),some (10,false)),(some 14,(.load 31 (.tmp 13)),some (10,false)),(some 15,(.call ⟨(.builtin .len),#[(.tmp 14)],#[31]⟩),some (10,false)),(some 16,(.binOp .geq 3 (.tmp 12) (.tmp 15) 3),some (10,false)),opo 17 (.pick (.tmp 10) (.const (.bool true)) (.tmp 16))]:=xk
@[go_sem] theorem t79_1:TK g79_1:=tk
noncomputable def g79_2:=regAt Proofs.Try.f79 2
@[go_sem] theorem x79_2:XR 79 g79_2 [opo 4 (.assign (.const (.int .i64 (-1)))),opo 5 (.assign (.const (.int .i64 0)))]:=xk
@[go_sem] theorem t79_2:TK g79_2:=tk
noncomputable def g79_3:=regAt Proofs.Try.f79 3
@[go_sem] theorem x79_3:XR 79 g79_3 [fao 18 95 2 1,ldo 19 31 18,fao 20 61 3 0,ldo 21 3 20,iao 22 31 19 21,ldo 23 3 22,aso 6 23]:=xk
@[go_sem] theorem t79_3:TK g79_3:=tk
noncomputable def g79_4:=regAt Proofs.Try.f79 4
@[go_sem] theorem x79_4:XR 79 g79_4 [fao 24 95 2 0,ldo 25 93 24,mvo 26 6,iao 27 93 25 26,fao 28 111 27 0,ldo 29 3 28,opo 30 (.binOp .eql 3 (.tmp 29) (.const (.int .i64 0)) 3)]:=xk
@[go_sem] theorem t79_4:TK g79_4:=tk
noncomputable def g79_5:=regAt Proofs.Try.f79 5
@[go_sem] theorem x79_5:XR 79 g79_5 [mvo 31 6,aso 4 31,opo 5 (.assign (.const (.int .i64 0)))]:=xk
@[go_sem] theorem t79_5:TK g79_5:=tk
noncomputable def g79_6:=regAt Proofs.Try.f79 6
@[go_sem] theorem x79_6:XUR 79 g79_6 [(0,0,[],mvo 32 6),(1,0,[0],fao 33 95 2 2),(2,0,[0],ldo 34 31 33),(3,0,[0,1,2],fao 35 61 3 0),(4,0,[0,1,2],ldo 36 3 35),(5,0,[0],iao 37 31 34 36),(6,0,[0],ldo 38 3 37),(7,0,[0,1,2,3,4,5,6],fao 39 61 3 1),(8,0,[0,1,2,3,4,5,6],ldo 40 3 39),(9,0,[0],opo 41 (.binOp .add 3 (.tmp 38) (.tmp 40) 3)),(10,0,[1,2,3,4,5,6,7,8,9],aso 4 32),(11,0,[],aso 5 41)] 0:=xuk
@[go_sem] theorem t79_6:TK g79_6:=tk
theorem b79:Proofs.Try.f79.body=some (.seq (.region 0 g79_0 false) (.seq (.seq (.region 1 g79_1 false) (.cond (.tmp 17) (.seq (.region 2 g79_2 false) .ret) .skip)) (.seq (.region 3 g79_3 false) (.seq (.seq (.region 4 g79_4 false) (.cond (.tmp 30) (.seq (.region 5 g79_5 false) .ret) .skip)) (.seq (.region 6 g79_6 true) .ret))))):=by kernel_rfl
theorem c79{h:Hd}{ro:Nat}{H:Hp}(a0 a1:AV):callB cx h ro 79 [a0,a1] H=returned cx [(.tmp 4),(.tmp 5)] (ex cx h ro 79 42 (.seq (.region 0 g79_0 false) (.seq (.seq (.region 1 g79_1 false) (.cond (.tmp 17) (.seq (.region 2 g79_2 false) .ret) .skip)) (.seq (.region 3 g79_3 false) (.seq (.seq (.region 4 g79_4 false) (.cond (.tmp 30) (.seq (.region 5 g79_5 false) .ret) .skip)) (.seq (.region 6 g79_6 true) .ret))))) ((PT.nil.set 0 (drp a0)).set 1 (drp a1)) H):=by
 have hf:cx.fns 79=some Proofs.Try.f79:=by kernel_rfl
 simp only[callB,hf,funced,b79,bodied]
 rfl
noncomputable def g80_0:=regAt Proofs.Try.f80 0
@[go_sem] theorem x80_0:XR 80 g80_0 [opo 4 (.box 95 (.tmp 0)),opo 8 (.assign (.const (.int .i64 0))),opo 9 (.assign (.const (.int .i64 0)))]:=xk
@[go_sem] theorem t80_0:TK g80_0:=tk
noncomputable def g80_1:=regAt Proofs.Try.f80 1
@[go_sem] theorem x80_1:XR 80 g80_1 [ldo 11 95 4,mvo 12 1,opo 13 (.call ⟨(.value (.func 138)),#[(.tmp 11),(.tmp 12)],#[95,3]⟩),opo 14 (.unOp .not 4 (.tmp 13)),mvo 15 14,(some 16,(.move (.tmp 3)),some (15,false)),(some 17,(.binOp .lss 3 (.tmp 16) (.const (.int .i64 0)) 3),some (15,false)),opo 18 (.pick (.tmp 15) (.const (.bool true)) (.tmp 17)),mvo 19 18,(some 20,(.move (.tmp 3)),some (19,false)),(some 21,(.fieldAddr 95 (.tmp 4) 0),some (19,false)),(some 22,(.load 93 (.tmp 21)),some (19,false)),(some 23,(.move (.tmp 1)),some (19,false)),(some 24,(.indexAddr 93 (.tmp 22) (.tmp 23)),some (19,false)),(some 25,(.fieldAddr 111 (.tmp 24) 4),some (19,false)),(some 26,(.load 109 (.tmp 25)),some (19,false)),(some 27,(.call ⟨(.builtin .len),#[(.tmp 26)],#[109]⟩),some (19,false)),(some 28,(.binOp .geq 3 (.tmp 20) (.tmp 27) 3),some (19,false)),opo 29 (.pick (.tmp 19) (.const (.bool true)) (.tmp 28))]:=xk
@[go_sem] theorem t80_1:TK g80_1:=tk
noncomputable def g80_2:=regAt Proofs.Try.f80 2
@[go_sem] theorem x80_2:XR 80 g80_2 [opo 8 (.assign (.const (.int .i64 (-1)))),opo 9 (.assign (.const (.int .i64 0)))]:=xk
@[go_sem] theorem t80_2:TK g80_2:=tk
noncomputable def g80_3:=regAt Proofs.Try.f80 3
@[go_sem] theorem x80_3:XR 80 g80_3 [fao 30 95 4 0,ldo 31 93 30,mvo 32 1,iao 33 93 31 32,fao 34 111 33 4,ldo 35 109 34,mvo 36 3,iao 37 109 35 36,ldo 38 108 37,opo 10 (.alloc 108),(none,(.store 108 (.tmp 10) (.tmp 38)),none)]:=xk
@[go_sem] theorem t80_3:TK g80_3:=tk
noncomputable def g80_4:=regAt Proofs.Try.f80 4
@[go_sem] theorem x80_4:XR 80 g80_4 [ldo 39 95 4,fao 40 108 10 0,ldo 41 3 40,mvo 42 2,fao 43 108 10 1,ldo 44 3 43,opo 45 (.binOp .add 3 (.tmp 42) (.tmp 44) 3),opo 46 (.call ⟨(.value (.func 137)),#[(.tmp 39),(.tmp 41),(.tmp 45)],#[95,3,3]⟩),opo 47 (.extract (.tmp 46) 0),opo 48 (.extract (.tmp 46) 1),aso 8 47,aso 9 48]:=xk
@[go_sem] theorem t80_4:TK g80_4:=tk
theorem b80:Proofs.Try.f80.body=some (.seq (.region 0 g80_0 false) (.seq (.seq (.region 1 g80_1 false) (.cond (.tmp 29) (.seq (.region 2 g80_2 false) .ret) .skip)) (.seq (.region 3 g80_3 false) (.seq (.region 4 g80_4 false) .ret)))):=by kernel_rfl
theorem c80{h:Hd}{ro:Nat}{H:Hp}(a0 a1 a2 a3:AV):callB cx h ro 80 [a0,a1,a2,a3] H=returned cx [(.tmp 8),(.tmp 9)] (ex cx h ro 80 49 (.seq (.region 0 g80_0 false) (.seq (.seq (.region 1 g80_1 false) (.cond (.tmp 29) (.seq (.region 2 g80_2 false) .ret) .skip)) (.seq (.region 3 g80_3 false) (.seq (.region 4 g80_4 false) .ret)))) ((((PT.nil.set 0 (drp a0)).set 1 (drp a1)).set 2 (drp a2)).set 3 (drp a3)) H):=by
 have hf:cx.fns 80=some Proofs.Try.f80:=by kernel_rfl
 simp only[callB,hf,funced,b80,bodied]
 rfl
noncomputable def g81_0:=regAt Proofs.Try.f81 0
@[go_sem] theorem x81_0:XR 81 g81_0 [opo 4 (.box 95 (.tmp 0)),opo 8 (.assign (.const (.int .i64 0))),opo 9 (.assign (.const (.int .i64 0)))]:=xk
@[go_sem] theorem t81_0:TK g81_0:=tk
noncomputable def g81_1:=regAt Proofs.Try.f81 1
@[go_sem] theorem x81_1:XR 81 g81_1 [mvo 10 1,opo 11 (.binOp .lss 3 (.tmp 10) (.const (.int .i64 0)) 3),mvo 12 11,(some 13,(.move (.tmp 1)),some (12,false)),(some 14,(.fieldAddr 95 (.tmp 4) 0),some (12,false)),(some 15,(.load 93 (.tmp 14)),some (12,false)),(some 16,(.call ⟨(.builtin .len),#[(.tmp 15)],#[93]⟩),some (12,false)),(some 17,(.binOp .geq 3 (.tmp 13) (.tmp 16) 3),some (12,false)),opo 18 (.pick (.tmp 12) (.const (.bool true)) (.tmp 17)),mvo 19 18,(some 20,(.move (.tmp 3)),some (19,false)),(some 21,(.binOp .lss 3 (.tmp 20) (.const (.int .i64 0)) 3),some (19,false)),opo 22 (.pick (.tmp 19) (.const (.bool true)) (.tmp 21)),mvo 23 22,(some 24,(.move (.tmp 3)),some (23,false)),(some 25,(.fieldAddr 95 (.tmp 4) 0),some (23,false)),(some 26,(.load 93 (.tmp 25)),some (23,false)),(some 27,(.move (.tmp 1)),some (23,false)),(some 28,(.indexAddr 93 (.tmp 26) (.tmp 27)),some (23,false)),(some 29,(.fieldAddr 111 (.tmp 28) 4),some (23,false)),(some 30,(.load 109 (.tmp 29)),some (23,false)),(some 31,(.call ⟨(.builtin .len),#[(.tmp 30)],#[109]⟩),some (23,false)),(some 32,(.binOp .geq 3 (.tmp 24) (.tmp 31) 3),some (23,false)),opo 33 (.pick (.tmp 23) (.const (.bool true)) (.tmp 32))]:=xk
@[go_sem] theorem t81_1:TK g81_1:=tk
noncomputable def g81_2:=regAt Proofs.Try.f81 2
@[go_sem] theorem x81_2:XR 81 g81_2 [opo 8 (.assign (.const (.int .i64 (-1)))),opo 9 (.assign (.const (.int .i64 0)))]:=xk
@[go_sem] theorem t81_2:TK g81_2:=tk
noncomputable def g81_3:=regAt Proofs.Try.f81 3
@[go_sem] theorem x81_3:XUR 81 g81_3 [(0,0,[],ldo 34 95 4),(1,0,[0],fao 35 95 4 0),(2,0,[0],ldo 36 93 35),(3,0,[0,1,2],mvo 37 1),(4,0,[0],iao 38 93 36 37),(5,0,[0],fao 39 111 38 4),(6,0,[0],ldo 40 109 39),(7,0,[0,1,2,3,4,5,6],mvo 41 3),(8,0,[0],iao 42 109 40 41),(9,0,[0],ldo 43 108 42),(10,0,[0,1,2,3,4,5,6,7,8,9],mvo 44 2),(11,0,[],opo 45 (.call ⟨(.value (.func 139)),#[(.tmp 34),(.tmp 43),(.tmp 44)],#[95,108,3]⟩)),(12,0,[],opo 46 (.extract (.tmp 45) 0)),(13,0,[12],opo 47 (.extract (.tmp 45) 1)),(14,0,[],aso 8 46),(15,0,[],aso 9 47)] 0:=xuk
@[go_sem] theorem t81_3:TK g81_3:=tk
theorem b81:Proofs.Try.f81.body=some (.seq (.region 0 g81_0 false) (.seq (.seq (.region 1 g81_1 false) (.cond (.tmp 33) (.seq (.region 2 g81_2 false) .ret) .skip)) (.seq (.region 3 g81_3 true) .ret))):=by kernel_rfl
theorem c81{h:Hd}{ro:Nat}{H:Hp}(a0 a1 a2 a3:AV):callB cx h ro 81 [a0,a1,a2,a3] H=returned cx [(.tmp 8),(.tmp 9)] (ex cx h ro 81 48 (.seq (.region 0 g81_0 false) (.seq (.seq (.region 1 g81_1 false) (.cond (.tmp 33) (.seq (.region 2 g81_2 false) .ret) .skip)) (.seq (.region 3 g81_3 true) .ret))) ((((PT.nil.set 0 (drp a0)).set 1 (drp a1)).set 2 (drp a2)).set 3 (drp a3)) H):=by
 have hf:cx.fns 81=some Proofs.Try.f81:=by kernel_rfl
 simp only[callB,hf,funced,b81,bodied]
 rfl
noncomputable def g82_0:=regAt Proofs.Try.f82 0
@[go_sem] theorem x82_0:XR 82 g82_0 [opo 3 (.box 95 (.tmp 0)),opo 6 (.assign (.const (.int .i64 0))),opo 7 (.assign (.const (.int .i64 0)))]:=xk
@[go_sem] theorem t82_0:TK g82_0:=tk
noncomputable def g82_1:=regAt Proofs.Try.f82 1
@[go_sem] theorem x82_1:XR 82 g82_1 [ldo 9 95 3,mvo 10 1,opo 11 (.call ⟨(.value (.func 138)),#[(.tmp 9),(.tmp 10)],#[95,3]⟩),opo 12 (.unOp .not 4 (.tmp 11)),mvo 13 12,(some 14,(.fieldAddr 95 (.tmp 3) 0),some (13,false)),(some 15,(.load 93 (.tmp 14)),some (13,false)),(some 16,(.move (.tmp 1)),some (13,false)),(some 17,(.indexAddr 93 (.tmp 15) (.tmp 16)),some (13,false)),(some 18,(.fieldAddr 111 (.tmp 17) 2),some (13,false)),(some 19,(.load 4 (.tmp 18)),some (13,false)),(some 20,(.unOp .not 4 (.tmp 19)),some (13,false)),opo 21 (.pick (.tmp 13) (.const (.bool true)) (.tmp 20))]:=xk
@[go_sem] theorem t82_1:TK g82_1:=tk
noncomputable def g82_2:=regAt Proofs.Try.f82 2
@[go_sem] theorem x82_2:XR 82 g82_2 [opo 6 (.assign (.const (.int .i64 (-1)))),opo 7 (.assign (.const (.int .i64 0)))]:=xk
@[go_sem] theorem t82_2:TK g82_2:=tk
noncomputable def g82_3:=regAt Proofs.Try.f82 3
@[go_sem] theorem x82_3:XR 82 g82_3 [fao 22 95 3 0,ldo 23 93 22,mvo 24 1,iao 25 93 23 24,fao 26 111 25 3,ldo 27 108 26,opo 8 (.alloc 108),(none,(.store 108 (.tmp 8) (.tmp 27)),none)]:=xk
@[go_sem] theorem t82_3:TK g82_3:=tk
noncomputable def g82_4:=regAt Proofs.Try.f82 4
@[go_sem] theorem x82_4:XR 82 g82_4 [ldo 28 95 3,fao 29 108 8 0,ldo 30 3 29,mvo 31 2,fao 32 108 8 1,ldo 33 3 32,opo 34 (.binOp .add 3 (.tmp 31) (.tmp 33) 3),opo 35 (.call ⟨(.value (.func 137)),#[(.tmp 28),(.tmp 30),(.tmp 34)],#[95,3,3]⟩),opo 36 (.extract (.tmp 35) 0),opo 37 (.extract (.tmp 35) 1),aso 6 36,aso 7 37]:=xk
@[go_sem] theorem t82_4:TK g82_4:=tk
theorem b82:Proofs.Try.f82.body=some (.seq (.region 0 g82_0 false) (.seq (.seq (.region 1 g82_1 false) (.cond (.tmp 21) (.seq (.region 2 g82_2 false) .ret) .skip)) (.seq (.region 3 g82_3 false) (.seq (.region 4 g82_4 false) .ret)))):=by kernel_rfl
theorem c82{h:Hd}{ro:Nat}{H:Hp}(a0 a1 a2:AV):callB cx h ro 82 [a0,a1,a2] H=returned cx [(.tmp 6),(.tmp 7)] (ex cx h ro 82 38 (.seq (.region 0 g82_0 false) (.seq (.seq (.region 1 g82_1 false) (.cond (.tmp 21) (.seq (.region 2 g82_2 false) .ret) .skip)) (.seq (.region 3 g82_3 false) (.seq (.region 4 g82_4 false) .ret)))) (((PT.nil.set 0 (drp a0)).set 1 (drp a1)).set 2 (drp a2)) H):=by
 have hf:cx.fns 82=some Proofs.Try.f82:=by kernel_rfl
 simp only[callB,hf,funced,b82,bodied]
 rfl
noncomputable def g83_0:=regAt Proofs.Try.f83 0
@[go_sem] theorem x83_0:XR 83 g83_0 [opo 3 (.box 95 (.tmp 0)),opo 6 (.assign (.const (.int .i64 0))),opo 7 (.assign (.const (.int .i64 0)))]:=xk
@[go_sem] theorem t83_0:TK g83_0:=tk
noncomputable def g83_1:=regAt Proofs.Try.f83 1
@[go_sem] theorem x83_1:XR 83 g83_1 [mvo 8 1,opo 9 (.binOp .lss 3 (.tmp 8) (.const (.int .i64 0)) 3),mvo 10 9,(some 11,(.move (.tmp 1)),some (10,false)),(some 12,(.fieldAddr 95 (.tmp 3) 0),some (10,false)),(some 13,(.load 93 (.tmp 12)),some (10,false)),(some 14,(.call ⟨(.builtin .len),#[(.tmp 13)],#[93]⟩),some (10,false)),(some 15,(.binOp .geq 3 (.tmp 11) (.tmp 14) 3),some (10,false)),opo 16 (.pick (.tmp 10) (.const (.bool true)) (.tmp 15)),mvo 17 16,(some 18,(.fieldAddr 95 (.tmp 3) 0),some (17,false)),(some 19,(.load 93 (.tmp 18)),some (17,false)),(some 20,(.move (.tmp 1)),some (17,false)),(some 21,(.indexAddr 93 (.tmp 19) (.tmp 20)),some (17,false)),(some 22,(.fieldAddr 111 (.tmp 21) 2),some (17,false)),(some 23,(.load 4 (.tmp 22)),some (17,false)),(some 24,(.unOp .not 4 (.tmp 23)),some (17,false)),opo 25 (.pick (.tmp 17) (.const (.bool true)) (.tmp 24))]:=xk
@[go_sem] theorem t83_1:TK g83_1:=tk
noncomputable def g83_2:=regAt Proofs.Try.f83 2
@[go_sem] theorem x83_2:XR 83 g83_2 [opo 6 (.assign (.const (.int .i64 (-1)))),opo 7 (.assign (.const (.int .i64 0)))]:=xk
@[go_sem] theorem t83_2:TK g83_2:=tk
noncomputable def g83_3:=regAt Proofs.Try.f83 3
@[go_sem] theorem x83_3:XUR 83 g83_3 [(0,0,[],ldo 26 95 3),(1,0,[0],fao 27 95 3 0),(2,0,[0],ldo 28 93 27),(3,0,[0,1,2],mvo 29 1),(4,0,[0],iao 30 93 28 29),(5,0,[0],fao 31 111 30 3),(6,0,[0],ldo 32 108 31),(7,0,[0,1,2,3,4,5,6],mvo 33 2),(8,0,[],opo 34 (.call ⟨(.value (.func 139)),#[(.tmp 26),(.tmp 32),(.tmp 33)],#[95,108,3]⟩)),(9,0,[],opo 35 (.extract (.tmp 34) 0)),(10,0,[9],opo 36 (.extract (.tmp 34) 1)),(11,0,[],aso 6 35),(12,0,[],aso 7 36)] 0:=xuk
@[go_sem] theorem t83_3:TK g83_3:=tk
theorem b83:Proofs.Try.f83.body=some (.seq (.region 0 g83_0 false) (.seq (.seq (.region 1 g83_1 false) (.cond (.tmp 25) (.seq (.region 2 g83_2 false) .ret) .skip)) (.seq (.region 3 g83_3 true) .ret))):=by kernel_rfl
theorem c83{h:Hd}{ro:Nat}{H:Hp}(a0 a1 a2:AV):callB cx h ro 83 [a0,a1,a2] H=returned cx [(.tmp 6),(.tmp 7)] (ex cx h ro 83 37 (.seq (.region 0 g83_0 false) (.seq (.seq (.region 1 g83_1 false) (.cond (.tmp 25) (.seq (.region 2 g83_2 false) .ret) .skip)) (.seq (.region 3 g83_3 true) .ret))) (((PT.nil.set 0 (drp a0)).set 1 (drp a1)).set 2 (drp a2)) H):=by
 have hf:cx.fns 83=some Proofs.Try.f83:=by kernel_rfl
 simp only[callB,hf,funced,b83,bodied]
 rfl
noncomputable def g137_0:=regAt Proofs.Try.f137 0
@[go_sem] theorem x137_0:XR 137 g137_0 [opo 3 (.box 95 (.tmp 0)),opo 6 (.assign (.const (.int .i64 0))),opo 7 (.assign (.const (.int .i64 0)))]:=xk
@[go_sem] theorem t137_0:TK g137_0:=tk
noncomputable def g137_1:=regAt Proofs.Try.f137 1
@[go_sem] theorem x137_1:XR 137 g137_1 [fao 8 95 3 0,ldo 9 93 8,mvo 10 1,iao 11 93 9 10,fao 12 111 11 0,ldo 13 3 12,opo 14 (.binOp .eql 3 (.tmp 13) (.const (.int .i64 0)) 3)]:=xk
@[go_sem] theorem t137_1:TK g137_1:=tk
noncomputable def g137_2:=regAt Proofs.Try.f137 2
@[go_sem] theorem x137_2:XR 137 g137_2 [opo 2 (.assign (.const (.int .i64 0)))]:=xk
@[go_sem] theorem t137_2:TK g137_2:=tk
noncomputable def g137_3:=regAt Proofs.Try.f137 3
@[go_sem] theorem x137_3:XR 137 g137_3 [mvo 15 1,mvo 16 2,aso 6 15,aso 7 16]:=xk
@[go_sem] theorem t137_3:TK g137_3:=tk
theorem b137:Proofs.Try.f137.body=some (.seq (.region 0 g137_0 false) (.seq (.seq (.region 1 g137_1 false) (.cond (.tmp 14) (.region 2 g137_2 false) .skip)) (.seq (.region 3 g137_3 false) .ret))):=by kernel_rfl
theorem c137{h:Hd}{ro:Nat}{H:Hp}(a0 a1 a2:AV):callB cx h ro 137 [a0,a1,a2] H=returned cx [(.tmp 6),(.tmp 7)] (ex cx h ro 137 17 (.seq (.region 0 g137_0 false) (.seq (.seq (.region 1 g137_1 false) (.cond (.tmp 14) (.region 2 g137_2 false) .skip)) (.seq (.region 3 g137_3 false) .ret))) (((PT.nil.set 0 (drp a0)).set 1 (drp a1)).set 2 (drp a2)) H):=by
 have hf:cx.fns 137=some Proofs.Try.f137:=by kernel_rfl
 simp only[callB,hf,funced,b137,bodied]
 rfl
noncomputable def g138_0:=regAt Proofs.Try.f138 0
@[go_sem] theorem x138_0:XR 138 g138_0 [opo 2 (.box 95 (.tmp 0)),opo 4 (.assign (.const (.bool false)))]:=xk
@[go_sem] theorem t138_0:TK g138_0:=tk
noncomputable def g138_1:=regAt Proofs.Try.f138 1
@[go_sem] theorem x138_1:XR 138 g138_1 [mvo 5 1,opo 6 (.binOp .geq 3 (.tmp 5) (.const (.int .i64 0)) 3),mvo 7 6,(some 8,(.move (.tmp 1)),some (7,true)),(some 9,(.fieldAddr 95 (.tmp 2) 0),some (7,true)),(some 10,(.load 93 (.tmp 9)),some (7,true)),(some 11,(.call ⟨(.builtin .len),#[(.tmp 10)],#[93]⟩),some (7,true)),(some 12,(.binOp .lss 3 (.tmp 8) (.tmp 11) 3),some (7,true)),opo 13 (.pick (.tmp 7) (.tmp 12) (.const (.bool false))),aso 4 13]:=xk
@[go_sem] theorem t138_1:TK g138_1:=tk
theorem b138:Proofs.Try.f138.body=some (.seq (.region 0 g138_0 false) (.seq (.region 1 g138_1 false) .ret)):=by kernel_rfl
theorem c138{h:Hd}{ro:Nat}{H:Hp}(a0 a1:AV):callB cx h ro 138 [a0,a1] H=returned cx [(.tmp 4)] (ex cx h ro 138 14 (.seq (.region 0 g138_0 false) (.seq (.region 1 g138_1 false) .ret)) ((PT.nil.set 0 (drp a0)).set 1 (drp a1)) H):=by
 have hf:cx.fns 138=some Proofs.Try.f138:=by kernel_rfl
 simp only[callB,hf,funced,b138,bodied]
 rfl
noncomputable def g139_0:=regAt Proofs.Try.f139 0
@[go_sem] theorem x139_0:XR 139 g139_0 [opo 3 (.box 95 (.tmp 0)),opo 4 (.box 108 (.tmp 1)),opo 6 (.assign (.const (.int .i64 0))),opo 7 (.assign (.const (.int .i64 0)))]:=xk
@[go_sem] theorem t139_0:TK g139_0:=tk
noncomputable def g139_1:=regAt Proofs.Try.f139 1
@[go_sem] theorem x139_1:XR 139 g139_1 [fao 8 95 3 0,ldo 9 93 8,fao 10 108 4 0,ldo 11 3 10,iao 12 93 9 11,fao 13 111 12 0,ldo 14 3 13,opo 15 (.binOp .eql 3 (.tmp 14) (.const (.int .i64 0)) 3)]:=xk
@[go_sem] theorem t139_1:TK g139_1:=tk
noncomputable def g139_2:=regAt Proofs.Try.f139 2
@[go_sem] theorem x139_2:XR 139 g139_2 [fao 16 108 4 0,ldo 17 3 16,aso 6 17,opo 7 (.assign (.const (.int .i64 0)))]:=xk
@[go_sem] theorem t139_2:TK g139_2:=tk
noncomputable def g139_3:=regAt Proofs.Try.f139 3
@[go_sem] theorem x139_3:XUR 139 g139_3 [(0,0,[],fao 18 108 4 0),(1,0,[],ldo 19 3 18),(2,0,[0,1],mvo 20 2),(3,0,[0,1,2],fao 21 108 4 1),(4,0,[0,1,2],ldo 22 3 21),(5,0,[0,1],opo 23 (.binOp .add 3 (.tmp 20) (.tmp 22) 3)),(6,0,[2,3,4,5],aso 6 19),(7,0,[],aso 7 23)] 0:=xuk
@[go_sem] theorem t139_3:TK g139_3:=tk
theorem b139:Proofs.Try.f139.body=some (.seq (.region 0 g139_0 false) (.seq (.seq (.region 1 g139_1 false) (.cond (.tmp 15) (.seq (.region 2 g139_2 false) .ret) .skip)) (.seq (.region 3 g139_3 true) .ret))):=by kernel_rfl
theorem c139{h:Hd}{ro:Nat}{H:Hp}(a0 a1 a2:AV):callB cx h ro 139 [a0,a1,a2] H=returned cx [(.tmp 6),(.tmp 7)] (ex cx h ro 139 24 (.seq (.region 0 g139_0 false) (.seq (.seq (.region 1 g139_1 false) (.cond (.tmp 15) (.seq (.region 2 g139_2 false) .ret) .skip)) (.seq (.region 3 g139_3 true) .ret))) (((PT.nil.set 0 (drp a0)).set 1 (drp a1)).set 2 (drp a2)) H):=by
 have hf:cx.fns 139=some Proofs.Try.f139:=by kernel_rfl
 simp only[callB,hf,funced,b139,bodied]
 rfl
noncomputable def g24_0:=regAt Proofs.Try.f24 0
@[go_sem] theorem x24_0:XR 24 g24_0 [opo 4 (.assign (.const (.bool false)))]:=xk
@[go_sem] theorem t24_0:TK g24_0:=tk
noncomputable def g24_1:=regAt Proofs.Try.f24 1
@[go_sem] theorem x24_1:XR 24 g24_1 [opo 26 (.call ⟨(.value (.func 76)),#[],#[]⟩),opo 27 (.unOp .not 4 (.tmp 26))]:=xk
@[go_sem] theorem t24_1:TK g24_1:=tk
noncomputable def g24_2:=regAt Proofs.Try.f24 2
@[go_sem] theorem x24_2:XR 24 g24_2 [opo 4 (.assign (.const (.bool false)))]:=xk
@[go_sem] theorem t24_2:TK g24_2:=tk
noncomputable def g24_3:=regAt Proofs.Try.f24 3
@[go_sem] theorem x24_3:XR 24 g24_3 [mvo 28 0,opo 29 (.call ⟨(.value (.func 72)),#[(.tmp 28)],#[56]⟩),aso 0 29]:=xk
@[go_sem] theorem t24_3:TK g24_3:=tk
noncomputable def g24_4:=regAt Proofs.Try.f24 4
@[go_sem] theorem x24_4:XR 24 g24_4 [mvo 31 0,opo 32 (.call ⟨(.value (.func 73)),#[(.tmp 31)],#[56]⟩),mvo 30 32,opo 33 (.extract (.tmp 30) 0),opo 34 (.extract (.tmp 30) 1),opo 5 (.alloc 95),(none,(.store 95 (.tmp 5) (.tmp 33)),none),aso 6 34]:=xk
@[go_sem] theorem t24_4:TK g24_4:=tk
noncomputable def g24_5:=regAt Proofs.Try.f24 5
@[go_sem] theorem x24_5:XR 24 g24_5 [mvo 36 0,opo 37 (.call ⟨(.value (.func 67)),#[(.tmp 36)],#[56]⟩),mvo 35 37,opo 38 (.extract (.tmp 35) 0),opo 39 (.extract (.tmp 35) 1),aso 7 38,aso 8 39]:=xk
@[go_sem] theorem t24_5:TK g24_5:=tk
noncomputable def g24_6:=regAt Proofs.Try.f24 6
@[go_sem] theorem x24_6:XR 24 g24_6 [mvo 40 6,opo 41 (.binOp .neq 27 (.tmp 40) (.const (.int .i64 0)) 27)]:=xk
@[go_sem] theorem t24_6:TK g24_6:=tk
noncomputable def g24_7:=regAt Proofs.Try.f24 7
@[go_sem] theorem x24_7:XR 24 g24_7 [mvo 42 6,mvo 43 8,opo 44 (.binOp .eql 27 (.tmp 42) (.tmp 43) 27),mvo 45 44,(some 46,(.fieldAddr 95 (.tmp 5) 1),some (45,true)),(some 47,(.load 31 (.tmp 46)),some (45,true)),(some 48,(.call ⟨(.builtin .len),#[(.tmp 47)],#[31]⟩),some (45,true)),(some 49,(.binOp .eql 3 (.tmp 48) (.const (.int .i64 0)) 3),some (45,true)),opo 50 (.pick (.tmp 45) (.tmp 49) (.const (.bool false))),aso 4 50]:=xk
@[go_sem] theorem t24_7:TK g24_7:=tk
noncomputable def g24_8:=regAt Proofs.Try.f24 8
@[go_sem] theorem x24_8:XR 24 g24_8 [mvo 51 0,opo 52 (.call ⟨(.value (.func 54)),#[(.tmp 51)],#[56]⟩),aso 9 52]:=xk
@[go_sem] theorem t24_8:TK g24_8:=tk
noncomputable def g24_9:=regAt Proofs.Try.f24 9
@[go_sem] theorem x24_9:XR 24 g24_9 [mvo 53 8,opo 54 (.binOp .neq 27 (.tmp 53) (.const (.int .i64 0)) 27),mvo 55 54,(some 56,(.fieldAddr 95 (.tmp 5) 1),some (55,false)),(some 57,(.load 31 (.tmp 56)),some (55,false)),(some 58,(.call ⟨(.builtin .len),#[(.tmp 57)],#[31]⟩),some (55,false)),(some 59,(.move (.tmp 9)),some (55,false)),(some 60,(.call ⟨(.builtin .len),#[(.tmp 59)],#[56]⟩),some (55,false)),(some 61,(.binOp .neq 3 (.tmp 58) (.tmp 60) 3),some (55,false)),opo 62 (.pick (.tmp 55) (.const (.bool true)) (.tmp 61)),mvo 63 62,(some 64,(.fieldAddr 95 (.tmp 5) 2),some (63,false)),(some 65,(.load 31 (.tmp 64)),some (63,false)),(some 66,(.call ⟨(.builtin .len),#[(.tmp 65)],#[31]⟩),some (63,false)),(some 67,(.move (.tmp 9)),some (63,false)),(some 68,(.call ⟨(.builtin .len),#[(.tmp 67)],#[56]⟩),some (63,false)),(some 69,(.binOp .neq 3 (.tmp 66) (.tmp 68) 3),some (63,false)),opo 70 (.pick (.tmp 63) (.const (.bool true)) (.tmp 69))]:=xk
@[go_sem] theorem t24_9:TK g24_9:=tk
noncomputable def g24_10:=regAt Proofs.Try.f24 10
@[go_sem] theorem x24_10:XR 24 g24_10 [opo 4 (.assign (.const (.bool false)))]:=xk
@[go_sem] theorem t24_10:TK g24_10:=tk
noncomputable def g24_11:=regAt Proofs.Try.f24 11
@[go_sem] theorem x24_11:XR 24 g24_11 [opo 10 (.assign (.const (.int .i64 0)))]:=xk
@[go_sem] theorem t24_11:TK g24_11:=tk
noncomputable def g24_12:=regAt Proofs.Try.f24 12
@[go_sem] theorem x24_12:XR 24 g24_12 [opo 11 (.assign (.const (.int .i64 0)))]:=xk
@[go_sem] theorem t24_12:TK g24_12:=tk
noncomputable def g24_13:=regAt Proofs.Try.f24 13
@[go_sem] theorem x24_13:XR 24 g24_13 [mvo 71 11,mvo 72 9,opo 73 (.call ⟨(.builtin .len),#[(.tmp 72)],#[56]⟩),opo 74 (.binOp .lss 3 (.tmp 71) (.tmp 73) 3)]:=xk
@[go_sem] theorem t24_13:TK g24_13:=tk
noncomputable def g24_14:=regAt Proofs.Try.f24 14
@[go_sem] theorem x24_14:XR 24 g24_14 [mvo 77 9,mvo 78 11,mvo 79 1,opo 80 (.convert 70 3 (.tmp 79)),opo 81 (.build 61 #[(0,(.tmp 78)),(1,(.tmp 80))]),opo 82 (.call ⟨(.value (.func 51)),#[(.tmp 77),(.tmp 81)],#[56,61]⟩),opo 12 (.alloc 61),(none,(.store 61 (.tmp 12) (.tmp 82)),none)]:=xk
@[go_sem] theorem t24_14:TK g24_14:=tk
noncomputable def g24_15:=regAt Proofs.Try.f24 15
@[go_sem] theorem x24_15:XR 24 g24_15 [fao 83 61 12 0,ldo 84 3 83,opo 85 (.binOp .lss 3 (.tmp 84) (.const (.int .i64 0)) 3),mvo 86 85,(some 87,(.fieldAddr 61 (.tmp 12) 0),some (86,false)),(some 88,(.load 3 (.tmp 87)),some (86,false)),(some 89,(.move (.tmp 9)),some (86,false)),(some 90,(.call ⟨(.builtin .len),#[(.tmp 89)],#[56]⟩),some (86,false)),(some 91,(.binOp .geq 3 (.tmp 88) (.tmp 90) 3),some (86,false)),opo 92 (.pick (.tmp 86) (.const (.bool true)) (.tmp 91))]:=xk
@[go_sem] theorem t24_15:TK g24_15:=tk
noncomputable def g24_16:=regAt Proofs.Try.f24 16
@[go_sem] theorem x24_16:XR 24 g24_16 [opo 4 (.assign (.const (.bool false)))]:=xk
@[go_sem] theorem t24_16:TK g24_16:=tk
noncomputable def g24_17:=regAt Proofs.Try.f24 17
@[go_sem] theorem x24_17:XR 24 g24_17 [mvo 93 9,fao 94 61 12 0,ldo 95 3 94,iao 96 56 93 95,ldo 97 66 96,opo 13 (.alloc 66),(none,(.store 66 (.tmp 13) (.tmp 97)),none)]:=xk
@[go_sem] theorem t24_17:TK g24_17:=tk
noncomputable def g24_18:=regAt Proofs.Try.f24 18
@[go_sem] theorem x24_18:XR 24 g24_18 [ldo 99 95 5,mvo 100 11,mvo 101 1,opo 102 (.convert 70 3 (.tmp 101)),opo 103 (.build 61 #[(0,(.tmp 100)),(1,(.tmp 102))]),opo 104 (.call ⟨(.value (.func 78)),#[(.tmp 99),(.tmp 103)],#[95,61]⟩),mvo 98 104,opo 105 (.extract (.tmp 98) 0),opo 106 (.extract (.tmp 98) 1),aso 14 105,aso 15 106]:=xk
@[go_sem] theorem t24_18:TK g24_18:=tk
noncomputable def g24_19:=regAt Proofs.Try.f24 19
@[go_sem] theorem x24_19:XR 24 g24_19 [mvo 107 14,opo 108 (.binOp .lss 3 (.tmp 107) (.const (.int .i64 0)) 3),mvo 109 108,(some 110,(.move (.tmp 14)),some (109,false)),(some 111,(.fieldAddr 95 (.tmp 5) 0),some (109,false)),(some 112,(.load 93 (.tmp 111)),some (109,false)),(some 113,(.call ⟨(.builtin .len),#[(.tmp 112)],#[93]⟩),some (109,false)),(some 114,(.binOp .geq 3 (.tmp 110) (.tmp 113) 3),some (109,false)),opo 115 (.pick (.tmp 109) (.const (.bool true)) (.tmp 114)),mvo 116 115,(some 117,(.move (.tmp 14)),some (116,false)),(some 118,(.move (.tmp 10)),some (116,false)),(some 119,(.binOp .gtr 3 (.tmp 117) (.tmp 118) 3),some (116,false)),opo 120 (.pick (.tmp 116) (.const (.bool true)) (.tmp 119)),mvo 121 120,(some 122,(.move (.tmp 14)),some (121,false)),(some 123,(.fieldAddr 95 (.tmp 5) 1),some (121,false)),(some 124,(.load 31 (.tmp 123)),some (121,false)),(some 125,(.move (.tmp 11)),some (121,false)),(some 126,(.indexAddr 31 (.tmp 124) (.tmp 125)),some (121,false)),(some 127,(.load 3 (.tmp 126)),some (121,false)),(some 128,(.binOp .neq 3 (.tmp 122) (.tmp 127) 3),some (121,false)),opo 129 (.pick (.tmp 121) (.const (.bool true)) (.tmp 128))]:=xk
@[go_sem] theorem t24_19:TK g24_19:=tk
noncomputable def g24_20:=regAt Proofs.Try.f24 20
@[go_sem] theorem x24_20:XR 24 g24_20 [opo 4 (.assign (.const (.bool false)))]:=xk
@[go_sem] theorem t24_20:TK g24_20:=tk
noncomputable def g24_21:=regAt Proofs.Try.f24 21
@[go_sem] theorem x24_21:XR 24 g24_21 [mvo 130 10,mvo 131 14,opo 132 (.binOp .add 3 (.tmp 131) (.const (.int .i64 1)) 3),opo 133 (.call ⟨(.builtin .max),#[(.tmp 130),(.tmp 132)],#[3,3]⟩),aso 10 133]:=xk
@[go_sem] theorem t24_21:TK g24_21:=tk
noncomputable def g24_22:=regAt Proofs.Try.f24 22
@[go_sem] theorem x24_22:XR 24 g24_22 [fao 134 95 5 0,ldo 135 93 134,mvo 136 14,iao 137 93 135 136,ldo 138 111 137,opo 16 (.alloc 111),(none,(.store 111 (.tmp 16) (.tmp 138)),none)]:=xk
@[go_sem] theorem t24_22:TK g24_22:=tk
noncomputable def g24_23:=regAt Proofs.Try.f24 23
@[go_sem] theorem x24_23:XUR 24 g24_23 [(0,0,[],fao 139 111 16 0),(1,0,[],ldo 140 3 139),(2,0,[0,1],fao 141 66 13 0),(3,0,[0,1],ldo 142 3 141),(4,0,[],opo 143 (.binOp .neq 3 (.tmp 140) (.tmp 142) 3)),(5,0,[],mvo 144 143),(6,0,[],(some 145,(.fieldAddr 111 (.tmp 16) 2),some (144,false))),(7,0,[],(some 146,(.load 4 (.tmp 145)),some (144,false))),(8,0,[6,7],(some 147,(.fieldAddr 66 (.tmp 13) 2),some (144,false))),(9,0,[6,7],(some 148,(.load 4 (.tmp 147)),some (144,false))),(10,0,[],(some 149,(.binOp .neq 4 (.tmp 146) (.tmp 148) 4),some (144,false))),(11,0,[],opo 150 (.pick (.tmp 144) (.const (.bool true)) (.tmp 149))),(12,0,[],mvo 151 150),(13,0,[],(some 152,(.fieldAddr 111 (.tmp 16) 4),some (151,false))),(14,0,[],(some 153,(.load 109 (.tmp 152)),some (151,false))),(15,0,[],(some 154,(.call ⟨(.builtin .len),#[(.tmp 153)],#[109]⟩),some (151,false))),(16,0,[13,14,15],(some 155,(.fieldAddr 66 (.tmp 13) 4),some (151,false))),(17,0,[13,14,15],(some 156,(.load 64 (.tmp 155)),some (151,false))),(18,0,[13,14,15],(some 157,(.call ⟨(.builtin .len),#[(.tmp 156)],#[64]⟩),some (151,false))),(19,0,[],(some 158,(.binOp .neq 3 (.tmp 154) (.tmp 157) 3),some (151,false))),(20,0,[],opo 159 (.pick (.tmp 151) (.const (.bool true)) (.tmp 158))),(21,0,[],mvo 160 159),(22,0,[],(some 161,(.fieldAddr 111 (.tmp 16) 1),some (160,false))),(23,0,[],(some 162,(.load 3 (.tmp 161)),some (160,false))),(24,0,[22,23],(some 163,(.fieldAddr 95 (.tmp 5) 1),some (160,false))),(25,0,[22,23],(some 164,(.load 31 (.tmp 163)),some (160,false))),(26,0,[22,23,24,25],(some 165,(.move (.tmp 11)),some (160,false))),(27,0,[22,23,24,25,26],(some 166,(.move (.tmp 0)),some (160,false))),(28,0,[22,23,24,25,26],(some 167,(.call ⟨(.builtin .len),#[(.tmp 166)],#[56]⟩),some (160,false))),(29,0,[22,23,24,25],(some 168,(.binOp .add 3 (.tmp 165) (.tmp 167) 3),some (160,false))),(30,0,[22,23,24,25,26,27,28,29],(some 169,(.move (.tmp 9)),some (160,false))),(31,0,[22,23,24,25,26,27,28,29],(some 170,(.call ⟨(.builtin .len),#[(.tmp 169)],#[56]⟩),some (160,false))),(32,0,[22,23,24,25],(some 171,(.binOp .rem 3 (.tmp 168) (.tmp 170) 3),some (160,false))),(33,0,[22,23],(some 172,(.indexAddr 31 (.tmp 164) (.tmp 171)),some (160,false))),(34,0,[22,23],(some 173,(.load 3 (.tmp 172)),some (160,false))),(35,0,[],(some 174,(.binOp .neq 3 (.tmp 162) (.tmp 173) 3),some (160,false))),(36,0,[],opo 175 (.pick (.tmp 160) (.const (.bool true)) (.tmp 174))),(37,0,[],mvo 176 175),(38,0,[],(some 177,(.fieldAddr 111 (.tmp 16) 1),some (176,false))),(39,0,[],(some 178,(.load 3 (.tmp 177)),some (176,false))),(40,0,[],(some 179,(.binOp .lss 3 (.tmp 178) (.const (.int .i64 0)) 3),some (176,false))),(41,0,[],opo 180 (.pick (.tmp 176) (.const (.bool true)) (.tmp 179))),(42,0,[],mvo 181 180),(43,0,[],(some 182,(.fieldAddr 111 (.tmp 16) 1),some (181,false))),(44,0,[],(some 183,(.load 3 (.tmp 182)),some (181,false))),(45,0,[43,44],(some 184,(.fieldAddr 95 (.tmp 5) 0),some (181,false))),(46,0,[43,44],(some 185,(.load 93 (.tmp 184)),some (181,false))),(47,0,[43,44],(some 186,(.call ⟨(.builtin .len),#[(.tmp 185)],#[93]⟩),some (181,false))),(48,0,[],(some 187,(.binOp .geq 3 (.tmp 183) (.tmp 186) 3),some (181,false))),(49,0,[],opo 188 (.pick (.tmp 181) (.const (.bool true)) (.tmp 187))),(50,0,[],mvo 189 188),(51,0,[],(some 190,(.fieldAddr 95 (.tmp 5) 0),some (189,false))),(52,0,[],(some 191,(.load 93 (.tmp 190)),some (189,false))),(53,0,[51,52],(some 192,(.fieldAddr 111 (.tmp 16) 1),some (189,false))),(54,0,[51,52],(some 193,(.load 3 (.tmp 192)),some (189,false))),(55,0,[],(some 194,(.indexAddr 93 (.tmp 191) (.tmp 193)),some (189,false))),(56,0,[],(some 195,(.fieldAddr 111 (.tmp 194) 1),some (189,false))),(57,0,[],(some 196,(.load 3 (.tmp 195)),some (189,false))),(58,0,[51,52,53,54,55,56,57],(some 197,(.move (.tmp 14)),some (189,false))),(59,0,[],(some 198,(.binOp .neq 3 (.tmp 196) (.tmp 197) 3),some (189,false))),(60,0,[],opo 199 (.pick (.tmp 189) (.const (.bool true)) (.tmp 198)))] 0:=xuk
@[go_sem] theorem t24_23:TK g24_23:=tk
noncomputable def g24_24:=regAt Proofs.Try.f24 24
@[go_sem] theorem x24_24:XR 24 g24_24 [opo 4 (.assign (.const (.bool false)))]:=xk
@[go_sem] theorem t24_24:TK g24_24:=tk
noncomputable def g24_25:=regAt Proofs.Try.f24 25
@[go_sem] theorem x24_25:XR 24 g24_25 [fao 200 66 13 0,ldo 201 3 200,opo 202 (.binOp .eql 3 (.tmp 201) (.const (.int .i64 0)) 3),mvo 203 202,(some 204,(.move (.tmp 15)),some (203,true)),(some 205,(.binOp .neq 3 (.tmp 204) (.const (.int .i64 0)) 3),some (203,true)),opo 206 (.pick (.tmp 203) (.tmp 205) (.const (.bool false))),mvo 207 206,(some 208,(.fieldAddr 66 (.tmp 13) 0),some (207,false)),(some 209,(.load 3 (.tmp 208)),some (207,false)),(some 210,(.binOp .neq 3 (.tmp 209) (.const (.int .i64 0)) 3),some (207,false)),(some 211,(.move (.tmp 210)),some (207,false)),(some 212,(.move (.tmp 15)),some (211,true)),(some 213,(.fieldAddr 66 (.tmp 13) 1),some (211,true)),(some 214,(.load 3 (.tmp 213)),some (211,true)),(some 215,(.fieldAddr 61 (.tmp 12) 1),some (211,true)),(some 216,(.load 3 (.tmp 215)),some (211,true)),(some 217,(.binOp .add 3 (.tmp 214) (.tmp 216) 3),some (211,true)),(some 218,(.binOp .neq 3 (.tmp 212) (.tmp 217) 3),some (211,true)),(some 219,(.pick (.tmp 211) (.tmp 218) (.const (.bool false))),some (207,false)),opo 220 (.pick (.tmp 207) (.const (.bool true)) (.tmp 219))]:=xk
@[go_sem] theorem t24_25:TK g24_25:=tk
noncomputable def g24_26:=regAt Proofs.Try.f24 26
@[go_sem] theorem x24_26:XR 24 g24_26 [opo 4 (.assign (.const (.bool false)))]:=xk
@[go_sem] theorem t24_26:TK g24_26:=tk
noncomputable def g24_27:=regAt Proofs.Try.f24 27
@[go_sem] theorem x24_27:XR 24 g24_27 [opo 17 (.assign (.const (.int .i64 0)))]:=xk
@[go_sem] theorem t24_27:TK g24_27:=tk
noncomputable def g24_28:=regAt Proofs.Try.f24 28
@[go_sem] theorem x24_28:XR 24 g24_28 [mvo 221 17,fao 222 66 13 4,ldo 223 64 222,opo 224 (.call ⟨(.builtin .len),#[(.tmp 223)],#[64]⟩),opo 225 (.binOp .lss 3 (.tmp 221) (.tmp 224) 3)]:=xk
@[go_sem] theorem t24_28:TK g24_28:=tk
noncomputable def g24_29:=regAt Proofs.Try.f24 29
@[go_sem] theorem x24_29:XR 24 g24_29 [ldo 229 95 5,mvo 230 14,mvo 231 15,mvo 232 17,opo 233 (.call ⟨(.value (.func 80)),#[(.tmp 229),(.tmp 230),(.tmp 231),(.tmp 232)],#[95,3,3,3]⟩),mvo 228 233,opo 234 (.extract (.tmp 228) 0),opo 235 (.extract (.tmp 228) 1),aso 18 234,aso 19 235]:=xk
@[go_sem] theorem t24_29:TK g24_29:=tk
noncomputable def g24_30:=regAt Proofs.Try.f24 30
@[go_sem] theorem x24_30:XUR 24 g24_30 [(0,0,[],ldo 237 95 5),(1,0,[0],fao 238 66 13 4),(2,0,[0],ldo 239 64 238),(3,0,[0,1,2],mvo 240 17),(4,0,[0],iao 241 64 239 240),(5,0,[0],fao 242 63 241 0),(6,0,[0],ldo 243 3 242),(7,0,[0,1,2,3,4,5,6],fao 244 61 12 1),(8,0,[0,1,2,3,4,5,6],ldo 245 3 244),(9,0,[0,1,2,3,4,5,6,7,8],fao 246 66 13 4),(10,0,[0,1,2,3,4,5,6,7,8],ldo 247 64 246),(11,0,[0,1,2,3,4,5,6,7,8,9,10],mvo 248 17),(12,0,[0,1,2,3,4,5,6,7,8],iao 249 64 247 248),(13,0,[0,1,2,3,4,5,6,7,8],fao 250 63 249 1),(14,0,[0,1,2,3,4,5,6,7,8],ldo 251 3 250),(15,0,[0,1,2,3,4,5,6],opo 252 (.binOp .add 3 (.tmp 245) (.tmp 251) 3)),(16,0,[0],opo 253 (.build 61 #[(0,(.tmp 243)),(1,(.tmp 252))])),(17,0,[],opo 254 (.call ⟨(.value (.func 78)),#[(.tmp 237),(.tmp 253)],#[95,61]⟩)),(18,0,[],mvo 236 254),(19,0,[],opo 255 (.extract (.tmp 236) 0)),(20,0,[19],opo 256 (.extract (.tmp 236) 1)),(21,0,[20],aso 20 255),(22,0,[],aso 21 256)] 0:=xuk
@[go_sem] theorem t24_30:TK g24_30:=tk
noncomputable def g24_31:=regAt Proofs.Try.f24 31
@[go_sem] theorem x24_31:XUR 24 g24_31 [(0,0,[],mvo 257 18),(1,0,[0],mvo 258 20),(2,0,[],opo 259 (.binOp .neq 3 (.tmp 257) (.tmp 258) 3)),(3,0,[],mvo 260 259),(4,0,[],(some 261,(.move (.tmp 19)),some (260,false))),(5,0,[4],(some 262,(.move (.tmp 21)),some (260,false))),(6,0,[],(some 263,(.binOp .neq 3 (.tmp 261) (.tmp 262) 3),some (260,false))),(7,0,[],opo 264 (.pick (.tmp 260) (.const (.bool true)) (.tmp 263))),(8,0,[],mvo 265 264),(9,0,[],(some 266,(.fieldAddr 95 (.tmp 5) 0),some (265,false))),(10,0,[],(some 267,(.load 93 (.tmp 266)),some (265,false))),(11,0,[9,10],(some 268,(.fieldAddr 111 (.tmp 16) 1),some (265,false))),(12,0,[9,10],(some 269,(.load 3 (.tmp 268)),some (265,false))),(13,0,[],(some 270,(.indexAddr 93 (.tmp 267) (.tmp 269)),some (265,false))),(14,0,[],(some 271,(.fieldAddr 111 (.tmp 270) 4),some (265,false))),(15,0,[],(some 272,(.load 109 (.tmp 271)),some (265,false))),(16,0,[9,10,11,12,13,14,15],(some 273,(.move (.tmp 17)),some (265,false))),(17,0,[],(some 274,(.indexAddr 109 (.tmp 272) (.tmp 273)),some (265,false))),(18,0,[],(some 275,(.load 108 (.tmp 274)),some (265,false))),(19,0,[9,10,11,12,13,14,15,16,17,18],(some 276,(.fieldAddr 95 (.tmp 5) 0),some (265,false))),(20,0,[9,10,11,12,13,14,15,16,17,18],(some 277,(.load 93 (.tmp 276)),some (265,false))),(21,0,[9,10,11,12,13,14,15,16,17,18,19,20],(some 278,(.move (.tmp 18)),some (265,false))),(22,0,[9,10,11,12,13,14,15,16,17,18],(some 279,(.indexAddr 93 (.tmp 277) (.tmp 278)),some (265,false))),(23,0,[9,10,11,12,13,14,15,16,17,18],(some 280,(.fieldAddr 111 (.tmp 279) 1),some (265,false))),(24,0,[9,10,11,12,13,14,15,16,17,18],(some 281,(.load 3 (.tmp 280)),some (265,false))),(25,0,[9,10,11,12,13,14,15,16,17,18,19,20,21,22,23,24],(some 282,(.fieldAddr 111 (.tmp 16) 4),some (265,false))),(26,0,[9,10,11,12,13,14,15,16,17,18,19,20,21,22,23,24],(some 283,(.load 109 (.tmp 282)),some (265,false))),(27,0,[9,10,11,12,13,14,15,16,17,18,19,20,21,22,23,24,25,26],(some 284,(.move (.tmp 17)),some (265,false))),(28,0,[9,10,11,12,13,14,15,16,17,18,19,20,21,22,23,24],(some 285,(.indexAddr 109 (.tmp 283) (.tmp 284)),some (265,false))),(29,0,[9,10,11,12,13,14,15,16,17,18,19,20,21,22,23,24],(some 286,(.fieldAddr 108 (.tmp 285) 1),some (265,false))),(30,0,[9,10,11,12,13,14,15,16,17,18,19,20,21,22,23,24],(some 287,(.load 3 (.tmp 286)),some (265,false))),(31,0,[9,10,11,12,13,14,15,16,17,18],(some 288,(.build 108 #[(0,(.tmp 281)),(1,(.tmp 287))]),some (265,false))),(32,0,[],(some 289,(.binOp .neq 108 (.tmp 275) (.tmp 288) 108),some (265,false))),(33,0,[],opo 290 (.pick (.tmp 265) (.const (.bool true)) (.tmp 289)))] 0:=xuk
@[go_sem] theorem t24_31:TK g24_31:=tk
noncomputable def g24_32:=regAt Proofs.Try.f24 32
@[go_sem] theorem x24_32:XR 24 g24_32 [opo 4 (.assign (.const (.bool false)))]:=xk
@[go_sem] theorem t24_32:TK g24_32:=tk
noncomputable def g24_33:=regAt Proofs.Try.f24 33
@[go_sem] theorem x24_33:XR 24 g24_33 [mvo 226 17,opo 227 (.binOp .add 3 (.tmp 226) (.const (.int .i64 1)) 3),aso 17 227]:=xk
@[go_sem] theorem t24_33:TK g24_33:=tk
noncomputable def g24_34:=regAt Proofs.Try.f24 34
@[go_sem] theorem x24_34:XR 24 g24_34 [fao 291 66 13 2,ldo 292 4 291]:=xk
@[go_sem] theorem t24_34:TK g24_34:=tk
noncomputable def g24_35:=regAt Proofs.Try.f24 35
@[go_sem] theorem x24_35:XR 24 g24_35 [ldo 294 95 5,mvo 295 14,mvo 296 15,opo 297 (.call ⟨(.value (.func 82)),#[(.tmp 294),(.tmp 295),(.tmp 296)],#[95,3,3]⟩),mvo 293 297,opo 298 (.extract (.tmp 293) 0),opo 299 (.extract (.tmp 293) 1),aso 22 298,aso 23 299]:=xk
@[go_sem] theorem t24_35:TK g24_35:=tk
noncomputable def g24_36:=regAt Proofs.Try.f24 36
@[go_sem] theorem x24_36:XR 24 g24_36 [ldo 301 95 5,fao 302 66 13 3,fao 303 63 302 0,ldo 304 3 303,fao 305 61 12 1,ldo 306 3 305,fao 307 66 13 3,fao 308 63 307 1,ldo 309 3 308,opo 310 (.binOp .add 3 (.tmp 306) (.tmp 309) 3),opo 311 (.build 61 #[(0,(.tmp 304)),(1,(.tmp 310))]),opo 312 (.call ⟨(.value (.func 78)),#[(.tmp 301),(.tmp 311)],#[95,61]⟩),mvo 300 312,opo 313 (.extract (.tmp 300) 0),opo 314 (.extract (.tmp 300) 1),aso 24 313,aso 25 314]:=xk
@[go_sem] theorem t24_36:TK g24_36:=tk
noncomputable def g24_37:=regAt Proofs.Try.f24 37
@[go_sem] theorem x24_37:XUR 24 g24_37 [(0,0,[],mvo 315 22),(1,0,[0],mvo 316 24),(2,0,[],opo 317 (.binOp .neq 3 (.tmp 315) (.tmp 316) 3)),(3,0,[],mvo 318 317),(4,0,[],(some 319,(.move (.tmp 23)),some (318,false))),(5,0,[4],(some 320,(.move (.tmp 25)),some (318,false))),(6,0,[],(some 321,(.binOp .neq 3 (.tmp 319) (.tmp 320) 3),some (318,false))),(7,0,[],opo 322 (.pick (.tmp 318) (.const (.bool true)) (.tmp 321))),(8,0,[],mvo 323 322),(9,0,[],(some 324,(.fieldAddr 95 (.tmp 5) 0),some (323,false))),(10,0,[],(some 325,(.load 93 (.tmp 324)),some (323,false))),(11,0,[9,10],(some 326,(.fieldAddr 111 (.tmp 16) 1),some (323,false))),(12,0,[9,10],(some 327,(.load 3 (.tmp 326)),some (323,false))),(13,0,[],(some 328,(.indexAddr 93 (.tmp 325) (.tmp 327)),some (323,false))),(14,0,[],(some 329,(.fieldAddr 111 (.tmp 328) 3),some (323,false))),(15,0,[],(some 330,(.load 108 (.tmp 329)),some (323,false))),(16,0,[9,10,11,12,13,14,15],(some 331,(.fieldAddr 111 (.tmp 16) 3),some (323,false))),(17,0,[9,10,11,12,13,14,15],(some 332,(.load 108 (.tmp 331)),some (323,false))),(18,0,[],(some 333,(.binOp .neq 108 (.tmp 330) (.tmp 332) 108),some (323,false))),(19,0,[],opo 334 (.pick (.tmp 323) (.const (.bool true)) (.tmp 333)))] 0:=xuk
@[go_sem] theorem t24_37:TK g24_37:=tk
noncomputable def g24_38:=regAt Proofs.Try.f24 38
@[go_sem] theorem x24_38:XR 24 g24_38 [opo 4 (.assign (.const (.bool false)))]:=xk
@[go_sem] theorem t24_38:TK g24_38:=tk
noncomputable def g24_39:=regAt Proofs.Try.f24 39
@[go_sem] theorem x24_39:XR 24 g24_39 [mvo 75 11,opo 76 (.binOp .add 3 (.tmp 75) (.const (.int .i64 1)) 3),aso 11 76]:=xk
@[go_sem] theorem t24_39:TK g24_39:=tk
noncomputable def g24_40:=regAt Proofs.Try.f24 40
@[go_sem] theorem x24_40:XR 24 g24_40 [mvo 335 10,fao 336 95 5 0,ldo 337 93 336,opo 338 (.call ⟨(.builtin .len),#[(.tmp 337)],#[93]⟩),opo 339 (.binOp .eql 3 (.tmp 335) (.tmp 338) 3),aso 4 339]:=xk
@[go_sem] theorem t24_40:TK g24_40:=tk
noncomputable def l24_0:Code:=(.seq (.seq (.region 29 g24_28 false) (.cond (.tmp 225) .skip (.exit 2))) (.seq (.block 3 (.seq (.region 31 g24_29 false) (.seq (.region 32 g24_30 true) (.seq (.region 33 g24_31 true) (.cond (.tmp 290) (.seq (.region 34 g24_32 false) .ret) .skip))))) (.region 30 g24_33 false)))
theorem dl24_0{ro nt:Nat}{fr:PT}{H:Hp}:(den cx).loop ro 24 nt l24_0 fr H=xbind (ex cx (den cx) ro 24 nt (.seq (.seq (.region 29 g24_28 false) (.cond (.tmp 225) .skip (.exit 2))) (.seq (.block 3 (.seq (.region 31 g24_29 false) (.seq (.region 32 g24_30 true) (.seq (.region 33 g24_31 true) (.cond (.tmp 290) (.seq (.region 34 g24_32 false) .ret) .skip))))) (.region 30 g24_33 false))) fr H) (contR (trimmed ((den cx).loop ro 24 nt l24_0) H.length)):=den_loop_x l24_0
noncomputable def l24_1:Code:=(.seq (.seq (.region 13 g24_13 false) (.cond (.tmp 74) .skip (.exit 0))) (.seq (.block 1 (.seq (.region 15 g24_14 false) (.seq (.seq (.region 16 g24_15 false) (.cond (.tmp 92) (.seq (.region 17 g24_16 false) .ret) .skip)) (.seq (.region 18 g24_17 false) (.seq (.region 19 g24_18 false) (.seq (.seq (.region 20 g24_19 false) (.cond (.tmp 129) (.seq (.region 21 g24_20 false) .ret) .skip)) (.seq (.region 22 g24_21 false) (.seq (.region 23 g24_22 false) (.seq (.seq (.region 24 g24_23 true) (.cond (.tmp 199) (.seq (.region 25 g24_24 false) .ret) .skip)) (.seq (.seq (.region 26 g24_25 false) (.cond (.tmp 220) (.seq (.region 27 g24_26 false) .ret) .skip)) (.seq (.seq (.region 28 g24_27 false) (.block 2 (.loop l24_0))) (.seq (.region 35 g24_34 false) (.cond (.tmp 292) (.seq (.region 36 g24_35 false) (.seq (.region 37 g24_36 false) (.seq (.region 38 g24_37 true) (.cond (.tmp 334) (.seq (.region 39 g24_38 false) .ret) .skip)))) .skip))))))))))))) (.region 14 g24_39 false)))
theorem dl24_1{ro nt:Nat}{fr:PT}{H:Hp}:(den cx).loop ro 24 nt l24_1 fr H=xbind (ex cx (den cx) ro 24 nt (.seq (.seq (.region 13 g24_13 false) (.cond (.tmp 74) .skip (.exit 0))) (.seq (.block 1 (.seq (.region 15 g24_14 false) (.seq (.seq (.region 16 g24_15 false) (.cond (.tmp 92) (.seq (.region 17 g24_16 false) .ret) .skip)) (.seq (.region 18 g24_17 false) (.seq (.region 19 g24_18 false) (.seq (.seq (.region 20 g24_19 false) (.cond (.tmp 129) (.seq (.region 21 g24_20 false) .ret) .skip)) (.seq (.region 22 g24_21 false) (.seq (.region 23 g24_22 false) (.seq (.seq (.region 24 g24_23 true) (.cond (.tmp 199) (.seq (.region 25 g24_24 false) .ret) .skip)) (.seq (.seq (.region 26 g24_25 false) (.cond (.tmp 220) (.seq (.region 27 g24_26 false) .ret) .skip)) (.seq (.seq (.region 28 g24_27 false) (.block 2 (.loop l24_0))) (.seq (.region 35 g24_34 false) (.cond (.tmp 292) (.seq (.region 36 g24_35 false) (.seq (.region 37 g24_36 false) (.seq (.region 38 g24_37 true) (.cond (.tmp 334) (.seq (.region 39 g24_38 false) .ret) .skip)))) .skip))))))))))))) (.region 14 g24_39 false))) fr H) (contR (trimmed ((den cx).loop ro 24 nt l24_1) H.length)):=den_loop_x l24_1
theorem b24:Proofs.Try.f24.body=some (.seq (.region 0 g24_0 false) (.seq (.seq (.region 1 g24_1 false) (.cond (.tmp 27) (.seq (.region 2 g24_2 false) .ret) .skip)) (.seq (.region 3 g24_3 false) (.seq (.region 4 g24_4 false) (.seq (.region 5 g24_5 false) (.seq (.seq (.region 6 g24_6 false) (.cond (.tmp 41) (.seq (.region 7 g24_7 false) .ret) .skip)) (.seq (.region 8 g24_8 false) (.seq (.seq (.region 9 g24_9 false) (.cond (.tmp 70) (.seq (.region 10 g24_10 false) .ret) .skip)) (.seq (.region 11 g24_11 false) (.seq (.seq (.region 12 g24_12 false) (.block 0 (.loop l24_1))) (.seq (.region 40 g24_40 false) .ret))))))))))):=by kernel_rfl
theorem c24{h:Hd}{ro:Nat}{H:Hp}(a0 a1:AV):callB cx h ro 24 [a0,a1] H=returned cx [(.tmp 4)] (ex cx h ro 24 340 (.seq (.region 0 g24_0 false) (.seq (.seq (.region 1 g24_1 false) (.cond (.tmp 27) (.seq (.region 2 g24_2 false) .ret) .skip)) (.seq (.region 3 g24_3 false) (.seq (.region 4 g24_4 false) (.seq (.region 5 g24_5 false) (.seq (.seq (.region 6 g24_6 false) (.cond (.tmp 41) (.seq (.region 7 g24_7 false) .ret) .skip)) (.seq (.region 8 g24_8 false) (.seq (.seq (.region 9 g24_9 false) (.cond (.tmp 70) (.seq (.region 10 g24_10 false) .ret) .skip)) (.seq (.region 11 g24_11 false) (.seq (.seq (.region 12 g24_12 false) (.block 0 (.loop l24_1))) (.seq (.region 40 g24_40 false) .ret))))))))))) ((PT.nil.set 0 (drp a0)).set 1 (drp a1)) H):=by
 have hf:cx.fns 24=some Proofs.Try.f24:=by kernel_rfl
 simp only[callB,hf,funced,b24,bodied]
 rfl
end Go.Abs.Tab
