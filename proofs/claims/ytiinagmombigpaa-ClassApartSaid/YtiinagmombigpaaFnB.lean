/- Codes of this seat's functions, their regions step by step. (Printed by a program.) -/
import Derived.Test.YtiinagmombigpaaEvY
import Derived.Test.YtiinagmombigpaaFnA
set_option linter.unnecessarySimpa false
set_option linter.unusedSimpArgs false
set_option linter.unusedVariables false
namespace Go.Abs.Tab
noncomputable def g19_0:=regAt Proofs.Try.f19 0
@[go_sem] theorem x19_0:XR 19 g19_0 [opo 5 (.box 63 (.tmp 2)),opo 6 (.assign (.const (.bool false)))]:=xk
@[go_sem] theorem t19_0:TK g19_0:=tk
noncomputable def g19_1:=regAt Proofs.Try.f19 1
@[go_sem] theorem x19_1:XR 19 g19_1 [mvo 15 0,opo 16 (.call ⟨(.value (.func 63)),#[(.tmp 15)],#[56]⟩),aso 0 16]:=xk
@[go_sem] theorem t19_1:TK g19_1:=tk
noncomputable def g19_2:=regAt Proofs.Try.f19 2
@[go_sem] theorem x19_2:XR 19 g19_2 [mvo 18 0,opo 19 (.call ⟨(.value (.func 67)),#[(.tmp 18)],#[56]⟩),mvo 17 19,opo 20 (.extract (.tmp 17) 0),opo 21 (.extract (.tmp 17) 1),aso 7 20,aso 8 21]:=xk
@[go_sem] theorem t19_2:TK g19_2:=tk
noncomputable def g19_3:=regAt Proofs.Try.f19 3
@[go_sem] theorem x19_3:XR 19 g19_3 [mvo 23 0,opo 24 (.call ⟨(.value (.func 68)),#[(.tmp 23)],#[56]⟩),mvo 22 24,opo 25 (.extract (.tmp 22) 0),opo 26 (.extract (.tmp 22) 1),aso 9 25,aso 10 26]:=xk
@[go_sem] theorem t19_3:TK g19_3:=tk
noncomputable def g19_4:=regAt Proofs.Try.f19 4
@[go_sem] theorem x19_4:XR 19 g19_4 [mvo 28 0,mvo 29 1,ldo 30 63 5,opo 31 (.call ⟨(.value (.func 69)),#[(.tmp 28),(.tmp 29),(.tmp 30)],#[56,3,63]⟩),mvo 27 31,opo 32 (.extract (.tmp 27) 0),opo 33 (.extract (.tmp 27) 1),aso 11 32,aso 12 33]:=xk
@[go_sem] theorem t19_4:TK g19_4:=tk
noncomputable def g19_5:=regAt Proofs.Try.f19 5
@[go_sem] theorem x19_5:XR 19 g19_5 [mvo 35 0,mvo 36 1,ldo 37 63 5,opo 38 (.call ⟨(.value (.func 70)),#[(.tmp 35),(.tmp 36),(.tmp 37)],#[56,3,63]⟩),mvo 34 38,opo 39 (.extract (.tmp 34) 0),opo 40 (.extract (.tmp 34) 1),aso 13 39,aso 14 40]:=xk
@[go_sem] theorem t19_5:TK g19_5:=tk
noncomputable def g19_6:=regAt Proofs.Try.f19 6
@[go_sem] theorem x19_6:XR 19 g19_6 [mvo 41 7,mvo 42 9,opo 43 (.binOp .eql 3 (.tmp 41) (.tmp 42) 3),mvo 44 43,(some 45,(.move (.tmp 8)),some (44,true)),(some 46,(.move (.tmp 10)),some (44,true)),(some 47,(.binOp .eql 27 (.tmp 45) (.tmp 46) 27),some (44,true)),opo 48 (.pick (.tmp 44) (.tmp 47) (.const (.bool false))),mvo 49 48,(some 50,(.move (.tmp 11)),some (49,true)),(some 51,(.move (.tmp 13)),some (49,true)),(some 52,(.binOp .eql 3 (.tmp 50) (.tmp 51) 3),some (49,true)),opo 53 (.pick (.tmp 49) (.tmp 52) (.const (.bool false))),mvo 54 53,(some 55,(.move (.tmp 12)),some (54,true)),(some 56,(.move (.tmp 14)),some (54,true)),(some 57,(.binOp .eql 4 (.tmp 55) (.tmp 56) 4),some (54,true)),opo 58 (.pick (.tmp 54) (.tmp 57) (.const (.bool false))),mvo 59 58,(some 60,(.call ⟨(.value (.func 66)),#[],#[]⟩),some (59,true)),opo 61 (.pick (.tmp 59) (.tmp 60) (.const (.bool false))),aso 6 61]:=xk
@[go_sem] theorem t19_6:TK g19_6:=tk
theorem b19:Proofs.Try.f19.body=some (.seq (.region 0 g19_0 false) (.seq (.region 1 g19_1 false) (.seq (.region 2 g19_2 false) (.seq (.region 3 g19_3 false) (.seq (.region 4 g19_4 false) (.seq (.region 5 g19_5 false) (.seq (.region 6 g19_6 false) .ret))))))):=by kernel_rfl
theorem c19{h:Hd}{ro:Nat}{H:Hp}(a0 a1 a2:AV):callB cx h ro 19 [a0,a1,a2] H=returned cx [(.tmp 6)] (ex cx h ro 19 62 (.seq (.region 0 g19_0 false) (.seq (.region 1 g19_1 false) (.seq (.region 2 g19_2 false) (.seq (.region 3 g19_3 false) (.seq (.region 4 g19_4 false) (.seq (.region 5 g19_5 false) (.seq (.region 6 g19_6 false) .ret))))))) (((PT.nil.set 0 (drp a0)).set 1 (drp a1)).set 2 (drp a2)) H):=by
 have hf:cx.fns 19=some Proofs.Try.f19:=by kernel_rfl
 simp only[callB,hf,funced,b19,bodied]
 rfl
noncomputable def g76_0:=regAt Proofs.Try.f76 0
@[go_sem] theorem x76_0:XR 76 g76_0 [opo 0 (.assign (.const (.bool false)))]:=xk
@[go_sem] theorem t76_0:TK g76_0:=tk
noncomputable def g76_1:=regAt Proofs.Try.f76 1
@[go_sem] theorem x76_1:XR 76 g76_1 [opo 10 (.call ⟨(.value (.func 84)),#[(.const (.int .i64 1)),(.const (.int .i64 0)),(.const (.int .i64 1)),(.const (.int .i64 0))],#[3,3,3,3]⟩),opo 11 (.build 66 #[]),opo 12 (.buildSlice 56 2 #[(0,(.tmp 10)),(1,(.tmp 11))]),opo 13 (.call ⟨(.value (.func 73)),#[(.tmp 12)],#[56]⟩),mvo 9 13,opo 14 (.extract (.tmp 9) 0),opo 15 (.extract (.tmp 9) 1),opo 1 (.alloc 95),(none,(.store 95 (.tmp 1) (.tmp 14)),none),aso 2 15]:=xk
@[go_sem] theorem t76_1:TK g76_1:=tk
noncomputable def g76_2:=regAt Proofs.Try.f76 2
@[go_sem] theorem x76_2:XR 76 g76_2 [opo 17 (.call ⟨(.value (.func 84)),#[(.const (.int .i64 1)),(.const (.int .i64 0)),(.const (.int .i64 1)),(.const (.int .i64 0))],#[3,3,3,3]⟩),opo 18 (.call ⟨(.value (.func 84)),#[(.const (.int .i64 2)),(.const (.int .i64 1)),(.const (.int .i64 0)),(.const (.int .i64 3))],#[3,3,3,3]⟩),opo 19 (.call ⟨(.value (.func 84)),#[(.const (.int .i64 1)),(.const (.int .i64 5)),(.const (.int .i64 3)),(.const (.int .i64 0))],#[3,3,3,3]⟩),opo 20 (.call ⟨(.value (.func 84)),#[(.const (.int .i64 2)),(.const (.int .i64 6)),(.const (.int .i64 2)),(.const (.int .i64 3))],#[3,3,3,3]⟩),opo 21 (.buildSlice 56 4 #[(0,(.tmp 17)),(1,(.tmp 18)),(2,(.tmp 19)),(3,(.tmp 20))]),opo 22 (.call ⟨(.value (.func 73)),#[(.tmp 21)],#[56]⟩),mvo 16 22,opo 23 (.extract (.tmp 16) 0),opo 24 (.extract (.tmp 16) 1),opo 3 (.alloc 95),(none,(.store 95 (.tmp 3) (.tmp 23)),none),aso 4 24]:=xk
@[go_sem] theorem t76_2:TK g76_2:=tk
noncomputable def g76_3:=regAt Proofs.Try.f76 3
@[go_sem] theorem x76_3:XR 76 g76_3 [opo 26 (.call ⟨(.value (.func 84)),#[(.const (.int .i64 1)),(.const (.int .i64 0)),(.const (.int .i64 1)),(.const (.int .i64 0))],#[3,3,3,3]⟩),opo 27 (.call ⟨(.value (.func 84)),#[(.const (.int .i64 2)),(.const (.int .i64 1)),(.const (.int .i64 0)),(.const (.int .i64 2))],#[3,3,3,3]⟩),opo 28 (.buildSlice 56 2 #[(0,(.tmp 26)),(1,(.tmp 27))]),opo 29 (.call ⟨(.value (.func 73)),#[(.tmp 28)],#[56]⟩),mvo 25 29,opo 30 (.extract (.tmp 25) 0),opo 31 (.extract (.tmp 25) 1),opo 5 (.alloc 95),(none,(.store 95 (.tmp 5) (.tmp 30)),none),aso 6 31]:=xk
@[go_sem] theorem t76_3:TK g76_3:=tk
noncomputable def g76_4:=regAt Proofs.Try.f76 4
@[go_sem] theorem x76_4:XR 76 g76_4 [opo 33 (.call ⟨(.value (.func 84)),#[(.const (.int .i64 1)),(.const (.int .i64 0)),(.const (.int .i64 0)),(.const (.int .i64 1))],#[3,3,3,3]⟩),opo 34 (.call ⟨(.value (.func 84)),#[(.const (.int .i64 1)),(.const (.int .i64 0)),(.const (.int .i64 0)),(.const (.int .i64 2))],#[3,3,3,3]⟩),opo 35 (.build 66 #[]),opo 36 (.buildSlice 56 3 #[(0,(.tmp 33)),(1,(.tmp 34)),(2,(.tmp 35))]),opo 37 (.call ⟨(.value (.func 73)),#[(.tmp 36)],#[56]⟩),mvo 32 37,opo 38 (.extract (.tmp 32) 0),opo 39 (.extract (.tmp 32) 1),opo 7 (.alloc 95),(none,(.store 95 (.tmp 7) (.tmp 38)),none),aso 8 39]:=xk
@[go_sem] theorem t76_4:TK g76_4:=tk
noncomputable def g76_5:=regAt Proofs.Try.f76 5
@[go_sem] theorem x76_5:XR 76 g76_5 [mvo 40 2,opo 41 (.binOp .neq 27 (.tmp 40) (.const (.int .i64 0)) 27),mvo 42 41,(some 43,(.move (.tmp 4)),some (42,false)),(some 44,(.binOp .neq 27 (.tmp 43) (.const (.int .i64 0)) 27),some (42,false)),opo 45 (.pick (.tmp 42) (.const (.bool true)) (.tmp 44)),mvo 46 45,(some 47,(.move (.tmp 8)),some (46,false)),(some 48,(.binOp .neq 27 (.tmp 47) (.const (.int .i64 0)) 27),some (46,false)),opo 49 (.pick (.tmp 46) (.const (.bool true)) (.tmp 48)),mvo 50 49,(some 51,(.move (.tmp 6)),some (50,false)),(some 52,(.binOp .neq 27 (.tmp 51) (.const (.int .i64 0)) 27),some (50,false)),opo 53 (.pick (.tmp 50) (.const (.bool true)) (.tmp 52)),mvo 54 53,(some 55,(.fieldAddr 95 (.tmp 1) 0),some (54,false)),(some 56,(.load 93 (.tmp 55)),some (54,false)),(some 57,(.call ⟨(.builtin .len),#[(.tmp 56)],#[93]⟩),some (54,false)),(some 58,(.binOp .neq 3 (.tmp 57) (.const (.int .i64 3)) 3),some (54,false)),opo 59 (.pick (.tmp 54) (.const (.bool true)) (.tmp 58)),mvo 60 59,(some 61,(.fieldAddr 95 (.tmp 3) 2),some (60,false)),(some 62,(.load 31 (.tmp 61)),some (60,false)),(some 63,(.call ⟨(.builtin .len),#[(.tmp 62)],#[31]⟩),some (60,false)),(some 64,(.binOp .neq 3 (.tmp 63) (.const (.int .i64 8)) 3),some (60,false)),opo 65 (.pick (.tmp 60) (.const (.bool true)) (.tmp 64))]:=xk
@[go_sem] theorem t76_5:TK g76_5:=tk
noncomputable def g76_6:=regAt Proofs.Try.f76 6
@[go_sem] theorem x76_6:XR 76 g76_6 [opo 0 (.assign (.const (.bool false)))]:=xk
@[go_sem] theorem t76_6:TK g76_6:=tk
noncomputable def g76_7:=regAt Proofs.Try.f76 7
@[go_sem] theorem x76_7:XUR 76 g76_7 [(0,0,[],ldo 66 95 1),(1,0,[0],opo 67 (.buildSlice 31 4 #[(0,(.const (.int .i64 0))),(1,(.const (.int .i64 1))),(2,(.const (.int .i64 2))),(3,(.const (.int .i64 1)))])),(2,0,[],opo 68 (.call ⟨(.value (.func 136)),#[(.tmp 66),(.tmp 67)],#[95,31]⟩)),(3,0,[],mvo 69 68),(4,0,[],(some 70,(.fieldAddr 95 (.tmp 1) 0),some (69,true))),(5,0,[],(some 71,(.load 93 (.tmp 70)),some (69,true))),(6,0,[],(some 72,(.indexAddr 93 (.tmp 71) (.const (.int .i64 0))),some (69,true))),(7,0,[],(some 73,(.fieldAddr 111 (.tmp 72) 0),some (69,true))),(8,0,[],(some 74,(.load 3 (.tmp 73)),some (69,true))),(9,0,[],(some 75,(.binOp .eql 3 (.tmp 74) (.const (.int .i64 1)) 3),some (69,true))),(10,0,[],opo 76 (.pick (.tmp 69) (.tmp 75) (.const (.bool false)))),(11,0,[],mvo 77 76),(12,0,[],(some 78,(.fieldAddr 95 (.tmp 1) 0),some (77,true))),(13,0,[],(some 79,(.load 93 (.tmp 78)),some (77,true))),(14,0,[],(some 80,(.indexAddr 93 (.tmp 79) (.const (.int .i64 1))),some (77,true))),(15,0,[],(some 81,(.fieldAddr 111 (.tmp 80) 0),some (77,true))),(16,0,[],(some 82,(.load 3 (.tmp 81)),some (77,true))),(17,0,[],(some 83,(.binOp .eql 3 (.tmp 82) (.const (.int .i64 0)) 3),some (77,true))),(18,0,[],opo 84 (.pick (.tmp 77) (.tmp 83) (.const (.bool false)))),(19,0,[],mvo 85 84),(20,0,[],(some 86,(.fieldAddr 95 (.tmp 1) 0),some (85,true))),(21,0,[],(some 87,(.load 93 (.tmp 86)),some (85,true))),(22,0,[],(some 88,(.indexAddr 93 (.tmp 87) (.const (.int .i64 2))),some (85,true))),(23,0,[],(some 89,(.fieldAddr 111 (.tmp 88) 0),some (85,true))),(24,0,[],(some 90,(.load 3 (.tmp 89)),some (85,true))),(25,0,[],(some 91,(.binOp .eql 3 (.tmp 90) (.const (.int .i64 2)) 3),some (85,true))),(26,0,[],opo 92 (.pick (.tmp 85) (.tmp 91) (.const (.bool false)))),(27,0,[],mvo 93 92),(28,0,[],(some 94,(.load 95 (.tmp 3)),some (93,true))),(29,0,[28],(some 95,(.buildSlice 31 8 #[(0,(.const (.int .i64 0))),(1,(.const (.int .i64 1))),(2,(.const (.int .i64 0))),(3,(.const (.int .i64 1))),(4,(.const (.int .i64 2))),(5,(.const (.int .i64 3))),(6,(.const (.int .i64 2))),(7,(.const (.int .i64 3)))]),some (93,true))),(30,0,[],(some 96,(.call ⟨(.value (.func 136)),#[(.tmp 94),(.tmp 95)],#[95,31]⟩),some (93,true))),(31,0,[],opo 97 (.pick (.tmp 93) (.tmp 96) (.const (.bool false)))),(32,0,[],mvo 98 97),(33,0,[],(some 99,(.load 95 (.tmp 5)),some (98,true))),(34,0,[33],(some 100,(.buildSlice 31 4 #[(0,(.const (.int .i64 0))),(1,(.const (.int .i64 1))),(2,(.const (.int .i64 1))),(3,(.const (.int .i64 0)))]),some (98,true))),(35,0,[],(some 101,(.call ⟨(.value (.func 136)),#[(.tmp 99),(.tmp 100)],#[95,31]⟩),some (98,true))),(36,0,[],opo 102 (.pick (.tmp 98) (.tmp 101) (.const (.bool false)))),(37,0,[],mvo 103 102),(38,0,[],(some 104,(.fieldAddr 95 (.tmp 3) 2),some (103,true))),(39,0,[],(some 105,(.load 31 (.tmp 104)),some (103,true))),(40,0,[],(some 106,(.indexAddr 31 (.tmp 105) (.const (.int .i64 0))),some (103,true))),(41,0,[],(some 107,(.load 3 (.tmp 106)),some (103,true))),(42,0,[],(some 108,(.binOp .eql 3 (.tmp 107) (.const (.int .i64 0)) 3),some (103,true))),(43,0,[],opo 109 (.pick (.tmp 103) (.tmp 108) (.const (.bool false)))),(44,0,[],mvo 110 109),(45,0,[],(some 111,(.fieldAddr 95 (.tmp 3) 2),some (110,true))),(46,0,[],(some 112,(.load 31 (.tmp 111)),some (110,true))),(47,0,[],(some 113,(.indexAddr 31 (.tmp 112) (.const (.int .i64 2))),some (110,true))),(48,0,[],(some 114,(.load 3 (.tmp 113)),some (110,true))),(49,0,[],(some 115,(.binOp .eql 3 (.tmp 114) (.const (.int .i64 5)) 3),some (110,true))),(50,0,[],opo 116 (.pick (.tmp 110) (.tmp 115) (.const (.bool false)))),(51,0,[],mvo 117 116),(52,0,[],(some 118,(.fieldAddr 95 (.tmp 7) 1),some (117,true))),(53,0,[],(some 119,(.load 31 (.tmp 118)),some (117,true))),(54,0,[],(some 120,(.call ⟨(.builtin .len),#[(.tmp 119)],#[31]⟩),some (117,true))),(55,0,[],(some 121,(.binOp .eql 3 (.tmp 120) (.const (.int .i64 6)) 3),some (117,true))),(56,0,[],opo 122 (.pick (.tmp 117) (.tmp 121) (.const (.bool false)))),(57,0,[],mvo 123 122),(58,0,[],(some 124,(.fieldAddr 95 (.tmp 7) 1),some (123,true))),(59,0,[],(some 125,(.load 31 (.tmp 124)),some (123,true))),(60,0,[],(some 126,(.indexAddr 31 (.tmp 125) (.const (.int .i64 0))),some (123,true))),(61,0,[],(some 127,(.load 3 (.tmp 126)),some (123,true))),(62,0,[58,59,60,61],(some 128,(.fieldAddr 95 (.tmp 7) 1),some (123,true))),(63,0,[58,59,60,61],(some 129,(.load 31 (.tmp 128)),some (123,true))),(64,0,[58,59,60,61],(some 130,(.indexAddr 31 (.tmp 129) (.const (.int .i64 1))),some (123,true))),(65,0,[58,59,60,61],(some 131,(.load 3 (.tmp 130)),some (123,true))),(66,0,[],(some 132,(.binOp .neq 3 (.tmp 127) (.tmp 131) 3),some (123,true))),(67,0,[],opo 133 (.pick (.tmp 123) (.tmp 132) (.const (.bool false)))),(68,0,[],aso 0 133)] 0:=xuk
@[go_sem] theorem t76_7:TK g76_7:=tk
theorem b76:Proofs.Try.f76.body=some (.seq (.region 0 g76_0 false) (.seq (.region 1 g76_1 false) (.seq (.region 2 g76_2 false) (.seq (.region 3 g76_3 false) (.seq (.region 4 g76_4 false) (.seq (.seq (.region 5 g76_5 false) (.cond (.tmp 65) (.seq (.region 6 g76_6 false) .ret) .skip)) (.seq (.region 7 g76_7 true) .ret))))))):=by kernel_rfl
theorem c76{h:Hd}{ro:Nat}{H:Hp}:callB cx h ro 76 [] H=returned cx [(.tmp 0)] (ex cx h ro 76 134 (.seq (.region 0 g76_0 false) (.seq (.region 1 g76_1 false) (.seq (.region 2 g76_2 false) (.seq (.region 3 g76_3 false) (.seq (.region 4 g76_4 false) (.seq (.seq (.region 5 g76_5 false) (.cond (.tmp 65) (.seq (.region 6 g76_6 false) .ret) .skip)) (.seq (.region 7 g76_7 true) .ret))))))) PT.nil H):=by
 have hf:cx.fns 76=some Proofs.Try.f76:=by kernel_rfl
 simp only[callB,hf,funced,b76,bodied]
 rw[if_pos (of_decide_eq_true (by kernel_rfl))]
 rfl
noncomputable def g84_0:=regAt Proofs.Try.f84 0
@[go_sem] theorem x84_0:XR 84 g84_0 [opo 8 (.alloc 66)]:=xk
@[go_sem] theorem t84_0:TK g84_0:=tk
noncomputable def g84_1:=regAt Proofs.Try.f84 1
@[go_sem] theorem x84_1:XR 84 g84_1 [mvo 9 0,mvo 10 1,mvo 11 2,mvo 12 3,opo 13 (.build 63 #[(0,(.tmp 11)),(1,(.tmp 12))]),opo 14 (.buildSlice 64 1 #[(0,(.tmp 13))]),opo 15 (.build 66 #[(0,(.tmp 9)),(1,(.tmp 10)),(4,(.tmp 14))]),(none,(.store 66 (.tmp 8) (.tmp 15)),none)]:=xk
@[go_sem] theorem t84_1:TK g84_1:=tk
theorem b84:Proofs.Try.f84.body=some (.seq (.region 0 g84_0 false) (.seq (.region 1 g84_1 false) .ret)):=by kernel_rfl
theorem c84{h:Hd}{ro:Nat}{H:Hp}(a0 a1 a2 a3:AV):callB cx h ro 84 [a0,a1,a2,a3] H=returned cx [(.cell 8 66)] (ex cx h ro 84 16 (.seq (.region 0 g84_0 false) (.seq (.region 1 g84_1 false) .ret)) ((((PT.nil.set 0 (drp a0)).set 1 (drp a1)).set 2 (drp a2)).set 3 (drp a3)) H):=by
 have hf:cx.fns 84=some Proofs.Try.f84:=by kernel_rfl
 simp only[callB,hf,funced,b84,bodied]
 rfl
noncomputable def g136_0:=regAt Proofs.Try.f136 0
@[go_sem] theorem x136_0:XR 136 g136_0 [opo 2 (.box 95 (.tmp 0)),opo 4 (.assign (.const (.bool false)))]:=xk
@[go_sem] theorem t136_0:TK g136_0:=tk
noncomputable def g136_1:=regAt Proofs.Try.f136 1
@[go_sem] theorem x136_1:XR 136 g136_1 [fao 6 95 2 1,ldo 7 31 6,opo 8 (.call ⟨(.builtin .len),#[(.tmp 7)],#[31]⟩),mvo 9 1,opo 10 (.call ⟨(.builtin .len),#[(.tmp 9)],#[31]⟩),opo 11 (.binOp .neq 3 (.tmp 8) (.tmp 10) 3)]:=xk
@[go_sem] theorem t136_1:TK g136_1:=tk
noncomputable def g136_2:=regAt Proofs.Try.f136 2
@[go_sem] theorem x136_2:XR 136 g136_2 [opo 4 (.assign (.const (.bool false)))]:=xk
@[go_sem] theorem t136_2:TK g136_2:=tk
noncomputable def g136_3:=regAt Proofs.Try.f136 3
@[go_sem] theorem x136_3:XR 136 g136_3 [opo 5 (.assign (.const (.int .i64 0)))]:=xk
@[go_sem] theorem t136_3:TK g136_3:=tk
noncomputable def g136_4:=regAt Proofs.Try.f136 4
@[go_sem] theorem x136_4:XR 136 g136_4 [mvo 12 5,mvo 13 1,opo 14 (.call ⟨(.builtin .len),#[(.tmp 13)],#[31]⟩),opo 15 (.binOp .lss 3 (.tmp 12) (.tmp 14) 3)]:=xk
@[go_sem] theorem t136_4:TK g136_4:=tk
noncomputable def g136_5:=regAt Proofs.Try.f136 5
@[go_sem] theorem x136_5:XUR 136 g136_5 [(0,0,[],fao 18 95 2 1),(1,0,[],ldo 19 31 18),(2,0,[0,1],mvo 20 5),(3,0,[],iao 21 31 19 20),(4,0,[],ldo 22 3 21),(5,0,[0,1,2,3,4],mvo 23 1),(6,0,[0,1,2,3,4,5],mvo 24 5),(7,0,[0,1,2,3,4],iao 25 31 23 24),(8,0,[0,1,2,3,4],ldo 26 3 25),(9,0,[],opo 27 (.binOp .neq 3 (.tmp 22) (.tmp 26) 3))] 0:=xuk
@[go_sem] theorem t136_5:TK g136_5:=tk
noncomputable def g136_6:=regAt Proofs.Try.f136 6
@[go_sem] theorem x136_6:XR 136 g136_6 [opo 4 (.assign (.const (.bool false)))]:=xk
@[go_sem] theorem t136_6:TK g136_6:=tk
noncomputable def g136_7:=regAt Proofs.Try.f136 7
@[go_sem] theorem x136_7:XR 136 g136_7 [mvo 16 5,opo 17 (.binOp .add 3 (.tmp 16) (.const (.int .i64 1)) 3),aso 5 17]:=xk
@[go_sem] theorem t136_7:TK g136_7:=tk
noncomputable def g136_8:=regAt Proofs.Try.f136 8
@[go_sem] theorem x136_8:XR 136 g136_8 [opo 4 (.assign (.const (.bool true)))]:=xk
@[go_sem] theorem t136_8:TK g136_8:=tk
noncomputable def l136_0:Code:=(.seq (.seq (.region 4 g136_4 false) (.cond (.tmp 15) .skip (.exit 0))) (.seq (.block 1 (.seq (.region 6 g136_5 true) (.cond (.tmp 27) (.seq (.region 7 g136_6 false) .ret) .skip))) (.region 5 g136_7 false)))
theorem dl136_0{ro nt:Nat}{fr:PT}{H:Hp}:(den cx).loop ro 136 nt l136_0 fr H=xbind (ex cx (den cx) ro 136 nt (.seq (.seq (.region 4 g136_4 false) (.cond (.tmp 15) .skip (.exit 0))) (.seq (.block 1 (.seq (.region 6 g136_5 true) (.cond (.tmp 27) (.seq (.region 7 g136_6 false) .ret) .skip))) (.region 5 g136_7 false))) fr H) (contR (trimmed ((den cx).loop ro 136 nt l136_0) H.length)):=den_loop_x l136_0
theorem b136:Proofs.Try.f136.body=some (.seq (.region 0 g136_0 false) (.seq (.seq (.region 1 g136_1 false) (.cond (.tmp 11) (.seq (.region 2 g136_2 false) .ret) .skip)) (.seq (.seq (.region 3 g136_3 false) (.block 0 (.loop l136_0))) (.seq (.region 8 g136_8 false) .ret)))):=by kernel_rfl
theorem c136{h:Hd}{ro:Nat}{H:Hp}(a0 a1:AV):callB cx h ro 136 [a0,a1] H=returned cx [(.tmp 4)] (ex cx h ro 136 28 (.seq (.region 0 g136_0 false) (.seq (.seq (.region 1 g136_1 false) (.cond (.tmp 11) (.seq (.region 2 g136_2 false) .ret) .skip)) (.seq (.seq (.region 3 g136_3 false) (.block 0 (.loop l136_0))) (.seq (.region 8 g136_8 false) .ret)))) ((PT.nil.set 0 (drp a0)).set 1 (drp a1)) H):=by
 have hf:cx.fns 136=some Proofs.Try.f136:=by kernel_rfl
 simp only[callB,hf,funced,b136,bodied]
 rfl
noncomputable def g21_0:=regAt Proofs.Try.f21 0
@[go_sem] theorem x21_0:XR 21 g21_0 [opo 2 (.assign (.const (.bool false)))]:=xk
@[go_sem] theorem t21_0:TK g21_0:=tk
noncomputable def g21_1:=regAt Proofs.Try.f21 1
@[go_sem] theorem x21_1:XR 21 g21_1 [mvo 7 0,opo 8 (.call ⟨(.value (.func 72)),#[(.tmp 7)],#[56]⟩),aso 0 8]:=xk
@[go_sem] theorem t21_1:TK g21_1:=tk
noncomputable def g21_2:=regAt Proofs.Try.f21 2
@[go_sem] theorem x21_2:XR 21 g21_2 [mvo 10 0,opo 11 (.call ⟨(.value (.func 73)),#[(.tmp 10)],#[56]⟩),mvo 9 11,opo 12 (.extract (.tmp 9) 0),opo 13 (.extract (.tmp 9) 1),opo 3 (.alloc 95),(none,(.store 95 (.tmp 3) (.tmp 12)),none),aso 4 13]:=xk
@[go_sem] theorem t21_2:TK g21_2:=tk
noncomputable def g21_3:=regAt Proofs.Try.f21 3
@[go_sem] theorem x21_3:XR 21 g21_3 [mvo 15 0,opo 16 (.call ⟨(.value (.func 74)),#[(.tmp 15)],#[56]⟩),mvo 14 16,opo 17 (.extract (.tmp 14) 0),opo 18 (.extract (.tmp 14) 1),opo 5 (.alloc 95),(none,(.store 95 (.tmp 5) (.tmp 17)),none),aso 6 18]:=xk
@[go_sem] theorem t21_3:TK g21_3:=tk
noncomputable def g21_4:=regAt Proofs.Try.f21 4
@[go_sem] theorem x21_4:XR 21 g21_4 [mvo 19 4,mvo 20 6,opo 21 (.binOp .eql 27 (.tmp 19) (.tmp 20) 27),mvo 22 21,(some 23,(.load 95 (.tmp 3)),some (22,true)),(some 24,(.load 95 (.tmp 5)),some (22,true)),(some 25,(.call ⟨(.value (.func 75)),#[(.tmp 23),(.tmp 24)],#[95,95]⟩),some (22,true)),opo 26 (.pick (.tmp 22) (.tmp 25) (.const (.bool false))),mvo 27 26,(some 28,(.call ⟨(.value (.func 76)),#[],#[]⟩),some (27,true)),opo 29 (.pick (.tmp 27) (.tmp 28) (.const (.bool false))),aso 2 29]:=xk
@[go_sem] theorem t21_4:TK g21_4:=tk
theorem b21:Proofs.Try.f21.body=some (.seq (.region 0 g21_0 false) (.seq (.region 1 g21_1 false) (.seq (.region 2 g21_2 false) (.seq (.region 3 g21_3 false) (.seq (.region 4 g21_4 false) .ret))))):=by kernel_rfl
theorem c21{h:Hd}{ro:Nat}{H:Hp}(a0:AV):callB cx h ro 21 [a0] H=returned cx [(.tmp 2)] (ex cx h ro 21 30 (.seq (.region 0 g21_0 false) (.seq (.region 1 g21_1 false) (.seq (.region 2 g21_2 false) (.seq (.region 3 g21_3 false) (.seq (.region 4 g21_4 false) .ret))))) (PT.nil.set 0 (drp a0)) H):=by
 have hf:cx.fns 21=some Proofs.Try.f21:=by kernel_rfl
 simp only[callB,hf,funced,b21,bodied]
 rfl
noncomputable def g162_0:=regAt Proofs.Try.f162 0
@[go_sem] theorem x162_0:XR 162 g162_0 [opo 5 (.box 63 (.tmp 2)),opo 6 (.assign (.const (.int .i64 0))),opo 7 (.assign (.const (.int .i64 0)))]:=xk
@[go_sem] theorem t162_0:TK g162_0:=tk
noncomputable def g162_1:=regAt Proofs.Try.f162 1
@[go_sem] theorem x162_1:XR 162 g162_1 [mvo 9 0,fao 10 63 5 0,ldo 11 3 10,fao 12 63 5 1,ldo 13 3 12,opo 14 (.build 61 #[(0,(.tmp 11)),(1,(.tmp 13))]),opo 15 (.call ⟨(.value (.func 52)),#[(.tmp 9),(.tmp 14)],#[56,61]⟩),opo 8 (.alloc 61),(none,(.store 61 (.tmp 8) (.tmp 15)),none)]:=xk
@[go_sem] theorem t162_1:TK g162_1:=tk
noncomputable def g162_2:=regAt Proofs.Try.f162 2
@[go_sem] theorem x162_2:XR 162 g162_2 [mvo 16 0,fao 17 61 8 0,ldo 18 3 17,iao 19 56 16 18,fao 20 66 19 0,ldo 21 3 20,opo 22 (.binOp .eql 3 (.tmp 21) (.const (.int .i64 0)) 3)]:=xk
@[go_sem] theorem t162_2:TK g162_2:=tk
noncomputable def g162_3:=regAt Proofs.Try.f162 3
@[go_sem] theorem x162_3:XR 162 g162_3 [fao 23 61 8 0,ldo 24 3 23,aso 6 24,opo 7 (.assign (.const (.int .i64 0)))]:=xk
@[go_sem] theorem t162_3:TK g162_3:=tk
noncomputable def g162_4:=regAt Proofs.Try.f162 4
@[go_sem] theorem x162_4:XUR 162 g162_4 [(0,0,[],fao 25 61 8 0),(1,0,[],ldo 26 3 25),(2,0,[0,1],mvo 27 0),(3,0,[0,1,2],fao 28 61 8 0),(4,0,[0,1,2],ldo 29 3 28),(5,0,[0,1],iao 30 56 27 29),(6,0,[0,1],fao 31 66 30 1),(7,0,[0,1],ldo 32 3 31),(8,0,[0,1,2,3,4,5,6,7],fao 33 61 8 1),(9,0,[0,1,2,3,4,5,6,7],ldo 34 3 33),(10,0,[0,1],opo 35 (.binOp .add 3 (.tmp 32) (.tmp 34) 3)),(11,0,[0,1,2,3,4,5,6,7,8,9,10],mvo 36 0),(12,0,[0,1,2,3,4,5,6,7,8,9,10,11],mvo 37 1),(13,0,[0,1,2,3,4,5,6,7,8,9,10],iao 38 56 36 37),(14,0,[0,1,2,3,4,5,6,7,8,9,10],fao 39 66 38 1),(15,0,[0,1,2,3,4,5,6,7,8,9,10],ldo 40 3 39),(16,0,[0,1],opo 41 (.binOp .sub 3 (.tmp 35) (.tmp 40) 3)),(17,0,[2,3,4,5,6,7,8,9,10,11,12,13,14,15,16],aso 6 26),(18,0,[],aso 7 41)] 0:=xuk
@[go_sem] theorem t162_4:TK g162_4:=tk
theorem b162:Proofs.Try.f162.body=some (.seq (.region 0 g162_0 false) (.seq (.region 1 g162_1 false) (.seq (.seq (.region 2 g162_2 false) (.cond (.tmp 22) (.seq (.region 3 g162_3 false) .ret) .skip)) (.seq (.region 4 g162_4 true) .ret)))):=by kernel_rfl
theorem c162{h:Hd}{ro:Nat}{H:Hp}(a0 a1 a2:AV):callB cx h ro 162 [a0,a1,a2] H=returned cx [(.tmp 6),(.tmp 7)] (ex cx h ro 162 42 (.seq (.region 0 g162_0 false) (.seq (.region 1 g162_1 false) (.seq (.seq (.region 2 g162_2 false) (.cond (.tmp 22) (.seq (.region 3 g162_3 false) .ret) .skip)) (.seq (.region 4 g162_4 true) .ret)))) (((PT.nil.set 0 (drp a0)).set 1 (drp a1)).set 2 (drp a2)) H):=by
 have hf:cx.fns 162=some Proofs.Try.f162:=by kernel_rfl
 simp only[callB,hf,funced,b162,bodied]
 rfl
noncomputable def g22_0:=regAt Proofs.Try.f22 0
@[go_sem] theorem x22_0:XR 22 g22_0 [opo 6 (.assign (.const (.bool false)))]:=xk
@[go_sem] theorem t22_0:TK g22_0:=tk
noncomputable def g22_1:=regAt Proofs.Try.f22 1
@[go_sem] theorem x22_1:XR 22 g22_1 [opo 15 (.call ⟨(.value (.func 76)),#[],#[]⟩),opo 16 (.unOp .not 4 (.tmp 15))]:=xk
@[go_sem] theorem t22_1:TK g22_1:=tk
noncomputable def g22_2:=regAt Proofs.Try.f22 2
@[go_sem] theorem x22_2:XR 22 g22_2 [opo 6 (.assign (.const (.bool false)))]:=xk
@[go_sem] theorem t22_2:TK g22_2:=tk
noncomputable def g22_3:=regAt Proofs.Try.f22 3
@[go_sem] theorem x22_3:XR 22 g22_3 [opo 7 (.assign (.const (.slice none 0 0)))]:=xk
@[go_sem] theorem t22_3:TK g22_3:=tk
noncomputable def g22_4:=regAt Proofs.Try.f22 4
@[go_sem] theorem x22_4:XR 22 g22_4 [opo 8 (.assign (.const (.int .i64 0)))]:=xk
@[go_sem] theorem t22_4:TK g22_4:=tk
noncomputable def g22_5:=regAt Proofs.Try.f22 5
@[go_sem] theorem x22_5:XR 22 g22_5 [mvo 17 8,mvo 18 0,opo 19 (.call ⟨(.builtin .len),#[(.tmp 18)],#[56]⟩),opo 20 (.binOp .lss 3 (.tmp 17) (.tmp 19) 3),mvo 21 20,(some 22,(.move (.tmp 8)),some (21,true)),(some 23,(.binOp .lss 3 (.tmp 22) (.const (.int .i64 5)) 3),some (21,true)),opo 24 (.pick (.tmp 21) (.tmp 23) (.const (.bool false)))]:=xk
@[go_sem] theorem t22_5:TK g22_5:=tk
noncomputable def g22_6:=regAt Proofs.Try.f22 6
@[go_sem] theorem x22_6:XR 22 g22_6 [mvo 27 0,mvo 28 8,iao 29 56 27 28,ldo 30 66 29,opo 9 (.alloc 66),(none,(.store 66 (.tmp 9) (.tmp 30)),none)]:=xk
@[go_sem] theorem t22_6:TK g22_6:=tk
noncomputable def g22_7:=regAt Proofs.Try.f22 7
@[go_sem] theorem x22_7:XR 22 g22_7 [fao 31 66 9 4,ldo 32 64 31,fao 33 66 9 4,ldo 34 64 33,opo 35 (.call ⟨(.builtin .len),#[(.tmp 34)],#[64]⟩),opo 36 (.call ⟨(.builtin .min),#[(.tmp 35),(.const (.int .i64 2))],#[3,3]⟩),opo 37 (.slice 64 (.tmp 32) none (some (.tmp 36)) none),fao 38 66 9 4,(none,(.store 64 (.tmp 38) (.tmp 37)),none)]:=xk
@[go_sem] theorem t22_7:TK g22_7:=tk
noncomputable def g22_8:=regAt Proofs.Try.f22 8
@[go_sem] theorem x22_8:XR 22 g22_8 [mvo 39 7,ldo 40 66 9,opo 41 (.buildSlice 56 1 #[(0,(.tmp 40))]),opo 42 (.call ⟨(.builtin .append),#[(.tmp 39),(.tmp 41)],#[56,56]⟩),aso 7 42]:=xk
@[go_sem] theorem t22_8_39:takes g22_8 39=true:=nk
@[go_sem] theorem t22_8_40:takes g22_8 40=false:=nk
@[go_sem] theorem t22_8_41:takes g22_8 41=false:=nk
@[go_sem] theorem t22_8_42:takes g22_8 42=false:=nk
@[go_sem] theorem t22_8_7:takes g22_8 7=false:=nk
noncomputable def g22_9:=regAt Proofs.Try.f22 9
@[go_sem] theorem x22_9:XR 22 g22_9 [mvo 25 8,opo 26 (.binOp .add 3 (.tmp 25) (.const (.int .i64 1)) 3),aso 8 26]:=xk
@[go_sem] theorem t22_9:TK g22_9:=tk
noncomputable def g22_10:=regAt Proofs.Try.f22 10
@[go_sem] theorem x22_10:XR 22 g22_10 [mvo 44 7,opo 45 (.call ⟨(.value (.func 73)),#[(.tmp 44)],#[56]⟩),mvo 43 45,opo 46 (.extract (.tmp 43) 0),opo 47 (.extract (.tmp 43) 1),opo 10 (.alloc 95),(none,(.store 95 (.tmp 10) (.tmp 46)),none),aso 11 47]:=xk
@[go_sem] theorem t22_10:TK g22_10:=tk
noncomputable def g22_11:=regAt Proofs.Try.f22 11
@[go_sem] theorem x22_11:XR 22 g22_11 [mvo 48 11,opo 49 (.binOp .neq 27 (.tmp 48) (.const (.int .i64 0)) 27),mvo 50 49,(some 51,(.move (.tmp 7)),some (50,false)),(some 52,(.call ⟨(.builtin .len),#[(.tmp 51)],#[56]⟩),some (50,false)),(some 53,(.binOp .eql 3 (.tmp 52) (.const (.int .i64 0)) 3),some (50,false)),opo 54 (.pick (.tmp 50) (.const (.bool true)) (.tmp 53))]:=xk
@[go_sem] theorem t22_11:TK g22_11:=tk
noncomputable def g22_12:=regAt Proofs.Try.f22 12
@[go_sem] theorem x22_12:XR 22 g22_12 [fao 55 95 10 1,ldo 56 31 55,opo 57 (.call ⟨(.builtin .len),#[(.tmp 56)],#[31]⟩),opo 58 (.binOp .eql 3 (.tmp 57) (.const (.int .i64 0)) 3),mvo 59 58,(some 60,(.fieldAddr 95 (.tmp 10) 0),some (59,true)),(some 61,(.load 93 (.tmp 60)),some (59,true)),(some 62,(.call ⟨(.builtin .len),#[(.tmp 61)],#[93]⟩),some (59,true)),(some 63,(.binOp .eql 3 (.tmp 62) (.const (.int .i64 0)) 3),some (59,true)),opo 64 (.pick (.tmp 59) (.tmp 63) (.const (.bool false))),aso 6 64]:=xk
@[go_sem] theorem t22_12:TK g22_12:=tk
noncomputable def g22_13:=regAt Proofs.Try.f22 13
@[go_sem] theorem x22_13:XR 22 g22_13 [mvo 65 7,opo 66 (.call ⟨(.value (.func 54)),#[(.tmp 65)],#[56]⟩),aso 12 66]:=xk
@[go_sem] theorem t22_13:TK g22_13:=tk
noncomputable def g22_14:=regAt Proofs.Try.f22 14
@[go_sem] theorem x22_14:XR 22 g22_14 [mvo 67 12,opo 68 (.call ⟨(.builtin .len),#[(.tmp 67)],#[56]⟩),opo 69 (.binOp .eql 3 (.tmp 68) (.const (.int .i64 0)) 3),mvo 70 69,(some 71,(.fieldAddr 95 (.tmp 10) 1),some (70,false)),(some 72,(.load 31 (.tmp 71)),some (70,false)),(some 73,(.call ⟨(.builtin .len),#[(.tmp 72)],#[31]⟩),some (70,false)),(some 74,(.move (.tmp 12)),some (70,false)),(some 75,(.call ⟨(.builtin .len),#[(.tmp 74)],#[56]⟩),some (70,false)),(some 76,(.binOp .neq 3 (.tmp 73) (.tmp 75) 3),some (70,false)),opo 77 (.pick (.tmp 70) (.const (.bool true)) (.tmp 76))]:=xk
@[go_sem] theorem t22_14:TK g22_14:=tk
noncomputable def g22_15:=regAt Proofs.Try.f22 15
@[go_sem] theorem x22_15:XR 22 g22_15 [opo 6 (.assign (.const (.bool false)))]:=xk
@[go_sem] theorem t22_15:TK g22_15:=tk
noncomputable def g22_16:=regAt Proofs.Try.f22 16
@[go_sem] theorem x22_16:XUR 22 g22_16 [(0,0,[],mvo 78 1),(1,0,[],opo 79 (.convert 5 3 (.tmp 78))),(2,0,[0,1],mvo 80 12),(3,0,[0,1],opo 81 (.call ⟨(.builtin .len),#[(.tmp 80)],#[56]⟩)),(4,0,[],opo 82 (.binOp .rem 3 (.tmp 79) (.tmp 81) 3)),(5,0,[0,1,2,3,4],mvo 83 2),(6,0,[0,1,2,3,4],opo 84 (.convert 5 3 (.tmp 83))),(7,0,[0,1,2,3,4,5,6],mvo 85 12),(8,0,[0,1,2,3,4,5,6],opo 86 (.call ⟨(.builtin .len),#[(.tmp 85)],#[56]⟩)),(9,0,[0,1,2,3,4],opo 87 (.binOp .rem 3 (.tmp 84) (.tmp 86) 3)),(10,0,[5,6,7,8,9],aso 13 82),(11,0,[],aso 14 87)] 0:=xuk
@[go_sem] theorem t22_16:TK g22_16:=tk
noncomputable def g22_17:=regAt Proofs.Try.f22 17
@[go_sem] theorem x22_17:XUR 22 g22_17 [(0,0,[],mvo 88 12),(1,0,[0],mvo 89 13),(2,0,[0,1],mvo 90 14),(3,0,[],opo 91 (.call ⟨(.value (.func 77)),#[(.tmp 88),(.tmp 89),(.tmp 90),(.const (.int .i64 9))],#[56,3,3,3]⟩)),(4,0,[0,1,2,3],fao 92 95 10 1),(5,0,[0,1,2,3],ldo 93 31 92),(6,0,[0,1,2,3,4,5],mvo 94 13),(7,0,[0,1,2,3],iao 95 31 93 94),(8,0,[0,1,2,3],ldo 96 3 95),(9,0,[0,1,2,3,4,5,6,7,8],fao 97 95 10 1),(10,0,[0,1,2,3,4,5,6,7,8],ldo 98 31 97),(11,0,[0,1,2,3,4,5,6,7,8,9,10],mvo 99 14),(12,0,[0,1,2,3,4,5,6,7,8],iao 100 31 98 99),(13,0,[0,1,2,3,4,5,6,7,8],ldo 101 3 100),(14,0,[0,1,2,3],opo 102 (.binOp .neq 3 (.tmp 96) (.tmp 101) 3)),(15,0,[],opo 103 (.binOp .eql 4 (.tmp 91) (.tmp 102) 4)),(16,0,[],aso 6 103)] 0:=xuk
@[go_sem] theorem t22_17:TK g22_17:=tk
noncomputable def l22_0:Code:=(.seq (.seq (.region 5 g22_5 false) (.cond (.tmp 24) .skip (.exit 0))) (.seq (.block 1 (.seq (.region 7 g22_6 false) (.seq (.region 8 g22_7 false) (.region 9 g22_8 false)))) (.region 6 g22_9 false)))
theorem dl22_0{ro nt:Nat}{fr:PT}{H:Hp}:(den cx).loop ro 22 nt l22_0 fr H=xbind (ex cx (den cx) ro 22 nt (.seq (.seq (.region 5 g22_5 false) (.cond (.tmp 24) .skip (.exit 0))) (.seq (.block 1 (.seq (.region 7 g22_6 false) (.seq (.region 8 g22_7 false) (.region 9 g22_8 false)))) (.region 6 g22_9 false))) fr H) (contR (trimmed ((den cx).loop ro 22 nt l22_0) H.length)):=den_loop_x l22_0
theorem b22:Proofs.Try.f22.body=some (.seq (.region 0 g22_0 false) (.seq (.seq (.region 1 g22_1 false) (.cond (.tmp 16) (.seq (.region 2 g22_2 false) .ret) .skip)) (.seq (.region 3 g22_3 false) (.seq (.seq (.region 4 g22_4 false) (.block 0 (.loop l22_0))) (.seq (.region 10 g22_10 false) (.seq (.seq (.region 11 g22_11 false) (.cond (.tmp 54) (.seq (.region 12 g22_12 false) .ret) .skip)) (.seq (.region 13 g22_13 false) (.seq (.seq (.region 14 g22_14 false) (.cond (.tmp 77) (.seq (.region 15 g22_15 false) .ret) .skip)) (.seq (.region 16 g22_16 true) (.seq (.region 17 g22_17 true) .ret)))))))))):=by kernel_rfl
theorem c22{h:Hd}{ro:Nat}{H:Hp}(a0 a1 a2:AV):callB cx h ro 22 [a0,a1,a2] H=returned cx [(.tmp 6)] (ex cx h ro 22 104 (.seq (.region 0 g22_0 false) (.seq (.seq (.region 1 g22_1 false) (.cond (.tmp 16) (.seq (.region 2 g22_2 false) .ret) .skip)) (.seq (.region 3 g22_3 false) (.seq (.seq (.region 4 g22_4 false) (.block 0 (.loop l22_0))) (.seq (.region 10 g22_10 false) (.seq (.seq (.region 11 g22_11 false) (.cond (.tmp 54) (.seq (.region 12 g22_12 false) .ret) .skip)) (.seq (.region 13 g22_13 false) (.seq (.seq (.region 14 g22_14 false) (.cond (.tmp 77) (.seq (.region 15 g22_15 false) .ret) .skip)) (.seq (.region 16 g22_16 true) (.seq (.region 17 g22_17 true) .ret)))))))))) (((PT.nil.set 0 (drp a0)).set 1 (drp a1)).set 2 (drp a2)) H):=by
 have hf:cx.fns 22=some Proofs.Try.f22:=by kernel_rfl
 simp only[callB,hf,funced,b22,bodied]
 rfl
noncomputable def g77_0:=regAt Proofs.Try.f77 0
@[go_sem] theorem x77_0:XR 77 g77_0 [opo 8 (.assign (.const (.bool false)))]:=xk
@[go_sem] theorem t77_0:TK g77_0:=tk
noncomputable def g77_1:=regAt Proofs.Try.f77 1
@[go_sem] theorem x77_1:XR 77 g77_1 [mvo 20 0,mvo 21 1,opo 22 (.build 61 #[(0,(.tmp 21))]),opo 23 (.call ⟨(.value (.func 51)),#[(.tmp 20),(.tmp 22)],#[56,61]⟩),mvo 24 0,mvo 25 2,opo 26 (.build 61 #[(0,(.tmp 25))]),opo 27 (.call ⟨(.value (.func 51)),#[(.tmp 24),(.tmp 26)],#[56,61]⟩),opo 9 (.alloc 61),opo 10 (.alloc 61),(none,(.store 61 (.tmp 9) (.tmp 23)),none),(none,(.store 61 (.tmp 10) (.tmp 27)),none)]:=xk
@[go_sem] theorem t77_1:TK g77_1:=tk
noncomputable def g77_2:=regAt Proofs.Try.f77 2
@[go_sem] theorem x77_2:XUR 77 g77_2 [(0,0,[],mvo 28 0),(1,0,[0],fao 29 61 9 0),(2,0,[0],ldo 30 3 29),(3,0,[],iao 31 56 28 30),(4,0,[],ldo 32 66 31),(5,0,[0,1,2,3,4],mvo 33 0),(6,0,[0,1,2,3,4,5],fao 34 61 10 0),(7,0,[0,1,2,3,4,5],ldo 35 3 34),(8,0,[0,1,2,3,4],iao 36 56 33 35),(9,0,[0,1,2,3,4],ldo 37 66 36),(10,0,[0,1,2,3,4,5,6,7,8,9],opo 11 (.alloc 66)),(11,1,[0,1,2,3,4,5,6,7,8,9,10],opo 12 (.alloc 66)),(12,2,[5,6,7,8,9],(none,(.store 66 (.tmp 11) (.tmp 32)),none)),(13,2,[],(none,(.store 66 (.tmp 12) (.tmp 37)),none))] 2:=xuk
@[go_sem] theorem t77_2:TK g77_2:=tk
noncomputable def g77_3:=regAt Proofs.Try.f77 3
@[go_sem] theorem x77_3:XR 77 g77_3 [fao 38 66 11 0,ldo 39 3 38,fao 40 66 12 0,ldo 41 3 40,opo 42 (.binOp .neq 3 (.tmp 39) (.tmp 41) 3),mvo 43 42,(some 44,(.fieldAddr 66 (.tmp 11) 2),some (43,false)),(some 45,(.load 4 (.tmp 44)),some (43,false)),(some 46,(.fieldAddr 66 (.tmp 12) 2),some (43,false)),(some 47,(.load 4 (.tmp 46)),some (43,false)),(some 48,(.binOp .neq 4 (.tmp 45) (.tmp 47) 4),some (43,false)),opo 49 (.pick (.tmp 43) (.const (.bool true)) (.tmp 48)),mvo 50 49,(some 51,(.fieldAddr 66 (.tmp 11) 4),some (50,false)),(some 52,(.load 64 (.tmp 51)),some (50,false)),(some 53,(.call ⟨(.builtin .len),#[(.tmp 52)],#[64]⟩),some (50,false)),(some 54,(.fieldAddr 66 (.tmp 12) 4),some (50,false)),(some 55,(.load 64 (.tmp 54)),some (50,false)),(some 56,(.call ⟨(.builtin .len),#[(.tmp 55)],#[64]⟩),some (50,false)),(some 57,(.binOp .neq 3 (.tmp 53) (.tmp 56) 3),some (50,false)),opo 58 (.pick (.tmp 50) (.const (.bool true)) (.tmp 57))]:=xk
@[go_sem] theorem t77_3:TK g77_3:=tk
noncomputable def g77_4:=regAt Proofs.Try.f77 4
@[go_sem] theorem x77_4:XR 77 g77_4 [opo 8 (.assign (.const (.bool true)))]:=xk
@[go_sem] theorem t77_4:TK g77_4:=tk
noncomputable def g77_5:=regAt Proofs.Try.f77 5
@[go_sem] theorem x77_5:XR 77 g77_5 [opo 13 (.assign (.const (.slice none 0 0))),opo 14 (.assign (.const (.slice none 0 0)))]:=xk
@[go_sem] theorem t77_5:TK g77_5:=tk
noncomputable def g77_6:=regAt Proofs.Try.f77 6
@[go_sem] theorem x77_6:XR 77 g77_6 [mvo 59 13,fao 60 66 11 4,ldo 61 64 60,opo 62 (.call ⟨(.builtin .append),#[(.tmp 59),(.tmp 61)],#[64,64]⟩),aso 13 62]:=xk
@[go_sem] theorem t77_6_59:takes g77_6 59=true:=nk
@[go_sem] theorem t77_6_60:takes g77_6 60=false:=nk
@[go_sem] theorem t77_6_61:takes g77_6 61=false:=nk
@[go_sem] theorem t77_6_62:takes g77_6 62=false:=nk
@[go_sem] theorem t77_6_13:takes g77_6 13=false:=nk
noncomputable def g77_7:=regAt Proofs.Try.f77 7
@[go_sem] theorem x77_7:XR 77 g77_7 [mvo 63 14,fao 64 66 12 4,ldo 65 64 64,opo 66 (.call ⟨(.builtin .append),#[(.tmp 63),(.tmp 65)],#[64,64]⟩),aso 14 66]:=xk
@[go_sem] theorem t77_7_63:takes g77_7 63=true:=nk
@[go_sem] theorem t77_7_64:takes g77_7 64=false:=nk
@[go_sem] theorem t77_7_65:takes g77_7 65=false:=nk
@[go_sem] theorem t77_7_66:takes g77_7 66=false:=nk
@[go_sem] theorem t77_7_14:takes g77_7 14=false:=nk
noncomputable def g77_8:=regAt Proofs.Try.f77 8
@[go_sem] theorem x77_8:XR 77 g77_8 [fao 67 66 11 2,ldo 68 4 67]:=xk
@[go_sem] theorem t77_8:TK g77_8:=tk
noncomputable def g77_9:=regAt Proofs.Try.f77 9
@[go_sem] theorem x77_9:XR 77 g77_9 [mvo 69 13,fao 70 66 11 3,ldo 71 63 70,opo 72 (.buildSlice 64 1 #[(0,(.tmp 71))]),opo 73 (.call ⟨(.builtin .append),#[(.tmp 69),(.tmp 72)],#[64,64]⟩),aso 13 73]:=xk
@[go_sem] theorem t77_9_69:takes g77_9 69=true:=nk
@[go_sem] theorem t77_9_70:takes g77_9 70=false:=nk
@[go_sem] theorem t77_9_71:takes g77_9 71=false:=nk
@[go_sem] theorem t77_9_72:takes g77_9 72=false:=nk
@[go_sem] theorem t77_9_73:takes g77_9 73=false:=nk
@[go_sem] theorem t77_9_13:takes g77_9 13=false:=nk
noncomputable def g77_10:=regAt Proofs.Try.f77 10
@[go_sem] theorem x77_10:XR 77 g77_10 [mvo 74 14,fao 75 66 12 3,ldo 76 63 75,opo 77 (.buildSlice 64 1 #[(0,(.tmp 76))]),opo 78 (.call ⟨(.builtin .append),#[(.tmp 74),(.tmp 77)],#[64,64]⟩),aso 14 78]:=xk
@[go_sem] theorem t77_10_74:takes g77_10 74=true:=nk
@[go_sem] theorem t77_10_75:takes g77_10 75=false:=nk
@[go_sem] theorem t77_10_76:takes g77_10 76=false:=nk
@[go_sem] theorem t77_10_77:takes g77_10 77=false:=nk
@[go_sem] theorem t77_10_78:takes g77_10 78=false:=nk
@[go_sem] theorem t77_10_14:takes g77_10 14=false:=nk
noncomputable def g77_11:=regAt Proofs.Try.f77 11
@[go_sem] theorem x77_11:XR 77 g77_11 [opo 15 (.assign (.const (.int .i64 0)))]:=xk
@[go_sem] theorem t77_11:TK g77_11:=tk
noncomputable def g77_12:=regAt Proofs.Try.f77 12
@[go_sem] theorem x77_12:XR 77 g77_12 [mvo 79 15,mvo 80 13,opo 81 (.call ⟨(.builtin .len),#[(.tmp 80)],#[64]⟩),opo 82 (.binOp .lss 3 (.tmp 79) (.tmp 81) 3)]:=xk
@[go_sem] theorem t77_12:TK g77_12:=tk
noncomputable def g77_13:=regAt Proofs.Try.f77 13
@[go_sem] theorem x77_13:XUR 77 g77_13 [(0,0,[],mvo 86 0),(1,0,[0],fao 87 61 9 0),(2,0,[0],ldo 88 3 87),(3,0,[0,1,2],mvo 89 13),(4,0,[0,1,2,3],mvo 90 15),(5,0,[0,1,2],iao 91 64 89 90),(6,0,[0,1,2],ldo 92 63 91),(7,0,[],opo 93 (.call ⟨(.value (.func 69)),#[(.tmp 86),(.tmp 88),(.tmp 92)],#[56,3,63]⟩)),(8,0,[],mvo 85 93),(9,0,[],opo 94 (.extract (.tmp 85) 0)),(10,0,[9],opo 95 (.extract (.tmp 85) 1)),(11,0,[10],aso 16 94),(12,0,[],aso 17 95)] 0:=xuk
@[go_sem] theorem t77_13:TK g77_13:=tk
noncomputable def g77_14:=regAt Proofs.Try.f77 14
@[go_sem] theorem x77_14:XUR 77 g77_14 [(0,0,[],mvo 97 0),(1,0,[0],fao 98 61 10 0),(2,0,[0],ldo 99 3 98),(3,0,[0,1,2],mvo 100 14),(4,0,[0,1,2,3],mvo 101 15),(5,0,[0,1,2],iao 102 64 100 101),(6,0,[0,1,2],ldo 103 63 102),(7,0,[],opo 104 (.call ⟨(.value (.func 69)),#[(.tmp 97),(.tmp 99),(.tmp 103)],#[56,3,63]⟩)),(8,0,[],mvo 96 104),(9,0,[],opo 105 (.extract (.tmp 96) 0)),(10,0,[9],opo 106 (.extract (.tmp 96) 1)),(11,0,[10],aso 18 105),(12,0,[],aso 19 106)] 0:=xuk
@[go_sem] theorem t77_14:TK g77_14:=tk
noncomputable def g77_15:=regAt Proofs.Try.f77 15
@[go_sem] theorem x77_15:XUR 77 g77_15 [(0,0,[],mvo 107 16),(1,0,[0],mvo 108 18),(2,0,[],opo 109 (.binOp .neq 3 (.tmp 107) (.tmp 108) 3)),(3,0,[],mvo 110 109),(4,0,[],(some 111,(.move (.tmp 17)),some (110,false))),(5,0,[4],(some 112,(.move (.tmp 19)),some (110,false))),(6,0,[],(some 113,(.binOp .neq 4 (.tmp 111) (.tmp 112) 4),some (110,false))),(7,0,[],opo 114 (.pick (.tmp 110) (.const (.bool true)) (.tmp 113))),(8,0,[],mvo 115 114),(9,0,[],(some 116,(.move (.tmp 3)),some (115,false))),(10,0,[],(some 117,(.binOp .gtr 3 (.tmp 116) (.const (.int .i64 0)) 3),some (115,false))),(11,0,[],(some 118,(.move (.tmp 117)),some (115,false))),(12,0,[],(some 119,(.move (.tmp 0)),some (118,true))),(13,0,[12],(some 120,(.move (.tmp 13)),some (118,true))),(14,0,[12,13],(some 121,(.move (.tmp 15)),some (118,true))),(15,0,[12],(some 122,(.indexAddr 64 (.tmp 120) (.tmp 121)),some (118,true))),(16,0,[12],(some 123,(.fieldAddr 63 (.tmp 122) 0),some (118,true))),(17,0,[12],(some 124,(.load 3 (.tmp 123)),some (118,true))),(18,0,[12,13,14,15,16,17],(some 125,(.move (.tmp 14)),some (118,true))),(19,0,[12,13,14,15,16,17,18],(some 126,(.move (.tmp 15)),some (118,true))),(20,0,[12,13,14,15,16,17],(some 127,(.indexAddr 64 (.tmp 125) (.tmp 126)),some (118,true))),(21,0,[12,13,14,15,16,17],(some 128,(.fieldAddr 63 (.tmp 127) 0),some (118,true))),(22,0,[12,13,14,15,16,17],(some 129,(.load 3 (.tmp 128)),some (118,true))),(23,0,[12,13,14,15,16,17,18,19,20,21,22],(some 130,(.move (.tmp 3)),some (118,true))),(24,0,[12,13,14,15,16,17,18,19,20,21,22],(some 131,(.binOp .sub 3 (.tmp 130) (.const (.int .i64 1)) 3),some (118,true))),(25,0,[],(some 132,(.call ⟨(.value (.func 77)),#[(.tmp 119),(.tmp 124),(.tmp 129),(.tmp 131)],#[56,3,3,3]⟩),some (118,true))),(26,0,[],(some 133,(.pick (.tmp 118) (.tmp 132) (.const (.bool false))),some (115,false))),(27,0,[],opo 134 (.pick (.tmp 115) (.const (.bool true)) (.tmp 133)))] 0:=xuk
@[go_sem] theorem t77_15:TK g77_15:=tk
noncomputable def g77_16:=regAt Proofs.Try.f77 16
@[go_sem] theorem x77_16:XR 77 g77_16 [opo 8 (.assign (.const (.bool true)))]:=xk
@[go_sem] theorem t77_16:TK g77_16:=tk
noncomputable def g77_17:=regAt Proofs.Try.f77 17
@[go_sem] theorem x77_17:XR 77 g77_17 [mvo 83 15,opo 84 (.binOp .add 3 (.tmp 83) (.const (.int .i64 1)) 3),aso 15 84]:=xk
@[go_sem] theorem t77_17:TK g77_17:=tk
noncomputable def g77_18:=regAt Proofs.Try.f77 18
@[go_sem] theorem x77_18:XR 77 g77_18 [opo 8 (.assign (.const (.bool false)))]:=xk
@[go_sem] theorem t77_18:TK g77_18:=tk
noncomputable def l77_0:Code:=(.seq (.seq (.region 12 g77_12 false) (.cond (.tmp 82) .skip (.exit 0))) (.seq (.block 1 (.seq (.region 14 g77_13 true) (.seq (.region 15 g77_14 true) (.seq (.region 16 g77_15 true) (.cond (.tmp 134) (.seq (.region 17 g77_16 false) .ret) .skip))))) (.region 13 g77_17 false)))
theorem dl77_0{ro nt:Nat}{fr:PT}{H:Hp}:(den cx).loop ro 77 nt l77_0 fr H=xbind (ex cx (den cx) ro 77 nt (.seq (.seq (.region 12 g77_12 false) (.cond (.tmp 82) .skip (.exit 0))) (.seq (.block 1 (.seq (.region 14 g77_13 true) (.seq (.region 15 g77_14 true) (.seq (.region 16 g77_15 true) (.cond (.tmp 134) (.seq (.region 17 g77_16 false) .ret) .skip))))) (.region 13 g77_17 false))) fr H) (contR (trimmed ((den cx).loop ro 77 nt l77_0) H.length)):=den_loop_x l77_0
theorem b77:Proofs.Try.f77.body=some (.seq (.region 0 g77_0 false) (.seq (.region 1 g77_1 false) (.seq (.region 2 g77_2 true) (.seq (.seq (.region 3 g77_3 false) (.cond (.tmp 58) (.seq (.region 4 g77_4 false) .ret) .skip)) (.seq (.region 5 g77_5 false) (.seq (.region 6 g77_6 false) (.seq (.region 7 g77_7 false) (.seq (.seq (.region 8 g77_8 false) (.cond (.tmp 68) (.seq (.region 9 g77_9 false) (.region 10 g77_10 false)) .skip)) (.seq (.seq (.region 11 g77_11 false) (.block 0 (.loop l77_0))) (.seq (.region 18 g77_18 false) .ret)))))))))):=by kernel_rfl
theorem c77{h:Hd}{ro:Nat}{H:Hp}(a0 a1 a2 a3:AV):callB cx h ro 77 [a0,a1,a2,a3] H=returned cx [(.tmp 8)] (ex cx h ro 77 135 (.seq (.region 0 g77_0 false) (.seq (.region 1 g77_1 false) (.seq (.region 2 g77_2 true) (.seq (.seq (.region 3 g77_3 false) (.cond (.tmp 58) (.seq (.region 4 g77_4 false) .ret) .skip)) (.seq (.region 5 g77_5 false) (.seq (.region 6 g77_6 false) (.seq (.region 7 g77_7 false) (.seq (.seq (.region 8 g77_8 false) (.cond (.tmp 68) (.seq (.region 9 g77_9 false) (.region 10 g77_10 false)) .skip)) (.seq (.seq (.region 11 g77_11 false) (.block 0 (.loop l77_0))) (.seq (.region 18 g77_18 false) .ret)))))))))) ((((PT.nil.set 0 (drp a0)).set 1 (drp a1)).set 2 (drp a2)).set 3 (drp a3)) H):=by
 have hf:cx.fns 77=some Proofs.Try.f77:=by kernel_rfl
 simp only[callB,hf,funced,b77,bodied]
 rfl
end Go.Abs.Tab
