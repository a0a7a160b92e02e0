/- Codes of this seat's functions, their regions step by step. (Printed by a program.) -/
import Derived.Test.YtiinagmombigpaaEvY
import Derived.Test.YtiinagmombigpaaFnA
set_option linter.unnecessarySimpa false
set_option linter.unusedSimpArgs false
set_option linter.unusedVariables false
namespace Go.Abs.Tab
noncomputable def g19_0:=regAt Proofs.Try.f19 0
@[go_sem] theorem x19_0:XR 19 g19_0 [opo 5 (.box 63 (.tmp 2)),opo 6 (.assign (.const (.bool false)))]:=xk
@[go_sem] theorem t19_0:TK g19_0:=tk
noncomputable def g19_1:=regAt Proofs.Try.f19 1
@[go_sem] theorem x19_1:XR 19 g19_1 [mvo 15 0,opo 16 (.call ⟨(.value (.func 63)),#[(.tmp 15)],#[56]⟩),aso 0 16]:=xk
@[go_sem] theorem t19_1:TK g19_1:=tk
noncomputable def g19_2:=regAt Proofs.Try.f19 2
@[go_sem] theorem x19_2:XR 19 g19_2 [mvo 18 0,opo 19 (.call ⟨(.value (.func 67)),#[(.tmp 18)],#[56]⟩),mvo 17 19,opo 20 (.extract (.tmp 17) 0),opo 21 (.extract (.tmp 17) 1),aso 7 20,aso 8 21]:=xk
@[go_sem] theorem t19_2:TK g19_2:=tk
noncomputable def g19_3:=regAt Proofs.Try.f19 3
@[go_sem] theorem x19_3:XR 19 g19_3 [mvo 23 0,opo 24 (.call ⟨(.value (.func 68)),#[(.tmp 23)],#[56]⟩),mvo 22 24,opo 25 (.extract (.tmp 22) 0),opo 26 (.extract (.tmp 22) 1),aso 9 25,aso 10 26]:=xk
@[go_sem] theorem t19_3:TK g19_3:=tk
noncomputable def g19_4:=regAt Proofs.Try.f19 4
@[go_sem] theorem x19_4:XR 19 g19_4 [mvo 28 0,mvo 29 1,ldo 30 63 5,opo 31 (.call ⟨(.value (.func 69)),#[(.tmp 28),(.tmp 29),(.tmp 30)],#[56,3,63]⟩),mvo 27 31,opo 32 (.extract (.tmp 27) 0),opo 33 (.extract (.tmp 27) 1),aso 11 32,aso 12 33]:=xk
@[go_sem] theorem t19_4:TK g19_4:=tk
noncomputable def g19_5:=regAt Proofs.Try.f19 5
@[go_sem] theorem x19_5:XR 19 g19_5 [mvo 35 0,mvo 36 1,ldo 37 63 5,opo 38 (.call ⟨(.value (.func 70)),#[(.tmp 35),(.tmp 36),(.tmp 37)],#[56,3,63]⟩),mvo 34 38,opo 39 (.extract (.tmp 34) 0),opo 40 (.extract (.tmp 34) 1),aso 13 39,aso 14 40]:=xk
@[go_sem] theorem t19_5:TK g19_5:=tk
noncomputable def g19_6:=regAt Proofs.Try.f19 6
@[go_sem] theorem x19_6:XR 19 g19_6 [mvo 41 7,mvo 42 9,opo 43 (.binOp .eql 3 (.tmp 41) (.tmp 42) 3),mvo 44 43,(some 45,(.move (.tmp 8)),some (44,true)),(some 46,(.move (.tmp 10)),some (44,true)),(some 47,(.binOp .eql 27 (.tmp 45) (.tmp 46) 27),some (44,true)),opo 48 (.pick (.tmp 44) (.tmp 47) (.const (.bool false))),mvo 49 48,(some 50,(.move (.tmp 11)),some (49,true)),(some 51,(.move (.tmp 13)),some (49,true)),(some 52,(.binOp .eql 3 (.tmp 50) (.tmp 51) 3),some (49,true)),opo 53 (.pick (.tmp 49) (.tmp 52) (.const (.bool false))),mvo 54 53,(some 55,(.move (.tmp 12)),some (54,true)),(some 56,(.move (.tmp 14)),some (54,true)),(some 57,(.binOp .eql 4 (.tmp 55) (.tmp 56) 4),some (54,true)),opo 58 (.pick (.tmp 54) (.tmp 57) (.const (.bool false))),mvo 59 58,(some 60,(.call ⟨(.value (.func 66)),#[],#[]⟩),some (59,true)),opo 61 (.pick (.tmp 59) (.tmp 60) (.const (.bool false))),aso 6 61]:=xk
@[go_sem] theorem t19_6:TK g19_6:=tk
theorem b19:Proofs.Try.f19.body=some (.seq (.region 0 g19_0 false) (.seq (.region 1 g19_1 false) (.seq (.region 2 g19_2 false) (.seq (.region 3 g19_3 false) (.seq (.region 4 g19_4 false) (.seq (.region 5 g19_5 false) (.seq (.region 6 g19_6 false) .ret))))))):=by kernel_rfl
theorem c19{h:Hd}{ro:Nat}{H:Hp}(a0 a1 a2:AV):callB cx h ro 19 [a0,a1,a2] H=returned cx [(.tmp 6)] (ex cx h ro 19 62 (.seq (.region 0 g19_0 false) (.seq (.region 1 g19_1 false) (.seq (.region 2 g19_2 false) (.seq (.region 3 g19_3 false) (.seq (.region 4 g19_4 false) (.seq (.region 5 g19_5 false) (.seq (.region 6 g19_6 false) .ret))))))) (((PT.nil.set 0 (drp a0)).set 1 (drp a1)).set 2 (drp a2)) H):=by
 have hf:cx.fns 19=some Proofs.Try.f19:=by kernel_rfl
 simp only[callB,hf,funced,b19,bodied]
 rfl
noncomputable def g21_0:=regAt Proofs.Try.f21 0
@[go_sem] theorem x21_0:XR 21 g21_0 [opo 2 (.assign (.const (.bool false)))]:=xk
@[go_sem] theorem t21_0:TK g21_0:=tk
noncomputable def g21_1:=regAt Proofs.Try.f21 1
@[go_sem] theorem x21_1:XR 21 g21_1 [mvo 7 0,opo 8 (.call ⟨(.value (.func 72)),#[(.tmp 7)],#[56]⟩),aso 0 8]:=xk
@[go_sem] theorem t21_1:TK g21_1:=tk
noncomputable def g21_2:=regAt Proofs.Try.f21 2
@[go_sem] theorem x21_2:XR 21 g21_2 [mvo 10 0,opo 11 (.call ⟨(.value (.func 73)),#[(.tmp 10)],#[56]⟩),mvo 9 11,opo 12 (.extract (.tmp 9) 0),opo 13 (.extract (.tmp 9) 1),opo 3 (.alloc 95),(none,(.store 95 (.tmp 3) (.tmp 12)),none),aso 4 13]:=xk
@[go_sem] theorem t21_2:TK g21_2:=tk
noncomputable def g21_3:=regAt Proofs.Try.f21 3
@[go_sem] theorem x21_3:XR 21 g21_3 [mvo 15 0,opo 16 (.call ⟨(.value (.func 74)),#[(.tmp 15)],#[56]⟩),mvo 14 16,opo 17 (.extract (.tmp 14) 0),opo 18 (.extract (.tmp 14) 1),opo 5 (.alloc 95),(none,(.store 95 (.tmp 5) (.tmp 17)),none),aso 6 18]:=xk
@[go_sem] theorem t21_3:TK g21_3:=tk
noncomputable def g21_4:=regAt Proofs.Try.f21 4
@[go_sem] theorem x21_4:XR 21 g21_4 [mvo 19 4,mvo 20 6,opo 21 (.binOp .eql 27 (.tmp 19) (.tmp 20) 27),mvo 22 21,(some 23,(.load 95 (.tmp 3)),some (22,true)),(some 24,(.load 95 (.tmp 5)),some (22,true)),(some 25,(.call ⟨(.value (.func 75)),#[(.tmp 23),(.tmp 24)],#[95,95]⟩),some (22,true)),opo 26 (.pick (.tmp 22) (.tmp 25) (.const (.bool false))),mvo 27 26,(some 28,(.call ⟨(.value (.func 76)),#[],#[]⟩),some (27,true)),opo 29 (.pick (.tmp 27) (.tmp 28) (.const (.bool false))),aso 2 29]:=xk
@[go_sem] theorem t21_4:TK g21_4:=tk
theorem b21:Proofs.Try.f21.body=some (.seq (.region 0 g21_0 false) (.seq (.region 1 g21_1 false) (.seq (.region 2 g21_2 false) (.seq (.region 3 g21_3 false) (.seq (.region 4 g21_4 false) .ret))))):=by kernel_rfl
theorem c21{h:Hd}{ro:Nat}{H:Hp}(a0:AV):callB cx h ro 21 [a0] H=returned cx [(.tmp 2)] (ex cx h ro 21 30 (.seq (.region 0 g21_0 false) (.seq (.region 1 g21_1 false) (.seq (.region 2 g21_2 false) (.seq (.region 3 g21_3 false) (.seq (.region 4 g21_4 false) .ret))))) (PT.nil.set 0 (drp a0)) H):=by
 have hf:cx.fns 21=some Proofs.Try.f21:=by kernel_rfl
 simp only[callB,hf,funced,b21,bodied]
 rfl
noncomputable def g162_0:=regAt Proofs.Try.f162 0
@[go_sem] theorem x162_0:XR 162 g162_0 [opo 5 (.box 63 (.tmp 2)),opo 6 (.assign (.const (.int .i64 0))),opo 7 (.assign (.const (.int .i64 0)))]:=xk
@[go_sem] theorem t162_0:TK g162_0:=tk
noncomputable def g162_1:=regAt Proofs.Try.f162 1
@[go_sem] theorem x162_1:XR 162 g162_1 [mvo 9 0,fao 10 63 5 0,ldo 11 3 10,fao 12 63 5 1,ldo 13 3 12,opo 14 (.build 61 #[(0,(.tmp 11)),(1,(.tmp 13))]),opo 15 (.call ⟨(.value (.func 52)),#[(.tmp 9),(.tmp 14)],#[56,61]⟩),opo 8 (.alloc 61),(none,(.store 61 (.tmp 8) (.tmp 15)),none)]:=xk
@[go_sem] theorem t162_1:TK g162_1:=tk
noncomputable def g162_2:=regAt Proofs.Try.f162 2
@[go_sem] theorem x162_2:XR 162 g162_2 [mvo 16 0,fao 17 61 8 0,ldo 18 3 17,iao 19 56 16 18,fao 20 66 19 0,ldo 21 3 20,opo 22 (.binOp .eql 3 (.tmp 21) (.const (.int .i64 0)) 3)]:=xk
@[go_sem] theorem t162_2:TK g162_2:=tk
noncomputable def g162_3:=regAt Proofs.Try.f162 3
@[go_sem] theorem x162_3:XR 162 g162_3 [fao 23 61 8 0,ldo 24 3 23,aso 6 24,opo 7 (.assign (.const (.int .i64 0)))]:=xk
@[go_sem] theorem t162_3:TK g162_3:=tk
noncomputable def g162_4:=regAt Proofs.Try.f162 4
@[go_sem] theorem x162_4:XUR 162 g162_4 [(0,0,[],fao 25 61 8 0),(1,0,[],ldo 26 3 25),(2,0,[0,1],mvo 27 0),(3,0,[0,1,2],fao 28 61 8 0),(4,0,[0,1,2],ldo 29 3 28),(5,0,[0,1],iao 30 56 27 29),(6,0,[0,1],fao 31 66 30 1),(7,0,[0,1],ldo 32 3 31),(8,0,[0,1,2,3,4,5,6,7],fao 33 61 8 1),(9,0,[0,1,2,3,4,5,6,7],ldo 34 3 33),(10,0,[0,1],opo 35 (.binOp .add 3 (.tmp 32) (.tmp 34) 3)),(11,0,[0,1,2,3,4,5,6,7,8,9,10],mvo 36 0),(12,0,[0,1,2,3,4,5,6,7,8,9,10,11],mvo 37 1),(13,0,[0,1,2,3,4,5,6,7,8,9,10],iao 38 56 36 37),(14,0,[0,1,2,3,4,5,6,7,8,9,10],fao 39 66 38 1),(15,0,[0,1,2,3,4,5,6,7,8,9,10],ldo 40 3 39),(16,0,[0,1],opo 41 (.binOp .sub 3 (.tmp 35) (.tmp 40) 3)),(17,0,[2,3,4,5,6,7,8,9,10,11,12,13,14,15,16],aso 6 26),(18,0,[],aso 7 41)] 0:=xuk
@[go_sem] theorem t162_4:TK g162_4:=tk
theorem b162:Proofs.Try.f162.body=some (.seq (.region 0 g162_0 false) (.seq (.region 1 g162_1 false) (.seq (.seq (.region 2 g162_2 false) (.cond (.tmp 22) (.seq (.region 3 g162_3 false) .ret) .skip)) (.seq (.region 4 g162_4 true) .ret)))):=by kernel_rfl
theorem c162{h:Hd}{ro:Nat}{H:Hp}(a0 a1 a2:AV):callB cx h ro 162 [a0,a1,a2] H=returned cx [(.tmp 6),(.tmp 7)] (ex cx h ro 162 42 (.seq (.region 0 g162_0 false) (.seq (.region 1 g162_1 false) (.seq (.seq (.region 2 g162_2 false) (.cond (.tmp 22) (.seq (.region 3 g162_3 false) .ret) .skip)) (.seq (.region 4 g162_4 true) .ret)))) (((PT.nil.set 0 (drp a0)).set 1 (drp a1)).set 2 (drp a2)) H):=by
 have hf:cx.fns 162=some Proofs.Try.f162:=by kernel_rfl
 simp only[callB,hf,funced,b162,bodied]
 rfl
noncomputable def g13_0:=regAt Proofs.Try.f13 0
@[go_sem] theorem x13_0:XR 13 g13_0 [opo 2 (.assign (.const (.bool false)))]:=xk
@[go_sem] theorem t13_0:TK g13_0:=tk
noncomputable def g13_1:=regAt Proofs.Try.f13 1
@[go_sem] theorem x13_1:XR 13 g13_1 [opo 16 (.call ⟨(.value (.func 59)),#[],#[]⟩),opo 17 (.unOp .not 4 (.tmp 16))]:=xk
@[go_sem] theorem t13_1:TK g13_1:=tk
noncomputable def g13_2:=regAt Proofs.Try.f13 2
@[go_sem] theorem x13_2:XR 13 g13_2 [opo 2 (.assign (.const (.bool false)))]:=xk
@[go_sem] theorem t13_2:TK g13_2:=tk
noncomputable def g13_3:=regAt Proofs.Try.f13 3
@[go_sem] theorem x13_3:XR 13 g13_3 [mvo 18 0,mvo 19 0,opo 20 (.call ⟨(.builtin .len),#[(.tmp 19)],#[56]⟩),opo 21 (.call ⟨(.builtin .min),#[(.tmp 20),(.const (.int .i64 70))],#[3,3]⟩),opo 22 (.slice 56 (.tmp 18) none (some (.tmp 21)) none),aso 0 22]:=xk
@[go_sem] theorem t13_3:TK g13_3:=tk
noncomputable def g13_4:=regAt Proofs.Try.f13 4
@[go_sem] theorem x13_4:XR 13 g13_4 [mvo 23 0,opo 24 (.call ⟨(.value (.func 54)),#[(.tmp 23)],#[56]⟩),aso 3 24]:=xk
@[go_sem] theorem t13_4:TK g13_4:=tk
noncomputable def g13_5:=regAt Proofs.Try.f13 5
@[go_sem] theorem x13_5:XR 13 g13_5 [mvo 26 0,opo 27 (.call ⟨(.value (.func 48)),#[(.tmp 26)],#[56]⟩),mvo 25 27,opo 28 (.extract (.tmp 25) 0),opo 29 (.extract (.tmp 25) 1),aso 4 28,aso 5 29]:=xk
@[go_sem] theorem t13_5:TK g13_5:=tk
noncomputable def g13_6:=regAt Proofs.Try.f13 6
@[go_sem] theorem x13_6:XR 13 g13_6 [mvo 30 5,opo 31 (.binOp .neq 27 (.tmp 30) (.const (.int .i64 0)) 27)]:=xk
@[go_sem] theorem t13_6:TK g13_6:=tk
noncomputable def g13_7:=regAt Proofs.Try.f13 7
@[go_sem] theorem x13_7:XR 13 g13_7 [mvo 32 3,opo 33 (.call ⟨(.builtin .len),#[(.tmp 32)],#[56]⟩),opo 34 (.binOp .eql 3 (.tmp 33) (.const (.int .i64 0)) 3),aso 2 34]:=xk
@[go_sem] theorem t13_7:TK g13_7:=tk
noncomputable def g13_8:=regAt Proofs.Try.f13 8
@[go_sem] theorem x13_8:XR 13 g13_8 [mvo 35 0,opo 36 (.call ⟨(.builtin .len),#[(.tmp 35)],#[56]⟩),aso 6 36]:=xk
@[go_sem] theorem t13_8:TK g13_8:=tk
noncomputable def g13_9:=regAt Proofs.Try.f13 9
@[go_sem] theorem x13_9:XR 13 g13_9 [mvo 37 3,opo 38 (.call ⟨(.builtin .len),#[(.tmp 37)],#[56]⟩),mvo 39 6,opo 40 (.binOp .mul 3 (.const (.int .i64 2)) (.tmp 39) 3),opo 41 (.binOp .neq 3 (.tmp 38) (.tmp 40) 3)]:=xk
@[go_sem] theorem t13_9:TK g13_9:=tk
noncomputable def g13_10:=regAt Proofs.Try.f13 10
@[go_sem] theorem x13_10:XR 13 g13_10 [opo 2 (.assign (.const (.bool false)))]:=xk
@[go_sem] theorem t13_10:TK g13_10:=tk
noncomputable def g13_11:=regAt Proofs.Try.f13 11
@[go_sem] theorem x13_11:XR 13 g13_11 [opo 7 (.assign (.const (.slice none 0 0)))]:=xk
@[go_sem] theorem t13_11:TK g13_11:=tk
noncomputable def g13_12:=regAt Proofs.Try.f13 12
@[go_sem] theorem x13_12:XR 13 g13_12 [opo 8 (.assign (.const (.int .i64 0)))]:=xk
@[go_sem] theorem t13_12:TK g13_12:=tk
noncomputable def g13_13:=regAt Proofs.Try.f13 13
@[go_sem] theorem x13_13:XR 13 g13_13 [mvo 42 8,mvo 43 6,opo 44 (.binOp .lss 3 (.tmp 42) (.tmp 43) 3)]:=xk
@[go_sem] theorem t13_13:TK g13_13:=tk
noncomputable def g13_14:=regAt Proofs.Try.f13 14
@[go_sem] theorem x13_14:XUR 13 g13_14 [(0,0,[],mvo 47 3),(1,0,[0],mvo 48 8),(2,0,[],iao 49 56 47 48),(3,0,[],ldo 50 66 49),(4,0,[0,1,2,3],mvo 51 3),(5,0,[0,1,2,3,4],mvo 52 6),(6,0,[0,1,2,3,4,5],mvo 53 8),(7,0,[0,1,2,3,4],opo 54 (.binOp .add 3 (.tmp 52) (.tmp 53) 3)),(8,0,[0,1,2,3],iao 55 56 51 54),(9,0,[0,1,2,3],ldo 56 66 55),(10,0,[0,1,2,3,4,5,6,7,8,9],opo 9 (.alloc 66)),(11,1,[0,1,2,3,4,5,6,7,8,9,10],opo 10 (.alloc 66)),(12,2,[4,5,6,7,8,9],(none,(.store 66 (.tmp 9) (.tmp 50)),none)),(13,2,[],(none,(.store 66 (.tmp 10) (.tmp 56)),none))] 2:=xuk
@[go_sem] theorem t13_14:TK g13_14:=tk
noncomputable def g13_15:=regAt Proofs.Try.f13 15
@[go_sem] theorem x13_15:XUR 13 g13_15 [(0,0,[],fao 57 66 9 0),(1,0,[],ldo 58 3 57),(2,0,[0,1],mvo 59 0),(3,0,[0,1,2],mvo 60 8),(4,0,[0,1],iao 61 56 59 60),(5,0,[0,1],fao 62 66 61 0),(6,0,[0,1],ldo 63 3 62),(7,0,[],opo 64 (.binOp .neq 3 (.tmp 58) (.tmp 63) 3)),(8,0,[],mvo 65 64),(9,0,[],(some 66,(.fieldAddr 66 (.tmp 9) 1),some (65,false))),(10,0,[],(some 67,(.load 3 (.tmp 66)),some (65,false))),(11,0,[9,10],(some 68,(.move (.tmp 0)),some (65,false))),(12,0,[9,10,11],(some 69,(.move (.tmp 8)),some (65,false))),(13,0,[9,10],(some 70,(.indexAddr 56 (.tmp 68) (.tmp 69)),some (65,false))),(14,0,[9,10],(some 71,(.fieldAddr 66 (.tmp 70) 1),some (65,false))),(15,0,[9,10],(some 72,(.load 3 (.tmp 71)),some (65,false))),(16,0,[],(some 73,(.binOp .neq 3 (.tmp 67) (.tmp 72) 3),some (65,false))),(17,0,[],opo 74 (.pick (.tmp 65) (.const (.bool true)) (.tmp 73))),(18,0,[],mvo 75 74),(19,0,[],(some 76,(.fieldAddr 66 (.tmp 9) 2),some (75,false))),(20,0,[],(some 77,(.load 4 (.tmp 76)),some (75,false))),(21,0,[19,20],(some 78,(.move (.tmp 0)),some (75,false))),(22,0,[19,20,21],(some 79,(.move (.tmp 8)),some (75,false))),(23,0,[19,20],(some 80,(.indexAddr 56 (.tmp 78) (.tmp 79)),some (75,false))),(24,0,[19,20],(some 81,(.fieldAddr 66 (.tmp 80) 2),some (75,false))),(25,0,[19,20],(some 82,(.load 4 (.tmp 81)),some (75,false))),(26,0,[],(some 83,(.binOp .neq 4 (.tmp 77) (.tmp 82) 4),some (75,false))),(27,0,[],opo 84 (.pick (.tmp 75) (.const (.bool true)) (.tmp 83))),(28,0,[],mvo 85 84),(29,0,[],(some 86,(.fieldAddr 66 (.tmp 9) 3),some (85,false))),(30,0,[],(some 87,(.load 63 (.tmp 86)),some (85,false))),(31,0,[29,30],(some 88,(.move (.tmp 0)),some (85,false))),(32,0,[29,30,31],(some 89,(.move (.tmp 8)),some (85,false))),(33,0,[29,30],(some 90,(.indexAddr 56 (.tmp 88) (.tmp 89)),some (85,false))),(34,0,[29,30],(some 91,(.fieldAddr 66 (.tmp 90) 3),some (85,false))),(35,0,[29,30],(some 92,(.load 63 (.tmp 91)),some (85,false))),(36,0,[],(some 93,(.binOp .neq 63 (.tmp 87) (.tmp 92) 63),some (85,false))),(37,0,[],opo 94 (.pick (.tmp 85) (.const (.bool true)) (.tmp 93))),(38,0,[],mvo 95 94),(39,0,[],(some 96,(.fieldAddr 66 (.tmp 9) 4),some (95,false))),(40,0,[],(some 97,(.load 64 (.tmp 96)),some (95,false))),(41,0,[39,40],(some 98,(.move (.tmp 0)),some (95,false))),(42,0,[39,40,41],(some 99,(.move (.tmp 8)),some (95,false))),(43,0,[39,40],(some 100,(.indexAddr 56 (.tmp 98) (.tmp 99)),some (95,false))),(44,0,[39,40],(some 101,(.fieldAddr 66 (.tmp 100) 4),some (95,false))),(45,0,[39,40],(some 102,(.load 64 (.tmp 101)),some (95,false))),(46,0,[],(some 103,(.call ⟨(.value (.func 60)),#[(.tmp 97),(.tmp 102)],#[64,64]⟩),some (95,false))),(47,0,[],(some 104,(.unOp .not 4 (.tmp 103)),some (95,false))),(48,0,[],opo 105 (.pick (.tmp 95) (.const (.bool true)) (.tmp 104)))] 0:=xuk
@[go_sem] theorem t13_15:TK g13_15:=tk
noncomputable def g13_16:=regAt Proofs.Try.f13 16
@[go_sem] theorem x13_16:XR 13 g13_16 [opo 2 (.assign (.const (.bool false)))]:=xk
@[go_sem] theorem t13_16:TK g13_16:=tk
noncomputable def g13_17:=regAt Proofs.Try.f13 17
@[go_sem] theorem x13_17:XR 13 g13_17 [fao 106 66 10 1,ldo 107 3 106,fao 108 66 9 1,ldo 109 3 108,opo 110 (.binOp .neq 3 (.tmp 107) (.tmp 109) 3),mvo 111 110,(some 112,(.fieldAddr 66 (.tmp 10) 2),some (111,false)),(some 113,(.load 4 (.tmp 112)),some (111,false)),(some 114,(.fieldAddr 66 (.tmp 9) 2),some (111,false)),(some 115,(.load 4 (.tmp 114)),some (111,false)),(some 116,(.binOp .neq 4 (.tmp 113) (.tmp 115) 4),some (111,false)),opo 117 (.pick (.tmp 111) (.const (.bool true)) (.tmp 116)),mvo 118 117,(some 119,(.fieldAddr 66 (.tmp 10) 3),some (118,false)),(some 120,(.load 63 (.tmp 119)),some (118,false)),(some 121,(.fieldAddr 66 (.tmp 9) 3),some (118,false)),(some 122,(.load 63 (.tmp 121)),some (118,false)),(some 123,(.binOp .neq 63 (.tmp 120) (.tmp 122) 63),some (118,false)),opo 124 (.pick (.tmp 118) (.const (.bool true)) (.tmp 123))]:=xk
@[go_sem] theorem t13_17:TK g13_17:=tk
noncomputable def g13_18:=regAt Proofs.Try.f13 18
@[go_sem] theorem x13_18:XR 13 g13_18 [opo 2 (.assign (.const (.bool false)))]:=xk
@[go_sem] theorem t13_18:TK g13_18:=tk
noncomputable def g13_19:=regAt Proofs.Try.f13 19
@[go_sem] theorem x13_19:XR 13 g13_19 [opo 125 (.buildSlice 64 0 #[]),fao 126 66 10 4,ldo 127 64 126,opo 128 (.call ⟨(.builtin .append),#[(.tmp 125),(.tmp 127)],#[64,64]⟩),fao 129 66 10 4,(none,(.store 64 (.tmp 129) (.tmp 128)),none)]:=xk
@[go_sem] theorem t13_19_125:takes g13_19 125=true:=nk
@[go_sem] theorem t13_19_126:takes g13_19 126=false:=nk
@[go_sem] theorem t13_19_127:takes g13_19 127=false:=nk
@[go_sem] theorem t13_19_128:takes g13_19 128=false:=nk
@[go_sem] theorem t13_19_129:takes g13_19 129=false:=nk
noncomputable def g13_20:=regAt Proofs.Try.f13 20
@[go_sem] theorem x13_20:XR 13 g13_20 [opo 11 (.assign (.const (.int .i64 0)))]:=xk
@[go_sem] theorem t13_20:TK g13_20:=tk
noncomputable def g13_21:=regAt Proofs.Try.f13 21
@[go_sem] theorem x13_21:XR 13 g13_21 [mvo 130 11,fao 131 66 10 4,ldo 132 64 131,opo 133 (.call ⟨(.builtin .len),#[(.tmp 132)],#[64]⟩),opo 134 (.binOp .lss 3 (.tmp 130) (.tmp 133) 3)]:=xk
@[go_sem] theorem t13_21:TK g13_21:=tk
noncomputable def g13_22:=regAt Proofs.Try.f13 22
@[go_sem] theorem x13_22:XUR 13 g13_22 [(0,0,[],fao 137 66 10 4),(1,0,[],ldo 138 64 137),(2,0,[0,1],mvo 139 11),(3,0,[0,1,2],fao 140 66 10 4),(4,0,[0,1,2],ldo 141 64 140),(5,0,[0,1,2,3,4],mvo 142 11),(6,0,[0,1,2],iao 143 64 141 142),(7,0,[0,1,2],fao 144 63 143 0),(8,0,[0,1,2],ldo 145 3 144),(9,0,[0,1,2,3,4,5,6,7,8],mvo 146 6),(10,0,[0,1,2],opo 147 (.binOp .sub 3 (.tmp 145) (.tmp 146) 3)),(11,0,[],iao 148 64 138 139),(12,0,[],fao 149 63 148 0),(13,0,[],(none,(.store 3 (.tmp 149) (.tmp 147)),none))] 0:=xuk
@[go_sem] theorem t13_22:TK g13_22:=tk
noncomputable def g13_23:=regAt Proofs.Try.f13 23
@[go_sem] theorem x13_23:XR 13 g13_23 [mvo 135 11,opo 136 (.binOp .add 3 (.tmp 135) (.const (.int .i64 1)) 3),aso 11 136]:=xk
@[go_sem] theorem t13_23:TK g13_23:=tk
noncomputable def g13_24:=regAt Proofs.Try.f13 24
@[go_sem] theorem x13_24:XR 13 g13_24 [mvo 150 7,ldo 151 66 10,opo 152 (.buildSlice 56 1 #[(0,(.tmp 151))]),opo 153 (.call ⟨(.builtin .append),#[(.tmp 150),(.tmp 152)],#[56,56]⟩),aso 7 153]:=xk
@[go_sem] theorem t13_24_150:takes g13_24 150=true:=nk
@[go_sem] theorem t13_24_151:takes g13_24 151=false:=nk
@[go_sem] theorem t13_24_152:takes g13_24 152=false:=nk
@[go_sem] theorem t13_24_153:takes g13_24 153=false:=nk
@[go_sem] theorem t13_24_7:takes g13_24 7=false:=nk
noncomputable def g13_25:=regAt Proofs.Try.f13 25
@[go_sem] theorem x13_25:XR 13 g13_25 [mvo 45 8,opo 46 (.binOp .add 3 (.tmp 45) (.const (.int .i64 1)) 3),aso 8 46]:=xk
@[go_sem] theorem t13_25:TK g13_25:=tk
noncomputable def g13_26:=regAt Proofs.Try.f13 26
@[go_sem] theorem x13_26:XR 13 g13_26 [mvo 154 7,opo 155 (.call ⟨(.value (.func 54)),#[(.tmp 154)],#[56]⟩),aso 12 155]:=xk
@[go_sem] theorem t13_26:TK g13_26:=tk
noncomputable def g13_27:=regAt Proofs.Try.f13 27
@[go_sem] theorem x13_27:XR 13 g13_27 [mvo 156 12,opo 157 (.call ⟨(.builtin .len),#[(.tmp 156)],#[56]⟩),mvo 158 6,opo 159 (.binOp .mul 3 (.const (.int .i64 2)) (.tmp 158) 3),opo 160 (.binOp .neq 3 (.tmp 157) (.tmp 159) 3)]:=xk
@[go_sem] theorem t13_27:TK g13_27:=tk
noncomputable def g13_28:=regAt Proofs.Try.f13 28
@[go_sem] theorem x13_28:XR 13 g13_28 [opo 2 (.assign (.const (.bool false)))]:=xk
@[go_sem] theorem t13_28:TK g13_28:=tk
noncomputable def g13_29:=regAt Proofs.Try.f13 29
@[go_sem] theorem x13_29:XR 13 g13_29 [opo 13 (.assign (.const (.int .i64 0)))]:=xk
@[go_sem] theorem t13_29:TK g13_29:=tk
noncomputable def g13_30:=regAt Proofs.Try.f13 30
@[go_sem] theorem x13_30:XR 13 g13_30 [mvo 161 13,mvo 162 6,opo 163 (.binOp .lss 3 (.tmp 161) (.tmp 162) 3)]:=xk
@[go_sem] theorem t13_30:TK g13_30:=tk
noncomputable def g13_31:=regAt Proofs.Try.f13 31
@[go_sem] theorem x13_31:XR 13 g13_31 [mvo 166 12,mvo 167 6,mvo 168 13,opo 169 (.binOp .add 3 (.tmp 167) (.tmp 168) 3),iao 170 56 166 169,ldo 171 66 170,opo 14 (.alloc 66),(none,(.store 66 (.tmp 14) (.tmp 171)),none)]:=xk
@[go_sem] theorem t13_31:TK g13_31:=tk
noncomputable def g13_32:=regAt Proofs.Try.f13 32
@[go_sem] theorem x13_32:XUR 13 g13_32 [(0,0,[],fao 172 66 14 0),(1,0,[],ldo 173 3 172),(2,0,[0,1],mvo 174 0),(3,0,[0,1,2],mvo 175 13),(4,0,[0,1],iao 176 56 174 175),(5,0,[0,1],fao 177 66 176 0),(6,0,[0,1],ldo 178 3 177),(7,0,[],opo 179 (.binOp .neq 3 (.tmp 173) (.tmp 178) 3)),(8,0,[],mvo 180 179),(9,0,[],(some 181,(.fieldAddr 66 (.tmp 14) 1),some (180,false))),(10,0,[],(some 182,(.load 3 (.tmp 181)),some (180,false))),(11,0,[9,10],(some 183,(.move (.tmp 0)),some (180,false))),(12,0,[9,10,11],(some 184,(.move (.tmp 13)),some (180,false))),(13,0,[9,10],(some 185,(.indexAddr 56 (.tmp 183) (.tmp 184)),some (180,false))),(14,0,[9,10],(some 186,(.fieldAddr 66 (.tmp 185) 1),some (180,false))),(15,0,[9,10],(some 187,(.load 3 (.tmp 186)),some (180,false))),(16,0,[],(some 188,(.binOp .neq 3 (.tmp 182) (.tmp 187) 3),some (180,false))),(17,0,[],opo 189 (.pick (.tmp 180) (.const (.bool true)) (.tmp 188))),(18,0,[],mvo 190 189),(19,0,[],(some 191,(.fieldAddr 66 (.tmp 14) 3),some (190,false))),(20,0,[],(some 192,(.load 63 (.tmp 191)),some (190,false))),(21,0,[19,20],(some 193,(.move (.tmp 0)),some (190,false))),(22,0,[19,20,21],(some 194,(.move (.tmp 13)),some (190,false))),(23,0,[19,20],(some 195,(.indexAddr 56 (.tmp 193) (.tmp 194)),some (190,false))),(24,0,[19,20],(some 196,(.fieldAddr 66 (.tmp 195) 3),some (190,false))),(25,0,[19,20],(some 197,(.load 63 (.tmp 196)),some (190,false))),(26,0,[],(some 198,(.binOp .neq 63 (.tmp 192) (.tmp 197) 63),some (190,false))),(27,0,[],opo 199 (.pick (.tmp 190) (.const (.bool true)) (.tmp 198))),(28,0,[],mvo 200 199),(29,0,[],(some 201,(.fieldAddr 66 (.tmp 14) 4),some (200,false))),(30,0,[],(some 202,(.load 64 (.tmp 201)),some (200,false))),(31,0,[],(some 203,(.call ⟨(.builtin .len),#[(.tmp 202)],#[64]⟩),some (200,false))),(32,0,[29,30,31],(some 204,(.move (.tmp 0)),some (200,false))),(33,0,[29,30,31,32],(some 205,(.move (.tmp 13)),some (200,false))),(34,0,[29,30,31],(some 206,(.indexAddr 56 (.tmp 204) (.tmp 205)),some (200,false))),(35,0,[29,30,31],(some 207,(.fieldAddr 66 (.tmp 206) 4),some (200,false))),(36,0,[29,30,31],(some 208,(.load 64 (.tmp 207)),some (200,false))),(37,0,[29,30,31],(some 209,(.call ⟨(.builtin .len),#[(.tmp 208)],#[64]⟩),some (200,false))),(38,0,[],(some 210,(.binOp .neq 3 (.tmp 203) (.tmp 209) 3),some (200,false))),(39,0,[],opo 211 (.pick (.tmp 200) (.const (.bool true)) (.tmp 210)))] 0:=xuk
@[go_sem] theorem t13_32:TK g13_32:=tk
noncomputable def g13_33:=regAt Proofs.Try.f13 33
@[go_sem] theorem x13_33:XR 13 g13_33 [opo 2 (.assign (.const (.bool false)))]:=xk
@[go_sem] theorem t13_33:TK g13_33:=tk
noncomputable def g13_34:=regAt Proofs.Try.f13 34
@[go_sem] theorem x13_34:XR 13 g13_34 [opo 15 (.assign (.const (.int .i64 0)))]:=xk
@[go_sem] theorem t13_34:TK g13_34:=tk
noncomputable def g13_35:=regAt Proofs.Try.f13 35
@[go_sem] theorem x13_35:XR 13 g13_35 [mvo 212 15,fao 213 66 14 4,ldo 214 64 213,opo 215 (.call ⟨(.builtin .len),#[(.tmp 214)],#[64]⟩),opo 216 (.binOp .lss 3 (.tmp 212) (.tmp 215) 3)]:=xk
@[go_sem] theorem t13_35:TK g13_35:=tk
noncomputable def g13_36:=regAt Proofs.Try.f13 36
@[go_sem] theorem x13_36:XUR 13 g13_36 [(0,0,[],fao 219 66 14 4),(1,0,[],ldo 220 64 219),(2,0,[0,1],mvo 221 15),(3,0,[],iao 222 64 220 221),(4,0,[],fao 223 63 222 0),(5,0,[],ldo 224 3 223),(6,0,[0,1,2,3,4,5],mvo 225 0),(7,0,[0,1,2,3,4,5,6],mvo 226 13),(8,0,[0,1,2,3,4,5],iao 227 56 225 226),(9,0,[0,1,2,3,4,5],fao 228 66 227 4),(10,0,[0,1,2,3,4,5],ldo 229 64 228),(11,0,[0,1,2,3,4,5,6,7,8,9,10],mvo 230 15),(12,0,[0,1,2,3,4,5],iao 231 64 229 230),(13,0,[0,1,2,3,4,5],fao 232 63 231 0),(14,0,[0,1,2,3,4,5],ldo 233 3 232),(15,0,[0,1,2,3,4,5,6,7,8,9,10,11,12,13,14],mvo 234 6),(16,0,[0,1,2,3,4,5],opo 235 (.binOp .add 3 (.tmp 233) (.tmp 234) 3)),(17,0,[],opo 236 (.binOp .neq 3 (.tmp 224) (.tmp 235) 3)),(18,0,[],mvo 237 236),(19,0,[],(some 238,(.fieldAddr 66 (.tmp 14) 4),some (237,false))),(20,0,[],(some 239,(.load 64 (.tmp 238)),some (237,false))),(21,0,[19,20],(some 240,(.move (.tmp 15)),some (237,false))),(22,0,[],(some 241,(.indexAddr 64 (.tmp 239) (.tmp 240)),some (237,false))),(23,0,[],(some 242,(.fieldAddr 63 (.tmp 241) 1),some (237,false))),(24,0,[],(some 243,(.load 3 (.tmp 242)),some (237,false))),(25,0,[19,20,21,22,23,24],(some 244,(.move (.tmp 0)),some (237,false))),(26,0,[19,20,21,22,23,24,25],(some 245,(.move (.tmp 13)),some (237,false))),(27,0,[19,20,21,22,23,24],(some 246,(.indexAddr 56 (.tmp 244) (.tmp 245)),some (237,false))),(28,0,[19,20,21,22,23,24],(some 247,(.fieldAddr 66 (.tmp 246) 4),some (237,false))),(29,0,[19,20,21,22,23,24],(some 248,(.load 64 (.tmp 247)),some (237,false))),(30,0,[19,20,21,22,23,24,25,26,27,28,29],(some 249,(.move (.tmp 15)),some (237,false))),(31,0,[19,20,21,22,23,24],(some 250,(.indexAddr 64 (.tmp 248) (.tmp 249)),some (237,false))),(32,0,[19,20,21,22,23,24],(some 251,(.fieldAddr 63 (.tmp 250) 1),some (237,false))),(33,0,[19,20,21,22,23,24],(some 252,(.load 3 (.tmp 251)),some (237,false))),(34,0,[],(some 253,(.binOp .neq 3 (.tmp 243) (.tmp 252) 3),some (237,false))),(35,0,[],opo 254 (.pick (.tmp 237) (.const (.bool true)) (.tmp 253)))] 0:=xuk
@[go_sem] theorem t13_36:TK g13_36:=tk
noncomputable def g13_37:=regAt Proofs.Try.f13 37
@[go_sem] theorem x13_37:XR 13 g13_37 [opo 2 (.assign (.const (.bool false)))]:=xk
@[go_sem] theorem t13_37:TK g13_37:=tk
noncomputable def g13_38:=regAt Proofs.Try.f13 38
@[go_sem] theorem x13_38:XR 13 g13_38 [mvo 217 15,opo 218 (.binOp .add 3 (.tmp 217) (.const (.int .i64 1)) 3),aso 15 218]:=xk
@[go_sem] theorem t13_38:TK g13_38:=tk
noncomputable def g13_39:=regAt Proofs.Try.f13 39
@[go_sem] theorem x13_39:XR 13 g13_39 [mvo 164 13,opo 165 (.binOp .add 3 (.tmp 164) (.const (.int .i64 1)) 3),aso 13 165]:=xk
@[go_sem] theorem t13_39:TK g13_39:=tk
noncomputable def g13_40:=regAt Proofs.Try.f13 40
@[go_sem] theorem x13_40:XR 13 g13_40 [opo 2 (.assign (.const (.bool true)))]:=xk
@[go_sem] theorem t13_40:TK g13_40:=tk
noncomputable def l13_0:Code:=(.seq (.seq (.region 22 g13_21 false) (.cond (.tmp 134) .skip (.exit 2))) (.seq (.block 3 (.region 24 g13_22 true)) (.region 23 g13_23 false)))
theorem dl13_0{ro nt:Nat}{fr:PT}{H:Hp}:(den cx).loop ro 13 nt l13_0 fr H=xbind (ex cx (den cx) ro 13 nt (.seq (.seq (.region 22 g13_21 false) (.cond (.tmp 134) .skip (.exit 2))) (.seq (.block 3 (.region 24 g13_22 true)) (.region 23 g13_23 false))) fr H) (contR (trimmed ((den cx).loop ro 13 nt l13_0) H.length)):=den_loop_x l13_0
noncomputable def l13_1:Code:=(.seq (.seq (.region 13 g13_13 false) (.cond (.tmp 44) .skip (.exit 0))) (.seq (.block 1 (.seq (.region 15 g13_14 true) (.seq (.seq (.region 16 g13_15 true) (.cond (.tmp 105) (.seq (.region 17 g13_16 false) .ret) .skip)) (.seq (.seq (.region 18 g13_17 false) (.cond (.tmp 124) (.seq (.region 19 g13_18 false) .ret) .skip)) (.seq (.region 20 g13_19 false) (.seq (.seq (.region 21 g13_20 false) (.block 2 (.loop l13_0))) (.region 25 g13_24 false))))))) (.region 14 g13_25 false)))
theorem dl13_1{ro nt:Nat}{fr:PT}{H:Hp}:(den cx).loop ro 13 nt l13_1 fr H=xbind (ex cx (den cx) ro 13 nt (.seq (.seq (.region 13 g13_13 false) (.cond (.tmp 44) .skip (.exit 0))) (.seq (.block 1 (.seq (.region 15 g13_14 true) (.seq (.seq (.region 16 g13_15 true) (.cond (.tmp 105) (.seq (.region 17 g13_16 false) .ret) .skip)) (.seq (.seq (.region 18 g13_17 false) (.cond (.tmp 124) (.seq (.region 19 g13_18 false) .ret) .skip)) (.seq (.region 20 g13_19 false) (.seq (.seq (.region 21 g13_20 false) (.block 2 (.loop l13_0))) (.region 25 g13_24 false))))))) (.region 14 g13_25 false))) fr H) (contR (trimmed ((den cx).loop ro 13 nt l13_1) H.length)):=den_loop_x l13_1
noncomputable def l13_2:Code:=(.seq (.seq (.region 36 g13_35 false) (.cond (.tmp 216) .skip (.exit 6))) (.seq (.block 7 (.seq (.region 38 g13_36 true) (.cond (.tmp 254) (.seq (.region 39 g13_37 false) .ret) .skip))) (.region 37 g13_38 false)))
theorem dl13_2{ro nt:Nat}{fr:PT}{H:Hp}:(den cx).loop ro 13 nt l13_2 fr H=xbind (ex cx (den cx) ro 13 nt (.seq (.seq (.region 36 g13_35 false) (.cond (.tmp 216) .skip (.exit 6))) (.seq (.block 7 (.seq (.region 38 g13_36 true) (.cond (.tmp 254) (.seq (.region 39 g13_37 false) .ret) .skip))) (.region 37 g13_38 false))) fr H) (contR (trimmed ((den cx).loop ro 13 nt l13_2) H.length)):=den_loop_x l13_2
noncomputable def l13_3:Code:=(.seq (.seq (.region 30 g13_30 false) (.cond (.tmp 163) .skip (.exit 4))) (.seq (.block 5 (.seq (.region 32 g13_31 false) (.seq (.seq (.region 33 g13_32 true) (.cond (.tmp 211) (.seq (.region 34 g13_33 false) .ret) .skip)) (.seq (.region 35 g13_34 false) (.block 6 (.loop l13_2)))))) (.region 31 g13_39 false)))
theorem dl13_3{ro nt:Nat}{fr:PT}{H:Hp}:(den cx).loop ro 13 nt l13_3 fr H=xbind (ex cx (den cx) ro 13 nt (.seq (.seq (.region 30 g13_30 false) (.cond (.tmp 163) .skip (.exit 4))) (.seq (.block 5 (.seq (.region 32 g13_31 false) (.seq (.seq (.region 33 g13_32 true) (.cond (.tmp 211) (.seq (.region 34 g13_33 false) .ret) .skip)) (.seq (.region 35 g13_34 false) (.block 6 (.loop l13_2)))))) (.region 31 g13_39 false))) fr H) (contR (trimmed ((den cx).loop ro 13 nt l13_3) H.length)):=den_loop_x l13_3
theorem b13:Proofs.Try.f13.body=some (.seq (.region 0 g13_0 false) (.seq (.seq (.region 1 g13_1 false) (.cond (.tmp 17) (.seq (.region 2 g13_2 false) .ret) .skip)) (.seq (.region 3 g13_3 false) (.seq (.region 4 g13_4 false) (.seq (.seq (.region 5 g13_5 false) (.seq (.region 6 g13_6 false) (.cond (.tmp 31) (.seq (.region 7 g13_7 false) .ret) .skip))) (.seq (.region 8 g13_8 false) (.seq (.seq (.region 9 g13_9 false) (.cond (.tmp 41) (.seq (.region 10 g13_10 false) .ret) .skip)) (.seq (.region 11 g13_11 false) (.seq (.seq (.region 12 g13_12 false) (.block 0 (.loop l13_1))) (.seq (.region 26 g13_26 false) (.seq (.seq (.region 27 g13_27 false) (.cond (.tmp 160) (.seq (.region 28 g13_28 false) .ret) .skip)) (.seq (.seq (.region 29 g13_29 false) (.block 4 (.loop l13_3))) (.seq (.region 40 g13_40 false) .ret))))))))))))):=by kernel_rfl
theorem c13{h:Hd}{ro:Nat}{H:Hp}(a0:AV):callB cx h ro 13 [a0] H=returned cx [(.tmp 2)] (ex cx h ro 13 255 (.seq (.region 0 g13_0 false) (.seq (.seq (.region 1 g13_1 false) (.cond (.tmp 17) (.seq (.region 2 g13_2 false) .ret) .skip)) (.seq (.region 3 g13_3 false) (.seq (.region 4 g13_4 false) (.seq (.seq (.region 5 g13_5 false) (.seq (.region 6 g13_6 false) (.cond (.tmp 31) (.seq (.region 7 g13_7 false) .ret) .skip))) (.seq (.region 8 g13_8 false) (.seq (.seq (.region 9 g13_9 false) (.cond (.tmp 41) (.seq (.region 10 g13_10 false) .ret) .skip)) (.seq (.region 11 g13_11 false) (.seq (.seq (.region 12 g13_12 false) (.block 0 (.loop l13_1))) (.seq (.region 26 g13_26 false) (.seq (.seq (.region 27 g13_27 false) (.cond (.tmp 160) (.seq (.region 28 g13_28 false) .ret) .skip)) (.seq (.seq (.region 29 g13_29 false) (.block 4 (.loop l13_3))) (.seq (.region 40 g13_40 false) .ret))))))))))))) (PT.nil.set 0 (drp a0)) H):=by
 have hf:cx.fns 13=some Proofs.Try.f13:=by kernel_rfl
 simp only[callB,hf,funced,b13,bodied]
 rfl
noncomputable def g60_0:=regAt Proofs.Try.f60 0
@[go_sem] theorem x60_0:XR 60 g60_0 [opo 4 (.assign (.const (.bool false)))]:=xk
@[go_sem] theorem t60_0:TK g60_0:=tk
noncomputable def g60_1:=regAt Proofs.Try.f60 1
@[go_sem] theorem x60_1:XR 60 g60_1 [mvo 6 0,opo 7 (.call ⟨(.builtin .len),#[(.tmp 6)],#[64]⟩),mvo 8 1,opo 9 (.call ⟨(.builtin .len),#[(.tmp 8)],#[64]⟩),opo 10 (.binOp .neq 3 (.tmp 7) (.tmp 9) 3)]:=xk
@[go_sem] theorem t60_1:TK g60_1:=tk
noncomputable def g60_2:=regAt Proofs.Try.f60 2
@[go_sem] theorem x60_2:XR 60 g60_2 [opo 4 (.assign (.const (.bool false)))]:=xk
@[go_sem] theorem t60_2:TK g60_2:=tk
noncomputable def g60_3:=regAt Proofs.Try.f60 3
@[go_sem] theorem x60_3:XR 60 g60_3 [opo 5 (.assign (.const (.int .i64 0)))]:=xk
@[go_sem] theorem t60_3:TK g60_3:=tk
noncomputable def g60_4:=regAt Proofs.Try.f60 4
@[go_sem] theorem x60_4:XR 60 g60_4 [mvo 11 5,mvo 12 0,opo 13 (.call ⟨(.builtin .len),#[(.tmp 12)],#[64]⟩),opo 14 (.binOp .lss 3 (.tmp 11) (.tmp 13) 3)]:=xk
@[go_sem] theorem t60_4:TK g60_4:=tk
noncomputable def g60_5:=regAt Proofs.Try.f60 5
@[go_sem] theorem x60_5:XUR 60 g60_5 [(0,0,[],mvo 17 0),(1,0,[0],mvo 18 5),(2,0,[],iao 19 64 17 18),(3,0,[],ldo 20 63 19),(4,0,[0,1,2,3],mvo 21 1),(5,0,[0,1,2,3,4],mvo 22 5),(6,0,[0,1,2,3],iao 23 64 21 22),(7,0,[0,1,2,3],ldo 24 63 23),(8,0,[],opo 25 (.binOp .neq 63 (.tmp 20) (.tmp 24) 63))] 0:=xuk
@[go_sem] theorem t60_5:TK g60_5:=tk
noncomputable def g60_6:=regAt Proofs.Try.f60 6
@[go_sem] theorem x60_6:XR 60 g60_6 [opo 4 (.assign (.const (.bool false)))]:=xk
@[go_sem] theorem t60_6:TK g60_6:=tk
noncomputable def g60_7:=regAt Proofs.Try.f60 7
@[go_sem] theorem x60_7:XR 60 g60_7 [mvo 15 5,opo 16 (.binOp .add 3 (.tmp 15) (.const (.int .i64 1)) 3),aso 5 16]:=xk
@[go_sem] theorem t60_7:TK g60_7:=tk
noncomputable def g60_8:=regAt Proofs.Try.f60 8
@[go_sem] theorem x60_8:XR 60 g60_8 [opo 4 (.assign (.const (.bool true)))]:=xk
@[go_sem] theorem t60_8:TK g60_8:=tk
noncomputable def l60_0:Code:=(.seq (.seq (.region 4 g60_4 false) (.cond (.tmp 14) .skip (.exit 0))) (.seq (.block 1 (.seq (.region 6 g60_5 true) (.cond (.tmp 25) (.seq (.region 7 g60_6 false) .ret) .skip))) (.region 5 g60_7 false)))
theorem dl60_0{ro nt:Nat}{fr:PT}{H:Hp}:(den cx).loop ro 60 nt l60_0 fr H=xbind (ex cx (den cx) ro 60 nt (.seq (.seq (.region 4 g60_4 false) (.cond (.tmp 14) .skip (.exit 0))) (.seq (.block 1 (.seq (.region 6 g60_5 true) (.cond (.tmp 25) (.seq (.region 7 g60_6 false) .ret) .skip))) (.region 5 g60_7 false))) fr H) (contR (trimmed ((den cx).loop ro 60 nt l60_0) H.length)):=den_loop_x l60_0
theorem b60:Proofs.Try.f60.body=some (.seq (.region 0 g60_0 false) (.seq (.seq (.region 1 g60_1 false) (.cond (.tmp 10) (.seq (.region 2 g60_2 false) .ret) .skip)) (.seq (.seq (.region 3 g60_3 false) (.block 0 (.loop l60_0))) (.seq (.region 8 g60_8 false) .ret)))):=by kernel_rfl
theorem c60{h:Hd}{ro:Nat}{H:Hp}(a0 a1:AV):callB cx h ro 60 [a0,a1] H=returned cx [(.tmp 4)] (ex cx h ro 60 26 (.seq (.region 0 g60_0 false) (.seq (.seq (.region 1 g60_1 false) (.cond (.tmp 10) (.seq (.region 2 g60_2 false) .ret) .skip)) (.seq (.seq (.region 3 g60_3 false) (.block 0 (.loop l60_0))) (.seq (.region 8 g60_8 false) .ret)))) ((PT.nil.set 0 (drp a0)).set 1 (drp a1)) H):=by
 have hf:cx.fns 60=some Proofs.Try.f60:=by kernel_rfl
 simp only[callB,hf,funced,b60,bodied]
 rfl
end Go.Abs.Tab
