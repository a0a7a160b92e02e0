/- Codes of this seat's functions, their regions step by step. (Printed by a program.) -/
import Derived.Test.YtiinagmombigpaaEvY
import Derived.Test.YtiinagmombigpaaFnA
set_option linter.unnecessarySimpa false
set_option linter.unusedSimpArgs false
set_option linter.unusedVariables false
namespace Go.Abs.Tab
noncomputable def g19_0:=regAt Proofs.Try.f19 0
@[go_sem] theorem x19_0:XR 19 g19_0 [opo 5 (.box 63 (.tmp 2)),opo 6 (.assign (.const (.bool false)))]:=xk
@[go_sem] theorem t19_0:TK g19_0:=tk
noncomputable def g19_1:=regAt Proofs.Try.f19 1
@[go_sem] theorem x19_1:XR 19 g19_1 [mvo 15 0,opo 16 (.call ⟨(.value (.func 63)),#[(.tmp 15)],#[56]⟩),aso 0 16]:=xk
@[go_sem] theorem t19_1:TK g19_1:=tk
noncomputable def g19_2:=regAt Proofs.Try.f19 2
@[go_sem] theorem x19_2:XR 19 g19_2 [mvo 18 0,opo 19 (.call ⟨(.value (.func 67)),#[(.tmp 18)],#[56]⟩),mvo 17 19,opo 20 (.extract (.tmp 17) 0),opo 21 (.extract (.tmp 17) 1),aso 7 20,aso 8 21]:=xk
@[go_sem] theorem t19_2:TK g19_2:=tk
noncomputable def g19_3:=regAt Proofs.Try.f19 3
@[go_sem] theorem x19_3:XR 19 g19_3 [mvo 23 0,opo 24 (.call ⟨(.value (.func 68)),#[(.tmp 23)],#[56]⟩),mvo 22 24,opo 25 (.extract (.tmp 22) 0),opo 26 (.extract (.tmp 22) 1),aso 9 25,aso 10 26]:=xk
@[go_sem] theorem t19_3:TK g19_3:=tk
noncomputable def g19_4:=regAt Proofs.Try.f19 4
@[go_sem] theorem x19_4:XR 19 g19_4 [mvo 28 0,mvo 29 1,ldo 30 63 5,opo 31 (.call ⟨(.value (.func 69)),#[(.tmp 28),(.tmp 29),(.tmp 30)],#[56,3,63]⟩),mvo 27 31,opo 32 (.extract (.tmp 27) 0),opo 33 (.extract (.tmp 27) 1),aso 11 32,aso 12 33]:=xk
@[go_sem] theorem t19_4:TK g19_4:=tk
noncomputable def g19_5:=regAt Proofs.Try.f19 5
@[go_sem] theorem x19_5:XR 19 g19_5 [mvo 35 0,mvo 36 1,ldo 37 63 5,opo 38 (.call ⟨(.value (.func 70)),#[(.tmp 35),(.tmp 36),(.tmp 37)],#[56,3,63]⟩),mvo 34 38,opo 39 (.extract (.tmp 34) 0),opo 40 (.extract (.tmp 34) 1),aso 13 39,aso 14 40]:=xk
@[go_sem] theorem t19_5:TK g19_5:=tk
noncomputable def g19_6:=regAt Proofs.Try.f19 6
@[go_sem] theorem x19_6:XR 19 g19_6 [mvo 41 7,mvo 42 9,opo 43 (.binOp .eql 3 (.tmp 41) (.tmp 42) 3),mvo 44 43,(some 45,(.move (.tmp 8)),some (44,true)),(some 46,(.move (.tmp 10)),some (44,true)),(some 47,(.binOp .eql 27 (.tmp 45) (.tmp 46) 27),some (44,true)),opo 48 (.pick (.tmp 44) (.tmp 47) (.const (.bool false))),mvo 49 48,(some 50,(.move (.tmp 11)),some (49,true)),(some 51,(.move (.tmp 13)),some (49,true)),(some 52,(.binOp .eql 3 (.tmp 50) (.tmp 51) 3),some (49,true)),opo 53 (.pick (.tmp 49) (.tmp 52) (.const (.bool false))),mvo 54 53,(some 55,(.move (.tmp 12)),some (54,true)),(some 56,(.move (.tmp 14)),some (54,true)),(some 57,(.binOp .eql 4 (.tmp 55) (.tmp 56) 4),some (54,true)),opo 58 (.pick (.tmp 54) (.tmp 57) (.const (.bool false))),mvo 59 58,(some 60,(.call ⟨(.value (.func 66)),#[],#[]⟩),some (59,true)),opo 61 (.pick (.tmp 59) (.tmp 60) (.const (.bool false))),aso 6 61]:=xk
@[go_sem] theorem t19_6:TK g19_6:=tk
theorem b19:Proofs.Try.f19.body=some (.seq (.region 0 g19_0 false) (.seq (.region 1 g19_1 false) (.seq (.region 2 g19_2 false) (.seq (.region 3 g19_3 false) (.seq (.region 4 g19_4 false) (.seq (.region 5 g19_5 false) (.seq (.region 6 g19_6 false) .ret))))))):=by kernel_rfl
theorem c19{h:Hd}{ro:Nat}{H:Hp}(a0 a1 a2:AV):callB cx h ro 19 [a0,a1,a2] H=returned cx [(.tmp 6)] (ex cx h ro 19 62 (.seq (.region 0 g19_0 false) (.seq (.region 1 g19_1 false) (.seq (.region 2 g19_2 false) (.seq (.region 3 g19_3 false) (.seq (.region 4 g19_4 false) (.seq (.region 5 g19_5 false) (.seq (.region 6 g19_6 false) .ret))))))) (((PT.nil.set 0 (drp a0)).set 1 (drp a1)).set 2 (drp a2)) H):=by
 have hf:cx.fns 19=some Proofs.Try.f19:=by kernel_rfl
 simp only[callB,hf,funced,b19,bodied]
 rfl
noncomputable def g21_0:=regAt Proofs.Try.f21 0
@[go_sem] theorem x21_0:XR 21 g21_0 [opo 2 (.assign (.const (.bool false)))]:=xk
@[go_sem] theorem t21_0:TK g21_0:=tk
noncomputable def g21_1:=regAt Proofs.Try.f21 1
@[go_sem] theorem x21_1:XR 21 g21_1 [mvo 7 0,opo 8 (.call ⟨(.value (.func 72)),#[(.tmp 7)],#[56]⟩),aso 0 8]:=xk
@[go_sem] theorem t21_1:TK g21_1:=tk
noncomputable def g21_2:=regAt Proofs.Try.f21 2
@[go_sem] theorem x21_2:XR 21 g21_2 [mvo 10 0,opo 11 (.call ⟨(.value (.func 73)),#[(.tmp 10)],#[56]⟩),mvo 9 11,opo 12 (.extract (.tmp 9) 0),opo 13 (.extract (.tmp 9) 1),opo 3 (.alloc 95),(none,(.store 95 (.tmp 3) (.tmp 12)),none),aso 4 13]:=xk
@[go_sem] theorem t21_2:TK g21_2:=tk
noncomputable def g21_3:=regAt Proofs.Try.f21 3
@[go_sem] theorem x21_3:XR 21 g21_3 [mvo 15 0,opo 16 (.call ⟨(.value (.func 74)),#[(.tmp 15)],#[56]⟩),mvo 14 16,opo 17 (.extract (.tmp 14) 0),opo 18 (.extract (.tmp 14) 1),opo 5 (.alloc 95),(none,(.store 95 (.tmp 5) (.tmp 17)),none),aso 6 18]:=xk
@[go_sem] theorem t21_3:TK g21_3:=tk
noncomputable def g21_4:=regAt Proofs.Try.f21 4
@[go_sem] theorem x21_4:XR 21 g21_4 [mvo 19 4,mvo 20 6,opo 21 (.binOp .eql 27 (.tmp 19) (.tmp 20) 27),mvo 22 21,(some 23,(.load 95 (.tmp 3)),some (22,true)),(some 24,(.load 95 (.tmp 5)),some (22,true)),(some 25,(.call ⟨(.value (.func 75)),#[(.tmp 23),(.tmp 24)],#[95,95]⟩),some (22,true)),opo 26 (.pick (.tmp 22) (.tmp 25) (.const (.bool false))),mvo 27 26,(some 28,(.call ⟨(.value (.func 76)),#[],#[]⟩),some (27,true)),opo 29 (.pick (.tmp 27) (.tmp 28) (.const (.bool false))),aso 2 29]:=xk
@[go_sem] theorem t21_4:TK g21_4:=tk
theorem b21:Proofs.Try.f21.body=some (.seq (.region 0 g21_0 false) (.seq (.region 1 g21_1 false) (.seq (.region 2 g21_2 false) (.seq (.region 3 g21_3 false) (.seq (.region 4 g21_4 false) .ret))))):=by kernel_rfl
theorem c21{h:Hd}{ro:Nat}{H:Hp}(a0:AV):callB cx h ro 21 [a0] H=returned cx [(.tmp 2)] (ex cx h ro 21 30 (.seq (.region 0 g21_0 false) (.seq (.region 1 g21_1 false) (.seq (.region 2 g21_2 false) (.seq (.region 3 g21_3 false) (.seq (.region 4 g21_4 false) .ret))))) (PT.nil.set 0 (drp a0)) H):=by
 have hf:cx.fns 21=some Proofs.Try.f21:=by kernel_rfl
 simp only[callB,hf,funced,b21,bodied]
 rfl
noncomputable def g162_0:=regAt Proofs.Try.f162 0
@[go_sem] theorem x162_0:XR 162 g162_0 [opo 5 (.box 63 (.tmp 2)),opo 6 (.assign (.const (.int .i64 0))),opo 7 (.assign (.const (.int .i64 0)))]:=xk
@[go_sem] theorem t162_0:TK g162_0:=tk
noncomputable def g162_1:=regAt Proofs.Try.f162 1
@[go_sem] theorem x162_1:XR 162 g162_1 [mvo 9 0,fao 10 63 5 0,ldo 11 3 10,fao 12 63 5 1,ldo 13 3 12,opo 14 (.build 61 #[(0,(.tmp 11)),(1,(.tmp 13))]),opo 15 (.call ⟨(.value (.func 52)),#[(.tmp 9),(.tmp 14)],#[56,61]⟩),opo 8 (.alloc 61),(none,(.store 61 (.tmp 8) (.tmp 15)),none)]:=xk
@[go_sem] theorem t162_1:TK g162_1:=tk
noncomputable def g162_2:=regAt Proofs.Try.f162 2
@[go_sem] theorem x162_2:XR 162 g162_2 [mvo 16 0,fao 17 61 8 0,ldo 18 3 17,iao 19 56 16 18,fao 20 66 19 0,ldo 21 3 20,opo 22 (.binOp .eql 3 (.tmp 21) (.const (.int .i64 0)) 3)]:=xk
@[go_sem] theorem t162_2:TK g162_2:=tk
noncomputable def g162_3:=regAt Proofs.Try.f162 3
@[go_sem] theorem x162_3:XR 162 g162_3 [fao 23 61 8 0,ldo 24 3 23,aso 6 24,opo 7 (.assign (.const (.int .i64 0)))]:=xk
@[go_sem] theorem t162_3:TK g162_3:=tk
noncomputable def g162_4:=regAt Proofs.Try.f162 4
@[go_sem] theorem x162_4:XUR 162 g162_4 [(0,0,[],fao 25 61 8 0),(1,0,[],ldo 26 3 25),(2,0,[0,1],mvo 27 0),(3,0,[0,1,2],fao 28 61 8 0),(4,0,[0,1,2],ldo 29 3 28),(5,0,[0,1],iao 30 56 27 29),(6,0,[0,1],fao 31 66 30 1),(7,0,[0,1],ldo 32 3 31),(8,0,[0,1,2,3,4,5,6,7],fao 33 61 8 1),(9,0,[0,1,2,3,4,5,6,7],ldo 34 3 33),(10,0,[0,1],opo 35 (.binOp .add 3 (.tmp 32) (.tmp 34) 3)),(11,0,[0,1,2,3,4,5,6,7,8,9,10],mvo 36 0),(12,0,[0,1,2,3,4,5,6,7,8,9,10,11],mvo 37 1),(13,0,[0,1,2,3,4,5,6,7,8,9,10],iao 38 56 36 37),(14,0,[0,1,2,3,4,5,6,7,8,9,10],fao 39 66 38 1),(15,0,[0,1,2,3,4,5,6,7,8,9,10],ldo 40 3 39),(16,0,[0,1],opo 41 (.binOp .sub 3 (.tmp 35) (.tmp 40) 3)),(17,0,[2,3,4,5,6,7,8,9,10,11,12,13,14,15,16],aso 6 26),(18,0,[],aso 7 41)] 0:=xuk
@[go_sem] theorem t162_4:TK g162_4:=tk
theorem b162:Proofs.Try.f162.body=some (.seq (.region 0 g162_0 false) (.seq (.region 1 g162_1 false) (.seq (.seq (.region 2 g162_2 false) (.cond (.tmp 22) (.seq (.region 3 g162_3 false) .ret) .skip)) (.seq (.region 4 g162_4 true) .ret)))):=by kernel_rfl
theorem c162{h:Hd}{ro:Nat}{H:Hp}(a0 a1 a2:AV):callB cx h ro 162 [a0,a1,a2] H=returned cx [(.tmp 6),(.tmp 7)] (ex cx h ro 162 42 (.seq (.region 0 g162_0 false) (.seq (.region 1 g162_1 false) (.seq (.seq (.region 2 g162_2 false) (.cond (.tmp 22) (.seq (.region 3 g162_3 false) .ret) .skip)) (.seq (.region 4 g162_4 true) .ret)))) (((PT.nil.set 0 (drp a0)).set 1 (drp a1)).set 2 (drp a2)) H):=by
 have hf:cx.fns 162=some Proofs.Try.f162:=by kernel_rfl
 simp only[callB,hf,funced,b162,bodied]
 rfl
noncomputable def g78_0:=regAt Proofs.Try.f78 0
@[go_sem] theorem x78_0:XR 78 g78_0 [opo 2 (.box 95 (.tmp 0)),opo 3 (.box 61 (.tmp 1)),opo 4 (.assign (.const (.int .i64 0))),opo 5 (.assign (.const (.int .i64 0)))]:=xk
@[go_sem] theorem t78_0:TK g78_0:=tk
noncomputable def g78_1:=regAt Proofs.Try.f78 1
@[go_sem] theorem x78_1:XR 78 g78_1 [fao 6 61 3 0,ldo 7 3 6,opo 8 (.binOp .lss 3 (.tmp 7) (.const (.int .i64 0)) 3),mvo 9 8,(some 10,(.fieldAddr 61 (.tmp 3) 0),some (9,false)),(some 11,(.load 3 (.tmp 10)),some (9,false)),(some 12,(.fieldAddr 95 (.tmp 2) 1),some (9,false)),(some 13,(.load 31 (.tmp 12)),some (9,false)),(some 14,(.call ⟨(.builtin .len),#[(.tmp 13)],#[31]⟩),some (9,false)),(some 15,(.binOp .geq 3 (.tmp 11) (.tmp 14) 3),some (9,false)),opo 16 (.pick (.tmp 9) (.const (.bool true)) (.tmp 15))]:=xk
@[go_sem] theorem t78_1:TK g78_1:=tk
noncomputable def g78_2:=regAt Proofs.Try.f78 2
@[go_sem] theorem x78_2:XR 78 g78_2 [opo 4 (.assign (.const (.int .i64 (-1)))),opo 5 (.assign (.const (.int .i64 0)))]:=xk
@[go_sem] theorem t78_2:TK g78_2:=tk
noncomputable def g78_3:=regAt Proofs.Try.f78 3
@[go_sem] theorem x78_3:XUR 78 g78_3 [(0,0,[],ldo 17 95 2),(1,0,[0],fao 18 95 2 1),(2,0,[0],ldo 19 31 18),(3,0,[0,1,2],fao 20 61 3 0),(4,0,[0,1,2],ldo 21 3 20),(5,0,[0],iao 22 31 19 21),(6,0,[0],ldo 23 3 22),(7,0,[0,1,2,3,4,5,6],fao 24 95 2 2),(8,0,[0,1,2,3,4,5,6],ldo 25 31 24),(9,0,[0,1,2,3,4,5,6,7,8],fao 26 61 3 0),(10,0,[0,1,2,3,4,5,6,7,8],ldo 27 3 26),(11,0,[0,1,2,3,4,5,6],iao 28 31 25 27),(12,0,[0,1,2,3,4,5,6],ldo 29 3 28),(13,0,[0,1,2,3,4,5,6,7,8,9,10,11,12],fao 30 61 3 1),(14,0,[0,1,2,3,4,5,6,7,8,9,10,11,12],ldo 31 3 30),(15,0,[0,1,2,3,4,5,6],opo 32 (.binOp .add 3 (.tmp 29) (.tmp 31) 3)),(16,0,[],opo 33 (.call ⟨(.value (.func 137)),#[(.tmp 17),(.tmp 23),(.tmp 32)],#[95,3,3]⟩)),(17,0,[],opo 34 (.extract (.tmp 33) 0)),(18,0,[17],opo 35 (.extract (.tmp 33) 1)),(19,0,[],aso 4 34),(20,0,[],aso 5 35)] 0:=xuk
@[go_sem] theorem t78_3:TK g78_3:=tk
theorem b78:Proofs.Try.f78.body=some (.seq (.region 0 g78_0 false) (.seq (.seq (.region 1 g78_1 false) (.cond (.tmp 16) (.seq (.region 2 g78_2 false) .ret) .skip)) (.seq (.region 3 g78_3 true) .ret))):=by kernel_rfl
theorem c78{h:Hd}{ro:Nat}{H:Hp}(a0 a1:AV):callB cx h ro 78 [a0,a1] H=returned cx [(.tmp 4),(.tmp 5)] (ex cx h ro 78 36 (.seq (.region 0 g78_0 false) (.seq (.seq (.region 1 g78_1 false) (.cond (.tmp 16) (.seq (.region 2 g78_2 false) .ret) .skip)) (.seq (.region 3 g78_3 true) .ret))) ((PT.nil.set 0 (drp a0)).set 1 (drp a1)) H):=by
 have hf:cx.fns 78=some Proofs.Try.f78:=by kernel_rfl
 simp only[callB,hf,funced,b78,bodied]
 rfl
noncomputable def g79_0:=regAt Proofs.Try.f79 0
@[go_sem] theorem x79_0:XR 79 g79_0 [opo 2 (.box 95 (.tmp 0)),opo 3 (.box 61 (.tmp 1)),opo 4 (.assign (.const (.int .i64 0))),opo 5 (.assign (.const (.int .i64 0)))]:=xk
@[go_sem] theorem t79_0:TK g79_0:=tk
noncomputable def g79_1:=regAt Proofs.Try.f79 1
@[go_sem] theorem x79_1:XR 79 g79_1 [fao 7 61 3 0,ldo 8 3 7,opo 9 (.binOp .lss 3 (.tmp 8) (.const (.int .i64 0)) 3),mvo 10 9,(some 11,(.fieldAddr 61 (.tmp 3) 0),some (10,false)),(some 12,(.load 3 (.tmp 11)),some (10,false)),(some 13,(.fieldAddr 95 (.tmp 2) 1),some (10,false)),(some 14,(.load 31 (.tmp 13)),some (10,false)),(some 15,(.call ⟨(.builtin .len),#[(.tmp 14)],#[31]⟩),some (10,false)),(some 16,(.binOp .geq 3 (.tmp 12) (.tmp 15) 3),some (10,false)),opo 17 (.pick (.tmp 10) (.const (.bool true)) (.tmp 16))]:=xk
@[go_sem] theorem t79_1:TK g79_1:=tk
noncomputable def g79_2:=regAt Proofs.Try.f79 2
@[go_sem] theorem x79_2:XR 79 g79_2 [opo 4 (.assign (.const (.int .i64 (-1)))),opo 5 (.assign (.const (.int .i64 0)))]:=xk
@[go_sem] theorem t79_2:TK g79_2:=tk
noncomputable def g79_3:=regAt Proofs.Try.f79 3
@[go_sem] theorem x79_3:XR 79 g79_3 [fao 18 95 2 1,ldo 19 31 18,fao 20 61 3 0,ldo 21 3 20,iao 22 31 19 21,ldo 23 3 22,aso 6 23]:=xk
@[go_sem] theorem t79_3:TK g79_3:=tk
noncomputable def g79_4:=regAt Proofs.Try.f79 4
@[go_sem] theorem x79_4:XR 79 g79_4 [fao 24 95 2 0,ldo 25 93 24,mvo 26 6,iao 27 93 25 26,fao 28 111 27 0,ldo 29 3 28,opo 30 (.binOp .eql 3 (.tmp 29) (.const (.int .i64 0)) 3)]:=xk
@[go_sem] theorem t79_4:TK g79_4:=tk
noncomputable def g79_5:=regAt Proofs.Try.f79 5
@[go_sem] theorem x79_5:XR 79 g79_5 [mvo 31 6,aso 4 31,opo 5 (.assign (.const (.int .i64 0)))]:=xk
@[go_sem] theorem t79_5:TK g79_5:=tk
noncomputable def g79_6:=regAt Proofs.Try.f79 6
@[go_sem] theorem x79_6:XUR 79 g79_6 [(0,0,[],mvo 32 6),(1,0,[0],fao 33 95 2 2),(2,0,[0],ldo 34 31 33),(3,0,[0,1,2],fao 35 61 3 0),(4,0,[0,1,2],ldo 36 3 35),(5,0,[0],iao 37 31 34 36),(6,0,[0],ldo 38 3 37),(7,0,[0,1,2,3,4,5,6],fao 39 61 3 1),(8,0,[0,1,2,3,4,5,6],ldo 40 3 39),(9,0,[0],opo 41 (.binOp .add 3 (.tmp 38) (.tmp 40) 3)),(10,0,[1,2,3,4,5,6,7,8,9],aso 4 32),(11,0,[],aso 5 41)] 0:=xuk
@[go_sem] theorem t79_6:TK g79_6:=tk
theorem b79:Proofs.Try.f79.body=some (.seq (.region 0 g79_0 false) (.seq (.seq (.region 1 g79_1 false) (.cond (.tmp 17) (.seq (.region 2 g79_2 false) .ret) .skip)) (.seq (.region 3 g79_3 false) (.seq (.seq (.region 4 g79_4 false) (.cond (.tmp 30) (.seq (.region 5 g79_5 false) .ret) .skip)) (.seq (.region 6 g79_6 true) .ret))))):=by kernel_rfl
theorem c79{h:Hd}{ro:Nat}{H:Hp}(a0 a1:AV):callB cx h ro 79 [a0,a1] H=returned cx [(.tmp 4),(.tmp 5)] (ex cx h ro 79 42 (.seq (.region 0 g79_0 false) (.seq (.seq (.region 1 g79_1 false) (.cond (.tmp 17) (.seq (.region 2 g79_2 false) .ret) .skip)) (.seq (.region 3 g79_3 false) (.seq (.seq (.region 4 g79_4 false) (.cond (.tmp 30) (.seq (.region 5 g79_5 false) .ret) .skip)) (.seq (.region 6 g79_6 true) .ret))))) ((PT.nil.set 0 (drp a0)).set 1 (drp a1)) H):=by
 have hf:cx.fns 79=some Proofs.Try.f79:=by kernel_rfl
 simp only[callB,hf,funced,b79,bodied]
 rfl
noncomputable def g137_0:=regAt Proofs.Try.f137 0
@[go_sem] theorem x137_0:XR 137 g137_0 [opo 3 (.box 95 (.tmp 0)),opo 6 (.assign (.const (.int .i64 0))),opo 7 (.assign (.const (.int .i64 0)))]:=xk
@[go_sem] theorem t137_0:TK g137_0:=tk
noncomputable def g137_1:=regAt Proofs.Try.f137 1
@[go_sem] theorem x137_1:XR 137 g137_1 [fao 8 95 3 0,ldo 9 93 8,mvo 10 1,iao 11 93 9 10,fao 12 111 11 0,ldo 13 3 12,opo 14 (.binOp .eql 3 (.tmp 13) (.const (.int .i64 0)) 3)]:=xk
@[go_sem] theorem t137_1:TK g137_1:=tk
noncomputable def g137_2:=regAt Proofs.Try.f137 2
@[go_sem] theorem x137_2:XR 137 g137_2 [opo 2 (.assign (.const (.int .i64 0)))]:=xk
@[go_sem] theorem t137_2:TK g137_2:=tk
noncomputable def g137_3:=regAt Proofs.Try.f137 3
@[go_sem] theorem x137_3:XR 137 g137_3 [mvo 15 1,mvo 16 2,aso 6 15,aso 7 16]:=xk
@[go_sem] theorem t137_3:TK g137_3:=tk
theorem b137:Proofs.Try.f137.body=some (.seq (.region 0 g137_0 false) (.seq (.seq (.region 1 g137_1 false) (.cond (.tmp 14) (.region 2 g137_2 false) .skip)) (.seq (.region 3 g137_3 false) .ret))):=by kernel_rfl
theorem c137{h:Hd}{ro:Nat}{H:Hp}(a0 a1 a2:AV):callB cx h ro 137 [a0,a1,a2] H=returned cx [(.tmp 6),(.tmp 7)] (ex cx h ro 137 17 (.seq (.region 0 g137_0 false) (.seq (.seq (.region 1 g137_1 false) (.cond (.tmp 14) (.region 2 g137_2 false) .skip)) (.seq (.region 3 g137_3 false) .ret))) (((PT.nil.set 0 (drp a0)).set 1 (drp a1)).set 2 (drp a2)) H):=by
 have hf:cx.fns 137=some Proofs.Try.f137:=by kernel_rfl
 simp only[callB,hf,funced,b137,bodied]
 rfl
noncomputable def g26_0:=regAt Proofs.Try.f26 0
@[go_sem] theorem x26_0:XR 26 g26_0 [opo 3 (.box 117 (.tmp 0)),opo 4 (.box 122 (.tmp 1)),opo 5 (.box 123 (.tmp 2)),opo 6 (.assign (.const (.bool false)))]:=xk
@[go_sem] theorem t26_0:TK g26_0:=tk
noncomputable def g26_1:=regAt Proofs.Try.f26 1
@[go_sem] theorem x26_1:XR 26 g26_1 [opo 24 (.call ⟨(.value (.func 85)),#[],#[]⟩),opo 25 (.unOp .not 4 (.tmp 24))]:=xk
@[go_sem] theorem t26_1:TK g26_1:=tk
noncomputable def g26_2:=regAt Proofs.Try.f26 2
@[go_sem] theorem x26_2:XR 26 g26_2 [opo 6 (.assign (.const (.bool false)))]:=xk
@[go_sem] theorem t26_2:TK g26_2:=tk
noncomputable def g26_3:=regAt Proofs.Try.f26 3
@[go_sem] theorem x26_3:XR 26 g26_3 [ldo 27 117 3,opo 28 (.call ⟨(.value (.func 87)),#[(.tmp 27)],#[117]⟩),opo 29 (.call ⟨(.value (.func 86)),#[(.tmp 28)],#[117]⟩),mvo 26 29,opo 30 (.extract (.tmp 26) 0),opo 31 (.extract (.tmp 26) 1),opo 7 (.alloc 126),(none,(.store 126 (.tmp 7) (.tmp 30)),none),aso 8 31]:=xk
@[go_sem] theorem t26_3:TK g26_3:=tk
noncomputable def g26_4:=regAt Proofs.Try.f26 4
@[go_sem] theorem x26_4:XR 26 g26_4 [mvo 32 8,opo 33 (.binOp .neq 27 (.tmp 32) (.const (.int .i64 0)) 27)]:=xk
@[go_sem] theorem t26_4:TK g26_4:=tk
noncomputable def g26_5:=regAt Proofs.Try.f26 5
@[go_sem] theorem x26_5:XR 26 g26_5 [fao 34 126 7 1,ldo 35 124 34,opo 36 (.call ⟨(.builtin .len),#[(.tmp 35)],#[124]⟩),opo 37 (.binOp .eql 3 (.tmp 36) (.const (.int .i64 0)) 3),mvo 38 37,(some 39,(.fieldAddr 126 (.tmp 7) 0),some (38,true)),(some 40,(.fieldAddr 95 (.tmp 39) 0),some (38,true)),(some 41,(.load 93 (.tmp 40)),some (38,true)),(some 42,(.call ⟨(.builtin .len),#[(.tmp 41)],#[93]⟩),some (38,true)),(some 43,(.binOp .eql 3 (.tmp 42) (.const (.int .i64 0)) 3),some (38,true)),opo 44 (.pick (.tmp 38) (.tmp 43) (.const (.bool false))),aso 6 44]:=xk
@[go_sem] theorem t26_5:TK g26_5:=tk
noncomputable def g26_6:=regAt Proofs.Try.f26 6
@[go_sem] theorem x26_6:XR 26 g26_6 [ldo 45 126 7,ldo 46 122 4,opo 47 (.call ⟨(.value (.func 88)),#[(.tmp 45),(.tmp 46)],#[126,122]⟩),(none,(.store 122 (.tmp 4) (.tmp 47)),none)]:=xk
@[go_sem] theorem t26_6:TK g26_6:=tk
noncomputable def g26_7:=regAt Proofs.Try.f26 7
@[go_sem] theorem x26_7:XUR 26 g26_7 [(0,0,[],opo 48 (.indexAddr 123 (.tmp 5) (.const (.int .i64 0)))),(1,0,[],ldo 49 3 48),(2,0,[],opo 50 (.binOp .rem 3 (.tmp 49) (.const (.int .i64 501)) 3)),(3,0,[0,1,2],opo 51 (.indexAddr 123 (.tmp 5) (.const (.int .i64 1)))),(4,0,[0,1,2],ldo 52 3 51),(5,0,[0,1,2],opo 53 (.binOp .rem 3 (.tmp 52) (.const (.int .i64 501)) 3)),(6,0,[3,4,5],aso 9 50),(7,0,[],aso 10 53)] 0:=xuk
@[go_sem] theorem t26_7:TK g26_7:=tk
noncomputable def g26_8:=regAt Proofs.Try.f26 8
@[go_sem] theorem x26_8:XR 26 g26_8 [ldo 54 126 7,ldo 55 122 4,opo 56 (.call ⟨(.value (.func 89)),#[(.tmp 54),(.tmp 55)],#[126,122]⟩),opo 11 (.alloc 122),(none,(.store 122 (.tmp 11) (.tmp 56)),none)]:=xk
@[go_sem] theorem t26_8:TK g26_8:=tk
noncomputable def g26_9:=regAt Proofs.Try.f26 9
@[go_sem] theorem x26_9:XR 26 g26_9 [ldo 58 126 7,ldo 59 122 4,opo 60 (.call ⟨(.value (.func 90)),#[(.tmp 58),(.tmp 59)],#[126,122]⟩),mvo 57 60,opo 61 (.extract (.tmp 57) 0),opo 62 (.extract (.tmp 57) 1),aso 12 61,aso 13 62]:=xk
@[go_sem] theorem t26_9:TK g26_9:=tk
noncomputable def g26_10:=regAt Proofs.Try.f26 10
@[go_sem] theorem x26_10:XR 26 g26_10 [opo 14 (.assign (.const (.int .i64 0)))]:=xk
@[go_sem] theorem t26_10:TK g26_10:=tk
noncomputable def g26_11:=regAt Proofs.Try.f26 11
@[go_sem] theorem x26_11:XR 26 g26_11 [mvo 63 14,opo 64 (.binOp .lss 3 (.tmp 63) (.const (.int .i64 16)) 3)]:=xk
@[go_sem] theorem t26_11:TK g26_11:=tk
noncomputable def g26_12:=regAt Proofs.Try.f26 12
@[go_sem] theorem x26_12:XUR 26 g26_12 [(0,0,[],mvo 67 14),(1,0,[0],fao 68 122 11 2),(2,0,[],iao 69 120 68 67),(3,0,[],ldo 70 119 69),(4,0,[0,1,2,3],mvo 71 14),(5,0,[0,1,2,3,4],fao 72 122 4 2),(6,0,[0,1,2,3],iao 73 120 72 71),(7,0,[0,1,2,3],ldo 74 119 73),(8,0,[],opo 75 (.binOp .neq 119 (.tmp 70) (.tmp 74) 119)),(9,0,[],mvo 76 75),(10,0,[],(some 77,(.load 126 (.tmp 7)),some (76,false))),(11,0,[10],(some 78,(.move (.tmp 14)),some (76,false))),(12,0,[10,11],(some 79,(.fieldAddr 122 (.tmp 4) 2),some (76,false))),(13,0,[10],(some 80,(.indexAddr 120 (.tmp 79) (.tmp 78)),some (76,false))),(14,0,[10],(some 81,(.load 119 (.tmp 80)),some (76,false))),(15,0,[],(some 82,(.call ⟨(.value (.func 91)),#[(.tmp 77),(.tmp 81)],#[126,119]⟩),some (76,false))),(16,0,[],(some 83,(.move (.tmp 82)),some (76,false))),(17,0,[],(some 84,(.move (.tmp 13)),some (83,true))),(18,0,[],(some 85,(.unOp .not 4 (.tmp 84)),some (83,true))),(19,0,[],(some 86,(.move (.tmp 85)),some (83,true))),(20,0,[],(some 87,(.move (.tmp 14)),some (86,false))),(21,0,[20],(some 88,(.fieldAddr 122 (.tmp 4) 2),some (86,false))),(22,0,[],(some 89,(.indexAddr 120 (.tmp 88) (.tmp 87)),some (86,false))),(23,0,[],(some 90,(.fieldAddr 119 (.tmp 89) 2),some (86,false))),(24,0,[],(some 91,(.load 3 (.tmp 90)),some (86,false))),(25,0,[20,21,22,23,24],(some 92,(.move (.tmp 12)),some (86,false))),(26,0,[],(some 93,(.binOp .lss 3 (.tmp 91) (.tmp 92) 3),some (86,false))),(27,0,[],(some 94,(.pick (.tmp 86) (.const (.bool true)) (.tmp 93)),some (83,true))),(28,0,[],(some 95,(.pick (.tmp 83) (.tmp 94) (.const (.bool false))),some (76,false))),(29,0,[],opo 96 (.pick (.tmp 76) (.const (.bool true)) (.tmp 95)))] 0:=xuk
@[go_sem] theorem t26_12:TK g26_12:=tk
noncomputable def g26_13:=regAt Proofs.Try.f26 13
@[go_sem] theorem x26_13:XR 26 g26_13 [opo 6 (.assign (.const (.bool false)))]:=xk
@[go_sem] theorem t26_13:TK g26_13:=tk
noncomputable def g26_14:=regAt Proofs.Try.f26 14
@[go_sem] theorem x26_14:XR 26 g26_14 [mvo 65 14,opo 66 (.binOp .add 3 (.tmp 65) (.const (.int .i64 1)) 3),aso 14 66]:=xk
@[go_sem] theorem t26_14:TK g26_14:=tk
noncomputable def g26_15:=regAt Proofs.Try.f26 15
@[go_sem] theorem x26_15:XUR 26 g26_15 [(0,0,[],mvo 97 13),(1,0,[],opo 98 (.unOp .not 4 (.tmp 97))),(2,0,[],mvo 99 98),(3,0,[],(some 100,(.load 122 (.tmp 11)),some (99,true))),(4,0,[3],(some 101,(.load 122 (.tmp 4)),some (99,true))),(5,0,[],(some 102,(.call ⟨(.value (.func 92)),#[(.tmp 100),(.tmp 101)],#[122,122]⟩),some (99,true))),(6,0,[],(some 103,(.unOp .not 4 (.tmp 102)),some (99,true))),(7,0,[],opo 104 (.pick (.tmp 99) (.tmp 103) (.const (.bool false)))),(8,0,[],mvo 105 104),(9,0,[],(some 106,(.move (.tmp 13)),some (105,false))),(10,0,[],(some 107,(.move (.tmp 106)),some (105,false))),(11,0,[],(some 108,(.fieldAddr 122 (.tmp 11) 0),some (107,true))),(12,0,[],(some 109,(.load 3 (.tmp 108)),some (107,true))),(13,0,[11,12],(some 110,(.move (.tmp 12)),some (107,true))),(14,0,[],(some 111,(.binOp .neq 3 (.tmp 109) (.tmp 110) 3),some (107,true))),(15,0,[],(some 112,(.pick (.tmp 107) (.tmp 111) (.const (.bool false))),some (105,false))),(16,0,[],opo 113 (.pick (.tmp 105) (.const (.bool true)) (.tmp 112))),(17,0,[],mvo 114 113),(18,0,[],(some 115,(.load 126 (.tmp 7)),some (114,false))),(19,0,[18],(some 116,(.load 122 (.tmp 11)),some (114,false))),(20,0,[],(some 117,(.call ⟨(.value (.func 89)),#[(.tmp 115),(.tmp 116)],#[126,122]⟩),some (114,false))),(21,0,[18,19,20],(some 118,(.load 122 (.tmp 11)),some (114,false))),(22,0,[],(some 119,(.call ⟨(.value (.func 92)),#[(.tmp 117),(.tmp 118)],#[122,122]⟩),some (114,false))),(23,0,[],(some 120,(.unOp .not 4 (.tmp 119)),some (114,false))),(24,0,[],opo 121 (.pick (.tmp 114) (.const (.bool true)) (.tmp 120)))] 0:=xuk
@[go_sem] theorem t26_15:TK g26_15:=tk
noncomputable def g26_16:=regAt Proofs.Try.f26 16
@[go_sem] theorem x26_16:XR 26 g26_16 [opo 6 (.assign (.const (.bool false)))]:=xk
@[go_sem] theorem t26_16:TK g26_16:=tk
noncomputable def g26_17:=regAt Proofs.Try.f26 17
@[go_sem] theorem x26_17:XR 26 g26_17 [ldo 122 126 7,ldo 123 122 4,mvo 124 9,opo 125 (.call ⟨(.value (.func 93)),#[(.tmp 122),(.tmp 123),(.tmp 124)],#[126,122,3]⟩),opo 15 (.alloc 122),(none,(.store 122 (.tmp 15) (.tmp 125)),none)]:=xk
@[go_sem] theorem t26_17:TK g26_17:=tk
noncomputable def g26_18:=regAt Proofs.Try.f26 18
@[go_sem] theorem x26_18:XUR 26 g26_18 [(0,0,[],mvo 126 13),(1,0,[],mvo 127 126),(2,0,[],(some 128,(.load 126 (.tmp 7)),some (127,true))),(3,0,[2],(some 129,(.load 122 (.tmp 15)),some (127,true))),(4,0,[],(some 130,(.call ⟨(.value (.func 89)),#[(.tmp 128),(.tmp 129)],#[126,122]⟩),some (127,true))),(5,0,[2,3,4],(some 131,(.load 126 (.tmp 7)),some (127,true))),(6,0,[2,3,4,5],(some 132,(.load 122 (.tmp 11)),some (127,true))),(7,0,[2,3,4,5,6],(some 133,(.move (.tmp 9)),some (127,true))),(8,0,[],(some 134,(.call ⟨(.value (.func 93)),#[(.tmp 131),(.tmp 132),(.tmp 133)],#[126,122,3]⟩),some (127,true))),(9,0,[],(some 135,(.call ⟨(.value (.func 92)),#[(.tmp 130),(.tmp 134)],#[122,122]⟩),some (127,true))),(10,0,[],(some 136,(.unOp .not 4 (.tmp 135)),some (127,true))),(11,0,[],opo 137 (.pick (.tmp 127) (.tmp 136) (.const (.bool false))))] 0:=xuk
@[go_sem] theorem t26_18:TK g26_18:=tk
noncomputable def g26_19:=regAt Proofs.Try.f26 19
@[go_sem] theorem x26_19:XR 26 g26_19 [opo 6 (.assign (.const (.bool false)))]:=xk
@[go_sem] theorem t26_19:TK g26_19:=tk
noncomputable def g26_20:=regAt Proofs.Try.f26 20
@[go_sem] theorem x26_20:XR 26 g26_20 [ldo 139 126 7,ldo 140 122 4,ldo 141 122 15,opo 142 (.call ⟨(.value (.func 94)),#[(.tmp 139),(.tmp 140),(.tmp 141)],#[126,122,122]⟩),mvo 138 142,opo 143 (.extract (.tmp 138) 0),opo 144 (.extract (.tmp 138) 1),aso 16 143,aso 17 144]:=xk
@[go_sem] theorem t26_20:TK g26_20:=tk
noncomputable def g26_21:=regAt Proofs.Try.f26 21
@[go_sem] theorem x26_21:XUR 26 g26_21 [(0,0,[],ldo 146 126 7),(1,0,[0],ldo 147 122 15),(2,0,[0,1],ldo 148 126 7),(3,0,[0,1,2],ldo 149 122 15),(4,0,[0,1,2,3],mvo 150 10),(5,0,[0,1],opo 151 (.call ⟨(.value (.func 93)),#[(.tmp 148),(.tmp 149),(.tmp 150)],#[126,122,3]⟩)),(6,0,[],opo 152 (.call ⟨(.value (.func 94)),#[(.tmp 146),(.tmp 147),(.tmp 151)],#[126,122,122]⟩)),(7,0,[],mvo 145 152),(8,0,[],opo 153 (.extract (.tmp 145) 0)),(9,0,[8],opo 154 (.extract (.tmp 145) 1)),(10,0,[9],aso 18 153),(11,0,[],aso 19 154)] 0:=xuk
@[go_sem] theorem t26_21:TK g26_21:=tk
noncomputable def g26_22:=regAt Proofs.Try.f26 22
@[go_sem] theorem x26_22:XUR 26 g26_22 [(0,0,[],ldo 156 126 7),(1,0,[0],ldo 157 122 4),(2,0,[0,1],ldo 158 126 7),(3,0,[0,1,2],ldo 159 122 15),(4,0,[0,1,2,3],mvo 160 10),(5,0,[0,1],opo 161 (.call ⟨(.value (.func 93)),#[(.tmp 158),(.tmp 159),(.tmp 160)],#[126,122,3]⟩)),(6,0,[],opo 162 (.call ⟨(.value (.func 94)),#[(.tmp 156),(.tmp 157),(.tmp 161)],#[126,122,122]⟩)),(7,0,[],mvo 155 162),(8,0,[],opo 163 (.extract (.tmp 155) 0)),(9,0,[8],opo 164 (.extract (.tmp 155) 1)),(10,0,[9],aso 20 163),(11,0,[],aso 21 164)] 0:=xuk
@[go_sem] theorem t26_22:TK g26_22:=tk
noncomputable def g26_23:=regAt Proofs.Try.f26 23
@[go_sem] theorem x26_23:XR 26 g26_23 [ldo 166 126 7,ldo 167 122 15,ldo 168 122 4,opo 169 (.call ⟨(.value (.func 94)),#[(.tmp 166),(.tmp 167),(.tmp 168)],#[126,122,122]⟩),mvo 165 169,opo 170 (.extract (.tmp 165) 0),opo 171 (.extract (.tmp 165) 1),aso 22 170,aso 23 171]:=xk
@[go_sem] theorem t26_23:TK g26_23:=tk
noncomputable def g26_24:=regAt Proofs.Try.f26 24
@[go_sem] theorem x26_24:XR 26 g26_24 [mvo 172 17,mvo 173 172,(some 174,(.move (.tmp 19)),some (173,true)),opo 175 (.pick (.tmp 173) (.tmp 174) (.const (.bool false))),mvo 176 175,(some 177,(.move (.tmp 21)),some (176,true)),opo 178 (.pick (.tmp 176) (.tmp 177) (.const (.bool false))),mvo 179 178,(some 180,(.move (.tmp 23)),some (179,true)),opo 181 (.pick (.tmp 179) (.tmp 180) (.const (.bool false))),mvo 182 181,(some 183,(.move (.tmp 16)),some (182,true)),(some 184,(.move (.tmp 9)),some (182,true)),(some 185,(.binOp .eql 3 (.tmp 183) (.tmp 184) 3),some (182,true)),opo 186 (.pick (.tmp 182) (.tmp 185) (.const (.bool false))),mvo 187 186,(some 188,(.move (.tmp 18)),some (187,true)),(some 189,(.move (.tmp 10)),some (187,true)),(some 190,(.binOp .eql 3 (.tmp 188) (.tmp 189) 3),some (187,true)),opo 191 (.pick (.tmp 187) (.tmp 190) (.const (.bool false))),mvo 192 191,(some 193,(.move (.tmp 20)),some (192,true)),(some 194,(.move (.tmp 9)),some (192,true)),(some 195,(.move (.tmp 10)),some (192,true)),(some 196,(.binOp .add 3 (.tmp 194) (.tmp 195) 3),some (192,true)),(some 197,(.binOp .eql 3 (.tmp 193) (.tmp 196) 3),some (192,true)),opo 198 (.pick (.tmp 192) (.tmp 197) (.const (.bool false))),mvo 199 198,(some 200,(.move (.tmp 22)),some (199,true)),(some 201,(.move (.tmp 9)),some (199,true)),(some 202,(.unOp .neg 3 (.tmp 201)),some (199,true)),(some 203,(.binOp .eql 3 (.tmp 200) (.tmp 202) 3),some (199,true)),opo 204 (.pick (.tmp 199) (.tmp 203) (.const (.bool false))),aso 6 204]:=xk
@[go_sem] theorem t26_24:TK g26_24:=tk
noncomputable def l26_0:Code:=(.seq (.seq (.region 11 g26_11 false) (.cond (.tmp 64) .skip (.exit 0))) (.seq (.block 1 (.seq (.region 13 g26_12 true) (.cond (.tmp 96) (.seq (.region 14 g26_13 false) .ret) .skip))) (.region 12 g26_14 false)))
theorem dl26_0{ro nt:Nat}{fr:PT}{H:Hp}:(den cx).loop ro 26 nt l26_0 fr H=xbind (ex cx (den cx) ro 26 nt (.seq (.seq (.region 11 g26_11 false) (.cond (.tmp 64) .skip (.exit 0))) (.seq (.block 1 (.seq (.region 13 g26_12 true) (.cond (.tmp 96) (.seq (.region 14 g26_13 false) .ret) .skip))) (.region 12 g26_14 false))) fr H) (contR (trimmed ((den cx).loop ro 26 nt l26_0) H.length)):=den_loop_x l26_0
theorem b26:Proofs.Try.f26.body=some (.seq (.region 0 g26_0 false) (.seq (.seq (.region 1 g26_1 false) (.cond (.tmp 25) (.seq (.region 2 g26_2 false) .ret) .skip)) (.seq (.region 3 g26_3 false) (.seq (.seq (.region 4 g26_4 false) (.cond (.tmp 33) (.seq (.region 5 g26_5 false) .ret) .skip)) (.seq (.region 6 g26_6 false) (.seq (.region 7 g26_7 true) (.seq (.region 8 g26_8 false) (.seq (.region 9 g26_9 false) (.seq (.seq (.region 10 g26_10 false) (.block 0 (.loop l26_0))) (.seq (.seq (.region 15 g26_15 true) (.cond (.tmp 121) (.seq (.region 16 g26_16 false) .ret) .skip)) (.seq (.region 17 g26_17 false) (.seq (.seq (.region 18 g26_18 true) (.cond (.tmp 137) (.seq (.region 19 g26_19 false) .ret) .skip)) (.seq (.region 20 g26_20 false) (.seq (.region 21 g26_21 true) (.seq (.region 22 g26_22 true) (.seq (.region 23 g26_23 false) (.seq (.region 24 g26_24 false) .ret))))))))))))))))):=by kernel_rfl
theorem c26{h:Hd}{ro:Nat}{H:Hp}(a0 a1 a2:AV):callB cx h ro 26 [a0,a1,a2] H=returned cx [(.tmp 6)] (ex cx h ro 26 205 (.seq (.region 0 g26_0 false) (.seq (.seq (.region 1 g26_1 false) (.cond (.tmp 25) (.seq (.region 2 g26_2 false) .ret) .skip)) (.seq (.region 3 g26_3 false) (.seq (.seq (.region 4 g26_4 false) (.cond (.tmp 33) (.seq (.region 5 g26_5 false) .ret) .skip)) (.seq (.region 6 g26_6 false) (.seq (.region 7 g26_7 true) (.seq (.region 8 g26_8 false) (.seq (.region 9 g26_9 false) (.seq (.seq (.region 10 g26_10 false) (.block 0 (.loop l26_0))) (.seq (.seq (.region 15 g26_15 true) (.cond (.tmp 121) (.seq (.region 16 g26_16 false) .ret) .skip)) (.seq (.region 17 g26_17 false) (.seq (.seq (.region 18 g26_18 true) (.cond (.tmp 137) (.seq (.region 19 g26_19 false) .ret) .skip)) (.seq (.region 20 g26_20 false) (.seq (.region 21 g26_21 true) (.seq (.region 22 g26_22 true) (.seq (.region 23 g26_23 false) (.seq (.region 24 g26_24 false) .ret))))))))))))))))) (((PT.nil.set 0 (drp a0)).set 1 (drp a1)).set 2 (drp a2)) H):=by
 have hf:cx.fns 26=some Proofs.Try.f26:=by kernel_rfl
 simp only[callB,hf,funced,b26,bodied]
 rfl
noncomputable def g86_0:=regAt Proofs.Try.f86 0
@[go_sem] theorem x86_0:XR 86 g86_0 [opo 1 (.box 117 (.tmp 0)),opo 2 (.alloc 126),opo 3 (.assign (.const (.int .i64 0)))]:=xk
@[go_sem] theorem t86_0:TK g86_0:=tk
noncomputable def g86_1:=regAt Proofs.Try.f86 1
@[go_sem] theorem x86_1:XR 86 g86_1 [fao 14 117 1 0,ldo 15 56 14,opo 16 (.call ⟨(.value (.func 73)),#[(.tmp 15)],#[56]⟩),mvo 13 16,opo 17 (.extract (.tmp 13) 0),opo 18 (.extract (.tmp 13) 1),opo 4 (.alloc 95),(none,(.store 95 (.tmp 4) (.tmp 17)),none),aso 5 18]:=xk
@[go_sem] theorem t86_1:TK g86_1:=tk
noncomputable def g86_2:=regAt Proofs.Try.f86 2
@[go_sem] theorem x86_2:XR 86 g86_2 [mvo 19 5,opo 20 (.binOp .neq 27 (.tmp 19) (.const (.int .i64 0)) 27)]:=xk
@[go_sem] theorem t86_2:TK g86_2:=tk
noncomputable def g86_3:=regAt Proofs.Try.f86 3
@[go_sem] theorem x86_3:XR 86 g86_3 [opo 21 (.build 126 #[]),mvo 22 5,(none,(.store 126 (.tmp 2) (.tmp 21)),none),aso 3 22]:=xk
@[go_sem] theorem t86_3:TK g86_3:=tk
noncomputable def g86_4:=regAt Proofs.Try.f86 4
@[go_sem] theorem x86_4:XR 86 g86_4 [fao 23 117 1 1,ldo 24 113 23,opo 25 (.call ⟨(.builtin .len),#[(.tmp 24)],#[113]⟩),opo 26 (.makeSlice 124 (.tmp 25) (.tmp 25)),aso 6 26]:=xk
@[go_sem] theorem t86_4:TK g86_4:=tk
noncomputable def g86_5:=regAt Proofs.Try.f86 5
@[go_sem] theorem x86_5:XR 86 g86_5 [fao 27 117 1 1,ldo 28 113 27,opo 29 (.call ⟨(.builtin .len),#[(.tmp 28)],#[113]⟩),opo 30 (.move (.const (.int .i64 0)))]:=xk
@[go_sem] theorem t86_5:TK g86_5:=tk
noncomputable def g86_6:=regAt Proofs.Try.f86 6
@[go_sem] theorem x86_6:XR 86 g86_6 [opo 31 (.binOp .lss 3 (.tmp 30) (.tmp 29) 3)]:=xk
@[go_sem] theorem t86_6:TK g86_6:=tk
noncomputable def g86_7:=regAt Proofs.Try.f86 7
@[go_sem] theorem x86_7:XR 86 g86_7 [mvo 32 30,iao 33 113 28 30,ldo 34 143 33,opo 8 (.alloc 143),aso 7 32,(none,(.store 143 (.tmp 8) (.tmp 34)),none)]:=xk
@[go_sem] theorem t86_7:TK g86_7:=tk
noncomputable def g86_8:=regAt Proofs.Try.f86 8
@[go_sem] theorem x86_8:XR 86 g86_8 [fao 35 143 8 0,ldo 36 140 35,opo 37 (.call ⟨(.builtin .len),#[(.tmp 36)],#[140]⟩),opo 38 (.binOp .gtr 3 (.tmp 37) (.const (.int .i64 8)) 3)]:=xk
@[go_sem] theorem t86_8:TK g86_8:=tk
noncomputable def g86_9:=regAt Proofs.Try.f86 9
@[go_sem] theorem x86_9:XR 86 g86_9 [opo 39 (.build 126 #[]),(none,(.store 126 (.tmp 2) (.tmp 39)),none),opo 3 (.assign (.const (.int .i64 2)))]:=xk
@[go_sem] theorem t86_9:TK g86_9:=tk
noncomputable def g86_10:=regAt Proofs.Try.f86 10
@[go_sem] theorem x86_10:XR 86 g86_10 [fao 40 143 8 0,ldo 41 140 40,opo 42 (.call ⟨(.builtin .len),#[(.tmp 41)],#[140]⟩),opo 43 (.move (.const (.int .i64 0)))]:=xk
@[go_sem] theorem t86_10:TK g86_10:=tk
noncomputable def g86_11:=regAt Proofs.Try.f86 11
@[go_sem] theorem x86_11:XR 86 g86_11 [opo 44 (.binOp .lss 3 (.tmp 43) (.tmp 42) 3)]:=xk
@[go_sem] theorem t86_11:TK g86_11:=tk
noncomputable def g86_12:=regAt Proofs.Try.f86 12
@[go_sem] theorem x86_12:XR 86 g86_12 [iao 45 140 41 43,ldo 46 139 45,opo 10 (.alloc 139),(none,(.store 139 (.tmp 10) (.tmp 46)),none)]:=xk
@[go_sem] theorem t86_12:TK g86_12:=tk
noncomputable def g86_13:=regAt Proofs.Try.f86 13
@[go_sem] theorem x86_13:XR 86 g86_13 [ldo 48 95 4,fao 49 117 1 0,ldo 50 56 49,opo 51 (.call ⟨(.builtin .len),#[(.tmp 50)],#[56]⟩),ldo 52 139 10,opo 53 (.call ⟨(.value (.func 140)),#[(.tmp 48),(.tmp 51),(.tmp 52)],#[95,3,139]⟩),mvo 47 53,opo 54 (.extract (.tmp 47) 0),opo 55 (.extract (.tmp 47) 1),opo 11 (.alloc 119),(none,(.store 119 (.tmp 11) (.tmp 54)),none),aso 12 55]:=xk
@[go_sem] theorem t86_13:TK g86_13:=tk
noncomputable def g86_14:=regAt Proofs.Try.f86 14
@[go_sem] theorem x86_14:XR 86 g86_14 [mvo 56 12,opo 57 (.unOp .not 4 (.tmp 56))]:=xk
@[go_sem] theorem t86_14:TK g86_14:=tk
noncomputable def g86_15:=regAt Proofs.Try.f86 15
@[go_sem] theorem x86_15:XR 86 g86_15 [opo 58 (.build 126 #[]),(none,(.store 126 (.tmp 2) (.tmp 58)),none),opo 3 (.assign (.const (.int .i64 2)))]:=xk
@[go_sem] theorem t86_15:TK g86_15:=tk
noncomputable def g86_16:=regAt Proofs.Try.f86 16
@[go_sem] theorem x86_16:XUR 86 g86_16 [(0,0,[],mvo 59 6),(1,0,[0],mvo 60 7),(2,0,[0,1],mvo 61 6),(3,0,[0,1,2],mvo 62 7),(4,0,[0,1],iao 63 124 61 62),(5,0,[0,1],ldo 64 167 63),(6,0,[0,1,2,3,4,5],ldo 65 119 11),(7,0,[0,1,2,3,4,5],opo 66 (.buildSlice 167 1 #[(0,(.tmp 65))])),(8,0,[0,1],opo 67 (.call ⟨(.builtin .append),#[(.tmp 64),(.tmp 66)],#[167,167]⟩)),(9,0,[],iao 68 124 59 60),(10,0,[],(none,(.store 167 (.tmp 68) (.tmp 67)),none))] 0:=xuk
@[go_sem] theorem t86_16_59:takes g86_16 59=false:=nk
@[go_sem] theorem t86_16_60:takes g86_16 60=false:=nk
@[go_sem] theorem t86_16_61:takes g86_16 61=false:=nk
@[go_sem] theorem t86_16_62:takes g86_16 62=false:=nk
@[go_sem] theorem t86_16_63:takes g86_16 63=false:=nk
@[go_sem] theorem t86_16_64:takes g86_16 64=true:=nk
@[go_sem] theorem t86_16_65:takes g86_16 65=false:=nk
@[go_sem] theorem t86_16_66:takes g86_16 66=false:=nk
@[go_sem] theorem t86_16_67:takes g86_16 67=false:=nk
@[go_sem] theorem t86_16_68:takes g86_16 68=false:=nk
noncomputable def g86_17:=regAt Proofs.Try.f86 17
@[go_sem] theorem x86_17:XR 86 g86_17 [opo 69 (.binOp .add 3 (.tmp 43) (.const (.int .i64 1)) 3),mvo 43 69]:=xk
@[go_sem] theorem t86_17:TK g86_17:=tk
noncomputable def g86_18:=regAt Proofs.Try.f86 18
@[go_sem] theorem x86_18:XR 86 g86_18 [opo 70 (.binOp .add 3 (.tmp 30) (.const (.int .i64 1)) 3),mvo 30 70]:=xk
@[go_sem] theorem t86_18:TK g86_18:=tk
noncomputable def g86_19:=regAt Proofs.Try.f86 19
@[go_sem] theorem x86_19:XR 86 g86_19 [ldo 71 95 4,mvo 72 6,opo 73 (.build 126 #[(0,(.tmp 71)),(1,(.tmp 72))]),(none,(.store 126 (.tmp 2) (.tmp 73)),none),opo 3 (.assign (.const (.int .i64 0)))]:=xk
@[go_sem] theorem t86_19:TK g86_19:=tk
noncomputable def l86_0:Code:=(.seq (.region 11 g86_11 false) (.seq (.cond (.tmp 44) .skip (.exit 2)) (.seq (.block 3 (.seq (.region 12 g86_12 false) (.seq (.region 13 g86_13 false) (.seq (.seq (.region 14 g86_14 false) (.cond (.tmp 57) (.seq (.region 15 g86_15 false) .ret) .skip)) (.region 16 g86_16 true))))) (.region 17 g86_17 false))))
theorem dl86_0{ro nt:Nat}{fr:PT}{H:Hp}:(den cx).loop ro 86 nt l86_0 fr H=xbind (ex cx (den cx) ro 86 nt (.seq (.region 11 g86_11 false) (.seq (.cond (.tmp 44) .skip (.exit 2)) (.seq (.block 3 (.seq (.region 12 g86_12 false) (.seq (.region 13 g86_13 false) (.seq (.seq (.region 14 g86_14 false) (.cond (.tmp 57) (.seq (.region 15 g86_15 false) .ret) .skip)) (.region 16 g86_16 true))))) (.region 17 g86_17 false)))) fr H) (contR (trimmed ((den cx).loop ro 86 nt l86_0) H.length)):=den_loop_x l86_0
noncomputable def l86_1:Code:=(.seq (.region 6 g86_6 false) (.seq (.cond (.tmp 31) .skip (.exit 0)) (.seq (.block 1 (.seq (.region 7 g86_7 false) (.seq (.seq (.region 8 g86_8 false) (.cond (.tmp 38) (.seq (.region 9 g86_9 false) .ret) .skip)) (.seq (.region 10 g86_10 false) (.block 2 (.loop l86_0)))))) (.region 18 g86_18 false))))
theorem dl86_1{ro nt:Nat}{fr:PT}{H:Hp}:(den cx).loop ro 86 nt l86_1 fr H=xbind (ex cx (den cx) ro 86 nt (.seq (.region 6 g86_6 false) (.seq (.cond (.tmp 31) .skip (.exit 0)) (.seq (.block 1 (.seq (.region 7 g86_7 false) (.seq (.seq (.region 8 g86_8 false) (.cond (.tmp 38) (.seq (.region 9 g86_9 false) .ret) .skip)) (.seq (.region 10 g86_10 false) (.block 2 (.loop l86_0)))))) (.region 18 g86_18 false)))) fr H) (contR (trimmed ((den cx).loop ro 86 nt l86_1) H.length)):=den_loop_x l86_1
theorem b86:Proofs.Try.f86.body=some (.seq (.region 0 g86_0 false) (.seq (.region 1 g86_1 false) (.seq (.seq (.region 2 g86_2 false) (.cond (.tmp 20) (.seq (.region 3 g86_3 false) .ret) .skip)) (.seq (.region 4 g86_4 false) (.seq (.seq (.region 5 g86_5 false) (.block 0 (.loop l86_1))) (.seq (.region 19 g86_19 false) .ret)))))):=by kernel_rfl
theorem c86{h:Hd}{ro:Nat}{H:Hp}(a0:AV):callB cx h ro 86 [a0] H=returned cx [(.cell 2 126),(.tmp 3)] (ex cx h ro 86 74 (.seq (.region 0 g86_0 false) (.seq (.region 1 g86_1 false) (.seq (.seq (.region 2 g86_2 false) (.cond (.tmp 20) (.seq (.region 3 g86_3 false) .ret) .skip)) (.seq (.region 4 g86_4 false) (.seq (.seq (.region 5 g86_5 false) (.block 0 (.loop l86_1))) (.seq (.region 19 g86_19 false) .ret)))))) (PT.nil.set 0 (drp a0)) H):=by
 have hf:cx.fns 86=some Proofs.Try.f86:=by kernel_rfl
 simp only[callB,hf,funced,b86,bodied]
 rfl
noncomputable def g87_0:=regAt Proofs.Try.f87 0
@[go_sem] theorem x87_0:XR 87 g87_0 [opo 1 (.box 117 (.tmp 0)),opo 2 (.alloc 117)]:=xk
@[go_sem] theorem t87_0:TK g87_0:=tk
noncomputable def g87_1:=regAt Proofs.Try.f87 1
@[go_sem] theorem x87_1:XR 87 g87_1 [opo 3 (.alloc 117)]:=xk
@[go_sem] theorem t87_1:TK g87_1:=tk
noncomputable def g87_2:=regAt Proofs.Try.f87 2
@[go_sem] theorem x87_2:XR 87 g87_2 [opo 4 (.assign (.const (.int .i64 0)))]:=xk
@[go_sem] theorem t87_2:TK g87_2:=tk
noncomputable def g87_3:=regAt Proofs.Try.f87 3
@[go_sem] theorem x87_3:XR 87 g87_3 [mvo 8 4,fao 9 117 1 0,ldo 10 56 9,opo 11 (.call ⟨(.builtin .len),#[(.tmp 10)],#[56]⟩),opo 12 (.binOp .lss 3 (.tmp 8) (.tmp 11) 3),mvo 13 12,(some 14,(.move (.tmp 4)),some (13,true)),(some 15,(.binOp .lss 3 (.tmp 14) (.const (.int .i64 10)) 3),some (13,true)),opo 16 (.pick (.tmp 13) (.tmp 15) (.const (.bool false)))]:=xk
@[go_sem] theorem t87_3:TK g87_3:=tk
noncomputable def g87_4:=regAt Proofs.Try.f87 4
@[go_sem] theorem x87_4:XR 87 g87_4 [fao 19 117 1 0,ldo 20 56 19,mvo 21 4,iao 22 56 20 21,ldo 23 66 22,opo 5 (.alloc 66),(none,(.store 66 (.tmp 5) (.tmp 23)),none)]:=xk
@[go_sem] theorem t87_4:TK g87_4:=tk
noncomputable def g87_5:=regAt Proofs.Try.f87 5
@[go_sem] theorem x87_5:XR 87 g87_5 [fao 24 66 5 4,ldo 25 64 24,fao 26 66 5 4,ldo 27 64 26,opo 28 (.call ⟨(.builtin .len),#[(.tmp 27)],#[64]⟩),opo 29 (.call ⟨(.builtin .min),#[(.tmp 28),(.const (.int .i64 9))],#[3,3]⟩),opo 30 (.slice 64 (.tmp 25) none (some (.tmp 29)) none),fao 31 66 5 4,(none,(.store 64 (.tmp 31) (.tmp 30)),none)]:=xk
@[go_sem] theorem t87_5:TK g87_5:=tk
noncomputable def g87_6:=regAt Proofs.Try.f87 6
@[go_sem] theorem x87_6:XR 87 g87_6 [fao 32 117 3 0,ldo 33 56 32,ldo 34 66 5,opo 35 (.buildSlice 56 1 #[(0,(.tmp 34))]),opo 36 (.call ⟨(.builtin .append),#[(.tmp 33),(.tmp 35)],#[56,56]⟩),fao 37 117 3 0,(none,(.store 56 (.tmp 37) (.tmp 36)),none)]:=xk
@[go_sem] theorem t87_6_32:takes g87_6 32=false:=nk
@[go_sem] theorem t87_6_33:takes g87_6 33=true:=nk
@[go_sem] theorem t87_6_34:takes g87_6 34=false:=nk
@[go_sem] theorem t87_6_35:takes g87_6 35=false:=nk
@[go_sem] theorem t87_6_36:takes g87_6 36=false:=nk
@[go_sem] theorem t87_6_37:takes g87_6 37=false:=nk
noncomputable def g87_7:=regAt Proofs.Try.f87 7
@[go_sem] theorem x87_7:XR 87 g87_7 [mvo 17 4,opo 18 (.binOp .add 3 (.tmp 17) (.const (.int .i64 1)) 3),aso 4 18]:=xk
@[go_sem] theorem t87_7:TK g87_7:=tk
noncomputable def g87_8:=regAt Proofs.Try.f87 8
@[go_sem] theorem x87_8:XR 87 g87_8 [opo 6 (.assign (.const (.int .i64 0)))]:=xk
@[go_sem] theorem t87_8:TK g87_8:=tk
noncomputable def g87_9:=regAt Proofs.Try.f87 9
@[go_sem] theorem x87_9:XR 87 g87_9 [mvo 38 6,fao 39 117 1 1,ldo 40 113 39,opo 41 (.call ⟨(.builtin .len),#[(.tmp 40)],#[113]⟩),opo 42 (.binOp .lss 3 (.tmp 38) (.tmp 41) 3),mvo 43 42,(some 44,(.move (.tmp 6)),some (43,true)),(some 45,(.binOp .lss 3 (.tmp 44) (.const (.int .i64 4)) 3),some (43,true)),opo 46 (.pick (.tmp 43) (.tmp 45) (.const (.bool false)))]:=xk
@[go_sem] theorem t87_9:TK g87_9:=tk
noncomputable def g87_10:=regAt Proofs.Try.f87 10
@[go_sem] theorem x87_10:XR 87 g87_10 [fao 49 117 1 1,ldo 50 113 49,mvo 51 6,iao 52 113 50 51,fao 53 143 52 0,ldo 54 140 53,aso 7 54]:=xk
@[go_sem] theorem t87_10:TK g87_10:=tk
noncomputable def g87_11:=regAt Proofs.Try.f87 11
@[go_sem] theorem x87_11:XUR 87 g87_11 [(0,0,[],fao 55 117 3 1),(1,0,[],ldo 56 113 55),(2,0,[0,1],mvo 57 7),(3,0,[0,1,2],mvo 58 7),(4,0,[0,1,2],opo 59 (.call ⟨(.builtin .len),#[(.tmp 58)],#[140]⟩)),(5,0,[0,1,2],opo 60 (.call ⟨(.builtin .min),#[(.tmp 59),(.const (.int .i64 10))],#[3,3]⟩)),(6,0,[0,1],opo 61 (.slice 140 (.tmp 57) none (some (.tmp 60)) none)),(7,0,[0,1],opo 62 (.build 143 #[(0,(.tmp 61))])),(8,0,[0,1],opo 63 (.buildSlice 113 1 #[(0,(.tmp 62))])),(9,0,[],opo 64 (.call ⟨(.builtin .append),#[(.tmp 56),(.tmp 63)],#[113,113]⟩)),(10,0,[],fao 65 117 3 1),(11,0,[],(none,(.store 113 (.tmp 65) (.tmp 64)),none))] 0:=xuk
@[go_sem] theorem t87_11_55:takes g87_11 55=false:=nk
@[go_sem] theorem t87_11_56:takes g87_11 56=true:=nk
@[go_sem] theorem t87_11_57:takes g87_11 57=false:=nk
@[go_sem] theorem t87_11_58:takes g87_11 58=false:=nk
@[go_sem] theorem t87_11_59:takes g87_11 59=false:=nk
@[go_sem] theorem t87_11_60:takes g87_11 60=false:=nk
@[go_sem] theorem t87_11_61:takes g87_11 61=false:=nk
@[go_sem] theorem t87_11_62:takes g87_11 62=false:=nk
@[go_sem] theorem t87_11_63:takes g87_11 63=false:=nk
@[go_sem] theorem t87_11_64:takes g87_11 64=false:=nk
@[go_sem] theorem t87_11_65:takes g87_11 65=false:=nk
noncomputable def g87_12:=regAt Proofs.Try.f87 12
@[go_sem] theorem x87_12:XR 87 g87_12 [mvo 47 6,opo 48 (.binOp .add 3 (.tmp 47) (.const (.int .i64 1)) 3),aso 6 48]:=xk
@[go_sem] theorem t87_12:TK g87_12:=tk
noncomputable def g87_13:=regAt Proofs.Try.f87 13
@[go_sem] theorem x87_13:XR 87 g87_13 [ldo 66 117 3,(none,(.store 117 (.tmp 2) (.tmp 66)),none)]:=xk
@[go_sem] theorem t87_13:TK g87_13:=tk
noncomputable def l87_0:Code:=(.seq (.seq (.region 3 g87_3 false) (.cond (.tmp 16) .skip (.exit 0))) (.seq (.block 1 (.seq (.region 5 g87_4 false) (.seq (.region 6 g87_5 false) (.region 7 g87_6 false)))) (.region 4 g87_7 false)))
theorem dl87_0{ro nt:Nat}{fr:PT}{H:Hp}:(den cx).loop ro 87 nt l87_0 fr H=xbind (ex cx (den cx) ro 87 nt (.seq (.seq (.region 3 g87_3 false) (.cond (.tmp 16) .skip (.exit 0))) (.seq (.block 1 (.seq (.region 5 g87_4 false) (.seq (.region 6 g87_5 false) (.region 7 g87_6 false)))) (.region 4 g87_7 false))) fr H) (contR (trimmed ((den cx).loop ro 87 nt l87_0) H.length)):=den_loop_x l87_0
noncomputable def l87_1:Code:=(.seq (.seq (.region 9 g87_9 false) (.cond (.tmp 46) .skip (.exit 2))) (.seq (.block 3 (.seq (.region 11 g87_10 false) (.region 12 g87_11 true))) (.region 10 g87_12 false)))
theorem dl87_1{ro nt:Nat}{fr:PT}{H:Hp}:(den cx).loop ro 87 nt l87_1 fr H=xbind (ex cx (den cx) ro 87 nt (.seq (.seq (.region 9 g87_9 false) (.cond (.tmp 46) .skip (.exit 2))) (.seq (.block 3 (.seq (.region 11 g87_10 false) (.region 12 g87_11 true))) (.region 10 g87_12 false))) fr H) (contR (trimmed ((den cx).loop ro 87 nt l87_1) H.length)):=den_loop_x l87_1
theorem b87:Proofs.Try.f87.body=some (.seq (.region 0 g87_0 false) (.seq (.region 1 g87_1 false) (.seq (.seq (.region 2 g87_2 false) (.block 0 (.loop l87_0))) (.seq (.seq (.region 8 g87_8 false) (.block 2 (.loop l87_1))) (.seq (.region 13 g87_13 false) .ret))))):=by kernel_rfl
theorem c87{h:Hd}{ro:Nat}{H:Hp}(a0:AV):callB cx h ro 87 [a0] H=returned cx [(.cell 2 117)] (ex cx h ro 87 67 (.seq (.region 0 g87_0 false) (.seq (.region 1 g87_1 false) (.seq (.seq (.region 2 g87_2 false) (.block 0 (.loop l87_0))) (.seq (.seq (.region 8 g87_8 false) (.block 2 (.loop l87_1))) (.seq (.region 13 g87_13 false) .ret))))) (PT.nil.set 0 (drp a0)) H):=by
 have hf:cx.fns 87=some Proofs.Try.f87:=by kernel_rfl
 simp only[callB,hf,funced,b87,bodied]
 rfl
noncomputable def g88_0:=regAt Proofs.Try.f88 0
@[go_sem] theorem x88_0:XR 88 g88_0 [opo 2 (.box 126 (.tmp 0)),opo 3 (.box 122 (.tmp 1)),opo 4 (.alloc 122)]:=xk
@[go_sem] theorem t88_0:TK g88_0:=tk
noncomputable def g88_1:=regAt Proofs.Try.f88 1
@[go_sem] theorem x88_1:XR 88 g88_1 [fao 7 122 3 0,ldo 8 3 7,opo 9 (.binOp .rem 3 (.tmp 8) (.const (.int .i64 1000)) 3),fao 10 122 3 0,(none,(.store 3 (.tmp 10) (.tmp 9)),none)]:=xk
@[go_sem] theorem t88_1:TK g88_1:=tk
noncomputable def g88_2:=regAt Proofs.Try.f88 2
@[go_sem] theorem x88_2:XR 88 g88_2 [opo 5 (.assign (.const (.int .i64 0)))]:=xk
@[go_sem] theorem t88_2:TK g88_2:=tk
noncomputable def g88_3:=regAt Proofs.Try.f88 3
@[go_sem] theorem x88_3:XR 88 g88_3 [mvo 11 5,opo 12 (.binOp .lss 3 (.tmp 11) (.const (.int .i64 16)) 3)]:=xk
@[go_sem] theorem t88_3:TK g88_3:=tk
noncomputable def g88_4:=regAt Proofs.Try.f88 4
@[go_sem] theorem x88_4:XR 88 g88_4 [mvo 15 5,fao 16 122 3 2,iao 17 120 16 15,ldo 18 119 17,opo 6 (.alloc 119),(none,(.store 119 (.tmp 6) (.tmp 18)),none)]:=xk
@[go_sem] theorem t88_4:TK g88_4:=tk
noncomputable def g88_5:=regAt Proofs.Try.f88 5
@[go_sem] theorem x88_5:XR 88 g88_5 [fao 19 119 6 0,ldo 20 3 19,opo 21 (.call ⟨(.builtin .max),#[(.tmp 20),(.const (.int .i64 0))],#[3,3]⟩),opo 22 (.binOp .rem 3 (.tmp 21) (.const (.int .i64 3)) 3),fao 23 119 6 0,(none,(.store 3 (.tmp 23) (.tmp 22)),none)]:=xk
@[go_sem] theorem t88_5:TK g88_5:=tk
noncomputable def g88_6:=regAt Proofs.Try.f88 6
@[go_sem] theorem x88_6:XR 88 g88_6 [fao 24 119 6 1,ldo 25 3 24,opo 26 (.call ⟨(.builtin .max),#[(.tmp 25),(.const (.int .i64 0))],#[3,3]⟩),fao 27 126 2 0,fao 28 95 27 0,ldo 29 93 28,opo 30 (.call ⟨(.builtin .len),#[(.tmp 29)],#[93]⟩),opo 31 (.binOp .add 3 (.tmp 30) (.const (.int .i64 1)) 3),opo 32 (.binOp .rem 3 (.tmp 26) (.tmp 31) 3),fao 33 119 6 1,(none,(.store 3 (.tmp 33) (.tmp 32)),none)]:=xk
@[go_sem] theorem t88_6:TK g88_6:=tk
noncomputable def g88_7:=regAt Proofs.Try.f88 7
@[go_sem] theorem x88_7:XR 88 g88_7 [fao 34 119 6 2,ldo 35 3 34,opo 36 (.binOp .rem 3 (.tmp 35) (.const (.int .i64 1000)) 3),fao 37 119 6 2,(none,(.store 3 (.tmp 37) (.tmp 36)),none)]:=xk
@[go_sem] theorem t88_7:TK g88_7:=tk
noncomputable def g88_8:=regAt Proofs.Try.f88 8
@[go_sem] theorem x88_8:XR 88 g88_8 [mvo 38 5,ldo 39 119 6,fao 40 122 3 2,iao 41 120 40 38,(none,(.store 119 (.tmp 41) (.tmp 39)),none)]:=xk
@[go_sem] theorem t88_8:TK g88_8:=tk
noncomputable def g88_9:=regAt Proofs.Try.f88 9
@[go_sem] theorem x88_9:XR 88 g88_9 [mvo 13 5,opo 14 (.binOp .add 3 (.tmp 13) (.const (.int .i64 1)) 3),aso 5 14]:=xk
@[go_sem] theorem t88_9:TK g88_9:=tk
noncomputable def g88_10:=regAt Proofs.Try.f88 10
@[go_sem] theorem x88_10:XR 88 g88_10 [ldo 42 122 3,(none,(.store 122 (.tmp 4) (.tmp 42)),none)]:=xk
@[go_sem] theorem t88_10:TK g88_10:=tk
noncomputable def l88_0:Code:=(.seq (.seq (.region 3 g88_3 false) (.cond (.tmp 12) .skip (.exit 0))) (.seq (.block 1 (.seq (.region 5 g88_4 false) (.seq (.region 6 g88_5 false) (.seq (.region 7 g88_6 false) (.seq (.region 8 g88_7 false) (.region 9 g88_8 false)))))) (.region 4 g88_9 false)))
theorem dl88_0{ro nt:Nat}{fr:PT}{H:Hp}:(den cx).loop ro 88 nt l88_0 fr H=xbind (ex cx (den cx) ro 88 nt (.seq (.seq (.region 3 g88_3 false) (.cond (.tmp 12) .skip (.exit 0))) (.seq (.block 1 (.seq (.region 5 g88_4 false) (.seq (.region 6 g88_5 false) (.seq (.region 7 g88_6 false) (.seq (.region 8 g88_7 false) (.region 9 g88_8 false)))))) (.region 4 g88_9 false))) fr H) (contR (trimmed ((den cx).loop ro 88 nt l88_0) H.length)):=den_loop_x l88_0
theorem b88:Proofs.Try.f88.body=some (.seq (.region 0 g88_0 false) (.seq (.region 1 g88_1 false) (.seq (.seq (.region 2 g88_2 false) (.block 0 (.loop l88_0))) (.seq (.region 10 g88_10 false) .ret)))):=by kernel_rfl
theorem c88{h:Hd}{ro:Nat}{H:Hp}(a0 a1:AV):callB cx h ro 88 [a0,a1] H=returned cx [(.cell 4 122)] (ex cx h ro 88 43 (.seq (.region 0 g88_0 false) (.seq (.region 1 g88_1 false) (.seq (.seq (.region 2 g88_2 false) (.block 0 (.loop l88_0))) (.seq (.region 10 g88_10 false) .ret)))) ((PT.nil.set 0 (drp a0)).set 1 (drp a1)) H):=by
 have hf:cx.fns 88=some Proofs.Try.f88:=by kernel_rfl
 simp only[callB,hf,funced,b88,bodied]
 rfl
noncomputable def g89_0:=regAt Proofs.Try.f89 0
@[go_sem] theorem x89_0:XR 89 g89_0 [opo 2 (.box 126 (.tmp 0)),opo 3 (.box 122 (.tmp 1)),opo 4 (.alloc 122)]:=xk
@[go_sem] theorem t89_0:TK g89_0:=tk
noncomputable def g89_1:=regAt Proofs.Try.f89 1
@[go_sem] theorem x89_1:XR 89 g89_1 [ldo 8 126 2,ldo 9 122 3,opo 10 (.call ⟨(.value (.func 90)),#[(.tmp 8),(.tmp 9)],#[126,122]⟩),mvo 7 10,opo 11 (.extract (.tmp 7) 0),opo 12 (.extract (.tmp 7) 1),aso 5 11,aso 6 12]:=xk
@[go_sem] theorem t89_1:TK g89_1:=tk
noncomputable def g89_2:=regAt Proofs.Try.f89 2
@[go_sem] theorem x89_2:XR 89 g89_2 [mvo 13 6]:=xk
@[go_sem] theorem t89_2:TK g89_2:=tk
noncomputable def g89_3:=regAt Proofs.Try.f89 3
@[go_sem] theorem x89_3:XR 89 g89_3 [mvo 14 5,fao 15 122 3 0,(none,(.store 3 (.tmp 15) (.tmp 14)),none)]:=xk
@[go_sem] theorem t89_3:TK g89_3:=tk
noncomputable def g89_4:=regAt Proofs.Try.f89 4
@[go_sem] theorem x89_4:XR 89 g89_4 [ldo 16 122 3,(none,(.store 122 (.tmp 4) (.tmp 16)),none)]:=xk
@[go_sem] theorem t89_4:TK g89_4:=tk
theorem b89:Proofs.Try.f89.body=some (.seq (.region 0 g89_0 false) (.seq (.seq (.region 1 g89_1 false) (.seq (.region 2 g89_2 false) (.cond (.tmp 13) (.region 3 g89_3 false) .skip))) (.seq (.region 4 g89_4 false) .ret))):=by kernel_rfl
theorem c89{h:Hd}{ro:Nat}{H:Hp}(a0 a1:AV):callB cx h ro 89 [a0,a1] H=returned cx [(.cell 4 122)] (ex cx h ro 89 17 (.seq (.region 0 g89_0 false) (.seq (.seq (.region 1 g89_1 false) (.seq (.region 2 g89_2 false) (.cond (.tmp 13) (.region 3 g89_3 false) .skip))) (.seq (.region 4 g89_4 false) .ret))) ((PT.nil.set 0 (drp a0)).set 1 (drp a1)) H):=by
 have hf:cx.fns 89=some Proofs.Try.f89:=by kernel_rfl
 simp only[callB,hf,funced,b89,bodied]
 rfl
noncomputable def g90_0:=regAt Proofs.Try.f90 0
@[go_sem] theorem x90_0:XR 90 g90_0 [opo 2 (.box 126 (.tmp 0)),opo 3 (.box 122 (.tmp 1)),opo 4 (.alloc 3),opo 5 (.alloc 4)]:=xk
@[go_sem] theorem t90_0:TK g90_0:=tk
noncomputable def g90_1:=regAt Proofs.Try.f90 1
@[go_sem] theorem x90_1:XR 90 g90_1 [ldo 8 126 2,opo 9 (.call ⟨(.value (.func 141)),#[(.tmp 8),(.tmp 3)],#[126,232]⟩)]:=xk
@[go_sem] theorem t90_1:TK g90_1:=tk
noncomputable def g90_2:=regAt Proofs.Try.f90 2
@[go_sem] theorem x90_2:XR 90 g90_2 [aso 6 10]:=xk
@[go_sem] theorem t90_2:TK g90_2:=tk
noncomputable def g90_3:=regAt Proofs.Try.f90 3
@[go_sem] theorem x90_3:XR 90 g90_3 [mvo 11 6,fao 12 122 3 2,iao 13 120 12 11,fao 14 119 13 2,ldo 15 3 14,aso 7 15]:=xk
@[go_sem] theorem t90_3:TK g90_3:=tk
noncomputable def g90_4:=regAt Proofs.Try.f90 4
@[go_sem] theorem x90_4:XR 90 g90_4 [ldo 16 4 5,opo 17 (.unOp .not 4 (.tmp 16))]:=xk
@[go_sem] theorem t90_4:TK g90_4:=tk
noncomputable def g90_5:=regAt Proofs.Try.f90 5
@[go_sem] theorem x90_5:XR 90 g90_5 [mvo 18 7,(none,(.store 3 (.tmp 4) (.tmp 18)),none),(none,(.store 4 (.tmp 5) (.const (.bool true))),none)]:=xk
@[go_sem] theorem t90_5:TK g90_5:=tk
noncomputable def g90_6:=regAt Proofs.Try.f90 6
@[go_sem] theorem x90_6:XR 90 g90_6 [ldo 19 3 4,mvo 20 7,opo 21 (.call ⟨(.builtin .min),#[(.tmp 19),(.tmp 20)],#[3,3]⟩),(none,(.store 3 (.tmp 4) (.tmp 21)),none)]:=xk
@[go_sem] theorem t90_6:TK g90_6:=tk
noncomputable def g90_7:=regAt Proofs.Try.f90 7
@[go_sem] theorem x90_7:XUR 90 g90_7 [(0,0,[],ldo 22 3 4),(1,0,[0],ldo 23 4 5),(2,0,[1],(none,(.store 3 (.tmp 4) (.tmp 22)),none)),(3,0,[],(none,(.store 4 (.tmp 5) (.tmp 23)),none))] 0:=xuk
@[go_sem] theorem t90_7:TK g90_7:=tk
noncomputable def q90_0:Code:=(.region 2 g90_2 false)
noncomputable def r90_0:Code:=(.block 1 (.seq (.region 3 g90_3 false) (.seq (.seq (.region 4 g90_4 false) (.cond (.tmp 17) (.region 5 g90_5 false) .skip)) (.region 6 g90_6 false))))
theorem b90:Proofs.Try.f90.body=some (.seq (.region 0 g90_0 false) (.seq (.seq (.region 1 g90_1 false) (.block 0 (.rangeFunc (.tmp 9) #[10] q90_0 r90_0))) (.seq (.region 7 g90_7 true) .ret))):=by kernel_rfl
theorem c90{h:Hd}{ro:Nat}{H:Hp}(a0 a1:AV):callB cx h ro 90 [a0,a1] H=returned cx [(.cell 4 3),(.cell 5 4)] (ex cx h ro 90 24 (.seq (.region 0 g90_0 false) (.seq (.seq (.region 1 g90_1 false) (.block 0 (.rangeFunc (.tmp 9) #[10] q90_0 r90_0))) (.seq (.region 7 g90_7 true) .ret))) ((PT.nil.set 0 (drp a0)).set 1 (drp a1)) H):=by
 have hf:cx.fns 90=some Proofs.Try.f90:=by kernel_rfl
 simp only[callB,hf,funced,b90,bodied]
 rfl
noncomputable def g91_0:=regAt Proofs.Try.f91 0
@[go_sem] theorem x91_0:XR 91 g91_0 [opo 2 (.box 126 (.tmp 0)),opo 3 (.box 119 (.tmp 1)),opo 4 (.assign (.const (.bool false)))]:=xk
@[go_sem] theorem t91_0:TK g91_0:=tk
noncomputable def g91_1:=regAt Proofs.Try.f91 1
@[go_sem] theorem x91_1:XR 91 g91_1 [fao 6 119 3 1,ldo 7 3 6,opo 8 (.binOp .geq 3 (.tmp 7) (.const (.int .i64 0)) 3),mvo 9 8,(some 10,(.fieldAddr 119 (.tmp 3) 1),some (9,true)),(some 11,(.load 3 (.tmp 10)),some (9,true)),(some 12,(.fieldAddr 126 (.tmp 2) 0),some (9,true)),(some 13,(.fieldAddr 95 (.tmp 12) 0),some (9,true)),(some 14,(.load 93 (.tmp 13)),some (9,true)),(some 15,(.call ⟨(.builtin .len),#[(.tmp 14)],#[93]⟩),some (9,true)),(some 16,(.binOp .lss 3 (.tmp 11) (.tmp 15) 3),some (9,true)),opo 17 (.pick (.tmp 9) (.tmp 16) (.const (.bool false))),aso 5 17]:=xk
@[go_sem] theorem t91_1:TK g91_1:=tk
noncomputable def g91_2:=regAt Proofs.Try.f91 2
@[go_sem] theorem x91_2:XR 91 g91_2 [fao 18 119 3 0,ldo 19 3 18,opo 20 (.binOp .eql 3 (.tmp 19) (.const (.int .i64 2)) 3),mvo 21 20,(some 22,(.move (.tmp 5)),some (21,true)),opo 23 (.pick (.tmp 21) (.tmp 22) (.const (.bool false))),mvo 24 23,(some 25,(.fieldAddr 126 (.tmp 2) 0),some (24,true)),(some 26,(.fieldAddr 95 (.tmp 25) 0),some (24,true)),(some 27,(.load 93 (.tmp 26)),some (24,true)),(some 28,(.fieldAddr 119 (.tmp 3) 1),some (24,true)),(some 29,(.load 3 (.tmp 28)),some (24,true)),(some 30,(.indexAddr 93 (.tmp 27) (.tmp 29)),some (24,true)),(some 31,(.fieldAddr 111 (.tmp 30) 0),some (24,true)),(some 32,(.load 3 (.tmp 31)),some (24,true)),(some 33,(.binOp .neq 3 (.tmp 32) (.const (.int .i64 0)) 3),some (24,true)),opo 34 (.pick (.tmp 24) (.tmp 33) (.const (.bool false))),aso 4 34]:=xk
@[go_sem] theorem t91_2:TK g91_2:=tk
theorem b91:Proofs.Try.f91.body=some (.seq (.region 0 g91_0 false) (.seq (.region 1 g91_1 false) (.seq (.region 2 g91_2 false) .ret))):=by kernel_rfl
theorem c91{h:Hd}{ro:Nat}{H:Hp}(a0 a1:AV):callB cx h ro 91 [a0,a1] H=returned cx [(.tmp 4)] (ex cx h ro 91 35 (.seq (.region 0 g91_0 false) (.seq (.region 1 g91_1 false) (.seq (.region 2 g91_2 false) .ret))) ((PT.nil.set 0 (drp a0)).set 1 (drp a1)) H):=by
 have hf:cx.fns 91=some Proofs.Try.f91:=by kernel_rfl
 simp only[callB,hf,funced,b91,bodied]
 rfl
noncomputable def g92_0:=regAt Proofs.Try.f92 0
@[go_sem] theorem x92_0:XR 92 g92_0 [opo 2 (.box 122 (.tmp 0)),opo 3 (.box 122 (.tmp 1)),opo 4 (.assign (.const (.bool false)))]:=xk
@[go_sem] theorem t92_0:TK g92_0:=tk
noncomputable def g92_1:=regAt Proofs.Try.f92 1
@[go_sem] theorem x92_1:XR 92 g92_1 [ldo 5 122 2,ldo 6 122 3,opo 7 (.binOp .eql 122 (.tmp 5) (.tmp 6) 122),aso 4 7]:=xk
@[go_sem] theorem t92_1:TK g92_1:=tk
theorem b92:Proofs.Try.f92.body=some (.seq (.region 0 g92_0 false) (.seq (.region 1 g92_1 false) .ret)):=by kernel_rfl
theorem c92{h:Hd}{ro:Nat}{H:Hp}(a0 a1:AV):callB cx h ro 92 [a0,a1] H=returned cx [(.tmp 4)] (ex cx h ro 92 8 (.seq (.region 0 g92_0 false) (.seq (.region 1 g92_1 false) .ret)) ((PT.nil.set 0 (drp a0)).set 1 (drp a1)) H):=by
 have hf:cx.fns 92=some Proofs.Try.f92:=by kernel_rfl
 simp only[callB,hf,funced,b92,bodied]
 rfl
noncomputable def g93_0:=regAt Proofs.Try.f93 0
@[go_sem] theorem x93_0:XR 93 g93_0 [opo 3 (.box 126 (.tmp 0)),opo 4 (.box 122 (.tmp 1)),opo 6 (.alloc 122)]:=xk
@[go_sem] theorem t93_0:TK g93_0:=tk
noncomputable def g93_1:=regAt Proofs.Try.f93 1
@[go_sem] theorem x93_1:XR 93 g93_1 [fao 8 122 4 0,ldo 9 3 8,mvo 10 2,opo 11 (.binOp .add 3 (.tmp 9) (.tmp 10) 3),fao 12 122 4 0,(none,(.store 3 (.tmp 12) (.tmp 11)),none)]:=xk
@[go_sem] theorem t93_1:TK g93_1:=tk
noncomputable def g93_2:=regAt Proofs.Try.f93 2
@[go_sem] theorem x93_2:XR 93 g93_2 [opo 7 (.assign (.const (.int .i64 0)))]:=xk
@[go_sem] theorem t93_2:TK g93_2:=tk
noncomputable def g93_3:=regAt Proofs.Try.f93 3
@[go_sem] theorem x93_3:XR 93 g93_3 [mvo 13 7,opo 14 (.binOp .lss 3 (.tmp 13) (.const (.int .i64 16)) 3)]:=xk
@[go_sem] theorem t93_3:TK g93_3:=tk
noncomputable def g93_4:=regAt Proofs.Try.f93 4
@[go_sem] theorem x93_4:XUR 93 g93_4 [(0,0,[],ldo 17 126 3),(1,0,[0],mvo 18 7),(2,0,[0,1],fao 19 122 4 2),(3,0,[0],iao 20 120 19 18),(4,0,[0],ldo 21 119 20),(5,0,[],opo 22 (.call ⟨(.value (.func 91)),#[(.tmp 17),(.tmp 21)],#[126,119]⟩))] 0:=xuk
@[go_sem] theorem t93_4:TK g93_4:=tk
noncomputable def g93_5:=regAt Proofs.Try.f93 5
@[go_sem] theorem x93_5:XR 93 g93_5 [mvo 23 7,mvo 24 7,fao 25 122 4 2,iao 26 120 25 24,fao 27 119 26 2,ldo 28 3 27,mvo 29 2,opo 30 (.binOp .add 3 (.tmp 28) (.tmp 29) 3),fao 31 122 4 2,iao 32 120 31 23,fao 33 119 32 2,(none,(.store 3 (.tmp 33) (.tmp 30)),none)]:=xk
@[go_sem] theorem t93_5:TK g93_5:=tk
noncomputable def g93_6:=regAt Proofs.Try.f93 6
@[go_sem] theorem x93_6:XR 93 g93_6 [mvo 15 7,opo 16 (.binOp .add 3 (.tmp 15) (.const (.int .i64 1)) 3),aso 7 16]:=xk
@[go_sem] theorem t93_6:TK g93_6:=tk
noncomputable def g93_7:=regAt Proofs.Try.f93 7
@[go_sem] theorem x93_7:XR 93 g93_7 [ldo 34 122 4,(none,(.store 122 (.tmp 6) (.tmp 34)),none)]:=xk
@[go_sem] theorem t93_7:TK g93_7:=tk
noncomputable def l93_0:Code:=(.seq (.seq (.region 3 g93_3 false) (.cond (.tmp 14) .skip (.exit 0))) (.seq (.block 1 (.seq (.region 5 g93_4 true) (.cond (.tmp 22) (.region 6 g93_5 false) .skip))) (.region 4 g93_6 false)))
theorem dl93_0{ro nt:Nat}{fr:PT}{H:Hp}:(den cx).loop ro 93 nt l93_0 fr H=xbind (ex cx (den cx) ro 93 nt (.seq (.seq (.region 3 g93_3 false) (.cond (.tmp 14) .skip (.exit 0))) (.seq (.block 1 (.seq (.region 5 g93_4 true) (.cond (.tmp 22) (.region 6 g93_5 false) .skip))) (.region 4 g93_6 false))) fr H) (contR (trimmed ((den cx).loop ro 93 nt l93_0) H.length)):=den_loop_x l93_0
theorem b93:Proofs.Try.f93.body=some (.seq (.region 0 g93_0 false) (.seq (.region 1 g93_1 false) (.seq (.seq (.region 2 g93_2 false) (.block 0 (.loop l93_0))) (.seq (.region 7 g93_7 false) .ret)))):=by kernel_rfl
theorem c93{h:Hd}{ro:Nat}{H:Hp}(a0 a1 a2:AV):callB cx h ro 93 [a0,a1,a2] H=returned cx [(.cell 6 122)] (ex cx h ro 93 35 (.seq (.region 0 g93_0 false) (.seq (.region 1 g93_1 false) (.seq (.seq (.region 2 g93_2 false) (.block 0 (.loop l93_0))) (.seq (.region 7 g93_7 false) .ret)))) (((PT.nil.set 0 (drp a0)).set 1 (drp a1)).set 2 (drp a2)) H):=by
 have hf:cx.fns 93=some Proofs.Try.f93:=by kernel_rfl
 simp only[callB,hf,funced,b93,bodied]
 rfl
noncomputable def g94_0:=regAt Proofs.Try.f94 0
@[go_sem] theorem x94_0:XR 94 g94_0 [opo 3 (.box 126 (.tmp 0)),opo 4 (.box 122 (.tmp 1)),opo 5 (.box 122 (.tmp 2)),opo 6 (.assign (.const (.int .i64 0))),opo 7 (.assign (.const (.bool false)))]:=xk
@[go_sem] theorem t94_0:TK g94_0:=tk
noncomputable def g94_1:=regAt Proofs.Try.f94 1
@[go_sem] theorem x94_1:XR 94 g94_1 [fao 11 122 5 0,ldo 12 3 11,fao 13 122 4 0,ldo 14 3 13,opo 15 (.binOp .sub 3 (.tmp 12) (.tmp 14) 3),opo 8 (.alloc 3),(none,(.store 3 (.tmp 8) (.tmp 15)),none)]:=xk
@[go_sem] theorem t94_1:TK g94_1:=tk
noncomputable def g94_2:=regAt Proofs.Try.f94 2
@[go_sem] theorem x94_2:XR 94 g94_2 [ldo 16 122 4,opo 9 (.alloc 122),(none,(.store 122 (.tmp 9) (.tmp 16)),none)]:=xk
@[go_sem] theorem t94_2:TK g94_2:=tk
noncomputable def g94_3:=regAt Proofs.Try.f94 3
@[go_sem] theorem x94_3:XR 94 g94_3 [fao 17 122 9 0,ldo 18 3 17,ldo 19 3 8,opo 20 (.binOp .add 3 (.tmp 18) (.tmp 19) 3),fao 21 122 9 0,(none,(.store 3 (.tmp 21) (.tmp 20)),none)]:=xk
@[go_sem] theorem t94_3:TK g94_3:=tk
noncomputable def g94_4:=regAt Proofs.Try.f94 4
@[go_sem] theorem x94_4:XR 94 g94_4 [ldo 22 126 3,opo 23 (.call ⟨(.value (.func 141)),#[(.tmp 22),(.tmp 4)],#[126,232]⟩)]:=xk
@[go_sem] theorem t94_4:TK g94_4:=tk
noncomputable def g94_5:=regAt Proofs.Try.f94 5
@[go_sem] theorem x94_5:XR 94 g94_5 [aso 10 24]:=xk
@[go_sem] theorem t94_5:TK g94_5:=tk
noncomputable def g94_6:=regAt Proofs.Try.f94 6
@[go_sem] theorem x94_6:XUR 94 g94_6 [(0,0,[],mvo 25 10),(1,0,[0],fao 26 122 9 2),(2,0,[],iao 27 120 26 25),(3,0,[],fao 28 119 27 2),(4,0,[],ldo 29 3 28),(5,0,[0,1,2,3,4],ldo 30 3 8),(6,0,[],opo 31 (.binOp .add 3 (.tmp 29) (.tmp 30) 3)),(7,0,[0,1,2,3,4,5,6],fao 32 122 9 2),(8,0,[],iao 33 120 32 25),(9,0,[],fao 34 119 33 2),(10,0,[],(none,(.store 3 (.tmp 34) (.tmp 31)),none))] 0:=xuk
@[go_sem] theorem t94_6:TK g94_6:=tk
noncomputable def g94_7:=regAt Proofs.Try.f94 7
@[go_sem] theorem x94_7:XR 94 g94_7 [fao 35 122 9 2,ldo 36 120 35,fao 37 122 5 2,ldo 38 120 37,opo 39 (.binOp .neq 120 (.tmp 36) (.tmp 38) 120),mvo 40 39,(some 41,(.load 122 (.tmp 9)),some (40,false)),(some 42,(.load 122 (.tmp 5)),some (40,false)),(some 43,(.binOp .neq 122 (.tmp 41) (.tmp 42) 122),some (40,false)),opo 44 (.pick (.tmp 40) (.const (.bool true)) (.tmp 43))]:=xk
@[go_sem] theorem t94_7:TK g94_7:=tk
noncomputable def g94_8:=regAt Proofs.Try.f94 8
@[go_sem] theorem x94_8:XR 94 g94_8 [opo 6 (.assign (.const (.int .i64 0))),opo 7 (.assign (.const (.bool false)))]:=xk
@[go_sem] theorem t94_8:TK g94_8:=tk
noncomputable def g94_9:=regAt Proofs.Try.f94 9
@[go_sem] theorem x94_9:XR 94 g94_9 [ldo 45 3 8,aso 6 45,opo 7 (.assign (.const (.bool true)))]:=xk
@[go_sem] theorem t94_9:TK g94_9:=tk
noncomputable def q94_0:Code:=(.region 5 g94_5 false)
noncomputable def r94_0:Code:=(.block 1 (.region 6 g94_6 true))
theorem b94:Proofs.Try.f94.body=some (.seq (.region 0 g94_0 false) (.seq (.region 1 g94_1 false) (.seq (.region 2 g94_2 false) (.seq (.region 3 g94_3 false) (.seq (.seq (.region 4 g94_4 false) (.block 0 (.rangeFunc (.tmp 23) #[24] q94_0 r94_0))) (.seq (.seq (.region 7 g94_7 false) (.cond (.tmp 44) (.seq (.region 8 g94_8 false) .ret) .skip)) (.seq (.region 9 g94_9 false) .ret))))))):=by kernel_rfl
theorem c94{h:Hd}{ro:Nat}{H:Hp}(a0 a1 a2:AV):callB cx h ro 94 [a0,a1,a2] H=returned cx [(.tmp 6),(.tmp 7)] (ex cx h ro 94 46 (.seq (.region 0 g94_0 false) (.seq (.region 1 g94_1 false) (.seq (.region 2 g94_2 false) (.seq (.region 3 g94_3 false) (.seq (.seq (.region 4 g94_4 false) (.block 0 (.rangeFunc (.tmp 23) #[24] q94_0 r94_0))) (.seq (.seq (.region 7 g94_7 false) (.cond (.tmp 44) (.seq (.region 8 g94_8 false) .ret) .skip)) (.seq (.region 9 g94_9 false) .ret))))))) (((PT.nil.set 0 (drp a0)).set 1 (drp a1)).set 2 (drp a2)) H):=by
 have hf:cx.fns 94=some Proofs.Try.f94:=by kernel_rfl
 simp only[callB,hf,funced,b94,bodied]
 rfl
noncomputable def g140_0:=regAt Proofs.Try.f140 0
@[go_sem] theorem x140_0:XR 140 g140_0 [opo 3 (.box 95 (.tmp 0)),opo 5 (.box 139 (.tmp 2)),opo 6 (.alloc 119),opo 7 (.assign (.const (.bool false)))]:=xk
@[go_sem] theorem t140_0:TK g140_0:=tk
noncomputable def g140_1:=regAt Proofs.Try.f140 1
@[go_sem] theorem x140_1:XR 140 g140_1 [fao 10 139 5 0,ldo 11 4 10,opo 12 (.unOp .not 4 (.tmp 11))]:=xk
@[go_sem] theorem t140_1:TK g140_1:=tk
noncomputable def g140_2:=regAt Proofs.Try.f140 2
@[go_sem] theorem x140_2:XR 140 g140_2 [opo 13 (.build 119 #[(0,(.const (.int .i64 1)))]),(none,(.store 119 (.tmp 6) (.tmp 13)),none),opo 7 (.assign (.const (.bool true)))]:=xk
@[go_sem] theorem t140_2:TK g140_2:=tk
noncomputable def g140_3:=regAt Proofs.Try.f140 3
@[go_sem] theorem x140_3:XR 140 g140_3 [fao 14 139 5 1,fao 15 61 14 0,ldo 16 3 15,opo 17 (.binOp .lss 3 (.tmp 16) (.const (.int .i64 0)) 3),mvo 18 17,(some 19,(.fieldAddr 139 (.tmp 5) 1),some (18,false)),(some 20,(.fieldAddr 61 (.tmp 19) 0),some (18,false)),(some 21,(.load 3 (.tmp 20)),some (18,false)),(some 22,(.move (.tmp 1)),some (18,false)),(some 23,(.binOp .geq 3 (.tmp 21) (.tmp 22) 3),some (18,false)),opo 24 (.pick (.tmp 18) (.const (.bool true)) (.tmp 23))]:=xk
@[go_sem] theorem t140_3:TK g140_3:=tk
noncomputable def g140_4:=regAt Proofs.Try.f140 4
@[go_sem] theorem x140_4:XR 140 g140_4 [opo 25 (.build 119 #[]),(none,(.store 119 (.tmp 6) (.tmp 25)),none),opo 7 (.assign (.const (.bool false)))]:=xk
@[go_sem] theorem t140_4:TK g140_4:=tk
noncomputable def g140_5:=regAt Proofs.Try.f140 5
@[go_sem] theorem x140_5:XR 140 g140_5 [ldo 27 95 3,fao 28 139 5 1,ldo 29 61 28,opo 30 (.call ⟨(.value (.func 78)),#[(.tmp 27),(.tmp 29)],#[95,61]⟩),mvo 26 30,opo 31 (.extract (.tmp 26) 0),opo 32 (.extract (.tmp 26) 1),aso 8 31,aso 9 32]:=xk
@[go_sem] theorem t140_5:TK g140_5:=tk
noncomputable def g140_6:=regAt Proofs.Try.f140 6
@[go_sem] theorem x140_6:XR 140 g140_6 [mvo 33 8,mvo 34 9,opo 35 (.build 119 #[(0,(.const (.int .i64 2))),(1,(.tmp 33)),(2,(.tmp 34))]),(none,(.store 119 (.tmp 6) (.tmp 35)),none),opo 7 (.assign (.const (.bool true)))]:=xk
@[go_sem] theorem t140_6:TK g140_6:=tk
theorem b140:Proofs.Try.f140.body=some (.seq (.region 0 g140_0 false) (.seq (.seq (.region 1 g140_1 false) (.cond (.tmp 12) (.seq (.region 2 g140_2 false) .ret) .skip)) (.seq (.seq (.region 3 g140_3 false) (.cond (.tmp 24) (.seq (.region 4 g140_4 false) .ret) .skip)) (.seq (.region 5 g140_5 false) (.seq (.region 6 g140_6 false) .ret))))):=by kernel_rfl
theorem c140{h:Hd}{ro:Nat}{H:Hp}(a0 a1 a2:AV):callB cx h ro 140 [a0,a1,a2] H=returned cx [(.cell 6 119),(.tmp 7)] (ex cx h ro 140 36 (.seq (.region 0 g140_0 false) (.seq (.seq (.region 1 g140_1 false) (.cond (.tmp 12) (.seq (.region 2 g140_2 false) .ret) .skip)) (.seq (.seq (.region 3 g140_3 false) (.cond (.tmp 24) (.seq (.region 4 g140_4 false) .ret) .skip)) (.seq (.region 5 g140_5 false) (.seq (.region 6 g140_6 false) .ret))))) (((PT.nil.set 0 (drp a0)).set 1 (drp a1)).set 2 (drp a2)) H):=by
 have hf:cx.fns 140=some Proofs.Try.f140:=by kernel_rfl
 simp only[callB,hf,funced,b140,bodied]
 rfl
noncomputable def g141_0:=regAt Proofs.Try.f141 0
@[go_sem] theorem x141_0:XR 141 g141_0 [opo 2 (.box 126 (.tmp 0)),opo 3 (.box 232 (.tmp 1)),opo 4 (.assign (.const .nilFunc))]:=xk
@[go_sem] theorem t141_0:TK g141_0:=tk
noncomputable def g141_1:=regAt Proofs.Try.f141 1
@[go_sem] theorem x141_1:XR 141 g141_1 [opo 5 (.makeFunc (.func 163) #[] #[(.tmp 3),(.tmp 2)]),aso 4 5]:=xk
@[go_sem] theorem t141_1:TK g141_1:=tk
theorem b141:Proofs.Try.f141.body=some (.seq (.region 0 g141_0 false) (.seq (.region 1 g141_1 false) .ret)):=by kernel_rfl
theorem c141{h:Hd}{ro:Nat}{H:Hp}(a0 a1:AV):callB cx h ro 141 [a0,a1] H=returned cx [(.tmp 4)] (ex cx h ro 141 6 (.seq (.region 0 g141_0 false) (.seq (.region 1 g141_1 false) .ret)) ((PT.nil.set 0 (drp a0)).set 1 (drp a1)) H):=by
 have hf:cx.fns 141=some Proofs.Try.f141:=by kernel_rfl
 simp only[callB,hf,funced,b141,bodied]
 rfl
noncomputable def g163_0:=regAt Proofs.Try.f163 0
@[go_sem] theorem x163_0:XR 163 g163_0 [ldo 6 232 1,opo 7 (.nilCheck (.tmp 6)),fao 8 122 7 2,ldo 9 120 8,opo 10 (.move (.const (.int .i64 0)))]:=xk
@[go_sem] theorem t163_0:TK g163_0:=tk
noncomputable def g163_1:=regAt Proofs.Try.f163 1
@[go_sem] theorem x163_1:XR 163 g163_1 [opo 11 (.binOp .lss 3 (.tmp 10) (.const (.int .i64 16)) 3)]:=xk
@[go_sem] theorem t163_1:TK g163_1:=tk
noncomputable def g163_2:=regAt Proofs.Try.f163 2
@[go_sem] theorem x163_2:XR 163 g163_2 [mvo 12 10,opo 13 (.index 120 (.tmp 9) (.tmp 10)),opo 5 (.alloc 119),aso 4 12,(none,(.store 119 (.tmp 5) (.tmp 13)),none)]:=xk
@[go_sem] theorem t163_2:TK g163_2:=tk
noncomputable def g163_3:=regAt Proofs.Try.f163 3
@[go_sem] theorem x163_3:XR 163 g163_3 [ldo 14 126 2,ldo 15 119 5,opo 16 (.call ⟨(.value (.func 91)),#[(.tmp 14),(.tmp 15)],#[126,119]⟩),mvo 17 16,(some 18,(.move (.tmp 0)),some (17,true)),(some 19,(.move (.tmp 4)),some (17,true)),(some 20,(.call ⟨(.value (.tmp 18)),#[(.tmp 19)],#[3]⟩),some (17,true)),(some 21,(.unOp .not 4 (.tmp 20)),some (17,true)),opo 22 (.pick (.tmp 17) (.tmp 21) (.const (.bool false)))]:=xk
@[go_sem] theorem t163_3:TK g163_3:=tk
noncomputable def g163_4:=regAt Proofs.Try.f163 4
@[go_sem] theorem x163_4:XR 163 g163_4 [opo 23 (.binOp .add 3 (.tmp 10) (.const (.int .i64 1)) 3),mvo 10 23]:=xk
@[go_sem] theorem t163_4:TK g163_4:=tk
noncomputable def l163_0:Code:=(.seq (.region 1 g163_1 false) (.seq (.cond (.tmp 11) .skip (.exit 0)) (.seq (.block 1 (.seq (.region 2 g163_2 false) (.seq (.region 3 g163_3 false) (.cond (.tmp 22) .ret .skip)))) (.region 4 g163_4 false))))
theorem dl163_0{ro nt:Nat}{fr:PT}{H:Hp}:(den cx).loop ro 163 nt l163_0 fr H=xbind (ex cx (den cx) ro 163 nt (.seq (.region 1 g163_1 false) (.seq (.cond (.tmp 11) .skip (.exit 0)) (.seq (.block 1 (.seq (.region 2 g163_2 false) (.seq (.region 3 g163_3 false) (.cond (.tmp 22) .ret .skip)))) (.region 4 g163_4 false)))) fr H) (contR (trimmed ((den cx).loop ro 163 nt l163_0) H.length)):=den_loop_x l163_0
theorem b163:Proofs.Try.f163.body=some (.seq (.region 0 g163_0 false) (.block 0 (.loop l163_0))):=by kernel_rfl
theorem c163{h:Hd}{ro:Nat}{H:Hp}(a0 a1 a2:AV):callB cx h ro 163 [a0,a1,a2] H=returned cx [] (ex cx h ro 163 24 (.seq (.region 0 g163_0 false) (.block 0 (.loop l163_0))) (((PT.nil.set 0 (drp a0)).set 1 (drp a1)).set 2 (drp a2)) H):=by
 have hf:cx.fns 163=some Proofs.Try.f163:=by kernel_rfl
 simp only[callB,hf,funced,b163,bodied]
 rfl
end Go.Abs.Tab
