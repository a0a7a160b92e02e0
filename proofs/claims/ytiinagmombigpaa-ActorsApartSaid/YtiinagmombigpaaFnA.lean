/- Codes of this seat's functions, their regions step by step. (Printed by a program.) -/
import Derived.Test.YtiinagmombigpaaEvY
set_option linter.unnecessarySimpa false
set_option linter.unusedSimpArgs false
set_option linter.unusedVariables false
namespace Go.Abs.Tab
abbrev XR(n:FuncId)(g:Array Oper)(l:List XO):Prop:=∀ {h:Hd} {ro nt id:Nat} {fr:PT} {H:Hp},ex cx h ro n nt (.region id g false) fr H=xbind (xrun cx h ro n nt g l fr H) fun p=>some (.normal,p.1,p.2)
theorem XR.mk{n:FuncId}{g:Array Oper}{l:List XO}(hg:guardsOk g=true)(hl:strip g=l):XR n g l:=x_region l hg hl
abbrev XUR(n:FuncId)(g:Array Oper)(l:List XU)(m:Nat):Prop:=∀ {h:Hd} {ro nt id:Nat} {fr:PT} {H:Hp},ex cx h ro n nt (.region id g true) fr H=orRaw (xrunU cx h ro n nt g H.length l fr (H++List.replicate m .res) []) fun _=>regionRaw cx h ro n nt g fr H
theorem XUR.mk{n:FuncId}{g:Array Oper}{l:List XU}{m:Nat}(h1:guardsOk g=true)(h2:forward g=true)(h3:tempsOk g=true)(hl:stripU cx n g=l)(hm:(g.toList.filter (isAlloc cx n)).length=m):XUR n g l m:=x_regionU l m h1 h2 h3 hl hm
abbrev TK(g:Array Oper):Prop:=∀d:Tmp,takes g d=false
abbrev mvo(d t:Tmp):XO:=(some d,.move (.tmp t),none)
abbrev fao(d t a i:Nat):XO:=(some d,.fieldAddr t (.tmp a) i,none)
abbrev ldo(d t a:Nat):XO:=(some d,.load t (.tmp a),none)
abbrev aso(d a:Nat):XO:=(some d,.assign (.tmp a),none)
abbrev iao(d t a i:Nat):XO:=(some d,.indexAddr t (.tmp a) (.tmp i),none)
abbrev opo(d:Tmp)(x:Op):XO:=(some d,x,none)
theorem xk{n:FuncId}{g:Array Oper}{l:List XO}(hg:guardsOk g=true:=by kernel_rfl)(hl:strip g=l:=by kernel_rfl):XR n g l:=x_region l hg hl
theorem xuk{n:FuncId}{g:Array Oper}{l:List XU}{m:Nat}(h1:guardsOk g=true:=by kernel_rfl)(h2:forward g=true:=by kernel_rfl)(h3:tempsOk g=true:=by kernel_rfl)(hl:stripU cx n g=l:=by kernel_rfl)(hm:(g.toList.filter (isAlloc cx n)).length=m:=by kernel_rfl):XUR n g l m:=x_regionU l m h1 h2 h3 hl hm
theorem tk{g:Array Oper}(h:∀d:Tmp,takes g d=false:=by (intro _;kernel_rfl)):TK g:=h
noncomputable def g5_0:=regAt Proofs.Try.f5 0
@[go_sem] theorem x5_0:XR 5 g5_0 [opo 2 (.box 50 (.tmp 0)),opo 4 (.assign (.const (.bool false)))]:=xk
@[go_sem] theorem t5_0:TK g5_0:=tk
noncomputable def g5_1:=regAt Proofs.Try.f5 1
@[go_sem] theorem x5_1:XR 5 g5_1 [opo 21 (.call ⟨(.value (.func 33)),#[],#[]⟩),opo 22 (.unOp .not 4 (.tmp 21))]:=xk
@[go_sem] theorem t5_1:TK g5_1:=tk
noncomputable def g5_2:=regAt Proofs.Try.f5 2
@[go_sem] theorem x5_2:XR 5 g5_2 [opo 4 (.assign (.const (.bool false)))]:=xk
@[go_sem] theorem t5_2:TK g5_2:=tk
noncomputable def g5_3:=regAt Proofs.Try.f5 3
@[go_sem] theorem x5_3:XR 5 g5_3 [opo 23 (.call ⟨(.value (.func 34)),#[(.const (.int .i64 5))],#[3]⟩),aso 5 23]:=xk
@[go_sem] theorem t5_3:TK g5_3:=tk
noncomputable def g5_4:=regAt Proofs.Try.f5 4
@[go_sem] theorem x5_4:XR 5 g5_4 [mvo 24 5,opo 25 (.binOp .eql 24 (.tmp 24) (.const (.pointer none)) 24)]:=xk
@[go_sem] theorem t5_4:TK g5_4:=tk
noncomputable def g5_5:=regAt Proofs.Try.f5 5
@[go_sem] theorem x5_5:XR 5 g5_5 [opo 4 (.assign (.const (.bool false)))]:=xk
@[go_sem] theorem t5_5:TK g5_5:=tk
noncomputable def g5_6:=regAt Proofs.Try.f5 6
@[go_sem] theorem x5_6:XR 5 g5_6 [opo 6 (.alloc 51)]:=xk
@[go_sem] theorem t5_6:TK g5_6:=tk
noncomputable def g5_7:=regAt Proofs.Try.f5 7
@[go_sem] theorem x5_7:XR 5 g5_7 [opo 7 (.assign (.const (.int .i64 0)))]:=xk
@[go_sem] theorem t5_7:TK g5_7:=tk
noncomputable def g5_8:=regAt Proofs.Try.f5 8
@[go_sem] theorem x5_8:XR 5 g5_8 [mvo 26 7,opo 27 (.binOp .lss 3 (.tmp 26) (.const (.int .i64 5)) 3)]:=xk
@[go_sem] theorem t5_8:TK g5_8:=tk
noncomputable def g5_9:=regAt Proofs.Try.f5 9
@[go_sem] theorem x5_9:XUR 5 g5_9 [(0,0,[],mvo 31 5),(1,0,[0],mvo 32 7),(2,0,[0],opo 33 (.binOp .add 3 (.const (.int .i64 10)) (.tmp 32) 3)),(3,0,[0,1,2],mvo 34 7),(4,0,[0,1,2],iao 35 50 2 34),(5,0,[0,1,2],ldo 36 39 35),(6,0,[0,1,2,3,4,5],mvo 37 7),(7,0,[0,1,2,3,4,5],iao 38 50 2 37),(8,0,[0,1,2,3,4,5],ldo 39 39 38),(9,0,[0,1,2,3,4,5],opo 40 (.call ⟨(.builtin .len),#[(.tmp 39)],#[39]⟩)),(10,0,[0,1,2,3,4,5],opo 41 (.call ⟨(.builtin .min),#[(.tmp 40),(.const (.int .i64 16))],#[3,3]⟩)),(11,0,[0,1,2],opo 42 (.slice 39 (.tmp 36) none (some (.tmp 41)) none)),(12,0,[],opo 43 (.call ⟨(.value (.func 35)),#[(.tmp 31),(.tmp 33),(.tmp 42)],#[24,3,39]⟩)),(13,0,[],mvo 30 43),(14,0,[],opo 44 (.extract (.tmp 30) 0)),(15,0,[14],opo 45 (.extract (.tmp 30) 1)),(16,0,[15],aso 8 44),(17,0,[],aso 9 45)] 0:=xuk
@[go_sem] theorem t5_9:TK g5_9:=tk
noncomputable def g5_10:=regAt Proofs.Try.f5 10
@[go_sem] theorem x5_10:XR 5 g5_10 [mvo 47 5,mvo 48 7,opo 49 (.call ⟨(.value (.func 46)),#[(.tmp 47),(.tmp 48)],#[24,3]⟩),mvo 46 49,opo 50 (.extract (.tmp 46) 0),opo 51 (.extract (.tmp 46) 1),opo 10 (.alloc 44),(none,(.store 44 (.tmp 10) (.tmp 50)),none),aso 11 51]:=xk
@[go_sem] theorem t5_10:TK g5_10:=tk
noncomputable def g5_11:=regAt Proofs.Try.f5 11
@[go_sem] theorem x5_11:XR 5 g5_11 [mvo 52 8,mvo 53 7,opo 54 (.binOp .neq 3 (.tmp 52) (.tmp 53) 3),mvo 55 54,(some 56,(.move (.tmp 9)),some (55,false)),(some 57,(.binOp .neq 27 (.tmp 56) (.const (.int .i64 0)) 27),some (55,false)),opo 58 (.pick (.tmp 55) (.const (.bool true)) (.tmp 57)),mvo 59 58,(some 60,(.move (.tmp 11)),some (59,false)),(some 61,(.unOp .not 4 (.tmp 60)),some (59,false)),opo 62 (.pick (.tmp 59) (.const (.bool true)) (.tmp 61))]:=xk
@[go_sem] theorem t5_11:TK g5_11:=tk
noncomputable def g5_12:=regAt Proofs.Try.f5 12
@[go_sem] theorem x5_12:XR 5 g5_12 [opo 4 (.assign (.const (.bool false)))]:=xk
@[go_sem] theorem t5_12:TK g5_12:=tk
noncomputable def g5_13:=regAt Proofs.Try.f5 13
@[go_sem] theorem x5_13:XR 5 g5_13 [mvo 63 7,ldo 64 44 10,iao 65 51 6 63,(none,(.store 44 (.tmp 65) (.tmp 64)),none)]:=xk
@[go_sem] theorem t5_13:TK g5_13:=tk
noncomputable def g5_14:=regAt Proofs.Try.f5 14
@[go_sem] theorem x5_14:XR 5 g5_14 [mvo 28 7,opo 29 (.binOp .add 3 (.tmp 28) (.const (.int .i64 1)) 3),aso 7 29]:=xk
@[go_sem] theorem t5_14:TK g5_14:=tk
noncomputable def g5_15:=regAt Proofs.Try.f5 15
@[go_sem] theorem x5_15:XR 5 g5_15 [opo 12 (.assign (.const (.int .i64 0)))]:=xk
@[go_sem] theorem t5_15:TK g5_15:=tk
noncomputable def g5_16:=regAt Proofs.Try.f5 16
@[go_sem] theorem x5_16:XR 5 g5_16 [mvo 66 12,mvo 67 1,opo 68 (.call ⟨(.builtin .len),#[(.tmp 67)],#[22]⟩),opo 69 (.binOp .lss 3 (.tmp 66) (.tmp 68) 3),mvo 70 69,(some 71,(.move (.tmp 12)),some (70,true)),(some 72,(.binOp .lss 3 (.tmp 71) (.const (.int .i64 30)) 3),some (70,true)),opo 73 (.pick (.tmp 70) (.tmp 72) (.const (.bool false)))]:=xk
@[go_sem] theorem t5_16:TK g5_16:=tk
noncomputable def g5_17:=regAt Proofs.Try.f5 17
@[go_sem] theorem x5_17:XR 5 g5_17 [mvo 76 1,mvo 77 12,iao 78 22 76 77,ldo 79 5 78,opo 80 (.convert 5 3 (.tmp 79)),opo 81 (.binOp .rem 3 (.tmp 80) (.const (.int .i64 5)) 3),aso 13 81]:=xk
@[go_sem] theorem t5_17:TK g5_17:=tk
noncomputable def g5_18:=regAt Proofs.Try.f5 18
@[go_sem] theorem x5_18:XUR 5 g5_18 [(0,0,[],opo 82 (.buildSlice 39 0 #[])),(1,0,[0],mvo 83 13),(2,0,[0,1],mvo 84 12),(3,0,[0],opo 85 (.binOp .add 3 (.tmp 83) (.tmp 84) 3)),(4,0,[0],opo 86 (.binOp .rem 3 (.tmp 85) (.const (.int .i64 5)) 3)),(5,0,[0],iao 87 50 2 86),(6,0,[0],ldo 88 39 87),(7,0,[0,1,2,3,4,5,6],mvo 89 13),(8,0,[0,1,2,3,4,5,6,7],mvo 90 12),(9,0,[0,1,2,3,4,5,6],opo 91 (.binOp .add 3 (.tmp 89) (.tmp 90) 3)),(10,0,[0,1,2,3,4,5,6],opo 92 (.binOp .rem 3 (.tmp 91) (.const (.int .i64 5)) 3)),(11,0,[0,1,2,3,4,5,6],iao 93 50 2 92),(12,0,[0,1,2,3,4,5,6],ldo 94 39 93),(13,0,[0,1,2,3,4,5,6],opo 95 (.call ⟨(.builtin .len),#[(.tmp 94)],#[39]⟩)),(14,0,[0,1,2,3,4,5,6],opo 96 (.call ⟨(.builtin .min),#[(.tmp 95),(.const (.int .i64 16))],#[3,3]⟩)),(15,0,[0],opo 97 (.slice 39 (.tmp 88) none (some (.tmp 96)) none)),(16,0,[],opo 98 (.call ⟨(.builtin .append),#[(.tmp 82),(.tmp 97)],#[39,39]⟩)),(17,1,[],aso 14 98)] 1:=xuk
@[go_sem] theorem t5_18_82:takes g5_18 82=true:=nk
@[go_sem] theorem t5_18_83:takes g5_18 83=false:=nk
@[go_sem] theorem t5_18_84:takes g5_18 84=false:=nk
@[go_sem] theorem t5_18_85:takes g5_18 85=false:=nk
@[go_sem] theorem t5_18_86:takes g5_18 86=false:=nk
@[go_sem] theorem t5_18_87:takes g5_18 87=false:=nk
@[go_sem] theorem t5_18_88:takes g5_18 88=false:=nk
@[go_sem] theorem t5_18_89:takes g5_18 89=false:=nk
@[go_sem] theorem t5_18_90:takes g5_18 90=false:=nk
@[go_sem] theorem t5_18_91:takes g5_18 91=false:=nk
@[go_sem] theorem t5_18_92:takes g5_18 92=false:=nk
@[go_sem] theorem t5_18_93:takes g5_18 93=false:=nk
@[go_sem] theorem t5_18_94:takes g5_18 94=false:=nk
@[go_sem] theorem t5_18_95:takes g5_18 95=false:=nk
@[go_sem] theorem t5_18_96:takes g5_18 96=false:=nk
@[go_sem] theorem t5_18_97:takes g5_18 97=false:=nk
@[go_sem] theorem t5_18_98:takes g5_18 98=false:=nk
@[go_sem] theorem t5_18_14:takes g5_18 14=false:=nk
noncomputable def g5_19:=regAt Proofs.Try.f5 19
@[go_sem] theorem x5_19:XR 5 g5_19 [mvo 99 13,mvo 100 12,mvo 101 14,opo 102 (.build 44 #[(0,(.tmp 99)),(1,(.tmp 100)),(2,(.tmp 101))]),opo 15 (.alloc 44),(none,(.store 44 (.tmp 15) (.tmp 102)),none)]:=xk
@[go_sem] theorem t5_19:TK g5_19:=tk
noncomputable def g5_20:=regAt Proofs.Try.f5 20
@[go_sem] theorem x5_20:XR 5 g5_20 [mvo 103 12,opo 104 (.binOp .rem 3 (.tmp 103) (.const (.int .i64 16)) 3),mvo 105 12,fao 106 44 15 3,iao 107 42 106 104,(none,(.store 2 (.tmp 107) (.tmp 105)),none)]:=xk
@[go_sem] theorem t5_20:TK g5_20:=tk
noncomputable def g5_21:=regAt Proofs.Try.f5 21
@[go_sem] theorem x5_21:XR 5 g5_21 [mvo 108 5,mvo 109 13,ldo 110 44 15,opo 111 (.call ⟨(.value (.func 41)),#[(.tmp 108),(.tmp 109),(.tmp 110)],#[24,3,44]⟩),opo 112 (.binOp .neq 27 (.tmp 111) (.const (.int .i64 0)) 27)]:=xk
@[go_sem] theorem t5_21:TK g5_21:=tk
noncomputable def g5_22:=regAt Proofs.Try.f5 22
@[go_sem] theorem x5_22:XR 5 g5_22 [opo 4 (.assign (.const (.bool false)))]:=xk
@[go_sem] theorem t5_22:TK g5_22:=tk
noncomputable def g5_23:=regAt Proofs.Try.f5 23
@[go_sem] theorem x5_23:XR 5 g5_23 [mvo 113 13,ldo 114 44 15,iao 115 51 6 113,(none,(.store 44 (.tmp 115) (.tmp 114)),none)]:=xk
@[go_sem] theorem t5_23:TK g5_23:=tk
noncomputable def g5_24:=regAt Proofs.Try.f5 24
@[go_sem] theorem x5_24:XR 5 g5_24 [mvo 116 13,opo 117 (.buildSlice 39 0 #[]),mvo 118 14,opo 119 (.call ⟨(.builtin .append),#[(.tmp 117),(.tmp 118)],#[39,39]⟩),iao 120 51 6 116,fao 121 44 120 2,(none,(.store 39 (.tmp 121) (.tmp 119)),none)]:=xk
@[go_sem] theorem t5_24_116:takes g5_24 116=false:=nk
@[go_sem] theorem t5_24_117:takes g5_24 117=true:=nk
@[go_sem] theorem t5_24_118:takes g5_24 118=false:=nk
@[go_sem] theorem t5_24_119:takes g5_24 119=false:=nk
@[go_sem] theorem t5_24_120:takes g5_24 120=false:=nk
@[go_sem] theorem t5_24_121:takes g5_24 121=false:=nk
noncomputable def g5_25:=regAt Proofs.Try.f5 25
@[go_sem] theorem x5_25:XR 5 g5_25 [opo 16 (.assign (.const (.int .i64 0)))]:=xk
@[go_sem] theorem t5_25:TK g5_25:=tk
noncomputable def g5_26:=regAt Proofs.Try.f5 26
@[go_sem] theorem x5_26:XR 5 g5_26 [mvo 122 16,mvo 123 14,opo 124 (.call ⟨(.builtin .len),#[(.tmp 123)],#[39]⟩),opo 125 (.binOp .lss 3 (.tmp 122) (.tmp 124) 3)]:=xk
@[go_sem] theorem t5_26:TK g5_26:=tk
noncomputable def g5_27:=regAt Proofs.Try.f5 27
@[go_sem] theorem x5_27:XR 5 g5_27 [mvo 128 14,mvo 129 16,mvo 130 14,mvo 131 16,iao 132 39 130 131,ldo 133 2 132,opo 134 (.binOp .add 2 (.tmp 133) (.const (.int .i64 1)) 2),iao 135 39 128 129,(none,(.store 2 (.tmp 135) (.tmp 134)),none)]:=xk
@[go_sem] theorem t5_27:TK g5_27:=tk
noncomputable def g5_28:=regAt Proofs.Try.f5 28
@[go_sem] theorem x5_28:XR 5 g5_28 [mvo 126 16,opo 127 (.binOp .add 3 (.tmp 126) (.const (.int .i64 1)) 3),aso 16 127]:=xk
@[go_sem] theorem t5_28:TK g5_28:=tk
noncomputable def g5_29:=regAt Proofs.Try.f5 29
@[go_sem] theorem x5_29:XR 5 g5_29 [opo 17 (.assign (.const (.int .i64 0)))]:=xk
@[go_sem] theorem t5_29:TK g5_29:=tk
noncomputable def g5_30:=regAt Proofs.Try.f5 30
@[go_sem] theorem x5_30:XR 5 g5_30 [mvo 136 17,opo 137 (.binOp .lss 3 (.tmp 136) (.const (.int .i64 5)) 3)]:=xk
@[go_sem] theorem t5_30:TK g5_30:=tk
noncomputable def g5_31:=regAt Proofs.Try.f5 31
@[go_sem] theorem x5_31:XR 5 g5_31 [mvo 141 5,mvo 142 17,opo 143 (.call ⟨(.value (.func 46)),#[(.tmp 141),(.tmp 142)],#[24,3]⟩),mvo 140 143,opo 144 (.extract (.tmp 140) 0),opo 145 (.extract (.tmp 140) 1),opo 18 (.alloc 44),(none,(.store 44 (.tmp 18) (.tmp 144)),none),aso 19 145]:=xk
@[go_sem] theorem t5_31:TK g5_31:=tk
noncomputable def g5_32:=regAt Proofs.Try.f5 32
@[go_sem] theorem x5_32:XUR 5 g5_32 [(0,0,[],mvo 146 19),(1,0,[],opo 147 (.unOp .not 4 (.tmp 146))),(2,0,[],mvo 148 147),(3,0,[],(some 149,(.load 44 (.tmp 18)),some (148,false))),(4,0,[3],(some 150,(.move (.tmp 17)),some (148,false))),(5,0,[3],(some 151,(.indexAddr 51 (.tmp 6) (.tmp 150)),some (148,false))),(6,0,[3],(some 152,(.load 44 (.tmp 151)),some (148,false))),(7,0,[],(some 153,(.call ⟨(.value (.func 47)),#[(.tmp 149),(.tmp 152)],#[44,44]⟩),some (148,false))),(8,0,[],(some 154,(.unOp .not 4 (.tmp 153)),some (148,false))),(9,0,[],opo 155 (.pick (.tmp 148) (.const (.bool true)) (.tmp 154)))] 0:=xuk
@[go_sem] theorem t5_32:TK g5_32:=tk
noncomputable def g5_33:=regAt Proofs.Try.f5 33
@[go_sem] theorem x5_33:XR 5 g5_33 [opo 4 (.assign (.const (.bool false)))]:=xk
@[go_sem] theorem t5_33:TK g5_33:=tk
noncomputable def g5_34:=regAt Proofs.Try.f5 34
@[go_sem] theorem x5_34:XR 5 g5_34 [opo 20 (.assign (.const (.int .i64 0)))]:=xk
@[go_sem] theorem t5_34:TK g5_34:=tk
noncomputable def g5_35:=regAt Proofs.Try.f5 35
@[go_sem] theorem x5_35:XR 5 g5_35 [mvo 156 20,fao 157 44 18 2,ldo 158 39 157,opo 159 (.call ⟨(.builtin .len),#[(.tmp 158)],#[39]⟩),opo 160 (.binOp .lss 3 (.tmp 156) (.tmp 159) 3)]:=xk
@[go_sem] theorem t5_35:TK g5_35:=tk
noncomputable def g5_36:=regAt Proofs.Try.f5 36
@[go_sem] theorem x5_36:XR 5 g5_36 [fao 163 44 18 2,ldo 164 39 163,mvo 165 20,iao 166 39 164 165,ldo 167 2 166,opo 168 (.binOp .sub 2 (.tmp 167) (.const (.int .i64 1)) 2),iao 169 39 164 165,(none,(.store 2 (.tmp 169) (.tmp 168)),none)]:=xk
@[go_sem] theorem t5_36:TK g5_36:=tk
noncomputable def g5_37:=regAt Proofs.Try.f5 37
@[go_sem] theorem x5_37:XR 5 g5_37 [mvo 161 20,opo 162 (.binOp .add 3 (.tmp 161) (.const (.int .i64 1)) 3),aso 20 162]:=xk
@[go_sem] theorem t5_37:TK g5_37:=tk
noncomputable def g5_38:=regAt Proofs.Try.f5 38
@[go_sem] theorem x5_38:XR 5 g5_38 [mvo 138 17,opo 139 (.binOp .add 3 (.tmp 138) (.const (.int .i64 1)) 3),aso 17 139]:=xk
@[go_sem] theorem t5_38:TK g5_38:=tk
noncomputable def g5_39:=regAt Proofs.Try.f5 39
@[go_sem] theorem x5_39:XR 5 g5_39 [mvo 74 12,opo 75 (.binOp .add 3 (.tmp 74) (.const (.int .i64 1)) 3),aso 12 75]:=xk
@[go_sem] theorem t5_39:TK g5_39:=tk
noncomputable def g5_40:=regAt Proofs.Try.f5 40
@[go_sem] theorem x5_40:XR 5 g5_40 [mvo 170 5,opo 171 (.call ⟨(.value (.func 38)),#[(.tmp 170)],#[24]⟩),opo 172 (.call ⟨(.builtin .len),#[(.tmp 171)],#[31]⟩),opo 173 (.binOp .eql 3 (.tmp 172) (.const (.int .i64 5)) 3),aso 4 173]:=xk
@[go_sem] theorem t5_40:TK g5_40:=tk
noncomputable def l5_0:Code:=(.seq (.seq (.region 8 g5_8 false) (.cond (.tmp 27) .skip (.exit 0))) (.seq (.block 1 (.seq (.region 10 g5_9 true) (.seq (.region 11 g5_10 false) (.seq (.seq (.region 12 g5_11 false) (.cond (.tmp 62) (.seq (.region 13 g5_12 false) .ret) .skip)) (.region 14 g5_13 false))))) (.region 9 g5_14 false)))
theorem dl5_0{ro nt:Nat}{fr:PT}{H:Hp}:(den cx).loop ro 5 nt l5_0 fr H=xbind (ex cx (den cx) ro 5 nt (.seq (.seq (.region 8 g5_8 false) (.cond (.tmp 27) .skip (.exit 0))) (.seq (.block 1 (.seq (.region 10 g5_9 true) (.seq (.region 11 g5_10 false) (.seq (.seq (.region 12 g5_11 false) (.cond (.tmp 62) (.seq (.region 13 g5_12 false) .ret) .skip)) (.region 14 g5_13 false))))) (.region 9 g5_14 false))) fr H) (contR ((den cx).loop ro 5 nt l5_0)):=den_loop_k l5_0
noncomputable def l5_1:Code:=(.seq (.seq (.region 27 g5_26 false) (.cond (.tmp 125) .skip (.exit 4))) (.seq (.block 5 (.region 29 g5_27 false)) (.region 28 g5_28 false)))
theorem dl5_1{ro nt:Nat}{fr:PT}{H:Hp}:(den cx).loop ro 5 nt l5_1 fr H=xbind (ex cx (den cx) ro 5 nt (.seq (.seq (.region 27 g5_26 false) (.cond (.tmp 125) .skip (.exit 4))) (.seq (.block 5 (.region 29 g5_27 false)) (.region 28 g5_28 false))) fr H) (contR ((den cx).loop ro 5 nt l5_1)):=den_loop_k l5_1
noncomputable def l5_2:Code:=(.seq (.seq (.region 37 g5_35 false) (.cond (.tmp 160) .skip (.exit 8))) (.seq (.block 9 (.region 39 g5_36 false)) (.region 38 g5_37 false)))
theorem dl5_2{ro nt:Nat}{fr:PT}{H:Hp}:(den cx).loop ro 5 nt l5_2 fr H=xbind (ex cx (den cx) ro 5 nt (.seq (.seq (.region 37 g5_35 false) (.cond (.tmp 160) .skip (.exit 8))) (.seq (.block 9 (.region 39 g5_36 false)) (.region 38 g5_37 false))) fr H) (contR ((den cx).loop ro 5 nt l5_2)):=den_loop_k l5_2
noncomputable def l5_3:Code:=(.seq (.seq (.region 31 g5_30 false) (.cond (.tmp 137) .skip (.exit 6))) (.seq (.block 7 (.seq (.region 33 g5_31 false) (.seq (.seq (.region 34 g5_32 true) (.cond (.tmp 155) (.seq (.region 35 g5_33 false) .ret) .skip)) (.seq (.region 36 g5_34 false) (.block 8 (.loop l5_2)))))) (.region 32 g5_38 false)))
theorem dl5_3{ro nt:Nat}{fr:PT}{H:Hp}:(den cx).loop ro 5 nt l5_3 fr H=xbind (ex cx (den cx) ro 5 nt (.seq (.seq (.region 31 g5_30 false) (.cond (.tmp 137) .skip (.exit 6))) (.seq (.block 7 (.seq (.region 33 g5_31 false) (.seq (.seq (.region 34 g5_32 true) (.cond (.tmp 155) (.seq (.region 35 g5_33 false) .ret) .skip)) (.seq (.region 36 g5_34 false) (.block 8 (.loop l5_2)))))) (.region 32 g5_38 false))) fr H) (contR ((den cx).loop ro 5 nt l5_3)):=den_loop_k l5_3
noncomputable def l5_4:Code:=(.seq (.seq (.region 16 g5_16 false) (.cond (.tmp 73) .skip (.exit 2))) (.seq (.block 3 (.seq (.region 18 g5_17 false) (.seq (.region 19 g5_18 true) (.seq (.region 20 g5_19 false) (.seq (.region 21 g5_20 false) (.seq (.seq (.region 22 g5_21 false) (.cond (.tmp 112) (.seq (.region 23 g5_22 false) .ret) .skip)) (.seq (.region 24 g5_23 false) (.seq (.region 25 g5_24 false) (.seq (.seq (.region 26 g5_25 false) (.block 4 (.loop l5_1))) (.seq (.region 30 g5_29 false) (.block 6 (.loop l5_3)))))))))))) (.region 17 g5_39 false)))
theorem dl5_4{ro nt:Nat}{fr:PT}{H:Hp}:(den cx).loop ro 5 nt l5_4 fr H=xbind (ex cx (den cx) ro 5 nt (.seq (.seq (.region 16 g5_16 false) (.cond (.tmp 73) .skip (.exit 2))) (.seq (.block 3 (.seq (.region 18 g5_17 false) (.seq (.region 19 g5_18 true) (.seq (.region 20 g5_19 false) (.seq (.region 21 g5_20 false) (.seq (.seq (.region 22 g5_21 false) (.cond (.tmp 112) (.seq (.region 23 g5_22 false) .ret) .skip)) (.seq (.region 24 g5_23 false) (.seq (.region 25 g5_24 false) (.seq (.seq (.region 26 g5_25 false) (.block 4 (.loop l5_1))) (.seq (.region 30 g5_29 false) (.block 6 (.loop l5_3)))))))))))) (.region 17 g5_39 false))) fr H) (contR ((den cx).loop ro 5 nt l5_4)):=den_loop_k l5_4
theorem b5:Proofs.Try.f5.body=some (.seq (.region 0 g5_0 false) (.seq (.seq (.region 1 g5_1 false) (.cond (.tmp 22) (.seq (.region 2 g5_2 false) .ret) .skip)) (.seq (.region 3 g5_3 false) (.seq (.seq (.region 4 g5_4 false) (.cond (.tmp 25) (.seq (.region 5 g5_5 false) .ret) .skip)) (.seq (.region 6 g5_6 false) (.seq (.seq (.region 7 g5_7 false) (.block 0 (.loop l5_0))) (.seq (.seq (.region 15 g5_15 false) (.block 2 (.loop l5_4))) (.seq (.region 40 g5_40 false) .ret)))))))):=by kernel_rfl
theorem c5{h:Hd}{ro:Nat}{H:Hp}(a0 a1:AV):callB cx h ro 5 [a0,a1] H=returned cx [(.tmp 4)] (ex cx h ro 5 174 (.seq (.region 0 g5_0 false) (.seq (.seq (.region 1 g5_1 false) (.cond (.tmp 22) (.seq (.region 2 g5_2 false) .ret) .skip)) (.seq (.region 3 g5_3 false) (.seq (.seq (.region 4 g5_4 false) (.cond (.tmp 25) (.seq (.region 5 g5_5 false) .ret) .skip)) (.seq (.region 6 g5_6 false) (.seq (.seq (.region 7 g5_7 false) (.block 0 (.loop l5_0))) (.seq (.seq (.region 15 g5_15 false) (.block 2 (.loop l5_4))) (.seq (.region 40 g5_40 false) .ret)))))))) ((PT.nil.set 0 (drp a0)).set 1 (drp a1)) H):=by
 have hf:cx.fns 5=some Proofs.Try.f5:=by kernel_rfl
 simp only[callB,hf,funced,b5,bodied]
 rfl
noncomputable def g41_0:=regAt Proofs.Try.f41 0
@[go_sem] theorem x41_0:XR 41 g41_0 [opo 5 (.box 44 (.tmp 2)),opo 6 (.assign (.const (.int .i64 0)))]:=xk
@[go_sem] theorem t41_0:TK g41_0:=tk
noncomputable def g41_1:=regAt Proofs.Try.f41 1
@[go_sem] theorem x41_1:XR 41 g41_1 [mvo 10 0,mvo 11 1,opo 12 (.call ⟨(.value (.func 109)),#[(.tmp 10),(.tmp 11)],#[24,3]⟩),mvo 9 12,opo 13 (.extract (.tmp 9) 0),opo 14 (.extract (.tmp 9) 1),aso 7 13,aso 8 14]:=xk
@[go_sem] theorem t41_1:TK g41_1:=tk
noncomputable def g41_2:=regAt Proofs.Try.f41 2
@[go_sem] theorem x41_2:XR 41 g41_2 [mvo 15 8,opo 16 (.binOp .eql 27 (.tmp 15) (.const (.int .i64 0)) 27),mvo 17 16,(some 18,(.fieldAddr 44 (.tmp 5) 2),some (17,true)),(some 19,(.load 39 (.tmp 18)),some (17,true)),(some 20,(.call ⟨(.builtin .len),#[(.tmp 19)],#[39]⟩),some (17,true)),(some 21,(.binOp .gtr 3 (.tmp 20) (.const (.int .i64 16)) 3),some (17,true)),opo 22 (.pick (.tmp 17) (.tmp 21) (.const (.bool false)))]:=xk
@[go_sem] theorem t41_2:TK g41_2:=tk
noncomputable def g41_3:=regAt Proofs.Try.f41 3
@[go_sem] theorem x41_3:XR 41 g41_3 [opo 8 (.assign (.const (.int .i64 15)))]:=xk
@[go_sem] theorem t41_3:TK g41_3:=tk
noncomputable def g41_4:=regAt Proofs.Try.f41 4
@[go_sem] theorem x41_4:XR 41 g41_4 [mvo 23 8,opo 24 (.binOp .eql 27 (.tmp 23) (.const (.int .i64 0)) 27)]:=xk
@[go_sem] theorem t41_4:TK g41_4:=tk
noncomputable def g41_5:=regAt Proofs.Try.f41 5
@[go_sem] theorem x41_5:XR 41 g41_5 [mvo 25 7,ldo 26 44 5,opo 27 (.call ⟨(.value (.func 111)),#[(.tmp 26)],#[44]⟩),opo 28 (.nilCheck (.tmp 25)),fao 29 185 28 0,(none,(.store 44 (.tmp 29) (.tmp 27)),none)]:=xk
@[go_sem] theorem t41_5:TK g41_5:=tk
noncomputable def g41_6:=regAt Proofs.Try.f41 6
@[go_sem] theorem x41_6:XR 41 g41_6 [mvo 30 8,aso 6 30]:=xk
@[go_sem] theorem t41_6:TK g41_6:=tk
theorem b41:Proofs.Try.f41.body=some (.seq (.region 0 g41_0 false) (.seq (.region 1 g41_1 false) (.seq (.seq (.region 2 g41_2 false) (.cond (.tmp 22) (.region 3 g41_3 false) .skip)) (.seq (.seq (.region 4 g41_4 false) (.cond (.tmp 24) (.region 5 g41_5 false) .skip)) (.seq (.region 6 g41_6 false) .ret))))):=by kernel_rfl
theorem c41{h:Hd}{ro:Nat}{H:Hp}(a0 a1 a2:AV):callB cx h ro 41 [a0,a1,a2] H=returned cx [(.tmp 6)] (ex cx h ro 41 31 (.seq (.region 0 g41_0 false) (.seq (.region 1 g41_1 false) (.seq (.seq (.region 2 g41_2 false) (.cond (.tmp 22) (.region 3 g41_3 false) .skip)) (.seq (.seq (.region 4 g41_4 false) (.cond (.tmp 24) (.region 5 g41_5 false) .skip)) (.seq (.region 6 g41_6 false) .ret))))) (((PT.nil.set 0 (drp a0)).set 1 (drp a1)).set 2 (drp a2)) H):=by
 have hf:cx.fns 41=some Proofs.Try.f41:=by kernel_rfl
 simp only[callB,hf,funced,b41,bodied]
 rfl
noncomputable def g46_0:=regAt Proofs.Try.f46 0
@[go_sem] theorem x46_0:XR 46 g46_0 [opo 4 (.alloc 44),opo 5 (.assign (.const (.bool false)))]:=xk
@[go_sem] theorem t46_0:TK g46_0:=tk
noncomputable def g46_1:=regAt Proofs.Try.f46 1
@[go_sem] theorem x46_1:XR 46 g46_1 [mvo 9 0,mvo 10 1,opo 11 (.call ⟨(.value (.func 109)),#[(.tmp 9),(.tmp 10)],#[24,3]⟩),mvo 8 11,opo 12 (.extract (.tmp 8) 0),opo 13 (.extract (.tmp 8) 1),aso 6 12,aso 7 13]:=xk
@[go_sem] theorem t46_1:TK g46_1:=tk
noncomputable def g46_2:=regAt Proofs.Try.f46 2
@[go_sem] theorem x46_2:XR 46 g46_2 [mvo 14 7,opo 15 (.binOp .neq 27 (.tmp 14) (.const (.int .i64 0)) 27)]:=xk
@[go_sem] theorem t46_2:TK g46_2:=tk
noncomputable def g46_3:=regAt Proofs.Try.f46 3
@[go_sem] theorem x46_3:XR 46 g46_3 [opo 16 (.build 44 #[]),(none,(.store 44 (.tmp 4) (.tmp 16)),none),opo 5 (.assign (.const (.bool false)))]:=xk
@[go_sem] theorem t46_3:TK g46_3:=tk
noncomputable def g46_4:=regAt Proofs.Try.f46 4
@[go_sem] theorem x46_4:XR 46 g46_4 [mvo 17 6,opo 18 (.nilCheck (.tmp 17)),fao 19 185 18 0,ldo 20 44 19,opo 21 (.call ⟨(.value (.func 111)),#[(.tmp 20)],#[44]⟩),(none,(.store 44 (.tmp 4) (.tmp 21)),none),opo 5 (.assign (.const (.bool true)))]:=xk
@[go_sem] theorem t46_4:TK g46_4:=tk
theorem b46:Proofs.Try.f46.body=some (.seq (.region 0 g46_0 false) (.seq (.region 1 g46_1 false) (.seq (.seq (.region 2 g46_2 false) (.cond (.tmp 15) (.seq (.region 3 g46_3 false) .ret) .skip)) (.seq (.region 4 g46_4 false) .ret)))):=by kernel_rfl
theorem c46{h:Hd}{ro:Nat}{H:Hp}(a0 a1:AV):callB cx h ro 46 [a0,a1] H=returned cx [(.cell 4 44),(.tmp 5)] (ex cx h ro 46 22 (.seq (.region 0 g46_0 false) (.seq (.region 1 g46_1 false) (.seq (.seq (.region 2 g46_2 false) (.cond (.tmp 15) (.seq (.region 3 g46_3 false) .ret) .skip)) (.seq (.region 4 g46_4 false) .ret)))) ((PT.nil.set 0 (drp a0)).set 1 (drp a1)) H):=by
 have hf:cx.fns 46=some Proofs.Try.f46:=by kernel_rfl
 simp only[callB,hf,funced,b46,bodied]
 rfl
noncomputable def g47_0:=regAt Proofs.Try.f47 0
@[go_sem] theorem x47_0:XR 47 g47_0 [opo 2 (.box 44 (.tmp 0)),opo 3 (.box 44 (.tmp 1)),opo 4 (.assign (.const (.bool false)))]:=xk
@[go_sem] theorem t47_0:TK g47_0:=tk
noncomputable def g47_1:=regAt Proofs.Try.f47 1
@[go_sem] theorem x47_1:XR 47 g47_1 [fao 5 44 2 0,ldo 6 3 5,fao 7 44 3 0,ldo 8 3 7,opo 9 (.binOp .eql 3 (.tmp 6) (.tmp 8) 3),mvo 10 9,(some 11,(.fieldAddr 44 (.tmp 2) 1),some (10,true)),(some 12,(.load 3 (.tmp 11)),some (10,true)),(some 13,(.fieldAddr 44 (.tmp 3) 1),some (10,true)),(some 14,(.load 3 (.tmp 13)),some (10,true)),(some 15,(.binOp .eql 3 (.tmp 12) (.tmp 14) 3),some (10,true)),opo 16 (.pick (.tmp 10) (.tmp 15) (.const (.bool false))),mvo 17 16,(some 18,(.fieldAddr 44 (.tmp 2) 3),some (17,true)),(some 19,(.load 42 (.tmp 18)),some (17,true)),(some 20,(.fieldAddr 44 (.tmp 3) 3),some (17,true)),(some 21,(.load 42 (.tmp 20)),some (17,true)),(some 22,(.binOp .eql 42 (.tmp 19) (.tmp 21) 42),some (17,true)),opo 23 (.pick (.tmp 17) (.tmp 22) (.const (.bool false))),mvo 24 23,(some 25,(.fieldAddr 44 (.tmp 2) 2),some (24,true)),(some 26,(.load 39 (.tmp 25)),some (24,true)),(some 27,(.fieldAddr 44 (.tmp 3) 2),some (24,true)),(some 28,(.load 39 (.tmp 27)),some (24,true)),(some 29,(.call ⟨(.value (.func 115)),#[(.tmp 26),(.tmp 28)],#[39,39]⟩),some (24,true)),opo 30 (.pick (.tmp 24) (.tmp 29) (.const (.bool false))),aso 4 30]:=xk
@[go_sem] theorem t47_1:TK g47_1:=tk
theorem b47:Proofs.Try.f47.body=some (.seq (.region 0 g47_0 false) (.seq (.region 1 g47_1 false) .ret)):=by kernel_rfl
theorem c47{h:Hd}{ro:Nat}{H:Hp}(a0 a1:AV):callB cx h ro 47 [a0,a1] H=returned cx [(.tmp 4)] (ex cx h ro 47 31 (.seq (.region 0 g47_0 false) (.seq (.region 1 g47_1 false) .ret)) ((PT.nil.set 0 (drp a0)).set 1 (drp a1)) H):=by
 have hf:cx.fns 47=some Proofs.Try.f47:=by kernel_rfl
 simp only[callB,hf,funced,b47,bodied]
 rfl
noncomputable def g111_0:=regAt Proofs.Try.f111 0
@[go_sem] theorem x111_0:XR 111 g111_0 [opo 1 (.box 44 (.tmp 0)),opo 2 (.alloc 44)]:=xk
@[go_sem] theorem t111_0:TK g111_0:=tk
noncomputable def g111_1:=regAt Proofs.Try.f111 1
@[go_sem] theorem x111_1:XUR 111 g111_1 [(0,0,[],fao 3 44 1 2),(1,0,[],ldo 4 39 3),(2,0,[],opo 5 (.slice 39 (.tmp 4) none (some (.const (.int .i64 0))) (some (.const (.int .i64 0))))),(3,0,[0,1,2],fao 6 44 1 2),(4,0,[0,1,2],ldo 7 39 6),(5,0,[],opo 8 (.call ⟨(.builtin .append),#[(.tmp 5),(.tmp 7)],#[39,39]⟩)),(6,1,[],fao 9 44 1 2),(7,1,[],(none,(.store 39 (.tmp 9) (.tmp 8)),none))] 1:=xuk
@[go_sem] theorem t111_1_3:takes g111_1 3=false:=nk
@[go_sem] theorem t111_1_4:takes g111_1 4=false:=nk
@[go_sem] theorem t111_1_5:takes g111_1 5=true:=nk
@[go_sem] theorem t111_1_6:takes g111_1 6=false:=nk
@[go_sem] theorem t111_1_7:takes g111_1 7=false:=nk
@[go_sem] theorem t111_1_8:takes g111_1 8=false:=nk
@[go_sem] theorem t111_1_9:takes g111_1 9=false:=nk
noncomputable def g111_2:=regAt Proofs.Try.f111 2
@[go_sem] theorem x111_2:XR 111 g111_2 [ldo 10 44 1,(none,(.store 44 (.tmp 2) (.tmp 10)),none)]:=xk
@[go_sem] theorem t111_2:TK g111_2:=tk
theorem b111:Proofs.Try.f111.body=some (.seq (.region 0 g111_0 false) (.seq (.region 1 g111_1 true) (.seq (.region 2 g111_2 false) .ret))):=by kernel_rfl
theorem c111{h:Hd}{ro:Nat}{H:Hp}(a0:AV):callB cx h ro 111 [a0] H=returned cx [(.cell 2 44)] (ex cx h ro 111 11 (.seq (.region 0 g111_0 false) (.seq (.region 1 g111_1 true) (.seq (.region 2 g111_2 false) .ret))) (PT.nil.set 0 (drp a0)) H):=by
 have hf:cx.fns 111=some Proofs.Try.f111:=by kernel_rfl
 simp only[callB,hf,funced,b111,bodied]
 rfl
noncomputable def g34_0:=regAt Proofs.Try.f34 0
@[go_sem] theorem x34_0:XR 34 g34_0 [opo 2 (.assign (.const (.pointer none)))]:=xk
@[go_sem] theorem t34_0:TK g34_0:=tk
noncomputable def g34_1:=regAt Proofs.Try.f34 1
@[go_sem] theorem x34_1:XR 34 g34_1 [mvo 3 0,opo 4 (.binOp .lss 3 (.tmp 3) (.const (.int .i64 1)) 3),mvo 5 4,(some 6,(.move (.tmp 0)),some (5,false)),(some 7,(.binOp .gtr 3 (.tmp 6) (.const (.int .i64 32)) 3),some (5,false)),opo 8 (.pick (.tmp 5) (.const (.bool true)) (.tmp 7))]:=xk
@[go_sem] theorem t34_1:TK g34_1:=tk
noncomputable def g34_2:=regAt Proofs.Try.f34 2
@[go_sem] theorem x34_2:XR 34 g34_2 [opo 2 (.assign (.const (.pointer none)))]:=xk
@[go_sem] theorem t34_2:TK g34_2:=tk
noncomputable def g34_3:=regAt Proofs.Try.f34 3
@[go_sem] theorem x34_3:XR 34 g34_3 [mvo 9 0,opo 10 (.makeSlice 178 (.tmp 9) (.tmp 9)),opo 11 (.build 180 #[(0,(.tmp 10))]),opo 12 (.box 180 (.tmp 11)),aso 2 12]:=xk
@[go_sem] theorem t34_3:TK g34_3:=tk
theorem b34:Proofs.Try.f34.body=some (.seq (.region 0 g34_0 false) (.seq (.seq (.region 1 g34_1 false) (.cond (.tmp 8) (.seq (.region 2 g34_2 false) .ret) .skip)) (.seq (.region 3 g34_3 false) .ret))):=by kernel_rfl
theorem c34{h:Hd}{ro:Nat}{H:Hp}(a0:AV):callB cx h ro 34 [a0] H=returned cx [(.tmp 2)] (ex cx h ro 34 13 (.seq (.region 0 g34_0 false) (.seq (.seq (.region 1 g34_1 false) (.cond (.tmp 8) (.seq (.region 2 g34_2 false) .ret) .skip)) (.seq (.region 3 g34_3 false) .ret))) (PT.nil.set 0 (drp a0)) H):=by
 have hf:cx.fns 34=some Proofs.Try.f34:=by kernel_rfl
 simp only[callB,hf,funced,b34,bodied]
 rfl
noncomputable def g35_0:=regAt Proofs.Try.f35 0
@[go_sem] theorem x35_0:XR 35 g35_0 [opo 3 (.box 24 (.tmp 0)),opo 4 (.box 3 (.tmp 1)),opo 5 (.box 39 (.tmp 2)),opo 6 (.alloc 3),opo 7 (.alloc 27)]:=xk
@[go_sem] theorem t35_0:TK g35_0:=tk
noncomputable def g35_1:=regAt Proofs.Try.f35 1
@[go_sem] theorem x35_1:XR 35 g35_1 [ldo 10 24 3,opo 11 (.binOp .eql 24 (.tmp 10) (.const (.pointer none)) 24)]:=xk
@[go_sem] theorem t35_1:TK g35_1:=tk
noncomputable def g35_2:=regAt Proofs.Try.f35 2
@[go_sem] theorem x35_2:XR 35 g35_2 [(none,(.store 3 (.tmp 6) (.const (.int .i64 (-1)))),none),(none,(.store 27 (.tmp 7) (.const (.int .i64 1))),none)]:=xk
@[go_sem] theorem t35_2:TK g35_2:=tk
noncomputable def g35_3:=regAt Proofs.Try.f35 3
@[go_sem] theorem x35_3:XR 35 g35_3 [ldo 12 39 5,opo 13 (.call ⟨(.builtin .len),#[(.tmp 12)],#[39]⟩),opo 14 (.binOp .gtr 3 (.tmp 13) (.const (.int .i64 16)) 3)]:=xk
@[go_sem] theorem t35_3:TK g35_3:=tk
noncomputable def g35_4:=regAt Proofs.Try.f35 4
@[go_sem] theorem x35_4:XR 35 g35_4 [(none,(.store 3 (.tmp 6) (.const (.int .i64 (-1)))),none),(none,(.store 27 (.tmp 7) (.const (.int .i64 2))),none)]:=xk
@[go_sem] theorem t35_4:TK g35_4:=tk
noncomputable def g35_5:=regAt Proofs.Try.f35 5
@[go_sem] theorem x35_5:XR 35 g35_5 [ldo 15 24 3,opo 16 (.call ⟨(.value (.func 108)),#[(.tmp 15),(.const (.bool false))],#[24,4]⟩)]:=xk
@[go_sem] theorem t35_5:TK g35_5:=tk
noncomputable def g35_6:=regAt Proofs.Try.f35 6
@[go_sem] theorem x35_6:XR 35 g35_6 [aso 8 17]:=xk
@[go_sem] theorem t35_6:TK g35_6:=tk
noncomputable def g35_7:=regAt Proofs.Try.f35 7
@[go_sem] theorem x35_7:XR 35 g35_7 [opo 18 (.build 185 #[(1,(.const (.bool true)))]),opo 9 (.alloc 185),(none,(.store 185 (.tmp 9) (.tmp 18)),none)]:=xk
@[go_sem] theorem t35_7:TK g35_7:=tk
noncomputable def g35_8:=regAt Proofs.Try.f35 8
@[go_sem] theorem x35_8:XR 35 g35_8 [ldo 19 3 4,fao 20 185 9 0,fao 21 44 20 0,(none,(.store 3 (.tmp 21) (.tmp 19)),none)]:=xk
@[go_sem] theorem t35_8:TK g35_8:=tk
noncomputable def g35_9:=regAt Proofs.Try.f35 9
@[go_sem] theorem x35_9:XUR 35 g35_9 [(0,0,[],fao 22 185 9 0),(1,0,[],fao 23 44 22 3),(2,0,[],opo 24 (.slice 42 (.tmp 23) none none none)),(3,0,[0,1,2],ldo 25 39 5),(4,0,[],opo 26 (.call ⟨(.builtin .copy),#[(.tmp 24),(.tmp 25)],#[39,39]⟩))] 0:=xuk
@[go_sem] theorem t35_9:TK g35_9:=tk
noncomputable def g35_10:=regAt Proofs.Try.f35 10
@[go_sem] theorem x35_10:XUR 35 g35_10 [(0,0,[],ldo 27 24 3),(1,0,[],opo 28 (.nilCheck (.tmp 27))),(2,0,[],fao 29 180 28 0),(3,0,[],ldo 30 178 29),(4,0,[0,1,2,3],mvo 31 8),(5,0,[0,1,2,3,4],ldo 32 185 9),(6,0,[],iao 33 178 30 31),(7,0,[],(none,(.store 185 (.tmp 33) (.tmp 32)),none))] 0:=xuk
@[go_sem] theorem t35_10:TK g35_10:=tk
noncomputable def g35_11:=regAt Proofs.Try.f35 11
@[go_sem] theorem x35_11:XR 35 g35_11 [mvo 34 8,(none,(.store 3 (.tmp 6) (.tmp 34)),none),(none,(.store 27 (.tmp 7) (.const (.int .i64 0))),none)]:=xk
@[go_sem] theorem t35_11:TK g35_11:=tk
noncomputable def g35_12:=regAt Proofs.Try.f35 12
@[go_sem] theorem x35_12:XR 35 g35_12 [(none,(.store 3 (.tmp 6) (.const (.int .i64 (-1)))),none),(none,(.store 27 (.tmp 7) (.const (.int .i64 22))),none)]:=xk
@[go_sem] theorem t35_12:TK g35_12:=tk
noncomputable def q35_0:Code:=(.region 6 g35_6 false)
noncomputable def r35_0:Code:=(.block 1 (.seq (.region 7 g35_7 false) (.seq (.region 8 g35_8 false) (.seq (.region 9 g35_9 true) (.seq (.region 10 g35_10 true) (.seq (.region 11 g35_11 false) .ret))))))
theorem b35:Proofs.Try.f35.body=some (.seq (.region 0 g35_0 false) (.seq (.seq (.region 1 g35_1 false) (.cond (.tmp 11) (.seq (.region 2 g35_2 false) .ret) .skip)) (.seq (.seq (.region 3 g35_3 false) (.cond (.tmp 14) (.seq (.region 4 g35_4 false) .ret) .skip)) (.seq (.seq (.region 5 g35_5 false) (.block 0 (.rangeFunc (.tmp 16) #[17] q35_0 r35_0))) (.seq (.region 12 g35_12 false) .ret))))):=by kernel_rfl
theorem c35{h:Hd}{ro:Nat}{H:Hp}(a0 a1 a2:AV):callB cx h ro 35 [a0,a1,a2] H=returned cx [(.cell 6 3),(.cell 7 27)] (ex cx h ro 35 35 (.seq (.region 0 g35_0 false) (.seq (.seq (.region 1 g35_1 false) (.cond (.tmp 11) (.seq (.region 2 g35_2 false) .ret) .skip)) (.seq (.seq (.region 3 g35_3 false) (.cond (.tmp 14) (.seq (.region 4 g35_4 false) .ret) .skip)) (.seq (.seq (.region 5 g35_5 false) (.block 0 (.rangeFunc (.tmp 16) #[17] q35_0 r35_0))) (.seq (.region 12 g35_12 false) .ret))))) (((PT.nil.set 0 (drp a0)).set 1 (drp a1)).set 2 (drp a2)) H):=by
 have hf:cx.fns 35=some Proofs.Try.f35:=by kernel_rfl
 simp only[callB,hf,funced,b35,bodied]
 rfl
noncomputable def g36_0:=regAt Proofs.Try.f36 0
@[go_sem] theorem x36_0:XR 36 g36_0 [opo 4 (.assign (.const (.int .i64 0)))]:=xk
@[go_sem] theorem t36_0:TK g36_0:=tk
noncomputable def g36_1:=regAt Proofs.Try.f36 1
@[go_sem] theorem x36_1:XR 36 g36_1 [mvo 8 0,mvo 9 1,opo 10 (.call ⟨(.value (.func 109)),#[(.tmp 8),(.tmp 9)],#[24,3]⟩),mvo 7 10,opo 11 (.extract (.tmp 7) 0),opo 12 (.extract (.tmp 7) 1),aso 5 11,aso 6 12]:=xk
@[go_sem] theorem t36_1:TK g36_1:=tk
noncomputable def g36_2:=regAt Proofs.Try.f36 2
@[go_sem] theorem x36_2:XR 36 g36_2 [mvo 13 6,opo 14 (.binOp .eql 27 (.tmp 13) (.const (.int .i64 0)) 27)]:=xk
@[go_sem] theorem t36_2:TK g36_2:=tk
noncomputable def g36_3:=regAt Proofs.Try.f36 3
@[go_sem] theorem x36_3:XR 36 g36_3 [mvo 15 5,opo 16 (.build 185 #[]),opo 17 (.nilCheck (.tmp 15)),(none,(.store 185 (.tmp 17) (.tmp 16)),none)]:=xk
@[go_sem] theorem t36_3:TK g36_3:=tk
noncomputable def g36_4:=regAt Proofs.Try.f36 4
@[go_sem] theorem x36_4:XR 36 g36_4 [mvo 18 6,aso 4 18]:=xk
@[go_sem] theorem t36_4:TK g36_4:=tk
theorem b36:Proofs.Try.f36.body=some (.seq (.region 0 g36_0 false) (.seq (.region 1 g36_1 false) (.seq (.seq (.region 2 g36_2 false) (.cond (.tmp 14) (.region 3 g36_3 false) .skip)) (.seq (.region 4 g36_4 false) .ret)))):=by kernel_rfl
theorem c36{h:Hd}{ro:Nat}{H:Hp}(a0 a1:AV):callB cx h ro 36 [a0,a1] H=returned cx [(.tmp 4)] (ex cx h ro 36 19 (.seq (.region 0 g36_0 false) (.seq (.region 1 g36_1 false) (.seq (.seq (.region 2 g36_2 false) (.cond (.tmp 14) (.region 3 g36_3 false) .skip)) (.seq (.region 4 g36_4 false) .ret)))) ((PT.nil.set 0 (drp a0)).set 1 (drp a1)) H):=by
 have hf:cx.fns 36=some Proofs.Try.f36:=by kernel_rfl
 simp only[callB,hf,funced,b36,bodied]
 rfl
noncomputable def g38_0:=regAt Proofs.Try.f38 0
@[go_sem] theorem x38_0:XR 38 g38_0 [opo 2 (.assign (.const (.slice none 0 0)))]:=xk
@[go_sem] theorem t38_0:TK g38_0:=tk
noncomputable def g38_1:=regAt Proofs.Try.f38 1
@[go_sem] theorem x38_1:XR 38 g38_1 [mvo 3 0,opo 4 (.binOp .eql 24 (.tmp 3) (.const (.pointer none)) 24)]:=xk
@[go_sem] theorem t38_1:TK g38_1:=tk
noncomputable def g38_2:=regAt Proofs.Try.f38 2
@[go_sem] theorem x38_2:XR 38 g38_2 [opo 2 (.assign (.const (.slice none 0 0)))]:=xk
@[go_sem] theorem t38_2:TK g38_2:=tk
noncomputable def g38_3:=regAt Proofs.Try.f38 3
@[go_sem] theorem x38_3:XR 38 g38_3 [mvo 5 0,opo 6 (.call ⟨(.value (.func 108)),#[(.tmp 5),(.const (.bool true))],#[24,4]⟩),opo 7 (.call ⟨(.value (.func 110)),#[(.tmp 6)],#[182]⟩),aso 2 7]:=xk
@[go_sem] theorem t38_3:TK g38_3:=tk
theorem b38:Proofs.Try.f38.body=some (.seq (.region 0 g38_0 false) (.seq (.seq (.region 1 g38_1 false) (.cond (.tmp 4) (.seq (.region 2 g38_2 false) .ret) .skip)) (.seq (.region 3 g38_3 false) .ret))):=by kernel_rfl
theorem c38{h:Hd}{ro:Nat}{H:Hp}(a0:AV):callB cx h ro 38 [a0] H=returned cx [(.tmp 2)] (ex cx h ro 38 8 (.seq (.region 0 g38_0 false) (.seq (.seq (.region 1 g38_1 false) (.cond (.tmp 4) (.seq (.region 2 g38_2 false) .ret) .skip)) (.seq (.region 3 g38_3 false) .ret))) (PT.nil.set 0 (drp a0)) H):=by
 have hf:cx.fns 38=some Proofs.Try.f38:=by kernel_rfl
 simp only[callB,hf,funced,b38,bodied]
 rfl
noncomputable def g108_0:=regAt Proofs.Try.f108 0
@[go_sem] theorem x108_0:XR 108 g108_0 [opo 2 (.box 24 (.tmp 0)),opo 3 (.box 4 (.tmp 1)),opo 4 (.assign (.const .nilFunc))]:=xk
@[go_sem] theorem t108_0:TK g108_0:=tk
noncomputable def g108_1:=regAt Proofs.Try.f108 1
@[go_sem] theorem x108_1:XR 108 g108_1 [opo 5 (.makeFunc (.func 150) #[] #[(.tmp 2),(.tmp 3)]),aso 4 5]:=xk
@[go_sem] theorem t108_1:TK g108_1:=tk
theorem b108:Proofs.Try.f108.body=some (.seq (.region 0 g108_0 false) (.seq (.region 1 g108_1 false) .ret)):=by kernel_rfl
theorem c108{h:Hd}{ro:Nat}{H:Hp}(a0 a1:AV):callB cx h ro 108 [a0,a1] H=returned cx [(.tmp 4)] (ex cx h ro 108 6 (.seq (.region 0 g108_0 false) (.seq (.region 1 g108_1 false) .ret)) ((PT.nil.set 0 (drp a0)).set 1 (drp a1)) H):=by
 have hf:cx.fns 108=some Proofs.Try.f108:=by kernel_rfl
 simp only[callB,hf,funced,b108,bodied]
 rfl
noncomputable def g109_0:=regAt Proofs.Try.f109 0
@[go_sem] theorem x109_0:XR 109 g109_0 [opo 4 (.assign (.const (.pointer none))),opo 5 (.assign (.const (.int .i64 0)))]:=xk
@[go_sem] theorem t109_0:TK g109_0:=tk
noncomputable def g109_1:=regAt Proofs.Try.f109 1
@[go_sem] theorem x109_1:XR 109 g109_1 [mvo 7 0,opo 8 (.binOp .eql 24 (.tmp 7) (.const (.pointer none)) 24),aso 6 8]:=xk
@[go_sem] theorem t109_1:TK g109_1:=tk
noncomputable def g109_2:=regAt Proofs.Try.f109 2
@[go_sem] theorem x109_2:XR 109 g109_2 [opo 4 (.assign (.const (.pointer none))),opo 5 (.assign (.const (.int .i64 1)))]:=xk
@[go_sem] theorem t109_2:TK g109_2:=tk
noncomputable def g109_3:=regAt Proofs.Try.f109 3
@[go_sem] theorem x109_3:XR 109 g109_3 [mvo 10 1,opo 11 (.binOp .lss 3 (.tmp 10) (.const (.int .i64 0)) 3),mvo 12 11,(some 13,(.move (.tmp 1)),some (12,false)),(some 14,(.move (.tmp 0)),some (12,false)),(some 15,(.nilCheck (.tmp 14)),some (12,false)),(some 16,(.fieldAddr 180 (.tmp 15) 0),some (12,false)),(some 17,(.load 178 (.tmp 16)),some (12,false)),(some 18,(.call ⟨(.builtin .len),#[(.tmp 17)],#[178]⟩),some (12,false)),(some 19,(.binOp .geq 3 (.tmp 13) (.tmp 18) 3),some (12,false)),opo 20 (.pick (.tmp 12) (.const (.bool true)) (.tmp 19)),mvo 21 20,(some 22,(.move (.tmp 0)),some (21,false)),(some 23,(.nilCheck (.tmp 22)),some (21,false)),(some 24,(.fieldAddr 180 (.tmp 23) 0),some (21,false)),(some 25,(.load 178 (.tmp 24)),some (21,false)),(some 26,(.move (.tmp 1)),some (21,false)),(some 27,(.indexAddr 178 (.tmp 25) (.tmp 26)),some (21,false)),(some 28,(.fieldAddr 185 (.tmp 27) 1),some (21,false)),(some 29,(.load 4 (.tmp 28)),some (21,false)),(some 30,(.unOp .not 4 (.tmp 29)),some (21,false)),opo 31 (.pick (.tmp 21) (.const (.bool true)) (.tmp 30)),aso 9 31]:=xk
@[go_sem] theorem t109_3:TK g109_3:=tk
noncomputable def g109_4:=regAt Proofs.Try.f109 4
@[go_sem] theorem x109_4:XR 109 g109_4 [opo 4 (.assign (.const (.pointer none))),opo 5 (.assign (.const (.int .i64 24)))]:=xk
@[go_sem] theorem t109_4:TK g109_4:=tk
noncomputable def g109_5:=regAt Proofs.Try.f109 5
@[go_sem] theorem x109_5:XR 109 g109_5 [mvo 32 0,opo 33 (.nilCheck (.tmp 32)),fao 34 180 33 0,ldo 35 178 34,mvo 36 1,iao 37 178 35 36,aso 4 37,opo 5 (.assign (.const (.int .i64 0)))]:=xk
@[go_sem] theorem t109_5:TK g109_5:=tk
theorem b109:Proofs.Try.f109.body=some (.seq (.region 0 g109_0 false) (.seq (.block 0 (.seq (.region 1 g109_1 false) (.cond (.tmp 6) (.seq (.region 2 g109_2 false) .ret) (.seq (.region 3 g109_3 false) (.cond (.tmp 9) (.seq (.region 4 g109_4 false) .ret) .skip))))) (.seq (.region 5 g109_5 false) .ret))):=by kernel_rfl
theorem c109{h:Hd}{ro:Nat}{H:Hp}(a0 a1:AV):callB cx h ro 109 [a0,a1] H=returned cx [(.tmp 4),(.tmp 5)] (ex cx h ro 109 38 (.seq (.region 0 g109_0 false) (.seq (.block 0 (.seq (.region 1 g109_1 false) (.cond (.tmp 6) (.seq (.region 2 g109_2 false) .ret) (.seq (.region 3 g109_3 false) (.cond (.tmp 9) (.seq (.region 4 g109_4 false) .ret) .skip))))) (.seq (.region 5 g109_5 false) .ret))) ((PT.nil.set 0 (drp a0)).set 1 (drp a1)) H):=by
 have hf:cx.fns 109=some Proofs.Try.f109:=by kernel_rfl
 simp only[callB,hf,funced,b109,bodied]
 rfl
noncomputable def g110_0:=regAt Proofs.Try.f110 0
@[go_sem] theorem x110_0:XR 110 g110_0 [opo 2 (.assign (.const (.slice none 0 0)))]:=xk
@[go_sem] theorem t110_0:TK g110_0:=tk
noncomputable def g110_1:=regAt Proofs.Try.f110 1
@[go_sem] theorem x110_1:XR 110 g110_1 [mvo 3 0,opo 4 (.call ⟨(.value (.func 151)),#[(.const (.slice none 0 0)),(.tmp 3)],#[31,182]⟩),aso 2 4]:=xk
@[go_sem] theorem t110_1:TK g110_1:=tk
theorem b110:Proofs.Try.f110.body=some (.seq (.region 0 g110_0 false) (.seq (.region 1 g110_1 false) .ret)):=by kernel_rfl
theorem c110{h:Hd}{ro:Nat}{H:Hp}(a0:AV):callB cx h ro 110 [a0] H=returned cx [(.tmp 2)] (ex cx h ro 110 5 (.seq (.region 0 g110_0 false) (.seq (.region 1 g110_1 false) .ret)) (PT.nil.set 0 (drp a0)) H):=by
 have hf:cx.fns 110=some Proofs.Try.f110:=by kernel_rfl
 simp only[callB,hf,funced,b110,bodied]
 rfl
noncomputable def g150_0:=regAt Proofs.Try.f150 0
@[go_sem] theorem x150_0:XR 150 g150_0 [ldo 5 24 1,opo 6 (.nilCheck (.tmp 5)),fao 7 180 6 0,ldo 8 178 7,opo 9 (.call ⟨(.builtin .len),#[(.tmp 8)],#[178]⟩),opo 10 (.move (.const (.int .i64 0)))]:=xk
@[go_sem] theorem t150_0:TK g150_0:=tk
noncomputable def g150_1:=regAt Proofs.Try.f150 1
@[go_sem] theorem x150_1:XR 150 g150_1 [opo 11 (.binOp .lss 3 (.tmp 10) (.tmp 9) 3)]:=xk
@[go_sem] theorem t150_1:TK g150_1:=tk
noncomputable def g150_2:=regAt Proofs.Try.f150 2
@[go_sem] theorem x150_2:XR 150 g150_2 [mvo 12 10,aso 4 12]:=xk
@[go_sem] theorem t150_2:TK g150_2:=tk
noncomputable def g150_3:=regAt Proofs.Try.f150 3
@[go_sem] theorem x150_3:XUR 150 g150_3 [(0,0,[],ldo 13 24 1),(1,0,[],opo 14 (.nilCheck (.tmp 13))),(2,0,[],fao 15 180 14 0),(3,0,[],ldo 16 178 15),(4,0,[0,1,2,3],mvo 17 4),(5,0,[],iao 18 178 16 17),(6,0,[],fao 19 185 18 1),(7,0,[],ldo 20 4 19),(8,0,[0,1,2,3,4,5,6,7],ldo 21 4 2),(9,0,[],opo 22 (.binOp .eql 4 (.tmp 20) (.tmp 21) 4)),(10,0,[],mvo 23 22),(11,0,[],(some 24,(.move (.tmp 0)),some (23,true))),(12,0,[11],(some 25,(.move (.tmp 4)),some (23,true))),(13,0,[],(some 26,(.call ⟨(.value (.tmp 24)),#[(.tmp 25)],#[3]⟩),some (23,true))),(14,0,[],(some 27,(.unOp .not 4 (.tmp 26)),some (23,true))),(15,0,[],opo 28 (.pick (.tmp 23) (.tmp 27) (.const (.bool false))))] 0:=xuk
@[go_sem] theorem t150_3:TK g150_3:=tk
noncomputable def g150_4:=regAt Proofs.Try.f150 4
@[go_sem] theorem x150_4:XR 150 g150_4 [opo 29 (.binOp .add 3 (.tmp 10) (.const (.int .i64 1)) 3),mvo 10 29]:=xk
@[go_sem] theorem t150_4:TK g150_4:=tk
noncomputable def l150_0:Code:=(.seq (.region 1 g150_1 false) (.seq (.cond (.tmp 11) .skip (.exit 0)) (.seq (.block 1 (.seq (.region 2 g150_2 false) (.seq (.region 3 g150_3 true) (.cond (.tmp 28) .ret .skip)))) (.region 4 g150_4 false))))
theorem dl150_0{ro nt:Nat}{fr:PT}{H:Hp}:(den cx).loop ro 150 nt l150_0 fr H=xbind (ex cx (den cx) ro 150 nt (.seq (.region 1 g150_1 false) (.seq (.cond (.tmp 11) .skip (.exit 0)) (.seq (.block 1 (.seq (.region 2 g150_2 false) (.seq (.region 3 g150_3 true) (.cond (.tmp 28) .ret .skip)))) (.region 4 g150_4 false)))) fr H) (contR (trimmed ((den cx).loop ro 150 nt l150_0) H.length)):=den_loop_x l150_0
theorem b150:Proofs.Try.f150.body=some (.seq (.region 0 g150_0 false) (.block 0 (.loop l150_0))):=by kernel_rfl
theorem c150{h:Hd}{ro:Nat}{H:Hp}(a0 a1 a2:AV):callB cx h ro 150 [a0,a1,a2] H=returned cx [] (ex cx h ro 150 30 (.seq (.region 0 g150_0 false) (.block 0 (.loop l150_0))) (((PT.nil.set 0 (drp a0)).set 1 (drp a1)).set 2 (drp a2)) H):=by
 have hf:cx.fns 150=some Proofs.Try.f150:=by kernel_rfl
 simp only[callB,hf,funced,b150,bodied]
 rfl
noncomputable def g151_0:=regAt Proofs.Try.f151 0
@[go_sem] theorem x151_0:XR 151 g151_0 [opo 2 (.box 31 (.tmp 0)),opo 4 (.assign (.const (.slice none 0 0)))]:=xk
@[go_sem] theorem t151_0:TK g151_0:=tk
noncomputable def g151_1:=regAt Proofs.Try.f151 1
@[go_sem] theorem x151_1:XR 151 g151_1 [mvo 6 1]:=xk
@[go_sem] theorem t151_1:TK g151_1:=tk
noncomputable def g151_2:=regAt Proofs.Try.f151 2
@[go_sem] theorem x151_2:XR 151 g151_2 [aso 5 7]:=xk
@[go_sem] theorem t151_2:TK g151_2:=tk
noncomputable def g151_3:=regAt Proofs.Try.f151 3
@[go_sem] theorem x151_3:XR 151 g151_3 [ldo 8 31 2,mvo 9 5,opo 10 (.buildSlice 31 1 #[(0,(.tmp 9))]),opo 11 (.call ⟨(.builtin .append),#[(.tmp 8),(.tmp 10)],#[31,31]⟩),(none,(.store 31 (.tmp 2) (.tmp 11)),none)]:=xk
@[go_sem] theorem t151_3_8:takes g151_3 8=true:=nk
@[go_sem] theorem t151_3_9:takes g151_3 9=false:=nk
@[go_sem] theorem t151_3_10:takes g151_3 10=false:=nk
@[go_sem] theorem t151_3_11:takes g151_3 11=false:=nk
noncomputable def g151_4:=regAt Proofs.Try.f151 4
@[go_sem] theorem x151_4:XR 151 g151_4 [ldo 12 31 2,aso 4 12]:=xk
@[go_sem] theorem t151_4:TK g151_4:=tk
noncomputable def q151_0:Code:=(.region 2 g151_2 false)
noncomputable def r151_0:Code:=(.block 1 (.region 3 g151_3 false))
theorem b151:Proofs.Try.f151.body=some (.seq (.region 0 g151_0 false) (.seq (.seq (.region 1 g151_1 false) (.block 0 (.rangeFunc (.tmp 6) #[7] q151_0 r151_0))) (.seq (.region 4 g151_4 false) .ret))):=by kernel_rfl
theorem c151{h:Hd}{ro:Nat}{H:Hp}(a0 a1:AV):callB cx h ro 151 [a0,a1] H=returned cx [(.tmp 4)] (ex cx h ro 151 13 (.seq (.region 0 g151_0 false) (.seq (.seq (.region 1 g151_1 false) (.block 0 (.rangeFunc (.tmp 6) #[7] q151_0 r151_0))) (.seq (.region 4 g151_4 false) .ret))) ((PT.nil.set 0 (drp a0)).set 1 (drp a1)) H):=by
 have hf:cx.fns 151=some Proofs.Try.f151:=by kernel_rfl
 simp only[callB,hf,funced,b151,bodied]
 rfl
noncomputable def g33_0:=regAt Proofs.Try.f33 0
@[go_sem] theorem x33_0:XR 33 g33_0 [opo 0 (.assign (.const (.bool false)))]:=xk
@[go_sem] theorem t33_0:TK g33_0:=tk
noncomputable def g33_1:=regAt Proofs.Try.f33 1
@[go_sem] theorem x33_1:XR 33 g33_1 [opo 17 (.call ⟨(.value (.func 34)),#[(.const (.int .i64 2))],#[3]⟩),aso 1 17]:=xk
@[go_sem] theorem t33_1:TK g33_1:=tk
noncomputable def g33_2:=regAt Proofs.Try.f33 2
@[go_sem] theorem x33_2:XR 33 g33_2 [mvo 18 1,opo 19 (.binOp .eql 24 (.tmp 18) (.const (.pointer none)) 24)]:=xk
@[go_sem] theorem t33_2:TK g33_2:=tk
noncomputable def g33_3:=regAt Proofs.Try.f33 3
@[go_sem] theorem x33_3:XR 33 g33_3 [opo 0 (.assign (.const (.bool false)))]:=xk
@[go_sem] theorem t33_3:TK g33_3:=tk
noncomputable def g33_4:=regAt Proofs.Try.f33 4
@[go_sem] theorem x33_4:XR 33 g33_4 [mvo 21 1,opo 22 (.buildSlice 39 1 #[(0,(.const (.int .i64 7)))]),opo 23 (.call ⟨(.value (.func 35)),#[(.tmp 21),(.const (.int .i64 3)),(.tmp 22)],#[24,3,39]⟩),mvo 20 23,opo 24 (.extract (.tmp 20) 0),opo 25 (.extract (.tmp 20) 1),aso 2 24,aso 3 25]:=xk
@[go_sem] theorem t33_4:TK g33_4:=tk
noncomputable def g33_5:=regAt Proofs.Try.f33 5
@[go_sem] theorem x33_5:XR 33 g33_5 [mvo 27 1,opo 28 (.call ⟨(.value (.func 35)),#[(.tmp 27),(.const (.int .i64 4)),(.const (.slice none 0 0))],#[24,3,39]⟩),mvo 26 28,opo 29 (.extract (.tmp 26) 0),opo 30 (.extract (.tmp 26) 1),aso 4 29,aso 5 30]:=xk
@[go_sem] theorem t33_5:TK g33_5:=tk
noncomputable def g33_6:=regAt Proofs.Try.f33 6
@[go_sem] theorem x33_6:XR 33 g33_6 [mvo 32 1,opo 33 (.call ⟨(.value (.func 35)),#[(.tmp 32),(.const (.int .i64 5)),(.const (.slice none 0 0))],#[24,3,39]⟩),mvo 31 33,opo 34 (.extract (.tmp 31) 0),opo 35 (.extract (.tmp 31) 1),aso 6 34,aso 7 35]:=xk
@[go_sem] theorem t33_6:TK g33_6:=tk
noncomputable def g33_7:=regAt Proofs.Try.f33 7
@[go_sem] theorem x33_7:XR 33 g33_7 [mvo 37 1,opo 38 (.call ⟨(.value (.func 46)),#[(.tmp 37),(.const (.int .i64 0))],#[24,3]⟩),mvo 36 38,opo 39 (.extract (.tmp 36) 0),opo 40 (.extract (.tmp 36) 1),opo 8 (.alloc 44),(none,(.store 44 (.tmp 8) (.tmp 39)),none),aso 9 40]:=xk
@[go_sem] theorem t33_7:TK g33_7:=tk
noncomputable def g33_8:=regAt Proofs.Try.f33 8
@[go_sem] theorem x33_8:XR 33 g33_8 [mvo 41 1,opo 42 (.call ⟨(.value (.func 36)),#[(.tmp 41),(.const (.int .i64 0))],#[24,3]⟩),aso 10 42]:=xk
@[go_sem] theorem t33_8:TK g33_8:=tk
noncomputable def g33_9:=regAt Proofs.Try.f33 9
@[go_sem] theorem x33_9:XR 33 g33_9 [mvo 44 1,opo 45 (.call ⟨(.value (.func 46)),#[(.tmp 44),(.const (.int .i64 0))],#[24,3]⟩),mvo 43 45,opo 46 (.extract (.tmp 43) 0),opo 47 (.extract (.tmp 43) 1),opo 11 (.alloc 44),(none,(.store 44 (.tmp 11) (.tmp 46)),none),aso 12 47]:=xk
@[go_sem] theorem t33_9:TK g33_9:=tk
noncomputable def g33_10:=regAt Proofs.Try.f33 10
@[go_sem] theorem x33_10:XR 33 g33_10 [mvo 48 1,opo 49 (.call ⟨(.value (.func 36)),#[(.tmp 48),(.const (.int .i64 0))],#[24,3]⟩),mvo 50 1,opo 51 (.call ⟨(.value (.func 38)),#[(.tmp 50)],#[24]⟩),aso 13 49,aso 14 51]:=xk
@[go_sem] theorem t33_10:TK g33_10:=tk
noncomputable def g33_11:=regAt Proofs.Try.f33 11
@[go_sem] theorem x33_11:XR 33 g33_11 [mvo 53 1,opo 54 (.call ⟨(.value (.func 35)),#[(.tmp 53),(.const (.int .i64 6)),(.const (.slice none 0 0))],#[24,3,39]⟩),mvo 52 54,opo 55 (.extract (.tmp 52) 0),opo 56 (.extract (.tmp 52) 1),aso 15 55,aso 16 56]:=xk
@[go_sem] theorem t33_11:TK g33_11:=tk
noncomputable def g33_12:=regAt Proofs.Try.f33 12
@[go_sem] theorem x33_12:XR 33 g33_12 [mvo 57 2,opo 58 (.binOp .eql 3 (.tmp 57) (.const (.int .i64 0)) 3),mvo 59 58,(some 60,(.move (.tmp 4)),some (59,true)),(some 61,(.binOp .eql 3 (.tmp 60) (.const (.int .i64 1)) 3),some (59,true)),opo 62 (.pick (.tmp 59) (.tmp 61) (.const (.bool false))),mvo 63 62,(some 64,(.move (.tmp 7)),some (63,true)),(some 65,(.binOp .eql 27 (.tmp 64) (.const (.int .i64 22)) 27),some (63,true)),opo 66 (.pick (.tmp 63) (.tmp 65) (.const (.bool false))),mvo 67 66,(some 68,(.move (.tmp 9)),some (67,true)),opo 69 (.pick (.tmp 67) (.tmp 68) (.const (.bool false))),mvo 70 69,(some 71,(.fieldAddr 44 (.tmp 8) 0),some (70,true)),(some 72,(.load 3 (.tmp 71)),some (70,true)),(some 73,(.binOp .eql 3 (.tmp 72) (.const (.int .i64 3)) 3),some (70,true)),opo 74 (.pick (.tmp 70) (.tmp 73) (.const (.bool false))),mvo 75 74,(some 76,(.fieldAddr 44 (.tmp 8) 1),some (75,true)),(some 77,(.load 3 (.tmp 76)),some (75,true)),(some 78,(.binOp .eql 3 (.tmp 77) (.const (.int .i64 0)) 3),some (75,true)),opo 79 (.pick (.tmp 75) (.tmp 78) (.const (.bool false))),mvo 80 79,(some 81,(.fieldAddr 44 (.tmp 8) 3),some (80,true)),(some 82,(.indexAddr 42 (.tmp 81) (.const (.int .i64 0))),some (80,true)),(some 83,(.load 2 (.tmp 82)),some (80,true)),(some 84,(.binOp .eql 2 (.tmp 83) (.const (.int .i64 7)) 2),some (80,true)),opo 85 (.pick (.tmp 80) (.tmp 84) (.const (.bool false))),mvo 86 85,(some 87,(.fieldAddr 44 (.tmp 8) 3),some (86,true)),(some 88,(.indexAddr 42 (.tmp 87) (.const (.int .i64 1))),some (86,true)),(some 89,(.load 2 (.tmp 88)),some (86,true)),(some 90,(.binOp .eql 2 (.tmp 89) (.const (.int .i64 0)) 2),some (86,true)),opo 91 (.pick (.tmp 86) (.tmp 90) (.const (.bool false))),mvo 92 91,(some 93,(.fieldAddr 44 (.tmp 8) 2),some (92,true)),(some 94,(.load 39 (.tmp 93)),some (92,true)),(some 95,(.call ⟨(.builtin .len),#[(.tmp 94)],#[39]⟩),some (92,true)),(some 96,(.binOp .eql 3 (.tmp 95) (.const (.int .i64 0)) 3),some (92,true)),opo 97 (.pick (.tmp 92) (.tmp 96) (.const (.bool false))),mvo 98 97,(some 99,(.move (.tmp 10)),some (98,true)),(some 100,(.binOp .eql 27 (.tmp 99) (.const (.int .i64 0)) 27),some (98,true)),opo 101 (.pick (.tmp 98) (.tmp 100) (.const (.bool false))),mvo 102 101,(some 103,(.move (.tmp 12)),some (102,true)),(some 104,(.unOp .not 4 (.tmp 103)),some (102,true)),opo 105 (.pick (.tmp 102) (.tmp 104) (.const (.bool false))),mvo 106 105,(some 107,(.move (.tmp 13)),some (106,true)),(some 108,(.binOp .eql 27 (.tmp 107) (.const (.int .i64 24)) 27),some (106,true)),opo 109 (.pick (.tmp 106) (.tmp 108) (.const (.bool false))),mvo 110 109,(some 111,(.move (.tmp 14)),some (110,true)),(some 112,(.buildSlice 31 1 #[(0,(.const (.int .i64 1)))]),some (110,true)),(some 113,(.call ⟨(.value (.func 37)),#[(.tmp 111),(.tmp 112)],#[31,31]⟩),some (110,true)),opo 114 (.pick (.tmp 110) (.tmp 113) (.const (.bool false))),mvo 115 114,(some 116,(.move (.tmp 15)),some (115,true)),(some 117,(.binOp .eql 3 (.tmp 116) (.const (.int .i64 0)) 3),some (115,true)),opo 118 (.pick (.tmp 115) (.tmp 117) (.const (.bool false))),aso 0 118]:=xk
@[go_sem] theorem t33_12:TK g33_12:=tk
theorem b33:Proofs.Try.f33.body=some (.seq (.region 0 g33_0 false) (.seq (.region 1 g33_1 false) (.seq (.seq (.region 2 g33_2 false) (.cond (.tmp 19) (.seq (.region 3 g33_3 false) .ret) .skip)) (.seq (.region 4 g33_4 false) (.seq (.region 5 g33_5 false) (.seq (.region 6 g33_6 false) (.seq (.region 7 g33_7 false) (.seq (.region 8 g33_8 false) (.seq (.region 9 g33_9 false) (.seq (.region 10 g33_10 false) (.seq (.region 11 g33_11 false) (.seq (.region 12 g33_12 false) .ret)))))))))))):=by kernel_rfl
theorem c33{h:Hd}{ro:Nat}{H:Hp}:callB cx h ro 33 [] H=returned cx [(.tmp 0)] (ex cx h ro 33 119 (.seq (.region 0 g33_0 false) (.seq (.region 1 g33_1 false) (.seq (.seq (.region 2 g33_2 false) (.cond (.tmp 19) (.seq (.region 3 g33_3 false) .ret) .skip)) (.seq (.region 4 g33_4 false) (.seq (.region 5 g33_5 false) (.seq (.region 6 g33_6 false) (.seq (.region 7 g33_7 false) (.seq (.region 8 g33_8 false) (.seq (.region 9 g33_9 false) (.seq (.region 10 g33_10 false) (.seq (.region 11 g33_11 false) (.seq (.region 12 g33_12 false) .ret)))))))))))) PT.nil H):=by
 have hf:cx.fns 33=some Proofs.Try.f33:=by kernel_rfl
 simp only[callB,hf,funced,b33,bodied]
 rfl
noncomputable def g37_0:=regAt Proofs.Try.f37 0
@[go_sem] theorem x37_0:XR 37 g37_0 [opo 4 (.assign (.const (.bool false)))]:=xk
@[go_sem] theorem t37_0:TK g37_0:=tk
noncomputable def g37_1:=regAt Proofs.Try.f37 1
@[go_sem] theorem x37_1:XR 37 g37_1 [mvo 6 0,opo 7 (.call ⟨(.builtin .len),#[(.tmp 6)],#[31]⟩),mvo 8 1,opo 9 (.call ⟨(.builtin .len),#[(.tmp 8)],#[31]⟩),opo 10 (.binOp .neq 3 (.tmp 7) (.tmp 9) 3)]:=xk
@[go_sem] theorem t37_1:TK g37_1:=tk
noncomputable def g37_2:=regAt Proofs.Try.f37 2
@[go_sem] theorem x37_2:XR 37 g37_2 [opo 4 (.assign (.const (.bool false)))]:=xk
@[go_sem] theorem t37_2:TK g37_2:=tk
noncomputable def g37_3:=regAt Proofs.Try.f37 3
@[go_sem] theorem x37_3:XR 37 g37_3 [opo 5 (.assign (.const (.int .i64 0)))]:=xk
@[go_sem] theorem t37_3:TK g37_3:=tk
noncomputable def g37_4:=regAt Proofs.Try.f37 4
@[go_sem] theorem x37_4:XR 37 g37_4 [mvo 11 5,mvo 12 0,opo 13 (.call ⟨(.builtin .len),#[(.tmp 12)],#[31]⟩),opo 14 (.binOp .lss 3 (.tmp 11) (.tmp 13) 3)]:=xk
@[go_sem] theorem t37_4:TK g37_4:=tk
noncomputable def g37_5:=regAt Proofs.Try.f37 5
@[go_sem] theorem x37_5:XUR 37 g37_5 [(0,0,[],mvo 17 0),(1,0,[0],mvo 18 5),(2,0,[],iao 19 31 17 18),(3,0,[],ldo 20 3 19),(4,0,[0,1,2,3],mvo 21 1),(5,0,[0,1,2,3,4],mvo 22 5),(6,0,[0,1,2,3],iao 23 31 21 22),(7,0,[0,1,2,3],ldo 24 3 23),(8,0,[],opo 25 (.binOp .neq 3 (.tmp 20) (.tmp 24) 3))] 0:=xuk
@[go_sem] theorem t37_5:TK g37_5:=tk
noncomputable def g37_6:=regAt Proofs.Try.f37 6
@[go_sem] theorem x37_6:XR 37 g37_6 [opo 4 (.assign (.const (.bool false)))]:=xk
@[go_sem] theorem t37_6:TK g37_6:=tk
noncomputable def g37_7:=regAt Proofs.Try.f37 7
@[go_sem] theorem x37_7:XR 37 g37_7 [mvo 15 5,opo 16 (.binOp .add 3 (.tmp 15) (.const (.int .i64 1)) 3),aso 5 16]:=xk
@[go_sem] theorem t37_7:TK g37_7:=tk
noncomputable def g37_8:=regAt Proofs.Try.f37 8
@[go_sem] theorem x37_8:XR 37 g37_8 [opo 4 (.assign (.const (.bool true)))]:=xk
@[go_sem] theorem t37_8:TK g37_8:=tk
noncomputable def l37_0:Code:=(.seq (.seq (.region 4 g37_4 false) (.cond (.tmp 14) .skip (.exit 0))) (.seq (.block 1 (.seq (.region 6 g37_5 true) (.cond (.tmp 25) (.seq (.region 7 g37_6 false) .ret) .skip))) (.region 5 g37_7 false)))
theorem dl37_0{ro nt:Nat}{fr:PT}{H:Hp}:(den cx).loop ro 37 nt l37_0 fr H=xbind (ex cx (den cx) ro 37 nt (.seq (.seq (.region 4 g37_4 false) (.cond (.tmp 14) .skip (.exit 0))) (.seq (.block 1 (.seq (.region 6 g37_5 true) (.cond (.tmp 25) (.seq (.region 7 g37_6 false) .ret) .skip))) (.region 5 g37_7 false))) fr H) (contR (trimmed ((den cx).loop ro 37 nt l37_0) H.length)):=den_loop_x l37_0
theorem b37:Proofs.Try.f37.body=some (.seq (.region 0 g37_0 false) (.seq (.seq (.region 1 g37_1 false) (.cond (.tmp 10) (.seq (.region 2 g37_2 false) .ret) .skip)) (.seq (.seq (.region 3 g37_3 false) (.block 0 (.loop l37_0))) (.seq (.region 8 g37_8 false) .ret)))):=by kernel_rfl
theorem c37{h:Hd}{ro:Nat}{H:Hp}(a0 a1:AV):callB cx h ro 37 [a0,a1] H=returned cx [(.tmp 4)] (ex cx h ro 37 26 (.seq (.region 0 g37_0 false) (.seq (.seq (.region 1 g37_1 false) (.cond (.tmp 10) (.seq (.region 2 g37_2 false) .ret) .skip)) (.seq (.seq (.region 3 g37_3 false) (.block 0 (.loop l37_0))) (.seq (.region 8 g37_8 false) .ret)))) ((PT.nil.set 0 (drp a0)).set 1 (drp a1)) H):=by
 have hf:cx.fns 37=some Proofs.Try.f37:=by kernel_rfl
 simp only[callB,hf,funced,b37,bodied]
 rfl
noncomputable def g115_0:=regAt Proofs.Try.f115 0
@[go_sem] theorem x115_0:XR 115 g115_0 [opo 4 (.assign (.const (.bool false)))]:=xk
@[go_sem] theorem t115_0:TK g115_0:=tk
noncomputable def g115_1:=regAt Proofs.Try.f115 1
@[go_sem] theorem x115_1:XR 115 g115_1 [mvo 6 0,opo 7 (.call ⟨(.builtin .len),#[(.tmp 6)],#[39]⟩),mvo 8 1,opo 9 (.call ⟨(.builtin .len),#[(.tmp 8)],#[39]⟩),opo 10 (.binOp .neq 3 (.tmp 7) (.tmp 9) 3)]:=xk
@[go_sem] theorem t115_1:TK g115_1:=tk
noncomputable def g115_2:=regAt Proofs.Try.f115 2
@[go_sem] theorem x115_2:XR 115 g115_2 [opo 4 (.assign (.const (.bool false)))]:=xk
@[go_sem] theorem t115_2:TK g115_2:=tk
noncomputable def g115_3:=regAt Proofs.Try.f115 3
@[go_sem] theorem x115_3:XR 115 g115_3 [opo 5 (.assign (.const (.int .i64 0)))]:=xk
@[go_sem] theorem t115_3:TK g115_3:=tk
noncomputable def g115_4:=regAt Proofs.Try.f115 4
@[go_sem] theorem x115_4:XR 115 g115_4 [mvo 11 5,mvo 12 0,opo 13 (.call ⟨(.builtin .len),#[(.tmp 12)],#[39]⟩),opo 14 (.binOp .lss 3 (.tmp 11) (.tmp 13) 3)]:=xk
@[go_sem] theorem t115_4:TK g115_4:=tk
noncomputable def g115_5:=regAt Proofs.Try.f115 5
@[go_sem] theorem x115_5:XUR 115 g115_5 [(0,0,[],mvo 17 0),(1,0,[0],mvo 18 5),(2,0,[],iao 19 39 17 18),(3,0,[],ldo 20 2 19),(4,0,[0,1,2,3],mvo 21 1),(5,0,[0,1,2,3,4],mvo 22 5),(6,0,[0,1,2,3],iao 23 39 21 22),(7,0,[0,1,2,3],ldo 24 2 23),(8,0,[],opo 25 (.binOp .neq 2 (.tmp 20) (.tmp 24) 2))] 0:=xuk
@[go_sem] theorem t115_5:TK g115_5:=tk
noncomputable def g115_6:=regAt Proofs.Try.f115 6
@[go_sem] theorem x115_6:XR 115 g115_6 [opo 4 (.assign (.const (.bool false)))]:=xk
@[go_sem] theorem t115_6:TK g115_6:=tk
noncomputable def g115_7:=regAt Proofs.Try.f115 7
@[go_sem] theorem x115_7:XR 115 g115_7 [mvo 15 5,opo 16 (.binOp .add 3 (.tmp 15) (.const (.int .i64 1)) 3),aso 5 16]:=xk
@[go_sem] theorem t115_7:TK g115_7:=tk
noncomputable def g115_8:=regAt Proofs.Try.f115 8
@[go_sem] theorem x115_8:XR 115 g115_8 [opo 4 (.assign (.const (.bool true)))]:=xk
@[go_sem] theorem t115_8:TK g115_8:=tk
noncomputable def l115_0:Code:=(.seq (.seq (.region 4 g115_4 false) (.cond (.tmp 14) .skip (.exit 0))) (.seq (.block 1 (.seq (.region 6 g115_5 true) (.cond (.tmp 25) (.seq (.region 7 g115_6 false) .ret) .skip))) (.region 5 g115_7 false)))
theorem dl115_0{ro nt:Nat}{fr:PT}{H:Hp}:(den cx).loop ro 115 nt l115_0 fr H=xbind (ex cx (den cx) ro 115 nt (.seq (.seq (.region 4 g115_4 false) (.cond (.tmp 14) .skip (.exit 0))) (.seq (.block 1 (.seq (.region 6 g115_5 true) (.cond (.tmp 25) (.seq (.region 7 g115_6 false) .ret) .skip))) (.region 5 g115_7 false))) fr H) (contR (trimmed ((den cx).loop ro 115 nt l115_0) H.length)):=den_loop_x l115_0
theorem b115:Proofs.Try.f115.body=some (.seq (.region 0 g115_0 false) (.seq (.seq (.region 1 g115_1 false) (.cond (.tmp 10) (.seq (.region 2 g115_2 false) .ret) .skip)) (.seq (.seq (.region 3 g115_3 false) (.block 0 (.loop l115_0))) (.seq (.region 8 g115_8 false) .ret)))):=by kernel_rfl
theorem c115{h:Hd}{ro:Nat}{H:Hp}(a0 a1:AV):callB cx h ro 115 [a0,a1] H=returned cx [(.tmp 4)] (ex cx h ro 115 26 (.seq (.region 0 g115_0 false) (.seq (.seq (.region 1 g115_1 false) (.cond (.tmp 10) (.seq (.region 2 g115_2 false) .ret) .skip)) (.seq (.seq (.region 3 g115_3 false) (.block 0 (.loop l115_0))) (.seq (.region 8 g115_8 false) .ret)))) ((PT.nil.set 0 (drp a0)).set 1 (drp a1)) H):=by
 have hf:cx.fns 115=some Proofs.Try.f115:=by kernel_rfl
 simp only[callB,hf,funced,b115,bodied]
 rfl
end Go.Abs.Tab
