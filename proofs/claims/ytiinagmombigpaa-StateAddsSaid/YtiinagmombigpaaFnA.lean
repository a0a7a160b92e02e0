/- Codes of this seat's functions, their regions step by step. (Printed by a program.) -/
import Derived.Test.YtiinagmombigpaaEvY
set_option linter.unnecessarySimpa false
set_option linter.unusedSimpArgs false
set_option linter.unusedVariables false
namespace Go.Abs.Tab
abbrev XR(n:FuncId)(g:Array Oper)(l:List XO):Prop:=∀ {h:Hd} {ro nt id:Nat} {fr:PT} {H:Hp},ex cx h ro n nt (.region id g false) fr H=xbind (xrun cx h ro n nt g l fr H) fun p=>some (.normal,p.1,p.2)
theorem XR.mk{n:FuncId}{g:Array Oper}{l:List XO}(hg:guardsOk g=true)(hl:strip g=l):XR n g l:=x_region l hg hl
abbrev XUR(n:FuncId)(g:Array Oper)(l:List XU)(m:Nat):Prop:=∀ {h:Hd} {ro nt id:Nat} {fr:PT} {H:Hp},ex cx h ro n nt (.region id g true) fr H=orRaw (xrunU cx h ro n nt g H.length l fr (H++List.replicate m .res) []) fun _=>regionRaw cx h ro n nt g fr H
theorem XUR.mk{n:FuncId}{g:Array Oper}{l:List XU}{m:Nat}(h1:guardsOk g=true)(h2:forward g=true)(h3:tempsOk g=true)(hl:stripU cx n g=l)(hm:(g.toList.filter (isAlloc cx n)).length=m):XUR n g l m:=x_regionU l m h1 h2 h3 hl hm
abbrev TK(g:Array Oper):Prop:=∀d:Tmp,takes g d=false
abbrev mvo(d t:Tmp):XO:=(some d,.move (.tmp t),none)
abbrev fao(d t a i:Nat):XO:=(some d,.fieldAddr t (.tmp a) i,none)
abbrev ldo(d t a:Nat):XO:=(some d,.load t (.tmp a),none)
abbrev aso(d a:Nat):XO:=(some d,.assign (.tmp a),none)
abbrev iao(d t a i:Nat):XO:=(some d,.indexAddr t (.tmp a) (.tmp i),none)
abbrev opo(d:Tmp)(x:Op):XO:=(some d,x,none)
theorem xk{n:FuncId}{g:Array Oper}{l:List XO}(hg:guardsOk g=true:=by kernel_rfl)(hl:strip g=l:=by kernel_rfl):XR n g l:=x_region l hg hl
theorem xuk{n:FuncId}{g:Array Oper}{l:List XU}{m:Nat}(h1:guardsOk g=true:=by kernel_rfl)(h2:forward g=true:=by kernel_rfl)(h3:tempsOk g=true:=by kernel_rfl)(hl:stripU cx n g=l:=by kernel_rfl)(hm:(g.toList.filter (isAlloc cx n)).length=m:=by kernel_rfl):XUR n g l m:=x_regionU l m h1 h2 h3 hl hm
theorem tk{g:Array Oper}(h:∀d:Tmp,takes g d=false:=by (intro _;kernel_rfl)):TK g:=h
noncomputable def g130_0:=regAt Proofs.Try.f130 0
@[go_sem] theorem x130_0:XR 130 g130_0 [opo 2 (.assign (.const (.int .i64 0)))]:=xk
@[go_sem] theorem t130_0:TK g130_0:=tk
noncomputable def g130_1:=regAt Proofs.Try.f130 1
@[go_sem] theorem x130_1:XR 130 g130_1 [opo 9 (.makeMap 259 none),aso 3 9]:=xk
@[go_sem] theorem t130_1:TK g130_1:=tk
noncomputable def g130_2:=regAt Proofs.Try.f130 2
@[go_sem] theorem x130_2:XR 130 g130_2 [mvo 10 0,opo 11 (.nilCheck (.tmp 10)),fao 12 220 11 0,ldo 13 56 12,opo 14 (.call ⟨(.builtin .len),#[(.tmp 13)],#[56]⟩),opo 15 (.makeSlice 31 (.tmp 14) (.tmp 14)),aso 4 15]:=xk
@[go_sem] theorem t130_2:TK g130_2:=tk
noncomputable def g130_3:=regAt Proofs.Try.f130 3
@[go_sem] theorem x130_3:XR 130 g130_3 [mvo 16 0,opo 17 (.nilCheck (.tmp 16)),fao 18 220 17 0,ldo 19 56 18,opo 20 (.call ⟨(.builtin .len),#[(.tmp 19)],#[56]⟩),opo 21 (.move (.const (.int .i64 0)))]:=xk
@[go_sem] theorem t130_3:TK g130_3:=tk
noncomputable def g130_4:=regAt Proofs.Try.f130 4
@[go_sem] theorem x130_4:XR 130 g130_4 [opo 22 (.binOp .lss 3 (.tmp 21) (.tmp 20) 3)]:=xk
@[go_sem] theorem t130_4:TK g130_4:=tk
noncomputable def g130_5:=regAt Proofs.Try.f130 5
@[go_sem] theorem x130_5:XR 130 g130_5 [mvo 23 21,aso 5 23]:=xk
@[go_sem] theorem t130_5:TK g130_5:=tk
noncomputable def g130_6:=regAt Proofs.Try.f130 6
@[go_sem] theorem x130_6:XR 130 g130_6 [mvo 24 0,mvo 25 5,opo 26 (.call ⟨(.value (.func 161)),#[(.tmp 24),(.tmp 25)],#[218,3]⟩),opo 6 (.alloc 262),(none,(.store 262 (.tmp 6) (.tmp 26)),none)]:=xk
@[go_sem] theorem t130_6:TK g130_6:=tk
noncomputable def g130_7:=regAt Proofs.Try.f130 7
@[go_sem] theorem x130_7:XR 130 g130_7 [mvo 28 3,ldo 29 262 6,opo 30 (.lookup 259 (.tmp 28) (.tmp 29) true),mvo 27 30,opo 31 (.extract (.tmp 27) 0),opo 32 (.extract (.tmp 27) 1),aso 7 31,aso 8 32]:=xk
@[go_sem] theorem t130_7:TK g130_7:=tk
noncomputable def g130_8:=regAt Proofs.Try.f130 8
@[go_sem] theorem x130_8:XR 130 g130_8 [mvo 33 8,opo 34 (.unOp .not 4 (.tmp 33))]:=xk
@[go_sem] theorem t130_8:TK g130_8:=tk
noncomputable def g130_9:=regAt Proofs.Try.f130 9
@[go_sem] theorem x130_9:XR 130 g130_9 [mvo 35 3,opo 36 (.call ⟨(.builtin .len),#[(.tmp 35)],#[259]⟩),aso 7 36]:=xk
@[go_sem] theorem t130_9:TK g130_9:=tk
noncomputable def g130_10:=regAt Proofs.Try.f130 10
@[go_sem] theorem x130_10:XR 130 g130_10 [mvo 37 3,ldo 38 262 6,mvo 39 7,(none,(.mapUpdate 259 (.tmp 37) (.tmp 38) (.tmp 39)),none)]:=xk
@[go_sem] theorem t130_10:TK g130_10:=tk
noncomputable def g130_11:=regAt Proofs.Try.f130 11
@[go_sem] theorem x130_11:XR 130 g130_11 [mvo 40 4,mvo 41 5,mvo 42 7,iao 43 31 40 41,(none,(.store 3 (.tmp 43) (.tmp 42)),none)]:=xk
@[go_sem] theorem t130_11:TK g130_11:=tk
noncomputable def g130_12:=regAt Proofs.Try.f130 12
@[go_sem] theorem x130_12:XR 130 g130_12 [opo 44 (.binOp .add 3 (.tmp 21) (.const (.int .i64 1)) 3),mvo 21 44]:=xk
@[go_sem] theorem t130_12:TK g130_12:=tk
noncomputable def g130_13:=regAt Proofs.Try.f130 13
@[go_sem] theorem x130_13:XR 130 g130_13 [mvo 45 0,mvo 46 4,opo 47 (.nilCheck (.tmp 45)),fao 48 220 47 2,(none,(.store 31 (.tmp 48) (.tmp 46)),none)]:=xk
@[go_sem] theorem t130_13:TK g130_13:=tk
noncomputable def g130_14:=regAt Proofs.Try.f130 14
@[go_sem] theorem x130_14:XR 130 g130_14 [mvo 49 3,opo 50 (.call ⟨(.builtin .len),#[(.tmp 49)],#[259]⟩),aso 2 50]:=xk
@[go_sem] theorem t130_14:TK g130_14:=tk
noncomputable def l130_0:Code:=(.seq (.region 4 g130_4 false) (.seq (.cond (.tmp 22) .skip (.exit 0)) (.seq (.block 1 (.seq (.region 5 g130_5 false) (.seq (.region 6 g130_6 false) (.seq (.region 7 g130_7 false) (.seq (.seq (.region 8 g130_8 false) (.cond (.tmp 34) (.seq (.region 9 g130_9 false) (.region 10 g130_10 false)) .skip)) (.region 11 g130_11 false)))))) (.region 12 g130_12 false))))
theorem dl130_0{ro nt:Nat}{fr:PT}{H:Hp}:(den cx).loop ro 130 nt l130_0 fr H=xbind (ex cx (den cx) ro 130 nt (.seq (.region 4 g130_4 false) (.seq (.cond (.tmp 22) .skip (.exit 0)) (.seq (.block 1 (.seq (.region 5 g130_5 false) (.seq (.region 6 g130_6 false) (.seq (.region 7 g130_7 false) (.seq (.seq (.region 8 g130_8 false) (.cond (.tmp 34) (.seq (.region 9 g130_9 false) (.region 10 g130_10 false)) .skip)) (.region 11 g130_11 false)))))) (.region 12 g130_12 false)))) fr H) (contR (trimmed ((den cx).loop ro 130 nt l130_0) H.length)):=den_loop_x l130_0
theorem b130:Proofs.Try.f130.body=some (.seq (.region 0 g130_0 false) (.seq (.region 1 g130_1 false) (.seq (.region 2 g130_2 false) (.seq (.seq (.region 3 g130_3 false) (.block 0 (.loop l130_0))) (.seq (.region 13 g130_13 false) (.seq (.region 14 g130_14 false) .ret)))))):=by kernel_rfl
theorem c130{h:Hd}{ro:Nat}{H:Hp}(a0:AV):callB cx h ro 130 [a0] H=returned cx [(.tmp 2)] (ex cx h ro 130 51 (.seq (.region 0 g130_0 false) (.seq (.region 1 g130_1 false) (.seq (.region 2 g130_2 false) (.seq (.seq (.region 3 g130_3 false) (.block 0 (.loop l130_0))) (.seq (.region 13 g130_13 false) (.seq (.region 14 g130_14 false) .ret)))))) (PT.nil.set 0 (drp a0)) H):=by
 have hf:cx.fns 130=some Proofs.Try.f130:=by kernel_rfl
 simp only[callB,hf,funced,b130,bodied]
 rfl
noncomputable def g131_0:=regAt Proofs.Try.f131 0
@[go_sem] theorem x131_0:XR 131 g131_0 [opo 6 (.alloc 111)]:=xk
@[go_sem] theorem t131_0:TK g131_0:=tk
noncomputable def g131_1:=regAt Proofs.Try.f131 1
@[go_sem] theorem x131_1:XR 131 g131_1 [mvo 10 0,mvo 11 1,opo 12 (.call ⟨(.value (.func 161)),#[(.tmp 10),(.tmp 11)],#[218,3]⟩),opo 7 (.alloc 262),(none,(.store 262 (.tmp 7) (.tmp 12)),none)]:=xk
@[go_sem] theorem t131_1:TK g131_1:=tk
noncomputable def g131_2:=regAt Proofs.Try.f131 2
@[go_sem] theorem x131_2:XR 131 g131_2 [fao 13 262 7 0,ldo 14 3 13,mvo 15 2,fao 16 262 7 1,ldo 17 4 16,fao 18 262 7 3,opo 19 (.indexAddr 260 (.tmp 18) (.const (.int .i64 8))),ldo 20 108 19,opo 21 (.build 111 #[(0,(.tmp 14)),(1,(.tmp 15)),(2,(.tmp 17)),(3,(.tmp 20))]),opo 8 (.alloc 111),(none,(.store 111 (.tmp 8) (.tmp 21)),none)]:=xk
@[go_sem] theorem t131_2:TK g131_2:=tk
noncomputable def g131_3:=regAt Proofs.Try.f131 3
@[go_sem] theorem x131_3:XR 131 g131_3 [fao 22 262 7 2,ldo 23 3 22,opo 24 (.move (.const (.int .i64 0)))]:=xk
@[go_sem] theorem t131_3:TK g131_3:=tk
noncomputable def g131_4:=regAt Proofs.Try.f131 4
@[go_sem] theorem x131_4:XR 131 g131_4 [opo 25 (.binOp .lss 3 (.tmp 24) (.tmp 23) 3)]:=xk
@[go_sem] theorem t131_4:TK g131_4:=tk
noncomputable def g131_5:=regAt Proofs.Try.f131 5
@[go_sem] theorem x131_5:XR 131 g131_5 [mvo 26 24,aso 9 26]:=xk
@[go_sem] theorem t131_5:TK g131_5:=tk
noncomputable def g131_6:=regAt Proofs.Try.f131 6
@[go_sem] theorem x131_6:XUR 131 g131_6 [(0,0,[],fao 27 111 8 4),(1,0,[],ldo 28 109 27),(2,0,[0,1],mvo 29 9),(3,0,[0,1,2],fao 30 262 7 3),(4,0,[0,1],iao 31 260 30 29),(5,0,[0,1],ldo 32 108 31),(6,0,[0,1],opo 33 (.buildSlice 109 1 #[(0,(.tmp 32))])),(7,0,[],opo 34 (.call ⟨(.builtin .append),#[(.tmp 28),(.tmp 33)],#[109,109]⟩)),(8,0,[],fao 35 111 8 4),(9,0,[],(none,(.store 109 (.tmp 35) (.tmp 34)),none))] 0:=xuk
@[go_sem] theorem t131_6_27:takes g131_6 27=false:=nk
@[go_sem] theorem t131_6_28:takes g131_6 28=true:=nk
@[go_sem] theorem t131_6_29:takes g131_6 29=false:=nk
@[go_sem] theorem t131_6_30:takes g131_6 30=false:=nk
@[go_sem] theorem t131_6_31:takes g131_6 31=false:=nk
@[go_sem] theorem t131_6_32:takes g131_6 32=false:=nk
@[go_sem] theorem t131_6_33:takes g131_6 33=false:=nk
@[go_sem] theorem t131_6_34:takes g131_6 34=false:=nk
@[go_sem] theorem t131_6_35:takes g131_6 35=false:=nk
noncomputable def g131_7:=regAt Proofs.Try.f131 7
@[go_sem] theorem x131_7:XR 131 g131_7 [opo 36 (.binOp .add 3 (.tmp 24) (.const (.int .i64 1)) 3),mvo 24 36]:=xk
@[go_sem] theorem t131_7:TK g131_7:=tk
noncomputable def g131_8:=regAt Proofs.Try.f131 8
@[go_sem] theorem x131_8:XR 131 g131_8 [ldo 37 111 8,(none,(.store 111 (.tmp 6) (.tmp 37)),none)]:=xk
@[go_sem] theorem t131_8:TK g131_8:=tk
noncomputable def l131_0:Code:=(.seq (.region 4 g131_4 false) (.seq (.cond (.tmp 25) .skip (.exit 0)) (.seq (.block 1 (.seq (.region 5 g131_5 false) (.region 6 g131_6 true))) (.region 7 g131_7 false))))
theorem dl131_0{ro nt:Nat}{fr:PT}{H:Hp}:(den cx).loop ro 131 nt l131_0 fr H=xbind (ex cx (den cx) ro 131 nt (.seq (.region 4 g131_4 false) (.seq (.cond (.tmp 25) .skip (.exit 0)) (.seq (.block 1 (.seq (.region 5 g131_5 false) (.region 6 g131_6 true))) (.region 7 g131_7 false)))) fr H) (contR (trimmed ((den cx).loop ro 131 nt l131_0) H.length)):=den_loop_x l131_0
theorem b131:Proofs.Try.f131.body=some (.seq (.region 0 g131_0 false) (.seq (.region 1 g131_1 false) (.seq (.region 2 g131_2 false) (.seq (.seq (.region 3 g131_3 false) (.block 0 (.loop l131_0))) (.seq (.region 8 g131_8 false) .ret))))):=by kernel_rfl
theorem c131{h:Hd}{ro:Nat}{H:Hp}(a0 a1 a2:AV):callB cx h ro 131 [a0,a1,a2] H=returned cx [(.cell 6 111)] (ex cx h ro 131 38 (.seq (.region 0 g131_0 false) (.seq (.region 1 g131_1 false) (.seq (.region 2 g131_2 false) (.seq (.seq (.region 3 g131_3 false) (.block 0 (.loop l131_0))) (.seq (.region 8 g131_8 false) .ret))))) (((PT.nil.set 0 (drp a0)).set 1 (drp a1)).set 2 (drp a2)) H):=by
 have hf:cx.fns 131=some Proofs.Try.f131:=by kernel_rfl
 simp only[callB,hf,funced,b131,bodied]
 rfl
noncomputable def g161_0:=regAt Proofs.Try.f161 0
@[go_sem] theorem x161_0:XR 161 g161_0 [opo 4 (.alloc 262)]:=xk
@[go_sem] theorem t161_0:TK g161_0:=tk
noncomputable def g161_1:=regAt Proofs.Try.f161 1
@[go_sem] theorem x161_1:XUR 161 g161_1 [(0,0,[],mvo 8 0),(1,0,[],opo 9 (.nilCheck (.tmp 8))),(2,0,[],fao 10 220 9 0),(3,0,[],ldo 11 56 10),(4,0,[0,1,2,3],mvo 12 0),(5,0,[0,1,2,3],opo 13 (.nilCheck (.tmp 12))),(6,0,[0,1,2,3],fao 14 220 13 1),(7,0,[0,1,2,3],ldo 15 114 14),(8,0,[0,1,2,3,4,5,6,7],mvo 16 1),(9,0,[0,1,2,3],iao 17 114 15 16),(10,0,[0,1,2,3],fao 18 61 17 0),(11,0,[0,1,2,3],ldo 19 3 18),(12,0,[],iao 20 56 11 19),(13,0,[],ldo 21 66 20),(14,0,[0,1,2,3,4,5,6,7,8,9,10,11,12,13],opo 5 (.alloc 66)),(15,1,[],(none,(.store 66 (.tmp 5) (.tmp 21)),none))] 1:=xuk
@[go_sem] theorem t161_1:TK g161_1:=tk
noncomputable def g161_2:=regAt Proofs.Try.f161 2
@[go_sem] theorem x161_2:XUR 161 g161_2 [(0,0,[],fao 22 66 5 0),(1,0,[],ldo 23 3 22),(2,0,[0,1],fao 24 66 5 2),(3,0,[0,1],ldo 25 4 24),(4,0,[0,1,2,3],fao 26 66 5 4),(5,0,[0,1,2,3],ldo 27 64 26),(6,0,[0,1,2,3],opo 28 (.call ⟨(.builtin .len),#[(.tmp 27)],#[64]⟩)),(7,0,[2,3,4,5,6],fao 29 262 4 0),(8,0,[2,3,4,5,6],(none,(.store 3 (.tmp 29) (.tmp 23)),none)),(9,0,[4,5,6],fao 30 262 4 1),(10,0,[4,5,6],(none,(.store 4 (.tmp 30) (.tmp 25)),none)),(11,0,[],fao 31 262 4 2),(12,0,[],(none,(.store 3 (.tmp 31) (.tmp 28)),none))] 0:=xuk
@[go_sem] theorem t161_2:TK g161_2:=tk
noncomputable def g161_3:=regAt Proofs.Try.f161 3
@[go_sem] theorem x161_3:XR 161 g161_3 [fao 32 66 5 4,ldo 33 64 32,opo 34 (.call ⟨(.builtin .len),#[(.tmp 33)],#[64]⟩),opo 35 (.move (.const (.int .i64 0)))]:=xk
@[go_sem] theorem t161_3:TK g161_3:=tk
noncomputable def g161_4:=regAt Proofs.Try.f161 4
@[go_sem] theorem x161_4:XR 161 g161_4 [opo 36 (.binOp .lss 3 (.tmp 35) (.tmp 34) 3)]:=xk
@[go_sem] theorem t161_4:TK g161_4:=tk
noncomputable def g161_5:=regAt Proofs.Try.f161 5
@[go_sem] theorem x161_5:XR 161 g161_5 [mvo 37 35,iao 38 64 33 35,ldo 39 63 38,opo 7 (.alloc 63),aso 6 37,(none,(.store 63 (.tmp 7) (.tmp 39)),none)]:=xk
@[go_sem] theorem t161_5:TK g161_5:=tk
noncomputable def g161_6:=regAt Proofs.Try.f161 6
@[go_sem] theorem x161_6:XR 161 g161_6 [mvo 40 6,mvo 41 0,fao 42 66 5 1,ldo 43 3 42,ldo 44 63 7,opo 45 (.call ⟨(.value (.func 176)),#[(.tmp 41),(.tmp 43),(.tmp 44)],#[218,3,63]⟩),fao 46 262 4 3,iao 47 260 46 40,(none,(.store 108 (.tmp 47) (.tmp 45)),none)]:=xk
@[go_sem] theorem t161_6:TK g161_6:=tk
noncomputable def g161_7:=regAt Proofs.Try.f161 7
@[go_sem] theorem x161_7:XR 161 g161_7 [opo 48 (.binOp .add 3 (.tmp 35) (.const (.int .i64 1)) 3),mvo 35 48]:=xk
@[go_sem] theorem t161_7:TK g161_7:=tk
noncomputable def g161_8:=regAt Proofs.Try.f161 8
@[go_sem] theorem x161_8:XR 161 g161_8 [fao 49 66 5 2,ldo 50 4 49]:=xk
@[go_sem] theorem t161_8:TK g161_8:=tk
noncomputable def g161_9:=regAt Proofs.Try.f161 9
@[go_sem] theorem x161_9:XR 161 g161_9 [mvo 51 0,fao 52 66 5 1,ldo 53 3 52,fao 54 66 5 3,ldo 55 63 54,opo 56 (.call ⟨(.value (.func 176)),#[(.tmp 51),(.tmp 53),(.tmp 55)],#[218,3,63]⟩),fao 57 262 4 3,opo 58 (.indexAddr 260 (.tmp 57) (.const (.int .i64 8))),(none,(.store 108 (.tmp 58) (.tmp 56)),none)]:=xk
@[go_sem] theorem t161_9:TK g161_9:=tk
noncomputable def g161_10:=regAt Proofs.Try.f161 10
@[go_sem] theorem x161_10:XR 161 g161_10 [ldo 59 262 4,(none,(.store 262 (.tmp 4) (.tmp 59)),none)]:=xk
@[go_sem] theorem t161_10:TK g161_10:=tk
noncomputable def l161_0:Code:=(.seq (.region 4 g161_4 false) (.seq (.cond (.tmp 36) .skip (.exit 0)) (.seq (.block 1 (.seq (.region 5 g161_5 false) (.region 6 g161_6 false))) (.region 7 g161_7 false))))
theorem dl161_0{ro nt:Nat}{fr:PT}{H:Hp}:(den cx).loop ro 161 nt l161_0 fr H=xbind (ex cx (den cx) ro 161 nt (.seq (.region 4 g161_4 false) (.seq (.cond (.tmp 36) .skip (.exit 0)) (.seq (.block 1 (.seq (.region 5 g161_5 false) (.region 6 g161_6 false))) (.region 7 g161_7 false)))) fr H) (contR (trimmed ((den cx).loop ro 161 nt l161_0) H.length)):=den_loop_x l161_0
theorem b161:Proofs.Try.f161.body=some (.seq (.region 0 g161_0 false) (.seq (.region 1 g161_1 true) (.seq (.region 2 g161_2 true) (.seq (.seq (.region 3 g161_3 false) (.block 0 (.loop l161_0))) (.seq (.seq (.region 8 g161_8 false) (.cond (.tmp 50) (.region 9 g161_9 false) .skip)) (.seq (.region 10 g161_10 false) .ret)))))):=by kernel_rfl
theorem c161{h:Hd}{ro:Nat}{H:Hp}(a0 a1:AV):callB cx h ro 161 [a0,a1] H=returned cx [(.cell 4 262)] (ex cx h ro 161 60 (.seq (.region 0 g161_0 false) (.seq (.region 1 g161_1 true) (.seq (.region 2 g161_2 true) (.seq (.seq (.region 3 g161_3 false) (.block 0 (.loop l161_0))) (.seq (.seq (.region 8 g161_8 false) (.cond (.tmp 50) (.region 9 g161_9 false) .skip)) (.seq (.region 10 g161_10 false) .ret)))))) ((PT.nil.set 0 (drp a0)).set 1 (drp a1)) H):=by
 have hf:cx.fns 161=some Proofs.Try.f161:=by kernel_rfl
 simp only[callB,hf,funced,b161,bodied]
 rfl
noncomputable def g176_0:=regAt Proofs.Try.f176 0
@[go_sem] theorem x176_0:XR 176 g176_0 [opo 5 (.box 63 (.tmp 2)),opo 6 (.alloc 108)]:=xk
@[go_sem] theorem t176_0:TK g176_0:=tk
noncomputable def g176_1:=regAt Proofs.Try.f176 1
@[go_sem] theorem x176_1:XUR 176 g176_1 [(0,0,[],mvo 9 0),(1,0,[],opo 10 (.nilCheck (.tmp 9))),(2,0,[],fao 11 220 10 1),(3,0,[],ldo 12 114 11),(4,0,[0,1,2,3],fao 13 63 5 0),(5,0,[0,1,2,3],ldo 14 3 13),(6,0,[],iao 15 114 12 14),(7,0,[],ldo 16 61 15),(8,0,[0,1,2,3,4,5,6,7],opo 7 (.alloc 61)),(9,1,[],(none,(.store 61 (.tmp 7) (.tmp 16)),none))] 1:=xuk
@[go_sem] theorem t176_1:TK g176_1:=tk
noncomputable def g176_2:=regAt Proofs.Try.f176 2
@[go_sem] theorem x176_2:XUR 176 g176_2 [(0,0,[],mvo 17 0),(1,0,[],opo 18 (.nilCheck (.tmp 17))),(2,0,[],fao 19 220 18 0),(3,0,[],ldo 20 56 19),(4,0,[0,1,2,3],fao 21 61 7 0),(5,0,[0,1,2,3],ldo 22 3 21),(6,0,[],iao 23 56 20 22),(7,0,[],ldo 24 66 23),(8,0,[0,1,2,3,4,5,6,7],opo 8 (.alloc 66)),(9,1,[],(none,(.store 66 (.tmp 8) (.tmp 24)),none))] 1:=xuk
@[go_sem] theorem t176_2:TK g176_2:=tk
noncomputable def g176_3:=regAt Proofs.Try.f176 3
@[go_sem] theorem x176_3:XR 176 g176_3 [fao 25 66 8 0,ldo 26 3 25,opo 27 (.binOp .neq 3 (.tmp 26) (.const (.int .i64 0)) 3)]:=xk
@[go_sem] theorem t176_3:TK g176_3:=tk
noncomputable def g176_4:=regAt Proofs.Try.f176 4
@[go_sem] theorem x176_4:XUR 176 g176_4 [(0,0,[],mvo 28 0),(1,0,[],opo 29 (.nilCheck (.tmp 28))),(2,0,[],fao 30 220 29 2),(3,0,[],ldo 31 31 30),(4,0,[0,1,2,3],fao 32 63 5 0),(5,0,[0,1,2,3],ldo 33 3 32),(6,0,[],iao 34 31 31 33),(7,0,[],ldo 35 3 34),(8,0,[0,1,2,3,4,5,6,7],fao 36 66 8 1),(9,0,[0,1,2,3,4,5,6,7],ldo 37 3 36),(10,0,[0,1,2,3,4,5,6,7,8,9],fao 38 61 7 1),(11,0,[0,1,2,3,4,5,6,7,8,9],ldo 39 3 38),(12,0,[0,1,2,3,4,5,6,7],opo 40 (.binOp .add 3 (.tmp 37) (.tmp 39) 3)),(13,0,[0,1,2,3,4,5,6,7,8,9,10,11,12],fao 41 63 5 1),(14,0,[0,1,2,3,4,5,6,7,8,9,10,11,12],ldo 42 3 41),(15,0,[0,1,2,3,4,5,6,7],opo 43 (.binOp .add 3 (.tmp 40) (.tmp 42) 3)),(16,0,[0,1,2,3,4,5,6,7,8,9,10,11,12,13,14,15],mvo 44 1),(17,0,[0,1,2,3,4,5,6,7],opo 45 (.binOp .sub 3 (.tmp 43) (.tmp 44) 3)),(18,0,[],opo 46 (.build 108 #[(0,(.tmp 35)),(1,(.tmp 45))])),(19,0,[],(none,(.store 108 (.tmp 6) (.tmp 46)),none))] 0:=xuk
@[go_sem] theorem t176_4:TK g176_4:=tk
noncomputable def g176_5:=regAt Proofs.Try.f176 5
@[go_sem] theorem x176_5:XUR 176 g176_5 [(0,0,[],mvo 47 0),(1,0,[],opo 48 (.nilCheck (.tmp 47))),(2,0,[],fao 49 220 48 2),(3,0,[],ldo 50 31 49),(4,0,[0,1,2,3],fao 51 63 5 0),(5,0,[0,1,2,3],ldo 52 3 51),(6,0,[],iao 53 31 50 52),(7,0,[],ldo 54 3 53),(8,0,[],opo 55 (.build 108 #[(0,(.tmp 54))])),(9,0,[],(none,(.store 108 (.tmp 6) (.tmp 55)),none))] 0:=xuk
@[go_sem] theorem t176_5:TK g176_5:=tk
theorem b176:Proofs.Try.f176.body=some (.seq (.region 0 g176_0 false) (.seq (.region 1 g176_1 true) (.seq (.seq (.region 2 g176_2 true) (.seq (.region 3 g176_3 false) (.cond (.tmp 27) (.seq (.region 4 g176_4 true) .ret) .skip))) (.seq (.region 5 g176_5 true) .ret)))):=by kernel_rfl
theorem c176{h:Hd}{ro:Nat}{H:Hp}(a0 a1 a2:AV):callB cx h ro 176 [a0,a1,a2] H=returned cx [(.cell 6 108)] (ex cx h ro 176 56 (.seq (.region 0 g176_0 false) (.seq (.region 1 g176_1 true) (.seq (.seq (.region 2 g176_2 true) (.seq (.region 3 g176_3 false) (.cond (.tmp 27) (.seq (.region 4 g176_4 true) .ret) .skip))) (.seq (.region 5 g176_5 true) .ret)))) (((PT.nil.set 0 (drp a0)).set 1 (drp a1)).set 2 (drp a2)) H):=by
 have hf:cx.fns 176=some Proofs.Try.f176:=by kernel_rfl
 simp only[callB,hf,funced,b176,bodied]
 rfl
noncomputable def g73_0:=regAt Proofs.Try.f73 0
@[go_sem] theorem x73_0:XR 73 g73_0 [opo 2 (.alloc 95),opo 3 (.assign (.const (.int .i64 0)))]:=xk
@[go_sem] theorem t73_0:TK g73_0:=tk
noncomputable def g73_1:=regAt Proofs.Try.f73 1
@[go_sem] theorem x73_1:XR 73 g73_1 [mvo 13 0,opo 14 (.call ⟨(.value (.func 67)),#[(.tmp 13)],#[56]⟩),mvo 12 14,opo 15 (.extract (.tmp 12) 0),opo 16 (.extract (.tmp 12) 1),aso 3 16]:=xk
@[go_sem] theorem t73_1:TK g73_1:=tk
noncomputable def g73_2:=regAt Proofs.Try.f73 2
@[go_sem] theorem x73_2:XR 73 g73_2 [mvo 17 3,opo 18 (.binOp .neq 27 (.tmp 17) (.const (.int .i64 0)) 27)]:=xk
@[go_sem] theorem t73_2:TK g73_2:=tk
noncomputable def g73_3:=regAt Proofs.Try.f73 3
@[go_sem] theorem x73_3:XR 73 g73_3 [ldo 19 95 2,mvo 20 3,(none,(.store 95 (.tmp 2) (.tmp 19)),none),aso 3 20]:=xk
@[go_sem] theorem t73_3:TK g73_3:=tk
noncomputable def g73_4:=regAt Proofs.Try.f73 4
@[go_sem] theorem x73_4:XR 73 g73_4 [mvo 21 0,opo 22 (.call ⟨(.value (.func 54)),#[(.tmp 21)],#[56]⟩),opo 23 (.build 220 #[(0,(.tmp 22))]),opo 24 (.box 220 (.tmp 23)),aso 4 24]:=xk
@[go_sem] theorem t73_4:TK g73_4:=tk
noncomputable def g73_5:=regAt Proofs.Try.f73 5
@[go_sem] theorem x73_5:XR 73 g73_5 [mvo 25 4,mvo 26 4,opo 27 (.nilCheck (.tmp 26)),fao 28 220 27 0,ldo 29 56 28,opo 30 (.call ⟨(.builtin .len),#[(.tmp 29)],#[56]⟩),opo 31 (.makeSlice 31 (.tmp 30) (.tmp 30)),opo 32 (.nilCheck (.tmp 25)),fao 33 220 32 2,(none,(.store 31 (.tmp 33) (.tmp 31)),none)]:=xk
@[go_sem] theorem t73_5:TK g73_5:=tk
noncomputable def g73_6:=regAt Proofs.Try.f73 6
@[go_sem] theorem x73_6:XR 73 g73_6 [mvo 34 4,opo 35 (.nilCheck (.tmp 34)),fao 36 220 35 0,ldo 37 56 36,opo 38 (.call ⟨(.builtin .len),#[(.tmp 37)],#[56]⟩),opo 39 (.move (.const (.int .i64 0)))]:=xk
@[go_sem] theorem t73_6:TK g73_6:=tk
noncomputable def g73_7:=regAt Proofs.Try.f73 7
@[go_sem] theorem x73_7:XR 73 g73_7 [opo 40 (.binOp .lss 3 (.tmp 39) (.tmp 38) 3)]:=xk
@[go_sem] theorem t73_7:TK g73_7:=tk
noncomputable def g73_8:=regAt Proofs.Try.f73 8
@[go_sem] theorem x73_8:XR 73 g73_8 [mvo 41 39,aso 5 41]:=xk
@[go_sem] theorem t73_8:TK g73_8:=tk
noncomputable def g73_9:=regAt Proofs.Try.f73 9
@[go_sem] theorem x73_9:XUR 73 g73_9 [(0,0,[],mvo 42 4),(1,0,[0],mvo 43 4),(2,0,[0],opo 44 (.nilCheck (.tmp 43))),(3,0,[0],fao 45 220 44 1),(4,0,[0],ldo 46 114 45),(5,0,[0,1,2,3,4],mvo 47 4),(6,0,[0,1,2,3,4],opo 48 (.nilCheck (.tmp 47))),(7,0,[0,1,2,3,4],fao 49 220 48 0),(8,0,[0,1,2,3,4],ldo 50 56 49),(9,0,[0,1,2,3,4,5,6,7,8],mvo 51 5),(10,0,[0,1,2,3,4,5,6,7,8],opo 52 (.build 61 #[(0,(.tmp 51))])),(11,0,[0,1,2,3,4],opo 53 (.call ⟨(.value (.func 51)),#[(.tmp 50),(.tmp 52)],#[56,61]⟩)),(12,0,[0,1,2,3,4],opo 54 (.buildSlice 114 1 #[(0,(.tmp 53))])),(13,0,[0],opo 55 (.call ⟨(.builtin .append),#[(.tmp 46),(.tmp 54)],#[114,114]⟩)),(14,0,[],opo 56 (.nilCheck (.tmp 42))),(15,0,[],fao 57 220 56 1),(16,0,[],(none,(.store 114 (.tmp 57) (.tmp 55)),none))] 0:=xuk
@[go_sem] theorem t73_9_42:takes g73_9 42=false:=nk
@[go_sem] theorem t73_9_43:takes g73_9 43=false:=nk
@[go_sem] theorem t73_9_44:takes g73_9 44=false:=nk
@[go_sem] theorem t73_9_45:takes g73_9 45=false:=nk
@[go_sem] theorem t73_9_46:takes g73_9 46=true:=nk
@[go_sem] theorem t73_9_47:takes g73_9 47=false:=nk
@[go_sem] theorem t73_9_48:takes g73_9 48=false:=nk
@[go_sem] theorem t73_9_49:takes g73_9 49=false:=nk
@[go_sem] theorem t73_9_50:takes g73_9 50=false:=nk
@[go_sem] theorem t73_9_51:takes g73_9 51=false:=nk
@[go_sem] theorem t73_9_52:takes g73_9 52=false:=nk
@[go_sem] theorem t73_9_53:takes g73_9 53=false:=nk
@[go_sem] theorem t73_9_54:takes g73_9 54=false:=nk
@[go_sem] theorem t73_9_55:takes g73_9 55=false:=nk
@[go_sem] theorem t73_9_56:takes g73_9 56=false:=nk
@[go_sem] theorem t73_9_57:takes g73_9 57=false:=nk
noncomputable def g73_10:=regAt Proofs.Try.f73 10
@[go_sem] theorem x73_10:XR 73 g73_10 [opo 58 (.binOp .add 3 (.tmp 39) (.const (.int .i64 1)) 3),mvo 39 58]:=xk
@[go_sem] theorem t73_10:TK g73_10:=tk
noncomputable def g73_11:=regAt Proofs.Try.f73 11
@[go_sem] theorem x73_11:XR 73 g73_11 [opo 6 (.assign (.const (.int .i64 0)))]:=xk
@[go_sem] theorem t73_11:TK g73_11:=tk
noncomputable def g73_12:=regAt Proofs.Try.f73 12
@[go_sem] theorem x73_12:XR 73 g73_12 [mvo 59 4,opo 60 (.call ⟨(.value (.func 130)),#[(.tmp 59)],#[218]⟩),aso 7 60]:=xk
@[go_sem] theorem t73_12:TK g73_12:=tk
noncomputable def g73_13:=regAt Proofs.Try.f73 13
@[go_sem] theorem x73_13:XR 73 g73_13 [mvo 63 7,mvo 64 6,opo 65 (.binOp .eql 3 (.tmp 63) (.tmp 64) 3),aso 62 65]:=xk
@[go_sem] theorem t73_13:TK g73_13:=tk
noncomputable def g73_14:=regAt Proofs.Try.f73 14
@[go_sem] theorem x73_14:XR 73 g73_14 [mvo 61 7,aso 6 61]:=xk
@[go_sem] theorem t73_14:TK g73_14:=tk
noncomputable def g73_15:=regAt Proofs.Try.f73 15
@[go_sem] theorem x73_15:XR 73 g73_15 [mvo 66 4,opo 67 (.nilCheck (.tmp 66)),fao 68 220 67 2,ldo 69 31 68,fao 70 95 2 1,(none,(.store 31 (.tmp 70) (.tmp 69)),none)]:=xk
@[go_sem] theorem t73_15:TK g73_15:=tk
noncomputable def g73_16:=regAt Proofs.Try.f73 16
@[go_sem] theorem x73_16:XR 73 g73_16 [mvo 71 6,opo 72 (.makeSlice 93 (.tmp 71) (.tmp 71)),fao 73 95 2 0,(none,(.store 93 (.tmp 73) (.tmp 72)),none)]:=xk
@[go_sem] theorem t73_16:TK g73_16:=tk
noncomputable def g73_17:=regAt Proofs.Try.f73 17
@[go_sem] theorem x73_17:XR 73 g73_17 [mvo 74 4,opo 75 (.nilCheck (.tmp 74)),fao 76 220 75 1,ldo 77 114 76,opo 78 (.call ⟨(.builtin .len),#[(.tmp 77)],#[114]⟩),opo 79 (.move (.const (.int .i64 0)))]:=xk
@[go_sem] theorem t73_17:TK g73_17:=tk
noncomputable def g73_18:=regAt Proofs.Try.f73 18
@[go_sem] theorem x73_18:XR 73 g73_18 [opo 80 (.binOp .lss 3 (.tmp 79) (.tmp 78) 3)]:=xk
@[go_sem] theorem t73_18:TK g73_18:=tk
noncomputable def g73_19:=regAt Proofs.Try.f73 19
@[go_sem] theorem x73_19:XR 73 g73_19 [mvo 81 79,iao 82 114 77 79,ldo 83 61 82,opo 9 (.alloc 61),aso 8 81,(none,(.store 61 (.tmp 9) (.tmp 83)),none)]:=xk
@[go_sem] theorem t73_19:TK g73_19:=tk
noncomputable def g73_20:=regAt Proofs.Try.f73 20
@[go_sem] theorem x73_20:XUR 73 g73_20 [(0,0,[],mvo 84 4),(1,0,[],opo 85 (.nilCheck (.tmp 84))),(2,0,[],fao 86 220 85 0),(3,0,[],ldo 87 56 86),(4,0,[0,1,2,3],fao 88 61 9 0),(5,0,[0,1,2,3],ldo 89 3 88),(6,0,[],iao 90 56 87 89),(7,0,[],ldo 91 66 90),(8,0,[0,1,2,3,4,5,6,7],opo 10 (.alloc 66)),(9,1,[],(none,(.store 66 (.tmp 10) (.tmp 91)),none)),(10,1,[],opo 11 (.assign (.const (.int .i64 0))))] 1:=xuk
@[go_sem] theorem t73_20:TK g73_20:=tk
noncomputable def g73_21:=regAt Proofs.Try.f73 21
@[go_sem] theorem x73_21:XR 73 g73_21 [fao 92 66 10 0,ldo 93 3 92,opo 94 (.binOp .neq 3 (.tmp 93) (.const (.int .i64 0)) 3)]:=xk
@[go_sem] theorem t73_21:TK g73_21:=tk
noncomputable def g73_22:=regAt Proofs.Try.f73 22
@[go_sem] theorem x73_22:XR 73 g73_22 [fao 95 66 10 1,ldo 96 3 95,fao 97 61 9 1,ldo 98 3 97,opo 99 (.binOp .add 3 (.tmp 96) (.tmp 98) 3),aso 11 99]:=xk
@[go_sem] theorem t73_22:TK g73_22:=tk
noncomputable def g73_23:=regAt Proofs.Try.f73 23
@[go_sem] theorem x73_23:XR 73 g73_23 [fao 100 95 2 2,ldo 101 31 100,mvo 102 11,opo 103 (.buildSlice 31 1 #[(0,(.tmp 102))]),opo 104 (.call ⟨(.builtin .append),#[(.tmp 101),(.tmp 103)],#[31,31]⟩),fao 105 95 2 2,(none,(.store 31 (.tmp 105) (.tmp 104)),none)]:=xk
@[go_sem] theorem t73_23_100:takes g73_23 100=false:=nk
@[go_sem] theorem t73_23_101:takes g73_23 101=true:=nk
@[go_sem] theorem t73_23_102:takes g73_23 102=false:=nk
@[go_sem] theorem t73_23_103:takes g73_23 103=false:=nk
@[go_sem] theorem t73_23_104:takes g73_23 104=false:=nk
@[go_sem] theorem t73_23_105:takes g73_23 105=false:=nk
noncomputable def g73_24:=regAt Proofs.Try.f73 24
@[go_sem] theorem x73_24:XUR 73 g73_24 [(0,0,[],fao 106 95 2 0),(1,0,[],ldo 107 93 106),(2,0,[0,1],mvo 108 4),(3,0,[0,1],opo 109 (.nilCheck (.tmp 108))),(4,0,[0,1],fao 110 220 109 2),(5,0,[0,1],ldo 111 31 110),(6,0,[0,1,2,3,4,5],mvo 112 8),(7,0,[0,1],iao 113 31 111 112),(8,0,[0,1],ldo 114 3 113),(9,0,[0,1,2,3,4,5,6,7,8],mvo 115 4),(10,0,[0,1,2,3,4,5,6,7,8,9],mvo 116 8),(11,0,[0,1,2,3,4,5,6,7,8,9,10],mvo 117 4),(12,0,[0,1,2,3,4,5,6,7,8,9,10],opo 118 (.nilCheck (.tmp 117))),(13,0,[0,1,2,3,4,5,6,7,8,9,10],fao 119 220 118 2),(14,0,[0,1,2,3,4,5,6,7,8,9,10],ldo 120 31 119),(15,0,[0,1,2,3,4,5,6,7,8,9,10,11,12,13,14],mvo 121 8),(16,0,[0,1,2,3,4,5,6,7,8,9,10,11,12,13,14,15],mvo 122 0),(17,0,[0,1,2,3,4,5,6,7,8,9,10,11,12,13,14,15],opo 123 (.call ⟨(.builtin .len),#[(.tmp 122)],#[56]⟩)),(18,0,[0,1,2,3,4,5,6,7,8,9,10,11,12,13,14],opo 124 (.binOp .add 3 (.tmp 121) (.tmp 123) 3)),(19,0,[0,1,2,3,4,5,6,7,8,9,10,11,12,13,14,15,16,17,18],mvo 125 4),(20,0,[0,1,2,3,4,5,6,7,8,9,10,11,12,13,14,15,16,17,18],opo 126 (.nilCheck (.tmp 125))),(21,0,[0,1,2,3,4,5,6,7,8,9,10,11,12,13,14,15,16,17,18],fao 127 220 126 0),(22,0,[0,1,2,3,4,5,6,7,8,9,10,11,12,13,14,15,16,17,18],ldo 128 56 127),(23,0,[0,1,2,3,4,5,6,7,8,9,10,11,12,13,14,15,16,17,18],opo 129 (.call ⟨(.builtin .len),#[(.tmp 128)],#[56]⟩)),(24,0,[0,1,2,3,4,5,6,7,8,9,10,11,12,13,14],opo 130 (.binOp .rem 3 (.tmp 124) (.tmp 129) 3)),(25,0,[0,1,2,3,4,5,6,7,8,9,10],iao 131 31 120 130),(26,0,[0,1,2,3,4,5,6,7,8,9,10],ldo 132 3 131),(27,0,[0,1,2,3,4,5,6,7,8],opo 133 (.call ⟨(.value (.func 131)),#[(.tmp 115),(.tmp 116),(.tmp 132)],#[218,3,3]⟩)),(28,0,[],iao 134 93 107 114),(29,0,[],(none,(.store 111 (.tmp 134) (.tmp 133)),none))] 0:=xuk
@[go_sem] theorem t73_24:TK g73_24:=tk
noncomputable def g73_25:=regAt Proofs.Try.f73 25
@[go_sem] theorem x73_25:XR 73 g73_25 [opo 135 (.binOp .add 3 (.tmp 79) (.const (.int .i64 1)) 3),mvo 79 135]:=xk
@[go_sem] theorem t73_25:TK g73_25:=tk
noncomputable def g73_26:=regAt Proofs.Try.f73 26
@[go_sem] theorem x73_26:XR 73 g73_26 [ldo 136 95 2,(none,(.store 95 (.tmp 2) (.tmp 136)),none),opo 3 (.assign (.const (.int .i64 0)))]:=xk
@[go_sem] theorem t73_26:TK g73_26:=tk
noncomputable def l73_0:Code:=(.seq (.region 7 g73_7 false) (.seq (.cond (.tmp 40) .skip (.exit 0)) (.seq (.block 1 (.seq (.region 8 g73_8 false) (.region 9 g73_9 true))) (.region 10 g73_10 false))))
theorem dl73_0{ro nt:Nat}{fr:PT}{H:Hp}:(den cx).loop ro 73 nt l73_0 fr H=xbind (ex cx (den cx) ro 73 nt (.seq (.region 7 g73_7 false) (.seq (.cond (.tmp 40) .skip (.exit 0)) (.seq (.block 1 (.seq (.region 8 g73_8 false) (.region 9 g73_9 true))) (.region 10 g73_10 false)))) fr H) (contR (trimmed ((den cx).loop ro 73 nt l73_0) H.length)):=den_loop_x l73_0
noncomputable def l73_1:Code:=(.block 3 (.seq (.region 12 g73_12 false) (.block 4 (.seq (.region 14 g73_13 false) (.cond (.tmp 62) (.exit 2) (.region 13 g73_14 false))))))
theorem dl73_1{ro nt:Nat}{fr:PT}{H:Hp}:(den cx).loop ro 73 nt l73_1 fr H=xbind (ex cx (den cx) ro 73 nt (.block 3 (.seq (.region 12 g73_12 false) (.block 4 (.seq (.region 14 g73_13 false) (.cond (.tmp 62) (.exit 2) (.region 13 g73_14 false)))))) fr H) (contR (trimmed ((den cx).loop ro 73 nt l73_1) H.length)):=den_loop_x l73_1
noncomputable def l73_2:Code:=(.seq (.region 18 g73_18 false) (.seq (.cond (.tmp 80) .skip (.exit 5)) (.seq (.block 6 (.seq (.region 19 g73_19 false) (.seq (.region 20 g73_20 true) (.seq (.seq (.region 21 g73_21 false) (.cond (.tmp 94) (.region 22 g73_22 false) .skip)) (.seq (.region 23 g73_23 false) (.region 24 g73_24 true)))))) (.region 25 g73_25 false))))
theorem dl73_2{ro nt:Nat}{fr:PT}{H:Hp}:(den cx).loop ro 73 nt l73_2 fr H=xbind (ex cx (den cx) ro 73 nt (.seq (.region 18 g73_18 false) (.seq (.cond (.tmp 80) .skip (.exit 5)) (.seq (.block 6 (.seq (.region 19 g73_19 false) (.seq (.region 20 g73_20 true) (.seq (.seq (.region 21 g73_21 false) (.cond (.tmp 94) (.region 22 g73_22 false) .skip)) (.seq (.region 23 g73_23 false) (.region 24 g73_24 true)))))) (.region 25 g73_25 false)))) fr H) (contR (trimmed ((den cx).loop ro 73 nt l73_2) H.length)):=den_loop_x l73_2
theorem b73:Proofs.Try.f73.body=some (.seq (.region 0 g73_0 false) (.scope (.seq (.seq (.region 1 g73_1 false) (.seq (.region 2 g73_2 false) (.cond (.tmp 18) (.seq (.region 3 g73_3 false) .ret) .skip))) (.seq (.region 4 g73_4 false) (.seq (.region 5 g73_5 false) (.seq (.seq (.region 6 g73_6 false) (.block 0 (.loop l73_0))) (.seq (.region 11 g73_11 false) (.seq (.label 0) (.seq (.block 2 (.loop l73_1)) (.seq (.region 15 g73_15 false) (.seq (.region 16 g73_16 false) (.seq (.seq (.region 17 g73_17 false) (.block 5 (.loop l73_2))) (.seq (.region 26 g73_26 false) .ret))))))))))))):=by kernel_rfl
theorem c73{h:Hd}{ro:Nat}{H:Hp}(a0:AV):callB cx h ro 73 [a0] H=returned cx [(.cell 2 95),(.tmp 3)] (ex cx h ro 73 137 (.seq (.region 0 g73_0 false) (.scope (.seq (.seq (.region 1 g73_1 false) (.seq (.region 2 g73_2 false) (.cond (.tmp 18) (.seq (.region 3 g73_3 false) .ret) .skip))) (.seq (.region 4 g73_4 false) (.seq (.region 5 g73_5 false) (.seq (.seq (.region 6 g73_6 false) (.block 0 (.loop l73_0))) (.seq (.region 11 g73_11 false) (.seq (.label 0) (.seq (.block 2 (.loop l73_1)) (.seq (.region 15 g73_15 false) (.seq (.region 16 g73_16 false) (.seq (.seq (.region 17 g73_17 false) (.block 5 (.loop l73_2))) (.seq (.region 26 g73_26 false) .ret))))))))))))) (PT.nil.set 0 (drp a0)) H):=by
 have hf:cx.fns 73=some Proofs.Try.f73:=by kernel_rfl
 simp only[callB,hf,funced,b73,bodied]
 rfl
noncomputable def g118_0:=regAt Proofs.Try.f118 0
@[go_sem] theorem x118_0:XR 118 g118_0 [opo 4 (.assign (.const (.bool false)))]:=xk
@[go_sem] theorem t118_0:TK g118_0:=tk
noncomputable def g118_1:=regAt Proofs.Try.f118 1
@[go_sem] theorem x118_1:XR 118 g118_1 [mvo 5 0,opo 6 (.binOp .geq 3 (.tmp 5) (.const (.int .i64 0)) 3),mvo 7 6,(some 8,(.move (.tmp 0)),some (7,true)),(some 9,(.move (.tmp 1)),some (7,true)),(some 10,(.binOp .leq 3 (.tmp 8) (.tmp 9) 3),some (7,true)),opo 11 (.pick (.tmp 7) (.tmp 10) (.const (.bool false))),aso 4 11]:=xk
@[go_sem] theorem t118_1:TK g118_1:=tk
theorem b118:Proofs.Try.f118.body=some (.seq (.region 0 g118_0 false) (.seq (.region 1 g118_1 false) .ret)):=by kernel_rfl
theorem c118{h:Hd}{ro:Nat}{H:Hp}(a0 a1:AV):callB cx h ro 118 [a0,a1] H=returned cx [(.tmp 4)] (ex cx h ro 118 12 (.seq (.region 0 g118_0 false) (.seq (.region 1 g118_1 false) .ret)) ((PT.nil.set 0 (drp a0)).set 1 (drp a1)) H):=by
 have hf:cx.fns 118=some Proofs.Try.f118:=by kernel_rfl
 simp only[callB,hf,funced,b118,bodied]
 rfl
noncomputable def g116_0:=regAt Proofs.Try.f116 0
@[go_sem] theorem x116_0:XR 116 g116_0 [opo 1 (.box 66 (.tmp 0)),opo 2 (.assign (.const (.bool false)))]:=xk
@[go_sem] theorem t116_0:TK g116_0:=tk
noncomputable def g116_1:=regAt Proofs.Try.f116 1
@[go_sem] theorem x116_1:XR 116 g116_1 [fao 5 66 1 0,ldo 6 3 5,opo 7 (.call ⟨(.value (.func 118)),#[(.tmp 6),(.const (.int .i64 5))],#[3,3]⟩),opo 8 (.unOp .not 4 (.tmp 7))]:=xk
@[go_sem] theorem t116_1:TK g116_1:=tk
noncomputable def g116_2:=regAt Proofs.Try.f116 2
@[go_sem] theorem x116_2:XR 116 g116_2 [opo 2 (.assign (.const (.bool false)))]:=xk
@[go_sem] theorem t116_2:TK g116_2:=tk
noncomputable def g116_3:=regAt Proofs.Try.f116 3
@[go_sem] theorem x116_3:XUR 116 g116_3 [(0,0,[],opo 9 (.call ⟨(.value (.func 152)),#[],#[]⟩)),(1,0,[0],fao 10 66 1 0),(2,0,[0],ldo 11 3 10),(3,0,[],opo 12 (.index 249 (.tmp 9) (.tmp 11))),(4,0,[0,1,2,3],opo 3 (.alloc 248)),(5,1,[],(none,(.store 248 (.tmp 3) (.tmp 12)),none))] 1:=xuk
@[go_sem] theorem t116_3:TK g116_3:=tk
noncomputable def g116_4:=regAt Proofs.Try.f116 4
@[go_sem] theorem x116_4:XR 116 g116_4 [opo 4 (.assign (.func 153))]:=xk
@[go_sem] theorem t116_4:TK g116_4:=tk
noncomputable def g116_5:=regAt Proofs.Try.f116 5
@[go_sem] theorem x116_5:XR 116 g116_5 [fao 14 66 1 4,ldo 15 64 14,opo 16 (.call ⟨(.builtin .len),#[(.tmp 15)],#[64]⟩),fao 17 248 3 0,ldo 18 3 17,opo 19 (.binOp .lss 3 (.tmp 16) (.tmp 18) 3),mvo 20 19,(some 21,(.fieldAddr 66 (.tmp 1) 4),some (20,false)),(some 22,(.load 64 (.tmp 21)),some (20,false)),(some 23,(.call ⟨(.builtin .len),#[(.tmp 22)],#[64]⟩),some (20,false)),(some 24,(.fieldAddr 248 (.tmp 3) 1),some (20,false)),(some 25,(.load 3 (.tmp 24)),some (20,false)),(some 26,(.binOp .gtr 3 (.tmp 23) (.tmp 25) 3),some (20,false)),opo 27 (.pick (.tmp 20) (.const (.bool true)) (.tmp 26)),aso 13 27]:=xk
@[go_sem] theorem t116_5:TK g116_5:=tk
noncomputable def g116_6:=regAt Proofs.Try.f116 6
@[go_sem] theorem x116_6:XR 116 g116_6 [opo 2 (.assign (.const (.bool false)))]:=xk
@[go_sem] theorem t116_6:TK g116_6:=tk
noncomputable def g116_7:=regAt Proofs.Try.f116 7
@[go_sem] theorem x116_7:XR 116 g116_7 [fao 29 66 1 1,ldo 30 3 29,opo 31 (.call ⟨(.value (.func 118)),#[(.tmp 30),(.const (.int .i64 1000))],#[3,3]⟩),opo 32 (.unOp .not 4 (.tmp 31)),mvo 33 32,(some 34,(.fieldAddr 248 (.tmp 3) 3),some (33,false)),(some 35,(.load 4 (.tmp 34)),some (33,false)),(some 36,(.move (.tmp 35)),some (33,false)),(some 37,(.fieldAddr 66 (.tmp 1) 1),some (36,true)),(some 38,(.load 3 (.tmp 37)),some (36,true)),(some 39,(.binOp .gtr 3 (.tmp 38) (.const (.int .i64 0)) 3),some (36,true)),(some 40,(.pick (.tmp 36) (.tmp 39) (.const (.bool false))),some (33,false)),opo 41 (.pick (.tmp 33) (.const (.bool true)) (.tmp 40)),aso 28 41]:=xk
@[go_sem] theorem t116_7:TK g116_7:=tk
noncomputable def g116_8:=regAt Proofs.Try.f116 8
@[go_sem] theorem x116_8:XR 116 g116_8 [opo 2 (.assign (.const (.bool false)))]:=xk
@[go_sem] theorem t116_8:TK g116_8:=tk
noncomputable def g116_9:=regAt Proofs.Try.f116 9
@[go_sem] theorem x116_9:XR 116 g116_9 [fao 43 66 1 2,ldo 44 4 43,mvo 45 44,(some 46,(.fieldAddr 248 (.tmp 3) 2),some (45,true)),(some 47,(.load 4 (.tmp 46)),some (45,true)),(some 48,(.unOp .not 4 (.tmp 47)),some (45,true)),opo 49 (.pick (.tmp 45) (.tmp 48) (.const (.bool false))),mvo 50 49,(some 51,(.fieldAddr 66 (.tmp 1) 2),some (50,false)),(some 52,(.load 4 (.tmp 51)),some (50,false)),(some 53,(.unOp .not 4 (.tmp 52)),some (50,false)),(some 54,(.move (.tmp 53)),some (50,false)),(some 55,(.fieldAddr 66 (.tmp 1) 3),some (54,true)),(some 56,(.load 63 (.tmp 55)),some (54,true)),(some 57,(.build 63 #[]),some (54,true)),(some 58,(.binOp .neq 63 (.tmp 56) (.tmp 57) 63),some (54,true)),(some 59,(.pick (.tmp 54) (.tmp 58) (.const (.bool false))),some (50,false)),opo 60 (.pick (.tmp 50) (.const (.bool true)) (.tmp 59)),aso 42 60]:=xk
@[go_sem] theorem t116_9:TK g116_9:=tk
noncomputable def g116_10:=regAt Proofs.Try.f116 10
@[go_sem] theorem x116_10:XR 116 g116_10 [opo 2 (.assign (.const (.bool false)))]:=xk
@[go_sem] theorem t116_10:TK g116_10:=tk
noncomputable def g116_11:=regAt Proofs.Try.f116 11
@[go_sem] theorem x116_11:XR 116 g116_11 [ldo 61 66 1,opo 62 (.call ⟨(.value (.func 117)),#[(.tmp 61)],#[66]⟩),mvo 63 4,opo 64 (.call ⟨(.value (.func 154)),#[(.tmp 62),(.tmp 63)],#[64,251]⟩),opo 65 (.unOp .not 4 (.tmp 64)),aso 2 65]:=xk
@[go_sem] theorem t116_11:TK g116_11:=tk
theorem b116:Proofs.Try.f116.body=some (.seq (.region 0 g116_0 false) (.seq (.seq (.region 1 g116_1 false) (.cond (.tmp 8) (.seq (.region 2 g116_2 false) .ret) .skip)) (.seq (.region 3 g116_3 true) (.seq (.region 4 g116_4 false) (.seq (.block 0 (.seq (.region 5 g116_5 false) (.cond (.tmp 13) (.seq (.region 6 g116_6 false) .ret) (.seq (.region 7 g116_7 false) (.cond (.tmp 28) (.seq (.region 8 g116_8 false) .ret) (.seq (.region 9 g116_9 false) (.cond (.tmp 42) (.seq (.region 10 g116_10 false) .ret) .skip))))))) (.seq (.region 11 g116_11 false) .ret)))))):=by kernel_rfl
theorem c116{h:Hd}{ro:Nat}{H:Hp}(a0:AV):callB cx h ro 116 [a0] H=returned cx [(.tmp 2)] (ex cx h ro 116 66 (.seq (.region 0 g116_0 false) (.seq (.seq (.region 1 g116_1 false) (.cond (.tmp 8) (.seq (.region 2 g116_2 false) .ret) .skip)) (.seq (.region 3 g116_3 true) (.seq (.region 4 g116_4 false) (.seq (.block 0 (.seq (.region 5 g116_5 false) (.cond (.tmp 13) (.seq (.region 6 g116_6 false) .ret) (.seq (.region 7 g116_7 false) (.cond (.tmp 28) (.seq (.region 8 g116_8 false) .ret) (.seq (.region 9 g116_9 false) (.cond (.tmp 42) (.seq (.region 10 g116_10 false) .ret) .skip))))))) (.seq (.region 11 g116_11 false) .ret)))))) (PT.nil.set 0 (drp a0)) H):=by
 have hf:cx.fns 116=some Proofs.Try.f116:=by kernel_rfl
 simp only[callB,hf,funced,b116,bodied]
 rfl
noncomputable def g117_0:=regAt Proofs.Try.f117 0
@[go_sem] theorem x117_0:XR 117 g117_0 [opo 1 (.box 66 (.tmp 0)),opo 2 (.assign (.const (.slice none 0 0)))]:=xk
@[go_sem] theorem t117_0:TK g117_0:=tk
noncomputable def g117_1:=regAt Proofs.Try.f117 1
@[go_sem] theorem x117_1:XR 117 g117_1 [fao 4 66 1 4,ldo 5 64 4,opo 6 (.call ⟨(.value (.func 155)),#[(.tmp 5)],#[64]⟩),aso 3 6]:=xk
@[go_sem] theorem t117_1:TK g117_1:=tk
noncomputable def g117_2:=regAt Proofs.Try.f117 2
@[go_sem] theorem x117_2:XR 117 g117_2 [fao 7 66 1 2,ldo 8 4 7]:=xk
@[go_sem] theorem t117_2:TK g117_2:=tk
noncomputable def g117_3:=regAt Proofs.Try.f117 3
@[go_sem] theorem x117_3:XR 117 g117_3 [mvo 9 3,fao 10 66 1 3,ldo 11 63 10,opo 12 (.buildSlice 64 1 #[(0,(.tmp 11))]),opo 13 (.call ⟨(.builtin .append),#[(.tmp 9),(.tmp 12)],#[64,64]⟩),aso 3 13]:=xk
@[go_sem] theorem t117_3_9:takes g117_3 9=true:=nk
@[go_sem] theorem t117_3_10:takes g117_3 10=false:=nk
@[go_sem] theorem t117_3_11:takes g117_3 11=false:=nk
@[go_sem] theorem t117_3_12:takes g117_3 12=false:=nk
@[go_sem] theorem t117_3_13:takes g117_3 13=false:=nk
@[go_sem] theorem t117_3_3:takes g117_3 3=false:=nk
noncomputable def g117_4:=regAt Proofs.Try.f117 4
@[go_sem] theorem x117_4:XR 117 g117_4 [mvo 14 3,aso 2 14]:=xk
@[go_sem] theorem t117_4:TK g117_4:=tk
theorem b117:Proofs.Try.f117.body=some (.seq (.region 0 g117_0 false) (.seq (.region 1 g117_1 false) (.seq (.seq (.region 2 g117_2 false) (.cond (.tmp 8) (.region 3 g117_3 false) .skip)) (.seq (.region 4 g117_4 false) .ret)))):=by kernel_rfl
theorem c117{h:Hd}{ro:Nat}{H:Hp}(a0:AV):callB cx h ro 117 [a0] H=returned cx [(.tmp 2)] (ex cx h ro 117 15 (.seq (.region 0 g117_0 false) (.seq (.region 1 g117_1 false) (.seq (.seq (.region 2 g117_2 false) (.cond (.tmp 8) (.region 3 g117_3 false) .skip)) (.seq (.region 4 g117_4 false) .ret)))) (PT.nil.set 0 (drp a0)) H):=by
 have hf:cx.fns 117=some Proofs.Try.f117:=by kernel_rfl
 simp only[callB,hf,funced,b117,bodied]
 rfl
noncomputable def g153_0:=regAt Proofs.Try.f153 0
@[go_sem] theorem x153_0:XR 153 g153_0 [opo 1 (.box 63 (.tmp 0)),opo 2 (.assign (.const (.bool false)))]:=xk
@[go_sem] theorem t153_0:TK g153_0:=tk
noncomputable def g153_1:=regAt Proofs.Try.f153 1
@[go_sem] theorem x153_1:XR 153 g153_1 [fao 3 63 1 1,ldo 4 3 3,opo 5 (.call ⟨(.value (.func 118)),#[(.tmp 4),(.const (.int .i64 1000))],#[3,3]⟩),opo 6 (.unOp .not 4 (.tmp 5)),aso 2 6]:=xk
@[go_sem] theorem t153_1:TK g153_1:=tk
theorem b153:Proofs.Try.f153.body=some (.seq (.region 0 g153_0 false) (.seq (.region 1 g153_1 false) .ret)):=by kernel_rfl
theorem c153{h:Hd}{ro:Nat}{H:Hp}(a0:AV):callB cx h ro 153 [a0] H=returned cx [(.tmp 2)] (ex cx h ro 153 7 (.seq (.region 0 g153_0 false) (.seq (.region 1 g153_1 false) .ret)) (PT.nil.set 0 (drp a0)) H):=by
 have hf:cx.fns 153=some Proofs.Try.f153:=by kernel_rfl
 simp only[callB,hf,funced,b153,bodied]
 rfl
noncomputable def g154_0:=regAt Proofs.Try.f154 0
@[go_sem] theorem x154_0:XR 154 g154_0 [opo 4 (.assign (.const (.bool false)))]:=xk
@[go_sem] theorem t154_0:TK g154_0:=tk
noncomputable def g154_1:=regAt Proofs.Try.f154 1
@[go_sem] theorem x154_1:XR 154 g154_1 [mvo 5 0,mvo 6 1,opo 7 (.call ⟨(.value (.func 175)),#[(.tmp 5),(.tmp 6)],#[64,251]⟩),opo 8 (.binOp .geq 3 (.tmp 7) (.const (.int .i64 0)) 3),aso 4 8]:=xk
@[go_sem] theorem t154_1:TK g154_1:=tk
theorem b154:Proofs.Try.f154.body=some (.seq (.region 0 g154_0 false) (.seq (.region 1 g154_1 false) .ret)):=by kernel_rfl
theorem c154{h:Hd}{ro:Nat}{H:Hp}(a0 a1:AV):callB cx h ro 154 [a0,a1] H=returned cx [(.tmp 4)] (ex cx h ro 154 9 (.seq (.region 0 g154_0 false) (.seq (.region 1 g154_1 false) .ret)) ((PT.nil.set 0 (drp a0)).set 1 (drp a1)) H):=by
 have hf:cx.fns 154=some Proofs.Try.f154:=by kernel_rfl
 simp only[callB,hf,funced,b154,bodied]
 rfl
noncomputable def g155_0:=regAt Proofs.Try.f155 0
@[go_sem] theorem x155_0:XR 155 g155_0 [opo 2 (.assign (.const (.slice none 0 0)))]:=xk
@[go_sem] theorem t155_0:TK g155_0:=tk
noncomputable def g155_1:=regAt Proofs.Try.f155 1
@[go_sem] theorem x155_1:XR 155 g155_1 [mvo 3 0,opo 4 (.binOp .eql 64 (.tmp 3) (.const (.slice none 0 0)) 64)]:=xk
@[go_sem] theorem t155_1:TK g155_1:=tk
noncomputable def g155_2:=regAt Proofs.Try.f155 2
@[go_sem] theorem x155_2:XR 155 g155_2 [opo 2 (.assign (.const (.slice none 0 0)))]:=xk
@[go_sem] theorem t155_2:TK g155_2:=tk
noncomputable def g155_3:=regAt Proofs.Try.f155 3
@[go_sem] theorem x155_3:XR 155 g155_3 [opo 5 (.buildSlice 64 0 #[]),mvo 6 0,opo 7 (.call ⟨(.builtin .append),#[(.tmp 5),(.tmp 6)],#[64,64]⟩),aso 2 7]:=xk
@[go_sem] theorem t155_3_5:takes g155_3 5=true:=nk
@[go_sem] theorem t155_3_6:takes g155_3 6=false:=nk
@[go_sem] theorem t155_3_7:takes g155_3 7=false:=nk
@[go_sem] theorem t155_3_2:takes g155_3 2=false:=nk
theorem b155:Proofs.Try.f155.body=some (.seq (.region 0 g155_0 false) (.seq (.seq (.region 1 g155_1 false) (.cond (.tmp 4) (.seq (.region 2 g155_2 false) .ret) .skip)) (.seq (.region 3 g155_3 false) .ret))):=by kernel_rfl
theorem c155{h:Hd}{ro:Nat}{H:Hp}(a0:AV):callB cx h ro 155 [a0] H=returned cx [(.tmp 2)] (ex cx h ro 155 8 (.seq (.region 0 g155_0 false) (.seq (.seq (.region 1 g155_1 false) (.cond (.tmp 4) (.seq (.region 2 g155_2 false) .ret) .skip)) (.seq (.region 3 g155_3 false) .ret))) (PT.nil.set 0 (drp a0)) H):=by
 have hf:cx.fns 155=some Proofs.Try.f155:=by kernel_rfl
 simp only[callB,hf,funced,b155,bodied]
 rfl
noncomputable def g175_0:=regAt Proofs.Try.f175 0
@[go_sem] theorem x175_0:XR 175 g175_0 [opo 4 (.assign (.const (.int .i64 0)))]:=xk
@[go_sem] theorem t175_0:TK g175_0:=tk
noncomputable def g175_1:=regAt Proofs.Try.f175 1
@[go_sem] theorem x175_1:XR 175 g175_1 [mvo 6 0,opo 7 (.call ⟨(.builtin .len),#[(.tmp 6)],#[64]⟩),opo 8 (.move (.const (.int .i64 0)))]:=xk
@[go_sem] theorem t175_1:TK g175_1:=tk
noncomputable def g175_2:=regAt Proofs.Try.f175 2
@[go_sem] theorem x175_2:XR 175 g175_2 [opo 9 (.binOp .lss 3 (.tmp 8) (.tmp 7) 3)]:=xk
@[go_sem] theorem t175_2:TK g175_2:=tk
noncomputable def g175_3:=regAt Proofs.Try.f175 3
@[go_sem] theorem x175_3:XR 175 g175_3 [mvo 10 8,aso 5 10]:=xk
@[go_sem] theorem t175_3:TK g175_3:=tk
noncomputable def g175_4:=regAt Proofs.Try.f175 4
@[go_sem] theorem x175_4:XR 175 g175_4 [mvo 11 1,mvo 12 0,mvo 13 5,iao 14 64 12 13,ldo 15 63 14,opo 16 (.call ⟨(.value (.tmp 11)),#[(.tmp 15)],#[63]⟩)]:=xk
@[go_sem] theorem t175_4:TK g175_4:=tk
noncomputable def g175_5:=regAt Proofs.Try.f175 5
@[go_sem] theorem x175_5:XR 175 g175_5 [mvo 17 5,aso 4 17]:=xk
@[go_sem] theorem t175_5:TK g175_5:=tk
noncomputable def g175_6:=regAt Proofs.Try.f175 6
@[go_sem] theorem x175_6:XR 175 g175_6 [opo 18 (.binOp .add 3 (.tmp 8) (.const (.int .i64 1)) 3),mvo 8 18]:=xk
@[go_sem] theorem t175_6:TK g175_6:=tk
noncomputable def g175_7:=regAt Proofs.Try.f175 7
@[go_sem] theorem x175_7:XR 175 g175_7 [opo 4 (.assign (.const (.int .i64 (-1))))]:=xk
@[go_sem] theorem t175_7:TK g175_7:=tk
noncomputable def l175_0:Code:=(.seq (.region 2 g175_2 false) (.seq (.cond (.tmp 9) .skip (.exit 0)) (.seq (.block 1 (.seq (.region 3 g175_3 false) (.seq (.region 4 g175_4 false) (.cond (.tmp 16) (.seq (.region 5 g175_5 false) .ret) .skip)))) (.region 6 g175_6 false))))
theorem dl175_0{ro nt:Nat}{fr:PT}{H:Hp}:(den cx).loop ro 175 nt l175_0 fr H=xbind (ex cx (den cx) ro 175 nt (.seq (.region 2 g175_2 false) (.seq (.cond (.tmp 9) .skip (.exit 0)) (.seq (.block 1 (.seq (.region 3 g175_3 false) (.seq (.region 4 g175_4 false) (.cond (.tmp 16) (.seq (.region 5 g175_5 false) .ret) .skip)))) (.region 6 g175_6 false)))) fr H) (contR (trimmed ((den cx).loop ro 175 nt l175_0) H.length)):=den_loop_x l175_0
theorem b175:Proofs.Try.f175.body=some (.seq (.region 0 g175_0 false) (.seq (.seq (.region 1 g175_1 false) (.block 0 (.loop l175_0))) (.seq (.region 7 g175_7 false) .ret))):=by kernel_rfl
theorem c175{h:Hd}{ro:Nat}{H:Hp}(a0 a1:AV):callB cx h ro 175 [a0,a1] H=returned cx [(.tmp 4)] (ex cx h ro 175 19 (.seq (.region 0 g175_0 false) (.seq (.seq (.region 1 g175_1 false) (.block 0 (.loop l175_0))) (.seq (.region 7 g175_7 false) .ret))) ((PT.nil.set 0 (drp a0)).set 1 (drp a1)) H):=by
 have hf:cx.fns 175=some Proofs.Try.f175:=by kernel_rfl
 simp only[callB,hf,funced,b175,bodied]
 rfl
noncomputable def g152_0:=regAt Proofs.Try.f152 0
@[go_sem] theorem x152_0:XR 152 g152_0 [opo 0 (.alloc 249)]:=xk
@[go_sem] theorem t152_0:TK g152_0:=tk
noncomputable def g152_1:=regAt Proofs.Try.f152 1
@[go_sem] theorem x152_1:XR 152 g152_1 [opo 1 (.build 248 #[(0,(.const (.int .i64 0))),(1,(.const (.int .i64 0))),(2,(.const (.bool false))),(3,(.const (.bool true)))]),opo 2 (.build 248 #[(0,(.const (.int .i64 1))),(1,(.const (.int .i64 1))),(2,(.const (.bool true))),(3,(.const (.bool false)))]),opo 3 (.build 248 #[(0,(.const (.int .i64 1))),(1,(.const (.int .i64 1))),(2,(.const (.bool true))),(3,(.const (.bool false)))]),opo 4 (.build 248 #[(0,(.const (.int .i64 1))),(1,(.const (.int .i64 8))),(2,(.const (.bool false))),(3,(.const (.bool false)))]),opo 5 (.build 248 #[(0,(.const (.int .i64 1))),(1,(.const (.int .i64 8))),(2,(.const (.bool false))),(3,(.const (.bool false)))]),opo 6 (.build 248 #[(0,(.const (.int .i64 1))),(1,(.const (.int .i64 1))),(2,(.const (.bool false))),(3,(.const (.bool true)))]),opo 7 (.build 249 #[(0,(.tmp 1)),(1,(.tmp 2)),(2,(.tmp 3)),(3,(.tmp 4)),(4,(.tmp 5)),(5,(.tmp 6))]),(none,(.store 249 (.tmp 0) (.tmp 7)),none)]:=xk
@[go_sem] theorem t152_1:TK g152_1:=tk
theorem b152:Proofs.Try.f152.body=some (.seq (.region 0 g152_0 false) (.seq (.region 1 g152_1 false) .ret)):=by kernel_rfl
theorem c152{h:Hd}{ro:Nat}{H:Hp}:callB cx h ro 152 [] H=returned cx [(.cell 0 249)] (ex cx h ro 152 8 (.seq (.region 0 g152_0 false) (.seq (.region 1 g152_1 false) .ret)) PT.nil H):=by
 have hf:cx.fns 152=some Proofs.Try.f152:=by kernel_rfl
 simp only[callB,hf,funced,b152,bodied]
 rfl
noncomputable def g119_0:=regAt Proofs.Try.f119 0
@[go_sem] theorem x119_0:XR 119 g119_0 [opo 2 (.box 56 (.tmp 0)),opo 3 (.box 61 (.tmp 1)),opo 4 (.assign (.const .nilFunc))]:=xk
@[go_sem] theorem t119_0:TK g119_0:=tk
noncomputable def g119_1:=regAt Proofs.Try.f119 1
@[go_sem] theorem x119_1:XR 119 g119_1 [opo 5 (.makeFunc (.func 156) #[] #[(.tmp 2),(.tmp 3)]),aso 4 5]:=xk
@[go_sem] theorem t119_1:TK g119_1:=tk
theorem b119:Proofs.Try.f119.body=some (.seq (.region 0 g119_0 false) (.seq (.region 1 g119_1 false) .ret)):=by kernel_rfl
theorem c119{h:Hd}{ro:Nat}{H:Hp}(a0 a1:AV):callB cx h ro 119 [a0,a1] H=returned cx [(.tmp 4)] (ex cx h ro 119 6 (.seq (.region 0 g119_0 false) (.seq (.region 1 g119_1 false) .ret)) ((PT.nil.set 0 (drp a0)).set 1 (drp a1)) H):=by
 have hf:cx.fns 119=some Proofs.Try.f119:=by kernel_rfl
 simp only[callB,hf,funced,b119,bodied]
 rfl
noncomputable def g156_0:=regAt Proofs.Try.f156 0
@[go_sem] theorem x156_0:XR 156 g156_0 [ldo 5 56 1,opo 6 (.call ⟨(.builtin .len),#[(.tmp 5)],#[56]⟩),opo 7 (.move (.const (.int .i64 0)))]:=xk
@[go_sem] theorem t156_0:TK g156_0:=tk
noncomputable def g156_1:=regAt Proofs.Try.f156 1
@[go_sem] theorem x156_1:XR 156 g156_1 [opo 8 (.binOp .lss 3 (.tmp 7) (.tmp 6) 3)]:=xk
@[go_sem] theorem t156_1:TK g156_1:=tk
noncomputable def g156_2:=regAt Proofs.Try.f156 2
@[go_sem] theorem x156_2:XR 156 g156_2 [fao 9 61 2 0,ldo 10 3 9,ldo 11 56 1,opo 12 (.call ⟨(.builtin .len),#[(.tmp 11)],#[56]⟩),opo 13 (.binOp .sub 3 (.tmp 12) (.const (.int .i64 1)) 3),opo 14 (.call ⟨(.value (.func 118)),#[(.tmp 10),(.tmp 13)],#[3,3]⟩),opo 15 (.unOp .not 4 (.tmp 14))]:=xk
@[go_sem] theorem t156_2:TK g156_2:=tk
noncomputable def g156_3:=regAt Proofs.Try.f156 3
@[go_sem] theorem x156_3:XR 156 g156_3 [ldo 16 56 1,fao 17 61 2 0,ldo 18 3 17,iao 19 56 16 18,ldo 20 66 19,opo 4 (.alloc 66),(none,(.store 66 (.tmp 4) (.tmp 20)),none)]:=xk
@[go_sem] theorem t156_3:TK g156_3:=tk
noncomputable def g156_4:=regAt Proofs.Try.f156 4
@[go_sem] theorem x156_4:XR 156 g156_4 [mvo 21 0,ldo 22 61 2,ldo 23 66 4,opo 24 (.call ⟨(.value (.tmp 21)),#[(.tmp 22),(.tmp 23)],#[61,66]⟩),opo 25 (.unOp .not 4 (.tmp 24)),mvo 26 25,(some 27,(.fieldAddr 66 (.tmp 4) 4),some (26,false)),(some 28,(.load 64 (.tmp 27)),some (26,false)),(some 29,(.call ⟨(.builtin .len),#[(.tmp 28)],#[64]⟩),some (26,false)),(some 30,(.binOp .neq 3 (.tmp 29) (.const (.int .i64 1)) 3),some (26,false)),opo 31 (.pick (.tmp 26) (.const (.bool true)) (.tmp 30))]:=xk
@[go_sem] theorem t156_4:TK g156_4:=tk
noncomputable def g156_5:=regAt Proofs.Try.f156 5
@[go_sem] theorem x156_5:XUR 156 g156_5 [(0,0,[],fao 32 66 4 4),(1,0,[],ldo 33 64 32),(2,0,[],opo 34 (.indexAddr 64 (.tmp 33) (.const (.int .i64 0)))),(3,0,[],fao 35 63 34 0),(4,0,[],ldo 36 3 35),(5,0,[0,1,2,3,4],fao 37 61 2 1),(6,0,[0,1,2,3,4],ldo 38 3 37),(7,0,[0,1,2,3,4,5,6],fao 39 66 4 4),(8,0,[0,1,2,3,4,5,6],ldo 40 64 39),(9,0,[0,1,2,3,4,5,6],opo 41 (.indexAddr 64 (.tmp 40) (.const (.int .i64 0)))),(10,0,[0,1,2,3,4,5,6],fao 42 63 41 1),(11,0,[0,1,2,3,4,5,6],ldo 43 3 42),(12,0,[0,1,2,3,4],opo 44 (.binOp .add 3 (.tmp 38) (.tmp 43) 3)),(13,0,[0,1,2,3,4,7,8,9,10,11,12],(none,(.store 61 (.tmp 2) (.const (.agg #[(.int .i64 0),(.int .i64 0)]))),none)),(14,0,[7,8,9,10,11,12],fao 45 61 2 0),(15,0,[7,8,9,10,11,12],(none,(.store 3 (.tmp 45) (.tmp 36)),none)),(16,0,[],fao 46 61 2 1),(17,0,[],(none,(.store 3 (.tmp 46) (.tmp 44)),none))] 0:=xuk
@[go_sem] theorem t156_5:TK g156_5:=tk
noncomputable def g156_6:=regAt Proofs.Try.f156 6
@[go_sem] theorem x156_6:XR 156 g156_6 [opo 47 (.binOp .add 3 (.tmp 7) (.const (.int .i64 1)) 3),mvo 7 47]:=xk
@[go_sem] theorem t156_6:TK g156_6:=tk
noncomputable def l156_0:Code:=(.seq (.region 1 g156_1 false) (.seq (.cond (.tmp 8) .skip (.exit 0)) (.seq (.block 1 (.seq (.seq (.region 2 g156_2 false) (.cond (.tmp 15) .ret .skip)) (.seq (.region 3 g156_3 false) (.seq (.seq (.region 4 g156_4 false) (.cond (.tmp 31) .ret .skip)) (.region 5 g156_5 true))))) (.region 6 g156_6 false))))
theorem dl156_0{ro nt:Nat}{fr:PT}{H:Hp}:(den cx).loop ro 156 nt l156_0 fr H=xbind (ex cx (den cx) ro 156 nt (.seq (.region 1 g156_1 false) (.seq (.cond (.tmp 8) .skip (.exit 0)) (.seq (.block 1 (.seq (.seq (.region 2 g156_2 false) (.cond (.tmp 15) .ret .skip)) (.seq (.region 3 g156_3 false) (.seq (.seq (.region 4 g156_4 false) (.cond (.tmp 31) .ret .skip)) (.region 5 g156_5 true))))) (.region 6 g156_6 false)))) fr H) (contR (trimmed ((den cx).loop ro 156 nt l156_0) H.length)):=den_loop_x l156_0
theorem b156:Proofs.Try.f156.body=some (.seq (.region 0 g156_0 false) (.block 0 (.loop l156_0))):=by kernel_rfl
theorem c156{h:Hd}{ro:Nat}{H:Hp}(a0 a1 a2:AV):callB cx h ro 156 [a0,a1,a2] H=returned cx [] (ex cx h ro 156 48 (.seq (.region 0 g156_0 false) (.block 0 (.loop l156_0))) (((PT.nil.set 0 (drp a0)).set 1 (drp a1)).set 2 (drp a2)) H):=by
 have hf:cx.fns 156=some Proofs.Try.f156:=by kernel_rfl
 simp only[callB,hf,funced,b156,bodied]
 rfl
noncomputable def g51_0:=regAt Proofs.Try.f51 0
@[go_sem] theorem x51_0:XR 51 g51_0 [opo 3 (.box 61 (.tmp 1)),opo 4 (.alloc 61)]:=xk
@[go_sem] theorem t51_0:TK g51_0:=tk
noncomputable def g51_1:=regAt Proofs.Try.f51 1
@[go_sem] theorem x51_1:XR 51 g51_1 [mvo 7 0,ldo 8 61 3,opo 9 (.call ⟨(.value (.func 119)),#[(.tmp 7),(.tmp 8)],#[56,61]⟩)]:=xk
@[go_sem] theorem t51_1:TK g51_1:=tk
noncomputable def g51_2:=regAt Proofs.Try.f51 2
@[go_sem] theorem x51_2:XR 51 g51_2 [opo 5 (.alloc 61),(none,(.store 61 (.tmp 5) (.tmp 10)),none)]:=xk
@[go_sem] theorem t51_2:TK g51_2:=tk
noncomputable def g51_3:=regAt Proofs.Try.f51 3
@[go_sem] theorem x51_3:XR 51 g51_3 [opo 6 (.alloc 66),(none,(.store 66 (.tmp 6) (.tmp 11)),none)]:=xk
@[go_sem] theorem t51_3:TK g51_3:=tk
noncomputable def g51_4:=regAt Proofs.Try.f51 4
@[go_sem] theorem x51_4:XR 51 g51_4 [fao 12 66 6 0,ldo 13 3 12,opo 14 (.binOp .neq 3 (.tmp 13) (.const (.int .i64 5)) 3)]:=xk
@[go_sem] theorem t51_4:TK g51_4:=tk
noncomputable def g51_5:=regAt Proofs.Try.f51 5
@[go_sem] theorem x51_5:XR 51 g51_5 [ldo 15 61 5,(none,(.store 61 (.tmp 4) (.tmp 15)),none)]:=xk
@[go_sem] theorem t51_5:TK g51_5:=tk
noncomputable def g51_6:=regAt Proofs.Try.f51 6
@[go_sem] theorem x51_6:XR 51 g51_6 [(some 16,(.build 61 #[(0,(.const (.int .i64 (-1))))]),none),(none,(.store 61 (.tmp 4) (.tmp 16)),none)]:=xk
@[go_sem] theorem t51_6:TK g51_6:=tk
noncomputable def q51_0:Code:=(.seq (.region 2 g51_2 false) (.region 3 g51_3 false))
noncomputable def r51_0:Code:=(.block 1 (.seq (.region 4 g51_4 false) (.cond (.tmp 14) (.seq (.region 5 g51_5 false) .ret) .skip)))
theorem b51:Proofs.Try.f51.body=some (.seq (.region 0 g51_0 false) (.seq (.seq (.region 1 g51_1 false) (.block 0 (.rangeFunc (.tmp 9) #[10,11] q51_0 r51_0))) (.seq (.region 6 g51_6 false) .ret))):=by kernel_rfl
theorem c51{h:Hd}{ro:Nat}{H:Hp}(a0 a1:AV):callB cx h ro 51 [a0,a1] H=returned cx [(.cell 4 61)] (ex cx h ro 51 17 (.seq (.region 0 g51_0 false) (.seq (.seq (.region 1 g51_1 false) (.block 0 (.rangeFunc (.tmp 9) #[10,11] q51_0 r51_0))) (.seq (.region 6 g51_6 false) .ret))) ((PT.nil.set 0 (drp a0)).set 1 (drp a1)) H):=by
 have hf:cx.fns 51=some Proofs.Try.f51:=by kernel_rfl
 simp only[callB,hf,funced,b51,bodied]
 rfl
noncomputable def g52_0:=regAt Proofs.Try.f52 0
@[go_sem] theorem x52_0:XR 52 g52_0 [opo 3 (.box 61 (.tmp 1)),opo 4 (.alloc 61)]:=xk
@[go_sem] theorem t52_0:TK g52_0:=tk
noncomputable def g52_1:=regAt Proofs.Try.f52 1
@[go_sem] theorem x52_1:XR 52 g52_1 [opo 5 (.assign (.const (.int .i64 0)))]:=xk
@[go_sem] theorem t52_1:TK g52_1:=tk
noncomputable def g52_2:=regAt Proofs.Try.f52 2
@[go_sem] theorem x52_2:XR 52 g52_2 [mvo 7 5,mvo 8 0,opo 9 (.call ⟨(.builtin .len),#[(.tmp 8)],#[56]⟩),opo 10 (.binOp .leq 3 (.tmp 7) (.tmp 9) 3)]:=xk
@[go_sem] theorem t52_2:TK g52_2:=tk
noncomputable def g52_3:=regAt Proofs.Try.f52 3
@[go_sem] theorem x52_3:XR 52 g52_3 [fao 13 61 3 0,ldo 14 3 13,opo 15 (.binOp .lss 3 (.tmp 14) (.const (.int .i64 0)) 3),mvo 16 15,(some 17,(.fieldAddr 61 (.tmp 3) 0),some (16,false)),(some 18,(.load 3 (.tmp 17)),some (16,false)),(some 19,(.move (.tmp 0)),some (16,false)),(some 20,(.call ⟨(.builtin .len),#[(.tmp 19)],#[56]⟩),some (16,false)),(some 21,(.binOp .geq 3 (.tmp 18) (.tmp 20) 3),some (16,false)),opo 22 (.pick (.tmp 16) (.const (.bool true)) (.tmp 21))]:=xk
@[go_sem] theorem t52_3:TK g52_3:=tk
noncomputable def g52_4:=regAt Proofs.Try.f52 4
@[go_sem] theorem x52_4:XR 52 g52_4 [(some 23,(.build 61 #[(0,(.const (.int .i64 (-1))))]),none),(none,(.store 61 (.tmp 4) (.tmp 23)),none)]:=xk
@[go_sem] theorem t52_4:TK g52_4:=tk
noncomputable def g52_5:=regAt Proofs.Try.f52 5
@[go_sem] theorem x52_5:XR 52 g52_5 [mvo 24 0,fao 25 61 3 0,ldo 26 3 25,iao 27 56 24 26,ldo 28 66 27,opo 6 (.alloc 66),(none,(.store 66 (.tmp 6) (.tmp 28)),none)]:=xk
@[go_sem] theorem t52_5:TK g52_5:=tk
noncomputable def g52_6:=regAt Proofs.Try.f52 6
@[go_sem] theorem x52_6:XR 52 g52_6 [fao 29 66 6 0,ldo 30 3 29,opo 31 (.binOp .neq 3 (.tmp 30) (.const (.int .i64 5)) 3)]:=xk
@[go_sem] theorem t52_6:TK g52_6:=tk
noncomputable def g52_7:=regAt Proofs.Try.f52 7
@[go_sem] theorem x52_7:XR 52 g52_7 [ldo 32 61 3,(none,(.store 61 (.tmp 4) (.tmp 32)),none)]:=xk
@[go_sem] theorem t52_7:TK g52_7:=tk
noncomputable def g52_8:=regAt Proofs.Try.f52 8
@[go_sem] theorem x52_8:XR 52 g52_8 [fao 33 66 6 4,ldo 34 64 33,opo 35 (.call ⟨(.builtin .len),#[(.tmp 34)],#[64]⟩),opo 36 (.binOp .neq 3 (.tmp 35) (.const (.int .i64 1)) 3)]:=xk
@[go_sem] theorem t52_8:TK g52_8:=tk
noncomputable def g52_9:=regAt Proofs.Try.f52 9
@[go_sem] theorem x52_9:XR 52 g52_9 [(some 37,(.build 61 #[(0,(.const (.int .i64 (-1))))]),none),(none,(.store 61 (.tmp 4) (.tmp 37)),none)]:=xk
@[go_sem] theorem t52_9:TK g52_9:=tk
noncomputable def g52_10:=regAt Proofs.Try.f52 10
@[go_sem] theorem x52_10:XUR 52 g52_10 [(0,0,[],fao 38 66 6 4),(1,0,[],ldo 39 64 38),(2,0,[],opo 40 (.indexAddr 64 (.tmp 39) (.const (.int .i64 0)))),(3,0,[],fao 41 63 40 0),(4,0,[],ldo 42 3 41),(5,0,[0,1,2,3,4],fao 43 61 3 1),(6,0,[0,1,2,3,4],ldo 44 3 43),(7,0,[0,1,2,3,4,5,6],fao 45 66 6 4),(8,0,[0,1,2,3,4,5,6],ldo 46 64 45),(9,0,[0,1,2,3,4,5,6],opo 47 (.indexAddr 64 (.tmp 46) (.const (.int .i64 0)))),(10,0,[0,1,2,3,4,5,6],fao 48 63 47 1),(11,0,[0,1,2,3,4,5,6],ldo 49 3 48),(12,0,[0,1,2,3,4],opo 50 (.binOp .add 3 (.tmp 44) (.tmp 49) 3)),(13,0,[],opo 51 (.build 61 #[(0,(.tmp 42)),(1,(.tmp 50))])),(14,0,[],(none,(.store 61 (.tmp 3) (.tmp 51)),none))] 0:=xuk
@[go_sem] theorem t52_10:TK g52_10:=tk
noncomputable def g52_11:=regAt Proofs.Try.f52 11
@[go_sem] theorem x52_11:XR 52 g52_11 [mvo 11 5,opo 12 (.binOp .add 3 (.tmp 11) (.const (.int .i64 1)) 3),aso 5 12]:=xk
@[go_sem] theorem t52_11:TK g52_11:=tk
noncomputable def g52_12:=regAt Proofs.Try.f52 12
@[go_sem] theorem x52_12:XR 52 g52_12 [(some 52,(.build 61 #[(0,(.const (.int .i64 (-1))))]),none),(none,(.store 61 (.tmp 4) (.tmp 52)),none)]:=xk
@[go_sem] theorem t52_12:TK g52_12:=tk
noncomputable def l52_0:Code:=(.seq (.seq (.region 2 g52_2 false) (.cond (.tmp 10) .skip (.exit 0))) (.seq (.block 1 (.seq (.seq (.region 4 g52_3 false) (.cond (.tmp 22) (.seq (.region 5 g52_4 false) .ret) .skip)) (.seq (.region 6 g52_5 false) (.seq (.seq (.region 7 g52_6 false) (.cond (.tmp 31) (.seq (.region 8 g52_7 false) .ret) .skip)) (.seq (.seq (.region 9 g52_8 false) (.cond (.tmp 36) (.seq (.region 10 g52_9 false) .ret) .skip)) (.region 11 g52_10 true)))))) (.region 3 g52_11 false)))
theorem dl52_0{ro nt:Nat}{fr:PT}{H:Hp}:(den cx).loop ro 52 nt l52_0 fr H=xbind (ex cx (den cx) ro 52 nt (.seq (.seq (.region 2 g52_2 false) (.cond (.tmp 10) .skip (.exit 0))) (.seq (.block 1 (.seq (.seq (.region 4 g52_3 false) (.cond (.tmp 22) (.seq (.region 5 g52_4 false) .ret) .skip)) (.seq (.region 6 g52_5 false) (.seq (.seq (.region 7 g52_6 false) (.cond (.tmp 31) (.seq (.region 8 g52_7 false) .ret) .skip)) (.seq (.seq (.region 9 g52_8 false) (.cond (.tmp 36) (.seq (.region 10 g52_9 false) .ret) .skip)) (.region 11 g52_10 true)))))) (.region 3 g52_11 false))) fr H) (contR (trimmed ((den cx).loop ro 52 nt l52_0) H.length)):=den_loop_x l52_0
theorem b52:Proofs.Try.f52.body=some (.seq (.region 0 g52_0 false) (.seq (.seq (.region 1 g52_1 false) (.block 0 (.loop l52_0))) (.seq (.region 12 g52_12 false) .ret))):=by kernel_rfl
theorem c52{h:Hd}{ro:Nat}{H:Hp}(a0 a1:AV):callB cx h ro 52 [a0,a1] H=returned cx [(.cell 4 61)] (ex cx h ro 52 53 (.seq (.region 0 g52_0 false) (.seq (.seq (.region 1 g52_1 false) (.block 0 (.loop l52_0))) (.seq (.region 12 g52_12 false) .ret))) ((PT.nil.set 0 (drp a0)).set 1 (drp a1)) H):=by
 have hf:cx.fns 52=some Proofs.Try.f52:=by kernel_rfl
 simp only[callB,hf,funced,b52,bodied]
 rfl
noncomputable def g48_0:=regAt Proofs.Try.f48 0
@[go_sem] theorem x48_0:XR 48 g48_0 [opo 2 (.assign (.const (.int .i64 0))),opo 3 (.assign (.const (.int .i64 0)))]:=xk
@[go_sem] theorem t48_0:TK g48_0:=tk
noncomputable def g48_1:=regAt Proofs.Try.f48 1
@[go_sem] theorem x48_1:XR 48 g48_1 [mvo 12 0,opo 13 (.call ⟨(.builtin .len),#[(.tmp 12)],#[56]⟩),opo 14 (.binOp .eql 3 (.tmp 13) (.const (.int .i64 0)) 3),aso 11 14]:=xk
@[go_sem] theorem t48_1:TK g48_1:=tk
noncomputable def g48_2:=regAt Proofs.Try.f48 2
@[go_sem] theorem x48_2:XR 48 g48_2 [opo 2 (.assign (.const (.int .i64 (-1)))),opo 3 (.assign (.const (.int .i64 2)))]:=xk
@[go_sem] theorem t48_2:TK g48_2:=tk
noncomputable def g48_3:=regAt Proofs.Try.f48 3
@[go_sem] theorem x48_3:XR 48 g48_3 [mvo 16 0,opo 17 (.call ⟨(.builtin .len),#[(.tmp 16)],#[56]⟩),opo 18 (.binOp .gtr 3 (.tmp 17) (.const (.int .i64 64)) 3),aso 15 18]:=xk
@[go_sem] theorem t48_3:TK g48_3:=tk
noncomputable def g48_4:=regAt Proofs.Try.f48 4
@[go_sem] theorem x48_4:XR 48 g48_4 [opo 2 (.assign (.const (.int .i64 (-1)))),opo 3 (.assign (.const (.int .i64 4)))]:=xk
@[go_sem] theorem t48_4:TK g48_4:=tk
noncomputable def g48_5:=regAt Proofs.Try.f48 5
@[go_sem] theorem x48_5:XR 48 g48_5 [mvo 19 0,opo 20 (.call ⟨(.builtin .len),#[(.tmp 19)],#[56]⟩),opo 21 (.move (.const (.int .i64 0)))]:=xk
@[go_sem] theorem t48_5:TK g48_5:=tk
noncomputable def g48_6:=regAt Proofs.Try.f48 6
@[go_sem] theorem x48_6:XR 48 g48_6 [opo 22 (.binOp .lss 3 (.tmp 21) (.tmp 20) 3)]:=xk
@[go_sem] theorem t48_6:TK g48_6:=tk
noncomputable def g48_7:=regAt Proofs.Try.f48 7
@[go_sem] theorem x48_7:XR 48 g48_7 [mvo 23 21,iao 24 56 19 21,ldo 25 66 24,opo 5 (.alloc 66),aso 4 23,(none,(.store 66 (.tmp 5) (.tmp 25)),none)]:=xk
@[go_sem] theorem t48_7:TK g48_7:=tk
noncomputable def g48_8:=regAt Proofs.Try.f48 8
@[go_sem] theorem x48_8:XR 48 g48_8 [ldo 26 66 5,opo 27 (.call ⟨(.value (.func 116)),#[(.tmp 26)],#[66]⟩),opo 28 (.unOp .not 4 (.tmp 27))]:=xk
@[go_sem] theorem t48_8:TK g48_8:=tk
noncomputable def g48_9:=regAt Proofs.Try.f48 9
@[go_sem] theorem x48_9:XR 48 g48_9 [mvo 29 4,aso 2 29,opo 3 (.assign (.const (.int .i64 7)))]:=xk
@[go_sem] theorem t48_9:TK g48_9:=tk
noncomputable def g48_10:=regAt Proofs.Try.f48 10
@[go_sem] theorem x48_10:XR 48 g48_10 [ldo 30 66 5,opo 31 (.call ⟨(.value (.func 117)),#[(.tmp 30)],#[66]⟩),opo 32 (.call ⟨(.builtin .len),#[(.tmp 31)],#[64]⟩),opo 33 (.move (.const (.int .i64 0)))]:=xk
@[go_sem] theorem t48_10:TK g48_10:=tk
noncomputable def g48_11:=regAt Proofs.Try.f48 11
@[go_sem] theorem x48_11:XR 48 g48_11 [opo 34 (.binOp .lss 3 (.tmp 33) (.tmp 32) 3)]:=xk
@[go_sem] theorem t48_11:TK g48_11:=tk
noncomputable def g48_12:=regAt Proofs.Try.f48 12
@[go_sem] theorem x48_12:XR 48 g48_12 [iao 35 64 31 33,ldo 36 63 35,opo 7 (.alloc 63),(none,(.store 63 (.tmp 7) (.tmp 36)),none)]:=xk
@[go_sem] theorem t48_12:TK g48_12:=tk
noncomputable def g48_13:=regAt Proofs.Try.f48 13
@[go_sem] theorem x48_13:XR 48 g48_13 [fao 37 63 7 0,ldo 38 3 37,mvo 39 0,opo 40 (.call ⟨(.builtin .len),#[(.tmp 39)],#[56]⟩),opo 41 (.binOp .sub 3 (.tmp 40) (.const (.int .i64 1)) 3),opo 42 (.call ⟨(.value (.func 118)),#[(.tmp 38),(.tmp 41)],#[3,3]⟩)]:=xk
@[go_sem] theorem t48_13:TK g48_13:=tk
noncomputable def g48_14:=regAt Proofs.Try.f48 14
@[go_sem] theorem x48_14:XR 48 g48_14 [mvo 43 4,aso 2 43,opo 3 (.assign (.const (.int .i64 8)))]:=xk
@[go_sem] theorem t48_14:TK g48_14:=tk
noncomputable def g48_15:=regAt Proofs.Try.f48 15
@[go_sem] theorem x48_15:XR 48 g48_15 [opo 44 (.binOp .add 3 (.tmp 33) (.const (.int .i64 1)) 3),mvo 33 44]:=xk
@[go_sem] theorem t48_15:TK g48_15:=tk
noncomputable def g48_16:=regAt Proofs.Try.f48 16
@[go_sem] theorem x48_16:XR 48 g48_16 [opo 45 (.binOp .add 3 (.tmp 21) (.const (.int .i64 1)) 3),mvo 21 45]:=xk
@[go_sem] theorem t48_16:TK g48_16:=tk
noncomputable def g48_17:=regAt Proofs.Try.f48 17
@[go_sem] theorem x48_17:XR 48 g48_17 [mvo 46 3,opo 47 (.binOp .neq 27 (.tmp 46) (.const (.int .i64 0)) 27)]:=xk
@[go_sem] theorem t48_17:TK g48_17:=tk
noncomputable def g48_18:=regAt Proofs.Try.f48 18
@[go_sem] theorem x48_18:XR 48 g48_18 [mvo 48 2,mvo 49 3,aso 2 48,aso 3 49]:=xk
@[go_sem] theorem t48_18:TK g48_18:=tk
noncomputable def g48_19:=regAt Proofs.Try.f48 19
@[go_sem] theorem x48_19:XR 48 g48_19 [mvo 50 0,opo 51 (.call ⟨(.builtin .len),#[(.tmp 50)],#[56]⟩),opo 52 (.move (.const (.int .i64 0)))]:=xk
@[go_sem] theorem t48_19:TK g48_19:=tk
noncomputable def g48_20:=regAt Proofs.Try.f48 20
@[go_sem] theorem x48_20:XR 48 g48_20 [opo 53 (.binOp .lss 3 (.tmp 52) (.tmp 51) 3)]:=xk
@[go_sem] theorem t48_20:TK g48_20:=tk
noncomputable def g48_21:=regAt Proofs.Try.f48 21
@[go_sem] theorem x48_21:XR 48 g48_21 [mvo 54 52,aso 8 54]:=xk
@[go_sem] theorem t48_21:TK g48_21:=tk
noncomputable def g48_22:=regAt Proofs.Try.f48 22
@[go_sem] theorem x48_22:XR 48 g48_22 [mvo 55 0,mvo 56 8,opo 57 (.build 61 #[(0,(.tmp 56))]),opo 58 (.call ⟨(.value (.func 119)),#[(.tmp 55),(.tmp 57)],#[56,61]⟩)]:=xk
@[go_sem] theorem t48_22:TK g48_22:=tk
noncomputable def g48_23:=regAt Proofs.Try.f48 23
@[go_sem] theorem x48_23:XR 48 g48_23 [opo 10 (.alloc 66),(none,(.store 66 (.tmp 10) (.tmp 60)),none)]:=xk
@[go_sem] theorem t48_23:TK g48_23:=tk
noncomputable def g48_24:=regAt Proofs.Try.f48 24
@[go_sem] theorem x48_24:XR 48 g48_24 [fao 61 66 10 0,ldo 62 3 61,opo 63 (.binOp .neq 3 (.tmp 62) (.const (.int .i64 5)) 3)]:=xk
@[go_sem] theorem t48_24:TK g48_24:=tk
noncomputable def g48_25:=regAt Proofs.Try.f48 25
@[go_sem] theorem x48_25:XR 48 g48_25 [mvo 64 8,aso 2 64,opo 3 (.assign (.const (.int .i64 9)))]:=xk
@[go_sem] theorem t48_25:TK g48_25:=tk
noncomputable def g48_26:=regAt Proofs.Try.f48 26
@[go_sem] theorem x48_26:XR 48 g48_26 [opo 65 (.binOp .add 3 (.tmp 52) (.const (.int .i64 1)) 3),mvo 52 65]:=xk
@[go_sem] theorem t48_26:TK g48_26:=tk
noncomputable def g48_27:=regAt Proofs.Try.f48 27
@[go_sem] theorem x48_27:XR 48 g48_27 [opo 2 (.assign (.const (.int .i64 (-1)))),opo 3 (.assign (.const (.int .i64 0)))]:=xk
@[go_sem] theorem t48_27:TK g48_27:=tk
noncomputable def l48_0:Code:=(.seq (.region 11 g48_11 false) (.seq (.cond (.tmp 34) .skip (.exit 3)) (.seq (.block 4 (.seq (.region 12 g48_12 false) (.seq (.seq (.region 13 g48_13 false) (.cond (.tmp 42) (.exit 4) .skip)) (.seq (.region 14 g48_14 false) (.exit 1))))) (.region 15 g48_15 false))))
theorem dl48_0{ro nt:Nat}{fr:PT}{H:Hp}:(den cx).loop ro 48 nt l48_0 fr H=xbind (ex cx (den cx) ro 48 nt (.seq (.region 11 g48_11 false) (.seq (.cond (.tmp 34) .skip (.exit 3)) (.seq (.block 4 (.seq (.region 12 g48_12 false) (.seq (.seq (.region 13 g48_13 false) (.cond (.tmp 42) (.exit 4) .skip)) (.seq (.region 14 g48_14 false) (.exit 1))))) (.region 15 g48_15 false)))) fr H) (contR (trimmed ((den cx).loop ro 48 nt l48_0) H.length)):=den_loop_x l48_0
noncomputable def l48_1:Code:=(.seq (.region 6 g48_6 false) (.seq (.cond (.tmp 22) .skip (.exit 1)) (.seq (.block 2 (.seq (.region 7 g48_7 false) (.seq (.seq (.region 8 g48_8 false) (.cond (.tmp 28) (.seq (.region 9 g48_9 false) .ret) .skip)) (.seq (.region 10 g48_10 false) (.block 3 (.loop l48_0)))))) (.region 16 g48_16 false))))
theorem dl48_1{ro nt:Nat}{fr:PT}{H:Hp}:(den cx).loop ro 48 nt l48_1 fr H=xbind (ex cx (den cx) ro 48 nt (.seq (.region 6 g48_6 false) (.seq (.cond (.tmp 22) .skip (.exit 1)) (.seq (.block 2 (.seq (.region 7 g48_7 false) (.seq (.seq (.region 8 g48_8 false) (.cond (.tmp 28) (.seq (.region 9 g48_9 false) .ret) .skip)) (.seq (.region 10 g48_10 false) (.block 3 (.loop l48_0)))))) (.region 16 g48_16 false)))) fr H) (contR (trimmed ((den cx).loop ro 48 nt l48_1) H.length)):=den_loop_x l48_1
noncomputable def q48_2:Code:=(.region 23 g48_23 false)
noncomputable def r48_2:Code:=(.block 8 (.seq (.region 24 g48_24 false) (.cond (.tmp 63) (.exit 6) .skip)))
noncomputable def l48_3:Code:=(.seq (.region 20 g48_20 false) (.seq (.cond (.tmp 53) .skip (.exit 5)) (.seq (.block 6 (.seq (.region 21 g48_21 false) (.seq (.seq (.region 22 g48_22 false) (.block 7 (.rangeFunc (.tmp 58) #[59,60] q48_2 r48_2))) (.seq (.region 25 g48_25 false) .ret)))) (.region 26 g48_26 false))))
theorem dl48_3{ro nt:Nat}{fr:PT}{H:Hp}:(den cx).loop ro 48 nt l48_3 fr H=xbind (ex cx (den cx) ro 48 nt (.seq (.region 20 g48_20 false) (.seq (.cond (.tmp 53) .skip (.exit 5)) (.seq (.block 6 (.seq (.region 21 g48_21 false) (.seq (.seq (.region 22 g48_22 false) (.block 7 (.rangeFunc (.tmp 58) #[59,60] q48_2 r48_2))) (.seq (.region 25 g48_25 false) .ret)))) (.region 26 g48_26 false)))) fr H) (contR (trimmed ((den cx).loop ro 48 nt l48_3) H.length)):=den_loop_x l48_3
theorem b48:Proofs.Try.f48.body=some (.seq (.region 0 g48_0 false) (.scope (.seq (.block 0 (.seq (.region 1 g48_1 false) (.cond (.tmp 11) (.seq (.region 2 g48_2 false) .ret) (.seq (.region 3 g48_3 false) (.cond (.tmp 15) (.seq (.region 4 g48_4 false) .ret) .skip))))) (.seq (.label 0) (.seq (.seq (.region 5 g48_5 false) (.block 1 (.loop l48_1))) (.seq (.seq (.region 17 g48_17 false) (.cond (.tmp 47) (.seq (.region 18 g48_18 false) .ret) .skip)) (.seq (.label 1) (.seq (.seq (.region 19 g48_19 false) (.block 5 (.loop l48_3))) (.seq (.region 27 g48_27 false) .ret))))))))):=by kernel_rfl
theorem c48{h:Hd}{ro:Nat}{H:Hp}(a0:AV):callB cx h ro 48 [a0] H=returned cx [(.tmp 2),(.tmp 3)] (ex cx h ro 48 66 (.seq (.region 0 g48_0 false) (.scope (.seq (.block 0 (.seq (.region 1 g48_1 false) (.cond (.tmp 11) (.seq (.region 2 g48_2 false) .ret) (.seq (.region 3 g48_3 false) (.cond (.tmp 15) (.seq (.region 4 g48_4 false) .ret) .skip))))) (.seq (.label 0) (.seq (.seq (.region 5 g48_5 false) (.block 1 (.loop l48_1))) (.seq (.seq (.region 17 g48_17 false) (.cond (.tmp 47) (.seq (.region 18 g48_18 false) .ret) .skip)) (.seq (.label 1) (.seq (.seq (.region 19 g48_19 false) (.block 5 (.loop l48_3))) (.seq (.region 27 g48_27 false) .ret))))))))) (PT.nil.set 0 (drp a0)) H):=by
 have hf:cx.fns 48=some Proofs.Try.f48:=by kernel_rfl
 simp only[callB,hf,funced,b48,bodied]
 rfl
noncomputable def g159_0:=regAt Proofs.Try.f159 0
@[go_sem] theorem x159_0:XR 159 g159_0 [opo 0 (.alloc 209)]:=xk
@[go_sem] theorem t159_0:TK g159_0:=tk
noncomputable def g159_1:=regAt Proofs.Try.f159 1
@[go_sem] theorem x159_1:XR 159 g159_1 [opo 1 (.build 209 #[(0,(.const (.int .i64 0))),(1,(.const (.int .i64 2))),(2,(.const (.int .i64 1))),(3,(.const (.int .i64 4))),(4,(.const (.int .i64 3))),(5,(.const (.int .i64 5)))]),(none,(.store 209 (.tmp 0) (.tmp 1)),none)]:=xk
@[go_sem] theorem t159_1:TK g159_1:=tk
theorem b159:Proofs.Try.f159.body=some (.seq (.region 0 g159_0 false) (.seq (.region 1 g159_1 false) .ret)):=by kernel_rfl
theorem c159{h:Hd}{ro:Nat}{H:Hp}:callB cx h ro 159 [] H=returned cx [(.cell 0 209)] (ex cx h ro 159 2 (.seq (.region 0 g159_0 false) (.seq (.region 1 g159_1 false) .ret)) PT.nil H):=by
 have hf:cx.fns 159=some Proofs.Try.f159:=by kernel_rfl
 simp only[callB,hf,funced,b159,bodied]
 rw[if_pos (of_decide_eq_true (by kernel_rfl))]
 rfl
noncomputable def g122_0:=regAt Proofs.Try.f122 0
@[go_sem] theorem x122_0:XR 122 g122_0 [opo 1 (.box 3 (.tmp 0)),opo 2 (.assign (.const .nilFunc))]:=xk
@[go_sem] theorem t122_0:TK g122_0:=tk
noncomputable def g122_1:=regAt Proofs.Try.f122 1
@[go_sem] theorem x122_1:XR 122 g122_1 [opo 3 (.makeFunc (.func 158) #[] #[(.tmp 1)]),aso 2 3]:=xk
@[go_sem] theorem t122_1:TK g122_1:=tk
theorem b122:Proofs.Try.f122.body=some (.seq (.region 0 g122_0 false) (.seq (.region 1 g122_1 false) .ret)):=by kernel_rfl
theorem c122{h:Hd}{ro:Nat}{H:Hp}(a0:AV):callB cx h ro 122 [a0] H=returned cx [(.tmp 2)] (ex cx h ro 122 4 (.seq (.region 0 g122_0 false) (.seq (.region 1 g122_1 false) .ret)) (PT.nil.set 0 (drp a0)) H):=by
 have hf:cx.fns 122=some Proofs.Try.f122:=by kernel_rfl
 simp only[callB,hf,funced,b122,bodied]
 rfl
noncomputable def g158_0:=regAt Proofs.Try.f158 0
@[go_sem] theorem x158_0:XR 158 g158_0 [opo 5 (.call ⟨(.value (.func 159)),#[],#[]⟩),opo 3 (.alloc 209),(none,(.store 209 (.tmp 3) (.tmp 5)),none)]:=xk
@[go_sem] theorem t158_0:TK g158_0:=tk
noncomputable def g158_1:=regAt Proofs.Try.f158 1
@[go_sem] theorem x158_1:XR 158 g158_1 [opo 6 (.move (.const (.int .i64 0)))]:=xk
@[go_sem] theorem t158_1:TK g158_1:=tk
noncomputable def g158_2:=regAt Proofs.Try.f158 2
@[go_sem] theorem x158_2:XR 158 g158_2 [opo 7 (.binOp .lss 3 (.tmp 6) (.const (.int .i64 6)) 3)]:=xk
@[go_sem] theorem t158_2:TK g158_2:=tk
noncomputable def g158_3:=regAt Proofs.Try.f158 3
@[go_sem] theorem x158_3:XR 158 g158_3 [mvo 8 6,aso 4 8]:=xk
@[go_sem] theorem t158_3:TK g158_3:=tk
noncomputable def g158_4:=regAt Proofs.Try.f158 4
@[go_sem] theorem x158_4:XR 158 g158_4 [mvo 9 4,mvo 10 4,iao 11 209 3 9,(none,(.store 3 (.tmp 11) (.tmp 10)),none)]:=xk
@[go_sem] theorem t158_4:TK g158_4:=tk
noncomputable def g158_5:=regAt Proofs.Try.f158 5
@[go_sem] theorem x158_5:XR 158 g158_5 [opo 12 (.binOp .add 3 (.tmp 6) (.const (.int .i64 1)) 3),mvo 6 12]:=xk
@[go_sem] theorem t158_5:TK g158_5:=tk
noncomputable def g158_6:=regAt Proofs.Try.f158 6
@[go_sem] theorem x158_6:XR 158 g158_6 [mvo 13 0,ldo 14 209 3,opo 15 (.call ⟨(.value (.tmp 13)),#[(.tmp 14),(.const (.int .i64 0))],#[209,3]⟩)]:=xk
@[go_sem] theorem t158_6:TK g158_6:=tk
noncomputable def g158_7:=regAt Proofs.Try.f158 7
@[go_sem] theorem x158_7:XUR 158 g158_7 [(0,0,[],mvo 16 0),(1,0,[0],opo 17 (.call ⟨(.value (.func 159)),#[],#[]⟩)),(2,0,[0,1],ldo 18 3 1),(3,0,[],opo 19 (.call ⟨(.value (.tmp 16)),#[(.tmp 17),(.tmp 18)],#[209,3]⟩))] 0:=xuk
@[go_sem] theorem t158_7:TK g158_7:=tk
noncomputable def l158_0:Code:=(.seq (.region 2 g158_2 false) (.seq (.cond (.tmp 7) .skip (.exit 0)) (.seq (.block 1 (.seq (.region 3 g158_3 false) (.region 4 g158_4 false))) (.region 5 g158_5 false))))
theorem dl158_0{ro nt:Nat}{fr:PT}{H:Hp}:(den cx).loop ro 158 nt l158_0 fr H=xbind (ex cx (den cx) ro 158 nt (.seq (.region 2 g158_2 false) (.seq (.cond (.tmp 7) .skip (.exit 0)) (.seq (.block 1 (.seq (.region 3 g158_3 false) (.region 4 g158_4 false))) (.region 5 g158_5 false)))) fr H) (contR (trimmed ((den cx).loop ro 158 nt l158_0) H.length)):=den_loop_x l158_0
theorem b158:Proofs.Try.f158.body=some (.seq (.region 0 g158_0 false) (.seq (.seq (.region 1 g158_1 false) (.block 0 (.loop l158_0))) (.seq (.region 6 g158_6 false) (.cond (.tmp 15) (.region 7 g158_7 true) .skip)))):=by kernel_rfl
theorem c158{h:Hd}{ro:Nat}{H:Hp}(a0 a1:AV):callB cx h ro 158 [a0,a1] H=returned cx [] (ex cx h ro 158 20 (.seq (.region 0 g158_0 false) (.seq (.seq (.region 1 g158_1 false) (.block 0 (.loop l158_0))) (.seq (.region 6 g158_6 false) (.cond (.tmp 15) (.region 7 g158_7 true) .skip)))) ((PT.nil.set 0 (drp a0)).set 1 (drp a1)) H):=by
 have hf:cx.fns 158=some Proofs.Try.f158:=by kernel_rfl
 simp only[callB,hf,funced,b158,bodied]
 rfl
noncomputable def g123_0:=regAt Proofs.Try.f123 0
@[go_sem] theorem x123_0:XR 123 g123_0 [opo 3 (.assign (.const (.slice none 0 0)))]:=xk
@[go_sem] theorem t123_0:TK g123_0:=tk
noncomputable def g123_1:=regAt Proofs.Try.f123 1
@[go_sem] theorem x123_1:XR 123 g123_1 [mvo 6 0,opo 7 (.call ⟨(.builtin .len),#[(.tmp 6)],#[64]⟩),opo 8 (.move (.const (.int .i64 0)))]:=xk
@[go_sem] theorem t123_1:TK g123_1:=tk
noncomputable def g123_2:=regAt Proofs.Try.f123 2
@[go_sem] theorem x123_2:XR 123 g123_2 [opo 9 (.binOp .lss 3 (.tmp 8) (.tmp 7) 3)]:=xk
@[go_sem] theorem t123_2:TK g123_2:=tk
noncomputable def g123_3:=regAt Proofs.Try.f123 3
@[go_sem] theorem x123_3:XR 123 g123_3 [iao 10 64 6 8,ldo 11 63 10,opo 5 (.alloc 63),(none,(.store 63 (.tmp 5) (.tmp 11)),none)]:=xk
@[go_sem] theorem t123_3:TK g123_3:=tk
noncomputable def g123_4:=regAt Proofs.Try.f123 4
@[go_sem] theorem x123_4:XR 123 g123_4 [mvo 12 3,fao 13 63 5 0,ldo 14 3 13,ldo 15 3 1,opo 16 (.binOp .add 3 (.tmp 14) (.tmp 15) 3),fao 17 63 5 1,ldo 18 3 17,opo 19 (.build 63 #[(0,(.tmp 16)),(1,(.tmp 18))]),opo 20 (.buildSlice 64 1 #[(0,(.tmp 19))]),opo 21 (.call ⟨(.builtin .append),#[(.tmp 12),(.tmp 20)],#[64,64]⟩),aso 3 21]:=xk
@[go_sem] theorem t123_4_12:takes g123_4 12=true:=nk
@[go_sem] theorem t123_4_13:takes g123_4 13=false:=nk
@[go_sem] theorem t123_4_14:takes g123_4 14=false:=nk
@[go_sem] theorem t123_4_15:takes g123_4 15=false:=nk
@[go_sem] theorem t123_4_16:takes g123_4 16=false:=nk
@[go_sem] theorem t123_4_17:takes g123_4 17=false:=nk
@[go_sem] theorem t123_4_18:takes g123_4 18=false:=nk
@[go_sem] theorem t123_4_19:takes g123_4 19=false:=nk
@[go_sem] theorem t123_4_20:takes g123_4 20=false:=nk
@[go_sem] theorem t123_4_21:takes g123_4 21=false:=nk
@[go_sem] theorem t123_4_3:takes g123_4 3=false:=nk
noncomputable def g123_5:=regAt Proofs.Try.f123 5
@[go_sem] theorem x123_5:XR 123 g123_5 [opo 22 (.binOp .add 3 (.tmp 8) (.const (.int .i64 1)) 3),mvo 8 22]:=xk
@[go_sem] theorem t123_5:TK g123_5:=tk
noncomputable def g123_6:=regAt Proofs.Try.f123 6
@[go_sem] theorem x123_6:XR 123 g123_6 [mvo 23 3,aso 3 23]:=xk
@[go_sem] theorem t123_6:TK g123_6:=tk
noncomputable def l123_0:Code:=(.seq (.region 2 g123_2 false) (.seq (.cond (.tmp 9) .skip (.exit 0)) (.seq (.block 1 (.seq (.region 3 g123_3 false) (.region 4 g123_4 false))) (.region 5 g123_5 false))))
theorem dl123_0{ro nt:Nat}{fr:PT}{H:Hp}:(den cx).loop ro 123 nt l123_0 fr H=xbind (ex cx (den cx) ro 123 nt (.seq (.region 2 g123_2 false) (.seq (.cond (.tmp 9) .skip (.exit 0)) (.seq (.block 1 (.seq (.region 3 g123_3 false) (.region 4 g123_4 false))) (.region 5 g123_5 false)))) fr H) (contR (trimmed ((den cx).loop ro 123 nt l123_0) H.length)):=den_loop_x l123_0
theorem b123:Proofs.Try.f123.body=some (.seq (.region 0 g123_0 false) (.seq (.seq (.region 1 g123_1 false) (.block 0 (.loop l123_0))) (.seq (.region 6 g123_6 false) .ret))):=by kernel_rfl
theorem c123{h:Hd}{ro:Nat}{H:Hp}(a0 a1:AV):callB cx h ro 123 [a0,a1] H=returned cx [(.tmp 3)] (ex cx h ro 123 24 (.seq (.region 0 g123_0 false) (.seq (.seq (.region 1 g123_1 false) (.block 0 (.loop l123_0))) (.seq (.region 6 g123_6 false) .ret))) ((PT.nil.set 0 (drp a0)).set 1 (drp a1)) H):=by
 have hf:cx.fns 123=some Proofs.Try.f123:=by kernel_rfl
 simp only[callB,hf,funced,b123,bodied]
 rfl
noncomputable def g54_0:=regAt Proofs.Try.f54 0
@[go_sem] theorem x54_0:XR 54 g54_0 [opo 1 (.box 56 (.tmp 0)),opo 2 (.assign (.const (.slice none 0 0)))]:=xk
@[go_sem] theorem t54_0:TK g54_0:=tk
noncomputable def g54_1:=regAt Proofs.Try.f54 1
@[go_sem] theorem x54_1:XR 54 g54_1 [ldo 12 56 1,opo 13 (.call ⟨(.value (.func 48)),#[(.tmp 12)],#[56]⟩),mvo 11 13,opo 14 (.extract (.tmp 11) 0),opo 15 (.extract (.tmp 11) 1),aso 3 14,aso 4 15]:=xk
@[go_sem] theorem t54_1:TK g54_1:=tk
noncomputable def g54_2:=regAt Proofs.Try.f54 2
@[go_sem] theorem x54_2:XR 54 g54_2 [mvo 16 4,opo 17 (.binOp .neq 27 (.tmp 16) (.const (.int .i64 0)) 27)]:=xk
@[go_sem] theorem t54_2:TK g54_2:=tk
noncomputable def g54_3:=regAt Proofs.Try.f54 3
@[go_sem] theorem x54_3:XR 54 g54_3 [opo 2 (.assign (.const (.slice none 0 0)))]:=xk
@[go_sem] theorem t54_3:TK g54_3:=tk
noncomputable def g54_4:=regAt Proofs.Try.f54 4
@[go_sem] theorem x54_4:XR 54 g54_4 [opo 5 (.alloc 56)]:=xk
@[go_sem] theorem t54_4:TK g54_4:=tk
noncomputable def g54_5:=regAt Proofs.Try.f54 5
@[go_sem] theorem x54_5:XR 54 g54_5 [ldo 18 56 1,opo 19 (.call ⟨(.builtin .len),#[(.tmp 18)],#[56]⟩),opo 20 (.call ⟨(.value (.func 122)),#[(.tmp 19)],#[3]⟩)]:=xk
@[go_sem] theorem t54_5:TK g54_5:=tk
noncomputable def g54_6:=regAt Proofs.Try.f54 6
@[go_sem] theorem x54_6:XR 54 g54_6 [opo 6 (.alloc 209),(none,(.store 209 (.tmp 6) (.tmp 21)),none)]:=xk
@[go_sem] theorem t54_6:TK g54_6:=tk
noncomputable def g54_7:=regAt Proofs.Try.f54 7
@[go_sem] theorem x54_7:XR 54 g54_7 [opo 7 (.alloc 3),(none,(.store 3 (.tmp 7) (.tmp 22)),none)]:=xk
@[go_sem] theorem t54_7:TK g54_7:=tk
noncomputable def g54_8:=regAt Proofs.Try.f54 8
@[go_sem] theorem x54_8:XR 54 g54_8 [opo 23 (.makeFunc (.func 123) #[] #[(.tmp 7)]),aso 8 23]:=xk
@[go_sem] theorem t54_8:TK g54_8:=tk
noncomputable def g54_9:=regAt Proofs.Try.f54 9
@[go_sem] theorem x54_9:XR 54 g54_9 [ldo 24 56 1,opo 25 (.call ⟨(.builtin .len),#[(.tmp 24)],#[56]⟩),opo 26 (.move (.const (.int .i64 0)))]:=xk
@[go_sem] theorem t54_9:TK g54_9:=tk
noncomputable def g54_10:=regAt Proofs.Try.f54 10
@[go_sem] theorem x54_10:XR 54 g54_10 [opo 27 (.binOp .lss 3 (.tmp 26) (.tmp 25) 3)]:=xk
@[go_sem] theorem t54_10:TK g54_10:=tk
noncomputable def g54_11:=regAt Proofs.Try.f54 11
@[go_sem] theorem x54_11:XR 54 g54_11 [iao 28 56 24 26,ldo 29 66 28,opo 10 (.alloc 66),(none,(.store 66 (.tmp 10) (.tmp 29)),none)]:=xk
@[go_sem] theorem t54_11:TK g54_11:=tk
noncomputable def g54_12:=regAt Proofs.Try.f54 12
@[go_sem] theorem x54_12:XUR 54 g54_12 [(0,0,[],fao 30 66 10 0),(1,0,[],ldo 31 3 30),(2,0,[],iao 32 209 6 31),(3,0,[],ldo 33 3 32),(4,0,[0,1,2,3],mvo 34 8),(5,0,[0,1,2,3,4],fao 35 66 10 4),(6,0,[0,1,2,3,4],ldo 36 64 35),(7,0,[0,1,2,3],opo 37 (.call ⟨(.value (.tmp 34)),#[(.tmp 36)],#[64]⟩)),(8,0,[4,7],fao 38 66 10 0),(9,0,[],(none,(.store 3 (.tmp 38) (.tmp 33)),none)),(10,0,[],fao 39 66 10 4),(11,0,[],(none,(.store 64 (.tmp 39) (.tmp 37)),none))] 0:=xuk
@[go_sem] theorem t54_12:TK g54_12:=tk
noncomputable def g54_13:=regAt Proofs.Try.f54 13
@[go_sem] theorem x54_13:XR 54 g54_13 [ldo 40 56 5,ldo 41 66 10,opo 42 (.buildSlice 56 1 #[(0,(.tmp 41))]),opo 43 (.call ⟨(.builtin .append),#[(.tmp 40),(.tmp 42)],#[56,56]⟩),(none,(.store 56 (.tmp 5) (.tmp 43)),none)]:=xk
@[go_sem] theorem t54_13_40:takes g54_13 40=true:=nk
@[go_sem] theorem t54_13_41:takes g54_13 41=false:=nk
@[go_sem] theorem t54_13_42:takes g54_13 42=false:=nk
@[go_sem] theorem t54_13_43:takes g54_13 43=false:=nk
noncomputable def g54_14:=regAt Proofs.Try.f54 14
@[go_sem] theorem x54_14:XR 54 g54_14 [opo 44 (.binOp .add 3 (.tmp 26) (.const (.int .i64 1)) 3),mvo 26 44]:=xk
@[go_sem] theorem t54_14:TK g54_14:=tk
noncomputable def g54_15:=regAt Proofs.Try.f54 15
@[go_sem] theorem x54_15:XR 54 g54_15 [ldo 45 56 5,aso 2 45]:=xk
@[go_sem] theorem t54_15:TK g54_15:=tk
noncomputable def l54_0:Code:=(.seq (.region 10 g54_10 false) (.seq (.cond (.tmp 27) .skip (.exit 2)) (.seq (.block 3 (.seq (.region 11 g54_11 false) (.seq (.region 12 g54_12 true) (.region 13 g54_13 false)))) (.region 14 g54_14 false))))
theorem dl54_0{ro nt:Nat}{fr:PT}{H:Hp}:(den cx).loop ro 54 nt l54_0 fr H=xbind (ex cx (den cx) ro 54 nt (.seq (.region 10 g54_10 false) (.seq (.cond (.tmp 27) .skip (.exit 2)) (.seq (.block 3 (.seq (.region 11 g54_11 false) (.seq (.region 12 g54_12 true) (.region 13 g54_13 false)))) (.region 14 g54_14 false)))) fr H) (contR (trimmed ((den cx).loop ro 54 nt l54_0) H.length)):=den_loop_x l54_0
noncomputable def q54_1:Code:=(.seq (.region 6 g54_6 false) (.region 7 g54_7 false))
noncomputable def r54_1:Code:=(.block 1 (.seq (.region 8 g54_8 false) (.seq (.region 9 g54_9 false) (.block 2 (.loop l54_0)))))
theorem b54:Proofs.Try.f54.body=some (.seq (.region 0 g54_0 false) (.seq (.seq (.region 1 g54_1 false) (.seq (.region 2 g54_2 false) (.cond (.tmp 17) (.seq (.region 3 g54_3 false) .ret) .skip))) (.seq (.region 4 g54_4 false) (.seq (.seq (.region 5 g54_5 false) (.block 0 (.rangeFunc (.tmp 20) #[21,22] q54_1 r54_1))) (.seq (.region 15 g54_15 false) .ret))))):=by kernel_rfl
theorem c54{h:Hd}{ro:Nat}{H:Hp}(a0:AV):callB cx h ro 54 [a0] H=returned cx [(.tmp 2)] (ex cx h ro 54 46 (.seq (.region 0 g54_0 false) (.seq (.seq (.region 1 g54_1 false) (.seq (.region 2 g54_2 false) (.cond (.tmp 17) (.seq (.region 3 g54_3 false) .ret) .skip))) (.seq (.region 4 g54_4 false) (.seq (.seq (.region 5 g54_5 false) (.block 0 (.rangeFunc (.tmp 20) #[21,22] q54_1 r54_1))) (.seq (.region 15 g54_15 false) .ret))))) (PT.nil.set 0 (drp a0)) H):=by
 have hf:cx.fns 54=some Proofs.Try.f54:=by kernel_rfl
 simp only[callB,hf,funced,b54,bodied]
 rfl
noncomputable def g125_0:=regAt Proofs.Try.f125 0
@[go_sem] theorem x125_0:XR 125 g125_0 [opo 4 (.assign (.const (.bool false)))]:=xk
@[go_sem] theorem t125_0:TK g125_0:=tk
noncomputable def g125_1:=regAt Proofs.Try.f125 1
@[go_sem] theorem x125_1:XR 125 g125_1 [mvo 5 1,opo 6 (.binOp .geq 3 (.tmp 5) (.const (.int .i64 0)) 3),mvo 7 6,(some 8,(.move (.tmp 1)),some (7,true)),(some 9,(.move (.tmp 0)),some (7,true)),(some 10,(.call ⟨(.builtin .len),#[(.tmp 9)],#[212]⟩),some (7,true)),(some 11,(.binOp .lss 3 (.tmp 8) (.tmp 10) 3),some (7,true)),opo 12 (.pick (.tmp 7) (.tmp 11) (.const (.bool false))),mvo 13 12,(some 14,(.move (.tmp 0)),some (13,true)),(some 15,(.move (.tmp 1)),some (13,true)),(some 16,(.indexAddr 212 (.tmp 14) (.tmp 15)),some (13,true)),(some 17,(.fieldAddr 66 (.tmp 16) 0),some (13,true)),(some 18,(.load 3 (.tmp 17)),some (13,true)),(some 19,(.binOp .geq 3 (.tmp 18) (.const (.int .i64 1)) 3),some (13,true)),opo 20 (.pick (.tmp 13) (.tmp 19) (.const (.bool false))),mvo 21 20,(some 22,(.move (.tmp 0)),some (21,true)),(some 23,(.move (.tmp 1)),some (21,true)),(some 24,(.indexAddr 212 (.tmp 22) (.tmp 23)),some (21,true)),(some 25,(.fieldAddr 66 (.tmp 24) 0),some (21,true)),(some 26,(.load 3 (.tmp 25)),some (21,true)),(some 27,(.binOp .leq 3 (.tmp 26) (.const (.int .i64 4)) 3),some (21,true)),opo 28 (.pick (.tmp 21) (.tmp 27) (.const (.bool false))),aso 4 28]:=xk
@[go_sem] theorem t125_1:TK g125_1:=tk
theorem b125:Proofs.Try.f125.body=some (.seq (.region 0 g125_0 false) (.seq (.region 1 g125_1 false) .ret)):=by kernel_rfl
theorem c125{h:Hd}{ro:Nat}{H:Hp}(a0 a1:AV):callB cx h ro 125 [a0,a1] H=returned cx [(.tmp 4)] (ex cx h ro 125 29 (.seq (.region 0 g125_0 false) (.seq (.region 1 g125_1 false) .ret)) ((PT.nil.set 0 (drp a0)).set 1 (drp a1)) H):=by
 have hf:cx.fns 125=some Proofs.Try.f125:=by kernel_rfl
 simp only[callB,hf,funced,b125,bodied]
 rfl
noncomputable def g127_0:=regAt Proofs.Try.f127 0
@[go_sem] theorem x127_0:XR 127 g127_0 [opo 3 (.box 212 (.tmp 0)),opo 4 (.box 3 (.tmp 1)),opo 5 (.box 64 (.tmp 2)),opo 6 (.assign (.const .nilFunc))]:=xk
@[go_sem] theorem t127_0:TK g127_0:=tk
noncomputable def g127_1:=regAt Proofs.Try.f127 1
@[go_sem] theorem x127_1:XR 127 g127_1 [opo 7 (.makeFunc (.func 160) #[] #[(.tmp 5),(.tmp 3),(.tmp 4)]),aso 6 7]:=xk
@[go_sem] theorem t127_1:TK g127_1:=tk
theorem b127:Proofs.Try.f127.body=some (.seq (.region 0 g127_0 false) (.seq (.region 1 g127_1 false) .ret)):=by kernel_rfl
theorem c127{h:Hd}{ro:Nat}{H:Hp}(a0 a1 a2:AV):callB cx h ro 127 [a0,a1,a2] H=returned cx [(.tmp 6)] (ex cx h ro 127 8 (.seq (.region 0 g127_0 false) (.seq (.region 1 g127_1 false) .ret)) (((PT.nil.set 0 (drp a0)).set 1 (drp a1)).set 2 (drp a2)) H):=by
 have hf:cx.fns 127=some Proofs.Try.f127:=by kernel_rfl
 simp only[callB,hf,funced,b127,bodied]
 rfl
noncomputable def g160_0:=regAt Proofs.Try.f160 0
@[go_sem] theorem x160_0:XR 160 g160_0 [ldo 8 64 1,opo 9 (.call ⟨(.builtin .len),#[(.tmp 8)],#[64]⟩),opo 10 (.move (.const (.int .i64 0)))]:=xk
@[go_sem] theorem t160_0:TK g160_0:=tk
noncomputable def g160_1:=regAt Proofs.Try.f160 1
@[go_sem] theorem x160_1:XR 160 g160_1 [opo 11 (.binOp .lss 3 (.tmp 10) (.tmp 9) 3)]:=xk
@[go_sem] theorem t160_1:TK g160_1:=tk
noncomputable def g160_2:=regAt Proofs.Try.f160 2
@[go_sem] theorem x160_2:XR 160 g160_2 [iao 12 64 8 10,ldo 13 63 12,opo 6 (.alloc 63),(none,(.store 63 (.tmp 6) (.tmp 13)),none)]:=xk
@[go_sem] theorem t160_2:TK g160_2:=tk
noncomputable def g160_3:=regAt Proofs.Try.f160 3
@[go_sem] theorem x160_3:XR 160 g160_3 [ldo 14 212 2,fao 15 63 6 0,ldo 16 3 15,fao 17 63 6 1,ldo 18 3 17,opo 19 (.build 61 #[(0,(.tmp 16)),(1,(.tmp 18))]),opo 20 (.call ⟨(.value (.func 51)),#[(.tmp 14),(.tmp 19)],#[56,61]⟩),opo 7 (.alloc 61),(none,(.store 61 (.tmp 7) (.tmp 20)),none)]:=xk
@[go_sem] theorem t160_3:TK g160_3:=tk
noncomputable def g160_4:=regAt Proofs.Try.f160 4
@[go_sem] theorem x160_4:XUR 160 g160_4 [(0,0,[],ldo 21 212 2),(1,0,[0],fao 22 61 7 0),(2,0,[0],ldo 23 3 22),(3,0,[],opo 24 (.call ⟨(.value (.func 125)),#[(.tmp 21),(.tmp 23)],#[212,3]⟩)),(4,0,[],mvo 25 24),(5,0,[],(some 26,(.move (.tmp 0)),some (25,true))),(6,0,[5],(some 27,(.fieldAddr 61 (.tmp 7) 0),some (25,true))),(7,0,[5],(some 28,(.load 3 (.tmp 27)),some (25,true))),(8,0,[5,6,7],(some 29,(.load 212 (.tmp 2)),some (25,true))),(9,0,[5,6,7,8],(some 30,(.fieldAddr 61 (.tmp 7) 0),some (25,true))),(10,0,[5,6,7,8],(some 31,(.load 3 (.tmp 30)),some (25,true))),(11,0,[5,6,7],(some 32,(.indexAddr 212 (.tmp 29) (.tmp 31)),some (25,true))),(12,0,[5,6,7],(some 33,(.fieldAddr 66 (.tmp 32) 1),some (25,true))),(13,0,[5,6,7],(some 34,(.load 3 (.tmp 33)),some (25,true))),(14,0,[5,6,7,8,9,10,11,12,13],(some 35,(.fieldAddr 61 (.tmp 7) 1),some (25,true))),(15,0,[5,6,7,8,9,10,11,12,13],(some 36,(.load 3 (.tmp 35)),some (25,true))),(16,0,[5,6,7],(some 37,(.binOp .add 3 (.tmp 34) (.tmp 36) 3),some (25,true))),(17,0,[5,6,7,8,9,10,11,12,13,14,15,16],(some 38,(.load 212 (.tmp 2)),some (25,true))),(18,0,[5,6,7,8,9,10,11,12,13,14,15,16,17],(some 39,(.load 3 (.tmp 3)),some (25,true))),(19,0,[5,6,7,8,9,10,11,12,13,14,15,16],(some 40,(.indexAddr 212 (.tmp 38) (.tmp 39)),some (25,true))),(20,0,[5,6,7,8,9,10,11,12,13,14,15,16],(some 41,(.fieldAddr 66 (.tmp 40) 1),some (25,true))),(21,0,[5,6,7,8,9,10,11,12,13,14,15,16],(some 42,(.load 3 (.tmp 41)),some (25,true))),(22,0,[5,6,7],(some 43,(.binOp .sub 3 (.tmp 37) (.tmp 42) 3),some (25,true))),(23,0,[],(some 44,(.call ⟨(.value (.tmp 26)),#[(.tmp 28),(.tmp 43)],#[3,3]⟩),some (25,true))),(24,0,[],(some 45,(.unOp .not 4 (.tmp 44)),some (25,true))),(25,0,[],opo 46 (.pick (.tmp 25) (.tmp 45) (.const (.bool false))))] 0:=xuk
@[go_sem] theorem t160_4:TK g160_4:=tk
noncomputable def g160_5:=regAt Proofs.Try.f160 5
@[go_sem] theorem x160_5:XR 160 g160_5 [opo 47 (.binOp .add 3 (.tmp 10) (.const (.int .i64 1)) 3),mvo 10 47]:=xk
@[go_sem] theorem t160_5:TK g160_5:=tk
noncomputable def l160_0:Code:=(.seq (.region 1 g160_1 false) (.seq (.cond (.tmp 11) .skip (.exit 0)) (.seq (.block 1 (.seq (.region 2 g160_2 false) (.seq (.region 3 g160_3 false) (.seq (.region 4 g160_4 true) (.cond (.tmp 46) .ret .skip))))) (.region 5 g160_5 false))))
theorem dl160_0{ro nt:Nat}{fr:PT}{H:Hp}:(den cx).loop ro 160 nt l160_0 fr H=xbind (ex cx (den cx) ro 160 nt (.seq (.region 1 g160_1 false) (.seq (.cond (.tmp 11) .skip (.exit 0)) (.seq (.block 1 (.seq (.region 2 g160_2 false) (.seq (.region 3 g160_3 false) (.seq (.region 4 g160_4 true) (.cond (.tmp 46) .ret .skip))))) (.region 5 g160_5 false)))) fr H) (contR (trimmed ((den cx).loop ro 160 nt l160_0) H.length)):=den_loop_x l160_0
theorem b160:Proofs.Try.f160.body=some (.seq (.region 0 g160_0 false) (.block 0 (.loop l160_0))):=by kernel_rfl
theorem c160{h:Hd}{ro:Nat}{H:Hp}(a0 a1 a2 a3:AV):callB cx h ro 160 [a0,a1,a2,a3] H=returned cx [] (ex cx h ro 160 48 (.seq (.region 0 g160_0 false) (.block 0 (.loop l160_0))) ((((PT.nil.set 0 (drp a0)).set 1 (drp a1)).set 2 (drp a2)).set 3 (drp a3)) H):=by
 have hf:cx.fns 160=some Proofs.Try.f160:=by kernel_rfl
 simp only[callB,hf,funced,b160,bodied]
 rfl
noncomputable def g129_0:=regAt Proofs.Try.f129 0
@[go_sem] theorem x129_0:XR 129 g129_0 [opo 3 (.assign (.const (.bool false)))]:=xk
@[go_sem] theorem t129_0:TK g129_0:=tk
noncomputable def g129_1:=regAt Proofs.Try.f129 1
@[go_sem] theorem x129_1:XR 129 g129_1 [mvo 4 0,opo 5 (.binOp .geq 3 (.tmp 4) (.const (.int .i64 0)) 3),mvo 6 5,(some 7,(.move (.tmp 0)),some (6,true)),(some 8,(.load 56 (.tmp 1)),some (6,true)),(some 9,(.call ⟨(.builtin .len),#[(.tmp 8)],#[56]⟩),some (6,true)),(some 10,(.binOp .lss 3 (.tmp 7) (.tmp 9) 3),some (6,true)),opo 11 (.pick (.tmp 6) (.tmp 10) (.const (.bool false))),aso 3 11]:=xk
@[go_sem] theorem t129_1:TK g129_1:=tk
theorem b129:Proofs.Try.f129.body=some (.seq (.region 0 g129_0 false) (.seq (.region 1 g129_1 false) .ret)):=by kernel_rfl
theorem c129{h:Hd}{ro:Nat}{H:Hp}(a0 a1:AV):callB cx h ro 129 [a0,a1] H=returned cx [(.tmp 3)] (ex cx h ro 129 12 (.seq (.region 0 g129_0 false) (.seq (.region 1 g129_1 false) .ret)) ((PT.nil.set 0 (drp a0)).set 1 (drp a1)) H):=by
 have hf:cx.fns 129=some Proofs.Try.f129:=by kernel_rfl
 simp only[callB,hf,funced,b129,bodied]
 rfl
noncomputable def g67_0:=regAt Proofs.Try.f67 0
@[go_sem] theorem x67_0:XR 67 g67_0 [opo 2 (.alloc 3),opo 3 (.alloc 27)]:=xk
@[go_sem] theorem t67_0:TK g67_0:=tk
noncomputable def g67_1:=regAt Proofs.Try.f67 1
@[go_sem] theorem x67_1:XR 67 g67_1 [mvo 11 0,opo 12 (.call ⟨(.value (.func 48)),#[(.tmp 11)],#[56]⟩),mvo 10 12,opo 13 (.extract (.tmp 10) 0),opo 14 (.extract (.tmp 10) 1),(none,(.store 3 (.tmp 2) (.tmp 13)),none),(none,(.store 27 (.tmp 3) (.tmp 14)),none)]:=xk
@[go_sem] theorem t67_1:TK g67_1:=tk
noncomputable def g67_2:=regAt Proofs.Try.f67 2
@[go_sem] theorem x67_2:XR 67 g67_2 [ldo 15 27 3,opo 16 (.binOp .neq 27 (.tmp 15) (.const (.int .i64 0)) 27)]:=xk
@[go_sem] theorem t67_2:TK g67_2:=tk
noncomputable def g67_3:=regAt Proofs.Try.f67 3
@[go_sem] theorem x67_3:XUR 67 g67_3 [(0,0,[],ldo 17 3 2),(1,0,[0],ldo 18 27 3),(2,0,[1],(none,(.store 3 (.tmp 2) (.tmp 17)),none)),(3,0,[],(none,(.store 27 (.tmp 3) (.tmp 18)),none))] 0:=xuk
@[go_sem] theorem t67_3:TK g67_3:=tk
noncomputable def g67_4:=regAt Proofs.Try.f67 4
@[go_sem] theorem x67_4:XR 67 g67_4 [mvo 19 0,aso 4 19]:=xk
@[go_sem] theorem t67_4:TK g67_4:=tk
noncomputable def g67_5:=regAt Proofs.Try.f67 5
@[go_sem] theorem x67_5:XR 67 g67_5 [mvo 20 0,opo 21 (.call ⟨(.builtin .len),#[(.tmp 20)],#[56]⟩),opo 22 (.move (.const (.int .i64 0)))]:=xk
@[go_sem] theorem t67_5:TK g67_5:=tk
noncomputable def g67_6:=regAt Proofs.Try.f67 6
@[go_sem] theorem x67_6:XR 67 g67_6 [opo 23 (.binOp .lss 3 (.tmp 22) (.tmp 21) 3)]:=xk
@[go_sem] theorem t67_6:TK g67_6:=tk
noncomputable def g67_7:=regAt Proofs.Try.f67 7
@[go_sem] theorem x67_7:XR 67 g67_7 [mvo 24 22,iao 25 56 20 22,ldo 26 66 25,opo 5 (.alloc 3),opo 6 (.alloc 66),(none,(.store 3 (.tmp 5) (.tmp 24)),none),(none,(.store 66 (.tmp 6) (.tmp 26)),none)]:=xk
@[go_sem] theorem t67_7:TK g67_7:=tk
noncomputable def g67_8:=regAt Proofs.Try.f67 8
@[go_sem] theorem x67_8:XR 67 g67_8 [mvo 27 4,ldo 28 3 5,opo 29 (.call ⟨(.value (.func 125)),#[(.tmp 27),(.tmp 28)],#[212,3]⟩),opo 30 (.unOp .not 4 (.tmp 29))]:=xk
@[go_sem] theorem t67_8:TK g67_8:=tk
noncomputable def g67_9:=regAt Proofs.Try.f67 9
@[go_sem] theorem x67_9:XR 67 g67_9 [fao 31 66 6 4,ldo 32 64 31,fao 33 66 6 4,ldo 34 64 33,opo 35 (.call ⟨(.builtin .len),#[(.tmp 34)],#[64]⟩),fao 36 66 6 4,ldo 37 64 36,opo 38 (.call ⟨(.builtin .len),#[(.tmp 37)],#[64]⟩),opo 39 (.slice 64 (.tmp 32) none (some (.tmp 35)) (some (.tmp 38))),aso 7 39]:=xk
@[go_sem] theorem t67_9:TK g67_9:=tk
noncomputable def g67_10:=regAt Proofs.Try.f67 10
@[go_sem] theorem x67_10:XR 67 g67_10 [fao 40 66 6 2,ldo 41 4 40]:=xk
@[go_sem] theorem t67_10:TK g67_10:=tk
noncomputable def g67_11:=regAt Proofs.Try.f67 11
@[go_sem] theorem x67_11:XR 67 g67_11 [mvo 42 7,fao 43 66 6 3,ldo 44 63 43,opo 45 (.buildSlice 64 1 #[(0,(.tmp 44))]),opo 46 (.call ⟨(.builtin .append),#[(.tmp 42),(.tmp 45)],#[64,64]⟩),aso 7 46]:=xk
@[go_sem] theorem t67_11_42:takes g67_11 42=true:=nk
@[go_sem] theorem t67_11_43:takes g67_11 43=false:=nk
@[go_sem] theorem t67_11_44:takes g67_11 44=false:=nk
@[go_sem] theorem t67_11_45:takes g67_11 45=false:=nk
@[go_sem] theorem t67_11_46:takes g67_11 46=false:=nk
@[go_sem] theorem t67_11_7:takes g67_11 7=false:=nk
noncomputable def g67_12:=regAt Proofs.Try.f67 12
@[go_sem] theorem x67_12:XR 67 g67_12 [mvo 47 4,ldo 48 3 5,mvo 49 7,opo 50 (.call ⟨(.value (.func 127)),#[(.tmp 47),(.tmp 48),(.tmp 49)],#[212,3,64]⟩)]:=xk
@[go_sem] theorem t67_12:TK g67_12:=tk
noncomputable def g67_13:=regAt Proofs.Try.f67 13
@[go_sem] theorem x67_13:XR 67 g67_13 [aso 9 52]:=xk
@[go_sem] theorem t67_13:TK g67_13:=tk
noncomputable def g67_14:=regAt Proofs.Try.f67 14
@[go_sem] theorem x67_14:XR 67 g67_14 [mvo 53 9,opo 54 (.binOp .lss 3 (.tmp 53) (.const (.int .i64 1)) 3)]:=xk
@[go_sem] theorem t67_14:TK g67_14:=tk
noncomputable def g67_15:=regAt Proofs.Try.f67 15
@[go_sem] theorem x67_15:XR 67 g67_15 [ldo 55 3 5,(none,(.store 3 (.tmp 2) (.tmp 55)),none),(none,(.store 27 (.tmp 3) (.const (.int .i64 10))),none)]:=xk
@[go_sem] theorem t67_15:TK g67_15:=tk
noncomputable def g67_16:=regAt Proofs.Try.f67 16
@[go_sem] theorem x67_16:XR 67 g67_16 [opo 56 (.binOp .add 3 (.tmp 22) (.const (.int .i64 1)) 3),mvo 22 56]:=xk
@[go_sem] theorem t67_16:TK g67_16:=tk
noncomputable def g67_17:=regAt Proofs.Try.f67 17
@[go_sem] theorem x67_17:XR 67 g67_17 [(none,(.store 3 (.tmp 2) (.const (.int .i64 (-1)))),none),(none,(.store 27 (.tmp 3) (.const (.int .i64 0))),none)]:=xk
@[go_sem] theorem t67_17:TK g67_17:=tk
noncomputable def q67_0:Code:=(.region 13 g67_13 false)
noncomputable def r67_0:Code:=(.block 3 (.seq (.region 14 g67_14 false) (.cond (.tmp 54) (.seq (.region 15 g67_15 false) .ret) .skip)))
noncomputable def l67_1:Code:=(.seq (.region 6 g67_6 false) (.seq (.cond (.tmp 23) .skip (.exit 0)) (.seq (.block 1 (.seq (.region 7 g67_7 false) (.seq (.seq (.region 8 g67_8 false) (.cond (.tmp 30) (.exit 1) .skip)) (.seq (.region 9 g67_9 false) (.seq (.seq (.region 10 g67_10 false) (.cond (.tmp 41) (.region 11 g67_11 false) .skip)) (.seq (.region 12 g67_12 false) (.block 2 (.rangeFunc (.tmp 50) #[51,52] q67_0 r67_0)))))))) (.region 16 g67_16 false))))
theorem dl67_1{ro nt:Nat}{fr:PT}{H:Hp}:(den cx).loop ro 67 nt l67_1 fr H=xbind (ex cx (den cx) ro 67 nt (.seq (.region 6 g67_6 false) (.seq (.cond (.tmp 23) .skip (.exit 0)) (.seq (.block 1 (.seq (.region 7 g67_7 false) (.seq (.seq (.region 8 g67_8 false) (.cond (.tmp 30) (.exit 1) .skip)) (.seq (.region 9 g67_9 false) (.seq (.seq (.region 10 g67_10 false) (.cond (.tmp 41) (.region 11 g67_11 false) .skip)) (.seq (.region 12 g67_12 false) (.block 2 (.rangeFunc (.tmp 50) #[51,52] q67_0 r67_0)))))))) (.region 16 g67_16 false)))) fr H) (contR (trimmed ((den cx).loop ro 67 nt l67_1) H.length)):=den_loop_x l67_1
theorem b67:Proofs.Try.f67.body=some (.seq (.region 0 g67_0 false) (.seq (.seq (.region 1 g67_1 false) (.seq (.region 2 g67_2 false) (.cond (.tmp 16) (.seq (.region 3 g67_3 true) .ret) .skip))) (.seq (.region 4 g67_4 false) (.seq (.seq (.region 5 g67_5 false) (.block 0 (.loop l67_1))) (.seq (.region 17 g67_17 false) .ret))))):=by kernel_rfl
theorem c67{h:Hd}{ro:Nat}{H:Hp}(a0:AV):callB cx h ro 67 [a0] H=returned cx [(.cell 2 3),(.cell 3 27)] (ex cx h ro 67 57 (.seq (.region 0 g67_0 false) (.seq (.seq (.region 1 g67_1 false) (.seq (.region 2 g67_2 false) (.cond (.tmp 16) (.seq (.region 3 g67_3 true) .ret) .skip))) (.seq (.region 4 g67_4 false) (.seq (.seq (.region 5 g67_5 false) (.block 0 (.loop l67_1))) (.seq (.region 17 g67_17 false) .ret))))) (PT.nil.set 0 (drp a0)) H):=by
 have hf:cx.fns 67=some Proofs.Try.f67:=by kernel_rfl
 simp only[callB,hf,funced,b67,bodied]
 rfl
noncomputable def g69_0:=regAt Proofs.Try.f69 0
@[go_sem] theorem x69_0:XR 69 g69_0 [opo 3 (.box 56 (.tmp 0)),opo 5 (.box 63 (.tmp 2)),opo 6 (.alloc 3),opo 7 (.alloc 4)]:=xk
@[go_sem] theorem t69_0:TK g69_0:=tk
noncomputable def g69_1:=regAt Proofs.Try.f69 1
@[go_sem] theorem x69_1:XR 69 g69_1 [opo 13 (.makeFunc (.func 129) #[] #[(.tmp 3)]),aso 8 13]:=xk
@[go_sem] theorem t69_1:TK g69_1:=tk
noncomputable def g69_2:=regAt Proofs.Try.f69 2
@[go_sem] theorem x69_2:XR 69 g69_2 [mvo 14 8,mvo 15 1,opo 16 (.call ⟨(.value (.tmp 14)),#[(.tmp 15)],#[3]⟩),opo 17 (.unOp .not 4 (.tmp 16)),mvo 18 17,(some 19,(.move (.tmp 8)),some (18,false)),(some 20,(.fieldAddr 63 (.tmp 5) 0),some (18,false)),(some 21,(.load 3 (.tmp 20)),some (18,false)),(some 22,(.call ⟨(.value (.tmp 19)),#[(.tmp 21)],#[3]⟩),some (18,false)),(some 23,(.unOp .not 4 (.tmp 22)),some (18,false)),opo 24 (.pick (.tmp 18) (.const (.bool true)) (.tmp 23))]:=xk
@[go_sem] theorem t69_2:TK g69_2:=tk
noncomputable def g69_3:=regAt Proofs.Try.f69 3
@[go_sem] theorem x69_3:XR 69 g69_3 [(none,(.store 3 (.tmp 6) (.const (.int .i64 0))),none),(none,(.store 4 (.tmp 7) (.const (.bool false))),none)]:=xk
@[go_sem] theorem t69_3:TK g69_3:=tk
noncomputable def g69_4:=regAt Proofs.Try.f69 4
@[go_sem] theorem x69_4:XR 69 g69_4 [ldo 26 56 3,opo 27 (.call ⟨(.value (.func 48)),#[(.tmp 26)],#[56]⟩),mvo 25 27,opo 28 (.extract (.tmp 25) 0),opo 29 (.extract (.tmp 25) 1),aso 9 28,aso 10 29]:=xk
@[go_sem] theorem t69_4:TK g69_4:=tk
noncomputable def g69_5:=regAt Proofs.Try.f69 5
@[go_sem] theorem x69_5:XR 69 g69_5 [mvo 30 10,opo 31 (.binOp .neq 27 (.tmp 30) (.const (.int .i64 0)) 27)]:=xk
@[go_sem] theorem t69_5:TK g69_5:=tk
noncomputable def g69_6:=regAt Proofs.Try.f69 6
@[go_sem] theorem x69_6:XR 69 g69_6 [(none,(.store 3 (.tmp 6) (.const (.int .i64 0))),none),(none,(.store 4 (.tmp 7) (.const (.bool false))),none)]:=xk
@[go_sem] theorem t69_6:TK g69_6:=tk
noncomputable def g69_7:=regAt Proofs.Try.f69 7
@[go_sem] theorem x69_7:XR 69 g69_7 [ldo 32 56 3,mvo 33 1,ldo 34 63 5,opo 35 (.buildSlice 64 1 #[(0,(.tmp 34))]),opo 36 (.call ⟨(.value (.func 127)),#[(.tmp 32),(.tmp 33),(.tmp 35)],#[212,3,64]⟩)]:=xk
@[go_sem] theorem t69_7:TK g69_7:=tk
noncomputable def g69_8:=regAt Proofs.Try.f69 8
@[go_sem] theorem x69_8:XR 69 g69_8 [aso 12 38]:=xk
@[go_sem] theorem t69_8:TK g69_8:=tk
noncomputable def g69_9:=regAt Proofs.Try.f69 9
@[go_sem] theorem x69_9:XR 69 g69_9 [mvo 39 12,(none,(.store 3 (.tmp 6) (.tmp 39)),none),(none,(.store 4 (.tmp 7) (.const (.bool true))),none)]:=xk
@[go_sem] theorem t69_9:TK g69_9:=tk
noncomputable def g69_10:=regAt Proofs.Try.f69 10
@[go_sem] theorem x69_10:XR 69 g69_10 [(none,(.store 3 (.tmp 6) (.const (.int .i64 0))),none),(none,(.store 4 (.tmp 7) (.const (.bool false))),none)]:=xk
@[go_sem] theorem t69_10:TK g69_10:=tk
noncomputable def q69_0:Code:=(.region 8 g69_8 false)
noncomputable def r69_0:Code:=(.block 1 (.seq (.region 9 g69_9 false) .ret))
theorem b69:Proofs.Try.f69.body=some (.seq (.region 0 g69_0 false) (.seq (.region 1 g69_1 false) (.seq (.seq (.region 2 g69_2 false) (.cond (.tmp 24) (.seq (.region 3 g69_3 false) .ret) .skip)) (.seq (.seq (.region 4 g69_4 false) (.seq (.region 5 g69_5 false) (.cond (.tmp 31) (.seq (.region 6 g69_6 false) .ret) .skip))) (.seq (.seq (.region 7 g69_7 false) (.block 0 (.rangeFunc (.tmp 36) #[37,38] q69_0 r69_0))) (.seq (.region 10 g69_10 false) .ret)))))):=by kernel_rfl
theorem c69{h:Hd}{ro:Nat}{H:Hp}(a0 a1 a2:AV):callB cx h ro 69 [a0,a1,a2] H=returned cx [(.cell 6 3),(.cell 7 4)] (ex cx h ro 69 40 (.seq (.region 0 g69_0 false) (.seq (.region 1 g69_1 false) (.seq (.seq (.region 2 g69_2 false) (.cond (.tmp 24) (.seq (.region 3 g69_3 false) .ret) .skip)) (.seq (.seq (.region 4 g69_4 false) (.seq (.region 5 g69_5 false) (.cond (.tmp 31) (.seq (.region 6 g69_6 false) .ret) .skip))) (.seq (.seq (.region 7 g69_7 false) (.block 0 (.rangeFunc (.tmp 36) #[37,38] q69_0 r69_0))) (.seq (.region 10 g69_10 false) .ret)))))) (((PT.nil.set 0 (drp a0)).set 1 (drp a1)).set 2 (drp a2)) H):=by
 have hf:cx.fns 69=some Proofs.Try.f69:=by kernel_rfl
 simp only[callB,hf,funced,b69,bodied]
 rfl
end Go.Abs.Tab
