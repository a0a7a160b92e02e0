/- Codes of this seat's functions, their regions step by step. (Printed by a program.) -/
import Derived.Test.YtiinagmombigpaaEvY
set_option linter.unnecessarySimpa false
set_option linter.unusedSimpArgs false
set_option linter.unusedVariables false
namespace Go.Abs.Tab
abbrev XR(n:FuncId)(g:Array Oper)(l:List XO):Prop:=∀ {h:Hd} {ro nt id:Nat} {fr:PT} {H:Hp},ex cx h ro n nt (.region id g false) fr H=xbind (xrun cx h ro n nt g l fr H) fun p=>some (.normal,p.1,p.2)
theorem XR.mk{n:FuncId}{g:Array Oper}{l:List XO}(hg:guardsOk g=true)(hl:strip g=l):XR n g l:=x_region l hg hl
abbrev XUR(n:FuncId)(g:Array Oper)(l:List XU)(m:Nat):Prop:=∀ {h:Hd} {ro nt id:Nat} {fr:PT} {H:Hp},ex cx h ro n nt (.region id g true) fr H=orRaw (xrunU cx h ro n nt g H.length l fr (H++List.replicate m .res) []) fun _=>regionRaw cx h ro n nt g fr H
theorem XUR.mk{n:FuncId}{g:Array Oper}{l:List XU}{m:Nat}(h1:guardsOk g=true)(h2:forward g=true)(h3:tempsOk g=true)(hl:stripU cx n g=l)(hm:(g.toList.filter (isAlloc cx n)).length=m):XUR n g l m:=x_regionU l m h1 h2 h3 hl hm
abbrev TK(g:Array Oper):Prop:=∀d:Tmp,takes g d=false
abbrev mvo(d t:Tmp):XO:=(some d,.move (.tmp t),none)
abbrev fao(d t a i:Nat):XO:=(some d,.fieldAddr t (.tmp a) i,none)
abbrev ldo(d t a:Nat):XO:=(some d,.load t (.tmp a),none)
abbrev aso(d a:Nat):XO:=(some d,.assign (.tmp a),none)
abbrev iao(d t a i:Nat):XO:=(some d,.indexAddr t (.tmp a) (.tmp i),none)
abbrev opo(d:Tmp)(x:Op):XO:=(some d,x,none)
theorem xk{n:FuncId}{g:Array Oper}{l:List XO}(hg:guardsOk g=true:=by kernel_rfl)(hl:strip g=l:=by kernel_rfl):XR n g l:=x_region l hg hl
theorem xuk{n:FuncId}{g:Array Oper}{l:List XU}{m:Nat}(h1:guardsOk g=true:=by kernel_rfl)(h2:forward g=true:=by kernel_rfl)(h3:tempsOk g=true:=by kernel_rfl)(hl:stripU cx n g=l:=by kernel_rfl)(hm:(g.toList.filter (isAlloc cx n)).length=m:=by kernel_rfl):XUR n g l m:=x_regionU l m h1 h2 h3 hl hm
attribute [go_sem] Int.reduceOfNat Int.reduceNegSucc
abbrev NS(g:Array Oper):={l:List XO // strip g=l}
abbrev NU(n:FuncId)(g:Array Oper):={l:List XU // stripU cx n g=l}
theorem cbd{h:Hd}{ro n nt:Nat}{H:Hp}{args:List AV}{fn:Func}{c:Code}{rs:List ResultVar}{fr:PT}(hf:cx.fns n=some fn:=by kernel_rfl)(hb:fn.body=some c:=by kernel_rfl)(hr:fn.results.toList=rs:=by kernel_rfl)(hn:fn.ntmps=nt:=by kernel_rfl)(ha:args.length≤nt∧nt≤16000:=by simp)(hs:setArgs ((List.range args.length).zip args) .nil=fr:=by rfl):callB cx h ro n args H=returned cx rs (ex cx h ro n nt c fr H):=by
 simp only[callB,hf,funced,hb,bodied]
 rw[hn,if_pos ha,hr,hs]
theorem tk{g:Array Oper}(h:∀d:Tmp,takes g d=false:=by (intro _;kernel_rfl)):TK g:=h
noncomputable def g130_0:=regAt Proofs.Try.f130 0
@[go_sem] theorem x130_0:XR 130 g130_0 (by exact(⟨_,by conv=>lhs;reduce⟩:NS g130_0).1):=xk
@[go_sem] theorem t130_0:TK g130_0:=tk
noncomputable def g130_1:=regAt Proofs.Try.f130 1
@[go_sem] theorem x130_1:XR 130 g130_1 (by exact(⟨_,by conv=>lhs;reduce⟩:NS g130_1).1):=xk
@[go_sem] theorem t130_1:TK g130_1:=tk
noncomputable def g130_2:=regAt Proofs.Try.f130 2
@[go_sem] theorem x130_2:XR 130 g130_2 (by exact(⟨_,by conv=>lhs;reduce⟩:NS g130_2).1):=xk
@[go_sem] theorem t130_2:TK g130_2:=tk
noncomputable def g130_3:=regAt Proofs.Try.f130 3
@[go_sem] theorem x130_3:XR 130 g130_3 (by exact(⟨_,by conv=>lhs;reduce⟩:NS g130_3).1):=xk
@[go_sem] theorem t130_3:TK g130_3:=tk
noncomputable def g130_4:=regAt Proofs.Try.f130 4
@[go_sem] theorem x130_4:XR 130 g130_4 (by exact(⟨_,by conv=>lhs;reduce⟩:NS g130_4).1):=xk
@[go_sem] theorem t130_4:TK g130_4:=tk
noncomputable def g130_5:=regAt Proofs.Try.f130 5
@[go_sem] theorem x130_5:XR 130 g130_5 (by exact(⟨_,by conv=>lhs;reduce⟩:NS g130_5).1):=xk
@[go_sem] theorem t130_5:TK g130_5:=tk
noncomputable def g130_6:=regAt Proofs.Try.f130 6
@[go_sem] theorem x130_6:XR 130 g130_6 (by exact(⟨_,by conv=>lhs;reduce⟩:NS g130_6).1):=xk
@[go_sem] theorem t130_6:TK g130_6:=tk
noncomputable def g130_7:=regAt Proofs.Try.f130 7
@[go_sem] theorem x130_7:XR 130 g130_7 (by exact(⟨_,by conv=>lhs;reduce⟩:NS g130_7).1):=xk
@[go_sem] theorem t130_7:TK g130_7:=tk
noncomputable def g130_8:=regAt Proofs.Try.f130 8
@[go_sem] theorem x130_8:XR 130 g130_8 (by exact(⟨_,by conv=>lhs;reduce⟩:NS g130_8).1):=xk
@[go_sem] theorem t130_8:TK g130_8:=tk
noncomputable def g130_9:=regAt Proofs.Try.f130 9
@[go_sem] theorem x130_9:XR 130 g130_9 (by exact(⟨_,by conv=>lhs;reduce⟩:NS g130_9).1):=xk
@[go_sem] theorem t130_9:TK g130_9:=tk
noncomputable def g130_10:=regAt Proofs.Try.f130 10
@[go_sem] theorem x130_10:XR 130 g130_10 (by exact(⟨_,by conv=>lhs;reduce⟩:NS g130_10).1):=xk
@[go_sem] theorem t130_10:TK g130_10:=tk
noncomputable def g130_11:=regAt Proofs.Try.f130 11
@[go_sem] theorem x130_11:XR 130 g130_11 (by exact(⟨_,by conv=>lhs;reduce⟩:NS g130_11).1):=xk
@[go_sem] theorem t130_11:TK g130_11:=tk
noncomputable def g130_12:=regAt Proofs.Try.f130 12
@[go_sem] theorem x130_12:XR 130 g130_12 (by exact(⟨_,by conv=>lhs;reduce⟩:NS g130_12).1):=xk
@[go_sem] theorem t130_12:TK g130_12:=tk
noncomputable def g130_13:=regAt Proofs.Try.f130 13
@[go_sem] theorem x130_13:XR 130 g130_13 (by exact(⟨_,by conv=>lhs;reduce⟩:NS g130_13).1):=xk
@[go_sem] theorem t130_13:TK g130_13:=tk
noncomputable def g130_14:=regAt Proofs.Try.f130 14
@[go_sem] theorem x130_14:XR 130 g130_14 (by exact(⟨_,by conv=>lhs;reduce⟩:NS g130_14).1):=xk
@[go_sem] theorem t130_14:TK g130_14:=tk
noncomputable def l130_0:Code:=(.seq (.region 4 g130_4 false) (.seq (.cond (.tmp 22) .skip (.exit 0)) (.seq (.block 1 (.seq (.region 5 g130_5 false) (.seq (.region 6 g130_6 false) (.seq (.region 7 g130_7 false) (.seq (.seq (.region 8 g130_8 false) (.cond (.tmp 34) (.seq (.region 9 g130_9 false) (.region 10 g130_10 false)) .skip)) (.region 11 g130_11 false)))))) (.region 12 g130_12 false))))
theorem dl130_0{ro nt:Nat}{fr:PT}{H:Hp}:(den cx).loop ro 130 nt l130_0 fr H=xbind (ex cx (den cx) ro 130 nt (.seq (.region 4 g130_4 false) (.seq (.cond (.tmp 22) .skip (.exit 0)) (.seq (.block 1 (.seq (.region 5 g130_5 false) (.seq (.region 6 g130_6 false) (.seq (.region 7 g130_7 false) (.seq (.seq (.region 8 g130_8 false) (.cond (.tmp 34) (.seq (.region 9 g130_9 false) (.region 10 g130_10 false)) .skip)) (.region 11 g130_11 false)))))) (.region 12 g130_12 false)))) fr H) (contR (trimmed ((den cx).loop ro 130 nt l130_0) H.length)):=den_loop_x l130_0
theorem c130{h:Hd}{ro:Nat}{H:Hp}(a0:AV):callB cx h ro 130 [a0] H=returned cx [(.tmp 2)] (ex cx h ro 130 51 (.seq (.region 0 g130_0 false) (.seq (.region 1 g130_1 false) (.seq (.region 2 g130_2 false) (.seq (.seq (.region 3 g130_3 false) (.block 0 (.loop l130_0))) (.seq (.region 13 g130_13 false) (.seq (.region 14 g130_14 false) .ret)))))) (PT.nil.set 0 (drp a0)) H):=cbd (fn:=Proofs.Try.f130)
noncomputable def g131_0:=regAt Proofs.Try.f131 0
@[go_sem] theorem x131_0:XR 131 g131_0 (by exact(⟨_,by conv=>lhs;reduce⟩:NS g131_0).1):=xk
@[go_sem] theorem t131_0:TK g131_0:=tk
noncomputable def g131_1:=regAt Proofs.Try.f131 1
@[go_sem] theorem x131_1:XR 131 g131_1 (by exact(⟨_,by conv=>lhs;reduce⟩:NS g131_1).1):=xk
@[go_sem] theorem t131_1:TK g131_1:=tk
noncomputable def g131_2:=regAt Proofs.Try.f131 2
@[go_sem] theorem x131_2:XR 131 g131_2 (by exact(⟨_,by conv=>lhs;reduce⟩:NS g131_2).1):=xk
@[go_sem] theorem t131_2:TK g131_2:=tk
noncomputable def g131_3:=regAt Proofs.Try.f131 3
@[go_sem] theorem x131_3:XR 131 g131_3 (by exact(⟨_,by conv=>lhs;reduce⟩:NS g131_3).1):=xk
@[go_sem] theorem t131_3:TK g131_3:=tk
noncomputable def g131_4:=regAt Proofs.Try.f131 4
@[go_sem] theorem x131_4:XR 131 g131_4 (by exact(⟨_,by conv=>lhs;reduce⟩:NS g131_4).1):=xk
@[go_sem] theorem t131_4:TK g131_4:=tk
noncomputable def g131_5:=regAt Proofs.Try.f131 5
@[go_sem] theorem x131_5:XR 131 g131_5 (by exact(⟨_,by conv=>lhs;reduce⟩:NS g131_5).1):=xk
@[go_sem] theorem t131_5:TK g131_5:=tk
noncomputable def g131_6:=regAt Proofs.Try.f131 6
@[go_sem] theorem x131_6:XUR 131 g131_6 (by exact(⟨_,by conv=>lhs;reduce⟩:NU 131 g131_6).1) 0:=xuk
@[go_sem] theorem t131_6_27:takes g131_6 27=false:=nk
@[go_sem] theorem t131_6_28:takes g131_6 28=true:=nk
@[go_sem] theorem t131_6_29:takes g131_6 29=false:=nk
@[go_sem] theorem t131_6_30:takes g131_6 30=false:=nk
@[go_sem] theorem t131_6_31:takes g131_6 31=false:=nk
@[go_sem] theorem t131_6_32:takes g131_6 32=false:=nk
@[go_sem] theorem t131_6_33:takes g131_6 33=false:=nk
@[go_sem] theorem t131_6_34:takes g131_6 34=false:=nk
@[go_sem] theorem t131_6_35:takes g131_6 35=false:=nk
noncomputable def g131_7:=regAt Proofs.Try.f131 7
@[go_sem] theorem x131_7:XR 131 g131_7 (by exact(⟨_,by conv=>lhs;reduce⟩:NS g131_7).1):=xk
@[go_sem] theorem t131_7:TK g131_7:=tk
noncomputable def g131_8:=regAt Proofs.Try.f131 8
@[go_sem] theorem x131_8:XR 131 g131_8 (by exact(⟨_,by conv=>lhs;reduce⟩:NS g131_8).1):=xk
@[go_sem] theorem t131_8:TK g131_8:=tk
noncomputable def l131_0:Code:=(.seq (.region 4 g131_4 false) (.seq (.cond (.tmp 25) .skip (.exit 0)) (.seq (.block 1 (.seq (.region 5 g131_5 false) (.region 6 g131_6 true))) (.region 7 g131_7 false))))
theorem dl131_0{ro nt:Nat}{fr:PT}{H:Hp}:(den cx).loop ro 131 nt l131_0 fr H=xbind (ex cx (den cx) ro 131 nt (.seq (.region 4 g131_4 false) (.seq (.cond (.tmp 25) .skip (.exit 0)) (.seq (.block 1 (.seq (.region 5 g131_5 false) (.region 6 g131_6 true))) (.region 7 g131_7 false)))) fr H) (contR (trimmed ((den cx).loop ro 131 nt l131_0) H.length)):=den_loop_x l131_0
theorem c131{h:Hd}{ro:Nat}{H:Hp}(a0 a1 a2:AV):callB cx h ro 131 [a0,a1,a2] H=returned cx [(.cell 6 111)] (ex cx h ro 131 38 (.seq (.region 0 g131_0 false) (.seq (.region 1 g131_1 false) (.seq (.region 2 g131_2 false) (.seq (.seq (.region 3 g131_3 false) (.block 0 (.loop l131_0))) (.seq (.region 8 g131_8 false) .ret))))) (((PT.nil.set 0 (drp a0)).set 1 (drp a1)).set 2 (drp a2)) H):=cbd (fn:=Proofs.Try.f131)
noncomputable def g161_0:=regAt Proofs.Try.f161 0
@[go_sem] theorem x161_0:XR 161 g161_0 (by exact(⟨_,by conv=>lhs;reduce⟩:NS g161_0).1):=xk
@[go_sem] theorem t161_0:TK g161_0:=tk
noncomputable def g161_1:=regAt Proofs.Try.f161 1
@[go_sem] theorem x161_1:XUR 161 g161_1 (by exact(⟨_,by conv=>lhs;reduce⟩:NU 161 g161_1).1) 1:=xuk
@[go_sem] theorem t161_1:TK g161_1:=tk
noncomputable def g161_2:=regAt Proofs.Try.f161 2
@[go_sem] theorem x161_2:XUR 161 g161_2 (by exact(⟨_,by conv=>lhs;reduce⟩:NU 161 g161_2).1) 0:=xuk
@[go_sem] theorem t161_2:TK g161_2:=tk
noncomputable def g161_3:=regAt Proofs.Try.f161 3
@[go_sem] theorem x161_3:XR 161 g161_3 (by exact(⟨_,by conv=>lhs;reduce⟩:NS g161_3).1):=xk
@[go_sem] theorem t161_3:TK g161_3:=tk
noncomputable def g161_4:=regAt Proofs.Try.f161 4
@[go_sem] theorem x161_4:XR 161 g161_4 (by exact(⟨_,by conv=>lhs;reduce⟩:NS g161_4).1):=xk
@[go_sem] theorem t161_4:TK g161_4:=tk
noncomputable def g161_5:=regAt Proofs.Try.f161 5
@[go_sem] theorem x161_5:XR 161 g161_5 (by exact(⟨_,by conv=>lhs;reduce⟩:NS g161_5).1):=xk
@[go_sem] theorem t161_5:TK g161_5:=tk
noncomputable def g161_6:=regAt Proofs.Try.f161 6
@[go_sem] theorem x161_6:XR 161 g161_6 (by exact(⟨_,by conv=>lhs;reduce⟩:NS g161_6).1):=xk
@[go_sem] theorem t161_6:TK g161_6:=tk
noncomputable def g161_7:=regAt Proofs.Try.f161 7
@[go_sem] theorem x161_7:XR 161 g161_7 (by exact(⟨_,by conv=>lhs;reduce⟩:NS g161_7).1):=xk
@[go_sem] theorem t161_7:TK g161_7:=tk
noncomputable def g161_8:=regAt Proofs.Try.f161 8
@[go_sem] theorem x161_8:XR 161 g161_8 (by exact(⟨_,by conv=>lhs;reduce⟩:NS g161_8).1):=xk
@[go_sem] theorem t161_8:TK g161_8:=tk
noncomputable def g161_9:=regAt Proofs.Try.f161 9
@[go_sem] theorem x161_9:XR 161 g161_9 (by exact(⟨_,by conv=>lhs;reduce⟩:NS g161_9).1):=xk
@[go_sem] theorem t161_9:TK g161_9:=tk
noncomputable def g161_10:=regAt Proofs.Try.f161 10
@[go_sem] theorem x161_10:XR 161 g161_10 (by exact(⟨_,by conv=>lhs;reduce⟩:NS g161_10).1):=xk
@[go_sem] theorem t161_10:TK g161_10:=tk
noncomputable def l161_0:Code:=(.seq (.region 4 g161_4 false) (.seq (.cond (.tmp 36) .skip (.exit 0)) (.seq (.block 1 (.seq (.region 5 g161_5 false) (.region 6 g161_6 false))) (.region 7 g161_7 false))))
theorem dl161_0{ro nt:Nat}{fr:PT}{H:Hp}:(den cx).loop ro 161 nt l161_0 fr H=xbind (ex cx (den cx) ro 161 nt (.seq (.region 4 g161_4 false) (.seq (.cond (.tmp 36) .skip (.exit 0)) (.seq (.block 1 (.seq (.region 5 g161_5 false) (.region 6 g161_6 false))) (.region 7 g161_7 false)))) fr H) (contR (trimmed ((den cx).loop ro 161 nt l161_0) H.length)):=den_loop_x l161_0
theorem c161{h:Hd}{ro:Nat}{H:Hp}(a0 a1:AV):callB cx h ro 161 [a0,a1] H=returned cx [(.cell 4 262)] (ex cx h ro 161 60 (.seq (.region 0 g161_0 false) (.seq (.region 1 g161_1 true) (.seq (.region 2 g161_2 true) (.seq (.seq (.region 3 g161_3 false) (.block 0 (.loop l161_0))) (.seq (.seq (.region 8 g161_8 false) (.cond (.tmp 50) (.region 9 g161_9 false) .skip)) (.seq (.region 10 g161_10 false) .ret)))))) ((PT.nil.set 0 (drp a0)).set 1 (drp a1)) H):=cbd (fn:=Proofs.Try.f161)
noncomputable def g176_0:=regAt Proofs.Try.f176 0
@[go_sem] theorem x176_0:XR 176 g176_0 (by exact(⟨_,by conv=>lhs;reduce⟩:NS g176_0).1):=xk
@[go_sem] theorem t176_0:TK g176_0:=tk
noncomputable def g176_1:=regAt Proofs.Try.f176 1
@[go_sem] theorem x176_1:XUR 176 g176_1 (by exact(⟨_,by conv=>lhs;reduce⟩:NU 176 g176_1).1) 1:=xuk
@[go_sem] theorem t176_1:TK g176_1:=tk
noncomputable def g176_2:=regAt Proofs.Try.f176 2
@[go_sem] theorem x176_2:XUR 176 g176_2 (by exact(⟨_,by conv=>lhs;reduce⟩:NU 176 g176_2).1) 1:=xuk
@[go_sem] theorem t176_2:TK g176_2:=tk
noncomputable def g176_3:=regAt Proofs.Try.f176 3
@[go_sem] theorem x176_3:XR 176 g176_3 (by exact(⟨_,by conv=>lhs;reduce⟩:NS g176_3).1):=xk
@[go_sem] theorem t176_3:TK g176_3:=tk
noncomputable def g176_4:=regAt Proofs.Try.f176 4
@[go_sem] theorem x176_4:XUR 176 g176_4 (by exact(⟨_,by conv=>lhs;reduce⟩:NU 176 g176_4).1) 0:=xuk
@[go_sem] theorem t176_4:TK g176_4:=tk
noncomputable def g176_5:=regAt Proofs.Try.f176 5
@[go_sem] theorem x176_5:XUR 176 g176_5 (by exact(⟨_,by conv=>lhs;reduce⟩:NU 176 g176_5).1) 0:=xuk
@[go_sem] theorem t176_5:TK g176_5:=tk
theorem c176{h:Hd}{ro:Nat}{H:Hp}(a0 a1 a2:AV):callB cx h ro 176 [a0,a1,a2] H=returned cx [(.cell 6 108)] (ex cx h ro 176 56 (.seq (.region 0 g176_0 false) (.seq (.region 1 g176_1 true) (.seq (.seq (.region 2 g176_2 true) (.seq (.region 3 g176_3 false) (.cond (.tmp 27) (.seq (.region 4 g176_4 true) .ret) .skip))) (.seq (.region 5 g176_5 true) .ret)))) (((PT.nil.set 0 (drp a0)).set 1 (drp a1)).set 2 (drp a2)) H):=cbd (fn:=Proofs.Try.f176)
noncomputable def g73_0:=regAt Proofs.Try.f73 0
@[go_sem] theorem x73_0:XR 73 g73_0 (by exact(⟨_,by conv=>lhs;reduce⟩:NS g73_0).1):=xk
@[go_sem] theorem t73_0:TK g73_0:=tk
noncomputable def g73_1:=regAt Proofs.Try.f73 1
@[go_sem] theorem x73_1:XR 73 g73_1 (by exact(⟨_,by conv=>lhs;reduce⟩:NS g73_1).1):=xk
@[go_sem] theorem t73_1:TK g73_1:=tk
noncomputable def g73_2:=regAt Proofs.Try.f73 2
@[go_sem] theorem x73_2:XR 73 g73_2 (by exact(⟨_,by conv=>lhs;reduce⟩:NS g73_2).1):=xk
@[go_sem] theorem t73_2:TK g73_2:=tk
noncomputable def g73_3:=regAt Proofs.Try.f73 3
@[go_sem] theorem x73_3:XR 73 g73_3 (by exact(⟨_,by conv=>lhs;reduce⟩:NS g73_3).1):=xk
@[go_sem] theorem t73_3:TK g73_3:=tk
noncomputable def g73_4:=regAt Proofs.Try.f73 4
@[go_sem] theorem x73_4:XR 73 g73_4 (by exact(⟨_,by conv=>lhs;reduce⟩:NS g73_4).1):=xk
@[go_sem] theorem t73_4:TK g73_4:=tk
noncomputable def g73_5:=regAt Proofs.Try.f73 5
@[go_sem] theorem x73_5:XR 73 g73_5 (by exact(⟨_,by conv=>lhs;reduce⟩:NS g73_5).1):=xk
@[go_sem] theorem t73_5:TK g73_5:=tk
noncomputable def g73_6:=regAt Proofs.Try.f73 6
@[go_sem] theorem x73_6:XR 73 g73_6 (by exact(⟨_,by conv=>lhs;reduce⟩:NS g73_6).1):=xk
@[go_sem] theorem t73_6:TK g73_6:=tk
noncomputable def g73_7:=regAt Proofs.Try.f73 7
@[go_sem] theorem x73_7:XR 73 g73_7 (by exact(⟨_,by conv=>lhs;reduce⟩:NS g73_7).1):=xk
@[go_sem] theorem t73_7:TK g73_7:=tk
noncomputable def g73_8:=regAt Proofs.Try.f73 8
@[go_sem] theorem x73_8:XR 73 g73_8 (by exact(⟨_,by conv=>lhs;reduce⟩:NS g73_8).1):=xk
@[go_sem] theorem t73_8:TK g73_8:=tk
noncomputable def g73_9:=regAt Proofs.Try.f73 9
@[go_sem] theorem x73_9:XUR 73 g73_9 (by exact(⟨_,by conv=>lhs;reduce⟩:NU 73 g73_9).1) 0:=xuk
@[go_sem] theorem t73_9_42:takes g73_9 42=false:=nk
@[go_sem] theorem t73_9_43:takes g73_9 43=false:=nk
@[go_sem] theorem t73_9_44:takes g73_9 44=false:=nk
@[go_sem] theorem t73_9_45:takes g73_9 45=false:=nk
@[go_sem] theorem t73_9_46:takes g73_9 46=true:=nk
@[go_sem] theorem t73_9_47:takes g73_9 47=false:=nk
@[go_sem] theorem t73_9_48:takes g73_9 48=false:=nk
@[go_sem] theorem t73_9_49:takes g73_9 49=false:=nk
@[go_sem] theorem t73_9_50:takes g73_9 50=false:=nk
@[go_sem] theorem t73_9_51:takes g73_9 51=false:=nk
@[go_sem] theorem t73_9_52:takes g73_9 52=false:=nk
@[go_sem] theorem t73_9_53:takes g73_9 53=false:=nk
@[go_sem] theorem t73_9_54:takes g73_9 54=false:=nk
@[go_sem] theorem t73_9_55:takes g73_9 55=false:=nk
@[go_sem] theorem t73_9_56:takes g73_9 56=false:=nk
@[go_sem] theorem t73_9_57:takes g73_9 57=false:=nk
noncomputable def g73_10:=regAt Proofs.Try.f73 10
@[go_sem] theorem x73_10:XR 73 g73_10 (by exact(⟨_,by conv=>lhs;reduce⟩:NS g73_10).1):=xk
@[go_sem] theorem t73_10:TK g73_10:=tk
noncomputable def g73_11:=regAt Proofs.Try.f73 11
@[go_sem] theorem x73_11:XR 73 g73_11 (by exact(⟨_,by conv=>lhs;reduce⟩:NS g73_11).1):=xk
@[go_sem] theorem t73_11:TK g73_11:=tk
noncomputable def g73_12:=regAt Proofs.Try.f73 12
@[go_sem] theorem x73_12:XR 73 g73_12 (by exact(⟨_,by conv=>lhs;reduce⟩:NS g73_12).1):=xk
@[go_sem] theorem t73_12:TK g73_12:=tk
noncomputable def g73_13:=regAt Proofs.Try.f73 13
@[go_sem] theorem x73_13:XR 73 g73_13 (by exact(⟨_,by conv=>lhs;reduce⟩:NS g73_13).1):=xk
@[go_sem] theorem t73_13:TK g73_13:=tk
noncomputable def g73_14:=regAt Proofs.Try.f73 14
@[go_sem] theorem x73_14:XR 73 g73_14 (by exact(⟨_,by conv=>lhs;reduce⟩:NS g73_14).1):=xk
@[go_sem] theorem t73_14:TK g73_14:=tk
noncomputable def g73_15:=regAt Proofs.Try.f73 15
@[go_sem] theorem x73_15:XR 73 g73_15 (by exact(⟨_,by conv=>lhs;reduce⟩:NS g73_15).1):=xk
@[go_sem] theorem t73_15:TK g73_15:=tk
noncomputable def g73_16:=regAt Proofs.Try.f73 16
@[go_sem] theorem x73_16:XR 73 g73_16 (by exact(⟨_,by conv=>lhs;reduce⟩:NS g73_16).1):=xk
@[go_sem] theorem t73_16:TK g73_16:=tk
noncomputable def g73_17:=regAt Proofs.Try.f73 17
@[go_sem] theorem x73_17:XR 73 g73_17 (by exact(⟨_,by conv=>lhs;reduce⟩:NS g73_17).1):=xk
@[go_sem] theorem t73_17:TK g73_17:=tk
noncomputable def g73_18:=regAt Proofs.Try.f73 18
@[go_sem] theorem x73_18:XR 73 g73_18 (by exact(⟨_,by conv=>lhs;reduce⟩:NS g73_18).1):=xk
@[go_sem] theorem t73_18:TK g73_18:=tk
noncomputable def g73_19:=regAt Proofs.Try.f73 19
@[go_sem] theorem x73_19:XR 73 g73_19 (by exact(⟨_,by conv=>lhs;reduce⟩:NS g73_19).1):=xk
@[go_sem] theorem t73_19:TK g73_19:=tk
noncomputable def g73_20:=regAt Proofs.Try.f73 20
@[go_sem] theorem x73_20:XUR 73 g73_20 (by exact(⟨_,by conv=>lhs;reduce⟩:NU 73 g73_20).1) 1:=xuk
@[go_sem] theorem t73_20:TK g73_20:=tk
noncomputable def g73_21:=regAt Proofs.Try.f73 21
@[go_sem] theorem x73_21:XR 73 g73_21 (by exact(⟨_,by conv=>lhs;reduce⟩:NS g73_21).1):=xk
@[go_sem] theorem t73_21:TK g73_21:=tk
noncomputable def g73_22:=regAt Proofs.Try.f73 22
@[go_sem] theorem x73_22:XR 73 g73_22 (by exact(⟨_,by conv=>lhs;reduce⟩:NS g73_22).1):=xk
@[go_sem] theorem t73_22:TK g73_22:=tk
noncomputable def g73_23:=regAt Proofs.Try.f73 23
@[go_sem] theorem x73_23:XR 73 g73_23 (by exact(⟨_,by conv=>lhs;reduce⟩:NS g73_23).1):=xk
@[go_sem] theorem t73_23_100:takes g73_23 100=false:=nk
@[go_sem] theorem t73_23_101:takes g73_23 101=true:=nk
@[go_sem] theorem t73_23_102:takes g73_23 102=false:=nk
@[go_sem] theorem t73_23_103:takes g73_23 103=false:=nk
@[go_sem] theorem t73_23_104:takes g73_23 104=false:=nk
@[go_sem] theorem t73_23_105:takes g73_23 105=false:=nk
noncomputable def g73_24:=regAt Proofs.Try.f73 24
@[go_sem] theorem x73_24:XUR 73 g73_24 (by exact(⟨_,by conv=>lhs;reduce⟩:NU 73 g73_24).1) 0:=xuk
@[go_sem] theorem t73_24:TK g73_24:=tk
noncomputable def g73_25:=regAt Proofs.Try.f73 25
@[go_sem] theorem x73_25:XR 73 g73_25 (by exact(⟨_,by conv=>lhs;reduce⟩:NS g73_25).1):=xk
@[go_sem] theorem t73_25:TK g73_25:=tk
noncomputable def g73_26:=regAt Proofs.Try.f73 26
@[go_sem] theorem x73_26:XR 73 g73_26 (by exact(⟨_,by conv=>lhs;reduce⟩:NS g73_26).1):=xk
@[go_sem] theorem t73_26:TK g73_26:=tk
noncomputable def l73_0:Code:=(.seq (.region 7 g73_7 false) (.seq (.cond (.tmp 40) .skip (.exit 0)) (.seq (.block 1 (.seq (.region 8 g73_8 false) (.region 9 g73_9 true))) (.region 10 g73_10 false))))
theorem dl73_0{ro nt:Nat}{fr:PT}{H:Hp}:(den cx).loop ro 73 nt l73_0 fr H=xbind (ex cx (den cx) ro 73 nt (.seq (.region 7 g73_7 false) (.seq (.cond (.tmp 40) .skip (.exit 0)) (.seq (.block 1 (.seq (.region 8 g73_8 false) (.region 9 g73_9 true))) (.region 10 g73_10 false)))) fr H) (contR (trimmed ((den cx).loop ro 73 nt l73_0) H.length)):=den_loop_x l73_0
noncomputable def l73_1:Code:=(.block 3 (.seq (.region 12 g73_12 false) (.block 4 (.seq (.region 14 g73_13 false) (.cond (.tmp 62) (.exit 2) (.region 13 g73_14 false))))))
theorem dl73_1{ro nt:Nat}{fr:PT}{H:Hp}:(den cx).loop ro 73 nt l73_1 fr H=xbind (ex cx (den cx) ro 73 nt (.block 3 (.seq (.region 12 g73_12 false) (.block 4 (.seq (.region 14 g73_13 false) (.cond (.tmp 62) (.exit 2) (.region 13 g73_14 false)))))) fr H) (contR (trimmed ((den cx).loop ro 73 nt l73_1) H.length)):=den_loop_x l73_1
noncomputable def l73_2:Code:=(.seq (.region 18 g73_18 false) (.seq (.cond (.tmp 80) .skip (.exit 5)) (.seq (.block 6 (.seq (.region 19 g73_19 false) (.seq (.region 20 g73_20 true) (.seq (.seq (.region 21 g73_21 false) (.cond (.tmp 94) (.region 22 g73_22 false) .skip)) (.seq (.region 23 g73_23 false) (.region 24 g73_24 true)))))) (.region 25 g73_25 false))))
theorem dl73_2{ro nt:Nat}{fr:PT}{H:Hp}:(den cx).loop ro 73 nt l73_2 fr H=xbind (ex cx (den cx) ro 73 nt (.seq (.region 18 g73_18 false) (.seq (.cond (.tmp 80) .skip (.exit 5)) (.seq (.block 6 (.seq (.region 19 g73_19 false) (.seq (.region 20 g73_20 true) (.seq (.seq (.region 21 g73_21 false) (.cond (.tmp 94) (.region 22 g73_22 false) .skip)) (.seq (.region 23 g73_23 false) (.region 24 g73_24 true)))))) (.region 25 g73_25 false)))) fr H) (contR (trimmed ((den cx).loop ro 73 nt l73_2) H.length)):=den_loop_x l73_2
theorem c73{h:Hd}{ro:Nat}{H:Hp}(a0:AV):callB cx h ro 73 [a0] H=returned cx [(.cell 2 95),(.tmp 3)] (ex cx h ro 73 137 (.seq (.region 0 g73_0 false) (.scope (.seq (.seq (.region 1 g73_1 false) (.seq (.region 2 g73_2 false) (.cond (.tmp 18) (.seq (.region 3 g73_3 false) .ret) .skip))) (.seq (.region 4 g73_4 false) (.seq (.region 5 g73_5 false) (.seq (.seq (.region 6 g73_6 false) (.block 0 (.loop l73_0))) (.seq (.region 11 g73_11 false) (.seq (.label 0) (.seq (.block 2 (.loop l73_1)) (.seq (.region 15 g73_15 false) (.seq (.region 16 g73_16 false) (.seq (.seq (.region 17 g73_17 false) (.block 5 (.loop l73_2))) (.seq (.region 26 g73_26 false) .ret))))))))))))) (PT.nil.set 0 (drp a0)) H):=cbd (fn:=Proofs.Try.f73)
noncomputable def g118_0:=regAt Proofs.Try.f118 0
@[go_sem] theorem x118_0:XR 118 g118_0 (by exact(⟨_,by conv=>lhs;reduce⟩:NS g118_0).1):=xk
@[go_sem] theorem t118_0:TK g118_0:=tk
noncomputable def g118_1:=regAt Proofs.Try.f118 1
@[go_sem] theorem x118_1:XR 118 g118_1 (by exact(⟨_,by conv=>lhs;reduce⟩:NS g118_1).1):=xk
@[go_sem] theorem t118_1:TK g118_1:=tk
theorem c118{h:Hd}{ro:Nat}{H:Hp}(a0 a1:AV):callB cx h ro 118 [a0,a1] H=returned cx [(.tmp 4)] (ex cx h ro 118 12 (.seq (.region 0 g118_0 false) (.seq (.region 1 g118_1 false) .ret)) ((PT.nil.set 0 (drp a0)).set 1 (drp a1)) H):=cbd (fn:=Proofs.Try.f118)
noncomputable def g116_0:=regAt Proofs.Try.f116 0
@[go_sem] theorem x116_0:XR 116 g116_0 (by exact(⟨_,by conv=>lhs;reduce⟩:NS g116_0).1):=xk
@[go_sem] theorem t116_0:TK g116_0:=tk
noncomputable def g116_1:=regAt Proofs.Try.f116 1
@[go_sem] theorem x116_1:XR 116 g116_1 (by exact(⟨_,by conv=>lhs;reduce⟩:NS g116_1).1):=xk
@[go_sem] theorem t116_1:TK g116_1:=tk
noncomputable def g116_2:=regAt Proofs.Try.f116 2
@[go_sem] theorem x116_2:XR 116 g116_2 (by exact(⟨_,by conv=>lhs;reduce⟩:NS g116_2).1):=xk
@[go_sem] theorem t116_2:TK g116_2:=tk
noncomputable def g116_3:=regAt Proofs.Try.f116 3
@[go_sem] theorem x116_3:XUR 116 g116_3 (by exact(⟨_,by conv=>lhs;reduce⟩:NU 116 g116_3).1) 1:=xuk
@[go_sem] theorem t116_3:TK g116_3:=tk
noncomputable def g116_4:=regAt Proofs.Try.f116 4
@[go_sem] theorem x116_4:XR 116 g116_4 (by exact(⟨_,by conv=>lhs;reduce⟩:NS g116_4).1):=xk
@[go_sem] theorem t116_4:TK g116_4:=tk
noncomputable def g116_5:=regAt Proofs.Try.f116 5
@[go_sem] theorem x116_5:XR 116 g116_5 (by exact(⟨_,by conv=>lhs;reduce⟩:NS g116_5).1):=xk
@[go_sem] theorem t116_5:TK g116_5:=tk
noncomputable def g116_6:=regAt Proofs.Try.f116 6
@[go_sem] theorem x116_6:XR 116 g116_6 (by exact(⟨_,by conv=>lhs;reduce⟩:NS g116_6).1):=xk
@[go_sem] theorem t116_6:TK g116_6:=tk
noncomputable def g116_7:=regAt Proofs.Try.f116 7
@[go_sem] theorem x116_7:XR 116 g116_7 (by exact(⟨_,by conv=>lhs;reduce⟩:NS g116_7).1):=xk
@[go_sem] theorem t116_7:TK g116_7:=tk
noncomputable def g116_8:=regAt Proofs.Try.f116 8
@[go_sem] theorem x116_8:XR 116 g116_8 (by exact(⟨_,by conv=>lhs;reduce⟩:NS g116_8).1):=xk
@[go_sem] theorem t116_8:TK g116_8:=tk
noncomputable def g116_9:=regAt Proofs.Try.f116 9
@[go_sem] theorem x116_9:XR 116 g116_9 (by exact(⟨_,by conv=>lhs;reduce⟩:NS g116_9).1):=xk
@[go_sem] theorem t116_9:TK g116_9:=tk
noncomputable def g116_10:=regAt Proofs.Try.f116 10
@[go_sem] theorem x116_10:XR 116 g116_10 (by exact(⟨_,by conv=>lhs;reduce⟩:NS g116_10).1):=xk
@[go_sem] theorem t116_10:TK g116_10:=tk
noncomputable def g116_11:=regAt Proofs.Try.f116 11
@[go_sem] theorem x116_11:XR 116 g116_11 (by exact(⟨_,by conv=>lhs;reduce⟩:NS g116_11).1):=xk
@[go_sem] theorem t116_11:TK g116_11:=tk
theorem c116{h:Hd}{ro:Nat}{H:Hp}(a0:AV):callB cx h ro 116 [a0] H=returned cx [(.tmp 2)] (ex cx h ro 116 66 (.seq (.region 0 g116_0 false) (.seq (.seq (.region 1 g116_1 false) (.cond (.tmp 8) (.seq (.region 2 g116_2 false) .ret) .skip)) (.seq (.region 3 g116_3 true) (.seq (.region 4 g116_4 false) (.seq (.block 0 (.seq (.region 5 g116_5 false) (.cond (.tmp 13) (.seq (.region 6 g116_6 false) .ret) (.seq (.region 7 g116_7 false) (.cond (.tmp 28) (.seq (.region 8 g116_8 false) .ret) (.seq (.region 9 g116_9 false) (.cond (.tmp 42) (.seq (.region 10 g116_10 false) .ret) .skip))))))) (.seq (.region 11 g116_11 false) .ret)))))) (PT.nil.set 0 (drp a0)) H):=cbd (fn:=Proofs.Try.f116)
noncomputable def g117_0:=regAt Proofs.Try.f117 0
@[go_sem] theorem x117_0:XR 117 g117_0 (by exact(⟨_,by conv=>lhs;reduce⟩:NS g117_0).1):=xk
@[go_sem] theorem t117_0:TK g117_0:=tk
noncomputable def g117_1:=regAt Proofs.Try.f117 1
@[go_sem] theorem x117_1:XR 117 g117_1 (by exact(⟨_,by conv=>lhs;reduce⟩:NS g117_1).1):=xk
@[go_sem] theorem t117_1:TK g117_1:=tk
noncomputable def g117_2:=regAt Proofs.Try.f117 2
@[go_sem] theorem x117_2:XR 117 g117_2 (by exact(⟨_,by conv=>lhs;reduce⟩:NS g117_2).1):=xk
@[go_sem] theorem t117_2:TK g117_2:=tk
noncomputable def g117_3:=regAt Proofs.Try.f117 3
@[go_sem] theorem x117_3:XR 117 g117_3 (by exact(⟨_,by conv=>lhs;reduce⟩:NS g117_3).1):=xk
@[go_sem] theorem t117_3_9:takes g117_3 9=true:=nk
@[go_sem] theorem t117_3_10:takes g117_3 10=false:=nk
@[go_sem] theorem t117_3_11:takes g117_3 11=false:=nk
@[go_sem] theorem t117_3_12:takes g117_3 12=false:=nk
@[go_sem] theorem t117_3_13:takes g117_3 13=false:=nk
@[go_sem] theorem t117_3_3:takes g117_3 3=false:=nk
noncomputable def g117_4:=regAt Proofs.Try.f117 4
@[go_sem] theorem x117_4:XR 117 g117_4 (by exact(⟨_,by conv=>lhs;reduce⟩:NS g117_4).1):=xk
@[go_sem] theorem t117_4:TK g117_4:=tk
theorem c117{h:Hd}{ro:Nat}{H:Hp}(a0:AV):callB cx h ro 117 [a0] H=returned cx [(.tmp 2)] (ex cx h ro 117 15 (.seq (.region 0 g117_0 false) (.seq (.region 1 g117_1 false) (.seq (.seq (.region 2 g117_2 false) (.cond (.tmp 8) (.region 3 g117_3 false) .skip)) (.seq (.region 4 g117_4 false) .ret)))) (PT.nil.set 0 (drp a0)) H):=cbd (fn:=Proofs.Try.f117)
noncomputable def g153_0:=regAt Proofs.Try.f153 0
@[go_sem] theorem x153_0:XR 153 g153_0 (by exact(⟨_,by conv=>lhs;reduce⟩:NS g153_0).1):=xk
@[go_sem] theorem t153_0:TK g153_0:=tk
noncomputable def g153_1:=regAt Proofs.Try.f153 1
@[go_sem] theorem x153_1:XR 153 g153_1 (by exact(⟨_,by conv=>lhs;reduce⟩:NS g153_1).1):=xk
@[go_sem] theorem t153_1:TK g153_1:=tk
theorem c153{h:Hd}{ro:Nat}{H:Hp}(a0:AV):callB cx h ro 153 [a0] H=returned cx [(.tmp 2)] (ex cx h ro 153 7 (.seq (.region 0 g153_0 false) (.seq (.region 1 g153_1 false) .ret)) (PT.nil.set 0 (drp a0)) H):=cbd (fn:=Proofs.Try.f153)
noncomputable def g154_0:=regAt Proofs.Try.f154 0
@[go_sem] theorem x154_0:XR 154 g154_0 (by exact(⟨_,by conv=>lhs;reduce⟩:NS g154_0).1):=xk
@[go_sem] theorem t154_0:TK g154_0:=tk
noncomputable def g154_1:=regAt Proofs.Try.f154 1
@[go_sem] theorem x154_1:XR 154 g154_1 (by exact(⟨_,by conv=>lhs;reduce⟩:NS g154_1).1):=xk
@[go_sem] theorem t154_1:TK g154_1:=tk
theorem c154{h:Hd}{ro:Nat}{H:Hp}(a0 a1:AV):callB cx h ro 154 [a0,a1] H=returned cx [(.tmp 4)] (ex cx h ro 154 9 (.seq (.region 0 g154_0 false) (.seq (.region 1 g154_1 false) .ret)) ((PT.nil.set 0 (drp a0)).set 1 (drp a1)) H):=cbd (fn:=Proofs.Try.f154)
noncomputable def g155_0:=regAt Proofs.Try.f155 0
@[go_sem] theorem x155_0:XR 155 g155_0 (by exact(⟨_,by conv=>lhs;reduce⟩:NS g155_0).1):=xk
@[go_sem] theorem t155_0:TK g155_0:=tk
noncomputable def g155_1:=regAt Proofs.Try.f155 1
@[go_sem] theorem x155_1:XR 155 g155_1 (by exact(⟨_,by conv=>lhs;reduce⟩:NS g155_1).1):=xk
@[go_sem] theorem t155_1:TK g155_1:=tk
noncomputable def g155_2:=regAt Proofs.Try.f155 2
@[go_sem] theorem x155_2:XR 155 g155_2 (by exact(⟨_,by conv=>lhs;reduce⟩:NS g155_2).1):=xk
@[go_sem] theorem t155_2:TK g155_2:=tk
noncomputable def g155_3:=regAt Proofs.Try.f155 3
@[go_sem] theorem x155_3:XR 155 g155_3 (by exact(⟨_,by conv=>lhs;reduce⟩:NS g155_3).1):=xk
@[go_sem] theorem t155_3_5:takes g155_3 5=true:=nk
@[go_sem] theorem t155_3_6:takes g155_3 6=false:=nk
@[go_sem] theorem t155_3_7:takes g155_3 7=false:=nk
@[go_sem] theorem t155_3_2:takes g155_3 2=false:=nk
theorem c155{h:Hd}{ro:Nat}{H:Hp}(a0:AV):callB cx h ro 155 [a0] H=returned cx [(.tmp 2)] (ex cx h ro 155 8 (.seq (.region 0 g155_0 false) (.seq (.seq (.region 1 g155_1 false) (.cond (.tmp 4) (.seq (.region 2 g155_2 false) .ret) .skip)) (.seq (.region 3 g155_3 false) .ret))) (PT.nil.set 0 (drp a0)) H):=cbd (fn:=Proofs.Try.f155)
noncomputable def g175_0:=regAt Proofs.Try.f175 0
@[go_sem] theorem x175_0:XR 175 g175_0 (by exact(⟨_,by conv=>lhs;reduce⟩:NS g175_0).1):=xk
@[go_sem] theorem t175_0:TK g175_0:=tk
noncomputable def g175_1:=regAt Proofs.Try.f175 1
@[go_sem] theorem x175_1:XR 175 g175_1 (by exact(⟨_,by conv=>lhs;reduce⟩:NS g175_1).1):=xk
@[go_sem] theorem t175_1:TK g175_1:=tk
noncomputable def g175_2:=regAt Proofs.Try.f175 2
@[go_sem] theorem x175_2:XR 175 g175_2 (by exact(⟨_,by conv=>lhs;reduce⟩:NS g175_2).1):=xk
@[go_sem] theorem t175_2:TK g175_2:=tk
noncomputable def g175_3:=regAt Proofs.Try.f175 3
@[go_sem] theorem x175_3:XR 175 g175_3 (by exact(⟨_,by conv=>lhs;reduce⟩:NS g175_3).1):=xk
@[go_sem] theorem t175_3:TK g175_3:=tk
noncomputable def g175_4:=regAt Proofs.Try.f175 4
@[go_sem] theorem x175_4:XR 175 g175_4 (by exact(⟨_,by conv=>lhs;reduce⟩:NS g175_4).1):=xk
@[go_sem] theorem t175_4:TK g175_4:=tk
noncomputable def g175_5:=regAt Proofs.Try.f175 5
@[go_sem] theorem x175_5:XR 175 g175_5 (by exact(⟨_,by conv=>lhs;reduce⟩:NS g175_5).1):=xk
@[go_sem] theorem t175_5:TK g175_5:=tk
noncomputable def g175_6:=regAt Proofs.Try.f175 6
@[go_sem] theorem x175_6:XR 175 g175_6 (by exact(⟨_,by conv=>lhs;reduce⟩:NS g175_6).1):=xk
@[go_sem] theorem t175_6:TK g175_6:=tk
noncomputable def g175_7:=regAt Proofs.Try.f175 7
@[go_sem] theorem x175_7:XR 175 g175_7 (by exact(⟨_,by conv=>lhs;reduce⟩:NS g175_7).1):=xk
@[go_sem] theorem t175_7:TK g175_7:=tk
noncomputable def l175_0:Code:=(.seq (.region 2 g175_2 false) (.seq (.cond (.tmp 9) .skip (.exit 0)) (.seq (.block 1 (.seq (.region 3 g175_3 false) (.seq (.region 4 g175_4 false) (.cond (.tmp 16) (.seq (.region 5 g175_5 false) .ret) .skip)))) (.region 6 g175_6 false))))
theorem dl175_0{ro nt:Nat}{fr:PT}{H:Hp}:(den cx).loop ro 175 nt l175_0 fr H=xbind (ex cx (den cx) ro 175 nt (.seq (.region 2 g175_2 false) (.seq (.cond (.tmp 9) .skip (.exit 0)) (.seq (.block 1 (.seq (.region 3 g175_3 false) (.seq (.region 4 g175_4 false) (.cond (.tmp 16) (.seq (.region 5 g175_5 false) .ret) .skip)))) (.region 6 g175_6 false)))) fr H) (contR (trimmed ((den cx).loop ro 175 nt l175_0) H.length)):=den_loop_x l175_0
theorem c175{h:Hd}{ro:Nat}{H:Hp}(a0 a1:AV):callB cx h ro 175 [a0,a1] H=returned cx [(.tmp 4)] (ex cx h ro 175 19 (.seq (.region 0 g175_0 false) (.seq (.seq (.region 1 g175_1 false) (.block 0 (.loop l175_0))) (.seq (.region 7 g175_7 false) .ret))) ((PT.nil.set 0 (drp a0)).set 1 (drp a1)) H):=cbd (fn:=Proofs.Try.f175)
noncomputable def g152_0:=regAt Proofs.Try.f152 0
@[go_sem] theorem x152_0:XR 152 g152_0 (by exact(⟨_,by conv=>lhs;reduce⟩:NS g152_0).1):=xk
@[go_sem] theorem t152_0:TK g152_0:=tk
noncomputable def g152_1:=regAt Proofs.Try.f152 1
@[go_sem] theorem x152_1:XR 152 g152_1 (by exact(⟨_,by conv=>lhs;reduce⟩:NS g152_1).1):=xk
@[go_sem] theorem t152_1:TK g152_1:=tk
theorem c152{h:Hd}{ro:Nat}{H:Hp}:callB cx h ro 152 [] H=returned cx [(.cell 0 249)] (ex cx h ro 152 8 (.seq (.region 0 g152_0 false) (.seq (.region 1 g152_1 false) .ret)) PT.nil H):=cbd (fn:=Proofs.Try.f152)
noncomputable def g119_0:=regAt Proofs.Try.f119 0
@[go_sem] theorem x119_0:XR 119 g119_0 (by exact(⟨_,by conv=>lhs;reduce⟩:NS g119_0).1):=xk
@[go_sem] theorem t119_0:TK g119_0:=tk
noncomputable def g119_1:=regAt Proofs.Try.f119 1
@[go_sem] theorem x119_1:XR 119 g119_1 (by exact(⟨_,by conv=>lhs;reduce⟩:NS g119_1).1):=xk
@[go_sem] theorem t119_1:TK g119_1:=tk
theorem c119{h:Hd}{ro:Nat}{H:Hp}(a0 a1:AV):callB cx h ro 119 [a0,a1] H=returned cx [(.tmp 4)] (ex cx h ro 119 6 (.seq (.region 0 g119_0 false) (.seq (.region 1 g119_1 false) .ret)) ((PT.nil.set 0 (drp a0)).set 1 (drp a1)) H):=cbd (fn:=Proofs.Try.f119)
noncomputable def g156_0:=regAt Proofs.Try.f156 0
@[go_sem] theorem x156_0:XR 156 g156_0 (by exact(⟨_,by conv=>lhs;reduce⟩:NS g156_0).1):=xk
@[go_sem] theorem t156_0:TK g156_0:=tk
noncomputable def g156_1:=regAt Proofs.Try.f156 1
@[go_sem] theorem x156_1:XR 156 g156_1 (by exact(⟨_,by conv=>lhs;reduce⟩:NS g156_1).1):=xk
@[go_sem] theorem t156_1:TK g156_1:=tk
noncomputable def g156_2:=regAt Proofs.Try.f156 2
@[go_sem] theorem x156_2:XR 156 g156_2 (by exact(⟨_,by conv=>lhs;reduce⟩:NS g156_2).1):=xk
@[go_sem] theorem t156_2:TK g156_2:=tk
noncomputable def g156_3:=regAt Proofs.Try.f156 3
@[go_sem] theorem x156_3:XR 156 g156_3 (by exact(⟨_,by conv=>lhs;reduce⟩:NS g156_3).1):=xk
@[go_sem] theorem t156_3:TK g156_3:=tk
noncomputable def g156_4:=regAt Proofs.Try.f156 4
@[go_sem] theorem x156_4:XR 156 g156_4 (by exact(⟨_,by conv=>lhs;reduce⟩:NS g156_4).1):=xk
@[go_sem] theorem t156_4:TK g156_4:=tk
noncomputable def g156_5:=regAt Proofs.Try.f156 5
@[go_sem] theorem x156_5:XUR 156 g156_5 (by exact(⟨_,by conv=>lhs;reduce⟩:NU 156 g156_5).1) 0:=xuk
@[go_sem] theorem t156_5:TK g156_5:=tk
noncomputable def g156_6:=regAt Proofs.Try.f156 6
@[go_sem] theorem x156_6:XR 156 g156_6 (by exact(⟨_,by conv=>lhs;reduce⟩:NS g156_6).1):=xk
@[go_sem] theorem t156_6:TK g156_6:=tk
noncomputable def l156_0:Code:=(.seq (.region 1 g156_1 false) (.seq (.cond (.tmp 8) .skip (.exit 0)) (.seq (.block 1 (.seq (.seq (.region 2 g156_2 false) (.cond (.tmp 15) .ret .skip)) (.seq (.region 3 g156_3 false) (.seq (.seq (.region 4 g156_4 false) (.cond (.tmp 31) .ret .skip)) (.region 5 g156_5 true))))) (.region 6 g156_6 false))))
theorem dl156_0{ro nt:Nat}{fr:PT}{H:Hp}:(den cx).loop ro 156 nt l156_0 fr H=xbind (ex cx (den cx) ro 156 nt (.seq (.region 1 g156_1 false) (.seq (.cond (.tmp 8) .skip (.exit 0)) (.seq (.block 1 (.seq (.seq (.region 2 g156_2 false) (.cond (.tmp 15) .ret .skip)) (.seq (.region 3 g156_3 false) (.seq (.seq (.region 4 g156_4 false) (.cond (.tmp 31) .ret .skip)) (.region 5 g156_5 true))))) (.region 6 g156_6 false)))) fr H) (contR (trimmed ((den cx).loop ro 156 nt l156_0) H.length)):=den_loop_x l156_0
theorem c156{h:Hd}{ro:Nat}{H:Hp}(a0 a1 a2:AV):callB cx h ro 156 [a0,a1,a2] H=returned cx [] (ex cx h ro 156 48 (.seq (.region 0 g156_0 false) (.block 0 (.loop l156_0))) (((PT.nil.set 0 (drp a0)).set 1 (drp a1)).set 2 (drp a2)) H):=cbd (fn:=Proofs.Try.f156)
noncomputable def g51_0:=regAt Proofs.Try.f51 0
@[go_sem] theorem x51_0:XR 51 g51_0 (by exact(⟨_,by conv=>lhs;reduce⟩:NS g51_0).1):=xk
@[go_sem] theorem t51_0:TK g51_0:=tk
noncomputable def g51_1:=regAt Proofs.Try.f51 1
@[go_sem] theorem x51_1:XR 51 g51_1 (by exact(⟨_,by conv=>lhs;reduce⟩:NS g51_1).1):=xk
@[go_sem] theorem t51_1:TK g51_1:=tk
noncomputable def g51_2:=regAt Proofs.Try.f51 2
@[go_sem] theorem x51_2:XR 51 g51_2 (by exact(⟨_,by conv=>lhs;reduce⟩:NS g51_2).1):=xk
@[go_sem] theorem t51_2:TK g51_2:=tk
noncomputable def g51_3:=regAt Proofs.Try.f51 3
@[go_sem] theorem x51_3:XR 51 g51_3 (by exact(⟨_,by conv=>lhs;reduce⟩:NS g51_3).1):=xk
@[go_sem] theorem t51_3:TK g51_3:=tk
noncomputable def g51_4:=regAt Proofs.Try.f51 4
@[go_sem] theorem x51_4:XR 51 g51_4 (by exact(⟨_,by conv=>lhs;reduce⟩:NS g51_4).1):=xk
@[go_sem] theorem t51_4:TK g51_4:=tk
noncomputable def g51_5:=regAt Proofs.Try.f51 5
@[go_sem] theorem x51_5:XR 51 g51_5 (by exact(⟨_,by conv=>lhs;reduce⟩:NS g51_5).1):=xk
@[go_sem] theorem t51_5:TK g51_5:=tk
noncomputable def g51_6:=regAt Proofs.Try.f51 6
@[go_sem] theorem x51_6:XR 51 g51_6 (by exact(⟨_,by conv=>lhs;reduce⟩:NS g51_6).1):=xk
@[go_sem] theorem t51_6:TK g51_6:=tk
noncomputable def q51_0:Code:=(.seq (.region 2 g51_2 false) (.region 3 g51_3 false))
noncomputable def r51_0:Code:=(.block 1 (.seq (.region 4 g51_4 false) (.cond (.tmp 14) (.seq (.region 5 g51_5 false) .ret) .skip)))
theorem c51{h:Hd}{ro:Nat}{H:Hp}(a0 a1:AV):callB cx h ro 51 [a0,a1] H=returned cx [(.cell 4 61)] (ex cx h ro 51 17 (.seq (.region 0 g51_0 false) (.seq (.seq (.region 1 g51_1 false) (.block 0 (.rangeFunc (.tmp 9) #[10,11] q51_0 r51_0))) (.seq (.region 6 g51_6 false) .ret))) ((PT.nil.set 0 (drp a0)).set 1 (drp a1)) H):=cbd (fn:=Proofs.Try.f51)
noncomputable def g52_0:=regAt Proofs.Try.f52 0
@[go_sem] theorem x52_0:XR 52 g52_0 (by exact(⟨_,by conv=>lhs;reduce⟩:NS g52_0).1):=xk
@[go_sem] theorem t52_0:TK g52_0:=tk
noncomputable def g52_1:=regAt Proofs.Try.f52 1
@[go_sem] theorem x52_1:XR 52 g52_1 (by exact(⟨_,by conv=>lhs;reduce⟩:NS g52_1).1):=xk
@[go_sem] theorem t52_1:TK g52_1:=tk
noncomputable def g52_2:=regAt Proofs.Try.f52 2
@[go_sem] theorem x52_2:XR 52 g52_2 (by exact(⟨_,by conv=>lhs;reduce⟩:NS g52_2).1):=xk
@[go_sem] theorem t52_2:TK g52_2:=tk
noncomputable def g52_3:=regAt Proofs.Try.f52 3
@[go_sem] theorem x52_3:XR 52 g52_3 (by exact(⟨_,by conv=>lhs;reduce⟩:NS g52_3).1):=xk
@[go_sem] theorem t52_3:TK g52_3:=tk
noncomputable def g52_4:=regAt Proofs.Try.f52 4
@[go_sem] theorem x52_4:XR 52 g52_4 (by exact(⟨_,by conv=>lhs;reduce⟩:NS g52_4).1):=xk
@[go_sem] theorem t52_4:TK g52_4:=tk
noncomputable def g52_5:=regAt Proofs.Try.f52 5
@[go_sem] theorem x52_5:XR 52 g52_5 (by exact(⟨_,by conv=>lhs;reduce⟩:NS g52_5).1):=xk
@[go_sem] theorem t52_5:TK g52_5:=tk
noncomputable def g52_6:=regAt Proofs.Try.f52 6
@[go_sem] theorem x52_6:XR 52 g52_6 (by exact(⟨_,by conv=>lhs;reduce⟩:NS g52_6).1):=xk
@[go_sem] theorem t52_6:TK g52_6:=tk
noncomputable def g52_7:=regAt Proofs.Try.f52 7
@[go_sem] theorem x52_7:XR 52 g52_7 (by exact(⟨_,by conv=>lhs;reduce⟩:NS g52_7).1):=xk
@[go_sem] theorem t52_7:TK g52_7:=tk
noncomputable def g52_8:=regAt Proofs.Try.f52 8
@[go_sem] theorem x52_8:XR 52 g52_8 (by exact(⟨_,by conv=>lhs;reduce⟩:NS g52_8).1):=xk
@[go_sem] theorem t52_8:TK g52_8:=tk
noncomputable def g52_9:=regAt Proofs.Try.f52 9
@[go_sem] theorem x52_9:XR 52 g52_9 (by exact(⟨_,by conv=>lhs;reduce⟩:NS g52_9).1):=xk
@[go_sem] theorem t52_9:TK g52_9:=tk
noncomputable def g52_10:=regAt Proofs.Try.f52 10
@[go_sem] theorem x52_10:XUR 52 g52_10 (by exact(⟨_,by conv=>lhs;reduce⟩:NU 52 g52_10).1) 0:=xuk
@[go_sem] theorem t52_10:TK g52_10:=tk
noncomputable def g52_11:=regAt Proofs.Try.f52 11
@[go_sem] theorem x52_11:XR 52 g52_11 (by exact(⟨_,by conv=>lhs;reduce⟩:NS g52_11).1):=xk
@[go_sem] theorem t52_11:TK g52_11:=tk
noncomputable def g52_12:=regAt Proofs.Try.f52 12
@[go_sem] theorem x52_12:XR 52 g52_12 (by exact(⟨_,by conv=>lhs;reduce⟩:NS g52_12).1):=xk
@[go_sem] theorem t52_12:TK g52_12:=tk
noncomputable def l52_0:Code:=(.seq (.seq (.region 2 g52_2 false) (.cond (.tmp 10) .skip (.exit 0))) (.seq (.block 1 (.seq (.seq (.region 4 g52_3 false) (.cond (.tmp 22) (.seq (.region 5 g52_4 false) .ret) .skip)) (.seq (.region 6 g52_5 false) (.seq (.seq (.region 7 g52_6 false) (.cond (.tmp 31) (.seq (.region 8 g52_7 false) .ret) .skip)) (.seq (.seq (.region 9 g52_8 false) (.cond (.tmp 36) (.seq (.region 10 g52_9 false) .ret) .skip)) (.region 11 g52_10 true)))))) (.region 3 g52_11 false)))
theorem dl52_0{ro nt:Nat}{fr:PT}{H:Hp}:(den cx).loop ro 52 nt l52_0 fr H=xbind (ex cx (den cx) ro 52 nt (.seq (.seq (.region 2 g52_2 false) (.cond (.tmp 10) .skip (.exit 0))) (.seq (.block 1 (.seq (.seq (.region 4 g52_3 false) (.cond (.tmp 22) (.seq (.region 5 g52_4 false) .ret) .skip)) (.seq (.region 6 g52_5 false) (.seq (.seq (.region 7 g52_6 false) (.cond (.tmp 31) (.seq (.region 8 g52_7 false) .ret) .skip)) (.seq (.seq (.region 9 g52_8 false) (.cond (.tmp 36) (.seq (.region 10 g52_9 false) .ret) .skip)) (.region 11 g52_10 true)))))) (.region 3 g52_11 false))) fr H) (contR (trimmed ((den cx).loop ro 52 nt l52_0) H.length)):=den_loop_x l52_0
theorem c52{h:Hd}{ro:Nat}{H:Hp}(a0 a1:AV):callB cx h ro 52 [a0,a1] H=returned cx [(.cell 4 61)] (ex cx h ro 52 53 (.seq (.region 0 g52_0 false) (.seq (.seq (.region 1 g52_1 false) (.block 0 (.loop l52_0))) (.seq (.region 12 g52_12 false) .ret))) ((PT.nil.set 0 (drp a0)).set 1 (drp a1)) H):=cbd (fn:=Proofs.Try.f52)
noncomputable def g48_0:=regAt Proofs.Try.f48 0
@[go_sem] theorem x48_0:XR 48 g48_0 (by exact(⟨_,by conv=>lhs;reduce⟩:NS g48_0).1):=xk
@[go_sem] theorem t48_0:TK g48_0:=tk
noncomputable def g48_1:=regAt Proofs.Try.f48 1
@[go_sem] theorem x48_1:XR 48 g48_1 (by exact(⟨_,by conv=>lhs;reduce⟩:NS g48_1).1):=xk
@[go_sem] theorem t48_1:TK g48_1:=tk
noncomputable def g48_2:=regAt Proofs.Try.f48 2
@[go_sem] theorem x48_2:XR 48 g48_2 (by exact(⟨_,by conv=>lhs;reduce⟩:NS g48_2).1):=xk
@[go_sem] theorem t48_2:TK g48_2:=tk
noncomputable def g48_3:=regAt Proofs.Try.f48 3
@[go_sem] theorem x48_3:XR 48 g48_3 (by exact(⟨_,by conv=>lhs;reduce⟩:NS g48_3).1):=xk
@[go_sem] theorem t48_3:TK g48_3:=tk
noncomputable def g48_4:=regAt Proofs.Try.f48 4
@[go_sem] theorem x48_4:XR 48 g48_4 (by exact(⟨_,by conv=>lhs;reduce⟩:NS g48_4).1):=xk
@[go_sem] theorem t48_4:TK g48_4:=tk
noncomputable def g48_5:=regAt Proofs.Try.f48 5
@[go_sem] theorem x48_5:XR 48 g48_5 (by exact(⟨_,by conv=>lhs;reduce⟩:NS g48_5).1):=xk
@[go_sem] theorem t48_5:TK g48_5:=tk
noncomputable def g48_6:=regAt Proofs.Try.f48 6
@[go_sem] theorem x48_6:XR 48 g48_6 (by exact(⟨_,by conv=>lhs;reduce⟩:NS g48_6).1):=xk
@[go_sem] theorem t48_6:TK g48_6:=tk
noncomputable def g48_7:=regAt Proofs.Try.f48 7
@[go_sem] theorem x48_7:XR 48 g48_7 (by exact(⟨_,by conv=>lhs;reduce⟩:NS g48_7).1):=xk
@[go_sem] theorem t48_7:TK g48_7:=tk
noncomputable def g48_8:=regAt Proofs.Try.f48 8
@[go_sem] theorem x48_8:XR 48 g48_8 (by exact(⟨_,by conv=>lhs;reduce⟩:NS g48_8).1):=xk
@[go_sem] theorem t48_8:TK g48_8:=tk
noncomputable def g48_9:=regAt Proofs.Try.f48 9
@[go_sem] theorem x48_9:XR 48 g48_9 (by exact(⟨_,by conv=>lhs;reduce⟩:NS g48_9).1):=xk
@[go_sem] theorem t48_9:TK g48_9:=tk
noncomputable def g48_10:=regAt Proofs.Try.f48 10
@[go_sem] theorem x48_10:XR 48 g48_10 (by exact(⟨_,by conv=>lhs;reduce⟩:NS g48_10).1):=xk
@[go_sem] theorem t48_10:TK g48_10:=tk
noncomputable def g48_11:=regAt Proofs.Try.f48 11
@[go_sem] theorem x48_11:XR 48 g48_11 (by exact(⟨_,by conv=>lhs;reduce⟩:NS g48_11).1):=xk
@[go_sem] theorem t48_11:TK g48_11:=tk
noncomputable def g48_12:=regAt Proofs.Try.f48 12
@[go_sem] theorem x48_12:XR 48 g48_12 (by exact(⟨_,by conv=>lhs;reduce⟩:NS g48_12).1):=xk
@[go_sem] theorem t48_12:TK g48_12:=tk
noncomputable def g48_13:=regAt Proofs.Try.f48 13
@[go_sem] theorem x48_13:XR 48 g48_13 (by exact(⟨_,by conv=>lhs;reduce⟩:NS g48_13).1):=xk
@[go_sem] theorem t48_13:TK g48_13:=tk
noncomputable def g48_14:=regAt Proofs.Try.f48 14
@[go_sem] theorem x48_14:XR 48 g48_14 (by exact(⟨_,by conv=>lhs;reduce⟩:NS g48_14).1):=xk
@[go_sem] theorem t48_14:TK g48_14:=tk
noncomputable def g48_15:=regAt Proofs.Try.f48 15
@[go_sem] theorem x48_15:XR 48 g48_15 (by exact(⟨_,by conv=>lhs;reduce⟩:NS g48_15).1):=xk
@[go_sem] theorem t48_15:TK g48_15:=tk
noncomputable def g48_16:=regAt Proofs.Try.f48 16
@[go_sem] theorem x48_16:XR 48 g48_16 (by exact(⟨_,by conv=>lhs;reduce⟩:NS g48_16).1):=xk
@[go_sem] theorem t48_16:TK g48_16:=tk
noncomputable def g48_17:=regAt Proofs.Try.f48 17
@[go_sem] theorem x48_17:XR 48 g48_17 (by exact(⟨_,by conv=>lhs;reduce⟩:NS g48_17).1):=xk
@[go_sem] theorem t48_17:TK g48_17:=tk
noncomputable def g48_18:=regAt Proofs.Try.f48 18
@[go_sem] theorem x48_18:XR 48 g48_18 (by exact(⟨_,by conv=>lhs;reduce⟩:NS g48_18).1):=xk
@[go_sem] theorem t48_18:TK g48_18:=tk
noncomputable def g48_19:=regAt Proofs.Try.f48 19
@[go_sem] theorem x48_19:XR 48 g48_19 (by exact(⟨_,by conv=>lhs;reduce⟩:NS g48_19).1):=xk
@[go_sem] theorem t48_19:TK g48_19:=tk
noncomputable def g48_20:=regAt Proofs.Try.f48 20
@[go_sem] theorem x48_20:XR 48 g48_20 (by exact(⟨_,by conv=>lhs;reduce⟩:NS g48_20).1):=xk
@[go_sem] theorem t48_20:TK g48_20:=tk
noncomputable def g48_21:=regAt Proofs.Try.f48 21
@[go_sem] theorem x48_21:XR 48 g48_21 (by exact(⟨_,by conv=>lhs;reduce⟩:NS g48_21).1):=xk
@[go_sem] theorem t48_21:TK g48_21:=tk
noncomputable def g48_22:=regAt Proofs.Try.f48 22
@[go_sem] theorem x48_22:XR 48 g48_22 (by exact(⟨_,by conv=>lhs;reduce⟩:NS g48_22).1):=xk
@[go_sem] theorem t48_22:TK g48_22:=tk
noncomputable def g48_23:=regAt Proofs.Try.f48 23
@[go_sem] theorem x48_23:XR 48 g48_23 (by exact(⟨_,by conv=>lhs;reduce⟩:NS g48_23).1):=xk
@[go_sem] theorem t48_23:TK g48_23:=tk
noncomputable def g48_24:=regAt Proofs.Try.f48 24
@[go_sem] theorem x48_24:XR 48 g48_24 (by exact(⟨_,by conv=>lhs;reduce⟩:NS g48_24).1):=xk
@[go_sem] theorem t48_24:TK g48_24:=tk
noncomputable def g48_25:=regAt Proofs.Try.f48 25
@[go_sem] theorem x48_25:XR 48 g48_25 (by exact(⟨_,by conv=>lhs;reduce⟩:NS g48_25).1):=xk
@[go_sem] theorem t48_25:TK g48_25:=tk
noncomputable def g48_26:=regAt Proofs.Try.f48 26
@[go_sem] theorem x48_26:XR 48 g48_26 (by exact(⟨_,by conv=>lhs;reduce⟩:NS g48_26).1):=xk
@[go_sem] theorem t48_26:TK g48_26:=tk
noncomputable def g48_27:=regAt Proofs.Try.f48 27
@[go_sem] theorem x48_27:XR 48 g48_27 (by exact(⟨_,by conv=>lhs;reduce⟩:NS g48_27).1):=xk
@[go_sem] theorem t48_27:TK g48_27:=tk
noncomputable def l48_0:Code:=(.seq (.region 11 g48_11 false) (.seq (.cond (.tmp 34) .skip (.exit 3)) (.seq (.block 4 (.seq (.region 12 g48_12 false) (.seq (.seq (.region 13 g48_13 false) (.cond (.tmp 42) (.exit 4) .skip)) (.seq (.region 14 g48_14 false) (.exit 1))))) (.region 15 g48_15 false))))
theorem dl48_0{ro nt:Nat}{fr:PT}{H:Hp}:(den cx).loop ro 48 nt l48_0 fr H=xbind (ex cx (den cx) ro 48 nt (.seq (.region 11 g48_11 false) (.seq (.cond (.tmp 34) .skip (.exit 3)) (.seq (.block 4 (.seq (.region 12 g48_12 false) (.seq (.seq (.region 13 g48_13 false) (.cond (.tmp 42) (.exit 4) .skip)) (.seq (.region 14 g48_14 false) (.exit 1))))) (.region 15 g48_15 false)))) fr H) (contR (trimmed ((den cx).loop ro 48 nt l48_0) H.length)):=den_loop_x l48_0
noncomputable def l48_1:Code:=(.seq (.region 6 g48_6 false) (.seq (.cond (.tmp 22) .skip (.exit 1)) (.seq (.block 2 (.seq (.region 7 g48_7 false) (.seq (.seq (.region 8 g48_8 false) (.cond (.tmp 28) (.seq (.region 9 g48_9 false) .ret) .skip)) (.seq (.region 10 g48_10 false) (.block 3 (.loop l48_0)))))) (.region 16 g48_16 false))))
theorem dl48_1{ro nt:Nat}{fr:PT}{H:Hp}:(den cx).loop ro 48 nt l48_1 fr H=xbind (ex cx (den cx) ro 48 nt (.seq (.region 6 g48_6 false) (.seq (.cond (.tmp 22) .skip (.exit 1)) (.seq (.block 2 (.seq (.region 7 g48_7 false) (.seq (.seq (.region 8 g48_8 false) (.cond (.tmp 28) (.seq (.region 9 g48_9 false) .ret) .skip)) (.seq (.region 10 g48_10 false) (.block 3 (.loop l48_0)))))) (.region 16 g48_16 false)))) fr H) (contR (trimmed ((den cx).loop ro 48 nt l48_1) H.length)):=den_loop_x l48_1
noncomputable def q48_2:Code:=(.region 23 g48_23 false)
noncomputable def r48_2:Code:=(.block 8 (.seq (.region 24 g48_24 false) (.cond (.tmp 63) (.exit 6) .skip)))
noncomputable def l48_3:Code:=(.seq (.region 20 g48_20 false) (.seq (.cond (.tmp 53) .skip (.exit 5)) (.seq (.block 6 (.seq (.region 21 g48_21 false) (.seq (.seq (.region 22 g48_22 false) (.block 7 (.rangeFunc (.tmp 58) #[59,60] q48_2 r48_2))) (.seq (.region 25 g48_25 false) .ret)))) (.region 26 g48_26 false))))
theorem dl48_3{ro nt:Nat}{fr:PT}{H:Hp}:(den cx).loop ro 48 nt l48_3 fr H=xbind (ex cx (den cx) ro 48 nt (.seq (.region 20 g48_20 false) (.seq (.cond (.tmp 53) .skip (.exit 5)) (.seq (.block 6 (.seq (.region 21 g48_21 false) (.seq (.seq (.region 22 g48_22 false) (.block 7 (.rangeFunc (.tmp 58) #[59,60] q48_2 r48_2))) (.seq (.region 25 g48_25 false) .ret)))) (.region 26 g48_26 false)))) fr H) (contR (trimmed ((den cx).loop ro 48 nt l48_3) H.length)):=den_loop_x l48_3
theorem c48{h:Hd}{ro:Nat}{H:Hp}(a0:AV):callB cx h ro 48 [a0] H=returned cx [(.tmp 2),(.tmp 3)] (ex cx h ro 48 66 (.seq (.region 0 g48_0 false) (.scope (.seq (.block 0 (.seq (.region 1 g48_1 false) (.cond (.tmp 11) (.seq (.region 2 g48_2 false) .ret) (.seq (.region 3 g48_3 false) (.cond (.tmp 15) (.seq (.region 4 g48_4 false) .ret) .skip))))) (.seq (.label 0) (.seq (.seq (.region 5 g48_5 false) (.block 1 (.loop l48_1))) (.seq (.seq (.region 17 g48_17 false) (.cond (.tmp 47) (.seq (.region 18 g48_18 false) .ret) .skip)) (.seq (.label 1) (.seq (.seq (.region 19 g48_19 false) (.block 5 (.loop l48_3))) (.seq (.region 27 g48_27 false) .ret))))))))) (PT.nil.set 0 (drp a0)) H):=cbd (fn:=Proofs.Try.f48)
noncomputable def g159_0:=regAt Proofs.Try.f159 0
@[go_sem] theorem x159_0:XR 159 g159_0 (by exact(⟨_,by conv=>lhs;reduce⟩:NS g159_0).1):=xk
@[go_sem] theorem t159_0:TK g159_0:=tk
noncomputable def g159_1:=regAt Proofs.Try.f159 1
@[go_sem] theorem x159_1:XR 159 g159_1 (by exact(⟨_,by conv=>lhs;reduce⟩:NS g159_1).1):=xk
@[go_sem] theorem t159_1:TK g159_1:=tk
theorem c159{h:Hd}{ro:Nat}{H:Hp}:callB cx h ro 159 [] H=returned cx [(.cell 0 209)] (ex cx h ro 159 2 (.seq (.region 0 g159_0 false) (.seq (.region 1 g159_1 false) .ret)) PT.nil H):=cbd (fn:=Proofs.Try.f159)
noncomputable def g122_0:=regAt Proofs.Try.f122 0
@[go_sem] theorem x122_0:XR 122 g122_0 (by exact(⟨_,by conv=>lhs;reduce⟩:NS g122_0).1):=xk
@[go_sem] theorem t122_0:TK g122_0:=tk
noncomputable def g122_1:=regAt Proofs.Try.f122 1
@[go_sem] theorem x122_1:XR 122 g122_1 (by exact(⟨_,by conv=>lhs;reduce⟩:NS g122_1).1):=xk
@[go_sem] theorem t122_1:TK g122_1:=tk
theorem c122{h:Hd}{ro:Nat}{H:Hp}(a0:AV):callB cx h ro 122 [a0] H=returned cx [(.tmp 2)] (ex cx h ro 122 4 (.seq (.region 0 g122_0 false) (.seq (.region 1 g122_1 false) .ret)) (PT.nil.set 0 (drp a0)) H):=cbd (fn:=Proofs.Try.f122)
noncomputable def g158_0:=regAt Proofs.Try.f158 0
@[go_sem] theorem x158_0:XR 158 g158_0 (by exact(⟨_,by conv=>lhs;reduce⟩:NS g158_0).1):=xk
@[go_sem] theorem t158_0:TK g158_0:=tk
noncomputable def g158_1:=regAt Proofs.Try.f158 1
@[go_sem] theorem x158_1:XR 158 g158_1 (by exact(⟨_,by conv=>lhs;reduce⟩:NS g158_1).1):=xk
@[go_sem] theorem t158_1:TK g158_1:=tk
noncomputable def g158_2:=regAt Proofs.Try.f158 2
@[go_sem] theorem x158_2:XR 158 g158_2 (by exact(⟨_,by conv=>lhs;reduce⟩:NS g158_2).1):=xk
@[go_sem] theorem t158_2:TK g158_2:=tk
noncomputable def g158_3:=regAt Proofs.Try.f158 3
@[go_sem] theorem x158_3:XR 158 g158_3 (by exact(⟨_,by conv=>lhs;reduce⟩:NS g158_3).1):=xk
@[go_sem] theorem t158_3:TK g158_3:=tk
noncomputable def g158_4:=regAt Proofs.Try.f158 4
@[go_sem] theorem x158_4:XR 158 g158_4 (by exact(⟨_,by conv=>lhs;reduce⟩:NS g158_4).1):=xk
@[go_sem] theorem t158_4:TK g158_4:=tk
noncomputable def g158_5:=regAt Proofs.Try.f158 5
@[go_sem] theorem x158_5:XR 158 g158_5 (by exact(⟨_,by conv=>lhs;reduce⟩:NS g158_5).1):=xk
@[go_sem] theorem t158_5:TK g158_5:=tk
noncomputable def g158_6:=regAt Proofs.Try.f158 6
@[go_sem] theorem x158_6:XR 158 g158_6 (by exact(⟨_,by conv=>lhs;reduce⟩:NS g158_6).1):=xk
@[go_sem] theorem t158_6:TK g158_6:=tk
noncomputable def g158_7:=regAt Proofs.Try.f158 7
@[go_sem] theorem x158_7:XUR 158 g158_7 (by exact(⟨_,by conv=>lhs;reduce⟩:NU 158 g158_7).1) 0:=xuk
@[go_sem] theorem t158_7:TK g158_7:=tk
noncomputable def l158_0:Code:=(.seq (.region 2 g158_2 false) (.seq (.cond (.tmp 7) .skip (.exit 0)) (.seq (.block 1 (.seq (.region 3 g158_3 false) (.region 4 g158_4 false))) (.region 5 g158_5 false))))
theorem dl158_0{ro nt:Nat}{fr:PT}{H:Hp}:(den cx).loop ro 158 nt l158_0 fr H=xbind (ex cx (den cx) ro 158 nt (.seq (.region 2 g158_2 false) (.seq (.cond (.tmp 7) .skip (.exit 0)) (.seq (.block 1 (.seq (.region 3 g158_3 false) (.region 4 g158_4 false))) (.region 5 g158_5 false)))) fr H) (contR (trimmed ((den cx).loop ro 158 nt l158_0) H.length)):=den_loop_x l158_0
theorem c158{h:Hd}{ro:Nat}{H:Hp}(a0 a1:AV):callB cx h ro 158 [a0,a1] H=returned cx [] (ex cx h ro 158 20 (.seq (.region 0 g158_0 false) (.seq (.seq (.region 1 g158_1 false) (.block 0 (.loop l158_0))) (.seq (.region 6 g158_6 false) (.cond (.tmp 15) (.region 7 g158_7 true) .skip)))) ((PT.nil.set 0 (drp a0)).set 1 (drp a1)) H):=cbd (fn:=Proofs.Try.f158)
noncomputable def g123_0:=regAt Proofs.Try.f123 0
@[go_sem] theorem x123_0:XR 123 g123_0 (by exact(⟨_,by conv=>lhs;reduce⟩:NS g123_0).1):=xk
@[go_sem] theorem t123_0:TK g123_0:=tk
noncomputable def g123_1:=regAt Proofs.Try.f123 1
@[go_sem] theorem x123_1:XR 123 g123_1 (by exact(⟨_,by conv=>lhs;reduce⟩:NS g123_1).1):=xk
@[go_sem] theorem t123_1:TK g123_1:=tk
noncomputable def g123_2:=regAt Proofs.Try.f123 2
@[go_sem] theorem x123_2:XR 123 g123_2 (by exact(⟨_,by conv=>lhs;reduce⟩:NS g123_2).1):=xk
@[go_sem] theorem t123_2:TK g123_2:=tk
noncomputable def g123_3:=regAt Proofs.Try.f123 3
@[go_sem] theorem x123_3:XR 123 g123_3 (by exact(⟨_,by conv=>lhs;reduce⟩:NS g123_3).1):=xk
@[go_sem] theorem t123_3:TK g123_3:=tk
noncomputable def g123_4:=regAt Proofs.Try.f123 4
@[go_sem] theorem x123_4:XR 123 g123_4 (by exact(⟨_,by conv=>lhs;reduce⟩:NS g123_4).1):=xk
@[go_sem] theorem t123_4_12:takes g123_4 12=true:=nk
@[go_sem] theorem t123_4_13:takes g123_4 13=false:=nk
@[go_sem] theorem t123_4_14:takes g123_4 14=false:=nk
@[go_sem] theorem t123_4_15:takes g123_4 15=false:=nk
@[go_sem] theorem t123_4_16:takes g123_4 16=false:=nk
@[go_sem] theorem t123_4_17:takes g123_4 17=false:=nk
@[go_sem] theorem t123_4_18:takes g123_4 18=false:=nk
@[go_sem] theorem t123_4_19:takes g123_4 19=false:=nk
@[go_sem] theorem t123_4_20:takes g123_4 20=false:=nk
@[go_sem] theorem t123_4_21:takes g123_4 21=false:=nk
@[go_sem] theorem t123_4_3:takes g123_4 3=false:=nk
noncomputable def g123_5:=regAt Proofs.Try.f123 5
@[go_sem] theorem x123_5:XR 123 g123_5 (by exact(⟨_,by conv=>lhs;reduce⟩:NS g123_5).1):=xk
@[go_sem] theorem t123_5:TK g123_5:=tk
noncomputable def g123_6:=regAt Proofs.Try.f123 6
@[go_sem] theorem x123_6:XR 123 g123_6 (by exact(⟨_,by conv=>lhs;reduce⟩:NS g123_6).1):=xk
@[go_sem] theorem t123_6:TK g123_6:=tk
noncomputable def l123_0:Code:=(.seq (.region 2 g123_2 false) (.seq (.cond (.tmp 9) .skip (.exit 0)) (.seq (.block 1 (.seq (.region 3 g123_3 false) (.region 4 g123_4 false))) (.region 5 g123_5 false))))
theorem dl123_0{ro nt:Nat}{fr:PT}{H:Hp}:(den cx).loop ro 123 nt l123_0 fr H=xbind (ex cx (den cx) ro 123 nt (.seq (.region 2 g123_2 false) (.seq (.cond (.tmp 9) .skip (.exit 0)) (.seq (.block 1 (.seq (.region 3 g123_3 false) (.region 4 g123_4 false))) (.region 5 g123_5 false)))) fr H) (contR (trimmed ((den cx).loop ro 123 nt l123_0) H.length)):=den_loop_x l123_0
theorem c123{h:Hd}{ro:Nat}{H:Hp}(a0 a1:AV):callB cx h ro 123 [a0,a1] H=returned cx [(.tmp 3)] (ex cx h ro 123 24 (.seq (.region 0 g123_0 false) (.seq (.seq (.region 1 g123_1 false) (.block 0 (.loop l123_0))) (.seq (.region 6 g123_6 false) .ret))) ((PT.nil.set 0 (drp a0)).set 1 (drp a1)) H):=cbd (fn:=Proofs.Try.f123)
noncomputable def g54_0:=regAt Proofs.Try.f54 0
@[go_sem] theorem x54_0:XR 54 g54_0 (by exact(⟨_,by conv=>lhs;reduce⟩:NS g54_0).1):=xk
@[go_sem] theorem t54_0:TK g54_0:=tk
noncomputable def g54_1:=regAt Proofs.Try.f54 1
@[go_sem] theorem x54_1:XR 54 g54_1 (by exact(⟨_,by conv=>lhs;reduce⟩:NS g54_1).1):=xk
@[go_sem] theorem t54_1:TK g54_1:=tk
noncomputable def g54_2:=regAt Proofs.Try.f54 2
@[go_sem] theorem x54_2:XR 54 g54_2 (by exact(⟨_,by conv=>lhs;reduce⟩:NS g54_2).1):=xk
@[go_sem] theorem t54_2:TK g54_2:=tk
noncomputable def g54_3:=regAt Proofs.Try.f54 3
@[go_sem] theorem x54_3:XR 54 g54_3 (by exact(⟨_,by conv=>lhs;reduce⟩:NS g54_3).1):=xk
@[go_sem] theorem t54_3:TK g54_3:=tk
noncomputable def g54_4:=regAt Proofs.Try.f54 4
@[go_sem] theorem x54_4:XR 54 g54_4 (by exact(⟨_,by conv=>lhs;reduce⟩:NS g54_4).1):=xk
@[go_sem] theorem t54_4:TK g54_4:=tk
noncomputable def g54_5:=regAt Proofs.Try.f54 5
@[go_sem] theorem x54_5:XR 54 g54_5 (by exact(⟨_,by conv=>lhs;reduce⟩:NS g54_5).1):=xk
@[go_sem] theorem t54_5:TK g54_5:=tk
noncomputable def g54_6:=regAt Proofs.Try.f54 6
@[go_sem] theorem x54_6:XR 54 g54_6 (by exact(⟨_,by conv=>lhs;reduce⟩:NS g54_6).1):=xk
@[go_sem] theorem t54_6:TK g54_6:=tk
noncomputable def g54_7:=regAt Proofs.Try.f54 7
@[go_sem] theorem x54_7:XR 54 g54_7 (by exact(⟨_,by conv=>lhs;reduce⟩:NS g54_7).1):=xk
@[go_sem] theorem t54_7:TK g54_7:=tk
noncomputable def g54_8:=regAt Proofs.Try.f54 8
@[go_sem] theorem x54_8:XR 54 g54_8 (by exact(⟨_,by conv=>lhs;reduce⟩:NS g54_8).1):=xk
@[go_sem] theorem t54_8:TK g54_8:=tk
noncomputable def g54_9:=regAt Proofs.Try.f54 9
@[go_sem] theorem x54_9:XR 54 g54_9 (by exact(⟨_,by conv=>lhs;reduce⟩:NS g54_9).1):=xk
@[go_sem] theorem t54_9:TK g54_9:=tk
noncomputable def g54_10:=regAt Proofs.Try.f54 10
@[go_sem] theorem x54_10:XR 54 g54_10 (by exact(⟨_,by conv=>lhs;reduce⟩:NS g54_10).1):=xk
@[go_sem] theorem t54_10:TK g54_10:=tk
noncomputable def g54_11:=regAt Proofs.Try.f54 11
@[go_sem] theorem x54_11:XR 54 g54_11 (by exact(⟨_,by conv=>lhs;reduce⟩:NS g54_11).1):=xk
@[go_sem] theorem t54_11:TK g54_11:=tk
noncomputable def g54_12:=regAt Proofs.Try.f54 12
@[go_sem] theorem x54_12:XUR 54 g54_12 (by exact(⟨_,by conv=>lhs;reduce⟩:NU 54 g54_12).1) 0:=xuk
@[go_sem] theorem t54_12:TK g54_12:=tk
noncomputable def g54_13:=regAt Proofs.Try.f54 13
@[go_sem] theorem x54_13:XR 54 g54_13 (by exact(⟨_,by conv=>lhs;reduce⟩:NS g54_13).1):=xk
@[go_sem] theorem t54_13_40:takes g54_13 40=true:=nk
@[go_sem] theorem t54_13_41:takes g54_13 41=false:=nk
@[go_sem] theorem t54_13_42:takes g54_13 42=false:=nk
@[go_sem] theorem t54_13_43:takes g54_13 43=false:=nk
noncomputable def g54_14:=regAt Proofs.Try.f54 14
@[go_sem] theorem x54_14:XR 54 g54_14 (by exact(⟨_,by conv=>lhs;reduce⟩:NS g54_14).1):=xk
@[go_sem] theorem t54_14:TK g54_14:=tk
noncomputable def g54_15:=regAt Proofs.Try.f54 15
@[go_sem] theorem x54_15:XR 54 g54_15 (by exact(⟨_,by conv=>lhs;reduce⟩:NS g54_15).1):=xk
@[go_sem] theorem t54_15:TK g54_15:=tk
noncomputable def l54_0:Code:=(.seq (.region 10 g54_10 false) (.seq (.cond (.tmp 27) .skip (.exit 2)) (.seq (.block 3 (.seq (.region 11 g54_11 false) (.seq (.region 12 g54_12 true) (.region 13 g54_13 false)))) (.region 14 g54_14 false))))
theorem dl54_0{ro nt:Nat}{fr:PT}{H:Hp}:(den cx).loop ro 54 nt l54_0 fr H=xbind (ex cx (den cx) ro 54 nt (.seq (.region 10 g54_10 false) (.seq (.cond (.tmp 27) .skip (.exit 2)) (.seq (.block 3 (.seq (.region 11 g54_11 false) (.seq (.region 12 g54_12 true) (.region 13 g54_13 false)))) (.region 14 g54_14 false)))) fr H) (contR (trimmed ((den cx).loop ro 54 nt l54_0) H.length)):=den_loop_x l54_0
noncomputable def q54_1:Code:=(.seq (.region 6 g54_6 false) (.region 7 g54_7 false))
noncomputable def r54_1:Code:=(.block 1 (.seq (.region 8 g54_8 false) (.seq (.region 9 g54_9 false) (.block 2 (.loop l54_0)))))
theorem c54{h:Hd}{ro:Nat}{H:Hp}(a0:AV):callB cx h ro 54 [a0] H=returned cx [(.tmp 2)] (ex cx h ro 54 46 (.seq (.region 0 g54_0 false) (.seq (.seq (.region 1 g54_1 false) (.seq (.region 2 g54_2 false) (.cond (.tmp 17) (.seq (.region 3 g54_3 false) .ret) .skip))) (.seq (.region 4 g54_4 false) (.seq (.seq (.region 5 g54_5 false) (.block 0 (.rangeFunc (.tmp 20) #[21,22] q54_1 r54_1))) (.seq (.region 15 g54_15 false) .ret))))) (PT.nil.set 0 (drp a0)) H):=cbd (fn:=Proofs.Try.f54)
noncomputable def g125_0:=regAt Proofs.Try.f125 0
@[go_sem] theorem x125_0:XR 125 g125_0 (by exact(⟨_,by conv=>lhs;reduce⟩:NS g125_0).1):=xk
@[go_sem] theorem t125_0:TK g125_0:=tk
noncomputable def g125_1:=regAt Proofs.Try.f125 1
@[go_sem] theorem x125_1:XR 125 g125_1 (by exact(⟨_,by conv=>lhs;reduce⟩:NS g125_1).1):=xk
@[go_sem] theorem t125_1:TK g125_1:=tk
theorem c125{h:Hd}{ro:Nat}{H:Hp}(a0 a1:AV):callB cx h ro 125 [a0,a1] H=returned cx [(.tmp 4)] (ex cx h ro 125 29 (.seq (.region 0 g125_0 false) (.seq (.region 1 g125_1 false) .ret)) ((PT.nil.set 0 (drp a0)).set 1 (drp a1)) H):=cbd (fn:=Proofs.Try.f125)
noncomputable def g127_0:=regAt Proofs.Try.f127 0
@[go_sem] theorem x127_0:XR 127 g127_0 (by exact(⟨_,by conv=>lhs;reduce⟩:NS g127_0).1):=xk
@[go_sem] theorem t127_0:TK g127_0:=tk
noncomputable def g127_1:=regAt Proofs.Try.f127 1
@[go_sem] theorem x127_1:XR 127 g127_1 (by exact(⟨_,by conv=>lhs;reduce⟩:NS g127_1).1):=xk
@[go_sem] theorem t127_1:TK g127_1:=tk
theorem c127{h:Hd}{ro:Nat}{H:Hp}(a0 a1 a2:AV):callB cx h ro 127 [a0,a1,a2] H=returned cx [(.tmp 6)] (ex cx h ro 127 8 (.seq (.region 0 g127_0 false) (.seq (.region 1 g127_1 false) .ret)) (((PT.nil.set 0 (drp a0)).set 1 (drp a1)).set 2 (drp a2)) H):=cbd (fn:=Proofs.Try.f127)
noncomputable def g160_0:=regAt Proofs.Try.f160 0
@[go_sem] theorem x160_0:XR 160 g160_0 (by exact(⟨_,by conv=>lhs;reduce⟩:NS g160_0).1):=xk
@[go_sem] theorem t160_0:TK g160_0:=tk
noncomputable def g160_1:=regAt Proofs.Try.f160 1
@[go_sem] theorem x160_1:XR 160 g160_1 (by exact(⟨_,by conv=>lhs;reduce⟩:NS g160_1).1):=xk
@[go_sem] theorem t160_1:TK g160_1:=tk
noncomputable def g160_2:=regAt Proofs.Try.f160 2
@[go_sem] theorem x160_2:XR 160 g160_2 (by exact(⟨_,by conv=>lhs;reduce⟩:NS g160_2).1):=xk
@[go_sem] theorem t160_2:TK g160_2:=tk
noncomputable def g160_3:=regAt Proofs.Try.f160 3
@[go_sem] theorem x160_3:XR 160 g160_3 (by exact(⟨_,by conv=>lhs;reduce⟩:NS g160_3).1):=xk
@[go_sem] theorem t160_3:TK g160_3:=tk
noncomputable def g160_4:=regAt Proofs.Try.f160 4
@[go_sem] theorem x160_4:XUR 160 g160_4 (by exact(⟨_,by conv=>lhs;reduce⟩:NU 160 g160_4).1) 0:=xuk
@[go_sem] theorem t160_4:TK g160_4:=tk
noncomputable def g160_5:=regAt Proofs.Try.f160 5
@[go_sem] theorem x160_5:XR 160 g160_5 (by exact(⟨_,by conv=>lhs;reduce⟩:NS g160_5).1):=xk
@[go_sem] theorem t160_5:TK g160_5:=tk
noncomputable def l160_0:Code:=(.seq (.region 1 g160_1 false) (.seq (.cond (.tmp 11) .skip (.exit 0)) (.seq (.block 1 (.seq (.region 2 g160_2 false) (.seq (.region 3 g160_3 false) (.seq (.region 4 g160_4 true) (.cond (.tmp 46) .ret .skip))))) (.region 5 g160_5 false))))
theorem dl160_0{ro nt:Nat}{fr:PT}{H:Hp}:(den cx).loop ro 160 nt l160_0 fr H=xbind (ex cx (den cx) ro 160 nt (.seq (.region 1 g160_1 false) (.seq (.cond (.tmp 11) .skip (.exit 0)) (.seq (.block 1 (.seq (.region 2 g160_2 false) (.seq (.region 3 g160_3 false) (.seq (.region 4 g160_4 true) (.cond (.tmp 46) .ret .skip))))) (.region 5 g160_5 false)))) fr H) (contR (trimmed ((den cx).loop ro 160 nt l160_0) H.length)):=den_loop_x l160_0
theorem c160{h:Hd}{ro:Nat}{H:Hp}(a0 a1 a2 a3:AV):callB cx h ro 160 [a0,a1,a2,a3] H=returned cx [] (ex cx h ro 160 48 (.seq (.region 0 g160_0 false) (.block 0 (.loop l160_0))) ((((PT.nil.set 0 (drp a0)).set 1 (drp a1)).set 2 (drp a2)).set 3 (drp a3)) H):=cbd (fn:=Proofs.Try.f160)
noncomputable def g129_0:=regAt Proofs.Try.f129 0
@[go_sem] theorem x129_0:XR 129 g129_0 (by exact(⟨_,by conv=>lhs;reduce⟩:NS g129_0).1):=xk
@[go_sem] theorem t129_0:TK g129_0:=tk
noncomputable def g129_1:=regAt Proofs.Try.f129 1
@[go_sem] theorem x129_1:XR 129 g129_1 (by exact(⟨_,by conv=>lhs;reduce⟩:NS g129_1).1):=xk
@[go_sem] theorem t129_1:TK g129_1:=tk
theorem c129{h:Hd}{ro:Nat}{H:Hp}(a0 a1:AV):callB cx h ro 129 [a0,a1] H=returned cx [(.tmp 3)] (ex cx h ro 129 12 (.seq (.region 0 g129_0 false) (.seq (.region 1 g129_1 false) .ret)) ((PT.nil.set 0 (drp a0)).set 1 (drp a1)) H):=cbd (fn:=Proofs.Try.f129)
noncomputable def g67_0:=regAt Proofs.Try.f67 0
@[go_sem] theorem x67_0:XR 67 g67_0 (by exact(⟨_,by conv=>lhs;reduce⟩:NS g67_0).1):=xk
@[go_sem] theorem t67_0:TK g67_0:=tk
noncomputable def g67_1:=regAt Proofs.Try.f67 1
@[go_sem] theorem x67_1:XR 67 g67_1 (by exact(⟨_,by conv=>lhs;reduce⟩:NS g67_1).1):=xk
@[go_sem] theorem t67_1:TK g67_1:=tk
noncomputable def g67_2:=regAt Proofs.Try.f67 2
@[go_sem] theorem x67_2:XR 67 g67_2 (by exact(⟨_,by conv=>lhs;reduce⟩:NS g67_2).1):=xk
@[go_sem] theorem t67_2:TK g67_2:=tk
noncomputable def g67_3:=regAt Proofs.Try.f67 3
@[go_sem] theorem x67_3:XUR 67 g67_3 (by exact(⟨_,by conv=>lhs;reduce⟩:NU 67 g67_3).1) 0:=xuk
@[go_sem] theorem t67_3:TK g67_3:=tk
noncomputable def g67_4:=regAt Proofs.Try.f67 4
@[go_sem] theorem x67_4:XR 67 g67_4 (by exact(⟨_,by conv=>lhs;reduce⟩:NS g67_4).1):=xk
@[go_sem] theorem t67_4:TK g67_4:=tk
noncomputable def g67_5:=regAt Proofs.Try.f67 5
@[go_sem] theorem x67_5:XR 67 g67_5 (by exact(⟨_,by conv=>lhs;reduce⟩:NS g67_5).1):=xk
@[go_sem] theorem t67_5:TK g67_5:=tk
noncomputable def g67_6:=regAt Proofs.Try.f67 6
@[go_sem] theorem x67_6:XR 67 g67_6 (by exact(⟨_,by conv=>lhs;reduce⟩:NS g67_6).1):=xk
@[go_sem] theorem t67_6:TK g67_6:=tk
noncomputable def g67_7:=regAt Proofs.Try.f67 7
@[go_sem] theorem x67_7:XR 67 g67_7 (by exact(⟨_,by conv=>lhs;reduce⟩:NS g67_7).1):=xk
@[go_sem] theorem t67_7:TK g67_7:=tk
noncomputable def g67_8:=regAt Proofs.Try.f67 8
@[go_sem] theorem x67_8:XR 67 g67_8 (by exact(⟨_,by conv=>lhs;reduce⟩:NS g67_8).1):=xk
@[go_sem] theorem t67_8:TK g67_8:=tk
noncomputable def g67_9:=regAt Proofs.Try.f67 9
@[go_sem] theorem x67_9:XR 67 g67_9 (by exact(⟨_,by conv=>lhs;reduce⟩:NS g67_9).1):=xk
@[go_sem] theorem t67_9:TK g67_9:=tk
noncomputable def g67_10:=regAt Proofs.Try.f67 10
@[go_sem] theorem x67_10:XR 67 g67_10 (by exact(⟨_,by conv=>lhs;reduce⟩:NS g67_10).1):=xk
@[go_sem] theorem t67_10:TK g67_10:=tk
noncomputable def g67_11:=regAt Proofs.Try.f67 11
@[go_sem] theorem x67_11:XR 67 g67_11 (by exact(⟨_,by conv=>lhs;reduce⟩:NS g67_11).1):=xk
@[go_sem] theorem t67_11_42:takes g67_11 42=true:=nk
@[go_sem] theorem t67_11_43:takes g67_11 43=false:=nk
@[go_sem] theorem t67_11_44:takes g67_11 44=false:=nk
@[go_sem] theorem t67_11_45:takes g67_11 45=false:=nk
@[go_sem] theorem t67_11_46:takes g67_11 46=false:=nk
@[go_sem] theorem t67_11_7:takes g67_11 7=false:=nk
noncomputable def g67_12:=regAt Proofs.Try.f67 12
@[go_sem] theorem x67_12:XR 67 g67_12 (by exact(⟨_,by conv=>lhs;reduce⟩:NS g67_12).1):=xk
@[go_sem] theorem t67_12:TK g67_12:=tk
noncomputable def g67_13:=regAt Proofs.Try.f67 13
@[go_sem] theorem x67_13:XR 67 g67_13 (by exact(⟨_,by conv=>lhs;reduce⟩:NS g67_13).1):=xk
@[go_sem] theorem t67_13:TK g67_13:=tk
noncomputable def g67_14:=regAt Proofs.Try.f67 14
@[go_sem] theorem x67_14:XR 67 g67_14 (by exact(⟨_,by conv=>lhs;reduce⟩:NS g67_14).1):=xk
@[go_sem] theorem t67_14:TK g67_14:=tk
noncomputable def g67_15:=regAt Proofs.Try.f67 15
@[go_sem] theorem x67_15:XR 67 g67_15 (by exact(⟨_,by conv=>lhs;reduce⟩:NS g67_15).1):=xk
@[go_sem] theorem t67_15:TK g67_15:=tk
noncomputable def g67_16:=regAt Proofs.Try.f67 16
@[go_sem] theorem x67_16:XR 67 g67_16 (by exact(⟨_,by conv=>lhs;reduce⟩:NS g67_16).1):=xk
@[go_sem] theorem t67_16:TK g67_16:=tk
noncomputable def g67_17:=regAt Proofs.Try.f67 17
@[go_sem] theorem x67_17:XR 67 g67_17 (by exact(⟨_,by conv=>lhs;reduce⟩:NS g67_17).1):=xk
@[go_sem] theorem t67_17:TK g67_17:=tk
noncomputable def q67_0:Code:=(.region 13 g67_13 false)
noncomputable def r67_0:Code:=(.block 3 (.seq (.region 14 g67_14 false) (.cond (.tmp 54) (.seq (.region 15 g67_15 false) .ret) .skip)))
noncomputable def l67_1:Code:=(.seq (.region 6 g67_6 false) (.seq (.cond (.tmp 23) .skip (.exit 0)) (.seq (.block 1 (.seq (.region 7 g67_7 false) (.seq (.seq (.region 8 g67_8 false) (.cond (.tmp 30) (.exit 1) .skip)) (.seq (.region 9 g67_9 false) (.seq (.seq (.region 10 g67_10 false) (.cond (.tmp 41) (.region 11 g67_11 false) .skip)) (.seq (.region 12 g67_12 false) (.block 2 (.rangeFunc (.tmp 50) #[51,52] q67_0 r67_0)))))))) (.region 16 g67_16 false))))
theorem dl67_1{ro nt:Nat}{fr:PT}{H:Hp}:(den cx).loop ro 67 nt l67_1 fr H=xbind (ex cx (den cx) ro 67 nt (.seq (.region 6 g67_6 false) (.seq (.cond (.tmp 23) .skip (.exit 0)) (.seq (.block 1 (.seq (.region 7 g67_7 false) (.seq (.seq (.region 8 g67_8 false) (.cond (.tmp 30) (.exit 1) .skip)) (.seq (.region 9 g67_9 false) (.seq (.seq (.region 10 g67_10 false) (.cond (.tmp 41) (.region 11 g67_11 false) .skip)) (.seq (.region 12 g67_12 false) (.block 2 (.rangeFunc (.tmp 50) #[51,52] q67_0 r67_0)))))))) (.region 16 g67_16 false)))) fr H) (contR (trimmed ((den cx).loop ro 67 nt l67_1) H.length)):=den_loop_x l67_1
theorem c67{h:Hd}{ro:Nat}{H:Hp}(a0:AV):callB cx h ro 67 [a0] H=returned cx [(.cell 2 3),(.cell 3 27)] (ex cx h ro 67 57 (.seq (.region 0 g67_0 false) (.seq (.seq (.region 1 g67_1 false) (.seq (.region 2 g67_2 false) (.cond (.tmp 16) (.seq (.region 3 g67_3 true) .ret) .skip))) (.seq (.region 4 g67_4 false) (.seq (.seq (.region 5 g67_5 false) (.block 0 (.loop l67_1))) (.seq (.region 17 g67_17 false) .ret))))) (PT.nil.set 0 (drp a0)) H):=cbd (fn:=Proofs.Try.f67)
noncomputable def g69_0:=regAt Proofs.Try.f69 0
@[go_sem] theorem x69_0:XR 69 g69_0 (by exact(⟨_,by conv=>lhs;reduce⟩:NS g69_0).1):=xk
@[go_sem] theorem t69_0:TK g69_0:=tk
noncomputable def g69_1:=regAt Proofs.Try.f69 1
@[go_sem] theorem x69_1:XR 69 g69_1 (by exact(⟨_,by conv=>lhs;reduce⟩:NS g69_1).1):=xk
@[go_sem] theorem t69_1:TK g69_1:=tk
noncomputable def g69_2:=regAt Proofs.Try.f69 2
@[go_sem] theorem x69_2:XR 69 g69_2 (by exact(⟨_,by conv=>lhs;reduce⟩:NS g69_2).1):=xk
@[go_sem] theorem t69_2:TK g69_2:=tk
noncomputable def g69_3:=regAt Proofs.Try.f69 3
@[go_sem] theorem x69_3:XR 69 g69_3 (by exact(⟨_,by conv=>lhs;reduce⟩:NS g69_3).1):=xk
@[go_sem] theorem t69_3:TK g69_3:=tk
noncomputable def g69_4:=regAt Proofs.Try.f69 4
@[go_sem] theorem x69_4:XR 69 g69_4 (by exact(⟨_,by conv=>lhs;reduce⟩:NS g69_4).1):=xk
@[go_sem] theorem t69_4:TK g69_4:=tk
noncomputable def g69_5:=regAt Proofs.Try.f69 5
@[go_sem] theorem x69_5:XR 69 g69_5 (by exact(⟨_,by conv=>lhs;reduce⟩:NS g69_5).1):=xk
@[go_sem] theorem t69_5:TK g69_5:=tk
noncomputable def g69_6:=regAt Proofs.Try.f69 6
@[go_sem] theorem x69_6:XR 69 g69_6 (by exact(⟨_,by conv=>lhs;reduce⟩:NS g69_6).1):=xk
@[go_sem] theorem t69_6:TK g69_6:=tk
noncomputable def g69_7:=regAt Proofs.Try.f69 7
@[go_sem] theorem x69_7:XR 69 g69_7 (by exact(⟨_,by conv=>lhs;reduce⟩:NS g69_7).1):=xk
@[go_sem] theorem t69_7:TK g69_7:=tk
noncomputable def g69_8:=regAt Proofs.Try.f69 8
@[go_sem] theorem x69_8:XR 69 g69_8 (by exact(⟨_,by conv=>lhs;reduce⟩:NS g69_8).1):=xk
@[go_sem] theorem t69_8:TK g69_8:=tk
noncomputable def g69_9:=regAt Proofs.Try.f69 9
@[go_sem] theorem x69_9:XR 69 g69_9 (by exact(⟨_,by conv=>lhs;reduce⟩:NS g69_9).1):=xk
@[go_sem] theorem t69_9:TK g69_9:=tk
noncomputable def g69_10:=regAt Proofs.Try.f69 10
@[go_sem] theorem x69_10:XR 69 g69_10 (by exact(⟨_,by conv=>lhs;reduce⟩:NS g69_10).1):=xk
@[go_sem] theorem t69_10:TK g69_10:=tk
noncomputable def q69_0:Code:=(.region 8 g69_8 false)
noncomputable def r69_0:Code:=(.block 1 (.seq (.region 9 g69_9 false) .ret))
theorem c69{h:Hd}{ro:Nat}{H:Hp}(a0 a1 a2:AV):callB cx h ro 69 [a0,a1,a2] H=returned cx [(.cell 6 3),(.cell 7 4)] (ex cx h ro 69 40 (.seq (.region 0 g69_0 false) (.seq (.region 1 g69_1 false) (.seq (.seq (.region 2 g69_2 false) (.cond (.tmp 24) (.seq (.region 3 g69_3 false) .ret) .skip)) (.seq (.seq (.region 4 g69_4 false) (.seq (.region 5 g69_5 false) (.cond (.tmp 31) (.seq (.region 6 g69_6 false) .ret) .skip))) (.seq (.seq (.region 7 g69_7 false) (.block 0 (.rangeFunc (.tmp 36) #[37,38] q69_0 r69_0))) (.seq (.region 10 g69_10 false) .ret)))))) (((PT.nil.set 0 (drp a0)).set 1 (drp a1)).set 2 (drp a2)) H):=cbd (fn:=Proofs.Try.f69)
end Go.Abs.Tab
