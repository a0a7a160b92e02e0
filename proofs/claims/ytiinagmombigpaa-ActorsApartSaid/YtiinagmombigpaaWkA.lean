/- The table of actors: where a slot is. -/
import Derived.Test.YtiinagmombigpaaFnA
import Derived.Test.YtiinagmombigpaaEvS
import Derived.Test.YtiinagmombigpaaOpen2
set_option linter.unnecessarySimpa false
set_option linter.unusedSimpArgs false
set_option linter.unusedVariables false
namespace Go.Abs.Tab
abbrev iv(n:Int):AV:=.lit (.int .i64 n)
abbrev bv(b:Bool):AV:=.lit (.bool b)
noncomputable abbrev D:Hd:=den cx
def liveC(c:List AV):Bool:=match (c[19]?:Option AV) with
 | some (.lit (.bool b))=>b
 | _=>false
def SlotOk(c:List AV):Prop:=c.length=20∧c[19]?=some (bv (liveC c))
structure TblAt(H:Hp)(b1 b0:Nat)(sl:List (List AV)):Prop where
 tb:H[b1]?=some (.cells 1 180 [.agg [.sl b0 20 0 sl.length sl.length]])
 sb:H[b0]?=some (.cells 20 185 (sl.map .agg))
 ne:b0≠b1
 ok:∀c∈sl,SlotOk c
theorem at_in{ro:Nat}{H:Hp}{b1 b0:Nat}{sl:List (List AV)}(h:TblAt H b1 b0 sl){n:Nat}(hn:n<sl.length)(hl:sl.length<2 ^ 62){c:List AV}(hc:sl[n]?=some c):
  callB cx D ro 109 [.ptr b1 0 0,iv n] H=some (if liveC c then .tup [.ptr b0 n 0,iv 0] else .tup [.lit (.pointer none),iv 24],H):=by
 have h1:¬(n:Int)<0:=by omega
 have h2:¬(sl.length:Int)≤(n:Int):=by omega
 have e1:aindexAddr cx.T 178 (.sl b0 20 0 sl.length sl.length) (iv n)=some (.ptr b0 n 0):=by rw[aindexAddr_blk sl178 rfl hn,Nat.zero_add]
 have e2:elAt H b0 n=some (.agg c):=by rw[elAt_of h.sb,List.getElem?_map,hc];rfl
 have e3:=(h.ok c (List.mem_of_getElem? hc)).2
 rw[c109]
 cases hlv:liveC c with
 | true =>
  rw[hlv]at e3
  simp -implicitDefEqProofs (maxDischargeDepth:=4) only[go_sem,decide_true,decide_false,beq_self_eq_true,↓reduceIte,Nat.reduceLT,Nat.reduceAdd,Nat.reduceMul,Nat.reduceSub,Nat.reduceEqDiff,Nat.reduceLeDiff,Nat.reduceBEq,reduceCtorEq,Nat.succ_ne_zero,Bool.not_true,Bool.not_false,Bool.true_eq_false,Bool.false_eq_true,Bool.true_beq,Bool.false_beq,Int.reduceLT,Int.reduceLE,Int.reduceEq,Int.reduceNe,ne_eq,not_false_eq_true,not_true_eq_false,List.getElem?_cons_zero,List.getElem?_cons_succ,List.length_cons,List.length_nil,List.all_cons,List.all_nil,Bool.and_true,Bool.and_self,Bool.true_and,Bool.false_and,Bool.and_false,Bool.or_true,Bool.or_false,Bool.true_or,Bool.false_or,Bool.or_self,List.elem_cons,List.elem_nil,Nat.add_zero,Nat.zero_add,or_self,or_false,false_or,true_or,or_true,and_true,true_and,and_false,false_and,and_self,List.mem_cons,List.not_mem_nil,Nat.reducePow,h1,h2,elAt_of h.tb,e1,e2,e3]
 | false =>
  rw[hlv]at e3
  simp -implicitDefEqProofs (maxDischargeDepth:=4) only[go_sem,decide_true,decide_false,beq_self_eq_true,↓reduceIte,Nat.reduceLT,Nat.reduceAdd,Nat.reduceMul,Nat.reduceSub,Nat.reduceEqDiff,Nat.reduceLeDiff,Nat.reduceBEq,reduceCtorEq,Nat.succ_ne_zero,Bool.not_true,Bool.not_false,Bool.true_eq_false,Bool.false_eq_true,Bool.true_beq,Bool.false_beq,Int.reduceLT,Int.reduceLE,Int.reduceEq,Int.reduceNe,ne_eq,not_false_eq_true,not_true_eq_false,List.getElem?_cons_zero,List.getElem?_cons_succ,List.length_cons,List.length_nil,List.all_cons,List.all_nil,Bool.and_true,Bool.and_self,Bool.true_and,Bool.false_and,Bool.and_false,Bool.or_true,Bool.or_false,Bool.true_or,Bool.false_or,Bool.or_self,List.elem_cons,List.elem_nil,Nat.add_zero,Nat.zero_add,or_self,or_false,false_or,true_or,or_true,and_true,true_and,and_false,false_and,and_self,List.mem_cons,List.not_mem_nil,Nat.reducePow,h1,h2,elAt_of h.tb,e1,e2,e3]
def zeroC:List AV:=[iv 0,iv 0,.lit (.slice none 0 0),iv 0,iv 0,iv 0,iv 0,iv 0,iv 0,iv 0,iv 0,iv 0,iv 0,iv 0,iv 0,iv 0,iv 0,iv 0,iv 0,bv false]
theorem zeroC_ok:SlotOk zeroC:=⟨rfl,rfl⟩
theorem build180(b s i l c:Nat):abuild cx.T 180 [(0,.sl b s i l c)]=some (.agg [.sl b s i l c]):=nk
theorem new_ok{ro:Nat}{H:Hp}{n:Nat}(hr:ro≤H.length)(h1:1≤n)(h2:n≤32):
  callB cx D ro 34 [iv n] H=some (.ptr (H.length+1) 0 0,H++[.cells 20 185 (List.replicate n (.agg zeroC)),.cells 1 180 [.agg [.sl H.length 20 0 n n]]]):=by
 have e1:¬(n:Int)<1:=by omega
 have e2:¬32<(n:Int):=by omega
 have e3:n*177≤1099511627776:=by omega
 have e4:∀k,ro≤H.length+k:=fun k=>by omega
 rw[c34]
 simp -implicitDefEqProofs (maxDischargeDepth:=4) only[go_sem,decide_true,decide_false,beq_self_eq_true,↓reduceIte,Nat.reduceLT,Nat.reduceAdd,Nat.reduceMul,Nat.reduceSub,Nat.reduceEqDiff,Nat.reduceLeDiff,Nat.reduceBEq,reduceCtorEq,Nat.succ_ne_zero,Bool.not_true,Bool.not_false,Bool.true_eq_false,Bool.false_eq_true,Bool.true_beq,Bool.false_beq,Int.reduceLT,Int.reduceLE,Int.reduceEq,Int.reduceNe,ne_eq,not_false_eq_true,not_true_eq_false,List.getElem?_cons_zero,List.getElem?_cons_succ,List.length_cons,List.length_nil,List.all_cons,List.all_nil,Bool.and_true,Bool.and_self,Bool.true_and,Bool.false_and,Bool.and_false,Bool.or_true,Bool.or_false,Bool.true_or,Bool.false_or,Bool.or_self,List.elem_cons,List.elem_nil,Nat.add_zero,Nat.zero_add,or_self,or_false,false_or,true_or,or_true,and_true,true_and,and_false,false_and,and_self,List.mem_cons,List.not_mem_nil,Nat.reducePow,e1,e2,e3,build180,hr,e4,zeroC]
theorem all_ok{ro:Nat}{H:Hp}{b1:Nat}{l:Bool}(hr:ro≤H.length):
  callB cx D ro 108 [.ptr b1 0 0,bv l] H=some (.fn 150 [.ptr H.length 0 0,.ptr (H.length+1) 0 0],H++[.cells 1 24 [.ptr b1 0 0],.cells 1 4 [bv l]]):=by
 have e4:∀k,ro≤H.length+k:=fun k=>by omega
 rw[c108]
 simp -implicitDefEqProofs (maxDischargeDepth:=4) only[go_sem,decide_true,decide_false,beq_self_eq_true,↓reduceIte,Nat.reduceLT,Nat.reduceAdd,Nat.reduceMul,Nat.reduceSub,Nat.reduceEqDiff,Nat.reduceLeDiff,Nat.reduceBEq,reduceCtorEq,Nat.succ_ne_zero,Bool.not_true,Bool.not_false,Bool.true_eq_false,Bool.false_eq_true,Bool.true_beq,Bool.false_beq,Int.reduceLT,Int.reduceLE,Int.reduceEq,Int.reduceNe,ne_eq,not_false_eq_true,not_true_eq_false,List.getElem?_cons_zero,List.getElem?_cons_succ,List.length_cons,List.length_nil,List.all_cons,List.all_nil,Bool.and_true,Bool.and_self,Bool.true_and,Bool.false_and,Bool.and_false,Bool.or_true,Bool.or_false,Bool.true_or,Bool.false_or,Bool.or_self,List.elem_cons,List.elem_nil,Nat.add_zero,Nat.zero_add,or_self,or_false,false_or,true_or,or_true,and_true,true_and,and_false,false_and,and_self,List.mem_cons,List.not_mem_nil,Nat.reducePow,hr,e4]
structure AllCtx(G:Hp)(pb qb b1 b0:Nat)(sl:List (List AV))(want:Bool):Prop extends TblAt G b1 b0 sl where
 ht:G[pb]?=some (.cells 1 24 [.ptr b1 0 0])
 hl:G[qb]?=some (.cells 1 4 [bv want])
structure AllFr(fr:PT)(l pb qb len i:Nat):Prop where
 f0:fr.get 0=.yld l
 f1:fr.get 1=.ptr pb 0 0
 f2:fr.get 2=.ptr qb 0 0
 f9:fr.get 9=iv len
 f10:fr.get 10=iv i
section
variable {ro l pb qb b1 b0:Nat} {G:Hp} {sl:List (List AV)} {want:Bool}
theorem all_end(C:AllCtx G pb qb b1 b0 sl want){fr:PT}(F:AllFr fr l pb qb sl.length sl.length):∃fr',D.loop ro 150 30 l150_0 fr G=some (.exit 0,fr',G):=by
 have hn:¬((sl.length:Int)<(sl.length:Int)):=by omega
 rw[dl150_0]
 simp -implicitDefEqProofs (maxDischargeDepth:=4) only[go_sem,decide_true,decide_false,beq_self_eq_true,↓reduceIte,Nat.reduceLT,Nat.reduceAdd,Nat.reduceMul,Nat.reduceSub,Nat.reduceEqDiff,Nat.reduceLeDiff,Nat.reduceBEq,reduceCtorEq,Nat.succ_ne_zero,Bool.not_true,Bool.not_false,Bool.true_eq_false,Bool.false_eq_true,Bool.true_beq,Bool.false_beq,Int.reduceLT,Int.reduceLE,Int.reduceEq,Int.reduceNe,ne_eq,not_false_eq_true,not_true_eq_false,List.getElem?_cons_zero,List.getElem?_cons_succ,List.length_cons,List.length_nil,List.all_cons,List.all_nil,Bool.and_true,Bool.and_self,Bool.true_and,Bool.false_and,Bool.and_false,Bool.or_true,Bool.or_false,Bool.true_or,Bool.false_or,Bool.or_self,List.elem_cons,List.elem_nil,Nat.add_zero,Nat.zero_add,or_self,or_false,false_or,true_or,or_true,and_true,true_and,and_false,false_and,and_self,List.mem_cons,List.not_mem_nil,Nat.reducePow,F.f9,F.f10,hn]
 exact⟨_,rfl⟩
theorem all_no(C:AllCtx G pb qb b1 b0 sl want)(hl:sl.length<2 ^ 62){fr:PT}{i:Nat}(F:AllFr fr l pb qb sl.length i)(hi:i<sl.length){c:List AV}(hc:sl[i]?=some c)(hw:liveC c≠want){P:Option Res→Prop}
  (hX:∀fr',AllFr fr' l pb qb sl.length (i+1)→P (D.loop ro 150 30 l150_0 fr' G)):P (D.loop ro 150 30 l150_0 fr G):=by
 have hn:((i:Int)<(sl.length:Int)):=by omega
 have e1:aindexAddr cx.T 178 (.sl b0 20 0 sl.length sl.length) (iv i)=some (.ptr b0 i 0):=by rw[aindexAddr_blk sl178 rfl hi,Nat.zero_add]
 have e2:elAt G b0 i=some (.agg c):=by rw[elAt_of C.sb,List.getElem?_map,hc];rfl
 have e3:=(C.ok c (List.mem_of_getElem? hc)).2
 have e4:(liveC c == want)=false:=by simpa using hw
 have e5:wrapK .i64 ((i:Int)+1)=((i+1:Nat):Int):=by rw[wrapK_i64 (by omega) (by omega)];rfl
 rw[dl150_0]
 simp -implicitDefEqProofs (maxDischargeDepth:=4) only[go_sem,decide_true,decide_false,beq_self_eq_true,↓reduceIte,Nat.reduceLT,Nat.reduceAdd,Nat.reduceMul,Nat.reduceSub,Nat.reduceEqDiff,Nat.reduceLeDiff,Nat.reduceBEq,reduceCtorEq,Nat.succ_ne_zero,Bool.not_true,Bool.not_false,Bool.true_eq_false,Bool.false_eq_true,Bool.true_beq,Bool.false_beq,Int.reduceLT,Int.reduceLE,Int.reduceEq,Int.reduceNe,ne_eq,not_false_eq_true,not_true_eq_false,List.getElem?_cons_zero,List.getElem?_cons_succ,List.length_cons,List.length_nil,List.all_cons,List.all_nil,Bool.and_true,Bool.and_self,Bool.true_and,Bool.false_and,Bool.and_false,Bool.or_true,Bool.or_false,Bool.true_or,Bool.false_or,Bool.or_self,List.elem_cons,List.elem_nil,Nat.add_zero,Nat.zero_add,or_self,or_false,false_or,true_or,or_true,and_true,true_and,and_false,false_and,and_self,List.mem_cons,List.not_mem_nil,Nat.reducePow,F.f0,F.f1,F.f2,F.f9,F.f10,hn,elAt_of C.ht,elAt_of C.hl,elAt_of C.tb,e1,e2,e3,e4,e5]
 refine hX _ ?_
 constructor<;>simp -implicitDefEqProofs (maxDischargeDepth:=4) only[go_sem,decide_true,decide_false,beq_self_eq_true,↓reduceIte,Nat.reduceLT,Nat.reduceAdd,Nat.reduceMul,Nat.reduceSub,Nat.reduceEqDiff,Nat.reduceLeDiff,Nat.reduceBEq,reduceCtorEq,Nat.succ_ne_zero,Bool.not_true,Bool.not_false,Bool.true_eq_false,Bool.false_eq_true,Bool.true_beq,Bool.false_beq,Int.reduceLT,Int.reduceLE,Int.reduceEq,Int.reduceNe,ne_eq,not_false_eq_true,not_true_eq_false,List.getElem?_cons_zero,List.getElem?_cons_succ,List.length_cons,List.length_nil,List.all_cons,List.all_nil,Bool.and_true,Bool.and_self,Bool.true_and,Bool.false_and,Bool.and_false,Bool.or_true,Bool.or_false,Bool.true_or,Bool.false_or,Bool.or_self,List.elem_cons,List.elem_nil,Nat.add_zero,Nat.zero_add,or_self,or_false,false_or,true_or,or_true,and_true,true_and,and_false,false_and,and_self,List.mem_cons,List.not_mem_nil,Nat.reducePow,F.f0,F.f1,F.f2,F.f9,F.f10]
theorem all_yes(C:AllCtx G pb qb b1 b0 sl want)(hl:sl.length<2 ^ 62){fr:PT}{i:Nat}(F:AllFr fr l pb qb sl.length i)(hi:i<sl.length){c:List AV}(hc:sl[i]?=some c)(hw:liveC c=want){G':Hp}
  (hr:round D ro l [iv i] G=some (bv true,G')) {P:Option Res→Prop} (hX:∀fr',AllFr fr' l pb qb sl.length (i+1)→P (trimmed (D.loop ro 150 30 l150_0) G.length fr' G')):P (D.loop ro 150 30 l150_0 fr G):=by
 have hn:((i:Int)<(sl.length:Int)):=by omega
 have e1:aindexAddr cx.T 178 (.sl b0 20 0 sl.length sl.length) (iv i)=some (.ptr b0 i 0):=by rw[aindexAddr_blk sl178 rfl hi,Nat.zero_add]
 have e2:elAt G b0 i=some (.agg c):=by rw[elAt_of C.sb,List.getElem?_map,hc];rfl
 have e3:=(C.ok c (List.mem_of_getElem? hc)).2
 have e4:(liveC c == want)=true:=by simpa using hw
 have e5:wrapK .i64 ((i:Int)+1)=((i+1:Nat):Int):=by rw[wrapK_i64 (by omega) (by omega)];rfl
 rw[dl150_0]
 simp -implicitDefEqProofs (maxDischargeDepth:=4) only[go_sem,decide_true,decide_false,beq_self_eq_true,↓reduceIte,Nat.reduceLT,Nat.reduceAdd,Nat.reduceMul,Nat.reduceSub,Nat.reduceEqDiff,Nat.reduceLeDiff,Nat.reduceBEq,reduceCtorEq,Nat.succ_ne_zero,Bool.not_true,Bool.not_false,Bool.true_eq_false,Bool.false_eq_true,Bool.true_beq,Bool.false_beq,Int.reduceLT,Int.reduceLE,Int.reduceEq,Int.reduceNe,ne_eq,not_false_eq_true,not_true_eq_false,List.getElem?_cons_zero,List.getElem?_cons_succ,List.length_cons,List.length_nil,List.all_cons,List.all_nil,Bool.and_true,Bool.and_self,Bool.true_and,Bool.false_and,Bool.and_false,Bool.or_true,Bool.or_false,Bool.true_or,Bool.false_or,Bool.or_self,List.elem_cons,List.elem_nil,Nat.add_zero,Nat.zero_add,or_self,or_false,false_or,true_or,or_true,and_true,true_and,and_false,false_and,and_self,List.mem_cons,List.not_mem_nil,Nat.reducePow,F.f0,F.f1,F.f2,F.f9,F.f10,hn,elAt_of C.ht,elAt_of C.hl,elAt_of C.tb,e1,e2,e3,e4,e5,hr]
 refine hX _ ?_
 constructor<;>simp -implicitDefEqProofs (maxDischargeDepth:=4) only[go_sem,decide_true,decide_false,beq_self_eq_true,↓reduceIte,Nat.reduceLT,Nat.reduceAdd,Nat.reduceMul,Nat.reduceSub,Nat.reduceEqDiff,Nat.reduceLeDiff,Nat.reduceBEq,reduceCtorEq,Nat.succ_ne_zero,Bool.not_true,Bool.not_false,Bool.true_eq_false,Bool.false_eq_true,Bool.true_beq,Bool.false_beq,Int.reduceLT,Int.reduceLE,Int.reduceEq,Int.reduceNe,ne_eq,not_false_eq_true,not_true_eq_false,List.getElem?_cons_zero,List.getElem?_cons_succ,List.length_cons,List.length_nil,List.all_cons,List.all_nil,Bool.and_true,Bool.and_self,Bool.true_and,Bool.false_and,Bool.and_false,Bool.or_true,Bool.or_false,Bool.true_or,Bool.false_or,Bool.or_self,List.elem_cons,List.elem_nil,Nat.add_zero,Nat.zero_add,or_self,or_false,false_or,true_or,or_true,and_true,true_and,and_false,false_and,and_self,List.mem_cons,List.not_mem_nil,Nat.reducePow,F.f0,F.f1,F.f2,F.f9,F.f10]
theorem all_stop(C:AllCtx G pb qb b1 b0 sl want)(hl:sl.length<2 ^ 62){fr:PT}{i:Nat}(F:AllFr fr l pb qb sl.length i)(hi:i<sl.length){c:List AV}(hc:sl[i]?=some c)(hw:liveC c=want){G':Hp}
  (hr:round D ro l [iv i] G=some (bv false,G')):∃fr',D.loop ro 150 30 l150_0 fr G=some (.ret,fr',G'):=by
 have hn:((i:Int)<(sl.length:Int)):=by omega
 have e1:aindexAddr cx.T 178 (.sl b0 20 0 sl.length sl.length) (iv i)=some (.ptr b0 i 0):=by rw[aindexAddr_blk sl178 rfl hi,Nat.zero_add]
 have e2:elAt G b0 i=some (.agg c):=by rw[elAt_of C.sb,List.getElem?_map,hc];rfl
 have e3:=(C.ok c (List.mem_of_getElem? hc)).2
 have e4:(liveC c == want)=true:=by simpa using hw
 rw[dl150_0]
 simp -implicitDefEqProofs (maxDischargeDepth:=4) only[go_sem,decide_true,decide_false,beq_self_eq_true,↓reduceIte,Nat.reduceLT,Nat.reduceAdd,Nat.reduceMul,Nat.reduceSub,Nat.reduceEqDiff,Nat.reduceLeDiff,Nat.reduceBEq,reduceCtorEq,Nat.succ_ne_zero,Bool.not_true,Bool.not_false,Bool.true_eq_false,Bool.false_eq_true,Bool.true_beq,Bool.false_beq,Int.reduceLT,Int.reduceLE,Int.reduceEq,Int.reduceNe,ne_eq,not_false_eq_true,not_true_eq_false,List.getElem?_cons_zero,List.getElem?_cons_succ,List.length_cons,List.length_nil,List.all_cons,List.all_nil,Bool.and_true,Bool.and_self,Bool.true_and,Bool.false_and,Bool.and_false,Bool.or_true,Bool.or_false,Bool.true_or,Bool.false_or,Bool.or_self,List.elem_cons,List.elem_nil,Nat.add_zero,Nat.zero_add,or_self,or_false,false_or,true_or,or_true,and_true,true_and,and_false,false_and,and_self,List.mem_cons,List.not_mem_nil,Nat.reducePow,F.f0,F.f1,F.f2,F.f9,F.f10,hn,elAt_of C.ht,elAt_of C.hl,elAt_of C.tb,e1,e2,e3,e4,hr]
 exact⟨_,rfl⟩
end
def baseC(t:Int):List AV:=[iv t,iv 0,.lit (.slice none 0 0),iv 0,iv 0,iv 0,iv 0,iv 0,iv 0,iv 0,iv 0,iv 0,iv 0,iv 0,iv 0,iv 0,iv 0,iv 0,iv 0,bv true]
def newC(t:Int)(xs:List Int):List AV:=(baseC t).take 3++xs.map iv++(baseC t).drop (3+xs.length)
theorem newC_len{t:Int}{xs:List Int}(h:xs.length≤16):(newC t xs).length=20:=by
 simp only[newC,List.length_append,List.length_map,List.length_take,List.length_drop]
 have:(baseC t).length=20:=rfl
 omega
theorem cells_iv(xs:List Int):(xs.map iv).flatMap cellsOf=xs.map iv:=by
 induction xs with
 | nil=>rfl
 | cons a l ih=>simp only[List.map_cons,List.flatMap_cons,ih];rfl
theorem build185t:abuild cx.T 185 [(1,.lit (.bool true))]=some (.agg (zeroC.take 19++[bv true])):=nk
def addL(b1:Nat)(t:Int)(rg r1 r2:AV):List ABlock:=[.cells 1 24 [.ptr b1 0 0],.cells 1 3 [iv t],.cells 1 39 [rg],.cells 1 3 [r1],.cells 1 27 [r2],.cells 1 24 [.ptr b1 0 0],.cells 1 4 [bv false]]
theorem add_body{ro n b1 b0 k:Nat}{H:Hp}{sl:List (List AV)}(T:TblAt H b1 b0 sl)(hn:H.length=n)(hr:ro≤b0)(hrn:ro≤n){t:Int}{rg:AV}{xs:List Int}(hs:Sl 1 rg (xs.map iv))(hx:xs.length≤16)(hk:k<sl.length){fr:PT}{r0:ALoop}
  (f3:fr.get 3=.ptr n 0 0) (f4:fr.get 4=.ptr (n+1) 0 0) (f5:fr.get 5=.ptr (n+2) 0 0) (f6:fr.get 6=.ptr (n+3) 0 0) (f7:fr.get 7=.ptr (n+4) 0 0) (f8:fr.get 8=iv k):
  ∃fr',ex cx (den cx) ro 35 35 r35_0 fr (H++(addL b1 t rg (iv 0) (iv 0)++[.loop r0]))=some (.ret,fr',H.set b0 (.cells 20 185 ((sl.set k (newC t xs)).map .agg))++(addL b1 t rg (iv k) (iv 0)++[.loop r0,.cells 20 185 [.agg (newC t xs)]])):=by
 have hb0:b0<H.length:=lt_of_get T.sb
 have hb1:b1<H.length:=lt_of_get T.tb
 have c1:∀j,ro≤n+j:=fun j=>by omega
 have c2:∀j,¬(n+j<ro):=fun j=>by omega
 have e1:=hs.items
 have e2:(xs.map iv).all (fit T2)=true:=by
  rw[List.all_eq_true];intro x hx';rw[List.mem_map]at hx';obtain⟨m,_,rfl⟩:=hx';rfl
 have e3:cpA 3 1 16 (xs.map iv) true (.agg (baseC t))=some (.agg (newC t xs)):=by
  have h1:min (xs.map iv).length 16=xs.length:=by simp;omega
  have h2:(baseC t).length=20:=rfl
  have h3:=cells_iv xs
  have h4:(xs.map iv).take xs.length=xs.map iv:=List.take_of_length_le (by simp)
  simp only[cpA,h1,h2,Nat.mul_one]
  rw[if_pos ⟨by omega,trivial⟩,h4,h3]
  simp only[newC,List.append_assoc]
 have e4:min (xs.map iv).length 16=xs.length:=by simp;omega
 have e5:=hs.rdOf
 simp only[baseC,iv,bv]at e3
 have e6:∀L:Hp,(H++L)[b1]?=some (.cells 1 180 [.agg [.sl b0 20 0 sl.length sl.length]]):=fun L=>by rw[hp_get_l hb1,T.tb]
 have e7:aindexAddr cx.T 178 (.sl b0 20 0 sl.length sl.length) (iv k)=some (.ptr b0 k 0):=by rw[aindexAddr_blk sl178 rfl hk,Nat.zero_add]
 have hk':sl[k]?=some sl[k]:=List.getElem?_eq_getElem hk
 have e8:∀L:Hp,(H++L)[b0]?=some (.cells 20 185 (sl.map .agg)):=fun L=>by rw[hp_get_l hb0,T.sb]
 have e8a:¬(b0<ro):=by omega
 have e8b:(sl.map AV.agg)[k]?=some (.agg sl[k]):=by rw[List.getElem?_map,hk'];rfl
 have e8c:elS true 20 (.agg sl[k]) 0 (.agg (newC t xs))=some (.agg (newC t xs)):=elS_whole (newC_len hx) (T.ok _ (List.mem_of_getElem? hk')).1
 have e8d:(newC t xs).take 20=newC t xs:=List.take_of_length_le (by rw[newC_len hx];exact Nat.le_refl _)
 have e8e:∀(L:Hp)(x:ABlock),(H++L).set b0 x=H.set b0 x++L:=fun L x=>hp_set_l hb0
 have e8f:(sl.map AV.agg).set k (.agg (newC t xs))=(sl.set k (newC t xs)).map .agg:=(List.map_set).symm
 have e9:(newC t xs).length=20:=newC_len hx
 have e10:(newC t xs).map shr=newC t xs:=by
  simp only[newC,List.map_append,List.map_map,List.map_take,List.map_drop]
  rfl
 have e11:(H.set b0 (.cells 20 185 ((sl.set k (newC t xs)).map .agg))).length=n:=by rw[List.length_set,hn]
 unfold r35_0 addL
 simp -implicitDefEqProofs (maxDischargeDepth:=4) only[go_sem,decide_true,decide_false,beq_self_eq_true,↓reduceIte,Nat.reduceLT,Nat.reduceAdd,Nat.reduceMul,Nat.reduceSub,Nat.reduceEqDiff,Nat.reduceLeDiff,Nat.reduceBEq,reduceCtorEq,Nat.succ_ne_zero,Bool.not_true,Bool.not_false,Bool.true_eq_false,Bool.false_eq_true,Bool.true_beq,Bool.false_beq,Int.reduceLT,Int.reduceLE,Int.reduceEq,Int.reduceNe,ne_eq,not_false_eq_true,not_true_eq_false,List.getElem?_cons_zero,List.getElem?_cons_succ,List.length_cons,List.length_nil,List.all_cons,List.all_nil,Bool.and_true,Bool.and_self,Bool.true_and,Bool.false_and,Bool.and_false,Bool.or_true,Bool.or_false,Bool.true_or,Bool.false_or,Bool.or_self,List.elem_cons,List.elem_nil,Nat.add_zero,Nat.zero_add,or_self,or_false,false_or,true_or,or_true,and_true,true_and,and_false,false_and,and_self,List.mem_cons,List.not_mem_nil,Nat.reducePow,elAt_eq,stV_eq,cellsB_cells,hp_get_r,hp_get_r0,hp_get_l,hp_set_r,hp_set_r0,hp_set_l,hp_one,hp_ne,List.drop_succ_cons,List.drop_zero,List.take_succ_cons,List.take_zero,f3,f4,f5,f6,f7,f8,build185t,zeroC,hn,hrn,c1,c2,hs.shr,hs.notOwn,elP_Sl hs,e1,e2,e3,e4,e5,e6,e7,e8,e8a,e8b,e8c,e8d,e8e,e8f,e9,e10,e11]
 exact⟨_,rfl⟩
section
variable {ro l pb qb b1 b0:Nat} {G:Hp} {sl:List (List AV)} {want:Bool}
theorem all_first(C:AllCtx G pb qb b1 b0 sl want)(hl:sl.length<2 ^ 62){k:Nat}(hk:k≤sl.length){P:Option Res→Prop}
  (hX:∀fr',AllFr fr' l pb qb sl.length k→P (D.loop ro 150 30 l150_0 fr' G)):
  ∀(d i:Nat),i+d=k→(∀j c,i≤j→j<k→sl[j]?=some c→liveC c≠want)→∀fr,AllFr fr l pb qb sl.length i→P (D.loop ro 150 30 l150_0 fr G):=by
 intro d
 induction d with
 | zero=>intro i hi _ fr F;rw[Nat.add_zero]at hi;subst hi;exact hX fr F
 | succ d ih =>
  intro i hi hw fr F
  have hi':i<sl.length:=by omega
  exact all_no C hl F hi' (List.getElem?_eq_getElem hi') (hw i _ (Nat.le_refl _) (by omega) (List.getElem?_eq_getElem hi')) fun fr' F'=>ih (i+1) (by omega) (fun j c h1 h2=>hw j c (by omega) h2) fr' F'
theorem all_start(C:AllCtx G pb qb b1 b0 sl want){X:Option (AV×Hp)}
  (hX:∀fr',AllFr fr' l pb qb sl.length 0→returned cx [] (xbind (D.loop ro 150 30 l150_0 fr' G) (outB 0))=X):callB cx D ro 150 [.yld l,.ptr pb 0 0,.ptr qb 0 0] G=X:=by
 rw[c150]
 simp -implicitDefEqProofs (maxDischargeDepth:=4) only[go_sem,decide_true,decide_false,beq_self_eq_true,↓reduceIte,Nat.reduceLT,Nat.reduceAdd,Nat.reduceMul,Nat.reduceSub,Nat.reduceEqDiff,Nat.reduceLeDiff,Nat.reduceBEq,reduceCtorEq,Nat.succ_ne_zero,Bool.not_true,Bool.not_false,Bool.true_eq_false,Bool.false_eq_true,Bool.true_beq,Bool.false_beq,Int.reduceLT,Int.reduceLE,Int.reduceEq,Int.reduceNe,ne_eq,not_false_eq_true,not_true_eq_false,List.getElem?_cons_zero,List.getElem?_cons_succ,List.length_cons,List.length_nil,List.all_cons,List.all_nil,Bool.and_true,Bool.and_self,Bool.true_and,Bool.false_and,Bool.and_false,Bool.or_true,Bool.or_false,Bool.true_or,Bool.false_or,Bool.or_self,List.elem_cons,List.elem_nil,Nat.add_zero,Nat.zero_add,or_self,or_false,false_or,true_or,or_true,and_true,true_and,and_false,false_and,and_self,List.mem_cons,List.not_mem_nil,Nat.reducePow,elAt_of C.ht,elAt_of C.tb]
 rw[x_loop]
 refine hX _ ?_
 constructor<;>simp -implicitDefEqProofs (maxDischargeDepth:=4) only[go_sem,decide_true,decide_false,beq_self_eq_true,↓reduceIte,Nat.reduceLT,Nat.reduceAdd,Nat.reduceMul,Nat.reduceSub,Nat.reduceEqDiff,Nat.reduceLeDiff,Nat.reduceBEq,reduceCtorEq,Nat.succ_ne_zero,Bool.not_true,Bool.not_false,Bool.true_eq_false,Bool.false_eq_true,Bool.true_beq,Bool.false_beq,Int.reduceLT,Int.reduceLE,Int.reduceEq,Int.reduceNe,ne_eq,not_false_eq_true,not_true_eq_false,List.getElem?_cons_zero,List.getElem?_cons_succ,List.length_cons,List.length_nil,List.all_cons,List.all_nil,Bool.and_true,Bool.and_self,Bool.true_and,Bool.false_and,Bool.and_false,Bool.or_true,Bool.or_false,Bool.true_or,Bool.false_or,Bool.or_self,List.elem_cons,List.elem_nil,Nat.add_zero,Nat.zero_add,or_self,or_false,false_or,true_or,or_true,and_true,true_and,and_false,false_and,and_self,List.mem_cons,List.not_mem_nil,Nat.reducePow,Int.ofNat_zero]
end
theorem all_ret{ro l pb qb b1 b0:Nat}{G G':Hp}{sl:List (List AV)}{want:Bool}(C:AllCtx G pb qb b1 b0 sl want)(hl:sl.length<2 ^ 62){k:Nat}(hk:k<sl.length)
  (hw:∀(j:Nat)(c:List AV),j<k→sl[j]?=some c→liveC c≠want) {c:List AV} (hc:sl[k]?=some c) (hy:liveC c=want) (hr:round D ro l [iv k] G=some (bv false,G')):
  callB cx D ro 150 [.yld l,.ptr pb 0 0,.ptr qb 0 0] G=some (.tup [],G'):=by
 refine all_start C fun fr F=>?_
 have:∃fr',D.loop ro 150 30 l150_0 fr G=some (.ret,fr',G') :=
  all_first (P:=fun o=>∃fr',o=some (.ret,fr',G')) C hl (Nat.le_of_lt hk) (fun fr' F'=>all_stop C hl F' hk hc hy hr) k 0 (by omega) (fun j c _ h=>hw j c h) fr F
 obtain⟨fr',h⟩:=this
 rw[h]
 simp -implicitDefEqProofs (maxDischargeDepth:=4) only[go_sem,decide_true,decide_false,beq_self_eq_true,↓reduceIte,Nat.reduceLT,Nat.reduceAdd,Nat.reduceMul,Nat.reduceSub,Nat.reduceEqDiff,Nat.reduceLeDiff,Nat.reduceBEq,reduceCtorEq,Nat.succ_ne_zero,Bool.not_true,Bool.not_false,Bool.true_eq_false,Bool.false_eq_true,Bool.true_beq,Bool.false_beq,Int.reduceLT,Int.reduceLE,Int.reduceEq,Int.reduceNe,ne_eq,not_false_eq_true,not_true_eq_false,List.getElem?_cons_zero,List.getElem?_cons_succ,List.length_cons,List.length_nil,List.all_cons,List.all_nil,Bool.and_true,Bool.and_self,Bool.true_and,Bool.false_and,Bool.and_false,Bool.or_true,Bool.or_false,Bool.true_or,Bool.false_or,Bool.or_self,List.elem_cons,List.elem_nil,Nat.add_zero,Nat.zero_add,or_self,or_false,false_or,true_or,or_true,and_true,true_and,and_false,false_and,and_self,List.mem_cons,List.not_mem_nil,Nat.reducePow]
def loopOf:Option ABlock→Option ALoop
 | some (.loop r)=>some r
 | _=>none
theorem loopOf_loop(r:ALoop):loopOf (some (.loop r))=some r:=nr rfl
theorem endLoop_x(l:Nat)(fr:PT)(v:AV)(H:Hp):endLoop l fr (some (v,H))=xbind (loopOf H[l]?) fun r=>if r.state=.busy then none else some (r.pending.getD .normal,fr,H.set l (.loop { r with state:=.exhausted })):=by
 simp only[endLoop]
 cases H[l]? with
 | none=>rfl
 | some b=>cases b<;>rfl
structure AddR(r:ALoop)(n:Nat):Prop where
 fn:r.fn=35
 nt:r.nt=35
 ps:r.params=[17]
 asg:r.assign=q35_0
 bd:r.body=r35_0
 st:r.state=.ready
 pd:r.pending=none
 f3:r.fr.get 3=.ptr n 0 0
 f4:r.fr.get 4=.ptr (n+1) 0 0
 f5:r.fr.get 5=.ptr (n+2) 0 0
 f6:r.fr.get 6=.ptr (n+3) 0 0
 f7:r.fr.get 7=.ptr (n+4) 0 0
theorem add_ctx{b1 b0:Nat}{H:Hp}{sl:List (List AV)}(T:TblAt H b1 b0 sl){n:Nat}(hn:H.length=n){t:Int}{rg r1 r2:AV}{L:List ABlock}:AllCtx (H++(addL b1 t rg r1 r2++L)) (n+5) (n+6) b1 b0 sl false:=by
 have hb0:b0<H.length:=lt_of_get T.sb
 have hb1:b1<H.length:=lt_of_get T.tb
 refine⟨⟨by rw[hp_get_l hb1,T.tb],by rw[hp_get_l hb0,T.sb],T.ne,T.ok⟩,?_,?_⟩
 ·rw[hp_get_r hn];rfl
 ·rw[hp_get_r hn];rfl
theorem add_round{ro n b1 b0 k:Nat}{H:Hp}{sl:List (List AV)}(T:TblAt H b1 b0 sl)(hn:H.length=n)(hr:ro≤b0)(hrn:ro≤n){t:Int}{rg:AV}{xs:List Int}(hs:Sl 1 rg (xs.map iv))(hx:xs.length≤16)(hk:k<sl.length){r:ALoop}(R:AddR r n):
  round D ro (n+7) [iv k] (H++(addL b1 t rg (iv 0) (iv 0)++[ABlock.loop r]))=some (bv false,H.set b0 (.cells 20 185 ((sl.set k (newC t xs)).map .agg))++(addL b1 t rg (iv k) (iv 0)++[.loop { r with state:=.done,pending:=some .ret },.cells 20 185 [.agg (newC t xs)]])):=by
 obtain⟨rfn,rnt,rfr,rps,ras,rbd,rst,rpd⟩:=r
 obtain⟨h1,h2,h3,h4,h5,h6,h7,g3,g4,g5,g6,g7⟩:=R
 dsimp only at h1 h2 h3 h4 h5 h6 h7 g3 g4 g5 g6 g7
 subst h1 h2 h3 h4 h5 h6 h7
 let r:ALoop:={ fn:=35,nt:=35,fr:=rfr,params:=[17],assign:=q35_0,body:=r35_0,state:=.ready,pending:=none }
 have hl:∀(q:ALoop)(M:List ABlock)(a b:AV),(H++(addL b1 t rg a b++ABlock.loop q::M))[n+7]?=some (ABlock.loop q):=fun q M a b=>by rw[hp_get_r hn];rfl
 have e1:ex cx D ro 35 35 q35_0 (setArgs [(17,iv k)] rfr) (H++(addL b1 t rg (iv 0) (iv 0)++[ABlock.loop r]))=some (.normal,(rfr.set 17 (iv k)).set 8 (iv k),H++(addL b1 t rg (iv 0) (iv 0)++[ABlock.loop r])):=by
  unfold q35_0
  simp -implicitDefEqProofs (maxDischargeDepth:=4) only[go_sem,decide_true,decide_false,beq_self_eq_true,↓reduceIte,Nat.reduceLT,Nat.reduceAdd,Nat.reduceMul,Nat.reduceSub,Nat.reduceEqDiff,Nat.reduceLeDiff,Nat.reduceBEq,reduceCtorEq,Nat.succ_ne_zero,Bool.not_true,Bool.not_false,Bool.true_eq_false,Bool.false_eq_true,Bool.true_beq,Bool.false_beq,Int.reduceLT,Int.reduceLE,Int.reduceEq,Int.reduceNe,ne_eq,not_false_eq_true,not_true_eq_false,List.getElem?_cons_zero,List.getElem?_cons_succ,List.length_cons,List.length_nil,List.all_cons,List.all_nil,Bool.and_true,Bool.and_self,Bool.true_and,Bool.false_and,Bool.and_false,Bool.or_true,Bool.or_false,Bool.true_or,Bool.false_or,Bool.or_self,List.elem_cons,List.elem_nil,Nat.add_zero,Nat.zero_add,or_self,or_false,false_or,true_or,or_true,and_true,true_and,and_false,false_and,and_self,List.mem_cons,List.not_mem_nil,Nat.reducePow,elAt_eq,stV_eq,cellsB_cells,hp_get_r,hp_get_r0,hp_get_l,hp_set_r,hp_set_r0,hp_set_l,hp_one,hp_ne,List.drop_succ_cons,List.drop_zero,List.take_succ_cons,List.take_zero,]
 have e2:(H++(addL b1 t rg (iv 0) (iv 0)++[ABlock.loop r])).set (n+7) (ABlock.loop { r with state:=.busy })=H++(addL b1 t rg (iv 0) (iv 0)++[ABlock.loop { r with state:=.busy }]):=by
  rw[hp_set_r hn];rfl
 obtain⟨fr',e3⟩:=add_body T hn hr hrn (t:=t) hs hx hk (fr:=(rfr.set 17 (iv k)).set 8 (iv k)) (r0:={ r with state:=.busy }) (by simp -implicitDefEqProofs (maxDischargeDepth:=4) only[go_sem,decide_true,decide_false,beq_self_eq_true,↓reduceIte,Nat.reduceLT,Nat.reduceAdd,Nat.reduceMul,Nat.reduceSub,Nat.reduceEqDiff,Nat.reduceLeDiff,Nat.reduceBEq,reduceCtorEq,Nat.succ_ne_zero,Bool.not_true,Bool.not_false,Bool.true_eq_false,Bool.false_eq_true,Bool.true_beq,Bool.false_beq,Int.reduceLT,Int.reduceLE,Int.reduceEq,Int.reduceNe,ne_eq,not_false_eq_true,not_true_eq_false,List.getElem?_cons_zero,List.getElem?_cons_succ,List.length_cons,List.length_nil,List.all_cons,List.all_nil,Bool.and_true,Bool.and_self,Bool.true_and,Bool.false_and,Bool.and_false,Bool.or_true,Bool.or_false,Bool.true_or,Bool.false_or,Bool.or_self,List.elem_cons,List.elem_nil,Nat.add_zero,Nat.zero_add,or_self,or_false,false_or,true_or,or_true,and_true,true_and,and_false,false_and,and_self,List.mem_cons,List.not_mem_nil,Nat.reducePow,g3]) (by simp -implicitDefEqProofs (maxDischargeDepth:=4) only[go_sem,decide_true,decide_false,beq_self_eq_true,↓reduceIte,Nat.reduceLT,Nat.reduceAdd,Nat.reduceMul,Nat.reduceSub,Nat.reduceEqDiff,Nat.reduceLeDiff,Nat.reduceBEq,reduceCtorEq,Nat.succ_ne_zero,Bool.not_true,Bool.not_false,Bool.true_eq_false,Bool.false_eq_true,Bool.true_beq,Bool.false_beq,Int.reduceLT,Int.reduceLE,Int.reduceEq,Int.reduceNe,ne_eq,not_false_eq_true,not_true_eq_false,List.getElem?_cons_zero,List.getElem?_cons_succ,List.length_cons,List.length_nil,List.all_cons,List.all_nil,Bool.and_true,Bool.and_self,Bool.true_and,Bool.false_and,Bool.and_false,Bool.or_true,Bool.or_false,Bool.true_or,Bool.false_or,Bool.or_self,List.elem_cons,List.elem_nil,Nat.add_zero,Nat.zero_add,or_self,or_false,false_or,true_or,or_true,and_true,true_and,and_false,false_and,and_self,List.mem_cons,List.not_mem_nil,Nat.reducePow,g4]) (by simp -implicitDefEqProofs (maxDischargeDepth:=4) only[go_sem,decide_true,decide_false,beq_self_eq_true,↓reduceIte,Nat.reduceLT,Nat.reduceAdd,Nat.reduceMul,Nat.reduceSub,Nat.reduceEqDiff,Nat.reduceLeDiff,Nat.reduceBEq,reduceCtorEq,Nat.succ_ne_zero,Bool.not_true,Bool.not_false,Bool.true_eq_false,Bool.false_eq_true,Bool.true_beq,Bool.false_beq,Int.reduceLT,Int.reduceLE,Int.reduceEq,Int.reduceNe,ne_eq,not_false_eq_true,not_true_eq_false,List.getElem?_cons_zero,List.getElem?_cons_succ,List.length_cons,List.length_nil,List.all_cons,List.all_nil,Bool.and_true,Bool.and_self,Bool.true_and,Bool.false_and,Bool.and_false,Bool.or_true,Bool.or_false,Bool.true_or,Bool.false_or,Bool.or_self,List.elem_cons,List.elem_nil,Nat.add_zero,Nat.zero_add,or_self,or_false,false_or,true_or,or_true,and_true,true_and,and_false,false_and,and_self,List.mem_cons,List.not_mem_nil,Nat.reducePow,g5]) (by simp -implicitDefEqProofs (maxDischargeDepth:=4) only[go_sem,decide_true,decide_false,beq_self_eq_true,↓reduceIte,Nat.reduceLT,Nat.reduceAdd,Nat.reduceMul,Nat.reduceSub,Nat.reduceEqDiff,Nat.reduceLeDiff,Nat.reduceBEq,reduceCtorEq,Nat.succ_ne_zero,Bool.not_true,Bool.not_false,Bool.true_eq_false,Bool.false_eq_true,Bool.true_beq,Bool.false_beq,Int.reduceLT,Int.reduceLE,Int.reduceEq,Int.reduceNe,ne_eq,not_false_eq_true,not_true_eq_false,List.getElem?_cons_zero,List.getElem?_cons_succ,List.length_cons,List.length_nil,List.all_cons,List.all_nil,Bool.and_true,Bool.and_self,Bool.true_and,Bool.false_and,Bool.and_false,Bool.or_true,Bool.or_false,Bool.true_or,Bool.false_or,Bool.or_self,List.elem_cons,List.elem_nil,Nat.add_zero,Nat.zero_add,or_self,or_false,false_or,true_or,or_true,and_true,true_and,and_false,false_and,and_self,List.mem_cons,List.not_mem_nil,Nat.reducePow,g6]) (by simp -implicitDefEqProofs (maxDischargeDepth:=4) only[go_sem,decide_true,decide_false,beq_self_eq_true,↓reduceIte,Nat.reduceLT,Nat.reduceAdd,Nat.reduceMul,Nat.reduceSub,Nat.reduceEqDiff,Nat.reduceLeDiff,Nat.reduceBEq,reduceCtorEq,Nat.succ_ne_zero,Bool.not_true,Bool.not_false,Bool.true_eq_false,Bool.false_eq_true,Bool.true_beq,Bool.false_beq,Int.reduceLT,Int.reduceLE,Int.reduceEq,Int.reduceNe,ne_eq,not_false_eq_true,not_true_eq_false,List.getElem?_cons_zero,List.getElem?_cons_succ,List.length_cons,List.length_nil,List.all_cons,List.all_nil,Bool.and_true,Bool.and_self,Bool.true_and,Bool.false_and,Bool.and_false,Bool.or_true,Bool.or_false,Bool.true_or,Bool.false_or,Bool.or_self,List.elem_cons,List.elem_nil,Nat.add_zero,Nat.zero_add,or_self,or_false,false_or,true_or,or_true,and_true,true_and,and_false,false_and,and_self,List.mem_cons,List.not_mem_nil,Nat.reducePow,g7]) (by simp -implicitDefEqProofs (maxDischargeDepth:=4) only[go_sem,decide_true,decide_false,beq_self_eq_true,↓reduceIte,Nat.reduceLT,Nat.reduceAdd,Nat.reduceMul,Nat.reduceSub,Nat.reduceEqDiff,Nat.reduceLeDiff,Nat.reduceBEq,reduceCtorEq,Nat.succ_ne_zero,Bool.not_true,Bool.not_false,Bool.true_eq_false,Bool.false_eq_true,Bool.true_beq,Bool.false_beq,Int.reduceLT,Int.reduceLE,Int.reduceEq,Int.reduceNe,ne_eq,not_false_eq_true,not_true_eq_false,List.getElem?_cons_zero,List.getElem?_cons_succ,List.length_cons,List.length_nil,List.all_cons,List.all_nil,Bool.and_true,Bool.and_self,Bool.true_and,Bool.false_and,Bool.and_false,Bool.or_true,Bool.or_false,Bool.true_or,Bool.false_or,Bool.or_self,List.elem_cons,List.elem_nil,Nat.add_zero,Nat.zero_add,or_self,or_false,false_or,true_or,or_true,and_true,true_and,and_false,false_and,and_self,List.mem_cons,List.not_mem_nil,Nat.reducePow])
 rw[round_eq (hl r [] _ _) (by omega) rfl rfl rfl]
 rw[show setArgs (r.params.zip [iv k]) r.fr=setArgs [(17,iv k)] rfr from rfl,show ex cx (den cx) ro r.fn r.nt r.assign=ex cx D ro 35 35 q35_0 from rfl,e1,bodyRound_eq (hl r [] _ _) rfl]
 rw[e2,show ex cx (den cx) ro r.fn r.nt r.body=ex cx D ro 35 35 r35_0 from rfl,e3]
 have hn':(H.set b0 (.cells 20 185 ((sl.set k (newC t xs)).map .agg))).length=n:=by rw[List.length_set,hn]
 rw[endRound_other (r:={ r with state:=.busy }) (by rw[hp_get_r hn'];rfl) (by decide),hp_set_r hn']
 rfl
theorem AddR_of{n:Nat}{fr:PT}(g3:fr.get 3=.ptr n 0 0)(g4:fr.get 4=.ptr (n+1) 0 0)(g5:fr.get 5=.ptr (n+2) 0 0)(g6:fr.get 6=.ptr (n+3) 0 0)(g7:fr.get 7=.ptr (n+4) 0 0):
  AddR { fn:=35,nt:=35,fr:=fr,params:=[17],assign:=q35_0,body:=r35_0,state:=.ready,pending:=none } n:=⟨rfl,rfl,rfl,rfl,rfl,rfl,rfl,g3,g4,g5,g6,g7⟩
theorem add_full{ro b1 b0 k:Nat}{H:Hp}{sl:List (List AV)}(T:TblAt H b1 b0 sl)(hr:ro≤b0)(hrn:ro≤H.length)(hl:sl.length<2 ^ 62){t:Int}{rg:AV}{xs:List Int}(hs:Sl 1 rg (xs.map iv))(hx:xs.length≤16)
  {c:List AV} (hc:sl[k]?=some c) (hd:liveC c=false) (hw:∀(j:Nat)(c:List AV),j<k→sl[j]?=some c→liveC c=true):
  ∃L,callB cx D ro 35 [.ptr b1 0 0,iv t,rg] H=some (.tup [iv k,iv 0],H.set b0 (.cells 20 185 ((sl.set k (newC t xs)).map .agg))++L):=by
 have hb0:b0<H.length:=lt_of_get T.sb
 have hb1:b1<H.length:=lt_of_get T.tb
 obtain⟨n,hn⟩:∃n,H.length=n:=⟨_,rfl⟩
 have hk:k<sl.length:=(List.getElem?_eq_some_iff.1 hc).1
 have c1:∀j,ro≤n+j:=fun j=>by omega
 have c2:∀j,¬(n+j<ro):=fun j=>by omega
 have c3:¬((16:Int)<(xs.length:Int)):=by omega
 rw[hn]at hrn
 have eA:∀r,AddR r n→_:=fun r R=>all_ret (ro:=ro) (l:=n+7) (add_ctx T hn (t:=t) (rg:=rg) (r1:=iv 0) (r2:=iv 0) (L:=[.loop r])) hl hk (fun j c hj h=>by rw[hw j c hj h];decide) hc hd (add_round T hn hr hrn hs hx hk R)
 obtain⟨H',hH'⟩:∃H',H.set b0 (.cells 20 185 ((sl.set k (newC t xs)).map .agg))=H':=⟨_,rfl⟩
 have hn':H'.length=n:=by rw[←hH',List.length_set,hn]
 rw[hH']at eA ⊢
 simp only[addL,List.cons_append,List.nil_append]at eA
 rw[c35]
 simp -implicitDefEqProofs (maxDischargeDepth:=4) only[go_sem,decide_true,decide_false,beq_self_eq_true,↓reduceIte,Nat.reduceLT,Nat.reduceAdd,Nat.reduceMul,Nat.reduceSub,Nat.reduceEqDiff,Nat.reduceLeDiff,Nat.reduceBEq,reduceCtorEq,Nat.succ_ne_zero,Bool.not_true,Bool.not_false,Bool.true_eq_false,Bool.false_eq_true,Bool.true_beq,Bool.false_beq,Int.reduceLT,Int.reduceLE,Int.reduceEq,Int.reduceNe,ne_eq,not_false_eq_true,not_true_eq_false,List.getElem?_cons_zero,List.getElem?_cons_succ,List.length_cons,List.length_nil,List.all_cons,List.all_nil,Bool.and_true,Bool.and_self,Bool.true_and,Bool.false_and,Bool.and_false,Bool.or_true,Bool.or_false,Bool.true_or,Bool.false_or,Bool.or_self,List.elem_cons,List.elem_nil,Nat.add_zero,Nat.zero_add,or_self,or_false,false_or,true_or,or_true,and_true,true_and,and_false,false_and,and_self,List.mem_cons,List.not_mem_nil,Nat.reducePow,elAt_eq,stV_eq,cellsB_cells,hp_get_r,hp_get_r0,hp_get_l,hp_set_r,hp_set_r0,hp_set_l,hp_one,hp_ne,List.drop_succ_cons,List.drop_zero,List.take_succ_cons,List.take_zero,hn,hn',hrn,c1,c2,hs.shr,hs.notOwn,hs.rdOf,hs.fitA,hs.drp,elP_Sl hs,alen_sl hs,List.length_map,c3,all_ok,x_range,ranged_fn,Nat.add_assoc,den_call_eq,eA,AddR_of,endLoop_x,loopOf_loop,Option.getD_none,Option.getD_some]
 exact⟨_,rfl⟩
def Gr(x:AV)(els:List AV):Prop:=x=.vec 1 .own els∨(x=.lit (.slice none 0 0)∧els=[])
theorem seq_body{ro m:Nat}{G:Hp}(hm:G.length=m)(hr:ro≤m){x:AV}{els:List AV}(hx:Gr x els){fr:PT}{r0:ALoop}{i:Nat}(f2:fr.get 2=.ptr m 0 0)(f5:fr.get 5=iv i)(hL:els.length<2 ^ 20):
  ∃fr',ex cx (den cx) ro 151 13 r151_0 fr (G++[.cells 1 31 [x],.loop r0])=some (.normal,fr',G++[.cells 1 31 [.vec 1 .own (els++[iv i])],.loop r0]):=by
 have c0:(els.length+1)*9≤1099511627776:=by omega
 have c1:∀j,ro≤m+j:=fun j=>by omega
 have c2:∀j,¬(m+j<ro):=fun j=>by omega
 have c3:¬(m<ro):=by omega
 unfold r151_0
 rcases hx with rfl | ⟨rfl,rfl⟩
 ·simp -implicitDefEqProofs (maxDischargeDepth:=4) only[go_sem,decide_true,decide_false,beq_self_eq_true,↓reduceIte,Nat.reduceLT,Nat.reduceAdd,Nat.reduceMul,Nat.reduceSub,Nat.reduceEqDiff,Nat.reduceLeDiff,Nat.reduceBEq,reduceCtorEq,Nat.succ_ne_zero,Bool.not_true,Bool.not_false,Bool.true_eq_false,Bool.false_eq_true,Bool.true_beq,Bool.false_beq,Int.reduceLT,Int.reduceLE,Int.reduceEq,Int.reduceNe,ne_eq,not_false_eq_true,not_true_eq_false,List.getElem?_cons_zero,List.getElem?_cons_succ,List.length_cons,List.length_nil,List.all_cons,List.all_nil,Bool.and_true,Bool.and_self,Bool.true_and,Bool.false_and,Bool.and_false,Bool.or_true,Bool.or_false,Bool.true_or,Bool.false_or,Bool.or_self,List.elem_cons,List.elem_nil,Nat.add_zero,Nat.zero_add,or_self,or_false,false_or,true_or,or_true,and_true,true_and,and_false,false_and,and_self,List.mem_cons,List.not_mem_nil,Nat.reducePow,elAt_eq,stV_eq,cellsB_cells,hp_get_r,hp_get_r0,hp_get_l,hp_set_r,hp_set_r0,hp_set_l,hp_one,hp_ne,List.drop_succ_cons,List.drop_zero,List.take_succ_cons,List.take_zero,f2,f5,hm,hr,c0,c1,c2,c3]
  exact⟨_,rfl⟩
 ·simp -implicitDefEqProofs (maxDischargeDepth:=4) only[go_sem,decide_true,decide_false,beq_self_eq_true,↓reduceIte,Nat.reduceLT,Nat.reduceAdd,Nat.reduceMul,Nat.reduceSub,Nat.reduceEqDiff,Nat.reduceLeDiff,Nat.reduceBEq,reduceCtorEq,Nat.succ_ne_zero,Bool.not_true,Bool.not_false,Bool.true_eq_false,Bool.false_eq_true,Bool.true_beq,Bool.false_beq,Int.reduceLT,Int.reduceLE,Int.reduceEq,Int.reduceNe,ne_eq,not_false_eq_true,not_true_eq_false,List.getElem?_cons_zero,List.getElem?_cons_succ,List.length_cons,List.length_nil,List.all_cons,List.all_nil,Bool.and_true,Bool.and_self,Bool.true_and,Bool.false_and,Bool.and_false,Bool.or_true,Bool.or_false,Bool.true_or,Bool.false_or,Bool.or_self,List.elem_cons,List.elem_nil,Nat.add_zero,Nat.zero_add,or_self,or_false,false_or,true_or,or_true,and_true,true_and,and_false,false_and,and_self,List.mem_cons,List.not_mem_nil,Nat.reducePow,elAt_eq,stV_eq,cellsB_cells,hp_get_r,hp_get_r0,hp_get_l,hp_set_r,hp_set_r0,hp_set_l,hp_one,hp_ne,List.drop_succ_cons,List.drop_zero,List.take_succ_cons,List.take_zero,f2,f5,hm,hr,c0,c1,c2,c3]
  exact⟨_,rfl⟩
noncomputable def seqR(rfr:PT):ALoop:={ fn:=151,nt:=13,fr:=rfr,params:=[7],assign:=q151_0,body:=r151_0,state:=.ready,pending:=none }
theorem seq_round{ro m:Nat}{G:Hp}(hm:G.length=m)(hr:ro≤m){x:AV}{els:List AV}(hx:Gr x els){rfr:PT}{i:Nat}(f2:rfr.get 2=.ptr m 0 0)(hL:els.length<2 ^ 20):
  round D ro (m+1) [iv i] (G++[.cells 1 31 [x],.loop (seqR rfr)])=some (bv true,G++[.cells 1 31 [.vec 1 .own (els++[iv i])],.loop (seqR rfr)]):=by
 have hl:∀(q:ALoop)(a:AV),(G++[.cells 1 31 [a],ABlock.loop q])[m+1]?=some (ABlock.loop q):=fun q a=>by rw[hp_get_r hm];rfl
 have e1:ex cx D ro 151 13 q151_0 (setArgs [(7,iv i)] rfr) (G++[.cells 1 31 [x],.loop (seqR rfr)])=some (.normal,(rfr.set 7 (iv i)).set 5 (iv i),G++[.cells 1 31 [x],.loop (seqR rfr)]):=by
  unfold q151_0
  simp -implicitDefEqProofs (maxDischargeDepth:=4) only[go_sem,decide_true,decide_false,beq_self_eq_true,↓reduceIte,Nat.reduceLT,Nat.reduceAdd,Nat.reduceMul,Nat.reduceSub,Nat.reduceEqDiff,Nat.reduceLeDiff,Nat.reduceBEq,reduceCtorEq,Nat.succ_ne_zero,Bool.not_true,Bool.not_false,Bool.true_eq_false,Bool.false_eq_true,Bool.true_beq,Bool.false_beq,Int.reduceLT,Int.reduceLE,Int.reduceEq,Int.reduceNe,ne_eq,not_false_eq_true,not_true_eq_false,List.getElem?_cons_zero,List.getElem?_cons_succ,List.length_cons,List.length_nil,List.all_cons,List.all_nil,Bool.and_true,Bool.and_self,Bool.true_and,Bool.false_and,Bool.and_false,Bool.or_true,Bool.or_false,Bool.true_or,Bool.false_or,Bool.or_self,List.elem_cons,List.elem_nil,Nat.add_zero,Nat.zero_add,or_self,or_false,false_or,true_or,or_true,and_true,true_and,and_false,false_and,and_self,List.mem_cons,List.not_mem_nil,Nat.reducePow,elAt_eq,stV_eq,cellsB_cells,hp_get_r,hp_get_r0,hp_get_l,hp_set_r,hp_set_r0,hp_set_l,hp_one,hp_ne,List.drop_succ_cons,List.drop_zero,List.take_succ_cons,List.take_zero,]
 have e2:(G++[.cells 1 31 [x],ABlock.loop (seqR rfr)]).set (m+1) (ABlock.loop { seqR rfr with state:=.busy })=G++[.cells 1 31 [x],ABlock.loop { seqR rfr with state:=.busy }]:=by
  rw[hp_set_r hm];rfl
 obtain⟨fr',e3⟩:=seq_body hm hr hx (fr:=(rfr.set 7 (iv i)).set 5 (iv i)) (r0:={ seqR rfr with state:=.busy }) (i:=i) (by simp -implicitDefEqProofs (maxDischargeDepth:=4) only[go_sem,decide_true,decide_false,beq_self_eq_true,↓reduceIte,Nat.reduceLT,Nat.reduceAdd,Nat.reduceMul,Nat.reduceSub,Nat.reduceEqDiff,Nat.reduceLeDiff,Nat.reduceBEq,reduceCtorEq,Nat.succ_ne_zero,Bool.not_true,Bool.not_false,Bool.true_eq_false,Bool.false_eq_true,Bool.true_beq,Bool.false_beq,Int.reduceLT,Int.reduceLE,Int.reduceEq,Int.reduceNe,ne_eq,not_false_eq_true,not_true_eq_false,List.getElem?_cons_zero,List.getElem?_cons_succ,List.length_cons,List.length_nil,List.all_cons,List.all_nil,Bool.and_true,Bool.and_self,Bool.true_and,Bool.false_and,Bool.and_false,Bool.or_true,Bool.or_false,Bool.true_or,Bool.false_or,Bool.or_self,List.elem_cons,List.elem_nil,Nat.add_zero,Nat.zero_add,or_self,or_false,false_or,true_or,or_true,and_true,true_and,and_false,false_and,and_self,List.mem_cons,List.not_mem_nil,Nat.reducePow,f2]) (by simp -implicitDefEqProofs (maxDischargeDepth:=4) only[go_sem,decide_true,decide_false,beq_self_eq_true,↓reduceIte,Nat.reduceLT,Nat.reduceAdd,Nat.reduceMul,Nat.reduceSub,Nat.reduceEqDiff,Nat.reduceLeDiff,Nat.reduceBEq,reduceCtorEq,Nat.succ_ne_zero,Bool.not_true,Bool.not_false,Bool.true_eq_false,Bool.false_eq_true,Bool.true_beq,Bool.false_beq,Int.reduceLT,Int.reduceLE,Int.reduceEq,Int.reduceNe,ne_eq,not_false_eq_true,not_true_eq_false,List.getElem?_cons_zero,List.getElem?_cons_succ,List.length_cons,List.length_nil,List.all_cons,List.all_nil,Bool.and_true,Bool.and_self,Bool.true_and,Bool.false_and,Bool.and_false,Bool.or_true,Bool.or_false,Bool.true_or,Bool.false_or,Bool.or_self,List.elem_cons,List.elem_nil,Nat.add_zero,Nat.zero_add,or_self,or_false,false_or,true_or,or_true,and_true,true_and,and_false,false_and,and_self,List.mem_cons,List.not_mem_nil,Nat.reducePow]) hL
 rw[round_eq (hl (seqR rfr) _) (by omega) rfl rfl rfl]
 rw[show setArgs ((seqR rfr).params.zip [iv i]) (seqR rfr).fr=setArgs [(7,iv i)] rfr from rfl,show ex cx (den cx) ro (seqR rfr).fn (seqR rfr).nt (seqR rfr).assign=ex cx D ro 151 13 q151_0 from rfl,e1,bodyRound_eq (hl (seqR rfr) _) rfl]
 rw[e2,show ex cx (den cx) ro (seqR rfr).fn (seqR rfr).nt (seqR rfr).body=ex cx D ro 151 13 r151_0 from rfl,e3]
 rw[endRound_normal (r:={ seqR rfr with state:=.busy }) (hl _ _),hp_set_r hm]
 rfl
def liveL:Nat→List (List AV)→List AV
 | _,[]=>[]
 | i,c::l=>if liveC c=true then iv i::liveL (i+1) l else liveL (i+1) l
def grV:List AV→AV
 | []=>.lit (.slice none 0 0)
 | x::l=>.vec 1 .own (x::l)
theorem grV_gr:∀els,Gr (grV els) els
 | []=>.inr ⟨rfl,rfl⟩
 | _::_=>.inl rfl
theorem grV_app(x:AV):∀els,grV (els++[x])=.vec 1 .own (els++[x])
 | []=>rfl
 | _::_=>rfl
theorem live_loop{ro m pb qb b1 b0:Nat}{G:Hp}{sl:List (List AV)}(C:∀M,AllCtx (G++M) pb qb b1 b0 sl true)(hl:sl.length<2 ^ 19)(hm:G.length=m)(hr:ro≤m){rfr:PT}(f2:rfr.get 2=.ptr m 0 0):
  ∀(d i:Nat),i+d=sl.length→∀(els:List AV),els.length≤i→∀fr,AllFr fr (m+1) pb qb sl.length i→
   ∃fr',D.loop ro 150 30 l150_0 fr (G++[.cells 1 31 [grV els],.loop (seqR rfr)])=some (.exit 0,fr',G++[.cells 1 31 [grV (els++liveL i (sl.drop i))],.loop (seqR rfr)]):=by
 intro d
 induction d with
 | zero =>
  intro i hi els he fr F
  rw[Nat.add_zero]at hi
  subst hi
  obtain⟨fr',h⟩:=all_end (ro:=ro) (C _) F
  refine⟨fr',?_⟩
  rw[List.drop_length,liveL,List.append_nil]
  exact h
 | succ d ih =>
  intro i hi els he fr F
  have hi':i<sl.length:=by omega
  have hc:=List.getElem?_eq_getElem hi'
  rw[List.drop_eq_getElem_cons hi',liveL]
  by_cases hv:liveC sl[i]=true
  ·rw[if_pos hv]
   refine all_yes (P:=fun o=>∃fr',o=some (.exit 0,fr',G++[.cells 1 31 [grV (els++iv i::liveL (i+1) (sl.drop (i+1)))],.loop (seqR rfr)])) (C _) (by omega) F hi' hc hv (seq_round hm hr (grV_gr els) f2 (by omega)) fun fr' F'=>?_
   have hlen:(G++[ABlock.cells 1 31 [grV els],.loop (seqR rfr)]).length=(G++[ABlock.cells 1 31 [.vec 1 .own (els++[iv i])],.loop (seqR rfr)]).length:=by simp
   rw[hlen,trimmed_same,←grV_app]
   obtain⟨fr2,h2⟩:=ih (i+1) (by omega) (els++[iv i]) (by simp;omega) fr' F'
   refine⟨fr2,?_⟩
   rw[List.append_assoc]at h2
   exact h2
  ·rw[if_neg hv]
   exact all_no (P:=fun o=>∃fr',o=some (.exit 0,fr',G++[.cells 1 31 [grV (els++liveL (i+1) (sl.drop (i+1)))],.loop (seqR rfr)])) (C _) (by omega) F hi' hc hv fun fr' F'=>ih (i+1) (by omega) els (by omega) fr' F'
theorem live_call{ro n b1 b0:Nat}{H:Hp}{sl:List (List AV)}(T:TblAt H b1 b0 sl)(hn:H.length=n)(hr:ro≤n)(hl:sl.length<2 ^ 19){rfr:PT}(f2:rfr.get 2=.ptr (n+2) 0 0):
  callB cx D ro 150 [.yld (n+3),.ptr n 0 0,.ptr (n+1) 0 0] (H++[.cells 1 24 [.ptr b1 0 0],.cells 1 4 [bv true],.cells 1 31 [.lit (.slice none 0 0)],.loop { fn:=151,nt:=13,fr:=rfr,params:=[7],assign:=q151_0,body:=r151_0,state:=.ready,pending:=none }]) =
   some (.tup [],H++[.cells 1 24 [.ptr b1 0 0],.cells 1 4 [bv true],.cells 1 31 [grV (liveL 0 sl)],.loop (seqR rfr)]):=by
 have hb0:b0<H.length:=lt_of_get T.sb
 have hb1:b1<H.length:=lt_of_get T.tb
 let G:Hp:=H++[.cells 1 24 [.ptr b1 0 0],.cells 1 4 [bv true]]
 have hG:G.length=n+2:=by simp[G,hn]
 have C:∀M,AllCtx (G++M) n (n+1) b1 b0 sl true:=fun M=>by
  have e:G++M=H++(.cells 1 24 [.ptr b1 0 0] :: .cells 1 4 [bv true]::M):=by simp[G]
  rw[e]
  exact⟨⟨by rw[hp_get_l hb1,T.tb],by rw[hp_get_l hb0,T.sb],T.ne,T.ok⟩,by rw[hp_get_r0 hn];rfl,by rw[hp_get_r hn];rfl⟩
 have e:∀x:AV,∀q:ALoop,H++[.cells 1 24 [.ptr b1 0 0],.cells 1 4 [bv true],.cells 1 31 [x],.loop q]=G++[.cells 1 31 [x],.loop q]:=fun x q=>by simp[G]
 rw[e,e]
 refine all_start (C _) fun fr F=>?_
 obtain⟨fr2,h⟩:=live_loop (ro:=ro) C hl hG (by omega) f2 sl.length 0 (by omega) [] (Nat.le_refl _) fr F
 rw[show grV []=.lit (.slice none 0 0) from rfl]at h
 rw[show D.loop ro 150 30 l150_0 fr (G++[.cells 1 31 [.lit (.slice none 0 0)],.loop { fn:=151,nt:=13,fr:=rfr,params:=[7],assign:=q151_0,body:=r151_0,state:=.ready,pending:=none }])=_ from h]
 simp -implicitDefEqProofs (maxDischargeDepth:=4) only[go_sem,decide_true,decide_false,beq_self_eq_true,↓reduceIte,Nat.reduceLT,Nat.reduceAdd,Nat.reduceMul,Nat.reduceSub,Nat.reduceEqDiff,Nat.reduceLeDiff,Nat.reduceBEq,reduceCtorEq,Nat.succ_ne_zero,Bool.not_true,Bool.not_false,Bool.true_eq_false,Bool.false_eq_true,Bool.true_beq,Bool.false_beq,Int.reduceLT,Int.reduceLE,Int.reduceEq,Int.reduceNe,ne_eq,not_false_eq_true,not_true_eq_false,List.getElem?_cons_zero,List.getElem?_cons_succ,List.length_cons,List.length_nil,List.all_cons,List.all_nil,Bool.and_true,Bool.and_self,Bool.true_and,Bool.false_and,Bool.and_false,Bool.or_true,Bool.or_false,Bool.true_or,Bool.false_or,Bool.or_self,List.elem_cons,List.elem_nil,Nat.add_zero,Nat.zero_add,or_self,or_false,false_or,true_or,or_true,and_true,true_and,and_false,false_and,and_self,List.mem_cons,List.not_mem_nil,Nat.reducePow,List.drop_zero,List.nil_append]
theorem live_ok{ro b1 b0:Nat}{H:Hp}{sl:List (List AV)}(T:TblAt H b1 b0 sl)(hr:ro≤H.length)(hl:sl.length<2 ^ 19):
  ∃L x,Sl 1 x (liveL 0 sl)∧callB cx D ro 38 [.ptr b1 0 0] H=some (x,H++L):=by
 obtain⟨n,hn⟩:∃n,H.length=n:=⟨_,rfl⟩
 have c1:∀j,ro≤n+j:=fun j=>by omega
 have c2:∀j,¬(n+j<ro):=fun j=>by omega
 rw[hn]at hr
 have key:∀rfr:PT,rfr.get 2=.ptr (n+2) 0 0→_:=fun rfr f2=>live_call T hn hr hl f2
 simp only[seqR]at key
 obtain⟨g,hg⟩:∃g,grV (liveL 0 sl)=g:=⟨_,rfl⟩
 rw[hg]at key
 have hgr:Gr g (liveL 0 sl):=hg ▸ grV_gr _
 rw[c38]
 rcases hgr with hgr | ⟨hgr,hnil⟩
 ·subst hgr
  simp -implicitDefEqProofs (maxDischargeDepth:=4) only[go_sem,decide_true,decide_false,beq_self_eq_true,↓reduceIte,Nat.reduceLT,Nat.reduceAdd,Nat.reduceMul,Nat.reduceSub,Nat.reduceEqDiff,Nat.reduceLeDiff,Nat.reduceBEq,reduceCtorEq,Nat.succ_ne_zero,Bool.not_true,Bool.not_false,Bool.true_eq_false,Bool.false_eq_true,Bool.true_beq,Bool.false_beq,Int.reduceLT,Int.reduceLE,Int.reduceEq,Int.reduceNe,ne_eq,not_false_eq_true,not_true_eq_false,List.getElem?_cons_zero,List.getElem?_cons_succ,List.length_cons,List.length_nil,List.all_cons,List.all_nil,Bool.and_true,Bool.and_self,Bool.true_and,Bool.false_and,Bool.and_false,Bool.or_true,Bool.or_false,Bool.true_or,Bool.false_or,Bool.or_self,List.elem_cons,List.elem_nil,Nat.add_zero,Nat.zero_add,or_self,or_false,false_or,true_or,or_true,and_true,true_and,and_false,false_and,and_self,List.mem_cons,List.not_mem_nil,Nat.reducePow,elAt_eq,stV_eq,cellsB_cells,hp_get_r,hp_get_r0,hp_get_l,hp_set_r,hp_set_r0,hp_set_l,hp_one,hp_ne,List.drop_succ_cons,List.drop_zero,List.take_succ_cons,List.take_zero,hn,hr,c1,c2,all_ok,Nat.add_assoc,c110,c151,x_range,ranged_fn,den_call_eq,key,endLoop_x,loopOf_loop,Option.getD_none,Option.getD_some]
  exact⟨_,_,.inr (.inl rfl),rfl⟩
 ·subst hgr
  rw[hnil]
  simp -implicitDefEqProofs (maxDischargeDepth:=4) only[go_sem,decide_true,decide_false,beq_self_eq_true,↓reduceIte,Nat.reduceLT,Nat.reduceAdd,Nat.reduceMul,Nat.reduceSub,Nat.reduceEqDiff,Nat.reduceLeDiff,Nat.reduceBEq,reduceCtorEq,Nat.succ_ne_zero,Bool.not_true,Bool.not_false,Bool.true_eq_false,Bool.false_eq_true,Bool.true_beq,Bool.false_beq,Int.reduceLT,Int.reduceLE,Int.reduceEq,Int.reduceNe,ne_eq,not_false_eq_true,not_true_eq_false,List.getElem?_cons_zero,List.getElem?_cons_succ,List.length_cons,List.length_nil,List.all_cons,List.all_nil,Bool.and_true,Bool.and_self,Bool.true_and,Bool.false_and,Bool.and_false,Bool.or_true,Bool.or_false,Bool.true_or,Bool.false_or,Bool.or_self,List.elem_cons,List.elem_nil,Nat.add_zero,Nat.zero_add,or_self,or_false,false_or,true_or,or_true,and_true,true_and,and_false,false_and,and_self,List.mem_cons,List.not_mem_nil,Nat.reducePow,elAt_eq,stV_eq,cellsB_cells,hp_get_r,hp_get_r0,hp_get_l,hp_set_r,hp_set_r0,hp_set_l,hp_one,hp_ne,List.drop_succ_cons,List.drop_zero,List.take_succ_cons,List.take_zero,hn,hr,c1,c2,all_ok,Nat.add_assoc,c110,c151,x_range,ranged_fn,den_call_eq,key,endLoop_x,loopOf_loop,Option.getD_none,Option.getD_some]
  exact⟨_,_,.inr (.inr ⟨rfl,rfl⟩),rfl⟩
theorem works_ok:pcall D 33 []=some (bv true):=by
 have h:isTrue ((lvl cx 3000).call 0 33 [] [])=true:=by kernel_rfl
 obtain⟨H,h⟩:=isTrue_spec h
 have h2:=den_call.2 ⟨3000,h⟩
 unfold pcall
 rw[show ([]:List AV).map cl2=[] from rfl,h2]
 rfl
end Go.Abs.Tab
namespace Go.Abs
section
variable {cx:Cx} {h:Hd} {ro fn nt nm:Nat} {ops:Array Oper} {fr:PT} {H:Hp} {d:Tmp} {dd:Option Tmp}
def apB(T:TypeId→Option TI)(nt ro nm:Nat)(dd:Option Tmp)(fr:PT)(H:Hp)(t:TypeId)(s:Tmp)(y:AV):Option (List AV×Nat×TypeId)→Option (PT×Hp)
 | some q=>layB nt ro nm dd fr H (.sl nm q.2.1 0 q.1.length q.1.length) (.cells q.2.1 q.2.2 q.1)
 | none=>xbind (mkT T t) fun p=>xbind (items p.1 H y) fun xs=>xbind (apV p.1 p.2.2.1 xs (fr.get s)) fun v=>setO nt dd (apS fr s (fr.get s)) H v
theorem apB_some{T:TypeId→Option TI}{t:TypeId}{s:Tmp}{y:AV}{els:List AV}{sz:Nat}{e:TypeId}:apB T nt ro nm dd fr H t s y (some (els,sz,e))=layB nt ro nm dd fr H (.sl nm sz 0 els.length els.length) (.cells sz e els):=rfl
theorem apB_none{T:TypeId→Option TI}{t:TypeId}{s:Tmp}{y:AV}:apB T nt ro nm dd fr H t s y none=xbind (mkT T t) fun p=>xbind (items p.1 H y) fun xs=>xbind (apV p.1 p.2.2.1 xs (fr.get s)) fun v=>setO nt dd (apS fr s (fr.get s)) H v:=rfl
theorem xo_append_h{t:TypeId}{s:Tmp}{x:Operand}{t':TypeId}{ts:List TypeId}(hh:cx.pol.heap fn (dd.getD 0)=true)(hq:(slT cx.T t').isSome=true)(hm:(mkT cx.T t).isSome=true):
  xop cx h ro fn nt ops nm fr H dd (.call ⟨.builtin .append,#[.tmp s,x],(t::t'::ts).toArray⟩)=apB cx.T nt ro nm dd fr H t s (ev fr x) (aappendB cx.T t H (fr.get s) (ev fr x)):=by
 obtain⟨p,hm⟩:=Option.isSome_iff_exists.1 hm
 obtain⟨q,hq⟩:=Option.isSome_iff_exists.1 hq
 have hl:lBuiltin cx ro fn nm (dd.getD 0) fr H .append [.tmp s,x] (t::t'::ts)=lAppend cx fn ro nm (dd.getD 0) fr H t (.tmp s) x:=by
  unfold slT at hq
  simp only[lBuiltin]
  split at hq
  ·rename_i hT;rw[hT]
  ·cases hq
 simp only[xop,calleeOf,lop,lCall]
 rw[hl]
 have hraw:raw fr (.tmp s)=fr.get s:=rfl
 simp only[lAppend,hh,if_true,hraw]
 cases hB:aappendB cx.T t H (fr.get s) (ev fr x) with
 | some r =>
  obtain⟨els,sz,e⟩:=r
  simp only[apB_some]
  by_cases hf:free ro H nm=false
  ·rw[if_pos hf,layB,if_neg (by rw[hf];decide)];rfl
  ·have hf':free ro H nm=true:=by cases h:free ro H nm with
    | true=>rfl
    | false=>exact absurd h hf
   rw[if_neg hf,layB_eq hf']
   rfl
 | none =>
  rw[apB_none,hm,xbind_some]
  simp only[aappend_eq hm]
  cases items p.1 H (ev fr x) with
  | none=>rfl
  | some xs =>
   simp only[xbind_some]
   cases apV p.1 p.2.2.1 xs (fr.get s) with
   | none=>rfl
   | some v =>
    simp only[Option.map_some,xbind_some,xeff,owner,unownT,putB,setO]
    cases hs:fr.get s with
    | vec z k els=>cases k<;>simp only[hs,apS]<;>rfl
    | _=>simp only[apS]
attribute [go_sem] xo_append_h apB_some apB_none
end
end Go.Abs
namespace Go.Abs.Tab
theorem x_assoc{cx:Cx}{h:Hd}{ro fn nt:Nat}{fr:PT}{H:Hp}(a b c:Code):ex cx h ro fn nt (.seq (.seq a b) c) fr H=ex cx h ro fn nt (.seq a (.seq b c)) fr H:=by
 rw[x_seq,x_seq,x_seq]
 cases ex cx h ro fn nt a fr H with
 | none=>rfl
 | some r =>
  obtain⟨e,fr1,H1⟩:=r
  cases e with
  | normal=>rw[xbind_some,xbind_some,contR_normal,contR_normal,x_seq]
  | _=>rfl
theorem x_split{cx:Cx}{h:Hd}{ro fn nt:Nat}{fr fr':PT}{H H':Hp}{a b:Code}(e:ex cx h ro fn nt (.seq a b) fr H=some (.normal,fr',H')):∃fr1 H1,ex cx h ro fn nt a fr H=some (.normal,fr1,H1)∧ex cx h ro fn nt b fr1 H1=some (.normal,fr',H'):=by
 rw[x_seq]at e
 cases ha:ex cx h ro fn nt a fr H with
 | none=>rw[ha]at e;cases e
 | some r =>
  obtain⟨x,fr1,H1⟩:=r
  rw[ha]at e
  cases x with
  | normal=>rw[xbind_some,contR_normal]at e;exact⟨fr1,H1,rfl,e⟩
  | _=>cases e
theorem xapply_look{cx:Cx}{ro:Nat}{g:FuncId}{vs:List AV}{H:Hp}(hp:cx.pol.pure g=true)(hs:vs.all shut1=false):xapply cx (den cx) ro (.fn g []) vs H=purely (callB cx (den cx) H.length g (vs.map drp) H) H.length H:=by
 have:way cx g vs=.quiet:=by simp[way,hp,hs]
 simp only[xapply,List.append_nil,this,docall,den_call_eq]
theorem min_lit(n m:Nat):aminmax false [iv n,iv m]=some (iv ((min n m:Nat):Int)):=by
 simp only[aminmax,aminmax.go,Bool.false_eq_true,if_false]
 by_cases h:m<n
 ·rw[if_pos (by omega),Nat.min_eq_right (by omega)]
 ·rw[if_neg (by omega),Nat.min_eq_left (by omega)]
theorem aslice_take{T:TypeId→Option TI}{t:TypeId}{sz n:Nat}{a:AV}{els:List AV}{e:TypeId}{te:TI}(h:Sl sz a els)(ht:slT T t=some (sz,e,te))(hn:n≤els.length):
  ∃b,aslice T t a none (some (iv n)) none=some b∧Sl sz b (els.take n):=by
 have hnat:natOf (iv n)=some n:=by simp[natOf]
 unfold slT at ht
 split at ht
 ·rename_i e' _ hT
  cases he:T e' with
  | none=>rw[he]at ht;cases ht
  | some te' =>
   rw[he]at ht
   simp only[Option.map_some,Option.some.injEq,Prod.mk.injEq]at ht
   obtain⟨h1,rfl,rfl⟩:=ht
   rcases h with rfl | rfl | ⟨rfl,rfl⟩
   ·by_cases hx:n=els.length
    ·exact⟨.vec sz .exact (els.take n),by subst hx;simp[aslice,hT,he,natOr,hnat,h1],.inl rfl⟩
    ·exact⟨.vec sz .shared (els.take n),by simp[aslice,hT,he,natOr,hnat,h1,hx,hn],.inr (.inl rfl)⟩
   ·exact⟨.vec sz .shared (els.take n),by simp[aslice,hT,he,natOr,hnat,h1,hn],.inr (.inl rfl)⟩
   ·have:n=0:=by simpa using hn
    subst this
    have h0:natOf (iv 0)=some 0:=hnat
    exact⟨.lit (.slice none 0 0),by simp[aslice,hT,he,natOr,h0],.inr (.inr ⟨rfl,rfl⟩)⟩
 ·cases ht
theorem nbeq(a b:Nat):Nat.beq a b=decide (a=b):=by rw[Bool.eq_iff_iff];simp
def StkAt(H:Hp)(sv:AV)(xs:List Int):Prop:=Sl 1 sv (xs.map iv)∨(xs≠[]∧∃b,sv=.sl b 1 0 xs.length xs.length∧H[b]?=some (.cells 1 2 (xs.map iv)))
theorem StkAt.grow{H L:Hp}{sv:AV}{xs:List Int}(h:StkAt H sv xs):StkAt (H++L) sv xs:=by
 rcases h with h | ⟨h0,b,h1,h2⟩
 ·exact .inl h
 ·exact .inr ⟨h0,b,h1,by rw[hp_get_l (lt_of_get h2),h2]⟩
theorem StkAt.shr{H:Hp}{sv:AV}{xs:List Int}(h:StkAt H sv xs):Abs.shr sv=sv:=by
 rcases h with h | ⟨h0,b,rfl,h2⟩
 ·exact h.shr
 ·rfl
theorem StkAt.notOwn{H:Hp}{sv:AV}{xs:List Int}(h:StkAt H sv xs):isOwn sv=false:=by
 rcases h with h | ⟨h0,b,rfl,h2⟩
 ·exact h.notOwn
 ·rfl
theorem StkAt.drp{H:Hp}{sv:AV}{xs:List Int}(h:StkAt H sv xs):Abs.drp sv=sv:=by
 rcases h with h | ⟨h0,b,rfl,h2⟩
 ·exact h.drp
 ·rfl
theorem StkAt.fitA{H:Hp}{sv:AV}{xs:List Int}(h:StkAt H sv xs):Abs.fitA false 1 sv=true:=by
 rcases h with h | ⟨h0,b,rfl,h2⟩
 ·exact h.fitA
 ·rfl
theorem StkAt.items{H:Hp}{sv:AV}{xs:List Int}(h:StkAt H sv xs):Abs.items 1 H sv=some (xs.map iv):=by
 rcases h with h | ⟨h0,b,rfl,h2⟩
 ·rcases h with rfl | rfl | ⟨rfl,he⟩
  ·rw[items_vec,if_pos rfl]
  ·rw[items_vec,if_pos rfl]
  ·rw[items_nil,he]
 ·simp only[Abs.items,h2]
  have hc:(xs.map iv).map cl1=xs.map iv:=by
   rw[List.map_map]
   exact List.map_congr_left fun _ _=>rfl
  rw[if_pos ⟨trivial,by rw[List.length_map];omega⟩,List.drop_zero]
  rw[show xs.length=(xs.map iv).length by rw[List.length_map],List.take_length,hc]
theorem T39_eq:cx.T 39=some Tab.T39:=nk
theorem T2_eq:cx.T 2=some Tab.T2:=nk
theorem apB39{H:Hp}{sv:AV}{xs:List Int}(h:StkAt H sv xs)(hx:xs.length≤1000)(h0:xs≠[]):aappendB cx.T 39 H (.vec 1 .exact []) sv=some (xs.map iv,1,2):=by
 have hi:=h.items
 unfold aappendB
 rw[T39_eq]
 simp only[Tab.T39,T2_eq,Tab.T2,hi]
 refine if_pos ⟨?_,?_,by first | trivial | rfl,by first | trivial | decide,?_⟩
 ·cases xs with
  | nil=>exact absurd rfl h0
  | cons x l=>rfl
 ·rw[List.all_eq_true]
  intro x hx'
  rw[List.nil_append]at hx'
  obtain⟨y,_,rfl⟩:=List.mem_map.1 hx'
  rfl
 ·rw[List.length_map,List.length_nil]
  omega
theorem apB39_none{H:Hp}{k:Kd}{s:AV}{els:List AV}(hi:Abs.items 1 H s=some [])(hk:k=.exact∨k=.shared):aappendB cx.T 39 H (.vec 1 k els) s=none:=by
 unfold aappendB
 rw[T39_eq]
 simp only[Tab.T39,T2_eq,Tab.T2,hi]
 rcases hk with rfl | rfl
 ·exact if_neg fun h=>by cases h.1
 ·rfl
theorem apB39_nil{H:Hp}{s:AV}(hi:Abs.items 1 H s=some []):aappendB cx.T 39 H (.lit (.slice none 0 0)) s=none:=by
 unfold aappendB
 rw[T39_eq]
 simp only[Tab.T39,T2_eq,Tab.T2,hi]
 exact if_neg fun h=>by cases h.1
structure FrB(d:List AV)(sv:AV):Prop where
 len:d.length=19
 at2:d[2]?=some sv
 num:∀(j:Nat)(x:AV),j≠2→d[j]?=some x→∃n,x=iv n
theorem FrB.map{d:List AV}{sv:AV}(F:FrB d sv){g:AV→AV}(hn:∀n,g (iv n)=iv n)(hs:g sv=sv):d.map g=d:=by
 refine List.ext_getElem? fun j=>?_
 rw[List.getElem?_map]
 cases h:d[j]? with
 | none=>rfl
 | some x =>
  by_cases hj:j=2
  ·subst hj;rw[F.at2]at h;cases h;rw[Option.map_some,hs]
  ·obtain⟨n,rfl⟩:=F.num j x hj h;rw[Option.map_some,hn]
theorem FrB.take{d:List AV}{sv:AV}(F:FrB d sv):d.take 19=d:=List.take_of_length_le (by rw[F.len];exact Nat.le_refl _)
theorem FrB.set{d:List AV}{sv:AV}(F:FrB d sv)(x:AV):FrB (d.set 2 x) x:=by
 refine⟨by rw[List.length_set,F.len],by rw[List.getElem?_set_self (by rw[F.len];decide)],fun j y hj h=>?_⟩
 rw[List.getElem?_set_ne (Ne.symm hj)]at h
 exact F.num j y hj h
structure Fresh(H L:Hp)(sv:AV)(xs:List Int):Prop where
 st:StkAt (H++L) sv xs
 fr:∀b s i n c,sv=.sl b s i n c→H.length≤b
 bl:xs≠[]→∃b s i n c,sv=.sl b s i n c
theorem aslice_s0{T:TypeId→Option TI}{t:TypeId}{sz:Nat}{e:TypeId}{te:TI}(ht:slT T t=some (sz,e,te)){b n:Nat}{k1 k2:IntKind}(h:sz=te.size):aslice T t (.sl b sz 0 n n) none (some (.lit (.int k1 0))) (some (.lit (.int k2 0)))=some (.vec sz .exact []):=by
 subst h
 unfold slT at ht
 split at ht
 ·rename_i e' _ hT
  cases he:T e' with
  | none=>rw[he]at ht;cases ht
  | some te' =>
   rw[he]at ht
   simp only[Option.map_some,Option.some.injEq,Prod.mk.injEq]at ht
   obtain⟨_,rfl,rfl⟩:=ht
   unfold aslice
   simp[hT,he,natOr,natOf]
 ·cases ht
theorem aslice_v0{T:TypeId→Option TI}{t:TypeId}{sz:Nat}{e:TypeId}{te:TI}(ht:slT T t=some (sz,e,te)){k:Kd}{els:List AV}{k1 k2:IntKind}:aslice T t (.vec sz k els) none (some (.lit (.int k1 0))) (some (.lit (.int k2 0)))=some (.vec sz .exact []):=by
 unfold slT at ht
 split at ht
 ·rename_i e' _ hT
  cases he:T e' with
  | none=>rw[he]at ht;cases ht
  | some te' =>
   rw[he]at ht
   simp only[Option.map_some,Option.some.injEq,Prod.mk.injEq]at ht
   obtain⟨rfl,rfl,rfl⟩:=ht
   unfold aslice
   simp[hT,he,natOr,natOf]
 ·cases ht
theorem aslice_n0{T:TypeId→Option TI}{t:TypeId}{sz:Nat}{e:TypeId}{te:TI}(ht:slT T t=some (sz,e,te)){k1 k2:IntKind}:aslice T t (.lit (.slice none 0 0)) none (some (.lit (.int k1 0))) (some (.lit (.int k2 0)))=some (.lit (.slice none 0 0)):=by
 unfold slT at ht
 split at ht
 ·rename_i e' _ hT
  cases he:T e' with
  | none=>rw[he]at ht;cases ht
  | some te' =>
   unfold aslice
   simp[hT,he,natOr,natOf]
 ·cases ht
def zeroF:List AV:=[iv 0,iv 0,.lit (.slice none 0 0),iv 0,iv 0,iv 0,iv 0,iv 0,iv 0,iv 0,iv 0,iv 0,iv 0,iv 0,iv 0,iv 0,iv 0,iv 0,iv 0]
section
variable {ro:Nat} {H:Hp} {d:List AV} {sv:AV} {xs:List Int}
theorem own_some(hr:ro≤H.length)(F:FrB d sv)(S:StkAt H sv xs)(hx:xs.length≤1000)(h0:xs≠[]):
  callB cx D ro 111 [.agg d] H=some (.agg (d.set 2 (.sl (H.length+2) 1 0 xs.length xs.length)),H++[.cells 19 44 [.agg (d.set 2 (.sl (H.length+2) 1 0 xs.length xs.length))],.cells 19 44 [.agg (d.set 2 (.sl (H.length+2) 1 0 xs.length xs.length))],.cells 1 2 (xs.map iv)]):=by
 obtain⟨n,hn⟩:∃n,H.length=n:=⟨_,rfl⟩
 rw[hn]at hr ⊢
 have c1:∀j,ro≤n+j:=fun j=>by omega
 have c2:∀j,¬(n+j<ro):=fun j=>by omega
 have c3:¬(n<ro):=by omega
 have hs:aslice cx.T 39 sv none (some (.lit (.int .i64 0))) (some (.lit (.int .i64 0)))=some (.vec 1 .exact []):=by
  rcases S with S | ⟨_,b,rfl,hb⟩
  ·rcases S with rfl | rfl | ⟨rfl,he⟩
   ·exact aslice_v0 sl39
   ·exact aslice_v0 sl39
   ·exact absurd (List.map_eq_nil_iff.1 he) h0
  ·exact aslice_s0 sl39 rfl
 have hB:∀L,aappendB cx.T 39 (H++L) (.vec 1 .exact []) sv=some (xs.map iv,1,2):=fun L=>apB39 S.grow hx h0
 have e1:=F.len
 have e2:=F.at2
 have e3:=F.map (g:=Abs.shr) (fun _=>rfl) S.shr
 have e4:=F.take
 have hl:(xs.map iv).length=xs.length:=List.length_map ..
 have e5:(d.set 2 (.sl (n+2) 1 0 xs.length xs.length)).take 19=d.set 2 (.sl (n+2) 1 0 xs.length xs.length):=(F.set _).take
 have e6:(d.set 2 (.sl (n+2) 1 0 xs.length xs.length)).map Abs.shr=d.set 2 (.sl (n+2) 1 0 xs.length xs.length):=(F.set _).map (fun _=>rfl) rfl
 have e7:(d.set 2 (.sl (n+2) 1 0 xs.length xs.length)).length=19:=(F.set _).len
 obtain⟨fr1,p1,f1,f2⟩:∃fr1,ex cx D ro 111 11 (.region 0 g111_0 false) (PT.nil.set 0 (drp (.agg d))) H=some (.normal,fr1,H++[.cells 19 44 [.agg d],.cells 19 44 [.agg zeroF]])∧fr1.get 1=.ptr n 0 0∧fr1.get 2=.ptr (n+1) 0 0:=by
  unfold zeroF
  simp -implicitDefEqProofs (maxDischargeDepth:=4) only[go_sem,decide_true,decide_false,beq_self_eq_true,↓reduceIte,Nat.reduceLT,Nat.reduceAdd,Nat.reduceMul,Nat.reduceSub,Nat.reduceEqDiff,Nat.reduceLeDiff,Nat.reduceBEq,reduceCtorEq,Nat.succ_ne_zero,Bool.not_true,Bool.not_false,Bool.true_eq_false,Bool.false_eq_true,Bool.true_beq,Bool.false_beq,Int.reduceLT,Int.reduceLE,Int.reduceEq,Int.reduceNe,ne_eq,not_false_eq_true,not_true_eq_false,List.getElem?_cons_zero,List.getElem?_cons_succ,List.length_cons,List.length_nil,List.all_cons,List.all_nil,Bool.and_true,Bool.and_self,Bool.true_and,Bool.false_and,Bool.and_false,Bool.or_true,Bool.or_false,Bool.true_or,Bool.false_or,Bool.or_self,List.elem_cons,List.elem_nil,Nat.add_zero,Nat.zero_add,or_self,or_false,false_or,true_or,or_true,and_true,true_and,and_false,false_and,and_self,List.mem_cons,List.not_mem_nil,Nat.reducePow,elAt_eq,stV_eq,cellsB_cells,hp_get_r,hp_get_r0,hp_get_l,hp_set_r,hp_set_r0,hp_set_l,hp_one,hp_ne,List.drop_succ_cons,List.drop_zero,List.take_succ_cons,List.take_zero,hn,hr,c1,c2,c3,e1,e3]
  exact⟨_,rfl,by simp -implicitDefEqProofs (maxDischargeDepth:=4) only[go_sem,decide_true,decide_false,beq_self_eq_true,↓reduceIte,Nat.reduceLT,Nat.reduceAdd,Nat.reduceMul,Nat.reduceSub,Nat.reduceEqDiff,Nat.reduceLeDiff,Nat.reduceBEq,reduceCtorEq,Nat.succ_ne_zero,Bool.not_true,Bool.not_false,Bool.true_eq_false,Bool.false_eq_true,Bool.true_beq,Bool.false_beq,Int.reduceLT,Int.reduceLE,Int.reduceEq,Int.reduceNe,ne_eq,not_false_eq_true,not_true_eq_false,List.getElem?_cons_zero,List.getElem?_cons_succ,List.length_cons,List.length_nil,List.all_cons,List.all_nil,Bool.and_true,Bool.and_self,Bool.true_and,Bool.false_and,Bool.and_false,Bool.or_true,Bool.or_false,Bool.true_or,Bool.false_or,Bool.or_self,List.elem_cons,List.elem_nil,Nat.add_zero,Nat.zero_add,or_self,or_false,false_or,true_or,or_true,and_true,true_and,and_false,false_and,and_self,List.mem_cons,List.not_mem_nil,Nat.reducePow],by simp -implicitDefEqProofs (maxDischargeDepth:=4) only[go_sem,decide_true,decide_false,beq_self_eq_true,↓reduceIte,Nat.reduceLT,Nat.reduceAdd,Nat.reduceMul,Nat.reduceSub,Nat.reduceEqDiff,Nat.reduceLeDiff,Nat.reduceBEq,reduceCtorEq,Nat.succ_ne_zero,Bool.not_true,Bool.not_false,Bool.true_eq_false,Bool.false_eq_true,Bool.true_beq,Bool.false_beq,Int.reduceLT,Int.reduceLE,Int.reduceEq,Int.reduceNe,ne_eq,not_false_eq_true,not_true_eq_false,List.getElem?_cons_zero,List.getElem?_cons_succ,List.length_cons,List.length_nil,List.all_cons,List.all_nil,Bool.and_true,Bool.and_self,Bool.true_and,Bool.false_and,Bool.and_false,Bool.or_true,Bool.or_false,Bool.true_or,Bool.false_or,Bool.or_self,List.elem_cons,List.elem_nil,Nat.add_zero,Nat.zero_add,or_self,or_false,false_or,true_or,or_true,and_true,true_and,and_false,false_and,and_self,List.mem_cons,List.not_mem_nil,Nat.reducePow]⟩
 obtain⟨fr2,p2,g1,g2⟩:∃fr2,ex cx D ro 111 11 (.region 1 g111_1 true) fr1 (H++[.cells 19 44 [.agg d],.cells 19 44 [.agg zeroF]])=some (.normal,fr2,H++[.cells 19 44 [.agg (d.set 2 (.sl (n+2) 1 0 xs.length xs.length))],.cells 19 44 [.agg zeroF],.cells 1 2 (xs.map iv)])∧fr2.get 1=.ptr n 0 0∧fr2.get 2=.ptr (n+1) 0 0:=by
  simp -implicitDefEqProofs (maxDischargeDepth:=4) only[go_sem,decide_true,decide_false,beq_self_eq_true,↓reduceIte,Nat.reduceLT,Nat.reduceAdd,Nat.reduceMul,Nat.reduceSub,Nat.reduceEqDiff,Nat.reduceLeDiff,Nat.reduceBEq,reduceCtorEq,Nat.succ_ne_zero,Bool.not_true,Bool.not_false,Bool.true_eq_false,Bool.false_eq_true,Bool.true_beq,Bool.false_beq,Int.reduceLT,Int.reduceLE,Int.reduceEq,Int.reduceNe,ne_eq,not_false_eq_true,not_true_eq_false,List.getElem?_cons_zero,List.getElem?_cons_succ,List.length_cons,List.length_nil,List.all_cons,List.all_nil,Bool.and_true,Bool.and_self,Bool.true_and,Bool.false_and,Bool.and_false,Bool.or_true,Bool.or_false,Bool.true_or,Bool.false_or,Bool.or_self,List.elem_cons,List.elem_nil,Nat.add_zero,Nat.zero_add,or_self,or_false,false_or,true_or,or_true,and_true,true_and,and_false,false_and,and_self,List.mem_cons,List.not_mem_nil,Nat.reducePow,elAt_eq,stV_eq,cellsB_cells,hp_get_r,hp_get_r0,hp_get_l,hp_set_r,hp_set_r0,hp_set_l,hp_one,hp_ne,List.drop_succ_cons,List.drop_zero,List.take_succ_cons,List.take_zero,hn,hr,c1,c2,c3,e1,e2,e3,S.shr,S.notOwn,f1,f2,hs,hB,hl,layB_res,nbeq,Nat.zero_le,Nat.le_refl]
  exact⟨_,rfl,by simp -implicitDefEqProofs (maxDischargeDepth:=4) only[go_sem,decide_true,decide_false,beq_self_eq_true,↓reduceIte,Nat.reduceLT,Nat.reduceAdd,Nat.reduceMul,Nat.reduceSub,Nat.reduceEqDiff,Nat.reduceLeDiff,Nat.reduceBEq,reduceCtorEq,Nat.succ_ne_zero,Bool.not_true,Bool.not_false,Bool.true_eq_false,Bool.false_eq_true,Bool.true_beq,Bool.false_beq,Int.reduceLT,Int.reduceLE,Int.reduceEq,Int.reduceNe,ne_eq,not_false_eq_true,not_true_eq_false,List.getElem?_cons_zero,List.getElem?_cons_succ,List.length_cons,List.length_nil,List.all_cons,List.all_nil,Bool.and_true,Bool.and_self,Bool.true_and,Bool.false_and,Bool.and_false,Bool.or_true,Bool.or_false,Bool.true_or,Bool.false_or,Bool.or_self,List.elem_cons,List.elem_nil,Nat.add_zero,Nat.zero_add,or_self,or_false,false_or,true_or,or_true,and_true,true_and,and_false,false_and,and_self,List.mem_cons,List.not_mem_nil,Nat.reducePow,f1],by simp -implicitDefEqProofs (maxDischargeDepth:=4) only[go_sem,decide_true,decide_false,beq_self_eq_true,↓reduceIte,Nat.reduceLT,Nat.reduceAdd,Nat.reduceMul,Nat.reduceSub,Nat.reduceEqDiff,Nat.reduceLeDiff,Nat.reduceBEq,reduceCtorEq,Nat.succ_ne_zero,Bool.not_true,Bool.not_false,Bool.true_eq_false,Bool.false_eq_true,Bool.true_beq,Bool.false_beq,Int.reduceLT,Int.reduceLE,Int.reduceEq,Int.reduceNe,ne_eq,not_false_eq_true,not_true_eq_false,List.getElem?_cons_zero,List.getElem?_cons_succ,List.length_cons,List.length_nil,List.all_cons,List.all_nil,Bool.and_true,Bool.and_self,Bool.true_and,Bool.false_and,Bool.and_false,Bool.or_true,Bool.or_false,Bool.true_or,Bool.false_or,Bool.or_self,List.elem_cons,List.elem_nil,Nat.add_zero,Nat.zero_add,or_self,or_false,false_or,true_or,or_true,and_true,true_and,and_false,false_and,and_self,List.mem_cons,List.not_mem_nil,Nat.reducePow,f2]⟩
 rw[c111,x_cont1 p1,x_cont1 p2]
 have z19:zeroF.length=19:=rfl
 simp -implicitDefEqProofs (maxDischargeDepth:=4) only[go_sem,decide_true,decide_false,beq_self_eq_true,↓reduceIte,Nat.reduceLT,Nat.reduceAdd,Nat.reduceMul,Nat.reduceSub,Nat.reduceEqDiff,Nat.reduceLeDiff,Nat.reduceBEq,reduceCtorEq,Nat.succ_ne_zero,Bool.not_true,Bool.not_false,Bool.true_eq_false,Bool.false_eq_true,Bool.true_beq,Bool.false_beq,Int.reduceLT,Int.reduceLE,Int.reduceEq,Int.reduceNe,ne_eq,not_false_eq_true,not_true_eq_false,List.getElem?_cons_zero,List.getElem?_cons_succ,List.length_cons,List.length_nil,List.all_cons,List.all_nil,Bool.and_true,Bool.and_self,Bool.true_and,Bool.false_and,Bool.and_false,Bool.or_true,Bool.or_false,Bool.true_or,Bool.false_or,Bool.or_self,List.elem_cons,List.elem_nil,Nat.add_zero,Nat.zero_add,or_self,or_false,false_or,true_or,or_true,and_true,true_and,and_false,false_and,and_self,List.mem_cons,List.not_mem_nil,Nat.reducePow,elAt_eq,stV_eq,cellsB_cells,hp_get_r,hp_get_r0,hp_get_l,hp_set_r,hp_set_r0,hp_set_l,hp_one,hp_ne,List.drop_succ_cons,List.drop_zero,List.take_succ_cons,List.take_zero,hn,hr,c1,c2,c3,g1,g2,e5,e6,e7,z19]
end
section
variable {ro:Nat} {H:Hp} {d:List AV} {sv:AV} {xs:List Int}
theorem own_no(hr:ro≤H.length)(F:FrB d sv)(S:Sl 1 sv []):
  ∃L sv',callB cx D ro 111 [.agg d] H=some (.agg (d.set 2 sv'),H++L)∧Sl 1 sv' []:=by
 obtain⟨n,hn⟩:∃n,H.length=n:=⟨_,rfl⟩
 rw[hn]at hr
 have c1:∀j,ro≤n+j:=fun j=>by omega
 have c2:∀j,¬(n+j<ro):=fun j=>by omega
 have c3:¬(n<ro):=by omega
 have hit:∀G:Hp,Abs.items 1 G sv=some []:=fun G=>(show StkAt G sv [] from .inl S).items
 obtain⟨sv',hs,hB,hv,S'⟩:∃sv',aslice cx.T 39 sv none (some (.lit (.int .i64 0))) (some (.lit (.int .i64 0)))=some sv'∧(∀G,aappendB cx.T 39 G sv' sv=none)∧apV 1 8 [] sv'=some sv'∧(sv'=.vec 1 .exact []∨sv'=.lit (.slice none 0 0)):=by
  rcases S with rfl | rfl | ⟨rfl,he⟩
  ·exact⟨_,aslice_v0 sl39,fun G=>apB39_none (hit G) (.inl rfl),rfl,.inl rfl⟩
  ·exact⟨_,aslice_v0 sl39,fun G=>apB39_none (hit G) (.inl rfl),rfl,.inl rfl⟩
  ·exact⟨_,aslice_n0 sl39,fun G=>apB39_nil (hit G),rfl,.inr rfl⟩
 have SS:Sl 1 sv' []:=by
  rcases S' with rfl | rfl
  ·exact .inl rfl
  ·exact .inr (.inr ⟨rfl,rfl⟩)
 have e1:=F.len
 have e2:=F.at2
 have e3:=F.map (g:=Abs.shr) (fun _=>rfl) S.shr
 have e4:=F.take
 have e5:(d.set 2 sv').take 19=d.set 2 sv':=(F.set _).take
 have e6:(d.set 2 sv').map Abs.shr=d.set 2 sv':=(F.set _).map (fun _=>rfl) SS.shr
 have e7:(d.set 2 sv').length=19:=(F.set _).len
 obtain⟨fr1,p1,f1,f2⟩:∃fr1,ex cx D ro 111 11 (.region 0 g111_0 false) (PT.nil.set 0 (drp (.agg d))) H=some (.normal,fr1,H++[.cells 19 44 [.agg d],.cells 19 44 [.agg zeroF]])∧fr1.get 1=.ptr n 0 0∧fr1.get 2=.ptr (n+1) 0 0:=by
  unfold zeroF
  simp -implicitDefEqProofs (maxDischargeDepth:=4) only[go_sem,decide_true,decide_false,beq_self_eq_true,↓reduceIte,Nat.reduceLT,Nat.reduceAdd,Nat.reduceMul,Nat.reduceSub,Nat.reduceEqDiff,Nat.reduceLeDiff,Nat.reduceBEq,reduceCtorEq,Nat.succ_ne_zero,Bool.not_true,Bool.not_false,Bool.true_eq_false,Bool.false_eq_true,Bool.true_beq,Bool.false_beq,Int.reduceLT,Int.reduceLE,Int.reduceEq,Int.reduceNe,ne_eq,not_false_eq_true,not_true_eq_false,List.getElem?_cons_zero,List.getElem?_cons_succ,List.length_cons,List.length_nil,List.all_cons,List.all_nil,Bool.and_true,Bool.and_self,Bool.true_and,Bool.false_and,Bool.and_false,Bool.or_true,Bool.or_false,Bool.true_or,Bool.false_or,Bool.or_self,List.elem_cons,List.elem_nil,Nat.add_zero,Nat.zero_add,or_self,or_false,false_or,true_or,or_true,and_true,true_and,and_false,false_and,and_self,List.mem_cons,List.not_mem_nil,Nat.reducePow,elAt_eq,stV_eq,cellsB_cells,hp_get_r,hp_get_r0,hp_get_l,hp_set_r,hp_set_r0,hp_set_l,hp_one,hp_ne,List.drop_succ_cons,List.drop_zero,List.take_succ_cons,List.take_zero,hn,hr,c1,c2,c3,e1,e3]
  exact⟨_,rfl,by simp -implicitDefEqProofs (maxDischargeDepth:=4) only[go_sem,decide_true,decide_false,beq_self_eq_true,↓reduceIte,Nat.reduceLT,Nat.reduceAdd,Nat.reduceMul,Nat.reduceSub,Nat.reduceEqDiff,Nat.reduceLeDiff,Nat.reduceBEq,reduceCtorEq,Nat.succ_ne_zero,Bool.not_true,Bool.not_false,Bool.true_eq_false,Bool.false_eq_true,Bool.true_beq,Bool.false_beq,Int.reduceLT,Int.reduceLE,Int.reduceEq,Int.reduceNe,ne_eq,not_false_eq_true,not_true_eq_false,List.getElem?_cons_zero,List.getElem?_cons_succ,List.length_cons,List.length_nil,List.all_cons,List.all_nil,Bool.and_true,Bool.and_self,Bool.true_and,Bool.false_and,Bool.and_false,Bool.or_true,Bool.or_false,Bool.true_or,Bool.false_or,Bool.or_self,List.elem_cons,List.elem_nil,Nat.add_zero,Nat.zero_add,or_self,or_false,false_or,true_or,or_true,and_true,true_and,and_false,false_and,and_self,List.mem_cons,List.not_mem_nil,Nat.reducePow],by simp -implicitDefEqProofs (maxDischargeDepth:=4) only[go_sem,decide_true,decide_false,beq_self_eq_true,↓reduceIte,Nat.reduceLT,Nat.reduceAdd,Nat.reduceMul,Nat.reduceSub,Nat.reduceEqDiff,Nat.reduceLeDiff,Nat.reduceBEq,reduceCtorEq,Nat.succ_ne_zero,Bool.not_true,Bool.not_false,Bool.true_eq_false,Bool.false_eq_true,Bool.true_beq,Bool.false_beq,Int.reduceLT,Int.reduceLE,Int.reduceEq,Int.reduceNe,ne_eq,not_false_eq_true,not_true_eq_false,List.getElem?_cons_zero,List.getElem?_cons_succ,List.length_cons,List.length_nil,List.all_cons,List.all_nil,Bool.and_true,Bool.and_self,Bool.true_and,Bool.false_and,Bool.and_false,Bool.or_true,Bool.or_false,Bool.true_or,Bool.false_or,Bool.or_self,List.elem_cons,List.elem_nil,Nat.add_zero,Nat.zero_add,or_self,or_false,false_or,true_or,or_true,and_true,true_and,and_false,false_and,and_self,List.mem_cons,List.not_mem_nil,Nat.reducePow]⟩
 obtain⟨fr2,p2,g1,g2⟩:∃fr2,ex cx D ro 111 11 (.region 1 g111_1 true) fr1 (H++[.cells 19 44 [.agg d],.cells 19 44 [.agg zeroF]])=some (.normal,fr2,H++[.cells 19 44 [.agg (d.set 2 sv')],.cells 19 44 [.agg zeroF],.res])∧fr2.get 1=.ptr n 0 0∧fr2.get 2=.ptr (n+1) 0 0:=by
  rcases S' with rfl | rfl
  ·simp -implicitDefEqProofs (maxDischargeDepth:=4) only[go_sem,decide_true,decide_false,beq_self_eq_true,↓reduceIte,Nat.reduceLT,Nat.reduceAdd,Nat.reduceMul,Nat.reduceSub,Nat.reduceEqDiff,Nat.reduceLeDiff,Nat.reduceBEq,reduceCtorEq,Nat.succ_ne_zero,Bool.not_true,Bool.not_false,Bool.true_eq_false,Bool.false_eq_true,Bool.true_beq,Bool.false_beq,Int.reduceLT,Int.reduceLE,Int.reduceEq,Int.reduceNe,ne_eq,not_false_eq_true,not_true_eq_false,List.getElem?_cons_zero,List.getElem?_cons_succ,List.length_cons,List.length_nil,List.all_cons,List.all_nil,Bool.and_true,Bool.and_self,Bool.true_and,Bool.false_and,Bool.and_false,Bool.or_true,Bool.or_false,Bool.true_or,Bool.false_or,Bool.or_self,List.elem_cons,List.elem_nil,Nat.add_zero,Nat.zero_add,or_self,or_false,false_or,true_or,or_true,and_true,true_and,and_false,false_and,and_self,List.mem_cons,List.not_mem_nil,Nat.reducePow,elAt_eq,stV_eq,cellsB_cells,hp_get_r,hp_get_r0,hp_get_l,hp_set_r,hp_set_r0,hp_set_l,hp_one,hp_ne,List.drop_succ_cons,List.drop_zero,List.take_succ_cons,List.take_zero,hn,hr,c1,c2,c3,e1,e2,e3,S.shr,S.notOwn,f1,f2,hs,hB,hit,hv,nbeq,Nat.zero_le,Nat.le_refl]
   exact⟨_,rfl,by simp -implicitDefEqProofs (maxDischargeDepth:=4) only[go_sem,decide_true,decide_false,beq_self_eq_true,↓reduceIte,Nat.reduceLT,Nat.reduceAdd,Nat.reduceMul,Nat.reduceSub,Nat.reduceEqDiff,Nat.reduceLeDiff,Nat.reduceBEq,reduceCtorEq,Nat.succ_ne_zero,Bool.not_true,Bool.not_false,Bool.true_eq_false,Bool.false_eq_true,Bool.true_beq,Bool.false_beq,Int.reduceLT,Int.reduceLE,Int.reduceEq,Int.reduceNe,ne_eq,not_false_eq_true,not_true_eq_false,List.getElem?_cons_zero,List.getElem?_cons_succ,List.length_cons,List.length_nil,List.all_cons,List.all_nil,Bool.and_true,Bool.and_self,Bool.true_and,Bool.false_and,Bool.and_false,Bool.or_true,Bool.or_false,Bool.true_or,Bool.false_or,Bool.or_self,List.elem_cons,List.elem_nil,Nat.add_zero,Nat.zero_add,or_self,or_false,false_or,true_or,or_true,and_true,true_and,and_false,false_and,and_self,List.mem_cons,List.not_mem_nil,Nat.reducePow,f1],by simp -implicitDefEqProofs (maxDischargeDepth:=4) only[go_sem,decide_true,decide_false,beq_self_eq_true,↓reduceIte,Nat.reduceLT,Nat.reduceAdd,Nat.reduceMul,Nat.reduceSub,Nat.reduceEqDiff,Nat.reduceLeDiff,Nat.reduceBEq,reduceCtorEq,Nat.succ_ne_zero,Bool.not_true,Bool.not_false,Bool.true_eq_false,Bool.false_eq_true,Bool.true_beq,Bool.false_beq,Int.reduceLT,Int.reduceLE,Int.reduceEq,Int.reduceNe,ne_eq,not_false_eq_true,not_true_eq_false,List.getElem?_cons_zero,List.getElem?_cons_succ,List.length_cons,List.length_nil,List.all_cons,List.all_nil,Bool.and_true,Bool.and_self,Bool.true_and,Bool.false_and,Bool.and_false,Bool.or_true,Bool.or_false,Bool.true_or,Bool.false_or,Bool.or_self,List.elem_cons,List.elem_nil,Nat.add_zero,Nat.zero_add,or_self,or_false,false_or,true_or,or_true,and_true,true_and,and_false,false_and,and_self,List.mem_cons,List.not_mem_nil,Nat.reducePow,f2]⟩
  ·simp -implicitDefEqProofs (maxDischargeDepth:=4) only[go_sem,decide_true,decide_false,beq_self_eq_true,↓reduceIte,Nat.reduceLT,Nat.reduceAdd,Nat.reduceMul,Nat.reduceSub,Nat.reduceEqDiff,Nat.reduceLeDiff,Nat.reduceBEq,reduceCtorEq,Nat.succ_ne_zero,Bool.not_true,Bool.not_false,Bool.true_eq_false,Bool.false_eq_true,Bool.true_beq,Bool.false_beq,Int.reduceLT,Int.reduceLE,Int.reduceEq,Int.reduceNe,ne_eq,not_false_eq_true,not_true_eq_false,List.getElem?_cons_zero,List.getElem?_cons_succ,List.length_cons,List.length_nil,List.all_cons,List.all_nil,Bool.and_true,Bool.and_self,Bool.true_and,Bool.false_and,Bool.and_false,Bool.or_true,Bool.or_false,Bool.true_or,Bool.false_or,Bool.or_self,List.elem_cons,List.elem_nil,Nat.add_zero,Nat.zero_add,or_self,or_false,false_or,true_or,or_true,and_true,true_and,and_false,false_and,and_self,List.mem_cons,List.not_mem_nil,Nat.reducePow,elAt_eq,stV_eq,cellsB_cells,hp_get_r,hp_get_r0,hp_get_l,hp_set_r,hp_set_r0,hp_set_l,hp_one,hp_ne,List.drop_succ_cons,List.drop_zero,List.take_succ_cons,List.take_zero,hn,hr,c1,c2,c3,e1,e2,e3,S.shr,S.notOwn,f1,f2,hs,hB,hit,hv,nbeq,Nat.zero_le,Nat.le_refl]
   exact⟨_,rfl,by simp -implicitDefEqProofs (maxDischargeDepth:=4) only[go_sem,decide_true,decide_false,beq_self_eq_true,↓reduceIte,Nat.reduceLT,Nat.reduceAdd,Nat.reduceMul,Nat.reduceSub,Nat.reduceEqDiff,Nat.reduceLeDiff,Nat.reduceBEq,reduceCtorEq,Nat.succ_ne_zero,Bool.not_true,Bool.not_false,Bool.true_eq_false,Bool.false_eq_true,Bool.true_beq,Bool.false_beq,Int.reduceLT,Int.reduceLE,Int.reduceEq,Int.reduceNe,ne_eq,not_false_eq_true,not_true_eq_false,List.getElem?_cons_zero,List.getElem?_cons_succ,List.length_cons,List.length_nil,List.all_cons,List.all_nil,Bool.and_true,Bool.and_self,Bool.true_and,Bool.false_and,Bool.and_false,Bool.or_true,Bool.or_false,Bool.true_or,Bool.false_or,Bool.or_self,List.elem_cons,List.elem_nil,Nat.add_zero,Nat.zero_add,or_self,or_false,false_or,true_or,or_true,and_true,true_and,and_false,false_and,and_self,List.mem_cons,List.not_mem_nil,Nat.reducePow,f1],by simp -implicitDefEqProofs (maxDischargeDepth:=4) only[go_sem,decide_true,decide_false,beq_self_eq_true,↓reduceIte,Nat.reduceLT,Nat.reduceAdd,Nat.reduceMul,Nat.reduceSub,Nat.reduceEqDiff,Nat.reduceLeDiff,Nat.reduceBEq,reduceCtorEq,Nat.succ_ne_zero,Bool.not_true,Bool.not_false,Bool.true_eq_false,Bool.false_eq_true,Bool.true_beq,Bool.false_beq,Int.reduceLT,Int.reduceLE,Int.reduceEq,Int.reduceNe,ne_eq,not_false_eq_true,not_true_eq_false,List.getElem?_cons_zero,List.getElem?_cons_succ,List.length_cons,List.length_nil,List.all_cons,List.all_nil,Bool.and_true,Bool.and_self,Bool.true_and,Bool.false_and,Bool.and_false,Bool.or_true,Bool.or_false,Bool.true_or,Bool.false_or,Bool.or_self,List.elem_cons,List.elem_nil,Nat.add_zero,Nat.zero_add,or_self,or_false,false_or,true_or,or_true,and_true,true_and,and_false,false_and,and_self,List.mem_cons,List.not_mem_nil,Nat.reducePow,f2]⟩
 have z19:zeroF.length=19:=rfl
 have run:∃L,callB cx D ro 111 [.agg d] H=some (.agg (d.set 2 sv'),H++L):=by
  rw[c111,x_cont1 p1,x_cont1 p2]
  simp -implicitDefEqProofs (maxDischargeDepth:=4) only[go_sem,decide_true,decide_false,beq_self_eq_true,↓reduceIte,Nat.reduceLT,Nat.reduceAdd,Nat.reduceMul,Nat.reduceSub,Nat.reduceEqDiff,Nat.reduceLeDiff,Nat.reduceBEq,reduceCtorEq,Nat.succ_ne_zero,Bool.not_true,Bool.not_false,Bool.true_eq_false,Bool.false_eq_true,Bool.true_beq,Bool.false_beq,Int.reduceLT,Int.reduceLE,Int.reduceEq,Int.reduceNe,ne_eq,not_false_eq_true,not_true_eq_false,List.getElem?_cons_zero,List.getElem?_cons_succ,List.length_cons,List.length_nil,List.all_cons,List.all_nil,Bool.and_true,Bool.and_self,Bool.true_and,Bool.false_and,Bool.and_false,Bool.or_true,Bool.or_false,Bool.true_or,Bool.false_or,Bool.or_self,List.elem_cons,List.elem_nil,Nat.add_zero,Nat.zero_add,or_self,or_false,false_or,true_or,or_true,and_true,true_and,and_false,false_and,and_self,List.mem_cons,List.not_mem_nil,Nat.reducePow,elAt_eq,stV_eq,cellsB_cells,hp_get_r,hp_get_r0,hp_get_l,hp_set_r,hp_set_r0,hp_set_l,hp_one,hp_ne,List.drop_succ_cons,List.drop_zero,List.take_succ_cons,List.take_zero,hn,hr,c1,c2,c3,g1,g2,e5,e6,e7,z19]
  exact⟨_,rfl⟩
 obtain⟨L,hL⟩:=run
 exact⟨L,sv',hL,SS⟩
theorem own_full(hr:ro≤H.length)(F:FrB d sv)(S:StkAt H sv xs)(hx:xs.length≤1000):
  ∃L sv',callB cx D ro 111 [.agg d] H=some (.agg (d.set 2 sv'),H++L)∧Fresh H L sv' xs:=by
 by_cases h0:xs=[]
 ·subst h0
  rcases S with S | ⟨h,_⟩
  ·obtain⟨L,sv',h1,h2⟩:=own_no hr F S
   refine⟨L,sv',h1,.inl h2,fun b s i n c h=>?_,fun h=>absurd rfl h⟩
   subst h
   rcases h2 with h | h | ⟨h,_⟩<;>cases h
  ·exact absurd rfl h
 ·refine⟨_,_,own_some hr F S hx h0,.inr ⟨h0,_,rfl,?_⟩,fun b s i n c h=>?_,fun _=>⟨_,_,_,_,_,rfl⟩⟩
  ·rw[List.getElem?_append_right (by omega),Nat.add_sub_cancel_left]
   rfl
  ·cases h
   omega
end
theorem Fresh.swap{H L:Hp}{z z':ABlock}{sv:AV}{xs:List Int}(h:Fresh (H++[z]) L sv xs):Fresh H (z'::L) sv xs:=by
 refine⟨?_,fun b s i n c e=>by have:=h.fr b s i n c e;rw[List.length_append]at this;simp at this;omega,h.bl⟩
 rcases h.st with h1 | ⟨h0,b,h1,h2⟩
 ·exact .inl h1
 ·have hb:=h.fr _ _ _ _ _ h1
  rw[List.length_append,List.length_singleton]at hb
  refine .inr ⟨h0,b,h1,?_⟩
  rw[List.getElem?_append_right (by rw[List.length_append,List.length_singleton];omega),List.length_append,List.length_singleton]at h2
  rw[List.getElem?_append_right (by omega),show b-H.length=(b-(H.length+1))+1 by omega,List.getElem?_cons_succ]
  exact h2
theorem Fresh.setB{H L:Hp}{b0:Nat}{x:ABlock}{sv:AV}{xs:List Int}(h:Fresh H L sv xs):Fresh (H.set b0 x) L sv xs:=by
 refine⟨?_,fun b s i n c e=>by have:=h.fr b s i n c e;rw[List.length_set];exact this,h.bl⟩
 rcases h.st with h1 | ⟨h0,b,h1,h2⟩
 ·exact .inl h1
 ·have hb:=h.fr _ _ _ _ _ h1
  refine .inr ⟨h0,b,h1,?_⟩
  rw[List.getElem?_append_right (by rw[List.length_set];exact hb),List.length_set]
  rw[List.getElem?_append_right hb]at h2
  exact h2
theorem StkAt.alen{H:Hp}{sv:AV}{xs:List Int}(h:StkAt H sv xs)(G:Hp):Abs.alen cx.T 39 G sv=some (iv xs.length):=by
 rcases h with h | ⟨h0,b,rfl,h2⟩
 ·rw[alen_sl h (by rw[sl39];rfl),List.length_map]
 ·exact alen_blk (by rw[sl39];rfl)
theorem elS_head{sz:Nat}{d d' l:List AV}(h1:d.length=sz)(h2:d'.length=sz):elS true sz (.agg (d++l)) 0 (.agg d')=some (.agg (d'++l)):=by
 subst h1
 simp[elS,fitA,cellsOf,h2]
theorem liveC_true{d:List AV}(h:d.length=19):liveC (d++[bv true])=true:=by
 have:(d++[bv true])[19]?=some (bv true):=by rw[List.getElem?_append_right (by rw[h];exact Nat.le_refl _),h];rfl
 simp only[liveC,this]
theorem get_on{ro:Nat}{H:Hp}{b1 b0:Nat}{sl:List (List AV)}(T:TblAt H b1 b0 sl)(hrn:ro≤H.length){i:Nat}(hl:sl.length<2 ^ 62){d:List AV}{sv:AV}{xs:List Int}(F:FrB d sv)(S:StkAt H sv xs)(hx:xs.length≤1000)(hc:sl[i]?=some (d++[bv true])):
  ∃L sv',callB cx D ro 46 [.ptr b1 0 0,iv i] H=some (.tup [.agg (d.set 2 sv'),bv true],H++L)∧Fresh H L sv' xs:=by
 obtain⟨n,hn⟩:∃n,H.length=n:=⟨_,rfl⟩
 obtain⟨L,sv',ho,hf⟩:=own_full (ro:=ro) (H:=H++[.cells 19 44 [.agg zeroF]]) (d:=d) (sv:=sv) (xs:=xs) (by rw[List.length_append];omega) F S.grow hx
 rw[hn]at hrn
 have c1:∀j,ro≤n+j:=fun j=>by omega
 have c2:∀j,¬(n+j<ro):=fun j=>by omega
 have c3:¬(n<ro):=by omega
 have hb1:b1<H.length:=lt_of_get T.tb
 have hb0:b0<H.length:=lt_of_get T.sb
 have hlv:=liveC_true F.len
 have key:∀L,callB cx D ro 109 [.ptr b1 0 0,iv i] (H++L)=some (.tup [.ptr b0 i 0,iv 0],H++L):=fun L=>by
  have T':TblAt (H++L) b1 b0 sl:=⟨by rw[hp_get_l hb1,T.tb],by rw[hp_get_l hb0,T.sb],T.ne,T.ok⟩
  rw[at_in T' (List.getElem?_eq_some_iff.1 hc).1 hl hc,hlv];rfl
 have F':=F.set sv'
 have hs':=hf.st.shr
 have e1:∀L:Hp,(H++L)[b0]?=some (.cells 20 185 (sl.map .agg)):=fun L=>by rw[hp_get_l hb0,T.sb]
 have e2:(sl.map AV.agg)[i]?=some (.agg (d++[bv true])):=by rw[List.getElem?_map,hc];rfl
 have e3:(d++[bv true]).length=20:=by rw[List.length_append,F.len];rfl
 have e4:(d++[bv true]).take 19=d:=by rw[List.take_append_of_le_length (by rw[F.len];exact Nat.le_refl _),F.take]
 have e5:=F.map (g:=Abs.shr) (fun _=>rfl) S.shr
 have e6:(d.set 2 sv').length=19:=F'.len
 have e7:(d.set 2 sv').map Abs.shr=d.set 2 sv':=F'.map (fun _=>rfl) hs'
 have e8:=F'.take
 have run:callB cx D ro 46 [.ptr b1 0 0,iv i] H=some (.tup [.agg (d.set 2 sv'),bv true],H++(.cells 19 44 [.agg (d.set 2 sv')]::L)):=by
  unfold zeroF at ho
  rw[c46]
  simp -implicitDefEqProofs (maxDischargeDepth:=4) only[go_sem,decide_true,decide_false,beq_self_eq_true,↓reduceIte,Nat.reduceLT,Nat.reduceAdd,Nat.reduceMul,Nat.reduceSub,Nat.reduceEqDiff,Nat.reduceLeDiff,Nat.reduceBEq,reduceCtorEq,Nat.succ_ne_zero,Bool.not_true,Bool.not_false,Bool.true_eq_false,Bool.false_eq_true,Bool.true_beq,Bool.false_beq,Int.reduceLT,Int.reduceLE,Int.reduceEq,Int.reduceNe,ne_eq,not_false_eq_true,not_true_eq_false,List.getElem?_cons_zero,List.getElem?_cons_succ,List.length_cons,List.length_nil,List.all_cons,List.all_nil,Bool.and_true,Bool.and_self,Bool.true_and,Bool.false_and,Bool.and_false,Bool.or_true,Bool.or_false,Bool.true_or,Bool.false_or,Bool.or_self,List.elem_cons,List.elem_nil,Nat.add_zero,Nat.zero_add,or_self,or_false,false_or,true_or,or_true,and_true,true_and,and_false,false_and,and_self,List.mem_cons,List.not_mem_nil,Nat.reducePow,elAt_eq,stV_eq,cellsB_cells,hp_get_r,hp_get_r0,hp_get_l,hp_set_r,hp_set_r0,hp_set_l,hp_one,hp_ne,List.drop_succ_cons,List.drop_zero,List.take_succ_cons,List.take_zero,hn,hrn,c1,c2,c3,key,den_call_eq,ho,e1,e2,e3,e4,e5,e6,e7,e8]
 exact⟨_,_,run,hf.swap⟩
theorem set_on{ro:Nat}{H:Hp}{b1 b0:Nat}{sl:List (List AV)}(T:TblAt H b1 b0 sl)(hr:ro≤b0)(hrn:ro≤H.length){i:Nat}(hl:sl.length<2 ^ 62){d d0:List AV}{sv:AV}{xs:List Int}(F:FrB d sv)(S:StkAt H sv xs)(hst:xs.length≤16)(hd0:d0.length=19)(hc:sl[i]?=some (d0++[bv true])):
  ∃L sv',callB cx D ro 41 [.ptr b1 0 0,iv i,.agg d] H=some (iv 0,H.set b0 (.cells 20 185 ((sl.set i (d.set 2 sv'++[bv true])).map .agg))++L)∧Fresh H L sv' xs:=by
 obtain⟨n,hn⟩:∃n,H.length=n:=⟨_,rfl⟩
 obtain⟨L,sv',ho,hf⟩:=own_full (ro:=ro) (H:=H++[.cells 19 44 [.agg d]]) (d:=d) (sv:=sv) (xs:=xs) (by rw[List.length_append];omega) F S.grow (by omega)
 rw[hn]at hrn
 have c1:∀j,ro≤n+j:=fun j=>by omega
 have c2:∀j,¬(n+j<ro):=fun j=>by omega
 have c3:¬(n<ro):=by omega
 have c4:¬(b0<ro):=by omega
 have hb1:b1<H.length:=lt_of_get T.tb
 have hb0:b0<H.length:=lt_of_get T.sb
 have hlv:=liveC_true hd0
 have key:∀L,callB cx D ro 109 [.ptr b1 0 0,iv i] (H++L)=some (.tup [.ptr b0 i 0,iv 0],H++L):=fun L=>by
  have T':TblAt (H++L) b1 b0 sl:=⟨by rw[hp_get_l hb1,T.tb],by rw[hp_get_l hb0,T.sb],T.ne,T.ok⟩
  rw[at_in T' (List.getElem?_eq_some_iff.1 hc).1 hl hc,hlv];rfl
 have F':=F.set sv'
 have hs':=hf.st.shr
 have e1:=F.len
 have e2:=F.map (g:=Abs.shr) (fun _=>rfl) S.shr
 have e3:=F.take
 have e4:=F.at2
 have e5:¬(16:Int)<(xs.length:Int):=by omega
 have hle:=S.alen
 have f1:∀L:Hp,(H++L)[b0]?=some (.cells 20 185 (sl.map .agg)):=fun L=>by rw[hp_get_l hb0,T.sb]
 have f2:(sl.map AV.agg)[i]?=some (.agg (d0++[bv true])):=by rw[List.getElem?_map,hc];rfl
 have f3:elS true 19 (.agg (d0++[bv true])) 0 (.agg (d.set 2 sv'))=some (.agg (d.set 2 sv'++[bv true])):=elS_head hd0 F'.len
 have f4:∀(L:Hp)(x:ABlock),(H++L).set b0 x=H.set b0 x++L:=fun L x=>hp_set_l hb0
 have f5:(sl.map AV.agg).set i (.agg (d.set 2 sv'++[bv true]))=(sl.set i (d.set 2 sv'++[bv true])).map .agg:=(List.map_set).symm
 have f6:(d.set 2 sv').map Abs.shr=d.set 2 sv':=F'.map (fun _=>rfl) hs'
 have run:callB cx D ro 41 [.ptr b1 0 0,iv i,.agg d] H=some (iv 0,H.set b0 (.cells 20 185 ((sl.set i (d.set 2 sv'++[bv true])).map .agg))++(.cells 19 44 [.agg d]::L)):=by
  rw[c41]
  simp -implicitDefEqProofs (maxDischargeDepth:=4) only[go_sem,decide_true,decide_false,beq_self_eq_true,↓reduceIte,Nat.reduceLT,Nat.reduceAdd,Nat.reduceMul,Nat.reduceSub,Nat.reduceEqDiff,Nat.reduceLeDiff,Nat.reduceBEq,reduceCtorEq,Nat.succ_ne_zero,Bool.not_true,Bool.not_false,Bool.true_eq_false,Bool.false_eq_true,Bool.true_beq,Bool.false_beq,Int.reduceLT,Int.reduceLE,Int.reduceEq,Int.reduceNe,ne_eq,not_false_eq_true,not_true_eq_false,List.getElem?_cons_zero,List.getElem?_cons_succ,List.length_cons,List.length_nil,List.all_cons,List.all_nil,Bool.and_true,Bool.and_self,Bool.true_and,Bool.false_and,Bool.and_false,Bool.or_true,Bool.or_false,Bool.true_or,Bool.false_or,Bool.or_self,List.elem_cons,List.elem_nil,Nat.add_zero,Nat.zero_add,or_self,or_false,false_or,true_or,or_true,and_true,true_and,and_false,false_and,and_self,List.mem_cons,List.not_mem_nil,Nat.reducePow,elAt_eq,stV_eq,cellsB_cells,hp_get_r,hp_get_r0,hp_get_l,hp_set_r,hp_set_r0,hp_set_l,hp_one,hp_ne,List.drop_succ_cons,List.drop_zero,List.take_succ_cons,List.take_zero,hn,hrn,c1,c2,c3,c4,key,den_call_eq,ho,e1,e2,e3,e4,e5,S.shr,S.notOwn,hle,f1,f2,f3,f4,f5,f6]
 exact⟨_,_,run,hf.swap⟩
section
variable {ro:Nat} {H:Hp} {a b:AV} {xs:List Int}
theorem ws_loop(S:StkAt H a xs)(hb:Sl 1 b (xs.map iv))(hx:xs.length≤1000):∀(m i:Nat)(fr:PT),xs.length-i=m→i≤xs.length→fr.get 0=a→fr.get 1=b→fr.get 5=iv i→∃fr',D.loop ro 115 26 l115_0 fr H=some (.exit 0,fr',H)
 | 0,i,fr,hm,hi,h0,h1,h5=>by
  have hn:¬((i:Int)<(xs.length:Int)):=by omega
  have hle:=S.alen
  rw[dl115_0]
  simp -implicitDefEqProofs (maxDischargeDepth:=4) only[go_sem,decide_true,decide_false,beq_self_eq_true,↓reduceIte,Nat.reduceLT,Nat.reduceAdd,Nat.reduceMul,Nat.reduceSub,Nat.reduceEqDiff,Nat.reduceLeDiff,Nat.reduceBEq,reduceCtorEq,Nat.succ_ne_zero,Bool.not_true,Bool.not_false,Bool.true_eq_false,Bool.false_eq_true,Bool.true_beq,Bool.false_beq,Int.reduceLT,Int.reduceLE,Int.reduceEq,Int.reduceNe,ne_eq,not_false_eq_true,not_true_eq_false,List.getElem?_cons_zero,List.getElem?_cons_succ,List.length_cons,List.length_nil,List.all_cons,List.all_nil,Bool.and_true,Bool.and_self,Bool.true_and,Bool.false_and,Bool.and_false,Bool.or_true,Bool.or_false,Bool.true_or,Bool.false_or,Bool.or_self,List.elem_cons,List.elem_nil,Nat.add_zero,Nat.zero_add,or_self,or_false,false_or,true_or,or_true,and_true,true_and,and_false,false_and,and_self,List.mem_cons,List.not_mem_nil,Nat.reducePow,elAt_eq,stV_eq,cellsB_cells,hp_get_r,hp_get_r0,hp_get_l,hp_set_r,hp_set_r0,hp_set_l,hp_one,hp_ne,List.drop_succ_cons,List.drop_zero,List.take_succ_cons,List.take_zero,h0,h1,h5,S.shr,S.notOwn,hle,hb.notOwn,hb.shr,hn]
  exact⟨_,rfl⟩
 | m+1,i,fr,hm,hi,h0,h1,h5=>by
  have hn:((i:Int)<(xs.length:Int)):=by omega
  have hle:=S.alen
  have e2:aindexAddr cx.T 39 b (iv i)=some (.vp (iv (xs.getD i 0)) 0):=by rw[aindexAddr_sl hb sl39 (by simp;omega) rfl,getD_map iv xs 0 (by omega)]
  have e3:wrapK .i64 ((i:Int)+1)=((i+1:Nat):Int):=by rw[wrapK_i64 (by omega) (by omega)];rfl
  rw[dl115_0]
  have S0:=S
  rcases S with S | ⟨hne,c,ha,hc⟩
  ·have e1:aindexAddr cx.T 39 a (iv i)=some (.vp (iv (xs.getD i 0)) 0):=by rw[aindexAddr_sl S sl39 (by simp;omega) rfl,getD_map iv xs 0 (by omega)]
   generalize xs.getD i 0=y at *
   simp -implicitDefEqProofs (maxDischargeDepth:=4) only[go_sem,decide_true,decide_false,beq_self_eq_true,↓reduceIte,Nat.reduceLT,Nat.reduceAdd,Nat.reduceMul,Nat.reduceSub,Nat.reduceEqDiff,Nat.reduceLeDiff,Nat.reduceBEq,reduceCtorEq,Nat.succ_ne_zero,Bool.not_true,Bool.not_false,Bool.true_eq_false,Bool.false_eq_true,Bool.true_beq,Bool.false_beq,Int.reduceLT,Int.reduceLE,Int.reduceEq,Int.reduceNe,ne_eq,not_false_eq_true,not_true_eq_false,List.getElem?_cons_zero,List.getElem?_cons_succ,List.length_cons,List.length_nil,List.all_cons,List.all_nil,Bool.and_true,Bool.and_self,Bool.true_and,Bool.false_and,Bool.and_false,Bool.or_true,Bool.or_false,Bool.true_or,Bool.false_or,Bool.or_self,List.elem_cons,List.elem_nil,Nat.add_zero,Nat.zero_add,or_self,or_false,false_or,true_or,or_true,and_true,true_and,and_false,false_and,and_self,List.mem_cons,List.not_mem_nil,Nat.reducePow,elAt_eq,stV_eq,cellsB_cells,hp_get_r,hp_get_r0,hp_get_l,hp_set_r,hp_set_r0,hp_set_l,hp_one,hp_ne,List.drop_succ_cons,List.drop_zero,List.take_succ_cons,List.take_zero,h0,h1,h5,S.shr,S.notOwn,hle,hb.notOwn,hb.shr,hn,e1,e2,e3,nbeq,Nat.zero_le,Nat.le_refl,Nat.not_lt_zero]
   exact ws_loop S0 hb hx m (i+1) _ (by omega) (by omega) (by simp -implicitDefEqProofs (maxDischargeDepth:=4) only[go_sem,decide_true,decide_false,beq_self_eq_true,↓reduceIte,Nat.reduceLT,Nat.reduceAdd,Nat.reduceMul,Nat.reduceSub,Nat.reduceEqDiff,Nat.reduceLeDiff,Nat.reduceBEq,reduceCtorEq,Nat.succ_ne_zero,Bool.not_true,Bool.not_false,Bool.true_eq_false,Bool.false_eq_true,Bool.true_beq,Bool.false_beq,Int.reduceLT,Int.reduceLE,Int.reduceEq,Int.reduceNe,ne_eq,not_false_eq_true,not_true_eq_false,List.getElem?_cons_zero,List.getElem?_cons_succ,List.length_cons,List.length_nil,List.all_cons,List.all_nil,Bool.and_true,Bool.and_self,Bool.true_and,Bool.false_and,Bool.and_false,Bool.or_true,Bool.or_false,Bool.true_or,Bool.false_or,Bool.or_self,List.elem_cons,List.elem_nil,Nat.add_zero,Nat.zero_add,or_self,or_false,false_or,true_or,or_true,and_true,true_and,and_false,false_and,and_self,List.mem_cons,List.not_mem_nil,Nat.reducePow,h0]) (by simp -implicitDefEqProofs (maxDischargeDepth:=4) only[go_sem,decide_true,decide_false,beq_self_eq_true,↓reduceIte,Nat.reduceLT,Nat.reduceAdd,Nat.reduceMul,Nat.reduceSub,Nat.reduceEqDiff,Nat.reduceLeDiff,Nat.reduceBEq,reduceCtorEq,Nat.succ_ne_zero,Bool.not_true,Bool.not_false,Bool.true_eq_false,Bool.false_eq_true,Bool.true_beq,Bool.false_beq,Int.reduceLT,Int.reduceLE,Int.reduceEq,Int.reduceNe,ne_eq,not_false_eq_true,not_true_eq_false,List.getElem?_cons_zero,List.getElem?_cons_succ,List.length_cons,List.length_nil,List.all_cons,List.all_nil,Bool.and_true,Bool.and_self,Bool.true_and,Bool.false_and,Bool.and_false,Bool.or_true,Bool.or_false,Bool.true_or,Bool.false_or,Bool.or_self,List.elem_cons,List.elem_nil,Nat.add_zero,Nat.zero_add,or_self,or_false,false_or,true_or,or_true,and_true,true_and,and_false,false_and,and_self,List.mem_cons,List.not_mem_nil,Nat.reducePow,h1]) (by simp -implicitDefEqProofs (maxDischargeDepth:=4) only[go_sem,decide_true,decide_false,beq_self_eq_true,↓reduceIte,Nat.reduceLT,Nat.reduceAdd,Nat.reduceMul,Nat.reduceSub,Nat.reduceEqDiff,Nat.reduceLeDiff,Nat.reduceBEq,reduceCtorEq,Nat.succ_ne_zero,Bool.not_true,Bool.not_false,Bool.true_eq_false,Bool.false_eq_true,Bool.true_beq,Bool.false_beq,Int.reduceLT,Int.reduceLE,Int.reduceEq,Int.reduceNe,ne_eq,not_false_eq_true,not_true_eq_false,List.getElem?_cons_zero,List.getElem?_cons_succ,List.length_cons,List.length_nil,List.all_cons,List.all_nil,Bool.and_true,Bool.and_self,Bool.true_and,Bool.false_and,Bool.and_false,Bool.or_true,Bool.or_false,Bool.true_or,Bool.false_or,Bool.or_self,List.elem_cons,List.elem_nil,Nat.add_zero,Nat.zero_add,or_self,or_false,false_or,true_or,or_true,and_true,true_and,and_false,false_and,and_self,List.mem_cons,List.not_mem_nil,Nat.reducePow])
  ·have e1:aindexAddr cx.T 39 (.sl c 1 0 xs.length xs.length) (iv i)=some (.ptr c i 0):=by rw[aindexAddr_blk sl39 rfl (by omega),Nat.zero_add]
   have e4:(xs.map iv)[i]?=some (iv (xs.getD i 0)):=by
    rw[List.getElem?_map,List.getElem?_eq_getElem (show i<xs.length by omega),List.getD_eq_getElem?_getD,List.getElem?_eq_getElem (show i<xs.length by omega)]
    rfl
   generalize hy:xs.getD i 0=y at *
   rw[ha]at h0 hle
   simp -implicitDefEqProofs (maxDischargeDepth:=4) only[go_sem,decide_true,decide_false,beq_self_eq_true,↓reduceIte,Nat.reduceLT,Nat.reduceAdd,Nat.reduceMul,Nat.reduceSub,Nat.reduceEqDiff,Nat.reduceLeDiff,Nat.reduceBEq,reduceCtorEq,Nat.succ_ne_zero,Bool.not_true,Bool.not_false,Bool.true_eq_false,Bool.false_eq_true,Bool.true_beq,Bool.false_beq,Int.reduceLT,Int.reduceLE,Int.reduceEq,Int.reduceNe,ne_eq,not_false_eq_true,not_true_eq_false,List.getElem?_cons_zero,List.getElem?_cons_succ,List.length_cons,List.length_nil,List.all_cons,List.all_nil,Bool.and_true,Bool.and_self,Bool.true_and,Bool.false_and,Bool.and_false,Bool.or_true,Bool.or_false,Bool.true_or,Bool.false_or,Bool.or_self,List.elem_cons,List.elem_nil,Nat.add_zero,Nat.zero_add,or_self,or_false,false_or,true_or,or_true,and_true,true_and,and_false,false_and,and_self,List.mem_cons,List.not_mem_nil,Nat.reducePow,elAt_eq,stV_eq,cellsB_cells,hp_get_r,hp_get_r0,hp_get_l,hp_set_r,hp_set_r0,hp_set_l,hp_one,hp_ne,List.drop_succ_cons,List.drop_zero,List.take_succ_cons,List.take_zero,h0,h1,h5,hle,hb.notOwn,hb.shr,hn,e1,e2,e3,hc,e4,nbeq,Nat.zero_le,Nat.le_refl,Nat.not_lt_zero]
   refine ws_loop S0 hb hx m (i+1) _ (by omega) (by omega) ?_ ?_ ?_
   ·simp -implicitDefEqProofs (maxDischargeDepth:=4) only[go_sem,decide_true,decide_false,beq_self_eq_true,↓reduceIte,Nat.reduceLT,Nat.reduceAdd,Nat.reduceMul,Nat.reduceSub,Nat.reduceEqDiff,Nat.reduceLeDiff,Nat.reduceBEq,reduceCtorEq,Nat.succ_ne_zero,Bool.not_true,Bool.not_false,Bool.true_eq_false,Bool.false_eq_true,Bool.true_beq,Bool.false_beq,Int.reduceLT,Int.reduceLE,Int.reduceEq,Int.reduceNe,ne_eq,not_false_eq_true,not_true_eq_false,List.getElem?_cons_zero,List.getElem?_cons_succ,List.length_cons,List.length_nil,List.all_cons,List.all_nil,Bool.and_true,Bool.and_self,Bool.true_and,Bool.false_and,Bool.and_false,Bool.or_true,Bool.or_false,Bool.true_or,Bool.false_or,Bool.or_self,List.elem_cons,List.elem_nil,Nat.add_zero,Nat.zero_add,or_self,or_false,false_or,true_or,or_true,and_true,true_and,and_false,false_and,and_self,List.mem_cons,List.not_mem_nil,Nat.reducePow,h0];exact ha.symm
   ·simp -implicitDefEqProofs (maxDischargeDepth:=4) only[go_sem,decide_true,decide_false,beq_self_eq_true,↓reduceIte,Nat.reduceLT,Nat.reduceAdd,Nat.reduceMul,Nat.reduceSub,Nat.reduceEqDiff,Nat.reduceLeDiff,Nat.reduceBEq,reduceCtorEq,Nat.succ_ne_zero,Bool.not_true,Bool.not_false,Bool.true_eq_false,Bool.false_eq_true,Bool.true_beq,Bool.false_beq,Int.reduceLT,Int.reduceLE,Int.reduceEq,Int.reduceNe,ne_eq,not_false_eq_true,not_true_eq_false,List.getElem?_cons_zero,List.getElem?_cons_succ,List.length_cons,List.length_nil,List.all_cons,List.all_nil,Bool.and_true,Bool.and_self,Bool.true_and,Bool.false_and,Bool.and_false,Bool.or_true,Bool.or_false,Bool.true_or,Bool.false_or,Bool.or_self,List.elem_cons,List.elem_nil,Nat.add_zero,Nat.zero_add,or_self,or_false,false_or,true_or,or_true,and_true,true_and,and_false,false_and,and_self,List.mem_cons,List.not_mem_nil,Nat.reducePow,h1]
   ·simp -implicitDefEqProofs (maxDischargeDepth:=4) only[go_sem,decide_true,decide_false,beq_self_eq_true,↓reduceIte,Nat.reduceLT,Nat.reduceAdd,Nat.reduceMul,Nat.reduceSub,Nat.reduceEqDiff,Nat.reduceLeDiff,Nat.reduceBEq,reduceCtorEq,Nat.succ_ne_zero,Bool.not_true,Bool.not_false,Bool.true_eq_false,Bool.false_eq_true,Bool.true_beq,Bool.false_beq,Int.reduceLT,Int.reduceLE,Int.reduceEq,Int.reduceNe,ne_eq,not_false_eq_true,not_true_eq_false,List.getElem?_cons_zero,List.getElem?_cons_succ,List.length_cons,List.length_nil,List.all_cons,List.all_nil,Bool.and_true,Bool.and_self,Bool.true_and,Bool.false_and,Bool.and_false,Bool.or_true,Bool.or_false,Bool.true_or,Bool.false_or,Bool.or_self,List.elem_cons,List.elem_nil,Nat.add_zero,Nat.zero_add,or_self,or_false,false_or,true_or,or_true,and_true,true_and,and_false,false_and,and_self,List.mem_cons,List.not_mem_nil,Nat.reducePow]
theorem ws_call(S:StkAt H a xs)(hb:Sl 1 b (xs.map iv))(hx:xs.length≤1000):callB cx D ro 115 [a,b] H=some (bv true,H):=by
 have hle:=S.alen
 obtain⟨fr1,p1,f0,f1,f5⟩:∃fr1,ex cx D ro 115 26 (.seq (.region 0 g115_0 false) (.seq (.seq (.region 1 g115_1 false) (.cond (.tmp 10) (.seq (.region 2 g115_2 false) .ret) .skip)) (.region 3 g115_3 false))) ((PT.nil.set 0 (drp a)).set 1 (drp b)) H=some (.normal,fr1,H)∧fr1.get 0=a∧fr1.get 1=b∧fr1.get 5=iv (0:Nat):=by
  simp -implicitDefEqProofs (maxDischargeDepth:=4) only[go_sem,decide_true,decide_false,beq_self_eq_true,↓reduceIte,Nat.reduceLT,Nat.reduceAdd,Nat.reduceMul,Nat.reduceSub,Nat.reduceEqDiff,Nat.reduceLeDiff,Nat.reduceBEq,reduceCtorEq,Nat.succ_ne_zero,Bool.not_true,Bool.not_false,Bool.true_eq_false,Bool.false_eq_true,Bool.true_beq,Bool.false_beq,Int.reduceLT,Int.reduceLE,Int.reduceEq,Int.reduceNe,ne_eq,not_false_eq_true,not_true_eq_false,List.getElem?_cons_zero,List.getElem?_cons_succ,List.length_cons,List.length_nil,List.all_cons,List.all_nil,Bool.and_true,Bool.and_self,Bool.true_and,Bool.false_and,Bool.and_false,Bool.or_true,Bool.or_false,Bool.true_or,Bool.false_or,Bool.or_self,List.elem_cons,List.elem_nil,Nat.add_zero,Nat.zero_add,or_self,or_false,false_or,true_or,or_true,and_true,true_and,and_false,false_and,and_self,List.mem_cons,List.not_mem_nil,Nat.reducePow,elAt_eq,stV_eq,cellsB_cells,hp_get_r,hp_get_r0,hp_get_l,hp_set_r,hp_set_r0,hp_set_l,hp_one,hp_ne,List.drop_succ_cons,List.drop_zero,List.take_succ_cons,List.take_zero,S.shr,S.notOwn,S.drp,hle,hb.shr,hb.notOwn,hb.drp,alen_sl hb,List.length_map,sl39,Option.isSome_some]
  exact⟨_,rfl,by simp -implicitDefEqProofs (maxDischargeDepth:=4) only[go_sem,decide_true,decide_false,beq_self_eq_true,↓reduceIte,Nat.reduceLT,Nat.reduceAdd,Nat.reduceMul,Nat.reduceSub,Nat.reduceEqDiff,Nat.reduceLeDiff,Nat.reduceBEq,reduceCtorEq,Nat.succ_ne_zero,Bool.not_true,Bool.not_false,Bool.true_eq_false,Bool.false_eq_true,Bool.true_beq,Bool.false_beq,Int.reduceLT,Int.reduceLE,Int.reduceEq,Int.reduceNe,ne_eq,not_false_eq_true,not_true_eq_false,List.getElem?_cons_zero,List.getElem?_cons_succ,List.length_cons,List.length_nil,List.all_cons,List.all_nil,Bool.and_true,Bool.and_self,Bool.true_and,Bool.false_and,Bool.and_false,Bool.or_true,Bool.or_false,Bool.true_or,Bool.false_or,Bool.or_self,List.elem_cons,List.elem_nil,Nat.add_zero,Nat.zero_add,or_self,or_false,false_or,true_or,or_true,and_true,true_and,and_false,false_and,and_self,List.mem_cons,List.not_mem_nil,Nat.reducePow],by simp -implicitDefEqProofs (maxDischargeDepth:=4) only[go_sem,decide_true,decide_false,beq_self_eq_true,↓reduceIte,Nat.reduceLT,Nat.reduceAdd,Nat.reduceMul,Nat.reduceSub,Nat.reduceEqDiff,Nat.reduceLeDiff,Nat.reduceBEq,reduceCtorEq,Nat.succ_ne_zero,Bool.not_true,Bool.not_false,Bool.true_eq_false,Bool.false_eq_true,Bool.true_beq,Bool.false_beq,Int.reduceLT,Int.reduceLE,Int.reduceEq,Int.reduceNe,ne_eq,not_false_eq_true,not_true_eq_false,List.getElem?_cons_zero,List.getElem?_cons_succ,List.length_cons,List.length_nil,List.all_cons,List.all_nil,Bool.and_true,Bool.and_self,Bool.true_and,Bool.false_and,Bool.and_false,Bool.or_true,Bool.or_false,Bool.true_or,Bool.false_or,Bool.or_self,List.elem_cons,List.elem_nil,Nat.add_zero,Nat.zero_add,or_self,or_false,false_or,true_or,or_true,and_true,true_and,and_false,false_and,and_self,List.mem_cons,List.not_mem_nil,Nat.reducePow],by simp -implicitDefEqProofs (maxDischargeDepth:=4) only[go_sem,decide_true,decide_false,beq_self_eq_true,↓reduceIte,Nat.reduceLT,Nat.reduceAdd,Nat.reduceMul,Nat.reduceSub,Nat.reduceEqDiff,Nat.reduceLeDiff,Nat.reduceBEq,reduceCtorEq,Nat.succ_ne_zero,Bool.not_true,Bool.not_false,Bool.true_eq_false,Bool.false_eq_true,Bool.true_beq,Bool.false_beq,Int.reduceLT,Int.reduceLE,Int.reduceEq,Int.reduceNe,ne_eq,not_false_eq_true,not_true_eq_false,List.getElem?_cons_zero,List.getElem?_cons_succ,List.length_cons,List.length_nil,List.all_cons,List.all_nil,Bool.and_true,Bool.and_self,Bool.true_and,Bool.false_and,Bool.and_false,Bool.or_true,Bool.or_false,Bool.true_or,Bool.false_or,Bool.or_self,List.elem_cons,List.elem_nil,Nat.add_zero,Nat.zero_add,or_self,or_false,false_or,true_or,or_true,and_true,true_and,and_false,false_and,and_self,List.mem_cons,List.not_mem_nil,Nat.reducePow];rfl⟩
 obtain⟨fr2,p2⟩:=ws_loop (ro:=ro) S hb hx xs.length 0 fr1 (Nat.sub_zero _) (Nat.zero_le _) f0 f1 f5
 obtain⟨_,_,q0,s⟩:=x_split p1
 obtain⟨_,_,q1,q2⟩:=x_split s
 have eb:ex cx D ro 115 26 (.block 0 (.loop l115_0)) fr1 H=some (.normal,fr2,H):=by rw[x_block,x_loop,p2];rfl
 rw[c115,x_cont1 q0,x_cont1 q1,x_assoc,x_cont1 q2,x_cont1 eb]
 simp -implicitDefEqProofs (maxDischargeDepth:=4) only[go_sem,decide_true,decide_false,beq_self_eq_true,↓reduceIte,Nat.reduceLT,Nat.reduceAdd,Nat.reduceMul,Nat.reduceSub,Nat.reduceEqDiff,Nat.reduceLeDiff,Nat.reduceBEq,reduceCtorEq,Nat.succ_ne_zero,Bool.not_true,Bool.not_false,Bool.true_eq_false,Bool.false_eq_true,Bool.true_beq,Bool.false_beq,Int.reduceLT,Int.reduceLE,Int.reduceEq,Int.reduceNe,ne_eq,not_false_eq_true,not_true_eq_false,List.getElem?_cons_zero,List.getElem?_cons_succ,List.length_cons,List.length_nil,List.all_cons,List.all_nil,Bool.and_true,Bool.and_self,Bool.true_and,Bool.false_and,Bool.and_false,Bool.or_true,Bool.or_false,Bool.true_or,Bool.false_or,Bool.or_self,List.elem_cons,List.elem_nil,Nat.add_zero,Nat.zero_add,or_self,or_false,false_or,true_or,or_true,and_true,true_and,and_false,false_and,and_self,List.mem_cons,List.not_mem_nil,Nat.reducePow,elAt_eq,stV_eq,cellsB_cells,hp_get_r,hp_get_r0,hp_get_l,hp_set_r,hp_set_r0,hp_set_l,hp_one,hp_ne,List.drop_succ_cons,List.drop_zero,List.take_succ_cons,List.take_zero,]
theorem cellsEq_ints:∀(rg:List Int)(ks:List Bool),ks.length=rg.length→(∀k∈ks,k=false)→cellsEq ks (rg.map iv) (rg.map iv)=some true
 | [],[],_,_=>rfl
 | n::l,k::ks,h,hk=>by
  have h1:=cellsEq_ints l ks (by simpa using h) fun k' hk'=>hk k' (List.mem_cons_of_mem _ hk')
  have h2:=hk k List.mem_cons_self
  subst h2
  simp only[List.map_cons,cellsEq,h1,cellEq]
  simp
theorem ints_of:∀l:List AV,(∀x∈l,∃n,x=iv n)→∃rg:List Int,l=rg.map iv
 | [],_=>⟨[],rfl⟩
 | x::l,h=>by
  obtain⟨n,rfl⟩:=h x List.mem_cons_self
  obtain⟨rg,rfl⟩:=ints_of l fun y hy=>h y (List.mem_cons_of_mem _ hy)
  exact⟨n::rg,rfl⟩
theorem regs_eq{A:List AV}{sv:AV}(F:FrB A sv):∃R,((A.drop 3).take 16).map Abs.shr=R∧abin cx.T .eql 42 (.agg R) (.agg R)=some (bv true):=by
 obtain⟨rg,hrg⟩:=ints_of ((A.drop 3).take 16) fun x hx=>by
  obtain⟨j,hj⟩:=List.getElem?_of_mem hx
  have hlt:j<16:=by
   have:=(List.getElem?_eq_some_iff.1 hj).1
   rw[List.length_take]at this;omega
  rw[List.getElem?_take_of_lt hlt,List.getElem?_drop]at hj
  exact F.num _ x (by omega) hj
 have hlen:rg.length=16:=by
  have:=congrArg List.length hrg
  rw[List.length_take,List.length_drop,F.len,List.length_map]at this;omega
 refine⟨rg.map iv,by rw[hrg,List.map_map];rfl,?_⟩
 exact b_aeql eq42 (cellsEq_ints rg _ (by rw[hlen];rfl) (by decide))
theorem same_call{A B:List AV}{sv:AV}(hr:ro≤H.length)(F1:FrB A sv)(F2:FrB B b)(S:StkAt H sv xs)(hb:Sl 1 b (xs.map iv))(hx:xs.length≤1000)(same:∀j,j≠2→A[j]?=B[j]?):
  ∃L,callB cx D ro 47 [.agg A,.agg B] H=some (bv true,H++L):=by
 obtain⟨n,hn⟩:∃n,H.length=n:=⟨_,rfl⟩
 rw[hn]at hr
 have c1:∀j,ro≤n+j:=fun j=>by omega
 have c2:∀j,¬(n+j<ro):=fun j=>by omega
 have c3:¬(n<ro):=by omega
 have e1:=F1.len
 have e2:=F1.take
 have e3:=F1.map (g:=Abs.shr) (fun _=>rfl) S.shr
 have e4:=F1.at2
 have f1:=F2.len
 have f2:=F2.take
 have f3:=F2.map (g:=Abs.shr) (fun _=>rfl) hb.shr
 have f4:=F2.at2
 obtain⟨x0,a0⟩:=F1.num 0 _ (by decide) (List.getElem?_eq_getElem (by rw[e1];decide))
 obtain⟨x1,a1⟩:=F1.num 1 _ (by decide) (List.getElem?_eq_getElem (by rw[e1];decide))
 have a0':A[0]?=some (iv x0):=by rw[←a0,List.getElem?_eq_getElem]
 have a1':A[1]?=some (iv x1):=by rw[←a1,List.getElem?_eq_getElem]
 have b0':B[0]?=some (iv x0):=by rw[←same 0 (by decide),a0']
 have b1':B[1]?=some (iv x1):=by rw[←same 1 (by decide),a1']
 have dr:B.drop 3=A.drop 3:=by
  refine List.ext_getElem? fun j=>?_
  rw[List.getElem?_drop,List.getElem?_drop,same _ (by omega)]
 obtain⟨R,hR,hE⟩:=regs_eq F1
 have hw:∀(ro:Nat)(L:Hp),callB cx D ro 115 [sv,b] (H++L)=some (bv true,H++L):=fun ro L=>ws_call S.grow hb hx
 rw[c47]
 by_cases hs:shut1 sv=true
 ·have hp:pcall D 115 [sv,b]=some (bv true):=by
   have S':Sl 1 sv (xs.map iv):=by
    rcases S with S | ⟨_,c,rfl,_⟩
    ·exact S
    ·cases hs
   exact pcall_eq (v:=bv true) (H':=[]) (by rw[List.map_cons,List.map_cons,List.map_nil,S'.cl2,hb.cl2];exact ws_call (.inl S') hb hx)
  simp -implicitDefEqProofs (maxDischargeDepth:=4) only[go_sem,decide_true,decide_false,beq_self_eq_true,↓reduceIte,Nat.reduceLT,Nat.reduceAdd,Nat.reduceMul,Nat.reduceSub,Nat.reduceEqDiff,Nat.reduceLeDiff,Nat.reduceBEq,reduceCtorEq,Nat.succ_ne_zero,Bool.not_true,Bool.not_false,Bool.true_eq_false,Bool.false_eq_true,Bool.true_beq,Bool.false_beq,Int.reduceLT,Int.reduceLE,Int.reduceEq,Int.reduceNe,ne_eq,not_false_eq_true,not_true_eq_false,List.getElem?_cons_zero,List.getElem?_cons_succ,List.length_cons,List.length_nil,List.all_cons,List.all_nil,Bool.and_true,Bool.and_self,Bool.true_and,Bool.false_and,Bool.and_false,Bool.or_true,Bool.or_false,Bool.true_or,Bool.false_or,Bool.or_self,List.elem_cons,List.elem_nil,Nat.add_zero,Nat.zero_add,or_self,or_false,false_or,true_or,or_true,and_true,true_and,and_false,false_and,and_self,List.mem_cons,List.not_mem_nil,Nat.reducePow,elAt_eq,stV_eq,cellsB_cells,hp_get_r,hp_get_r0,hp_get_l,hp_set_r,hp_set_r0,hp_set_l,hp_one,hp_ne,List.drop_succ_cons,List.drop_zero,List.take_succ_cons,List.take_zero,hn,hr,c1,c2,c3,e1,e2,e3,e4,f1,f2,f3,f4,a0',a1',b0',b1',dr,hR,hE,hp,hs,S.shr,hb.shr,hb.shut1,S.notOwn,hb.notOwn]
  exact⟨_,rfl⟩
 ·have hs':[sv,b].all shut1=false:=by simp[hs]
  have hq:=fun (ro:Nat) (L:Hp)=>(xapply_look (ro:=ro) (g:=115) (vs:=[sv,b]) (H:=H++L) pu115 hs').trans (by rw[List.map_cons,List.map_cons,List.map_nil,S.drp,hb.drp,hw])
  simp -implicitDefEqProofs (maxDischargeDepth:=4) only[go_sem,decide_true,decide_false,beq_self_eq_true,↓reduceIte,Nat.reduceLT,Nat.reduceAdd,Nat.reduceMul,Nat.reduceSub,Nat.reduceEqDiff,Nat.reduceLeDiff,Nat.reduceBEq,reduceCtorEq,Nat.succ_ne_zero,Bool.not_true,Bool.not_false,Bool.true_eq_false,Bool.false_eq_true,Bool.true_beq,Bool.false_beq,Int.reduceLT,Int.reduceLE,Int.reduceEq,Int.reduceNe,ne_eq,not_false_eq_true,not_true_eq_false,List.getElem?_cons_zero,List.getElem?_cons_succ,List.length_cons,List.length_nil,List.all_cons,List.all_nil,Bool.and_true,Bool.and_self,Bool.true_and,Bool.false_and,Bool.and_false,Bool.or_true,Bool.or_false,Bool.true_or,Bool.false_or,Bool.or_self,List.elem_cons,List.elem_nil,Nat.add_zero,Nat.zero_add,or_self,or_false,false_or,true_or,or_true,and_true,true_and,and_false,false_and,and_self,List.mem_cons,List.not_mem_nil,Nat.reducePow,elAt_eq,stV_eq,cellsB_cells,hp_get_r,hp_get_r0,hp_get_l,hp_set_r,hp_set_r0,hp_set_l,hp_one,hp_ne,List.drop_succ_cons,List.drop_zero,List.take_succ_cons,List.take_zero,hn,hr,c1,c2,c3,e1,e2,e3,e4,f1,f2,f3,f4,a0',a1',b0',b1',dr,hR,hE,hq,S.shr,hb.shr,S.notOwn,hb.notOwn]
  exact⟨_,rfl⟩
end
theorem flat_len{HV:List (List AV)}(h:∀e∈HV,e.length=19):HV.flatten.length=HV.length*19:=by
 induction HV with
 | nil=>rfl
 | cons e l ih =>
  rw[List.flatten_cons,List.length_append,h e (List.mem_cons_self ..),ih fun y hy=>h y (List.mem_cons_of_mem _ hy),List.length_cons]
  omega
theorem flat_at:∀ {HV:List (List AV)} {k:Nat} {e:List AV},(∀e∈HV,e.length=19)→HV[k]?=some e→(HV.flatten.drop (k*19)).take 19=e
 | [],k,e,_,h=>by cases h
 | x::l,0,e,hl,h=>by
  cases h
  rw[Nat.zero_mul,List.drop_zero,List.flatten_cons,List.take_append_of_le_length (by rw[hl x (List.mem_cons_self ..)];exact Nat.le_refl _),List.take_of_length_le (by rw[hl x (List.mem_cons_self ..)];exact Nat.le_refl _)]
 | x::l,k+1,e,hl,h=>by
  have hx:=hl x (List.mem_cons_self ..)
  rw[List.flatten_cons,List.drop_append,List.drop_of_length_le (by omega),List.nil_append,hx,show (k+1)*19-19=k*19 by omega]
  exact flat_at (fun y hy=>hl y (List.mem_cons_of_mem _ hy)) h
theorem flat_put{d:List AV}(hd:d.length=19):∀ {HV:List (List AV)} {k:Nat},(∀e∈HV,e.length=19)→k<HV.length→HV.flatten.take (k*19)++d++HV.flatten.drop (k*19+19)=(HV.set k d).flatten
 | [],k,_,h=>by cases h
 | x::l,0,hl,h=>by
  have hx:=hl x (List.mem_cons_self ..)
  rw[Nat.zero_mul,List.take_zero,List.nil_append,Nat.zero_add,List.flatten_cons,List.drop_append,List.drop_of_length_le (by omega),List.nil_append,hx,Nat.sub_self,List.drop_zero,List.set_cons_zero,List.flatten_cons]
 | x::l,k+1,hl,h=>by
  have hx:=hl x (List.mem_cons_self ..)
  have ih:=flat_put hd (HV:=l) (k:=k) (fun y hy=>hl y (List.mem_cons_of_mem _ hy)) (by simpa using h)
  rw[List.flatten_cons,List.set_cons_succ,List.flatten_cons,←ih,List.take_append,List.take_of_length_le (by omega),hx,show (k+1)*19-19=k*19 by omega,List.drop_append,List.drop_of_length_le (by omega),List.nil_append,hx,show (k+1)*19+19-19=k*19+19 by omega]
  simp only[List.append_assoc]
theorem flat_set2{e:List AV}(v:AV):∀ {HV:List (List AV)} {k:Nat},(∀e∈HV,e.length=19)→HV[k]?=some e→HV.flatten.set (k*19+2) v=(HV.set k (e.set 2 v)).flatten
 | [],k,_,h=>by cases h
 | x::l,0,hl,h=>by
  cases h
  have hx:=hl e (List.mem_cons_self ..)
  rw[Nat.zero_mul,Nat.zero_add,List.flatten_cons,List.set_append_left _ _ (by omega),List.set_cons_zero,List.flatten_cons]
 | x::l,k+1,hl,h=>by
  have hx:=hl x (List.mem_cons_self ..)
  have ih:=flat_set2 v (HV:=l) (k:=k) (fun y hy=>hl y (List.mem_cons_of_mem _ hy)) h
  rw[List.flatten_cons,List.set_append_right _ _ (by omega),hx,show (k+1)*19+2-19=k*19+2 by omega,ih,List.set_cons_succ,List.flatten_cons]
structure SlotA(G:Hp)(U:Nat→Prop)(d e:List AV):Prop where
 ex:∃sv w xs,FrB d sv∧FrB (e.map Abs.shr) w∧StkAt G sv xs∧Sl 1 w (xs.map iv)∧xs.length≤16∧(∀j,j≠2→d[j]?=(e.map Abs.shr)[j]?)∧∀b s i n c,sv=.sl b s i n c→U b∧4≤b
structure ASt(G:Hp)(U:Nat→Prop)(fa:List AV)(sl HV:List (List AV)):Prop where
 g0:G[0]?=some (.cells 5 50 [.agg fa])
 T:TblAt G 2 1 sl
 h3:G[3]?=some (.cells 95 51 [.agg HV.flatten])
 hl:∀e∈HV,e.length=19
 l5:sl.length=5
 k5:HV.length=5
def Full(G:Hp)(U:Nat→Prop)(sl HV:List (List AV))(m:Nat):Prop:=∀k,k<m→∃d e,sl[k]?=some (d++[bv true])∧HV[k]?=some e∧SlotA G U d e
theorem SlotA.grow{G L:Hp}{U:Nat→Prop}{d e:List AV}(h:SlotA G U d e):SlotA (G++L) U d e:=by
 obtain⟨sv,w,xs,h1,h2,h3,h4⟩:=h.ex
 exact⟨sv,w,xs,h1,h2,h3.grow,h4⟩
theorem SlotA.mono{G:Hp}{U V:Nat→Prop}{d e:List AV}(h:SlotA G U d e)(hUV:∀b,b<G.length→U b→V b):SlotA G V d e:=by
 obtain⟨sv,w,xs,h1,h2,h3,h4,h5,h6,h7⟩:=h.ex
 refine⟨sv,w,xs,h1,h2,h3,h4,h5,h6,fun b s i n c hb=>⟨hUV b ?_ (h7 b s i n c hb).1,(h7 b s i n c hb).2⟩⟩
 subst hb
 rcases h3 with h3 | ⟨_,b',e1,e2⟩
 ·rcases h3 with h3 | h3 | ⟨h3,_⟩<;>cases h3
 ·cases e1
  exact lt_of_get e2
theorem SlotA.put{G:Hp}{U:Nat→Prop}{d e:List AV}(h:SlotA G U d e){q:Nat}(hq:¬(U q∧4≤q))(x:ABlock):SlotA (G.set q x) U d e:=by
 obtain⟨sv,w,xs,h1,h2,h3,h4,h5,h6,h7⟩:=h.ex
 refine⟨sv,w,xs,h1,h2,?_,h4,h5,h6,h7⟩
 rcases h3 with h3 | ⟨h0,b,e1,e2⟩
 ·exact .inl h3
 ·refine .inr ⟨h0,b,e1,?_⟩
  have hne:q≠b:=fun e=>hq (by subst e;exact h7 _ _ _ _ _ e1)
  rw[List.getElem?_set_ne hne]
  exact e2
theorem ASt.grow{G L:Hp}{U:Nat→Prop}{fa:List AV}{sl HV:List (List AV)}(h:ASt G U fa sl HV):ASt (G++L) U fa sl HV:=by
 obtain⟨g0,⟨t1,t2,t3,t4⟩,h3,hl,l5,k5⟩:=h
 exact⟨by rw[hp_get_l (lt_of_get g0),g0],⟨by rw[hp_get_l (lt_of_get t1),t1],by rw[hp_get_l (lt_of_get t2),t2],t3,t4⟩,by rw[hp_get_l (lt_of_get h3),h3],hl,l5,k5⟩
theorem ASt.put{G:Hp}{U:Nat→Prop}{fa:List AV}{sl HV:List (List AV)}(h:ASt G U fa sl HV){q:Nat}(hq:4≤q)(x:ABlock):ASt (G.set q x) U fa sl HV:=by
 obtain⟨g0,⟨t1,t2,t3,t4⟩,h3,hl,l5,k5⟩:=h
 exact⟨by rw[hp_ne (by omega),g0],⟨by rw[hp_ne (by omega),t1],by rw[hp_ne (by omega),t2],t3,t4⟩,by rw[hp_ne (by omega),h3],hl,l5,k5⟩
theorem Full.grow{G L:Hp}{U:Nat→Prop}{sl HV:List (List AV)}{m:Nat}(h:Full G U sl HV m):Full (G++L) U sl HV m:=fun k hk=>by
 obtain⟨d,e,h1,h2,h3⟩:=h k hk
 exact⟨d,e,h1,h2,h3.grow⟩
theorem Full.mono{G:Hp}{U V:Nat→Prop}{sl HV:List (List AV)}{m:Nat}(h:Full G U sl HV m)(hUV:∀b,b<G.length→U b→V b):Full G V sl HV m:=fun k hk=>by
 obtain⟨d,e,h1,h2,h3⟩:=h k hk
 exact⟨d,e,h1,h2,h3.mono hUV⟩
theorem Full.put{G:Hp}{U:Nat→Prop}{sl HV:List (List AV)}{m:Nat}(h:Full G U sl HV m){q:Nat}(hq:¬(U q∧4≤q))(x:ABlock):Full (G.set q x) U sl HV m:=fun k hk=>by
 obtain⟨d,e,h1,h2,h3⟩:=h k hk
 exact⟨d,e,h1,h2,h3.put hq x⟩
theorem put_word{G:Hp}{q j:Nat}{els:List AV}{y:Int}(hG:G[q]?=some (.cells 1 2 els))(hj:els[j]?=some (iv y))(m:Int):stV 0 G false 1 (.ptr q j 0) (iv m)=some (G.set q (.cells 1 2 (els.set j (iv m)))):=by
 rw[stV_eq,if_neg (Nat.not_lt_zero _),hG]
 simp only[cellsB_cells,xbind_some,hj]
 rfl
structure A5(fr:PT)(ov:AV)(i:Nat):Prop where
 f1:fr.get 1=ov
 f2:fr.get 2=.ptr 0 0 0
 f5:fr.get 5=.ptr 2 0 0
 f6:fr.get 6=.ptr 3 0 0
 f12:fr.get 12=iv i
theorem A5.of{fr fr':PT}{ov:AV}{i:Nat}(F:A5 fr ov i)(h:∀t,(t=1∨t=2∨t=5∨t=6∨t=12)→fr'.get t=fr.get t):A5 fr' ov i :=
 ⟨by rw[h 1 (by simp),F.f1],by rw[h 2 (by simp),F.f2],by rw[h 5 (by simp),F.f5],by rw[h 6 (by simp),F.f6],by rw[h 12 (by simp),F.f12]⟩
theorem wrap_s{i:Nat}(h:i≤1000):wrapK .i64 ((i:Int)+1)=((i+1:Nat):Int):=by
 rw[wrapK_i64 (by omega) (by omega)];rfl
theorem set_self{G:Hp}{q:Nat}{x:ABlock}(h:G[q]?=some x):G.set q x=G:=by
 refine List.ext_getElem? fun j=>?_
 by_cases e:q=j
 ·subst e;rw[List.getElem?_set_self (lt_of_get h),h]
 ·rw[List.getElem?_set_ne e]
noncomputable abbrev bo5_1:Code:=(.seq (.seq (.region 27 g5_26 false) (.cond (.tmp 125) .skip (.exit 4))) (.seq (.block 5 (.region 29 g5_27 false)) (.region 28 g5_28 false)))
noncomputable abbrev bo5_2:Code:=(.seq (.seq (.region 37 g5_35 false) (.cond (.tmp 160) .skip (.exit 8))) (.seq (.block 9 (.region 39 g5_36 false)) (.region 38 g5_37 false)))
section
variable {ov:AV} {i n q:Nat}
theorem up_loop(hn:n≤1000):∀(m j:Nat)(fr:PT)(G:Hp)(ys:List Int),n-j=m→j≤n→ys.length=n→G[q]?=some (.cells 1 2 (ys.map iv))→A5 fr ov i→fr.get 14=.sl q 1 0 n n→fr.get 16=iv j→
  ∃fr' x,D.loop 0 5 174 l5_1 fr G=some (.exit 4,fr',G.set q x)∧A5 fr' ov i
 | 0,j,fr,G,ys,hm,hj,hy,hG,F,f14,f16=>by
  have hlt:¬((j:Int)<(n:Int)):=by omega
  have hs:=set_self hG
  obtain⟨fr1,p1,F1⟩:∃fr1,D.loop 0 5 174 l5_1 fr G=some (.exit 4,fr1,G)∧A5 fr1 ov i:=by
   rw[dl5_1]
   simp -implicitDefEqProofs (maxDischargeDepth:=4) only[go_sem,decide_true,decide_false,beq_self_eq_true,↓reduceIte,Nat.reduceLT,Nat.reduceAdd,Nat.reduceMul,Nat.reduceSub,Nat.reduceEqDiff,Nat.reduceLeDiff,Nat.reduceBEq,reduceCtorEq,Nat.succ_ne_zero,Bool.not_true,Bool.not_false,Bool.true_eq_false,Bool.false_eq_true,Bool.true_beq,Bool.false_beq,Int.reduceLT,Int.reduceLE,Int.reduceEq,Int.reduceNe,ne_eq,not_false_eq_true,not_true_eq_false,List.getElem?_cons_zero,List.getElem?_cons_succ,List.length_cons,List.length_nil,List.all_cons,List.all_nil,Bool.and_true,Bool.and_self,Bool.true_and,Bool.false_and,Bool.and_false,Bool.or_true,Bool.or_false,Bool.true_or,Bool.false_or,Bool.or_self,List.elem_cons,List.elem_nil,Nat.add_zero,Nat.zero_add,or_self,or_false,false_or,true_or,or_true,and_true,true_and,and_false,false_and,and_self,List.mem_cons,List.not_mem_nil,Nat.reducePow,elAt_eq,stV_eq,cellsB_cells,hp_get_r,hp_get_r0,hp_get_l,hp_set_r,hp_set_r0,hp_set_l,hp_one,hp_ne,List.drop_succ_cons,List.drop_zero,List.take_succ_cons,List.take_zero,f14,f16,sl39,hlt]
   exact⟨_,rfl,F.of fun t ht=>by rcases ht with rfl | rfl | rfl | rfl | rfl<;>simp -implicitDefEqProofs (maxDischargeDepth:=4) only[go_sem,decide_true,decide_false,beq_self_eq_true,↓reduceIte,Nat.reduceLT,Nat.reduceAdd,Nat.reduceMul,Nat.reduceSub,Nat.reduceEqDiff,Nat.reduceLeDiff,Nat.reduceBEq,reduceCtorEq,Nat.succ_ne_zero,Bool.not_true,Bool.not_false,Bool.true_eq_false,Bool.false_eq_true,Bool.true_beq,Bool.false_beq,Int.reduceLT,Int.reduceLE,Int.reduceEq,Int.reduceNe,ne_eq,not_false_eq_true,not_true_eq_false,List.getElem?_cons_zero,List.getElem?_cons_succ,List.length_cons,List.length_nil,List.all_cons,List.all_nil,Bool.and_true,Bool.and_self,Bool.true_and,Bool.false_and,Bool.and_false,Bool.or_true,Bool.or_false,Bool.true_or,Bool.false_or,Bool.or_self,List.elem_cons,List.elem_nil,Nat.add_zero,Nat.zero_add,or_self,or_false,false_or,true_or,or_true,and_true,true_and,and_false,false_and,and_self,List.mem_cons,List.not_mem_nil,Nat.reducePow]⟩
  exact⟨fr1,_,by rw[hs];exact p1,F1⟩
 | m+1,j,fr,G,ys,hm,hj,hy,hG,F,f14,f16=>by
  have hlt:(j:Int)<(n:Int):=by omega
  have w3:=wrap_s (i:=j) (by omega)
  obtain⟨y,hyj⟩:∃y,ys[j]?=some y:=⟨_,List.getElem?_eq_getElem (by omega)⟩
  have e1:aindexAddr cx.T 39 (.sl q 1 0 n n) (iv j)=some (.ptr q j 0):=by rw[aindexAddr_blk sl39 rfl (by omega),Nat.zero_add]
  have e2:(ys.map iv)[j]?=some (iv y):=by rw[List.getElem?_map,hyj];rfl
  have e3:=put_word hG e2 (wrapK .i64 (y+1))
  rw[show (ys.map iv).set j (iv (wrapK .i64 (y+1)))=(ys.set j (wrapK .i64 (y+1))).map iv from(List.map_set).symm]at e3
  obtain⟨fr1,p1,F1,k14,k16⟩:∃fr1,ex cx D 0 5 174 bo5_1 fr G=some (.normal,fr1,G.set q (.cells 1 2 ((ys.set j (wrapK .i64 (y+1))).map iv)))∧A5 fr1 ov i∧fr1.get 14=.sl q 1 0 n n∧fr1.get 16=iv (j+1:Nat):=by
   unfold bo5_1
   simp -implicitDefEqProofs (maxDischargeDepth:=4) only[go_sem,decide_true,decide_false,beq_self_eq_true,↓reduceIte,Nat.reduceLT,Nat.reduceAdd,Nat.reduceMul,Nat.reduceSub,Nat.reduceEqDiff,Nat.reduceLeDiff,Nat.reduceBEq,reduceCtorEq,Nat.succ_ne_zero,Bool.not_true,Bool.not_false,Bool.true_eq_false,Bool.false_eq_true,Bool.true_beq,Bool.false_beq,Int.reduceLT,Int.reduceLE,Int.reduceEq,Int.reduceNe,ne_eq,not_false_eq_true,not_true_eq_false,List.getElem?_cons_zero,List.getElem?_cons_succ,List.length_cons,List.length_nil,List.all_cons,List.all_nil,Bool.and_true,Bool.and_self,Bool.true_and,Bool.false_and,Bool.and_false,Bool.or_true,Bool.or_false,Bool.true_or,Bool.false_or,Bool.or_self,List.elem_cons,List.elem_nil,Nat.add_zero,Nat.zero_add,or_self,or_false,false_or,true_or,or_true,and_true,true_and,and_false,false_and,and_self,List.mem_cons,List.not_mem_nil,Nat.reducePow,elAt_eq,stV_eq,cellsB_cells,hp_get_r,hp_get_r0,hp_get_l,hp_set_r,hp_set_r0,hp_set_l,hp_one,hp_ne,List.drop_succ_cons,List.drop_zero,List.take_succ_cons,List.take_zero,f14,f16,sl39,hlt,e1,hG,e2,e3,w3]
   exact⟨_,rfl,F.of fun t ht=>by rcases ht with rfl | rfl | rfl | rfl | rfl<;>simp -implicitDefEqProofs (maxDischargeDepth:=4) only[go_sem,decide_true,decide_false,beq_self_eq_true,↓reduceIte,Nat.reduceLT,Nat.reduceAdd,Nat.reduceMul,Nat.reduceSub,Nat.reduceEqDiff,Nat.reduceLeDiff,Nat.reduceBEq,reduceCtorEq,Nat.succ_ne_zero,Bool.not_true,Bool.not_false,Bool.true_eq_false,Bool.false_eq_true,Bool.true_beq,Bool.false_beq,Int.reduceLT,Int.reduceLE,Int.reduceEq,Int.reduceNe,ne_eq,not_false_eq_true,not_true_eq_false,List.getElem?_cons_zero,List.getElem?_cons_succ,List.length_cons,List.length_nil,List.all_cons,List.all_nil,Bool.and_true,Bool.and_self,Bool.true_and,Bool.false_and,Bool.and_false,Bool.or_true,Bool.or_false,Bool.true_or,Bool.false_or,Bool.or_self,List.elem_cons,List.elem_nil,Nat.add_zero,Nat.zero_add,or_self,or_false,false_or,true_or,or_true,and_true,true_and,and_false,false_and,and_self,List.mem_cons,List.not_mem_nil,Nat.reducePow],by simp -implicitDefEqProofs (maxDischargeDepth:=4) only[go_sem,decide_true,decide_false,beq_self_eq_true,↓reduceIte,Nat.reduceLT,Nat.reduceAdd,Nat.reduceMul,Nat.reduceSub,Nat.reduceEqDiff,Nat.reduceLeDiff,Nat.reduceBEq,reduceCtorEq,Nat.succ_ne_zero,Bool.not_true,Bool.not_false,Bool.true_eq_false,Bool.false_eq_true,Bool.true_beq,Bool.false_beq,Int.reduceLT,Int.reduceLE,Int.reduceEq,Int.reduceNe,ne_eq,not_false_eq_true,not_true_eq_false,List.getElem?_cons_zero,List.getElem?_cons_succ,List.length_cons,List.length_nil,List.all_cons,List.all_nil,Bool.and_true,Bool.and_self,Bool.true_and,Bool.false_and,Bool.and_false,Bool.or_true,Bool.or_false,Bool.true_or,Bool.false_or,Bool.or_self,List.elem_cons,List.elem_nil,Nat.add_zero,Nat.zero_add,or_self,or_false,false_or,true_or,or_true,and_true,true_and,and_false,false_and,and_self,List.mem_cons,List.not_mem_nil,Nat.reducePow,f14],by simp -implicitDefEqProofs (maxDischargeDepth:=4) only[go_sem,decide_true,decide_false,beq_self_eq_true,↓reduceIte,Nat.reduceLT,Nat.reduceAdd,Nat.reduceMul,Nat.reduceSub,Nat.reduceEqDiff,Nat.reduceLeDiff,Nat.reduceBEq,reduceCtorEq,Nat.succ_ne_zero,Bool.not_true,Bool.not_false,Bool.true_eq_false,Bool.false_eq_true,Bool.true_beq,Bool.false_beq,Int.reduceLT,Int.reduceLE,Int.reduceEq,Int.reduceNe,ne_eq,not_false_eq_true,not_true_eq_false,List.getElem?_cons_zero,List.getElem?_cons_succ,List.length_cons,List.length_nil,List.all_cons,List.all_nil,Bool.and_true,Bool.and_self,Bool.true_and,Bool.false_and,Bool.and_false,Bool.or_true,Bool.or_false,Bool.true_or,Bool.false_or,Bool.or_self,List.elem_cons,List.elem_nil,Nat.add_zero,Nat.zero_add,or_self,or_false,false_or,true_or,or_true,and_true,true_and,and_false,false_and,and_self,List.mem_cons,List.not_mem_nil,Nat.reducePow]⟩
  obtain⟨fr2,x,p2,F2⟩:=up_loop hn m (j+1) fr1 (G.set q (.cells 1 2 ((ys.set j (wrapK .i64 (y+1))).map iv))) (ys.set j (wrapK .i64 (y+1))) (by omega) (by omega) (by rw[List.length_set,hy]) (by rw[List.getElem?_set_self (lt_of_get hG)]) F1 k14 k16
  refine⟨fr2,x,?_,F2⟩
  rw[dl5_1,show ex cx (den cx) 0 5 174 bo5_1 fr G=_ from p1,xbind_some,contR_normal]
  rw[List.set_set]at p2
  exact p2
theorem up_all{G:Hp}{st:AV}{xs:List Int}(hx:xs.length≤1000)(S:Sl 1 st []∨(st=.sl q 1 0 xs.length xs.length∧G[q]?=some (.cells 1 2 (xs.map iv)))){fr:PT}(F:A5 fr ov i)(f14:fr.get 14=st):
  ∃fr' G',ex cx D 0 5 174 (.seq (.region 26 g5_25 false) (.block 4 (.loop l5_1))) fr G=some (.normal,fr',G')∧A5 fr' ov i∧(G'=G∨∃x,G'=G.set q x∧st=.sl q 1 0 xs.length xs.length):=by
 obtain⟨fr1,p1,F1,k14,k16⟩:∃fr1,ex cx D 0 5 174 (.region 26 g5_25 false) fr G=some (.normal,fr1,G)∧A5 fr1 ov i∧fr1.get 14=st∧fr1.get 16=iv (0:Nat):=by
  simp -implicitDefEqProofs (maxDischargeDepth:=4) only[go_sem,decide_true,decide_false,beq_self_eq_true,↓reduceIte,Nat.reduceLT,Nat.reduceAdd,Nat.reduceMul,Nat.reduceSub,Nat.reduceEqDiff,Nat.reduceLeDiff,Nat.reduceBEq,reduceCtorEq,Nat.succ_ne_zero,Bool.not_true,Bool.not_false,Bool.true_eq_false,Bool.false_eq_true,Bool.true_beq,Bool.false_beq,Int.reduceLT,Int.reduceLE,Int.reduceEq,Int.reduceNe,ne_eq,not_false_eq_true,not_true_eq_false,List.getElem?_cons_zero,List.getElem?_cons_succ,List.length_cons,List.length_nil,List.all_cons,List.all_nil,Bool.and_true,Bool.and_self,Bool.true_and,Bool.false_and,Bool.and_false,Bool.or_true,Bool.or_false,Bool.true_or,Bool.false_or,Bool.or_self,List.elem_cons,List.elem_nil,Nat.add_zero,Nat.zero_add,or_self,or_false,false_or,true_or,or_true,and_true,true_and,and_false,false_and,and_self,List.mem_cons,List.not_mem_nil,Nat.reducePow]
  exact⟨_,rfl,F.of fun t ht=>by rcases ht with rfl | rfl | rfl | rfl | rfl<;>simp -implicitDefEqProofs (maxDischargeDepth:=4) only[go_sem,decide_true,decide_false,beq_self_eq_true,↓reduceIte,Nat.reduceLT,Nat.reduceAdd,Nat.reduceMul,Nat.reduceSub,Nat.reduceEqDiff,Nat.reduceLeDiff,Nat.reduceBEq,reduceCtorEq,Nat.succ_ne_zero,Bool.not_true,Bool.not_false,Bool.true_eq_false,Bool.false_eq_true,Bool.true_beq,Bool.false_beq,Int.reduceLT,Int.reduceLE,Int.reduceEq,Int.reduceNe,ne_eq,not_false_eq_true,not_true_eq_false,List.getElem?_cons_zero,List.getElem?_cons_succ,List.length_cons,List.length_nil,List.all_cons,List.all_nil,Bool.and_true,Bool.and_self,Bool.true_and,Bool.false_and,Bool.and_false,Bool.or_true,Bool.or_false,Bool.true_or,Bool.false_or,Bool.or_self,List.elem_cons,List.elem_nil,Nat.add_zero,Nat.zero_add,or_self,or_false,false_or,true_or,or_true,and_true,true_and,and_false,false_and,and_self,List.mem_cons,List.not_mem_nil,Nat.reducePow],by simp -implicitDefEqProofs (maxDischargeDepth:=4) only[go_sem,decide_true,decide_false,beq_self_eq_true,↓reduceIte,Nat.reduceLT,Nat.reduceAdd,Nat.reduceMul,Nat.reduceSub,Nat.reduceEqDiff,Nat.reduceLeDiff,Nat.reduceBEq,reduceCtorEq,Nat.succ_ne_zero,Bool.not_true,Bool.not_false,Bool.true_eq_false,Bool.false_eq_true,Bool.true_beq,Bool.false_beq,Int.reduceLT,Int.reduceLE,Int.reduceEq,Int.reduceNe,ne_eq,not_false_eq_true,not_true_eq_false,List.getElem?_cons_zero,List.getElem?_cons_succ,List.length_cons,List.length_nil,List.all_cons,List.all_nil,Bool.and_true,Bool.and_self,Bool.true_and,Bool.false_and,Bool.and_false,Bool.or_true,Bool.or_false,Bool.true_or,Bool.false_or,Bool.or_self,List.elem_cons,List.elem_nil,Nat.add_zero,Nat.zero_add,or_self,or_false,false_or,true_or,or_true,and_true,true_and,and_false,false_and,and_self,List.mem_cons,List.not_mem_nil,Nat.reducePow,f14],by simp -implicitDefEqProofs (maxDischargeDepth:=4) only[go_sem,decide_true,decide_false,beq_self_eq_true,↓reduceIte,Nat.reduceLT,Nat.reduceAdd,Nat.reduceMul,Nat.reduceSub,Nat.reduceEqDiff,Nat.reduceLeDiff,Nat.reduceBEq,reduceCtorEq,Nat.succ_ne_zero,Bool.not_true,Bool.not_false,Bool.true_eq_false,Bool.false_eq_true,Bool.true_beq,Bool.false_beq,Int.reduceLT,Int.reduceLE,Int.reduceEq,Int.reduceNe,ne_eq,not_false_eq_true,not_true_eq_false,List.getElem?_cons_zero,List.getElem?_cons_succ,List.length_cons,List.length_nil,List.all_cons,List.all_nil,Bool.and_true,Bool.and_self,Bool.true_and,Bool.false_and,Bool.and_false,Bool.or_true,Bool.or_false,Bool.true_or,Bool.false_or,Bool.or_self,List.elem_cons,List.elem_nil,Nat.add_zero,Nat.zero_add,or_self,or_false,false_or,true_or,or_true,and_true,true_and,and_false,false_and,and_self,List.mem_cons,List.not_mem_nil,Nat.reducePow];rfl⟩
 rcases S with S | ⟨rfl,hG⟩
 ·obtain⟨fr2,p2,F2⟩:∃fr2,D.loop 0 5 174 l5_1 fr1 G=some (.exit 4,fr2,G)∧A5 fr2 ov i:=by
   have hlt:¬(((0:Nat):Int)<((0:Nat):Int)):=by omega
   rw[dl5_1]
   simp -implicitDefEqProofs (maxDischargeDepth:=4) only[go_sem,decide_true,decide_false,beq_self_eq_true,↓reduceIte,Nat.reduceLT,Nat.reduceAdd,Nat.reduceMul,Nat.reduceSub,Nat.reduceEqDiff,Nat.reduceLeDiff,Nat.reduceBEq,reduceCtorEq,Nat.succ_ne_zero,Bool.not_true,Bool.not_false,Bool.true_eq_false,Bool.false_eq_true,Bool.true_beq,Bool.false_beq,Int.reduceLT,Int.reduceLE,Int.reduceEq,Int.reduceNe,ne_eq,not_false_eq_true,not_true_eq_false,List.getElem?_cons_zero,List.getElem?_cons_succ,List.length_cons,List.length_nil,List.all_cons,List.all_nil,Bool.and_true,Bool.and_self,Bool.true_and,Bool.false_and,Bool.and_false,Bool.or_true,Bool.or_false,Bool.true_or,Bool.false_or,Bool.or_self,List.elem_cons,List.elem_nil,Nat.add_zero,Nat.zero_add,or_self,or_false,false_or,true_or,or_true,and_true,true_and,and_false,false_and,and_self,List.mem_cons,List.not_mem_nil,Nat.reducePow,elAt_eq,stV_eq,cellsB_cells,hp_get_r,hp_get_r0,hp_get_l,hp_set_r,hp_set_r0,hp_set_l,hp_one,hp_ne,List.drop_succ_cons,List.drop_zero,List.take_succ_cons,List.take_zero,k14,k16,S.shr,S.notOwn,alen_sl S,sl39,Option.isSome_some,List.length_nil,hlt]
   exact⟨_,rfl,F1.of fun t ht=>by rcases ht with rfl | rfl | rfl | rfl | rfl<;>simp -implicitDefEqProofs (maxDischargeDepth:=4) only[go_sem,decide_true,decide_false,beq_self_eq_true,↓reduceIte,Nat.reduceLT,Nat.reduceAdd,Nat.reduceMul,Nat.reduceSub,Nat.reduceEqDiff,Nat.reduceLeDiff,Nat.reduceBEq,reduceCtorEq,Nat.succ_ne_zero,Bool.not_true,Bool.not_false,Bool.true_eq_false,Bool.false_eq_true,Bool.true_beq,Bool.false_beq,Int.reduceLT,Int.reduceLE,Int.reduceEq,Int.reduceNe,ne_eq,not_false_eq_true,not_true_eq_false,List.getElem?_cons_zero,List.getElem?_cons_succ,List.length_cons,List.length_nil,List.all_cons,List.all_nil,Bool.and_true,Bool.and_self,Bool.true_and,Bool.false_and,Bool.and_false,Bool.or_true,Bool.or_false,Bool.true_or,Bool.false_or,Bool.or_self,List.elem_cons,List.elem_nil,Nat.add_zero,Nat.zero_add,or_self,or_false,false_or,true_or,or_true,and_true,true_and,and_false,false_and,and_self,List.mem_cons,List.not_mem_nil,Nat.reducePow]⟩
  exact⟨fr2,G,by rw[x_cont1 p1,x_block,x_loop,p2];rfl,F2,.inl rfl⟩
 ·obtain⟨fr2,x,p2,F2⟩:=up_loop (q:=q) (n:=xs.length) hx xs.length 0 fr1 G xs (Nat.sub_zero _) (Nat.zero_le _) rfl hG F1 k14 k16
  exact⟨fr2,_,by rw[x_cont1 p1,x_block,x_loop,p2];rfl,F2,.inr ⟨x,rfl,rfl⟩⟩
theorem dn_loop{s w:Nat}{d:List AV}(hw:w≠q)(hn:n≤1000)(hd:d[2]?=some (.sl q 1 0 n n)):∀(m j:Nat)(fr:PT)(G:Hp)(ys:List Int),n-j=m→j≤n→ys.length=n→G[q]?=some (.cells 1 2 (ys.map iv))→G[w]?=some (.cells 19 44 [.agg d])→A5 fr ov i→fr.get 17=iv s→fr.get 18=.ptr w 0 0→fr.get 20=iv j→
  ∃fr' x,D.loop 0 5 174 l5_2 fr G=some (.exit 8,fr',G.set q x)∧A5 fr' ov i∧fr'.get 17=iv s
 | 0,j,fr,G,ys,hm,hj,hy,hG,hW,F,f17,f18,f20=>by
  have hlt:¬((j:Int)<(n:Int)):=by omega
  have hs:=set_self hG
  obtain⟨fr1,p1,F1,k17⟩:∃fr1,D.loop 0 5 174 l5_2 fr G=some (.exit 8,fr1,G)∧A5 fr1 ov i∧fr1.get 17=iv s:=by
   rw[dl5_2]
   simp -implicitDefEqProofs (maxDischargeDepth:=4) only[go_sem,decide_true,decide_false,beq_self_eq_true,↓reduceIte,Nat.reduceLT,Nat.reduceAdd,Nat.reduceMul,Nat.reduceSub,Nat.reduceEqDiff,Nat.reduceLeDiff,Nat.reduceBEq,reduceCtorEq,Nat.succ_ne_zero,Bool.not_true,Bool.not_false,Bool.true_eq_false,Bool.false_eq_true,Bool.true_beq,Bool.false_beq,Int.reduceLT,Int.reduceLE,Int.reduceEq,Int.reduceNe,ne_eq,not_false_eq_true,not_true_eq_false,List.getElem?_cons_zero,List.getElem?_cons_succ,List.length_cons,List.length_nil,List.all_cons,List.all_nil,Bool.and_true,Bool.and_self,Bool.true_and,Bool.false_and,Bool.and_false,Bool.or_true,Bool.or_false,Bool.true_or,Bool.false_or,Bool.or_self,List.elem_cons,List.elem_nil,Nat.add_zero,Nat.zero_add,or_self,or_false,false_or,true_or,or_true,and_true,true_and,and_false,false_and,and_self,List.mem_cons,List.not_mem_nil,Nat.reducePow,elAt_eq,stV_eq,cellsB_cells,hp_get_r,hp_get_r0,hp_get_l,hp_set_r,hp_set_r0,hp_set_l,hp_one,hp_ne,List.drop_succ_cons,List.drop_zero,List.take_succ_cons,List.take_zero,f18,f20,hW,hd,sl39,hlt]
   exact⟨_,rfl,F.of fun t ht=>by rcases ht with rfl | rfl | rfl | rfl | rfl<;>simp -implicitDefEqProofs (maxDischargeDepth:=4) only[go_sem,decide_true,decide_false,beq_self_eq_true,↓reduceIte,Nat.reduceLT,Nat.reduceAdd,Nat.reduceMul,Nat.reduceSub,Nat.reduceEqDiff,Nat.reduceLeDiff,Nat.reduceBEq,reduceCtorEq,Nat.succ_ne_zero,Bool.not_true,Bool.not_false,Bool.true_eq_false,Bool.false_eq_true,Bool.true_beq,Bool.false_beq,Int.reduceLT,Int.reduceLE,Int.reduceEq,Int.reduceNe,ne_eq,not_false_eq_true,not_true_eq_false,List.getElem?_cons_zero,List.getElem?_cons_succ,List.length_cons,List.length_nil,List.all_cons,List.all_nil,Bool.and_true,Bool.and_self,Bool.true_and,Bool.false_and,Bool.and_false,Bool.or_true,Bool.or_false,Bool.true_or,Bool.false_or,Bool.or_self,List.elem_cons,List.elem_nil,Nat.add_zero,Nat.zero_add,or_self,or_false,false_or,true_or,or_true,and_true,true_and,and_false,false_and,and_self,List.mem_cons,List.not_mem_nil,Nat.reducePow],by simp -implicitDefEqProofs (maxDischargeDepth:=4) only[go_sem,decide_true,decide_false,beq_self_eq_true,↓reduceIte,Nat.reduceLT,Nat.reduceAdd,Nat.reduceMul,Nat.reduceSub,Nat.reduceEqDiff,Nat.reduceLeDiff,Nat.reduceBEq,reduceCtorEq,Nat.succ_ne_zero,Bool.not_true,Bool.not_false,Bool.true_eq_false,Bool.false_eq_true,Bool.true_beq,Bool.false_beq,Int.reduceLT,Int.reduceLE,Int.reduceEq,Int.reduceNe,ne_eq,not_false_eq_true,not_true_eq_false,List.getElem?_cons_zero,List.getElem?_cons_succ,List.length_cons,List.length_nil,List.all_cons,List.all_nil,Bool.and_true,Bool.and_self,Bool.true_and,Bool.false_and,Bool.and_false,Bool.or_true,Bool.or_false,Bool.true_or,Bool.false_or,Bool.or_self,List.elem_cons,List.elem_nil,Nat.add_zero,Nat.zero_add,or_self,or_false,false_or,true_or,or_true,and_true,true_and,and_false,false_and,and_self,List.mem_cons,List.not_mem_nil,Nat.reducePow,f17]⟩
  exact⟨fr1,_,by rw[hs];exact p1,F1,k17⟩
 | m+1,j,fr,G,ys,hm,hj,hy,hG,hW,F,f17,f18,f20=>by
  have hlt:(j:Int)<(n:Int):=by omega
  have w3:=wrap_s (i:=j) (by omega)
  obtain⟨y,hyj⟩:∃y,ys[j]?=some y:=⟨_,List.getElem?_eq_getElem (by omega)⟩
  have e1:aindexAddr cx.T 39 (.sl q 1 0 n n) (iv j)=some (.ptr q j 0):=by rw[aindexAddr_blk sl39 rfl (by omega),Nat.zero_add]
  have e2:(ys.map iv)[j]?=some (iv y):=by rw[List.getElem?_map,hyj];rfl
  have e3:=put_word hG e2 (wrapK .i64 (y-1))
  rw[show (ys.map iv).set j (iv (wrapK .i64 (y-1)))=(ys.set j (wrapK .i64 (y-1))).map iv from(List.map_set).symm]at e3
  obtain⟨fr1,p1,F1,k17,k18,k20⟩:∃fr1,ex cx D 0 5 174 bo5_2 fr G=some (.normal,fr1,G.set q (.cells 1 2 ((ys.set j (wrapK .i64 (y-1))).map iv)))∧A5 fr1 ov i∧fr1.get 17=iv s∧fr1.get 18=.ptr w 0 0∧fr1.get 20=iv (j+1:Nat):=by
   unfold bo5_2
   simp -implicitDefEqProofs (maxDischargeDepth:=4) only[go_sem,decide_true,decide_false,beq_self_eq_true,↓reduceIte,Nat.reduceLT,Nat.reduceAdd,Nat.reduceMul,Nat.reduceSub,Nat.reduceEqDiff,Nat.reduceLeDiff,Nat.reduceBEq,reduceCtorEq,Nat.succ_ne_zero,Bool.not_true,Bool.not_false,Bool.true_eq_false,Bool.false_eq_true,Bool.true_beq,Bool.false_beq,Int.reduceLT,Int.reduceLE,Int.reduceEq,Int.reduceNe,ne_eq,not_false_eq_true,not_true_eq_false,List.getElem?_cons_zero,List.getElem?_cons_succ,List.length_cons,List.length_nil,List.all_cons,List.all_nil,Bool.and_true,Bool.and_self,Bool.true_and,Bool.false_and,Bool.and_false,Bool.or_true,Bool.or_false,Bool.true_or,Bool.false_or,Bool.or_self,List.elem_cons,List.elem_nil,Nat.add_zero,Nat.zero_add,or_self,or_false,false_or,true_or,or_true,and_true,true_and,and_false,false_and,and_self,List.mem_cons,List.not_mem_nil,Nat.reducePow,elAt_eq,stV_eq,cellsB_cells,hp_get_r,hp_get_r0,hp_get_l,hp_set_r,hp_set_r0,hp_set_l,hp_one,hp_ne,List.drop_succ_cons,List.drop_zero,List.take_succ_cons,List.take_zero,f18,f20,hW,hd,sl39,hlt,e1,hG,e2,e3,w3]
   exact⟨_,rfl,F.of fun t ht=>by rcases ht with rfl | rfl | rfl | rfl | rfl<;>simp -implicitDefEqProofs (maxDischargeDepth:=4) only[go_sem,decide_true,decide_false,beq_self_eq_true,↓reduceIte,Nat.reduceLT,Nat.reduceAdd,Nat.reduceMul,Nat.reduceSub,Nat.reduceEqDiff,Nat.reduceLeDiff,Nat.reduceBEq,reduceCtorEq,Nat.succ_ne_zero,Bool.not_true,Bool.not_false,Bool.true_eq_false,Bool.false_eq_true,Bool.true_beq,Bool.false_beq,Int.reduceLT,Int.reduceLE,Int.reduceEq,Int.reduceNe,ne_eq,not_false_eq_true,not_true_eq_false,List.getElem?_cons_zero,List.getElem?_cons_succ,List.length_cons,List.length_nil,List.all_cons,List.all_nil,Bool.and_true,Bool.and_self,Bool.true_and,Bool.false_and,Bool.and_false,Bool.or_true,Bool.or_false,Bool.true_or,Bool.false_or,Bool.or_self,List.elem_cons,List.elem_nil,Nat.add_zero,Nat.zero_add,or_self,or_false,false_or,true_or,or_true,and_true,true_and,and_false,false_and,and_self,List.mem_cons,List.not_mem_nil,Nat.reducePow],by simp -implicitDefEqProofs (maxDischargeDepth:=4) only[go_sem,decide_true,decide_false,beq_self_eq_true,↓reduceIte,Nat.reduceLT,Nat.reduceAdd,Nat.reduceMul,Nat.reduceSub,Nat.reduceEqDiff,Nat.reduceLeDiff,Nat.reduceBEq,reduceCtorEq,Nat.succ_ne_zero,Bool.not_true,Bool.not_false,Bool.true_eq_false,Bool.false_eq_true,Bool.true_beq,Bool.false_beq,Int.reduceLT,Int.reduceLE,Int.reduceEq,Int.reduceNe,ne_eq,not_false_eq_true,not_true_eq_false,List.getElem?_cons_zero,List.getElem?_cons_succ,List.length_cons,List.length_nil,List.all_cons,List.all_nil,Bool.and_true,Bool.and_self,Bool.true_and,Bool.false_and,Bool.and_false,Bool.or_true,Bool.or_false,Bool.true_or,Bool.false_or,Bool.or_self,List.elem_cons,List.elem_nil,Nat.add_zero,Nat.zero_add,or_self,or_false,false_or,true_or,or_true,and_true,true_and,and_false,false_and,and_self,List.mem_cons,List.not_mem_nil,Nat.reducePow,f17],by simp -implicitDefEqProofs (maxDischargeDepth:=4) only[go_sem,decide_true,decide_false,beq_self_eq_true,↓reduceIte,Nat.reduceLT,Nat.reduceAdd,Nat.reduceMul,Nat.reduceSub,Nat.reduceEqDiff,Nat.reduceLeDiff,Nat.reduceBEq,reduceCtorEq,Nat.succ_ne_zero,Bool.not_true,Bool.not_false,Bool.true_eq_false,Bool.false_eq_true,Bool.true_beq,Bool.false_beq,Int.reduceLT,Int.reduceLE,Int.reduceEq,Int.reduceNe,ne_eq,not_false_eq_true,not_true_eq_false,List.getElem?_cons_zero,List.getElem?_cons_succ,List.length_cons,List.length_nil,List.all_cons,List.all_nil,Bool.and_true,Bool.and_self,Bool.true_and,Bool.false_and,Bool.and_false,Bool.or_true,Bool.or_false,Bool.true_or,Bool.false_or,Bool.or_self,List.elem_cons,List.elem_nil,Nat.add_zero,Nat.zero_add,or_self,or_false,false_or,true_or,or_true,and_true,true_and,and_false,false_and,and_self,List.mem_cons,List.not_mem_nil,Nat.reducePow,f18],by simp -implicitDefEqProofs (maxDischargeDepth:=4) only[go_sem,decide_true,decide_false,beq_self_eq_true,↓reduceIte,Nat.reduceLT,Nat.reduceAdd,Nat.reduceMul,Nat.reduceSub,Nat.reduceEqDiff,Nat.reduceLeDiff,Nat.reduceBEq,reduceCtorEq,Nat.succ_ne_zero,Bool.not_true,Bool.not_false,Bool.true_eq_false,Bool.false_eq_true,Bool.true_beq,Bool.false_beq,Int.reduceLT,Int.reduceLE,Int.reduceEq,Int.reduceNe,ne_eq,not_false_eq_true,not_true_eq_false,List.getElem?_cons_zero,List.getElem?_cons_succ,List.length_cons,List.length_nil,List.all_cons,List.all_nil,Bool.and_true,Bool.and_self,Bool.true_and,Bool.false_and,Bool.and_false,Bool.or_true,Bool.or_false,Bool.true_or,Bool.false_or,Bool.or_self,List.elem_cons,List.elem_nil,Nat.add_zero,Nat.zero_add,or_self,or_false,false_or,true_or,or_true,and_true,true_and,and_false,false_and,and_self,List.mem_cons,List.not_mem_nil,Nat.reducePow]⟩
  obtain⟨fr2,x,p2,F2,m17⟩:=dn_loop hw hn hd m (j+1) fr1 (G.set q (.cells 1 2 ((ys.set j (wrapK .i64 (y-1))).map iv))) (ys.set j (wrapK .i64 (y-1))) (by omega) (by omega) (by rw[List.length_set,hy]) (by rw[List.getElem?_set_self (lt_of_get hG)]) (by rw[List.getElem?_set_ne (Ne.symm hw),hW]) F1 k17 k18 k20
  refine⟨fr2,x,?_,F2,m17⟩
  rw[dl5_2,show ex cx (den cx) 0 5 174 bo5_2 fr G=_ from p1,xbind_some,contR_normal]
  rw[List.set_set]at p2
  exact p2
end
theorem hp_more{G L:Hp}{b:Nat}{x:ABlock}(h:G[b]?=some x):(G++L)[b]?=some x:=by rw[hp_get_l (lt_of_get h),h]
theorem same_at{H:Hp}{A B:List AV}{sv b:AV}{xs:List Int}(F1:FrB A sv)(F2:FrB B b)(S:StkAt H sv xs)(hb:Sl 1 b (xs.map iv))(hx:xs.length≤1000)(same:∀j,j≠2→A[j]?=B[j]?):xapply cx D 0 (.fn 47 []) [.agg A,.agg B] H=some (bv true,H):=by
 have shB:shut1 (.agg B)=true:=by
  show B.all shut0=true
  rw[List.all_eq_true]
  intro x hx
  obtain⟨j,hj⟩:=List.getElem?_of_mem hx
  by_cases h2:j=2
  ·subst h2;rw[F2.at2]at hj;cases hj;exact hb.shut0
  ·obtain⟨n,rfl⟩:=F2.num j x h2 hj;rfl
 have clB:cl2 (.agg B)=.agg B:=by
  show AV.agg (B.map Abs.cl0)=_
  rw[F2.map (fun _=>rfl) hb.cl0]
 have drA:drp (.agg A)=.agg A:=by
  show AV.agg (A.map Abs.shr)=_
  rw[F1.map (fun _=>rfl) S.shr]
 have drB:drp (.agg B)=.agg B:=by
  show AV.agg (B.map Abs.shr)=_
  rw[F2.map (fun _=>rfl) hb.shr]
 by_cases hs:shut1 (.agg A)=true
 ·have S':Sl 1 sv (xs.map iv):=by
   rcases S with S | ⟨_,c,rfl,_⟩
   ·exact S
   ·have:A.all shut0=true:=hs
    rw[List.all_eq_true]at this
    have:=this _ (List.mem_of_getElem? F1.at2)
    cases this
  have clA:cl2 (.agg A)=.agg A:=by
   show AV.agg (A.map Abs.cl0)=_
   rw[F1.map (fun _=>rfl) S'.cl0]
  obtain⟨L,hL⟩:=same_call (ro:=0) (H:=[]) (Nat.zero_le _) F1 F2 (.inl S') hb hx same
  rw[xapply_pure pu47 (by simp[hs,shB])]
  rw[pcall_eq (v:=bv true) (H':=[]++L) (by rw[List.map_cons,List.map_cons,List.map_nil,clA,clB];exact hL)]
  rfl
 ·have hs':[AV.agg A,AV.agg B].all shut1=false:=by simp[hs]
  obtain⟨L,hL⟩:=same_call (ro:=H.length) (H:=H) (Nat.le_refl _) F1 F2 S hb hx same
  rw[xapply_look pu47 hs',List.map_cons,List.map_cons,List.map_nil,drA,drB,hL]
  rfl
noncomputable abbrev bo5_3:Code:=(.seq (.seq (.region 31 g5_30 false) (.cond (.tmp 137) .skip (.exit 6))) (.seq (.block 7 (.seq (.region 33 g5_31 false) (.seq (.seq (.region 34 g5_32 true) (.cond (.tmp 155) (.seq (.region 35 g5_33 false) .ret) .skip)) (.seq (.region 36 g5_34 false) (.block 8 (.loop l5_2)))))) (.region 32 g5_38 false)))
section
variable {ov:AV} {i:Nat} {fa:List AV} {sl HV:List (List AV)}
theorem see_one{G:Hp}{s:Nat}(A:ASt G (fun _=>True) fa sl HV)(hF:Full G (fun _=>True) sl HV 5)(hs:s<5){fr:PT}(F:A5 fr ov i)(f17:fr.get 17=iv s):
  ∃fr' G',ex cx D 0 5 174 bo5_3 fr G=some (.normal,fr',G')∧A5 fr' ov i∧fr'.get 17=iv (s+1:Nat)∧ASt G' (fun _=>True) fa sl HV∧Full G' (fun _=>True) sl HV 5:=by
 obtain⟨d,e,hd,he,hS⟩:=hF s hs
 obtain⟨sv,w,xs,Fd,Fe,S,Sw,hx,same,hU⟩:=hS.ex
 obtain⟨e',e9⟩:∃e',e.map Abs.shr=e':=⟨_,rfl⟩
 rw[e9]at Fe same
 obtain⟨L,sv',key,Fr⟩:=get_on (ro:=0) A.T (Nat.zero_le _) (by rw[A.l5];decide) Fd S (by omega) hd
 obtain⟨G1,hG1⟩:∃G1,G++L=G1:=⟨_,rfl⟩
 obtain⟨p,hp⟩:∃p,G1.length=p:=⟨_,rfl⟩
 have A1:ASt G1 (fun _=>True) fa sl HV:=hG1 ▸ A.grow
 have St:=Fr.st
 rw[hG1]at key St
 have Fd':=Fd.set sv'
 have e6:=Fd'.len
 have e7:(d.set 2 sv').map Abs.shr=d.set 2 sv':=Fd'.map (fun _=>rfl) St.shr
 have e8:=Fd'.take
 obtain⟨fr1,p1,F1,m17⟩:∃fr1,ex cx D 0 5 174 (.seq (.region 31 g5_30 false) (.cond (.tmp 137) .skip (.exit 6))) fr G=some (.normal,fr1,G)∧A5 fr1 ov i∧fr1.get 17=iv s:=by
  have hlt:(s:Int)<5:=by omega
  simp -implicitDefEqProofs (maxDischargeDepth:=4) only[go_sem,decide_true,decide_false,beq_self_eq_true,↓reduceIte,Nat.reduceLT,Nat.reduceAdd,Nat.reduceMul,Nat.reduceSub,Nat.reduceEqDiff,Nat.reduceLeDiff,Nat.reduceBEq,reduceCtorEq,Nat.succ_ne_zero,Bool.not_true,Bool.not_false,Bool.true_eq_false,Bool.false_eq_true,Bool.true_beq,Bool.false_beq,Int.reduceLT,Int.reduceLE,Int.reduceEq,Int.reduceNe,ne_eq,not_false_eq_true,not_true_eq_false,List.getElem?_cons_zero,List.getElem?_cons_succ,List.length_cons,List.length_nil,List.all_cons,List.all_nil,Bool.and_true,Bool.and_self,Bool.true_and,Bool.false_and,Bool.and_false,Bool.or_true,Bool.or_false,Bool.true_or,Bool.false_or,Bool.or_self,List.elem_cons,List.elem_nil,Nat.add_zero,Nat.zero_add,or_self,or_false,false_or,true_or,or_true,and_true,true_and,and_false,false_and,and_self,List.mem_cons,List.not_mem_nil,Nat.reducePow,elAt_eq,stV_eq,cellsB_cells,hp_get_r,hp_get_r0,hp_get_l,hp_set_r,hp_set_r0,hp_set_l,hp_one,hp_ne,List.drop_succ_cons,List.drop_zero,List.take_succ_cons,List.take_zero,f17,hlt]
  exact⟨_,rfl,F.of fun t ht=>by rcases ht with rfl | rfl | rfl | rfl | rfl<;>simp -implicitDefEqProofs (maxDischargeDepth:=4) only[go_sem,decide_true,decide_false,beq_self_eq_true,↓reduceIte,Nat.reduceLT,Nat.reduceAdd,Nat.reduceMul,Nat.reduceSub,Nat.reduceEqDiff,Nat.reduceLeDiff,Nat.reduceBEq,reduceCtorEq,Nat.succ_ne_zero,Bool.not_true,Bool.not_false,Bool.true_eq_false,Bool.false_eq_true,Bool.true_beq,Bool.false_beq,Int.reduceLT,Int.reduceLE,Int.reduceEq,Int.reduceNe,ne_eq,not_false_eq_true,not_true_eq_false,List.getElem?_cons_zero,List.getElem?_cons_succ,List.length_cons,List.length_nil,List.all_cons,List.all_nil,Bool.and_true,Bool.and_self,Bool.true_and,Bool.false_and,Bool.and_false,Bool.or_true,Bool.or_false,Bool.true_or,Bool.false_or,Bool.or_self,List.elem_cons,List.elem_nil,Nat.add_zero,Nat.zero_add,or_self,or_false,false_or,true_or,or_true,and_true,true_and,and_false,false_and,and_self,List.mem_cons,List.not_mem_nil,Nat.reducePow],by simp -implicitDefEqProofs (maxDischargeDepth:=4) only[go_sem,decide_true,decide_false,beq_self_eq_true,↓reduceIte,Nat.reduceLT,Nat.reduceAdd,Nat.reduceMul,Nat.reduceSub,Nat.reduceEqDiff,Nat.reduceLeDiff,Nat.reduceBEq,reduceCtorEq,Nat.succ_ne_zero,Bool.not_true,Bool.not_false,Bool.true_eq_false,Bool.false_eq_true,Bool.true_beq,Bool.false_beq,Int.reduceLT,Int.reduceLE,Int.reduceEq,Int.reduceNe,ne_eq,not_false_eq_true,not_true_eq_false,List.getElem?_cons_zero,List.getElem?_cons_succ,List.length_cons,List.length_nil,List.all_cons,List.all_nil,Bool.and_true,Bool.and_self,Bool.true_and,Bool.false_and,Bool.and_false,Bool.or_true,Bool.or_false,Bool.true_or,Bool.false_or,Bool.or_self,List.elem_cons,List.elem_nil,Nat.add_zero,Nat.zero_add,or_self,or_false,false_or,true_or,or_true,and_true,true_and,and_false,false_and,and_self,List.mem_cons,List.not_mem_nil,Nat.reducePow,f17]⟩
 obtain⟨fr2,p2,F2,k17,k18,k19⟩:∃fr2,ex cx D 0 5 174 (.region 33 g5_31 false) fr1 G=some (.normal,fr2,G1++[.cells 19 44 [.agg (d.set 2 sv')]])∧A5 fr2 ov i∧fr2.get 17=iv s∧fr2.get 18=.ptr p 0 0∧fr2.get 19=bv true:=by
  simp -implicitDefEqProofs (maxDischargeDepth:=4) only[go_sem,decide_true,decide_false,beq_self_eq_true,↓reduceIte,Nat.reduceLT,Nat.reduceAdd,Nat.reduceMul,Nat.reduceSub,Nat.reduceEqDiff,Nat.reduceLeDiff,Nat.reduceBEq,reduceCtorEq,Nat.succ_ne_zero,Bool.not_true,Bool.not_false,Bool.true_eq_false,Bool.false_eq_true,Bool.true_beq,Bool.false_beq,Int.reduceLT,Int.reduceLE,Int.reduceEq,Int.reduceNe,ne_eq,not_false_eq_true,not_true_eq_false,List.getElem?_cons_zero,List.getElem?_cons_succ,List.length_cons,List.length_nil,List.all_cons,List.all_nil,Bool.and_true,Bool.and_self,Bool.true_and,Bool.false_and,Bool.and_false,Bool.or_true,Bool.or_false,Bool.true_or,Bool.false_or,Bool.or_self,List.elem_cons,List.elem_nil,Nat.add_zero,Nat.zero_add,or_self,or_false,false_or,true_or,or_true,and_true,true_and,and_false,false_and,and_self,List.mem_cons,List.not_mem_nil,Nat.reducePow,elAt_eq,stV_eq,cellsB_cells,hp_get_r,hp_get_r0,hp_get_l,hp_set_r,hp_set_r0,hp_set_l,hp_one,hp_ne,List.drop_succ_cons,List.drop_zero,List.take_succ_cons,List.take_zero,F1.f5,m17,den_call_eq,key,hp,e6,e7,e8,Nat.zero_le,Nat.not_lt_zero]
  exact⟨_,rfl,F1.of fun t ht=>by rcases ht with rfl | rfl | rfl | rfl | rfl<;>simp -implicitDefEqProofs (maxDischargeDepth:=4) only[go_sem,decide_true,decide_false,beq_self_eq_true,↓reduceIte,Nat.reduceLT,Nat.reduceAdd,Nat.reduceMul,Nat.reduceSub,Nat.reduceEqDiff,Nat.reduceLeDiff,Nat.reduceBEq,reduceCtorEq,Nat.succ_ne_zero,Bool.not_true,Bool.not_false,Bool.true_eq_false,Bool.false_eq_true,Bool.true_beq,Bool.false_beq,Int.reduceLT,Int.reduceLE,Int.reduceEq,Int.reduceNe,ne_eq,not_false_eq_true,not_true_eq_false,List.getElem?_cons_zero,List.getElem?_cons_succ,List.length_cons,List.length_nil,List.all_cons,List.all_nil,Bool.and_true,Bool.and_self,Bool.true_and,Bool.false_and,Bool.and_false,Bool.or_true,Bool.or_false,Bool.true_or,Bool.false_or,Bool.or_self,List.elem_cons,List.elem_nil,Nat.add_zero,Nat.zero_add,or_self,or_false,false_or,true_or,or_true,and_true,true_and,and_false,false_and,and_self,List.mem_cons,List.not_mem_nil,Nat.reducePow],by simp -implicitDefEqProofs (maxDischargeDepth:=4) only[go_sem,decide_true,decide_false,beq_self_eq_true,↓reduceIte,Nat.reduceLT,Nat.reduceAdd,Nat.reduceMul,Nat.reduceSub,Nat.reduceEqDiff,Nat.reduceLeDiff,Nat.reduceBEq,reduceCtorEq,Nat.succ_ne_zero,Bool.not_true,Bool.not_false,Bool.true_eq_false,Bool.false_eq_true,Bool.true_beq,Bool.false_beq,Int.reduceLT,Int.reduceLE,Int.reduceEq,Int.reduceNe,ne_eq,not_false_eq_true,not_true_eq_false,List.getElem?_cons_zero,List.getElem?_cons_succ,List.length_cons,List.length_nil,List.all_cons,List.all_nil,Bool.and_true,Bool.and_self,Bool.true_and,Bool.false_and,Bool.and_false,Bool.or_true,Bool.or_false,Bool.true_or,Bool.false_or,Bool.or_self,List.elem_cons,List.elem_nil,Nat.add_zero,Nat.zero_add,or_self,or_false,false_or,true_or,or_true,and_true,true_and,and_false,false_and,and_self,List.mem_cons,List.not_mem_nil,Nat.reducePow,m17],by simp -implicitDefEqProofs (maxDischargeDepth:=4) only[go_sem,decide_true,decide_false,beq_self_eq_true,↓reduceIte,Nat.reduceLT,Nat.reduceAdd,Nat.reduceMul,Nat.reduceSub,Nat.reduceEqDiff,Nat.reduceLeDiff,Nat.reduceBEq,reduceCtorEq,Nat.succ_ne_zero,Bool.not_true,Bool.not_false,Bool.true_eq_false,Bool.false_eq_true,Bool.true_beq,Bool.false_beq,Int.reduceLT,Int.reduceLE,Int.reduceEq,Int.reduceNe,ne_eq,not_false_eq_true,not_true_eq_false,List.getElem?_cons_zero,List.getElem?_cons_succ,List.length_cons,List.length_nil,List.all_cons,List.all_nil,Bool.and_true,Bool.and_self,Bool.true_and,Bool.false_and,Bool.and_false,Bool.or_true,Bool.or_false,Bool.true_or,Bool.false_or,Bool.or_self,List.elem_cons,List.elem_nil,Nat.add_zero,Nat.zero_add,or_self,or_false,false_or,true_or,or_true,and_true,true_and,and_false,false_and,and_self,List.mem_cons,List.not_mem_nil,Nat.reducePow],by simp -implicitDefEqProofs (maxDischargeDepth:=4) only[go_sem,decide_true,decide_false,beq_self_eq_true,↓reduceIte,Nat.reduceLT,Nat.reduceAdd,Nat.reduceMul,Nat.reduceSub,Nat.reduceEqDiff,Nat.reduceLeDiff,Nat.reduceBEq,reduceCtorEq,Nat.succ_ne_zero,Bool.not_true,Bool.not_false,Bool.true_eq_false,Bool.false_eq_true,Bool.true_beq,Bool.false_beq,Int.reduceLT,Int.reduceLE,Int.reduceEq,Int.reduceNe,ne_eq,not_false_eq_true,not_true_eq_false,List.getElem?_cons_zero,List.getElem?_cons_succ,List.length_cons,List.length_nil,List.all_cons,List.all_nil,Bool.and_true,Bool.and_self,Bool.true_and,Bool.false_and,Bool.and_false,Bool.or_true,Bool.or_false,Bool.true_or,Bool.false_or,Bool.or_self,List.elem_cons,List.elem_nil,Nat.add_zero,Nat.zero_add,or_self,or_false,false_or,true_or,or_true,and_true,true_and,and_false,false_and,and_self,List.mem_cons,List.not_mem_nil,Nat.reducePow]⟩
 have hF1:Full G1 (fun b=>b<G.length) sl HV 5:=by
  have:=(hF.mono (V:=fun b=>b<G.length) fun b hb _=>hb).grow (L:=L)
  rw[hG1]at this
  exact this
 have S2:StkAt (G1++[.cells 19 44 [.agg (d.set 2 sv')]]) sv' xs:=St.grow
 have hq:=same_at Fd' Fe S2 Sw (by omega) (fun j hj=>by rw[List.getElem?_set_ne (Ne.symm hj)];exact same j hj)
 have h3:∀M:Hp,(G1++M)[3]?=some (.cells 95 51 [.agg HV.flatten]):=fun M=>hp_more A1.h3
 have hfl:HV.flatten.length=95:=by rw[flat_len A.hl,A.k5]
 have hat:=flat_at A.hl he
 have hidx:aindexAddr cx.T 51 (.ptr 3 0 0) (iv s)=some (.ptr 3 0 (s*19)):=by
  rw[aindexAddr_arr (n:=s) (k:=.i64) ar51 (.ptr 3 0 0),if_pos hs]
  show some (AV.ptr 3 0 (0+s*19))=_
  rw[Nat.zero_add]
 have hle:s*19+19≤95:=by omega
 have hW:(G1++[ABlock.cells 19 44 [.agg (d.set 2 sv')]])[p]?=some (.cells 19 44 [.agg (d.set 2 sv')]):=by rw[hp_get_r0 hp];rfl
 obtain⟨G2,hG2⟩:∃G2,G1++[ABlock.cells 19 44 [.agg (d.set 2 sv')]]=G2:=⟨_,rfl⟩
 have h3':=h3 [ABlock.cells 19 44 [.agg (d.set 2 sv')]]
 rw[hG2]at p2 hq hW h3' S2
 obtain⟨fr3,p3,F3,j17,j18⟩:∃fr3,ex cx D 0 5 174 (.seq (.region 34 g5_32 true) (.cond (.tmp 155) (.seq (.region 35 g5_33 false) .ret) .skip)) fr2 G2=some (.normal,fr3,G2)∧A5 fr3 ov i∧fr3.get 17=iv s∧fr3.get 18=.ptr p 0 0:=by
  simp -implicitDefEqProofs (maxDischargeDepth:=4) only[go_sem,decide_true,decide_false,beq_self_eq_true,↓reduceIte,Nat.reduceLT,Nat.reduceAdd,Nat.reduceMul,Nat.reduceSub,Nat.reduceEqDiff,Nat.reduceLeDiff,Nat.reduceBEq,reduceCtorEq,Nat.succ_ne_zero,Bool.not_true,Bool.not_false,Bool.true_eq_false,Bool.false_eq_true,Bool.true_beq,Bool.false_beq,Int.reduceLT,Int.reduceLE,Int.reduceEq,Int.reduceNe,ne_eq,not_false_eq_true,not_true_eq_false,List.getElem?_cons_zero,List.getElem?_cons_succ,List.length_cons,List.length_nil,List.all_cons,List.all_nil,Bool.and_true,Bool.and_self,Bool.true_and,Bool.false_and,Bool.and_false,Bool.or_true,Bool.or_false,Bool.true_or,Bool.false_or,Bool.or_self,List.elem_cons,List.elem_nil,Nat.add_zero,Nat.zero_add,or_self,or_false,false_or,true_or,or_true,and_true,true_and,and_false,false_and,and_self,List.mem_cons,List.not_mem_nil,Nat.reducePow,elAt_eq,stV_eq,cellsB_cells,hp_get_r,hp_get_r0,hp_get_l,hp_set_r,hp_set_r0,hp_set_l,hp_one,hp_ne,List.drop_succ_cons,List.drop_zero,List.take_succ_cons,List.take_zero,F2.f6,k17,k18,k19,hW,h3',hidx,hfl,hle,hat,e6,e7,e8,e9,hq,u_not,nbeq,Nat.zero_le,Nat.le_refl,Nat.not_lt_zero]
  exact⟨_,rfl,F2.of fun t ht=>by rcases ht with rfl | rfl | rfl | rfl | rfl<;>simp -implicitDefEqProofs (maxDischargeDepth:=4) only[go_sem,decide_true,decide_false,beq_self_eq_true,↓reduceIte,Nat.reduceLT,Nat.reduceAdd,Nat.reduceMul,Nat.reduceSub,Nat.reduceEqDiff,Nat.reduceLeDiff,Nat.reduceBEq,reduceCtorEq,Nat.succ_ne_zero,Bool.not_true,Bool.not_false,Bool.true_eq_false,Bool.false_eq_true,Bool.true_beq,Bool.false_beq,Int.reduceLT,Int.reduceLE,Int.reduceEq,Int.reduceNe,ne_eq,not_false_eq_true,not_true_eq_false,List.getElem?_cons_zero,List.getElem?_cons_succ,List.length_cons,List.length_nil,List.all_cons,List.all_nil,Bool.and_true,Bool.and_self,Bool.true_and,Bool.false_and,Bool.and_false,Bool.or_true,Bool.or_false,Bool.true_or,Bool.false_or,Bool.or_self,List.elem_cons,List.elem_nil,Nat.add_zero,Nat.zero_add,or_self,or_false,false_or,true_or,or_true,and_true,true_and,and_false,false_and,and_self,List.mem_cons,List.not_mem_nil,Nat.reducePow],by simp -implicitDefEqProofs (maxDischargeDepth:=4) only[go_sem,decide_true,decide_false,beq_self_eq_true,↓reduceIte,Nat.reduceLT,Nat.reduceAdd,Nat.reduceMul,Nat.reduceSub,Nat.reduceEqDiff,Nat.reduceLeDiff,Nat.reduceBEq,reduceCtorEq,Nat.succ_ne_zero,Bool.not_true,Bool.not_false,Bool.true_eq_false,Bool.false_eq_true,Bool.true_beq,Bool.false_beq,Int.reduceLT,Int.reduceLE,Int.reduceEq,Int.reduceNe,ne_eq,not_false_eq_true,not_true_eq_false,List.getElem?_cons_zero,List.getElem?_cons_succ,List.length_cons,List.length_nil,List.all_cons,List.all_nil,Bool.and_true,Bool.and_self,Bool.true_and,Bool.false_and,Bool.and_false,Bool.or_true,Bool.or_false,Bool.true_or,Bool.false_or,Bool.or_self,List.elem_cons,List.elem_nil,Nat.add_zero,Nat.zero_add,or_self,or_false,false_or,true_or,or_true,and_true,true_and,and_false,false_and,and_self,List.mem_cons,List.not_mem_nil,Nat.reducePow,k17],by simp -implicitDefEqProofs (maxDischargeDepth:=4) only[go_sem,decide_true,decide_false,beq_self_eq_true,↓reduceIte,Nat.reduceLT,Nat.reduceAdd,Nat.reduceMul,Nat.reduceSub,Nat.reduceEqDiff,Nat.reduceLeDiff,Nat.reduceBEq,reduceCtorEq,Nat.succ_ne_zero,Bool.not_true,Bool.not_false,Bool.true_eq_false,Bool.false_eq_true,Bool.true_beq,Bool.false_beq,Int.reduceLT,Int.reduceLE,Int.reduceEq,Int.reduceNe,ne_eq,not_false_eq_true,not_true_eq_false,List.getElem?_cons_zero,List.getElem?_cons_succ,List.length_cons,List.length_nil,List.all_cons,List.all_nil,Bool.and_true,Bool.and_self,Bool.true_and,Bool.false_and,Bool.and_false,Bool.or_true,Bool.or_false,Bool.true_or,Bool.false_or,Bool.or_self,List.elem_cons,List.elem_nil,Nat.add_zero,Nat.zero_add,or_self,or_false,false_or,true_or,or_true,and_true,true_and,and_false,false_and,and_self,List.mem_cons,List.not_mem_nil,Nat.reducePow,k18]⟩
 obtain⟨fr4,p4,F4,i17,i18,i20⟩:∃fr4,ex cx D 0 5 174 (.region 36 g5_34 false) fr3 G2=some (.normal,fr4,G2)∧A5 fr4 ov i∧fr4.get 17=iv s∧fr4.get 18=.ptr p 0 0∧fr4.get 20=iv (0:Nat):=by
  simp -implicitDefEqProofs (maxDischargeDepth:=4) only[go_sem,decide_true,decide_false,beq_self_eq_true,↓reduceIte,Nat.reduceLT,Nat.reduceAdd,Nat.reduceMul,Nat.reduceSub,Nat.reduceEqDiff,Nat.reduceLeDiff,Nat.reduceBEq,reduceCtorEq,Nat.succ_ne_zero,Bool.not_true,Bool.not_false,Bool.true_eq_false,Bool.false_eq_true,Bool.true_beq,Bool.false_beq,Int.reduceLT,Int.reduceLE,Int.reduceEq,Int.reduceNe,ne_eq,not_false_eq_true,not_true_eq_false,List.getElem?_cons_zero,List.getElem?_cons_succ,List.length_cons,List.length_nil,List.all_cons,List.all_nil,Bool.and_true,Bool.and_self,Bool.true_and,Bool.false_and,Bool.and_false,Bool.or_true,Bool.or_false,Bool.true_or,Bool.false_or,Bool.or_self,List.elem_cons,List.elem_nil,Nat.add_zero,Nat.zero_add,or_self,or_false,false_or,true_or,or_true,and_true,true_and,and_false,false_and,and_self,List.mem_cons,List.not_mem_nil,Nat.reducePow]
  exact⟨_,rfl,F3.of fun t ht=>by rcases ht with rfl | rfl | rfl | rfl | rfl<;>simp -implicitDefEqProofs (maxDischargeDepth:=4) only[go_sem,decide_true,decide_false,beq_self_eq_true,↓reduceIte,Nat.reduceLT,Nat.reduceAdd,Nat.reduceMul,Nat.reduceSub,Nat.reduceEqDiff,Nat.reduceLeDiff,Nat.reduceBEq,reduceCtorEq,Nat.succ_ne_zero,Bool.not_true,Bool.not_false,Bool.true_eq_false,Bool.false_eq_true,Bool.true_beq,Bool.false_beq,Int.reduceLT,Int.reduceLE,Int.reduceEq,Int.reduceNe,ne_eq,not_false_eq_true,not_true_eq_false,List.getElem?_cons_zero,List.getElem?_cons_succ,List.length_cons,List.length_nil,List.all_cons,List.all_nil,Bool.and_true,Bool.and_self,Bool.true_and,Bool.false_and,Bool.and_false,Bool.or_true,Bool.or_false,Bool.true_or,Bool.false_or,Bool.or_self,List.elem_cons,List.elem_nil,Nat.add_zero,Nat.zero_add,or_self,or_false,false_or,true_or,or_true,and_true,true_and,and_false,false_and,and_self,List.mem_cons,List.not_mem_nil,Nat.reducePow],by simp -implicitDefEqProofs (maxDischargeDepth:=4) only[go_sem,decide_true,decide_false,beq_self_eq_true,↓reduceIte,Nat.reduceLT,Nat.reduceAdd,Nat.reduceMul,Nat.reduceSub,Nat.reduceEqDiff,Nat.reduceLeDiff,Nat.reduceBEq,reduceCtorEq,Nat.succ_ne_zero,Bool.not_true,Bool.not_false,Bool.true_eq_false,Bool.false_eq_true,Bool.true_beq,Bool.false_beq,Int.reduceLT,Int.reduceLE,Int.reduceEq,Int.reduceNe,ne_eq,not_false_eq_true,not_true_eq_false,List.getElem?_cons_zero,List.getElem?_cons_succ,List.length_cons,List.length_nil,List.all_cons,List.all_nil,Bool.and_true,Bool.and_self,Bool.true_and,Bool.false_and,Bool.and_false,Bool.or_true,Bool.or_false,Bool.true_or,Bool.false_or,Bool.or_self,List.elem_cons,List.elem_nil,Nat.add_zero,Nat.zero_add,or_self,or_false,false_or,true_or,or_true,and_true,true_and,and_false,false_and,and_self,List.mem_cons,List.not_mem_nil,Nat.reducePow,j17],by simp -implicitDefEqProofs (maxDischargeDepth:=4) only[go_sem,decide_true,decide_false,beq_self_eq_true,↓reduceIte,Nat.reduceLT,Nat.reduceAdd,Nat.reduceMul,Nat.reduceSub,Nat.reduceEqDiff,Nat.reduceLeDiff,Nat.reduceBEq,reduceCtorEq,Nat.succ_ne_zero,Bool.not_true,Bool.not_false,Bool.true_eq_false,Bool.false_eq_true,Bool.true_beq,Bool.false_beq,Int.reduceLT,Int.reduceLE,Int.reduceEq,Int.reduceNe,ne_eq,not_false_eq_true,not_true_eq_false,List.getElem?_cons_zero,List.getElem?_cons_succ,List.length_cons,List.length_nil,List.all_cons,List.all_nil,Bool.and_true,Bool.and_self,Bool.true_and,Bool.false_and,Bool.and_false,Bool.or_true,Bool.or_false,Bool.true_or,Bool.false_or,Bool.or_self,List.elem_cons,List.elem_nil,Nat.add_zero,Nat.zero_add,or_self,or_false,false_or,true_or,or_true,and_true,true_and,and_false,false_and,and_self,List.mem_cons,List.not_mem_nil,Nat.reducePow,j18],by simp -implicitDefEqProofs (maxDischargeDepth:=4) only[go_sem,decide_true,decide_false,beq_self_eq_true,↓reduceIte,Nat.reduceLT,Nat.reduceAdd,Nat.reduceMul,Nat.reduceSub,Nat.reduceEqDiff,Nat.reduceLeDiff,Nat.reduceBEq,reduceCtorEq,Nat.succ_ne_zero,Bool.not_true,Bool.not_false,Bool.true_eq_false,Bool.false_eq_true,Bool.true_beq,Bool.false_beq,Int.reduceLT,Int.reduceLE,Int.reduceEq,Int.reduceNe,ne_eq,not_false_eq_true,not_true_eq_false,List.getElem?_cons_zero,List.getElem?_cons_succ,List.length_cons,List.length_nil,List.all_cons,List.all_nil,Bool.and_true,Bool.and_self,Bool.true_and,Bool.false_and,Bool.and_false,Bool.or_true,Bool.or_false,Bool.true_or,Bool.false_or,Bool.or_self,List.elem_cons,List.elem_nil,Nat.add_zero,Nat.zero_add,or_self,or_false,false_or,true_or,or_true,and_true,true_and,and_false,false_and,and_self,List.mem_cons,List.not_mem_nil,Nat.reducePow];rfl⟩
 have A2:ASt G2 (fun _=>True) fa sl HV:=hG2 ▸ A1.grow
 have hF2:Full G2 (fun b=>b<G.length) sl HV 5:=hG2 ▸ hF1.grow
 have key5:∃fr5 G5,D.loop 0 5 174 l5_2 fr4 G2=some (.exit 8,fr5,G5)∧A5 fr5 ov i∧fr5.get 17=iv s∧ASt G5 (fun _=>True) fa sl HV∧Full G5 (fun _=>True) sl HV 5:=by
  rcases S2 with S2 | ⟨h0,q,hq1,hq2⟩
  ·by_cases h0:xs=[]
   ·subst h0
    have hlt:¬(((0:Nat):Int)<((0:Nat):Int)):=by omega
    have e2:=Fd'.at2
    rw[List.map_nil]at S2
    obtain⟨fr5,q1,q2,q3⟩:∃fr5,D.loop 0 5 174 l5_2 fr4 G2=some (.exit 8,fr5,G2)∧A5 fr5 ov i∧fr5.get 17=iv s:=by
     rw[dl5_2]
     simp -implicitDefEqProofs (maxDischargeDepth:=4) only[go_sem,decide_true,decide_false,beq_self_eq_true,↓reduceIte,Nat.reduceLT,Nat.reduceAdd,Nat.reduceMul,Nat.reduceSub,Nat.reduceEqDiff,Nat.reduceLeDiff,Nat.reduceBEq,reduceCtorEq,Nat.succ_ne_zero,Bool.not_true,Bool.not_false,Bool.true_eq_false,Bool.false_eq_true,Bool.true_beq,Bool.false_beq,Int.reduceLT,Int.reduceLE,Int.reduceEq,Int.reduceNe,ne_eq,not_false_eq_true,not_true_eq_false,List.getElem?_cons_zero,List.getElem?_cons_succ,List.length_cons,List.length_nil,List.all_cons,List.all_nil,Bool.and_true,Bool.and_self,Bool.true_and,Bool.false_and,Bool.and_false,Bool.or_true,Bool.or_false,Bool.true_or,Bool.false_or,Bool.or_self,List.elem_cons,List.elem_nil,Nat.add_zero,Nat.zero_add,or_self,or_false,false_or,true_or,or_true,and_true,true_and,and_false,false_and,and_self,List.mem_cons,List.not_mem_nil,Nat.reducePow,elAt_eq,stV_eq,cellsB_cells,hp_get_r,hp_get_r0,hp_get_l,hp_set_r,hp_set_r0,hp_set_l,hp_one,hp_ne,List.drop_succ_cons,List.drop_zero,List.take_succ_cons,List.take_zero,i18,i20,hW,e2,S2.shr,S2.notOwn,alen_sl S2,sl39,Option.isSome_some,List.length_nil,hlt]
     exact⟨_,rfl,F4.of fun t ht=>by rcases ht with rfl | rfl | rfl | rfl | rfl<;>simp -implicitDefEqProofs (maxDischargeDepth:=4) only[go_sem,decide_true,decide_false,beq_self_eq_true,↓reduceIte,Nat.reduceLT,Nat.reduceAdd,Nat.reduceMul,Nat.reduceSub,Nat.reduceEqDiff,Nat.reduceLeDiff,Nat.reduceBEq,reduceCtorEq,Nat.succ_ne_zero,Bool.not_true,Bool.not_false,Bool.true_eq_false,Bool.false_eq_true,Bool.true_beq,Bool.false_beq,Int.reduceLT,Int.reduceLE,Int.reduceEq,Int.reduceNe,ne_eq,not_false_eq_true,not_true_eq_false,List.getElem?_cons_zero,List.getElem?_cons_succ,List.length_cons,List.length_nil,List.all_cons,List.all_nil,Bool.and_true,Bool.and_self,Bool.true_and,Bool.false_and,Bool.and_false,Bool.or_true,Bool.or_false,Bool.true_or,Bool.false_or,Bool.or_self,List.elem_cons,List.elem_nil,Nat.add_zero,Nat.zero_add,or_self,or_false,false_or,true_or,or_true,and_true,true_and,and_false,false_and,and_self,List.mem_cons,List.not_mem_nil,Nat.reducePow],by simp -implicitDefEqProofs (maxDischargeDepth:=4) only[go_sem,decide_true,decide_false,beq_self_eq_true,↓reduceIte,Nat.reduceLT,Nat.reduceAdd,Nat.reduceMul,Nat.reduceSub,Nat.reduceEqDiff,Nat.reduceLeDiff,Nat.reduceBEq,reduceCtorEq,Nat.succ_ne_zero,Bool.not_true,Bool.not_false,Bool.true_eq_false,Bool.false_eq_true,Bool.true_beq,Bool.false_beq,Int.reduceLT,Int.reduceLE,Int.reduceEq,Int.reduceNe,ne_eq,not_false_eq_true,not_true_eq_false,List.getElem?_cons_zero,List.getElem?_cons_succ,List.length_cons,List.length_nil,List.all_cons,List.all_nil,Bool.and_true,Bool.and_self,Bool.true_and,Bool.false_and,Bool.and_false,Bool.or_true,Bool.or_false,Bool.true_or,Bool.false_or,Bool.or_self,List.elem_cons,List.elem_nil,Nat.add_zero,Nat.zero_add,or_self,or_false,false_or,true_or,or_true,and_true,true_and,and_false,false_and,and_self,List.mem_cons,List.not_mem_nil,Nat.reducePow,i17]⟩
    exact⟨fr5,G2,q1,q2,q3,A2,hF2.mono fun _ _ _=>trivial⟩
   ·obtain⟨b,s',i',n',c',hb⟩:=Fr.bl h0
    subst hb
    rcases S2 with h | h | ⟨h,_⟩<;>cases h
  ·subst hq1
   have hqG:=Fr.fr _ _ _ _ _ rfl
   have hG1l:G.length≤G1.length:=by rw[←hG1,List.length_append];omega
   have hqp:p≠q:=by
    intro e
    subst e
    rw[hW]at hq2
    cases hq2
   have h4:4≤G.length:=by have:=lt_of_get A.h3;omega
   obtain⟨fr5,x,q1,q2,q3⟩:=dn_loop (s:=s) hqp (n:=xs.length) (by omega) (Fd'.at2) xs.length 0 fr4 G2 xs (Nat.sub_zero _) (Nat.zero_le _) rfl hq2 hW F4 i17 i18 i20
   exact⟨fr5,_,q1,q2,q3,A2.put (by omega) x,(hF2.put (fun h=>by omega) x).mono fun _ _ _=>trivial⟩
 obtain⟨fr5,G5,p5,F5,l17,A5',hF5⟩:=key5
 obtain⟨fr6,p6,F6,n17⟩:∃fr6,ex cx D 0 5 174 (.region 32 g5_38 false) fr5 G5=some (.normal,fr6,G5)∧A5 fr6 ov i∧fr6.get 17=iv (s+1:Nat):=by
  have w3:=wrap_s (i:=s) (by omega)
  simp -implicitDefEqProofs (maxDischargeDepth:=4) only[go_sem,decide_true,decide_false,beq_self_eq_true,↓reduceIte,Nat.reduceLT,Nat.reduceAdd,Nat.reduceMul,Nat.reduceSub,Nat.reduceEqDiff,Nat.reduceLeDiff,Nat.reduceBEq,reduceCtorEq,Nat.succ_ne_zero,Bool.not_true,Bool.not_false,Bool.true_eq_false,Bool.false_eq_true,Bool.true_beq,Bool.false_beq,Int.reduceLT,Int.reduceLE,Int.reduceEq,Int.reduceNe,ne_eq,not_false_eq_true,not_true_eq_false,List.getElem?_cons_zero,List.getElem?_cons_succ,List.length_cons,List.length_nil,List.all_cons,List.all_nil,Bool.and_true,Bool.and_self,Bool.true_and,Bool.false_and,Bool.and_false,Bool.or_true,Bool.or_false,Bool.true_or,Bool.false_or,Bool.or_self,List.elem_cons,List.elem_nil,Nat.add_zero,Nat.zero_add,or_self,or_false,false_or,true_or,or_true,and_true,true_and,and_false,false_and,and_self,List.mem_cons,List.not_mem_nil,Nat.reducePow,l17,w3]
  exact⟨_,rfl,F5.of fun t ht=>by rcases ht with rfl | rfl | rfl | rfl | rfl<;>simp -implicitDefEqProofs (maxDischargeDepth:=4) only[go_sem,decide_true,decide_false,beq_self_eq_true,↓reduceIte,Nat.reduceLT,Nat.reduceAdd,Nat.reduceMul,Nat.reduceSub,Nat.reduceEqDiff,Nat.reduceLeDiff,Nat.reduceBEq,reduceCtorEq,Nat.succ_ne_zero,Bool.not_true,Bool.not_false,Bool.true_eq_false,Bool.false_eq_true,Bool.true_beq,Bool.false_beq,Int.reduceLT,Int.reduceLE,Int.reduceEq,Int.reduceNe,ne_eq,not_false_eq_true,not_true_eq_false,List.getElem?_cons_zero,List.getElem?_cons_succ,List.length_cons,List.length_nil,List.all_cons,List.all_nil,Bool.and_true,Bool.and_self,Bool.true_and,Bool.false_and,Bool.and_false,Bool.or_true,Bool.or_false,Bool.true_or,Bool.false_or,Bool.or_self,List.elem_cons,List.elem_nil,Nat.add_zero,Nat.zero_add,or_self,or_false,false_or,true_or,or_true,and_true,true_and,and_false,false_and,and_self,List.mem_cons,List.not_mem_nil,Nat.reducePow],by simp -implicitDefEqProofs (maxDischargeDepth:=4) only[go_sem,decide_true,decide_false,beq_self_eq_true,↓reduceIte,Nat.reduceLT,Nat.reduceAdd,Nat.reduceMul,Nat.reduceSub,Nat.reduceEqDiff,Nat.reduceLeDiff,Nat.reduceBEq,reduceCtorEq,Nat.succ_ne_zero,Bool.not_true,Bool.not_false,Bool.true_eq_false,Bool.false_eq_true,Bool.true_beq,Bool.false_beq,Int.reduceLT,Int.reduceLE,Int.reduceEq,Int.reduceNe,ne_eq,not_false_eq_true,not_true_eq_false,List.getElem?_cons_zero,List.getElem?_cons_succ,List.length_cons,List.length_nil,List.all_cons,List.all_nil,Bool.and_true,Bool.and_self,Bool.true_and,Bool.false_and,Bool.and_false,Bool.or_true,Bool.or_false,Bool.true_or,Bool.false_or,Bool.or_self,List.elem_cons,List.elem_nil,Nat.add_zero,Nat.zero_add,or_self,or_false,false_or,true_or,or_true,and_true,true_and,and_false,false_and,and_self,List.mem_cons,List.not_mem_nil,Nat.reducePow]⟩
 refine⟨fr6,G5,?_,F6,n17,A5',hF5⟩
 have eb:ex cx D 0 5 174 (.block 7 (.seq (.region 33 g5_31 false) (.seq (.seq (.region 34 g5_32 true) (.cond (.tmp 155) (.seq (.region 35 g5_33 false) .ret) .skip)) (.seq (.region 36 g5_34 false) (.block 8 (.loop l5_2)))))) fr1 G=some (.normal,fr5,G5):=by
  rw[x_block,x_cont1 p2,x_cont1 p3,x_cont1 p4,x_block,x_loop,p5];rfl
 unfold bo5_3
 rw[x_cont1 p1,x_cont1 eb,p6]
end
section
variable {ov:AV} {i:Nat} {fa:List AV} {sl HV:List (List AV)}
theorem see_all:∀(m s:Nat)(fr:PT)(G:Hp),5-s=m→s≤5→ASt G (fun _=>True) fa sl HV→Full G (fun _=>True) sl HV 5→A5 fr ov i→fr.get 17=iv s→
  ∃fr' G',D.loop 0 5 174 l5_3 fr G=some (.exit 6,fr',G')∧A5 fr' ov i∧ASt G' (fun _=>True) fa sl HV∧Full G' (fun _=>True) sl HV 5
 | 0,s,fr,G,hm,hs,A,hF,F,f17=>by
  have hlt:¬((s:Int)<5):=by omega
  obtain⟨fr1,p1,F1⟩:∃fr1,D.loop 0 5 174 l5_3 fr G=some (.exit 6,fr1,G)∧A5 fr1 ov i:=by
   rw[dl5_3]
   simp -implicitDefEqProofs (maxDischargeDepth:=4) only[go_sem,decide_true,decide_false,beq_self_eq_true,↓reduceIte,Nat.reduceLT,Nat.reduceAdd,Nat.reduceMul,Nat.reduceSub,Nat.reduceEqDiff,Nat.reduceLeDiff,Nat.reduceBEq,reduceCtorEq,Nat.succ_ne_zero,Bool.not_true,Bool.not_false,Bool.true_eq_false,Bool.false_eq_true,Bool.true_beq,Bool.false_beq,Int.reduceLT,Int.reduceLE,Int.reduceEq,Int.reduceNe,ne_eq,not_false_eq_true,not_true_eq_false,List.getElem?_cons_zero,List.getElem?_cons_succ,List.length_cons,List.length_nil,List.all_cons,List.all_nil,Bool.and_true,Bool.and_self,Bool.true_and,Bool.false_and,Bool.and_false,Bool.or_true,Bool.or_false,Bool.true_or,Bool.false_or,Bool.or_self,List.elem_cons,List.elem_nil,Nat.add_zero,Nat.zero_add,or_self,or_false,false_or,true_or,or_true,and_true,true_and,and_false,false_and,and_self,List.mem_cons,List.not_mem_nil,Nat.reducePow,elAt_eq,stV_eq,cellsB_cells,hp_get_r,hp_get_r0,hp_get_l,hp_set_r,hp_set_r0,hp_set_l,hp_one,hp_ne,List.drop_succ_cons,List.drop_zero,List.take_succ_cons,List.take_zero,f17,hlt]
   exact⟨_,rfl,F.of fun t ht=>by rcases ht with rfl | rfl | rfl | rfl | rfl<;>simp -implicitDefEqProofs (maxDischargeDepth:=4) only[go_sem,decide_true,decide_false,beq_self_eq_true,↓reduceIte,Nat.reduceLT,Nat.reduceAdd,Nat.reduceMul,Nat.reduceSub,Nat.reduceEqDiff,Nat.reduceLeDiff,Nat.reduceBEq,reduceCtorEq,Nat.succ_ne_zero,Bool.not_true,Bool.not_false,Bool.true_eq_false,Bool.false_eq_true,Bool.true_beq,Bool.false_beq,Int.reduceLT,Int.reduceLE,Int.reduceEq,Int.reduceNe,ne_eq,not_false_eq_true,not_true_eq_false,List.getElem?_cons_zero,List.getElem?_cons_succ,List.length_cons,List.length_nil,List.all_cons,List.all_nil,Bool.and_true,Bool.and_self,Bool.true_and,Bool.false_and,Bool.and_false,Bool.or_true,Bool.or_false,Bool.true_or,Bool.false_or,Bool.or_self,List.elem_cons,List.elem_nil,Nat.add_zero,Nat.zero_add,or_self,or_false,false_or,true_or,or_true,and_true,true_and,and_false,false_and,and_self,List.mem_cons,List.not_mem_nil,Nat.reducePow]⟩
  exact⟨fr1,G,p1,F1,A,hF⟩
 | m+1,s,fr,G,hm,hs,A,hF,F,f17=>by
  obtain⟨fr1,G1,p1,F1,k17,A1,hF1⟩:=see_one A hF (by omega) F f17
  obtain⟨fr2,G2,p2,F2,A2,hF2⟩:=see_all m (s+1) fr1 G1 (by omega) (by omega) A1 hF1 F1 k17
  refine⟨fr2,G2,?_,F2,A2,hF2⟩
  rw[dl5_3,show ex cx (den cx) 0 5 174 bo5_3 fr G=_ from p1,xbind_some,contR_normal]
  exact p2
end
def Fas(fa:List AV):Prop:=∀k,k<5→∃(v:AV)(xs:List Int),fa[k]?=some v∧Sl 1 v (xs.map iv)
abbrev u8V(n:Int):AV:=.lit (.int .u8 n)
def frmC(k i:Nat)(st:AV)(r:Nat):List AV:=[iv k,iv i,st,iv 0,iv 0,iv 0,iv 0,iv 0,iv 0,iv 0,iv 0,iv 0,iv 0,iv 0,iv 0,iv 0,iv 0,iv 0,iv 0].set (3+r) (iv i)
theorem frmC_ok{k i r:Nat}{st:AV}(hr:r<16):FrB (frmC k i st r) st:=by
 refine⟨by unfold frmC;rw[List.length_set];rfl,by unfold frmC;rw[List.getElem?_set_ne (by omega)];rfl,fun j x hj h=>?_⟩
 unfold frmC at h
 by_cases e:3+r=j
 ·subst e
  rw[List.getElem?_set_self (by show 3+r<19;omega)]at h
  cases h
  exact⟨_,rfl⟩
 ·rw[List.getElem?_set_ne e]at h
  match j,hj with
  | 0,_=>cases h;exact⟨_,rfl⟩
  | 1,_=>cases h;exact⟨_,rfl⟩
  | 2,hj=>exact absurd rfl hj
  | j+3,_ =>
   have hm:x∈List.replicate 16 (iv 0):=List.mem_of_getElem? (i:=j) h
   exact⟨0,List.eq_of_mem_replicate hm⟩
theorem build44f{k i:Int}{st:AV}(h:(∃q n,st=.sl q 1 0 n n)∨st=.vec 1 .exact []):abuild cx.T 44 [(0,iv k),(1,iv i),(2,st)]=some (.agg [iv k,iv i,st,iv 0,iv 0,iv 0,iv 0,iv 0,iv 0,iv 0,iv 0,iv 0,iv 0,iv 0,iv 0,iv 0,iv 0,iv 0,iv 0]):=by
 rcases h with⟨q,n,rfl⟩ | rfl<;>kernel_rfl
structure K5(fr:PT)(ov:AV)(i k:Nat)(st:AV):Prop extends A5 fr ov i where
 f13:fr.get 13=iv k
 f14:fr.get 14=st
section
variable {ov:AV} {i:Nat} {fa:List AV}
structure Stk(G G1:Hp)(st:AV)(xs:List Int):Prop where
 ex:(xs≠[]∧st=.sl G.length 1 0 xs.length xs.length∧G1=G++[.cells 1 2 (xs.map iv)])∨(xs=[]∧st=.vec 1 .exact []∧G1=G++[.res])
theorem st_copy{G:Hp}(g0:G[0]?=some (.cells 5 50 [.agg fa]))(hfa:Fas fa){os:List Int}(ho:Sl 1 ov (os.map u8V))(hob:∀b∈os,0≤b∧b≤255)(hi:i<os.length)(hi30:i<30){fr:PT}(F:A5 fr ov i):
  ∃fr' k st xs G1,ex cx D 0 5 174 (.seq (.region 18 g5_17 false) (.region 19 g5_18 true)) fr G=some (.normal,fr',G1)∧K5 fr' ov i k st∧k<5∧Stk G G1 st xs∧xs.length≤16:=by
 obtain⟨b,hb⟩:∃b,os[i]?=some b:=⟨_,List.getElem?_eq_getElem hi⟩
 have hbb:=hob b (List.mem_of_getElem? hb)
 obtain⟨n,hn⟩:∃n,G.length=n:=⟨_,rfl⟩
 have a1:aindexAddr cx.T 22 ov (iv i)=some (.vp (u8V b) 0):=by
  rw[aindexAddr_sl ho sl22 (by rw[List.length_map];exact hi) rfl,List.getD_eq_getElem?_getD,List.getElem?_map,hb];rfl
 have w1:wrapK .i64 b=b:=wrapK_i64 (by omega) (by omega)
 obtain⟨k,hk⟩:∃k:Nat,b.tmod 5=k:=⟨(b.tmod 5).toNat,by have:=Int.tmod_nonneg (a:=b) 5 hbb.1;omega⟩
 have hk5:k<5:=by have:=Int.tmod_lt_of_pos b (show (0:Int)<5 by omega);omega
 obtain⟨fr1,p1,F1,k13⟩:∃fr1,ex cx D 0 5 174 (.region 18 g5_17 false) fr G=some (.normal,fr1,G)∧A5 fr1 ov i∧fr1.get 13=iv k:=by
  simp -implicitDefEqProofs (maxDischargeDepth:=4) only[go_sem,decide_true,decide_false,beq_self_eq_true,↓reduceIte,Nat.reduceLT,Nat.reduceAdd,Nat.reduceMul,Nat.reduceSub,Nat.reduceEqDiff,Nat.reduceLeDiff,Nat.reduceBEq,reduceCtorEq,Nat.succ_ne_zero,Bool.not_true,Bool.not_false,Bool.true_eq_false,Bool.false_eq_true,Bool.true_beq,Bool.false_beq,Int.reduceLT,Int.reduceLE,Int.reduceEq,Int.reduceNe,ne_eq,not_false_eq_true,not_true_eq_false,List.getElem?_cons_zero,List.getElem?_cons_succ,List.length_cons,List.length_nil,List.all_cons,List.all_nil,Bool.and_true,Bool.and_self,Bool.true_and,Bool.false_and,Bool.and_false,Bool.or_true,Bool.or_false,Bool.true_or,Bool.false_or,Bool.or_self,List.elem_cons,List.elem_nil,Nat.add_zero,Nat.zero_add,or_self,or_false,false_or,true_or,or_true,and_true,true_and,and_false,false_and,and_self,List.mem_cons,List.not_mem_nil,Nat.reducePow,elAt_eq,stV_eq,cellsB_cells,hp_get_r,hp_get_r0,hp_get_l,hp_set_r,hp_set_r0,hp_set_l,hp_one,hp_ne,List.drop_succ_cons,List.drop_zero,List.take_succ_cons,List.take_zero,F.f1,F.f12,ho.shr,ho.notOwn,a1,w1,hk]
  exact⟨_,rfl,F.of fun t ht=>by rcases ht with rfl | rfl | rfl | rfl | rfl<;>simp -implicitDefEqProofs (maxDischargeDepth:=4) only[go_sem,decide_true,decide_false,beq_self_eq_true,↓reduceIte,Nat.reduceLT,Nat.reduceAdd,Nat.reduceMul,Nat.reduceSub,Nat.reduceEqDiff,Nat.reduceLeDiff,Nat.reduceBEq,reduceCtorEq,Nat.succ_ne_zero,Bool.not_true,Bool.not_false,Bool.true_eq_false,Bool.false_eq_true,Bool.true_beq,Bool.false_beq,Int.reduceLT,Int.reduceLE,Int.reduceEq,Int.reduceNe,ne_eq,not_false_eq_true,not_true_eq_false,List.getElem?_cons_zero,List.getElem?_cons_succ,List.length_cons,List.length_nil,List.all_cons,List.all_nil,Bool.and_true,Bool.and_self,Bool.true_and,Bool.false_and,Bool.and_false,Bool.or_true,Bool.or_false,Bool.true_or,Bool.false_or,Bool.or_self,List.elem_cons,List.elem_nil,Nat.add_zero,Nat.zero_add,or_self,or_false,false_or,true_or,or_true,and_true,true_and,and_false,false_and,and_self,List.mem_cons,List.not_mem_nil,Nat.reducePow],by simp -implicitDefEqProofs (maxDischargeDepth:=4) only[go_sem,decide_true,decide_false,beq_self_eq_true,↓reduceIte,Nat.reduceLT,Nat.reduceAdd,Nat.reduceMul,Nat.reduceSub,Nat.reduceEqDiff,Nat.reduceLeDiff,Nat.reduceBEq,reduceCtorEq,Nat.succ_ne_zero,Bool.not_true,Bool.not_false,Bool.true_eq_false,Bool.false_eq_true,Bool.true_beq,Bool.false_beq,Int.reduceLT,Int.reduceLE,Int.reduceEq,Int.reduceNe,ne_eq,not_false_eq_true,not_true_eq_false,List.getElem?_cons_zero,List.getElem?_cons_succ,List.length_cons,List.length_nil,List.all_cons,List.all_nil,Bool.and_true,Bool.and_self,Bool.true_and,Bool.false_and,Bool.and_false,Bool.or_true,Bool.or_false,Bool.true_or,Bool.false_or,Bool.or_self,List.elem_cons,List.elem_nil,Nat.add_zero,Nat.zero_add,or_self,or_false,false_or,true_or,or_true,and_true,true_and,and_false,false_and,and_self,List.mem_cons,List.not_mem_nil,Nat.reducePow]⟩
 have w2:wrapK .i64 ((k:Int)+(i:Int))=((k+i:Nat):Int):=by rw[wrapK_i64 (by omega) (by omega)];omega
 have w3:((k+i:Nat):Int).tmod 5=(((k+i) % 5:Nat):Int):=by rw[Int.tmod_eq_emod_of_nonneg (by omega)];omega
 have hlt5:(k+i) % 5<5:=Nat.mod_lt _ (by decide)
 obtain⟨v,xs,hv,Sv⟩:=hfa ((k+i) % 5) hlt5
 have a2:aindexAddr cx.T 50 (.ptr 0 0 0) (iv ((k+i) % 5:Nat))=some (.ptr 0 0 ((k+i) % 5)):=by
  rw[aindexAddr_arr (n:=(k+i) % 5) (k:=.i64) ar50 (.ptr 0 0 0),if_pos hlt5]
  show some (AV.ptr 0 0 (0+(k+i) % 5*1))=_
  rw[Nat.zero_add,Nat.mul_one]
 have hm:aminmax false [iv xs.length,iv 16]=some (iv ((min xs.length 16:Nat):Int)):=min_lit xs.length 16
 have g0':=fun M:Hp=>hp_more (L:=M) g0
 obtain⟨w,hw1,hw2⟩:=aslice_take (n:=min xs.length 16) Sv sl39 (by rw[List.length_map];omega)
 rw[←List.map_take]at hw2
 have hyl:(xs.take (min xs.length 16)).length≤16:=by rw[List.length_take];omega
 generalize xs.take (min xs.length 16)=ys at *
 have hB:=fun (L:Hp) (h0:ys≠[])=>apB39 (H:=L) (.inl hw2) (by omega) h0
 by_cases h0:ys=[]
 ·subst h0
  have hit:∀L:Hp,Abs.items 1 L w=some []:=fun L=>(show StkAt L w [] from .inl hw2).items
  have hN:∀L:Hp,aappendB cx.T 39 L (.vec 1 .exact []) w=none:=fun L=>apB39_none (hit L) (.inl rfl)
  have hap:apV 1 8 [] (.vec 1 .exact [])=some (.vec 1 .exact []):=rfl
  obtain⟨fr2,p2,F2,m13,m14⟩:∃fr2,ex cx D 0 5 174 (.region 19 g5_18 true) fr1 G=some (.normal,fr2,G++[.res])∧A5 fr2 ov i∧fr2.get 13=iv k∧fr2.get 14=.vec 1 .exact []:=by
   simp -implicitDefEqProofs (maxDischargeDepth:=4) only[go_sem,decide_true,decide_false,beq_self_eq_true,↓reduceIte,Nat.reduceLT,Nat.reduceAdd,Nat.reduceMul,Nat.reduceSub,Nat.reduceEqDiff,Nat.reduceLeDiff,Nat.reduceBEq,reduceCtorEq,Nat.succ_ne_zero,Bool.not_true,Bool.not_false,Bool.true_eq_false,Bool.false_eq_true,Bool.true_beq,Bool.false_beq,Int.reduceLT,Int.reduceLE,Int.reduceEq,Int.reduceNe,ne_eq,not_false_eq_true,not_true_eq_false,List.getElem?_cons_zero,List.getElem?_cons_succ,List.length_cons,List.length_nil,List.all_cons,List.all_nil,Bool.and_true,Bool.and_self,Bool.true_and,Bool.false_and,Bool.and_false,Bool.or_true,Bool.or_false,Bool.true_or,Bool.false_or,Bool.or_self,List.elem_cons,List.elem_nil,Nat.add_zero,Nat.zero_add,or_self,or_false,false_or,true_or,or_true,and_true,true_and,and_false,false_and,and_self,List.mem_cons,List.not_mem_nil,Nat.reducePow,elAt_eq,stV_eq,cellsB_cells,hp_get_r,hp_get_r0,hp_get_l,hp_set_r,hp_set_r0,hp_set_l,hp_one,hp_ne,List.drop_succ_cons,List.drop_zero,List.take_succ_cons,List.take_zero,F1.f2,F1.f12,k13,hn,g0',w2,w3,a2,hv,Sv.shr,Sv.notOwn,Sv.lenRd,alen_sl Sv,sl39,Option.isSome_some,List.length_map,hm,hw1,hw2.shr,hw2.notOwn,hN,hit,hap,nbeq,Nat.zero_le,Nat.le_refl,Nat.not_lt_zero]
   exact⟨_,rfl,F1.of fun t ht=>by rcases ht with rfl | rfl | rfl | rfl | rfl<;>simp -implicitDefEqProofs (maxDischargeDepth:=4) only[go_sem,decide_true,decide_false,beq_self_eq_true,↓reduceIte,Nat.reduceLT,Nat.reduceAdd,Nat.reduceMul,Nat.reduceSub,Nat.reduceEqDiff,Nat.reduceLeDiff,Nat.reduceBEq,reduceCtorEq,Nat.succ_ne_zero,Bool.not_true,Bool.not_false,Bool.true_eq_false,Bool.false_eq_true,Bool.true_beq,Bool.false_beq,Int.reduceLT,Int.reduceLE,Int.reduceEq,Int.reduceNe,ne_eq,not_false_eq_true,not_true_eq_false,List.getElem?_cons_zero,List.getElem?_cons_succ,List.length_cons,List.length_nil,List.all_cons,List.all_nil,Bool.and_true,Bool.and_self,Bool.true_and,Bool.false_and,Bool.and_false,Bool.or_true,Bool.or_false,Bool.true_or,Bool.false_or,Bool.or_self,List.elem_cons,List.elem_nil,Nat.add_zero,Nat.zero_add,or_self,or_false,false_or,true_or,or_true,and_true,true_and,and_false,false_and,and_self,List.mem_cons,List.not_mem_nil,Nat.reducePow],by simp -implicitDefEqProofs (maxDischargeDepth:=4) only[go_sem,decide_true,decide_false,beq_self_eq_true,↓reduceIte,Nat.reduceLT,Nat.reduceAdd,Nat.reduceMul,Nat.reduceSub,Nat.reduceEqDiff,Nat.reduceLeDiff,Nat.reduceBEq,reduceCtorEq,Nat.succ_ne_zero,Bool.not_true,Bool.not_false,Bool.true_eq_false,Bool.false_eq_true,Bool.true_beq,Bool.false_beq,Int.reduceLT,Int.reduceLE,Int.reduceEq,Int.reduceNe,ne_eq,not_false_eq_true,not_true_eq_false,List.getElem?_cons_zero,List.getElem?_cons_succ,List.length_cons,List.length_nil,List.all_cons,List.all_nil,Bool.and_true,Bool.and_self,Bool.true_and,Bool.false_and,Bool.and_false,Bool.or_true,Bool.or_false,Bool.true_or,Bool.false_or,Bool.or_self,List.elem_cons,List.elem_nil,Nat.add_zero,Nat.zero_add,or_self,or_false,false_or,true_or,or_true,and_true,true_and,and_false,false_and,and_self,List.mem_cons,List.not_mem_nil,Nat.reducePow,k13],by simp -implicitDefEqProofs (maxDischargeDepth:=4) only[go_sem,decide_true,decide_false,beq_self_eq_true,↓reduceIte,Nat.reduceLT,Nat.reduceAdd,Nat.reduceMul,Nat.reduceSub,Nat.reduceEqDiff,Nat.reduceLeDiff,Nat.reduceBEq,reduceCtorEq,Nat.succ_ne_zero,Bool.not_true,Bool.not_false,Bool.true_eq_false,Bool.false_eq_true,Bool.true_beq,Bool.false_beq,Int.reduceLT,Int.reduceLE,Int.reduceEq,Int.reduceNe,ne_eq,not_false_eq_true,not_true_eq_false,List.getElem?_cons_zero,List.getElem?_cons_succ,List.length_cons,List.length_nil,List.all_cons,List.all_nil,Bool.and_true,Bool.and_self,Bool.true_and,Bool.false_and,Bool.and_false,Bool.or_true,Bool.or_false,Bool.true_or,Bool.false_or,Bool.or_self,List.elem_cons,List.elem_nil,Nat.add_zero,Nat.zero_add,or_self,or_false,false_or,true_or,or_true,and_true,true_and,and_false,false_and,and_self,List.mem_cons,List.not_mem_nil,Nat.reducePow]⟩
  exact⟨fr2,k,_,[],_,by rw[x_cont1 p1,p2],⟨F2,m13,m14⟩,hk5,⟨.inr ⟨rfl,rfl,rfl⟩⟩,by decide⟩
 ·have hB':=fun L=>hB L h0
  have hl:(ys.map iv).length=ys.length:=List.length_map ..
  obtain⟨fr2,p2,F2,m13,m14⟩:∃fr2,ex cx D 0 5 174 (.region 19 g5_18 true) fr1 G=some (.normal,fr2,G++[.cells 1 2 (ys.map iv)])∧A5 fr2 ov i∧fr2.get 13=iv k∧fr2.get 14=.sl n 1 0 ys.length ys.length:=by
   simp -implicitDefEqProofs (maxDischargeDepth:=4) only[go_sem,decide_true,decide_false,beq_self_eq_true,↓reduceIte,Nat.reduceLT,Nat.reduceAdd,Nat.reduceMul,Nat.reduceSub,Nat.reduceEqDiff,Nat.reduceLeDiff,Nat.reduceBEq,reduceCtorEq,Nat.succ_ne_zero,Bool.not_true,Bool.not_false,Bool.true_eq_false,Bool.false_eq_true,Bool.true_beq,Bool.false_beq,Int.reduceLT,Int.reduceLE,Int.reduceEq,Int.reduceNe,ne_eq,not_false_eq_true,not_true_eq_false,List.getElem?_cons_zero,List.getElem?_cons_succ,List.length_cons,List.length_nil,List.all_cons,List.all_nil,Bool.and_true,Bool.and_self,Bool.true_and,Bool.false_and,Bool.and_false,Bool.or_true,Bool.or_false,Bool.true_or,Bool.false_or,Bool.or_self,List.elem_cons,List.elem_nil,Nat.add_zero,Nat.zero_add,or_self,or_false,false_or,true_or,or_true,and_true,true_and,and_false,false_and,and_self,List.mem_cons,List.not_mem_nil,Nat.reducePow,elAt_eq,stV_eq,cellsB_cells,hp_get_r,hp_get_r0,hp_get_l,hp_set_r,hp_set_r0,hp_set_l,hp_one,hp_ne,List.drop_succ_cons,List.drop_zero,List.take_succ_cons,List.take_zero,F1.f2,F1.f12,k13,hn,g0',w2,w3,a2,hv,Sv.shr,Sv.notOwn,Sv.lenRd,alen_sl Sv,sl39,Option.isSome_some,hl,List.length_map,hm,hw1,hw2.shr,hw2.notOwn,hB',layB_res,nbeq,Nat.zero_le,Nat.le_refl,Nat.not_lt_zero]
   exact⟨_,rfl,F1.of fun t ht=>by rcases ht with rfl | rfl | rfl | rfl | rfl<;>simp -implicitDefEqProofs (maxDischargeDepth:=4) only[go_sem,decide_true,decide_false,beq_self_eq_true,↓reduceIte,Nat.reduceLT,Nat.reduceAdd,Nat.reduceMul,Nat.reduceSub,Nat.reduceEqDiff,Nat.reduceLeDiff,Nat.reduceBEq,reduceCtorEq,Nat.succ_ne_zero,Bool.not_true,Bool.not_false,Bool.true_eq_false,Bool.false_eq_true,Bool.true_beq,Bool.false_beq,Int.reduceLT,Int.reduceLE,Int.reduceEq,Int.reduceNe,ne_eq,not_false_eq_true,not_true_eq_false,List.getElem?_cons_zero,List.getElem?_cons_succ,List.length_cons,List.length_nil,List.all_cons,List.all_nil,Bool.and_true,Bool.and_self,Bool.true_and,Bool.false_and,Bool.and_false,Bool.or_true,Bool.or_false,Bool.true_or,Bool.false_or,Bool.or_self,List.elem_cons,List.elem_nil,Nat.add_zero,Nat.zero_add,or_self,or_false,false_or,true_or,or_true,and_true,true_and,and_false,false_and,and_self,List.mem_cons,List.not_mem_nil,Nat.reducePow],by simp -implicitDefEqProofs (maxDischargeDepth:=4) only[go_sem,decide_true,decide_false,beq_self_eq_true,↓reduceIte,Nat.reduceLT,Nat.reduceAdd,Nat.reduceMul,Nat.reduceSub,Nat.reduceEqDiff,Nat.reduceLeDiff,Nat.reduceBEq,reduceCtorEq,Nat.succ_ne_zero,Bool.not_true,Bool.not_false,Bool.true_eq_false,Bool.false_eq_true,Bool.true_beq,Bool.false_beq,Int.reduceLT,Int.reduceLE,Int.reduceEq,Int.reduceNe,ne_eq,not_false_eq_true,not_true_eq_false,List.getElem?_cons_zero,List.getElem?_cons_succ,List.length_cons,List.length_nil,List.all_cons,List.all_nil,Bool.and_true,Bool.and_self,Bool.true_and,Bool.false_and,Bool.and_false,Bool.or_true,Bool.or_false,Bool.true_or,Bool.false_or,Bool.or_self,List.elem_cons,List.elem_nil,Nat.add_zero,Nat.zero_add,or_self,or_false,false_or,true_or,or_true,and_true,true_and,and_false,false_and,and_self,List.mem_cons,List.not_mem_nil,Nat.reducePow,k13],by simp -implicitDefEqProofs (maxDischargeDepth:=4) only[go_sem,decide_true,decide_false,beq_self_eq_true,↓reduceIte,Nat.reduceLT,Nat.reduceAdd,Nat.reduceMul,Nat.reduceSub,Nat.reduceEqDiff,Nat.reduceLeDiff,Nat.reduceBEq,reduceCtorEq,Nat.succ_ne_zero,Bool.not_true,Bool.not_false,Bool.true_eq_false,Bool.false_eq_true,Bool.true_beq,Bool.false_beq,Int.reduceLT,Int.reduceLE,Int.reduceEq,Int.reduceNe,ne_eq,not_false_eq_true,not_true_eq_false,List.getElem?_cons_zero,List.getElem?_cons_succ,List.length_cons,List.length_nil,List.all_cons,List.all_nil,Bool.and_true,Bool.and_self,Bool.true_and,Bool.false_and,Bool.and_false,Bool.or_true,Bool.or_false,Bool.true_or,Bool.false_or,Bool.or_self,List.elem_cons,List.elem_nil,Nat.add_zero,Nat.zero_add,or_self,or_false,false_or,true_or,or_true,and_true,true_and,and_false,false_and,and_self,List.mem_cons,List.not_mem_nil,Nat.reducePow]⟩
  exact⟨fr2,k,_,ys,_,by rw[x_cont1 p1,p2],⟨F2,m13,m14⟩,hk5,⟨.inl ⟨h0,by rw[hn],rfl⟩⟩,hyl⟩
end
structure F5(fr:PT)(ov:AV)(i k:Nat)(st:AV)(p:Nat):Prop extends K5 fr ov i k st where
 f15:fr.get 15=.ptr p 0 0
theorem K5.of{fr fr':PT}{ov:AV}{i k:Nat}{st:AV}(F:K5 fr ov i k st)(h:∀t,(t=1∨t=2∨t=5∨t=6∨t=12∨t=13∨t=14)→fr'.get t=fr.get t):K5 fr' ov i k st :=
 ⟨F.toA5.of fun t ht=>h t (by rcases ht with rfl | rfl | rfl | rfl | rfl<;>simp),by rw[h 13 (by simp),F.f13],by rw[h 14 (by simp),F.f14]⟩
theorem F5.of{fr fr':PT}{ov:AV}{i k:Nat}{st:AV}{p:Nat}(F:F5 fr ov i k st p)(h:∀t,(t=1∨t=2∨t=5∨t=6∨t=12∨t=13∨t=14∨t=15)→fr'.get t=fr.get t):F5 fr' ov i k st p :=
 ⟨F.toK5.of fun t ht=>h t (by rcases ht with rfl | rfl | rfl | rfl | rfl | rfl | rfl<;>simp),by rw[h 15 (by simp),F.f15]⟩
section
variable {ov:AV} {i k:Nat} {st:AV}
theorem st_frame(hst:(∃q n,st=.sl q 1 0 n n)∨st=.vec 1 .exact []){G:Hp}{p:Nat}(hp:G.length=p)(hi:i<30){fr:PT}(F:K5 fr ov i k st):
  ∃fr',ex cx D 0 5 174 (.seq (.region 20 g5_19 false) (.region 21 g5_20 false)) fr G=some (.normal,fr',G++[.cells 19 44 [.agg (frmC k i st (i % 16))]])∧F5 fr' ov i k st p:=by
 have b1:=build44f (k:=(k:Int)) (i:=(i:Int)) hst
 have hsh:Abs.shr st=st∧isOwn st=false∧Abs.drp st=st:=by rcases hst with⟨q,n,rfl⟩ | rfl<;>exact⟨rfl,rfl,rfl⟩
 obtain⟨fr1,p1,F1,k15⟩:∃fr1,ex cx D 0 5 174 (.region 20 g5_19 false) fr G=some (.normal,fr1,G++[.cells 19 44 [.agg [iv k,iv i,st,iv 0,iv 0,iv 0,iv 0,iv 0,iv 0,iv 0,iv 0,iv 0,iv 0,iv 0,iv 0,iv 0,iv 0,iv 0,iv 0]]])∧K5 fr1 ov i k st∧fr1.get 15=.ptr p 0 0:=by
  simp -implicitDefEqProofs (maxDischargeDepth:=4) only[go_sem,decide_true,decide_false,beq_self_eq_true,↓reduceIte,Nat.reduceLT,Nat.reduceAdd,Nat.reduceMul,Nat.reduceSub,Nat.reduceEqDiff,Nat.reduceLeDiff,Nat.reduceBEq,reduceCtorEq,Nat.succ_ne_zero,Bool.not_true,Bool.not_false,Bool.true_eq_false,Bool.false_eq_true,Bool.true_beq,Bool.false_beq,Int.reduceLT,Int.reduceLE,Int.reduceEq,Int.reduceNe,ne_eq,not_false_eq_true,not_true_eq_false,List.getElem?_cons_zero,List.getElem?_cons_succ,List.length_cons,List.length_nil,List.all_cons,List.all_nil,Bool.and_true,Bool.and_self,Bool.true_and,Bool.false_and,Bool.and_false,Bool.or_true,Bool.or_false,Bool.true_or,Bool.false_or,Bool.or_self,List.elem_cons,List.elem_nil,Nat.add_zero,Nat.zero_add,or_self,or_false,false_or,true_or,or_true,and_true,true_and,and_false,false_and,and_self,List.mem_cons,List.not_mem_nil,Nat.reducePow,elAt_eq,stV_eq,cellsB_cells,hp_get_r,hp_get_r0,hp_get_l,hp_set_r,hp_set_r0,hp_set_l,hp_one,hp_ne,List.drop_succ_cons,List.drop_zero,List.take_succ_cons,List.take_zero,F.f12,F.f13,F.f14,hp,hsh.1,hsh.2.1,hsh.2.2,b1,Nat.zero_le,Nat.not_lt_zero]
  exact⟨_,rfl,F.of fun t ht=>by rcases ht with rfl | rfl | rfl | rfl | rfl | rfl | rfl<;>simp -implicitDefEqProofs (maxDischargeDepth:=4) only[go_sem,decide_true,decide_false,beq_self_eq_true,↓reduceIte,Nat.reduceLT,Nat.reduceAdd,Nat.reduceMul,Nat.reduceSub,Nat.reduceEqDiff,Nat.reduceLeDiff,Nat.reduceBEq,reduceCtorEq,Nat.succ_ne_zero,Bool.not_true,Bool.not_false,Bool.true_eq_false,Bool.false_eq_true,Bool.true_beq,Bool.false_beq,Int.reduceLT,Int.reduceLE,Int.reduceEq,Int.reduceNe,ne_eq,not_false_eq_true,not_true_eq_false,List.getElem?_cons_zero,List.getElem?_cons_succ,List.length_cons,List.length_nil,List.all_cons,List.all_nil,Bool.and_true,Bool.and_self,Bool.true_and,Bool.false_and,Bool.and_false,Bool.or_true,Bool.or_false,Bool.true_or,Bool.false_or,Bool.or_self,List.elem_cons,List.elem_nil,Nat.add_zero,Nat.zero_add,or_self,or_false,false_or,true_or,or_true,and_true,true_and,and_false,false_and,and_self,List.mem_cons,List.not_mem_nil,Nat.reducePow],by simp -implicitDefEqProofs (maxDischargeDepth:=4) only[go_sem,decide_true,decide_false,beq_self_eq_true,↓reduceIte,Nat.reduceLT,Nat.reduceAdd,Nat.reduceMul,Nat.reduceSub,Nat.reduceEqDiff,Nat.reduceLeDiff,Nat.reduceBEq,reduceCtorEq,Nat.succ_ne_zero,Bool.not_true,Bool.not_false,Bool.true_eq_false,Bool.false_eq_true,Bool.true_beq,Bool.false_beq,Int.reduceLT,Int.reduceLE,Int.reduceEq,Int.reduceNe,ne_eq,not_false_eq_true,not_true_eq_false,List.getElem?_cons_zero,List.getElem?_cons_succ,List.length_cons,List.length_nil,List.all_cons,List.all_nil,Bool.and_true,Bool.and_self,Bool.true_and,Bool.false_and,Bool.and_false,Bool.or_true,Bool.or_false,Bool.true_or,Bool.false_or,Bool.or_self,List.elem_cons,List.elem_nil,Nat.add_zero,Nat.zero_add,or_self,or_false,false_or,true_or,or_true,and_true,true_and,and_false,false_and,and_self,List.mem_cons,List.not_mem_nil,Nat.reducePow]⟩
 have hr:i % 16<16:=Nat.mod_lt _ (by decide)
 have w3:(i:Int).tmod 16=((i % 16:Nat):Int):=by rw[Int.tmod_eq_emod_of_nonneg (by omega)];omega
 have a2:aindexAddr cx.T 42 (.ptr p 0 3) (iv (i % 16:Nat))=some (.ptr p 0 (3+i % 16)):=by
  rw[aindexAddr_arr (n:=i % 16) (k:=.i64) ar42 (.ptr p 0 3),if_pos hr]
  show some (AV.ptr p 0 (3+i % 16*1))=_
  rw[Nat.mul_one]
 have hput:stV 0 (G++[.cells 19 44 [.agg [iv k,iv i,st,iv 0,iv 0,iv 0,iv 0,iv 0,iv 0,iv 0,iv 0,iv 0,iv 0,iv 0,iv 0,iv 0,iv 0,iv 0,iv 0]]]) false 1 (.ptr p 0 (3+i % 16)) (iv i)=some (G++[.cells 19 44 [.agg (frmC k i st (i % 16))]]):=by
  rw[stV_eq,if_neg (Nat.not_lt_zero _),hp_get_r0 hp]
  simp only[List.getElem?_cons_zero,cellsB_cells,xbind_some]
  rw[elS_cell (fitA_int _ _) (by show 3+i % 16<19;omega),xbind_some]
  rw[List.set_cons_zero,List.set_append_right _ _ (by omega),hp,Nat.sub_self,List.set_cons_zero]
  rfl
 obtain⟨G2,hG2⟩:∃G2,G++[ABlock.cells 19 44 [.agg [iv k,iv i,st,iv 0,iv 0,iv 0,iv 0,iv 0,iv 0,iv 0,iv 0,iv 0,iv 0,iv 0,iv 0,iv 0,iv 0,iv 0,iv 0]]]=G2:=⟨_,rfl⟩
 rw[hG2]at p1 hput
 obtain⟨fr2,p2,F2,m15⟩:∃fr2,ex cx D 0 5 174 (.region 21 g5_20 false) fr1 G2=some (.normal,fr2,G++[.cells 19 44 [.agg (frmC k i st (i % 16))]])∧K5 fr2 ov i k st∧fr2.get 15=.ptr p 0 0:=by
  simp -implicitDefEqProofs (maxDischargeDepth:=4) only[go_sem,decide_true,decide_false,beq_self_eq_true,↓reduceIte,Nat.reduceLT,Nat.reduceAdd,Nat.reduceMul,Nat.reduceSub,Nat.reduceEqDiff,Nat.reduceLeDiff,Nat.reduceBEq,reduceCtorEq,Nat.succ_ne_zero,Bool.not_true,Bool.not_false,Bool.true_eq_false,Bool.false_eq_true,Bool.true_beq,Bool.false_beq,Int.reduceLT,Int.reduceLE,Int.reduceEq,Int.reduceNe,ne_eq,not_false_eq_true,not_true_eq_false,List.getElem?_cons_zero,List.getElem?_cons_succ,List.length_cons,List.length_nil,List.all_cons,List.all_nil,Bool.and_true,Bool.and_self,Bool.true_and,Bool.false_and,Bool.and_false,Bool.or_true,Bool.or_false,Bool.true_or,Bool.false_or,Bool.or_self,List.elem_cons,List.elem_nil,Nat.add_zero,Nat.zero_add,or_self,or_false,false_or,true_or,or_true,and_true,true_and,and_false,false_and,and_self,List.mem_cons,List.not_mem_nil,Nat.reducePow,elAt_eq,stV_eq,cellsB_cells,hp_get_r,hp_get_r0,hp_get_l,hp_set_r,hp_set_r0,hp_set_l,hp_one,hp_ne,List.drop_succ_cons,List.drop_zero,List.take_succ_cons,List.take_zero,F1.f12,k15,w3,a2,hput]
  exact⟨_,rfl,F1.of fun t ht=>by rcases ht with rfl | rfl | rfl | rfl | rfl | rfl | rfl<;>simp -implicitDefEqProofs (maxDischargeDepth:=4) only[go_sem,decide_true,decide_false,beq_self_eq_true,↓reduceIte,Nat.reduceLT,Nat.reduceAdd,Nat.reduceMul,Nat.reduceSub,Nat.reduceEqDiff,Nat.reduceLeDiff,Nat.reduceBEq,reduceCtorEq,Nat.succ_ne_zero,Bool.not_true,Bool.not_false,Bool.true_eq_false,Bool.false_eq_true,Bool.true_beq,Bool.false_beq,Int.reduceLT,Int.reduceLE,Int.reduceEq,Int.reduceNe,ne_eq,not_false_eq_true,not_true_eq_false,List.getElem?_cons_zero,List.getElem?_cons_succ,List.length_cons,List.length_nil,List.all_cons,List.all_nil,Bool.and_true,Bool.and_self,Bool.true_and,Bool.false_and,Bool.and_false,Bool.or_true,Bool.or_false,Bool.true_or,Bool.false_or,Bool.or_self,List.elem_cons,List.elem_nil,Nat.add_zero,Nat.zero_add,or_self,or_false,false_or,true_or,or_true,and_true,true_and,and_false,false_and,and_self,List.mem_cons,List.not_mem_nil,Nat.reducePow],by simp -implicitDefEqProofs (maxDischargeDepth:=4) only[go_sem,decide_true,decide_false,beq_self_eq_true,↓reduceIte,Nat.reduceLT,Nat.reduceAdd,Nat.reduceMul,Nat.reduceSub,Nat.reduceEqDiff,Nat.reduceLeDiff,Nat.reduceBEq,reduceCtorEq,Nat.succ_ne_zero,Bool.not_true,Bool.not_false,Bool.true_eq_false,Bool.false_eq_true,Bool.true_beq,Bool.false_beq,Int.reduceLT,Int.reduceLE,Int.reduceEq,Int.reduceNe,ne_eq,not_false_eq_true,not_true_eq_false,List.getElem?_cons_zero,List.getElem?_cons_succ,List.length_cons,List.length_nil,List.all_cons,List.all_nil,Bool.and_true,Bool.and_self,Bool.true_and,Bool.false_and,Bool.and_false,Bool.or_true,Bool.or_false,Bool.true_or,Bool.false_or,Bool.or_self,List.elem_cons,List.elem_nil,Nat.add_zero,Nat.zero_add,or_self,or_false,false_or,true_or,or_true,and_true,true_and,and_false,false_and,and_self,List.mem_cons,List.not_mem_nil,Nat.reducePow,k15]⟩
 exact⟨fr2,by rw[x_cont1 p1,p2],F2,m15⟩
end
section
variable {ov:AV} {i k:Nat} {st:AV} {fa:List AV} {sl HV:List (List AV)}
theorem put_have{G:Hp}(hl:∀e∈HV,e.length=19)(k5:HV.length=5)(h3:G[3]?=some (.cells 95 51 [.agg HV.flatten]))(hk:k<5){d:List AV}(hd:d.length=19):stV 0 G true 19 (.ptr 3 0 (k*19)) (.agg d)=some (G.set 3 (.cells 95 51 [.agg (HV.set k d).flatten])):=by
 rw[stV_eq,if_neg (Nat.not_lt_zero _),h3]
 simp only[cellsB_cells,xbind_some,List.getElem?_cons_zero]
 have hfl:HV.flatten.length=95:=by rw[flat_len hl,k5]
 have:elS true 19 (.agg HV.flatten) (k*19) (.agg d)=some (.agg (HV.set k d).flatten):=by
  unfold elS
  rw[if_neg (by simp[fitA,hd])]
  simp only
  rw[if_pos (by omega)]
  rw[show cellsOf (.agg d)=d from rfl,flat_put hd hl (by omega)]
 rw[this,xbind_some,List.set_cons_zero]
theorem put_have2{G:Hp}(hl:∀e∈HV,e.length=19)(k5:HV.length=5)(h3:G[3]?=some (.cells 95 51 [.agg HV.flatten])){e:List AV}(he:HV[k]?=some e){v:AV}(hv:fitA false 1 v=true):stV 0 G false 1 (.ptr 3 0 (k*19+2)) v=some (G.set 3 (.cells 95 51 [.agg (HV.set k (e.set 2 v)).flatten])):=by
 have hk:=(List.getElem?_eq_some_iff.1 he).1
 rw[stV_eq,if_neg (Nat.not_lt_zero _),h3]
 simp only[cellsB_cells,xbind_some,List.getElem?_cons_zero]
 have hfl:HV.flatten.length=95:=by rw[flat_len hl,k5]
 rw[elS_cell hv (by omega),xbind_some,List.set_cons_zero,flat_set2 v hl he]
theorem TblAt.put{G:Hp}(T:TblAt G 2 1 sl){d:List AV}(hd:d.length=19):TblAt (G.set 1 (.cells 20 185 ((sl.set k (d++[bv true])).map .agg))) 2 1 (sl.set k (d++[bv true])):=by
 refine⟨by rw[hp_ne (by decide),List.length_set];exact T.tb,by rw[hp_one (lt_of_get T.sb)],T.ne,fun c hc=>?_⟩
 obtain⟨j,hj⟩:=List.getElem?_of_mem hc
 by_cases e:k=j
 ·subst e
  have hlt:=(List.getElem?_eq_some_iff.1 hj).1
  rw[List.length_set]at hlt
  rw[List.getElem?_set_self hlt]at hj
  cases hj
  refine⟨by rw[List.length_append,hd];rfl,?_⟩
  rw[liveC_true hd,List.getElem?_append_right (by omega),hd]
  rfl
 ·rw[List.getElem?_set_ne e]at hj
  exact T.ok c (List.mem_of_getElem? hj)
theorem st_set{G:Hp}{p:Nat}{xs:List Int}(A:ASt G (fun _=>True) fa sl HV)(hF:Full G (fun _=>True) sl HV 5)(hk:k<5)(S:StkAt G st xs)(hx:xs.length≤16)(hi:i<30)(hG:G[p]?=some (.cells 19 44 [.agg (frmC k i st (i % 16))]))(hp4:4≤p){fr:PT}(F:F5 fr ov i k st p):
  ∃fr' G' sv,ex cx D 0 5 174 (.seq (.region 22 g5_21 false) (.cond (.tmp 112) (.seq (.region 23 g5_22 false) .ret) .skip)) fr G=some (.normal,fr',G')∧F5 fr' ov i k st p∧ASt G' (fun _=>True) fa (sl.set k ((frmC k i st (i % 16)).set 2 sv++[bv true])) HV∧
   (∀b,b≠1→b<G.length→G'[b]?=G[b]?)∧G.length≤G'.length∧StkAt G' sv xs∧(∀b s i n c,sv=.sl b s i n c→G.length≤b):=by
 have Ff:=frmC_ok (k:=k) (i:=i) (st:=st) (r:=i % 16) (Nat.mod_lt _ (by decide))
 obtain⟨d0,e0,h1,h2,h3⟩:=hF k hk
 obtain⟨_,_,_,hd0,_⟩:=h3.ex
 obtain⟨L,sv,key,Fr⟩:=set_on (ro:=0) A.T (Nat.zero_le _) (Nat.zero_le _) (by rw[A.l5];decide) Ff S hx hd0.len h1
 have hlen:=Ff.len
 have e2:=Ff.map (g:=Abs.shr) (fun _=>rfl) S.shr
 have e3:=Ff.take
 obtain⟨G1,hG1⟩:∃G1,G.set 1 (.cells 20 185 ((sl.set k ((frmC k i st (i % 16)).set 2 sv++[bv true])).map .agg))++L=G1:=⟨_,rfl⟩
 rw[hG1]at key
 have T1:=TblAt.put (k:=k) A.T (Ff.set sv).len
 have St:=Fr.setB (b0:=1) (x:=.cells 20 185 ((sl.set k ((frmC k i st (i % 16)).set 2 sv++[bv true])).map .agg))
 have A1:ASt G1 (fun _=>True) fa (sl.set k ((frmC k i st (i % 16)).set 2 sv++[bv true])) HV:=by
  have B:ASt (G.set 1 (.cells 20 185 ((sl.set k ((frmC k i st (i % 16)).set 2 sv++[bv true])).map .agg))) (fun _=>True) fa (sl.set k ((frmC k i st (i % 16)).set 2 sv++[bv true])) HV :=
   ⟨by rw[hp_ne (by decide)];exact A.g0,T1,by rw[hp_ne (by decide)];exact A.h3,A.hl,by rw[List.length_set];exact A.l5,A.k5⟩
  have:=B.grow (L:=L)
  rw[hG1]at this
  exact this
 obtain⟨fr1,p1,F1⟩:∃fr1,ex cx D 0 5 174 (.seq (.region 22 g5_21 false) (.cond (.tmp 112) (.seq (.region 23 g5_22 false) .ret) .skip)) fr G=some (.normal,fr1,G1)∧F5 fr1 ov i k st p:=by
  generalize frmC k i st (i % 16)=d at *
  simp -implicitDefEqProofs (maxDischargeDepth:=4) only[go_sem,decide_true,decide_false,beq_self_eq_true,↓reduceIte,Nat.reduceLT,Nat.reduceAdd,Nat.reduceMul,Nat.reduceSub,Nat.reduceEqDiff,Nat.reduceLeDiff,Nat.reduceBEq,reduceCtorEq,Nat.succ_ne_zero,Bool.not_true,Bool.not_false,Bool.true_eq_false,Bool.false_eq_true,Bool.true_beq,Bool.false_beq,Int.reduceLT,Int.reduceLE,Int.reduceEq,Int.reduceNe,ne_eq,not_false_eq_true,not_true_eq_false,List.getElem?_cons_zero,List.getElem?_cons_succ,List.length_cons,List.length_nil,List.all_cons,List.all_nil,Bool.and_true,Bool.and_self,Bool.true_and,Bool.false_and,Bool.and_false,Bool.or_true,Bool.or_false,Bool.true_or,Bool.false_or,Bool.or_self,List.elem_cons,List.elem_nil,Nat.add_zero,Nat.zero_add,or_self,or_false,false_or,true_or,or_true,and_true,true_and,and_false,false_and,and_self,List.mem_cons,List.not_mem_nil,Nat.reducePow,elAt_eq,stV_eq,cellsB_cells,hp_get_r,hp_get_r0,hp_get_l,hp_set_r,hp_set_r0,hp_set_l,hp_one,hp_ne,List.drop_succ_cons,List.drop_zero,List.take_succ_cons,List.take_zero,F.f5,F.f13,F.f15,hG,hlen,e2,e3,den_call_eq,key]
  exact⟨_,rfl,F.of fun t ht=>by rcases ht with rfl | rfl | rfl | rfl | rfl | rfl | rfl | rfl<;>simp -implicitDefEqProofs (maxDischargeDepth:=4) only[go_sem,decide_true,decide_false,beq_self_eq_true,↓reduceIte,Nat.reduceLT,Nat.reduceAdd,Nat.reduceMul,Nat.reduceSub,Nat.reduceEqDiff,Nat.reduceLeDiff,Nat.reduceBEq,reduceCtorEq,Nat.succ_ne_zero,Bool.not_true,Bool.not_false,Bool.true_eq_false,Bool.false_eq_true,Bool.true_beq,Bool.false_beq,Int.reduceLT,Int.reduceLE,Int.reduceEq,Int.reduceNe,ne_eq,not_false_eq_true,not_true_eq_false,List.getElem?_cons_zero,List.getElem?_cons_succ,List.length_cons,List.length_nil,List.all_cons,List.all_nil,Bool.and_true,Bool.and_self,Bool.true_and,Bool.false_and,Bool.and_false,Bool.or_true,Bool.or_false,Bool.true_or,Bool.false_or,Bool.or_self,List.elem_cons,List.elem_nil,Nat.add_zero,Nat.zero_add,or_self,or_false,false_or,true_or,or_true,and_true,true_and,and_false,false_and,and_self,List.mem_cons,List.not_mem_nil,Nat.reducePow]⟩
 refine⟨fr1,G1,sv,p1,F1,A1,fun b hb hb2=>?_,?_,?_,fun b s i n c h=>Fr.fr b s i n c h⟩
 ·rw[←hG1,hp_get_l (by rw[List.length_set];exact hb2),hp_ne (Ne.symm hb)]
 ·rw[←hG1,List.length_append,List.length_set];omega
 ·have:=St.st
  rw[hG1]at this
  exact this
end
theorem StkAt.put{G:Hp}{sv:AV}{xs:List Int}(h:StkAt G sv xs){q:Nat}(hq:∀b s i n c,sv=.sl b s i n c→b≠q)(x:ABlock):StkAt (G.set q x) sv xs:=by
 rcases h with h | ⟨h0,b,h1,h2⟩
 ·exact .inl h
 ·refine .inr ⟨h0,b,h1,?_⟩
  rw[List.getElem?_set_ne (Ne.symm (hq _ _ _ _ _ h1))]
  exact h2
section
variable {ov:AV} {i k:Nat} {st:AV} {fa:List AV} {sl HV:List (List AV)}
theorem st_keep{G:Hp}{p:Nat}{xs:List Int}(A:ASt G (fun _=>True) fa sl HV)(hk:k<5)(S:StkAt G st xs)(hst4:∀b s i n c,st=.sl b s i n c→b≠3)(hx:xs.length≤16)(hG:G[p]?=some (.cells 19 44 [.agg (frmC k i st (i % 16))])){fr:PT}(F:F5 fr ov i k st p):
  ∃fr' v,ex cx D 0 5 174 (.seq (.region 24 g5_23 false) (.region 25 g5_24 false)) fr G=some (.normal,fr',G.set 3 (.cells 95 51 [.agg (HV.set k ((frmC k i st (i % 16)).set 2 v)).flatten]))∧K5 fr' ov i k st∧Sl 1 (Abs.shr v) (xs.map iv):=by
 have Ff:=frmC_ok (k:=k) (i:=i) (st:=st) (r:=i % 16) (Nat.mod_lt _ (by decide))
 have hlen:=Ff.len
 have e2:=Ff.map (g:=Abs.shr) (fun _=>rfl) S.shr
 have e3:=Ff.take
 have hidx:aindexAddr cx.T 51 (.ptr 3 0 0) (iv k)=some (.ptr 3 0 (k*19)):=by
  rw[aindexAddr_arr (n:=k) (k:=.i64) ar51 (.ptr 3 0 0),if_pos hk]
  show some (AV.ptr 3 0 (0+k*19))=_
  rw[Nat.zero_add]
 have hput:=put_have A.hl A.k5 A.h3 hk hlen
 obtain⟨G1,hG1⟩:∃G1,G.set 3 (.cells 95 51 [.agg (HV.set k (frmC k i st (i % 16))).flatten])=G1:=⟨_,rfl⟩
 rw[hG1]at hput
 obtain⟨fr1,p1,F1⟩:∃fr1,ex cx D 0 5 174 (.region 24 g5_23 false) fr G=some (.normal,fr1,G1)∧F5 fr1 ov i k st p:=by
  generalize frmC k i st (i % 16)=d at *
  simp -implicitDefEqProofs (maxDischargeDepth:=4) only[go_sem,decide_true,decide_false,beq_self_eq_true,↓reduceIte,Nat.reduceLT,Nat.reduceAdd,Nat.reduceMul,Nat.reduceSub,Nat.reduceEqDiff,Nat.reduceLeDiff,Nat.reduceBEq,reduceCtorEq,Nat.succ_ne_zero,Bool.not_true,Bool.not_false,Bool.true_eq_false,Bool.false_eq_true,Bool.true_beq,Bool.false_beq,Int.reduceLT,Int.reduceLE,Int.reduceEq,Int.reduceNe,ne_eq,not_false_eq_true,not_true_eq_false,List.getElem?_cons_zero,List.getElem?_cons_succ,List.length_cons,List.length_nil,List.all_cons,List.all_nil,Bool.and_true,Bool.and_self,Bool.true_and,Bool.false_and,Bool.and_false,Bool.or_true,Bool.or_false,Bool.true_or,Bool.false_or,Bool.or_self,List.elem_cons,List.elem_nil,Nat.add_zero,Nat.zero_add,or_self,or_false,false_or,true_or,or_true,and_true,true_and,and_false,false_and,and_self,List.mem_cons,List.not_mem_nil,Nat.reducePow,elAt_eq,stV_eq,cellsB_cells,hp_get_r,hp_get_r0,hp_get_l,hp_set_r,hp_set_r0,hp_set_l,hp_one,hp_ne,List.drop_succ_cons,List.drop_zero,List.take_succ_cons,List.take_zero,F.f6,F.f13,F.f15,hG,hlen,e2,e3,hidx,hput]
  exact⟨_,rfl,F.of fun t ht=>by rcases ht with rfl | rfl | rfl | rfl | rfl | rfl | rfl | rfl<;>simp -implicitDefEqProofs (maxDischargeDepth:=4) only[go_sem,decide_true,decide_false,beq_self_eq_true,↓reduceIte,Nat.reduceLT,Nat.reduceAdd,Nat.reduceMul,Nat.reduceSub,Nat.reduceEqDiff,Nat.reduceLeDiff,Nat.reduceBEq,reduceCtorEq,Nat.succ_ne_zero,Bool.not_true,Bool.not_false,Bool.true_eq_false,Bool.false_eq_true,Bool.true_beq,Bool.false_beq,Int.reduceLT,Int.reduceLE,Int.reduceEq,Int.reduceNe,ne_eq,not_false_eq_true,not_true_eq_false,List.getElem?_cons_zero,List.getElem?_cons_succ,List.length_cons,List.length_nil,List.all_cons,List.all_nil,Bool.and_true,Bool.and_self,Bool.true_and,Bool.false_and,Bool.and_false,Bool.or_true,Bool.or_false,Bool.true_or,Bool.false_or,Bool.or_self,List.elem_cons,List.elem_nil,Nat.add_zero,Nat.zero_add,or_self,or_false,false_or,true_or,or_true,and_true,true_and,and_false,false_and,and_self,List.mem_cons,List.not_mem_nil,Nat.reducePow]⟩
 have S1:StkAt G1 st xs:=by rw[←hG1];exact S.put hst4 _
 have hit:=S1.items
 have hlHV:∀e∈HV.set k (frmC k i st (i % 16)),e.length=19:=fun e he=>by
  rcases List.mem_or_eq_of_mem_set he with h | h
  ·exact A.hl e h
  ·rw[h];exact hlen
 have hHk:(HV.set k (frmC k i st (i % 16)))[k]?=some (frmC k i st (i % 16)):=by rw[List.getElem?_set_self (by rw[A.k5];exact hk)]
 have h3:G1[3]?=some (.cells 95 51 [.agg (HV.set k (frmC k i st (i % 16))).flatten]):=by rw[←hG1,hp_one (lt_of_get A.h3)]
 have fin:∀v,fitA false 1 v=true→stV 0 G1 false 1 (.ptr 3 0 (k*19+2)) v=some (G.set 3 (.cells 95 51 [.agg (HV.set k ((frmC k i st (i % 16)).set 2 v)).flatten])):=fun v hv=>by
  rw[put_have2 hlHV (by rw[List.length_set];exact A.k5) h3 hHk hv,List.set_set,←hG1,List.set_set]
 by_cases h0:xs=[]
 ·subst h0
  rw[List.map_nil]at hit
  have hap:apV 1 8 [] (.vec 1 .exact [])=some (.vec 1 .exact []):=rfl
  have f1:=fin (.vec 1 .exact []) rfl
  obtain⟨fr2,p2,F2⟩:∃fr2,ex cx D 0 5 174 (.region 25 g5_24 false) fr1 G1=some (.normal,fr2,G.set 3 (.cells 95 51 [.agg (HV.set k ((frmC k i st (i % 16)).set 2 (.vec 1 .exact []))).flatten]))∧K5 fr2 ov i k st:=by
   simp -implicitDefEqProofs (maxDischargeDepth:=4) only[go_sem,decide_true,decide_false,beq_self_eq_true,↓reduceIte,Nat.reduceLT,Nat.reduceAdd,Nat.reduceMul,Nat.reduceSub,Nat.reduceEqDiff,Nat.reduceLeDiff,Nat.reduceBEq,reduceCtorEq,Nat.succ_ne_zero,Bool.not_true,Bool.not_false,Bool.true_eq_false,Bool.false_eq_true,Bool.true_beq,Bool.false_beq,Int.reduceLT,Int.reduceLE,Int.reduceEq,Int.reduceNe,ne_eq,not_false_eq_true,not_true_eq_false,List.getElem?_cons_zero,List.getElem?_cons_succ,List.length_cons,List.length_nil,List.all_cons,List.all_nil,Bool.and_true,Bool.and_self,Bool.true_and,Bool.false_and,Bool.and_false,Bool.or_true,Bool.or_false,Bool.true_or,Bool.false_or,Bool.or_self,List.elem_cons,List.elem_nil,Nat.add_zero,Nat.zero_add,or_self,or_false,false_or,true_or,or_true,and_true,true_and,and_false,false_and,and_self,List.mem_cons,List.not_mem_nil,Nat.reducePow,elAt_eq,stV_eq,cellsB_cells,hp_get_r,hp_get_r0,hp_get_l,hp_set_r,hp_set_r0,hp_set_l,hp_one,hp_ne,List.drop_succ_cons,List.drop_zero,List.take_succ_cons,List.take_zero,F1.f6,F1.f13,F1.f14,S1.shr,S1.notOwn,hit,hap,hidx,f1]
   exact⟨_,rfl,F1.toK5.of fun t ht=>by rcases ht with rfl | rfl | rfl | rfl | rfl | rfl | rfl<;>simp -implicitDefEqProofs (maxDischargeDepth:=4) only[go_sem,decide_true,decide_false,beq_self_eq_true,↓reduceIte,Nat.reduceLT,Nat.reduceAdd,Nat.reduceMul,Nat.reduceSub,Nat.reduceEqDiff,Nat.reduceLeDiff,Nat.reduceBEq,reduceCtorEq,Nat.succ_ne_zero,Bool.not_true,Bool.not_false,Bool.true_eq_false,Bool.false_eq_true,Bool.true_beq,Bool.false_beq,Int.reduceLT,Int.reduceLE,Int.reduceEq,Int.reduceNe,ne_eq,not_false_eq_true,not_true_eq_false,List.getElem?_cons_zero,List.getElem?_cons_succ,List.length_cons,List.length_nil,List.all_cons,List.all_nil,Bool.and_true,Bool.and_self,Bool.true_and,Bool.false_and,Bool.and_false,Bool.or_true,Bool.or_false,Bool.true_or,Bool.false_or,Bool.or_self,List.elem_cons,List.elem_nil,Nat.add_zero,Nat.zero_add,or_self,or_false,false_or,true_or,or_true,and_true,true_and,and_false,false_and,and_self,List.mem_cons,List.not_mem_nil,Nat.reducePow]⟩
  exact⟨fr2,_,by rw[x_cont1 p1,p2],F2,.inl rfl⟩
 ·obtain⟨y,l,hyl⟩:∃y l,xs=y::l:=by
   cases xs with
   | nil=>exact absurd rfl h0
   | cons y l=>exact⟨y,l,rfl⟩
  have hap:apV 1 8 (xs.map iv) (.vec 1 .exact [])=some (.vec 1 .own (xs.map iv)):=by
   rw[hyl,List.map_cons]
   rw[hyl,List.length_cons]at hx
   exact apV_exact (by rw[List.length_nil,List.length_map];omega) (by decide)
  have f1:=fin (.vec 1 .own (xs.map iv)) rfl
  obtain⟨fr2,p2,F2⟩:∃fr2,ex cx D 0 5 174 (.region 25 g5_24 false) fr1 G1=some (.normal,fr2,G.set 3 (.cells 95 51 [.agg (HV.set k ((frmC k i st (i % 16)).set 2 (.vec 1 .own (xs.map iv)))).flatten]))∧K5 fr2 ov i k st:=by
   simp -implicitDefEqProofs (maxDischargeDepth:=4) only[go_sem,decide_true,decide_false,beq_self_eq_true,↓reduceIte,Nat.reduceLT,Nat.reduceAdd,Nat.reduceMul,Nat.reduceSub,Nat.reduceEqDiff,Nat.reduceLeDiff,Nat.reduceBEq,reduceCtorEq,Nat.succ_ne_zero,Bool.not_true,Bool.not_false,Bool.true_eq_false,Bool.false_eq_true,Bool.true_beq,Bool.false_beq,Int.reduceLT,Int.reduceLE,Int.reduceEq,Int.reduceNe,ne_eq,not_false_eq_true,not_true_eq_false,List.getElem?_cons_zero,List.getElem?_cons_succ,List.length_cons,List.length_nil,List.all_cons,List.all_nil,Bool.and_true,Bool.and_self,Bool.true_and,Bool.false_and,Bool.and_false,Bool.or_true,Bool.or_false,Bool.true_or,Bool.false_or,Bool.or_self,List.elem_cons,List.elem_nil,Nat.add_zero,Nat.zero_add,or_self,or_false,false_or,true_or,or_true,and_true,true_and,and_false,false_and,and_self,List.mem_cons,List.not_mem_nil,Nat.reducePow,elAt_eq,stV_eq,cellsB_cells,hp_get_r,hp_get_r0,hp_get_l,hp_set_r,hp_set_r0,hp_set_l,hp_one,hp_ne,List.drop_succ_cons,List.drop_zero,List.take_succ_cons,List.take_zero,F1.f6,F1.f13,F1.f14,S1.shr,S1.notOwn,hit,hap,hidx,f1]
   exact⟨_,rfl,F1.toK5.of fun t ht=>by rcases ht with rfl | rfl | rfl | rfl | rfl | rfl | rfl<;>simp -implicitDefEqProofs (maxDischargeDepth:=4) only[go_sem,decide_true,decide_false,beq_self_eq_true,↓reduceIte,Nat.reduceLT,Nat.reduceAdd,Nat.reduceMul,Nat.reduceSub,Nat.reduceEqDiff,Nat.reduceLeDiff,Nat.reduceBEq,reduceCtorEq,Nat.succ_ne_zero,Bool.not_true,Bool.not_false,Bool.true_eq_false,Bool.false_eq_true,Bool.true_beq,Bool.false_beq,Int.reduceLT,Int.reduceLE,Int.reduceEq,Int.reduceNe,ne_eq,not_false_eq_true,not_true_eq_false,List.getElem?_cons_zero,List.getElem?_cons_succ,List.length_cons,List.length_nil,List.all_cons,List.all_nil,Bool.and_true,Bool.and_self,Bool.true_and,Bool.false_and,Bool.and_false,Bool.or_true,Bool.or_false,Bool.true_or,Bool.false_or,Bool.or_self,List.elem_cons,List.elem_nil,Nat.add_zero,Nat.zero_add,or_self,or_false,false_or,true_or,or_true,and_true,true_and,and_false,false_and,and_self,List.mem_cons,List.not_mem_nil,Nat.reducePow]⟩
  exact⟨fr2,_,by rw[x_cont1 p1,p2],F2,.inr (.inl rfl)⟩
end
theorem Stk.or{G G1:Hp}{st:AV}{xs:List Int}(h:Stk G G1 st xs):(∃q n,st=.sl q 1 0 n n)∨st=.vec 1 .exact []:=by
 rcases h.ex with⟨_,h1,_⟩ | ⟨_,h1,_⟩
 ·exact .inl ⟨_,_,h1⟩
 ·exact .inr h1
theorem Stk.len{G G1:Hp}{st:AV}{xs:List Int}(h:Stk G G1 st xs):G1.length=G.length+1:=by
 rcases h.ex with⟨_,_,h1⟩ | ⟨_,_,h1⟩<;>rw[h1,List.length_append]<;>rfl
theorem Stk.low{G G1:Hp}{st:AV}{xs:List Int}(h:Stk G G1 st xs):∃x,G1=G++[x]:=by
 rcases h.ex with⟨_,_,h1⟩ | ⟨_,_,h1⟩<;>exact⟨_,h1⟩
theorem Stk.at'{G G1:Hp}{st:AV}{xs:List Int}(h:Stk G G1 st xs){M:Hp}(hM:M[G.length]?=G1[G.length]?):Sl 1 st []∧xs=[]∨(xs≠[]∧st=.sl G.length 1 0 xs.length xs.length∧M[G.length]?=some (.cells 1 2 (xs.map iv))):=by
 rcases h.ex with⟨h0,h1,h2⟩ | ⟨h0,h1,h2⟩
 ·refine .inr ⟨h0,h1,?_⟩
  rw[hM,h2,hp_get_r0 rfl]
  rfl
 ·exact .inl ⟨.inl h1,h0⟩
theorem Stk.stk{G G1:Hp}{st:AV}{xs:List Int}(h:Stk G G1 st xs){M:Hp}(hM:M[G.length]?=G1[G.length]?):StkAt M st xs:=by
 rcases h.at' hM with⟨h1,rfl⟩ | ⟨h0,h1,h2⟩
 ·exact .inl h1
 ·exact .inr ⟨h0,_,h1,h2⟩
theorem SlotA.move{G M:Hp}{U V:Nat→Prop}{d e:List AV}(h:SlotA G U d e)(hM:∀b,4≤b→b<G.length→M[b]?=G[b]?)(hUV:∀b,b<G.length→V b):SlotA M V d e:=by
 obtain⟨sv,w,xs,h1,h2,h3,h4,h5,h6,h7⟩:=h.ex
 rcases h3 with h3 | ⟨h0,b,e1,e2⟩
 ·refine⟨sv,w,xs,h1,h2,.inl h3,h4,h5,h6,fun b s i n c hb=>?_⟩
  subst hb
  rcases h3 with h3 | h3 | ⟨h3,_⟩<;>cases h3
 ·have hb:=lt_of_get e2
  refine⟨sv,w,xs,h1,h2,.inr ⟨h0,b,e1,by rw[hM b (h7 _ _ _ _ _ e1).2 hb];exact e2⟩,h4,h5,h6,fun b' s i n c hb'=>⟨hUV b' ?_,(h7 b' s i n c hb').2⟩⟩
  rw[e1]at hb'
  cases hb'
  exact hb
section
variable {ov:AV} {i:Nat} {fa:List AV} {sl HV:List (List AV)}
noncomputable abbrev rd5:Code:=(.seq (.region 18 g5_17 false) (.seq (.region 19 g5_18 true) (.seq (.region 20 g5_19 false) (.seq (.region 21 g5_20 false) (.seq (.seq (.region 22 g5_21 false) (.cond (.tmp 112) (.seq (.region 23 g5_22 false) .ret) .skip)) (.seq (.region 24 g5_23 false) (.seq (.region 25 g5_24 false) (.seq (.seq (.region 26 g5_25 false) (.block 4 (.loop l5_1))) (.seq (.region 30 g5_29 false) (.block 6 (.loop l5_3)))))))))))
theorem st_round{G:Hp}(A:ASt G (fun _=>True) fa sl HV)(hF:Full G (fun _=>True) sl HV 5)(hfa:Fas fa){os:List Int}(ho:Sl 1 ov (os.map u8V))(hob:∀b∈os,0≤b∧b≤255)(hi:i<os.length)(hi30:i<30){fr:PT}(F:A5 fr ov i):
  ∃fr' G' sl' HV',ex cx D 0 5 174 rd5 fr G=some (.normal,fr',G')∧A5 fr' ov i∧ASt G' (fun _=>True) fa sl' HV'∧Full G' (fun _=>True) sl' HV' 5:=by
 have h4:4≤G.length:=by have:=lt_of_get A.h3;omega
 obtain⟨fr1,k,st,xs,G1,p1,F1,hk,hS,hx⟩:=st_copy A.g0 hfa ho hob hi hi30 F
 obtain⟨x1,hx1⟩:=hS.low
 have hl1:=hS.len
 have A1:ASt G1 (fun _=>True) fa sl HV:=by rw[hx1];exact A.grow
 obtain⟨fr2,p2,F2⟩:=st_frame hS.or (G:=G1) rfl hi30 F1
 obtain⟨G2,hG2⟩:∃G2,G1++[ABlock.cells 19 44 [.agg (frmC k i st (i % 16))]]=G2:=⟨_,rfl⟩
 rw[hG2]at p2
 have hl2:G2.length=G.length+2:=by rw[←hG2,List.length_append,hl1];rfl
 have hp:G2[G1.length]?=some (.cells 19 44 [.agg (frmC k i st (i % 16))]):=by rw[←hG2,hp_get_r0 rfl];rfl
 have q2:G2[G.length]?=G1[G.length]?:=by rw[←hG2,hp_get_l (by omega)]
 have lo2:∀b,b<G.length→G2[b]?=G[b]?:=fun b hb=>by rw[←hG2,hp_get_l (by omega),hx1,hp_get_l hb]
 have A2:ASt G2 (fun _=>True) fa sl HV:=by rw[←hG2];exact A1.grow
 have hF2:Full G2 (fun _=>True) sl HV 5:=fun j hj=>by
  obtain⟨d,e,h1,h2,h3⟩:=hF j hj
  exact⟨d,e,h1,h2,h3.move (fun b _ hb=>lo2 b hb) fun _ _=>trivial⟩
 obtain⟨fr3,G3,sv,p3,F3,A3,kp,hl3,S3,fr3'⟩:=st_set A2 hF2 hk (hS.stk q2) hx hi30 hp (by omega) F2
 have q3:G3[G.length]?=G1[G.length]?:=by rw[kp _ (by omega) (by omega),q2]
 have hp3:G3[G1.length]?=some (.cells 19 44 [.agg (frmC k i st (i % 16))]):=by rw[kp _ (by omega) (by omega),hp]
 have hst3:∀b s i n c,st=.sl b s i n c→b≠3:=fun b s i n c h=>by
  rcases hS.ex with⟨_,h1,_⟩ | ⟨_,h1,_⟩
  ·rw[h1]at h;cases h;omega
  ·rw[h1]at h;cases h
 obtain⟨fr4,v,p4,F4,Sv⟩:=st_keep A3 hk (hS.stk q3) hst3 hx hp3 F3
 have Ff:=frmC_ok (k:=k) (i:=i) (st:=st) (r:=i % 16) (Nat.mod_lt _ (by decide))
 have S1:=(hS.stk (M:=G1) rfl).shr
 have e2:=Ff.map (g:=Abs.shr) (fun _=>rfl) S1
 generalize frmC k i st (i % 16)=f at *
 obtain⟨G4,hG4⟩:∃G4,G3.set 3 (.cells 95 51 [.agg (HV.set k (f.set 2 v)).flatten])=G4:=⟨_,rfl⟩
 rw[hG4]at p4
 have hlen:(f.set 2 v).length=19:=(Ff.set v).len
 have hHV:∀e∈HV.set k (f.set 2 v),e.length=19:=fun e he=>by
  rcases List.mem_or_eq_of_mem_set he with h | h
  ·exact A.hl e h
  ·rw[h];exact hlen
 have n4:∀b,b≠3→G4[b]?=G3[b]?:=fun b hb=>by rw[←hG4,hp_ne (Ne.symm hb)]
 have A4:ASt G4 (fun _=>True) fa (sl.set k (f.set 2 sv++[bv true])) (HV.set k (f.set 2 v)) :=
  ⟨by rw[n4 _ (by decide)];exact A3.g0,⟨by rw[n4 _ (by decide)];exact A3.T.tb,by rw[n4 _ (by decide)];exact A3.T.sb,A3.T.ne,A3.T.ok⟩,by rw[←hG4,hp_one (lt_of_get A3.h3)],hHV,A3.l5,by rw[List.length_set];exact A.k5⟩
 have hF4:Full G4 (fun b=>b≠G.length) (sl.set k (f.set 2 sv++[bv true])) (HV.set k (f.set 2 v)) 5:=fun j hj=>by
  by_cases hjk:j=k
  ·subst hjk
   refine⟨f.set 2 sv,f.set 2 v,by rw[List.getElem?_set_self (by rw[A.l5];exact hk)],by rw[List.getElem?_set_self (by rw[A.k5];exact hk)],⟨sv,Abs.shr v,xs,Ff.set sv,?_,?_,Sv,hx,fun t ht=>?_,fun b s i n c h=>?_⟩⟩
   ·rw[List.map_set,e2];exact Ff.set _
   ·rcases S3 with S3 | ⟨h0,b,h1,h2⟩
    ·exact .inl S3
    ·have:=fr3' _ _ _ _ _ h1
     exact .inr ⟨h0,b,h1,by rw[n4 _ (by omega)];exact h2⟩
   ·rw[List.map_set,e2,List.getElem?_set_ne (Ne.symm ht),List.getElem?_set_ne (Ne.symm ht)]
   ·have:=fr3' _ _ _ _ _ h
    omega
  ·obtain⟨d,e,h1,h2,h3⟩:=hF j hj
   refine⟨d,e,by rw[List.getElem?_set_ne (Ne.symm hjk),h1],by rw[List.getElem?_set_ne (Ne.symm hjk),h2],h3.move (fun b hb4 hb=>?_) fun b hb=>by omega⟩
   rw[n4 _ (by omega),kp _ (by omega) (by omega),lo2 b hb]
 have q4:G4[G.length]?=G1[G.length]?:=by rw[n4 _ (by omega),q3]
 obtain⟨fr5,G5,p5,F5',A5',hF5⟩:∃fr5 G5,ex cx D 0 5 174 (.seq (.region 26 g5_25 false) (.block 4 (.loop l5_1))) fr4 G4=some (.normal,fr5,G5)∧A5 fr5 ov i∧ASt G5 (fun _=>True) fa (sl.set k (f.set 2 sv++[bv true])) (HV.set k (f.set 2 v))∧Full G5 (fun _=>True) (sl.set k (f.set 2 sv++[bv true])) (HV.set k (f.set 2 v)) 5:=by
  have hup:Sl 1 st []∨(st=.sl G.length 1 0 xs.length xs.length∧G4[G.length]?=some (.cells 1 2 (xs.map iv))):=by
   rcases hS.at' q4 with⟨h,_⟩ | ⟨_,h⟩
   ·exact .inl h
   ·exact .inr h
  obtain⟨fr5,G5,p5,F5',h⟩:=up_all (q:=G.length) (show xs.length≤1000 by omega) hup F4.toA5 F4.f14
  rcases h with rfl | ⟨x,rfl,_⟩
  ·exact⟨fr5,_,p5,F5',A4,hF4.mono fun _ _ _=>trivial⟩
  ·exact⟨fr5,_,p5,F5',A4.put h4 x,(hF4.put (fun h=>h.1 rfl) x).mono fun _ _ _=>trivial⟩
 obtain⟨fr6,p6,F6,k17⟩:∃fr6,ex cx D 0 5 174 (.region 30 g5_29 false) fr5 G5=some (.normal,fr6,G5)∧A5 fr6 ov i∧fr6.get 17=iv (0:Nat):=by
  simp -implicitDefEqProofs (maxDischargeDepth:=4) only[go_sem,decide_true,decide_false,beq_self_eq_true,↓reduceIte,Nat.reduceLT,Nat.reduceAdd,Nat.reduceMul,Nat.reduceSub,Nat.reduceEqDiff,Nat.reduceLeDiff,Nat.reduceBEq,reduceCtorEq,Nat.succ_ne_zero,Bool.not_true,Bool.not_false,Bool.true_eq_false,Bool.false_eq_true,Bool.true_beq,Bool.false_beq,Int.reduceLT,Int.reduceLE,Int.reduceEq,Int.reduceNe,ne_eq,not_false_eq_true,not_true_eq_false,List.getElem?_cons_zero,List.getElem?_cons_succ,List.length_cons,List.length_nil,List.all_cons,List.all_nil,Bool.and_true,Bool.and_self,Bool.true_and,Bool.false_and,Bool.and_false,Bool.or_true,Bool.or_false,Bool.true_or,Bool.false_or,Bool.or_self,List.elem_cons,List.elem_nil,Nat.add_zero,Nat.zero_add,or_self,or_false,false_or,true_or,or_true,and_true,true_and,and_false,false_and,and_self,List.mem_cons,List.not_mem_nil,Nat.reducePow]
  exact⟨_,rfl,F5'.of fun t ht=>by rcases ht with rfl | rfl | rfl | rfl | rfl<;>simp -implicitDefEqProofs (maxDischargeDepth:=4) only[go_sem,decide_true,decide_false,beq_self_eq_true,↓reduceIte,Nat.reduceLT,Nat.reduceAdd,Nat.reduceMul,Nat.reduceSub,Nat.reduceEqDiff,Nat.reduceLeDiff,Nat.reduceBEq,reduceCtorEq,Nat.succ_ne_zero,Bool.not_true,Bool.not_false,Bool.true_eq_false,Bool.false_eq_true,Bool.true_beq,Bool.false_beq,Int.reduceLT,Int.reduceLE,Int.reduceEq,Int.reduceNe,ne_eq,not_false_eq_true,not_true_eq_false,List.getElem?_cons_zero,List.getElem?_cons_succ,List.length_cons,List.length_nil,List.all_cons,List.all_nil,Bool.and_true,Bool.and_self,Bool.true_and,Bool.false_and,Bool.and_false,Bool.or_true,Bool.or_false,Bool.true_or,Bool.false_or,Bool.or_self,List.elem_cons,List.elem_nil,Nat.add_zero,Nat.zero_add,or_self,or_false,false_or,true_or,or_true,and_true,true_and,and_false,false_and,and_self,List.mem_cons,List.not_mem_nil,Nat.reducePow],by simp -implicitDefEqProofs (maxDischargeDepth:=4) only[go_sem,decide_true,decide_false,beq_self_eq_true,↓reduceIte,Nat.reduceLT,Nat.reduceAdd,Nat.reduceMul,Nat.reduceSub,Nat.reduceEqDiff,Nat.reduceLeDiff,Nat.reduceBEq,reduceCtorEq,Nat.succ_ne_zero,Bool.not_true,Bool.not_false,Bool.true_eq_false,Bool.false_eq_true,Bool.true_beq,Bool.false_beq,Int.reduceLT,Int.reduceLE,Int.reduceEq,Int.reduceNe,ne_eq,not_false_eq_true,not_true_eq_false,List.getElem?_cons_zero,List.getElem?_cons_succ,List.length_cons,List.length_nil,List.all_cons,List.all_nil,Bool.and_true,Bool.and_self,Bool.true_and,Bool.false_and,Bool.and_false,Bool.or_true,Bool.or_false,Bool.true_or,Bool.false_or,Bool.or_self,List.elem_cons,List.elem_nil,Nat.add_zero,Nat.zero_add,or_self,or_false,false_or,true_or,or_true,and_true,true_and,and_false,false_and,and_self,List.mem_cons,List.not_mem_nil,Nat.reducePow];rfl⟩
 obtain⟨fr7,G7,p7,F7,A7,hF7⟩:=see_all 5 0 fr6 G5 rfl (Nat.zero_le _) A5' hF5 F6 k17
 obtain⟨_,_,r1,r2⟩:=x_split p1
 obtain⟨_,_,r3,r4⟩:=x_split p2
 obtain⟨_,_,r5,r6⟩:=x_split p4
 refine⟨fr7,G7,_,_,?_,F7,A7,hF7⟩
 unfold rd5
 rw[x_cont1 r1,x_cont1 r2,x_cont1 r3,x_cont1 r4,x_cont1 p3,x_cont1 r5,x_cont1 r6,x_cont1 p5,x_cont1 p6,x_block,x_loop,p7]
 rfl
end
section
variable {ov:AV} {fa:List AV}
theorem rounds(hfa:Fas fa){os:List Int}(ho:Sl 1 ov (os.map u8V))(hob:∀b∈os,0≤b∧b≤255):∀(m i:Nat)(fr:PT)(G:Hp)(sl HV:List (List AV)),30-i=m→i≤30→ASt G (fun _=>True) fa sl HV→Full G (fun _=>True) sl HV 5→A5 fr ov i→
  ∃fr' G' sl' HV',D.loop 0 5 174 l5_4 fr G=some (.exit 2,fr',G')∧fr'.get 5=.ptr 2 0 0∧ASt G' (fun _=>True) fa sl' HV'∧Full G' (fun _=>True) sl' HV' 5
 | 0,i,fr,G,sl,HV,hm,hi,A,hF,F=>by
  have h30:¬((i:Int)<30):=by omega
  obtain⟨fr1,p1,k5⟩:∃fr1,D.loop 0 5 174 l5_4 fr G=some (.exit 2,fr1,G)∧fr1.get 5=.ptr 2 0 0:=by
   rw[dl5_4]
   by_cases hlt:(i:Int)<(os.length:Int)
   ·simp -implicitDefEqProofs (maxDischargeDepth:=4) only[go_sem,decide_true,decide_false,beq_self_eq_true,↓reduceIte,Nat.reduceLT,Nat.reduceAdd,Nat.reduceMul,Nat.reduceSub,Nat.reduceEqDiff,Nat.reduceLeDiff,Nat.reduceBEq,reduceCtorEq,Nat.succ_ne_zero,Bool.not_true,Bool.not_false,Bool.true_eq_false,Bool.false_eq_true,Bool.true_beq,Bool.false_beq,Int.reduceLT,Int.reduceLE,Int.reduceEq,Int.reduceNe,ne_eq,not_false_eq_true,not_true_eq_false,List.getElem?_cons_zero,List.getElem?_cons_succ,List.length_cons,List.length_nil,List.all_cons,List.all_nil,Bool.and_true,Bool.and_self,Bool.true_and,Bool.false_and,Bool.and_false,Bool.or_true,Bool.or_false,Bool.true_or,Bool.false_or,Bool.or_self,List.elem_cons,List.elem_nil,Nat.add_zero,Nat.zero_add,or_self,or_false,false_or,true_or,or_true,and_true,true_and,and_false,false_and,and_self,List.mem_cons,List.not_mem_nil,Nat.reducePow,elAt_eq,stV_eq,cellsB_cells,hp_get_r,hp_get_r0,hp_get_l,hp_set_r,hp_set_r0,hp_set_l,hp_one,hp_ne,List.drop_succ_cons,List.drop_zero,List.take_succ_cons,List.take_zero,F.f1,F.f12,ho.shr,ho.notOwn,alen_sl ho,sl22,Option.isSome_some,List.length_map,hlt,h30]
    exact⟨_,rfl,by simp -implicitDefEqProofs (maxDischargeDepth:=4) only[go_sem,decide_true,decide_false,beq_self_eq_true,↓reduceIte,Nat.reduceLT,Nat.reduceAdd,Nat.reduceMul,Nat.reduceSub,Nat.reduceEqDiff,Nat.reduceLeDiff,Nat.reduceBEq,reduceCtorEq,Nat.succ_ne_zero,Bool.not_true,Bool.not_false,Bool.true_eq_false,Bool.false_eq_true,Bool.true_beq,Bool.false_beq,Int.reduceLT,Int.reduceLE,Int.reduceEq,Int.reduceNe,ne_eq,not_false_eq_true,not_true_eq_false,List.getElem?_cons_zero,List.getElem?_cons_succ,List.length_cons,List.length_nil,List.all_cons,List.all_nil,Bool.and_true,Bool.and_self,Bool.true_and,Bool.false_and,Bool.and_false,Bool.or_true,Bool.or_false,Bool.true_or,Bool.false_or,Bool.or_self,List.elem_cons,List.elem_nil,Nat.add_zero,Nat.zero_add,or_self,or_false,false_or,true_or,or_true,and_true,true_and,and_false,false_and,and_self,List.mem_cons,List.not_mem_nil,Nat.reducePow,F.f5]⟩
   ·simp -implicitDefEqProofs (maxDischargeDepth:=4) only[go_sem,decide_true,decide_false,beq_self_eq_true,↓reduceIte,Nat.reduceLT,Nat.reduceAdd,Nat.reduceMul,Nat.reduceSub,Nat.reduceEqDiff,Nat.reduceLeDiff,Nat.reduceBEq,reduceCtorEq,Nat.succ_ne_zero,Bool.not_true,Bool.not_false,Bool.true_eq_false,Bool.false_eq_true,Bool.true_beq,Bool.false_beq,Int.reduceLT,Int.reduceLE,Int.reduceEq,Int.reduceNe,ne_eq,not_false_eq_true,not_true_eq_false,List.getElem?_cons_zero,List.getElem?_cons_succ,List.length_cons,List.length_nil,List.all_cons,List.all_nil,Bool.and_true,Bool.and_self,Bool.true_and,Bool.false_and,Bool.and_false,Bool.or_true,Bool.or_false,Bool.true_or,Bool.false_or,Bool.or_self,List.elem_cons,List.elem_nil,Nat.add_zero,Nat.zero_add,or_self,or_false,false_or,true_or,or_true,and_true,true_and,and_false,false_and,and_self,List.mem_cons,List.not_mem_nil,Nat.reducePow,elAt_eq,stV_eq,cellsB_cells,hp_get_r,hp_get_r0,hp_get_l,hp_set_r,hp_set_r0,hp_set_l,hp_one,hp_ne,List.drop_succ_cons,List.drop_zero,List.take_succ_cons,List.take_zero,F.f1,F.f12,ho.shr,ho.notOwn,alen_sl ho,sl22,Option.isSome_some,List.length_map,hlt,h30]
    exact⟨_,rfl,by simp -implicitDefEqProofs (maxDischargeDepth:=4) only[go_sem,decide_true,decide_false,beq_self_eq_true,↓reduceIte,Nat.reduceLT,Nat.reduceAdd,Nat.reduceMul,Nat.reduceSub,Nat.reduceEqDiff,Nat.reduceLeDiff,Nat.reduceBEq,reduceCtorEq,Nat.succ_ne_zero,Bool.not_true,Bool.not_false,Bool.true_eq_false,Bool.false_eq_true,Bool.true_beq,Bool.false_beq,Int.reduceLT,Int.reduceLE,Int.reduceEq,Int.reduceNe,ne_eq,not_false_eq_true,not_true_eq_false,List.getElem?_cons_zero,List.getElem?_cons_succ,List.length_cons,List.length_nil,List.all_cons,List.all_nil,Bool.and_true,Bool.and_self,Bool.true_and,Bool.false_and,Bool.and_false,Bool.or_true,Bool.or_false,Bool.true_or,Bool.false_or,Bool.or_self,List.elem_cons,List.elem_nil,Nat.add_zero,Nat.zero_add,or_self,or_false,false_or,true_or,or_true,and_true,true_and,and_false,false_and,and_self,List.mem_cons,List.not_mem_nil,Nat.reducePow,F.f5]⟩
  exact⟨fr1,G,sl,HV,p1,k5,A,hF⟩
 | m+1,i,fr,G,sl,HV,hm,hi,A,hF,F=>by
  by_cases hlt:(i:Int)<(os.length:Int)
  rotate_left
  ·obtain⟨fr1,p1,k5⟩:∃fr1,D.loop 0 5 174 l5_4 fr G=some (.exit 2,fr1,G)∧fr1.get 5=.ptr 2 0 0:=by
    rw[dl5_4]
    simp -implicitDefEqProofs (maxDischargeDepth:=4) only[go_sem,decide_true,decide_false,beq_self_eq_true,↓reduceIte,Nat.reduceLT,Nat.reduceAdd,Nat.reduceMul,Nat.reduceSub,Nat.reduceEqDiff,Nat.reduceLeDiff,Nat.reduceBEq,reduceCtorEq,Nat.succ_ne_zero,Bool.not_true,Bool.not_false,Bool.true_eq_false,Bool.false_eq_true,Bool.true_beq,Bool.false_beq,Int.reduceLT,Int.reduceLE,Int.reduceEq,Int.reduceNe,ne_eq,not_false_eq_true,not_true_eq_false,List.getElem?_cons_zero,List.getElem?_cons_succ,List.length_cons,List.length_nil,List.all_cons,List.all_nil,Bool.and_true,Bool.and_self,Bool.true_and,Bool.false_and,Bool.and_false,Bool.or_true,Bool.or_false,Bool.true_or,Bool.false_or,Bool.or_self,List.elem_cons,List.elem_nil,Nat.add_zero,Nat.zero_add,or_self,or_false,false_or,true_or,or_true,and_true,true_and,and_false,false_and,and_self,List.mem_cons,List.not_mem_nil,Nat.reducePow,elAt_eq,stV_eq,cellsB_cells,hp_get_r,hp_get_r0,hp_get_l,hp_set_r,hp_set_r0,hp_set_l,hp_one,hp_ne,List.drop_succ_cons,List.drop_zero,List.take_succ_cons,List.take_zero,F.f1,F.f12,ho.shr,ho.notOwn,alen_sl ho,sl22,Option.isSome_some,List.length_map,hlt]
    exact⟨_,rfl,by simp -implicitDefEqProofs (maxDischargeDepth:=4) only[go_sem,decide_true,decide_false,beq_self_eq_true,↓reduceIte,Nat.reduceLT,Nat.reduceAdd,Nat.reduceMul,Nat.reduceSub,Nat.reduceEqDiff,Nat.reduceLeDiff,Nat.reduceBEq,reduceCtorEq,Nat.succ_ne_zero,Bool.not_true,Bool.not_false,Bool.true_eq_false,Bool.false_eq_true,Bool.true_beq,Bool.false_beq,Int.reduceLT,Int.reduceLE,Int.reduceEq,Int.reduceNe,ne_eq,not_false_eq_true,not_true_eq_false,List.getElem?_cons_zero,List.getElem?_cons_succ,List.length_cons,List.length_nil,List.all_cons,List.all_nil,Bool.and_true,Bool.and_self,Bool.true_and,Bool.false_and,Bool.and_false,Bool.or_true,Bool.or_false,Bool.true_or,Bool.false_or,Bool.or_self,List.elem_cons,List.elem_nil,Nat.add_zero,Nat.zero_add,or_self,or_false,false_or,true_or,or_true,and_true,true_and,and_false,false_and,and_self,List.mem_cons,List.not_mem_nil,Nat.reducePow,F.f5]⟩
   exact⟨fr1,G,sl,HV,p1,k5,A,hF⟩
  have h30:(i:Int)<30:=by omega
  have w3:=wrap_s (i:=i) (by omega)
  obtain⟨fr1,p1,F1⟩:∃fr1,ex cx D 0 5 174 (.seq (.region 16 g5_16 false) (.cond (.tmp 73) .skip (.exit 2))) fr G=some (.normal,fr1,G)∧A5 fr1 ov i:=by
   simp -implicitDefEqProofs (maxDischargeDepth:=4) only[go_sem,decide_true,decide_false,beq_self_eq_true,↓reduceIte,Nat.reduceLT,Nat.reduceAdd,Nat.reduceMul,Nat.reduceSub,Nat.reduceEqDiff,Nat.reduceLeDiff,Nat.reduceBEq,reduceCtorEq,Nat.succ_ne_zero,Bool.not_true,Bool.not_false,Bool.true_eq_false,Bool.false_eq_true,Bool.true_beq,Bool.false_beq,Int.reduceLT,Int.reduceLE,Int.reduceEq,Int.reduceNe,ne_eq,not_false_eq_true,not_true_eq_false,List.getElem?_cons_zero,List.getElem?_cons_succ,List.length_cons,List.length_nil,List.all_cons,List.all_nil,Bool.and_true,Bool.and_self,Bool.true_and,Bool.false_and,Bool.and_false,Bool.or_true,Bool.or_false,Bool.true_or,Bool.false_or,Bool.or_self,List.elem_cons,List.elem_nil,Nat.add_zero,Nat.zero_add,or_self,or_false,false_or,true_or,or_true,and_true,true_and,and_false,false_and,and_self,List.mem_cons,List.not_mem_nil,Nat.reducePow,elAt_eq,stV_eq,cellsB_cells,hp_get_r,hp_get_r0,hp_get_l,hp_set_r,hp_set_r0,hp_set_l,hp_one,hp_ne,List.drop_succ_cons,List.drop_zero,List.take_succ_cons,List.take_zero,F.f1,F.f12,ho.shr,ho.notOwn,alen_sl ho,sl22,Option.isSome_some,List.length_map,hlt,h30]
   exact⟨_,rfl,F.of fun t ht=>by rcases ht with rfl | rfl | rfl | rfl | rfl<;>simp -implicitDefEqProofs (maxDischargeDepth:=4) only[go_sem,decide_true,decide_false,beq_self_eq_true,↓reduceIte,Nat.reduceLT,Nat.reduceAdd,Nat.reduceMul,Nat.reduceSub,Nat.reduceEqDiff,Nat.reduceLeDiff,Nat.reduceBEq,reduceCtorEq,Nat.succ_ne_zero,Bool.not_true,Bool.not_false,Bool.true_eq_false,Bool.false_eq_true,Bool.true_beq,Bool.false_beq,Int.reduceLT,Int.reduceLE,Int.reduceEq,Int.reduceNe,ne_eq,not_false_eq_true,not_true_eq_false,List.getElem?_cons_zero,List.getElem?_cons_succ,List.length_cons,List.length_nil,List.all_cons,List.all_nil,Bool.and_true,Bool.and_self,Bool.true_and,Bool.false_and,Bool.and_false,Bool.or_true,Bool.or_false,Bool.true_or,Bool.false_or,Bool.or_self,List.elem_cons,List.elem_nil,Nat.add_zero,Nat.zero_add,or_self,or_false,false_or,true_or,or_true,and_true,true_and,and_false,false_and,and_self,List.mem_cons,List.not_mem_nil,Nat.reducePow]⟩
  obtain⟨fr2,G2,sl2,HV2,p2,F2,A2,hF2⟩:=st_round A hF hfa ho hob (by omega) (by omega) F1
  obtain⟨fr3,p3,F3⟩:∃fr3,ex cx D 0 5 174 (.region 17 g5_39 false) fr2 G2=some (.normal,fr3,G2)∧A5 fr3 ov (i+1):=by
   simp -implicitDefEqProofs (maxDischargeDepth:=4) only[go_sem,decide_true,decide_false,beq_self_eq_true,↓reduceIte,Nat.reduceLT,Nat.reduceAdd,Nat.reduceMul,Nat.reduceSub,Nat.reduceEqDiff,Nat.reduceLeDiff,Nat.reduceBEq,reduceCtorEq,Nat.succ_ne_zero,Bool.not_true,Bool.not_false,Bool.true_eq_false,Bool.false_eq_true,Bool.true_beq,Bool.false_beq,Int.reduceLT,Int.reduceLE,Int.reduceEq,Int.reduceNe,ne_eq,not_false_eq_true,not_true_eq_false,List.getElem?_cons_zero,List.getElem?_cons_succ,List.length_cons,List.length_nil,List.all_cons,List.all_nil,Bool.and_true,Bool.and_self,Bool.true_and,Bool.false_and,Bool.and_false,Bool.or_true,Bool.or_false,Bool.true_or,Bool.false_or,Bool.or_self,List.elem_cons,List.elem_nil,Nat.add_zero,Nat.zero_add,or_self,or_false,false_or,true_or,or_true,and_true,true_and,and_false,false_and,and_self,List.mem_cons,List.not_mem_nil,Nat.reducePow,F2.f12,w3]
   exact⟨_,rfl,by simp -implicitDefEqProofs (maxDischargeDepth:=4) only[go_sem,decide_true,decide_false,beq_self_eq_true,↓reduceIte,Nat.reduceLT,Nat.reduceAdd,Nat.reduceMul,Nat.reduceSub,Nat.reduceEqDiff,Nat.reduceLeDiff,Nat.reduceBEq,reduceCtorEq,Nat.succ_ne_zero,Bool.not_true,Bool.not_false,Bool.true_eq_false,Bool.false_eq_true,Bool.true_beq,Bool.false_beq,Int.reduceLT,Int.reduceLE,Int.reduceEq,Int.reduceNe,ne_eq,not_false_eq_true,not_true_eq_false,List.getElem?_cons_zero,List.getElem?_cons_succ,List.length_cons,List.length_nil,List.all_cons,List.all_nil,Bool.and_true,Bool.and_self,Bool.true_and,Bool.false_and,Bool.and_false,Bool.or_true,Bool.or_false,Bool.true_or,Bool.false_or,Bool.or_self,List.elem_cons,List.elem_nil,Nat.add_zero,Nat.zero_add,or_self,or_false,false_or,true_or,or_true,and_true,true_and,and_false,false_and,and_self,List.mem_cons,List.not_mem_nil,Nat.reducePow,F2.f1],by simp -implicitDefEqProofs (maxDischargeDepth:=4) only[go_sem,decide_true,decide_false,beq_self_eq_true,↓reduceIte,Nat.reduceLT,Nat.reduceAdd,Nat.reduceMul,Nat.reduceSub,Nat.reduceEqDiff,Nat.reduceLeDiff,Nat.reduceBEq,reduceCtorEq,Nat.succ_ne_zero,Bool.not_true,Bool.not_false,Bool.true_eq_false,Bool.false_eq_true,Bool.true_beq,Bool.false_beq,Int.reduceLT,Int.reduceLE,Int.reduceEq,Int.reduceNe,ne_eq,not_false_eq_true,not_true_eq_false,List.getElem?_cons_zero,List.getElem?_cons_succ,List.length_cons,List.length_nil,List.all_cons,List.all_nil,Bool.and_true,Bool.and_self,Bool.true_and,Bool.false_and,Bool.and_false,Bool.or_true,Bool.or_false,Bool.true_or,Bool.false_or,Bool.or_self,List.elem_cons,List.elem_nil,Nat.add_zero,Nat.zero_add,or_self,or_false,false_or,true_or,or_true,and_true,true_and,and_false,false_and,and_self,List.mem_cons,List.not_mem_nil,Nat.reducePow,F2.f2],by simp -implicitDefEqProofs (maxDischargeDepth:=4) only[go_sem,decide_true,decide_false,beq_self_eq_true,↓reduceIte,Nat.reduceLT,Nat.reduceAdd,Nat.reduceMul,Nat.reduceSub,Nat.reduceEqDiff,Nat.reduceLeDiff,Nat.reduceBEq,reduceCtorEq,Nat.succ_ne_zero,Bool.not_true,Bool.not_false,Bool.true_eq_false,Bool.false_eq_true,Bool.true_beq,Bool.false_beq,Int.reduceLT,Int.reduceLE,Int.reduceEq,Int.reduceNe,ne_eq,not_false_eq_true,not_true_eq_false,List.getElem?_cons_zero,List.getElem?_cons_succ,List.length_cons,List.length_nil,List.all_cons,List.all_nil,Bool.and_true,Bool.and_self,Bool.true_and,Bool.false_and,Bool.and_false,Bool.or_true,Bool.or_false,Bool.true_or,Bool.false_or,Bool.or_self,List.elem_cons,List.elem_nil,Nat.add_zero,Nat.zero_add,or_self,or_false,false_or,true_or,or_true,and_true,true_and,and_false,false_and,and_self,List.mem_cons,List.not_mem_nil,Nat.reducePow,F2.f5],by simp -implicitDefEqProofs (maxDischargeDepth:=4) only[go_sem,decide_true,decide_false,beq_self_eq_true,↓reduceIte,Nat.reduceLT,Nat.reduceAdd,Nat.reduceMul,Nat.reduceSub,Nat.reduceEqDiff,Nat.reduceLeDiff,Nat.reduceBEq,reduceCtorEq,Nat.succ_ne_zero,Bool.not_true,Bool.not_false,Bool.true_eq_false,Bool.false_eq_true,Bool.true_beq,Bool.false_beq,Int.reduceLT,Int.reduceLE,Int.reduceEq,Int.reduceNe,ne_eq,not_false_eq_true,not_true_eq_false,List.getElem?_cons_zero,List.getElem?_cons_succ,List.length_cons,List.length_nil,List.all_cons,List.all_nil,Bool.and_true,Bool.and_self,Bool.true_and,Bool.false_and,Bool.and_false,Bool.or_true,Bool.or_false,Bool.true_or,Bool.false_or,Bool.or_self,List.elem_cons,List.elem_nil,Nat.add_zero,Nat.zero_add,or_self,or_false,false_or,true_or,or_true,and_true,true_and,and_false,false_and,and_self,List.mem_cons,List.not_mem_nil,Nat.reducePow,F2.f6],by simp -implicitDefEqProofs (maxDischargeDepth:=4) only[go_sem,decide_true,decide_false,beq_self_eq_true,↓reduceIte,Nat.reduceLT,Nat.reduceAdd,Nat.reduceMul,Nat.reduceSub,Nat.reduceEqDiff,Nat.reduceLeDiff,Nat.reduceBEq,reduceCtorEq,Nat.succ_ne_zero,Bool.not_true,Bool.not_false,Bool.true_eq_false,Bool.false_eq_true,Bool.true_beq,Bool.false_beq,Int.reduceLT,Int.reduceLE,Int.reduceEq,Int.reduceNe,ne_eq,not_false_eq_true,not_true_eq_false,List.getElem?_cons_zero,List.getElem?_cons_succ,List.length_cons,List.length_nil,List.all_cons,List.all_nil,Bool.and_true,Bool.and_self,Bool.true_and,Bool.false_and,Bool.and_false,Bool.or_true,Bool.or_false,Bool.true_or,Bool.false_or,Bool.or_self,List.elem_cons,List.elem_nil,Nat.add_zero,Nat.zero_add,or_self,or_false,false_or,true_or,or_true,and_true,true_and,and_false,false_and,and_self,List.mem_cons,List.not_mem_nil,Nat.reducePow]⟩
  have eb:ex cx D 0 5 174 (.block 3 rd5) fr1 G=some (.normal,fr2,G2):=by rw[x_block,p2];rfl
  obtain⟨fr4,G4,sl4,HV4,p4,k5,A4,hF4⟩:=rounds hfa ho hob m (i+1) fr3 G2 sl2 HV2 (by omega) (by omega) A2 hF2 F3
  refine⟨fr4,G4,sl4,HV4,?_,k5,A4,hF4⟩
  rw[dl5_4,x_cont1 p1,x_cont1 eb,p3,xbind_some,contR_normal]
  exact p4
end
theorem newC_fr{t:Int}{xs:List Int}(h2:xs.length≤16):∃d,newC t xs=d++[bv true]∧FrB d (.lit (.slice none 0 0)):=by
 have hb:baseC t=[iv t,iv 0,.lit (.slice none 0 0)]++List.replicate 16 (iv 0)++[bv true]:=rfl
 have hd:(baseC t).drop (3+xs.length)=List.replicate (16-xs.length) (iv 0)++[bv true]:=by
  rw[hb,List.drop_append_of_le_length (by simp;omega),List.drop_append,List.drop_replicate]
  simp
 refine⟨[iv t,iv 0,.lit (.slice none 0 0)]++(xs.map iv++List.replicate (16-xs.length) (iv 0)),?_,?_,rfl,fun j x hj h=>?_⟩
 ·unfold newC
  rw[hd]
  simp only[List.append_assoc]
  rfl
 ·simp only[List.length_append,List.length_cons,List.length_nil,List.length_map,List.length_replicate];omega
 ·match j,hj with
  | 0,_=>cases h;exact⟨_,rfl⟩
  | 1,_=>cases h;exact⟨_,rfl⟩
  | 2,hj=>exact absurd rfl hj
  | j+3,_ =>
   have hm:x∈xs.map iv++List.replicate (16-xs.length) (iv 0):=List.mem_of_getElem? (i:=j) h
   rcases List.mem_append.1 hm with hm | hm
   ·obtain⟨n,_,rfl⟩:=List.mem_map.1 hm;exact⟨_,rfl⟩
   ·exact⟨_,List.eq_of_mem_replicate hm⟩
structure B5(fr:PT)(ov:AV)(i:Nat):Prop where
 f1:fr.get 1=ov
 f2:fr.get 2=.ptr 0 0 0
 f5:fr.get 5=.ptr 2 0 0
 f6:fr.get 6=.ptr 3 0 0
 f7:fr.get 7=iv i
theorem B5.of{fr fr':PT}{ov:AV}{i:Nat}(F:B5 fr ov i)(h:∀t,(t=1∨t=2∨t=5∨t=6∨t=7)→fr'.get t=fr.get t):B5 fr' ov i :=
 ⟨by rw[h 1 (by simp),F.f1],by rw[h 2 (by simp),F.f2],by rw[h 5 (by simp),F.f5],by rw[h 6 (by simp),F.f6],by rw[h 7 (by simp),F.f7]⟩
def Rest(sl:List (List AV))(i:Nat):Prop:=∀j,i≤j→j<5→∃c,sl[j]?=some c∧liveC c=false
section
variable {ov:AV} {fa:List AV} {sl HV:List (List AV)}
noncomputable abbrev fr5:Code:=(.seq (.seq (.region 8 g5_8 false) (.cond (.tmp 27) .skip (.exit 0))) (.seq (.block 1 (.seq (.region 10 g5_9 true) (.seq (.region 11 g5_10 false) (.seq (.seq (.region 12 g5_11 false) (.cond (.tmp 62) (.seq (.region 13 g5_12 false) .ret) .skip)) (.region 14 g5_13 false))))) (.region 9 g5_14 false)))
theorem first_one(hfa:Fas fa){i:Nat}{G:Hp}(hi:i<5)(A:ASt G (fun _=>True) fa sl HV)(hF:Full G (fun _=>True) sl HV i)(hR:Rest sl i){fr:PT}(F:B5 fr ov i):
  ∃fr' G' sl' HV',ex cx D 0 5 174 fr5 fr G=some (.normal,fr',G')∧B5 fr' ov (i+1)∧ASt G' (fun _=>True) fa sl' HV'∧Full G' (fun _=>True) sl' HV' (i+1)∧Rest sl' (i+1):=by
 have h4:4≤G.length:=by have:=lt_of_get A.h3;omega
 have hlt:(i:Int)<5:=by omega
 have w1:wrapK .i64 (10+(i:Int))=((10+i:Nat):Int):=by rw[wrapK_i64 (by omega) (by omega)];omega
 have w3:=wrap_s (i:=i) (by omega)
 obtain⟨v,xs,hv,Sv⟩:=hfa i hi
 have a2:aindexAddr cx.T 50 (.ptr 0 0 0) (iv i)=some (.ptr 0 0 i):=by
  rw[aindexAddr_arr (n:=i) (k:=.i64) ar50 (.ptr 0 0 0),if_pos hi]
  show some (AV.ptr 0 0 (0+i*1))=_
  rw[Nat.zero_add,Nat.mul_one]
 have hm:aminmax false [iv xs.length,iv 16]=some (iv ((min xs.length 16:Nat):Int)):=min_lit xs.length 16
 obtain⟨w,hw1,hw2⟩:=aslice_take (n:=min xs.length 16) Sv sl39 (by rw[List.length_map];omega)
 rw[←List.map_take]at hw2
 have hyl:(xs.take (min xs.length 16)).length≤16:=by rw[List.length_take];omega
 generalize xs.take (min xs.length 16)=ys at *
 obtain⟨c,hc,hcl⟩:=hR i (Nat.le_refl _) hi
 obtain⟨L,key⟩:=add_full (ro:=0) (t:=((10+i:Nat):Int)) A.T (Nat.zero_le _) (Nat.zero_le _) (by rw[A.l5];decide) hw2 hyl hc hcl (fun j c hj hjc=>by
  obtain⟨d,e,h1,h2,h3⟩:=hF j hj
  obtain⟨_,_,_,hd,_⟩:=h3.ex
  rw[h1]at hjc
  cases hjc
  exact liveC_true hd.len)
 obtain⟨d,hd,Fd⟩:=newC_fr (t:=((10+i:Nat):Int)) hyl
 rw[hd]at key
 have T1:=TblAt.put (k:=i) A.T Fd.len
 obtain⟨G1,hG1⟩:∃G1,G.set 1 (.cells 20 185 ((sl.set i (d++[bv true])).map .agg))++L=G1:=⟨_,rfl⟩
 rw[hG1]at key
 have A1:ASt G1 (fun _=>True) fa (sl.set i (d++[bv true])) HV:=by
  have B:ASt (G.set 1 (.cells 20 185 ((sl.set i (d++[bv true])).map .agg))) (fun _=>True) fa (sl.set i (d++[bv true])) HV :=
   ⟨by rw[hp_ne (by decide)];exact A.g0,T1,by rw[hp_ne (by decide)];exact A.h3,A.hl,by rw[List.length_set];exact A.l5,A.k5⟩
  have:=B.grow (L:=L)
  rw[hG1]at this
  exact this
 have lo1:∀b,4≤b→b<G.length→G1[b]?=G[b]?:=fun b hb4 hb=>by rw[←hG1,hp_get_l (by rw[List.length_set];exact hb),hp_ne (by omega)]
 have hG1l:G.length≤G1.length:=by rw[←hG1,List.length_append,List.length_set];omega
 have sN:Sl 1 (.lit (.slice none 0 0)) []:=.inr (.inr ⟨rfl,rfl⟩)
 obtain⟨L2,sv,key2,Fr⟩:=get_on (ro:=0) (i:=i) (xs:=[]) A1.T (Nat.zero_le _) (by rw[A1.l5];decide) Fd (.inl sN) (by decide) (by rw[List.getElem?_set_self (by rw[A.l5];exact hi)])
 have Ssv:Sl 1 sv []:=by
  rcases Fr.st with h | ⟨h,_⟩
  ·exact h
  ·exact absurd rfl h
 have Fd':=Fd.set sv
 have e6:=Fd'.len
 have e7:(d.set 2 sv).map Abs.shr=d.set 2 sv:=Fd'.map (fun _=>rfl) Ssv.shr
 have e8:=Fd'.take
 obtain⟨G2,hG2⟩:∃G2,G1++L2=G2:=⟨_,rfl⟩
 rw[hG2]at key2
 obtain⟨p,hp⟩:∃p,G2.length=p:=⟨_,rfl⟩
 have A2:ASt (G2++[ABlock.cells 19 44 [.agg (d.set 2 sv)]]) (fun _=>True) fa (sl.set i (d++[bv true])) HV:=by rw[←hG2];exact A1.grow.grow
 have hW:(G2++[ABlock.cells 19 44 [.agg (d.set 2 sv)]])[p]?=some (.cells 19 44 [.agg (d.set 2 sv)]):=by rw[hp_get_r0 hp];rfl
 have hput:=put_have A2.hl A2.k5 A2.h3 hi e6
 have hidx:aindexAddr cx.T 51 (.ptr 3 0 0) (iv i)=some (.ptr 3 0 (i*19)):=by
  rw[aindexAddr_arr (n:=i) (k:=.i64) ar51 (.ptr 3 0 0),if_pos hi]
  show some (AV.ptr 3 0 (0+i*19))=_
  rw[Nat.zero_add]
 obtain⟨fr1,p1,F1⟩:∃fr1,ex cx D 0 5 174 (.seq (.region 8 g5_8 false) (.cond (.tmp 27) .skip (.exit 0))) fr G=some (.normal,fr1,G)∧B5 fr1 ov i:=by
  simp -implicitDefEqProofs (maxDischargeDepth:=4) only[go_sem,decide_true,decide_false,beq_self_eq_true,↓reduceIte,Nat.reduceLT,Nat.reduceAdd,Nat.reduceMul,Nat.reduceSub,Nat.reduceEqDiff,Nat.reduceLeDiff,Nat.reduceBEq,reduceCtorEq,Nat.succ_ne_zero,Bool.not_true,Bool.not_false,Bool.true_eq_false,Bool.false_eq_true,Bool.true_beq,Bool.false_beq,Int.reduceLT,Int.reduceLE,Int.reduceEq,Int.reduceNe,ne_eq,not_false_eq_true,not_true_eq_false,List.getElem?_cons_zero,List.getElem?_cons_succ,List.length_cons,List.length_nil,List.all_cons,List.all_nil,Bool.and_true,Bool.and_self,Bool.true_and,Bool.false_and,Bool.and_false,Bool.or_true,Bool.or_false,Bool.true_or,Bool.false_or,Bool.or_self,List.elem_cons,List.elem_nil,Nat.add_zero,Nat.zero_add,or_self,or_false,false_or,true_or,or_true,and_true,true_and,and_false,false_and,and_self,List.mem_cons,List.not_mem_nil,Nat.reducePow,elAt_eq,stV_eq,cellsB_cells,hp_get_r,hp_get_r0,hp_get_l,hp_set_r,hp_set_r0,hp_set_l,hp_one,hp_ne,List.drop_succ_cons,List.drop_zero,List.take_succ_cons,List.take_zero,F.f7,hlt]
  exact⟨_,rfl,F.of fun t ht=>by rcases ht with rfl | rfl | rfl | rfl | rfl<;>simp -implicitDefEqProofs (maxDischargeDepth:=4) only[go_sem,decide_true,decide_false,beq_self_eq_true,↓reduceIte,Nat.reduceLT,Nat.reduceAdd,Nat.reduceMul,Nat.reduceSub,Nat.reduceEqDiff,Nat.reduceLeDiff,Nat.reduceBEq,reduceCtorEq,Nat.succ_ne_zero,Bool.not_true,Bool.not_false,Bool.true_eq_false,Bool.false_eq_true,Bool.true_beq,Bool.false_beq,Int.reduceLT,Int.reduceLE,Int.reduceEq,Int.reduceNe,ne_eq,not_false_eq_true,not_true_eq_false,List.getElem?_cons_zero,List.getElem?_cons_succ,List.length_cons,List.length_nil,List.all_cons,List.all_nil,Bool.and_true,Bool.and_self,Bool.true_and,Bool.false_and,Bool.and_false,Bool.or_true,Bool.or_false,Bool.true_or,Bool.false_or,Bool.or_self,List.elem_cons,List.elem_nil,Nat.add_zero,Nat.zero_add,or_self,or_false,false_or,true_or,or_true,and_true,true_and,and_false,false_and,and_self,List.mem_cons,List.not_mem_nil,Nat.reducePow]⟩
 obtain⟨fr2,p2,F2,k8,k9⟩:∃fr2,ex cx D 0 5 174 (.region 10 g5_9 true) fr1 G=some (.normal,fr2,G1)∧B5 fr2 ov i∧fr2.get 8=iv i∧fr2.get 9=iv 0:=by
  simp -implicitDefEqProofs (maxDischargeDepth:=4) only[go_sem,decide_true,decide_false,beq_self_eq_true,↓reduceIte,Nat.reduceLT,Nat.reduceAdd,Nat.reduceMul,Nat.reduceSub,Nat.reduceEqDiff,Nat.reduceLeDiff,Nat.reduceBEq,reduceCtorEq,Nat.succ_ne_zero,Bool.not_true,Bool.not_false,Bool.true_eq_false,Bool.false_eq_true,Bool.true_beq,Bool.false_beq,Int.reduceLT,Int.reduceLE,Int.reduceEq,Int.reduceNe,ne_eq,not_false_eq_true,not_true_eq_false,List.getElem?_cons_zero,List.getElem?_cons_succ,List.length_cons,List.length_nil,List.all_cons,List.all_nil,Bool.and_true,Bool.and_self,Bool.true_and,Bool.false_and,Bool.and_false,Bool.or_true,Bool.or_false,Bool.true_or,Bool.false_or,Bool.or_self,List.elem_cons,List.elem_nil,Nat.add_zero,Nat.zero_add,or_self,or_false,false_or,true_or,or_true,and_true,true_and,and_false,false_and,and_self,List.mem_cons,List.not_mem_nil,Nat.reducePow,elAt_eq,stV_eq,cellsB_cells,hp_get_r,hp_get_r0,hp_get_l,hp_set_r,hp_set_r0,hp_set_l,hp_one,hp_ne,List.drop_succ_cons,List.drop_zero,List.take_succ_cons,List.take_zero,F1.f2,F1.f5,F1.f7,w1,A.g0,a2,hv,Sv.shr,Sv.notOwn,Sv.lenRd,alen_sl Sv,sl39,Option.isSome_some,List.length_map,hm,hw1,hw2.shr,hw2.notOwn,hw2.drp,den_call_eq,key,nbeq,Nat.zero_le,Nat.le_refl,Nat.not_lt_zero]
  exact⟨_,rfl,F1.of fun t ht=>by rcases ht with rfl | rfl | rfl | rfl | rfl<;>simp -implicitDefEqProofs (maxDischargeDepth:=4) only[go_sem,decide_true,decide_false,beq_self_eq_true,↓reduceIte,Nat.reduceLT,Nat.reduceAdd,Nat.reduceMul,Nat.reduceSub,Nat.reduceEqDiff,Nat.reduceLeDiff,Nat.reduceBEq,reduceCtorEq,Nat.succ_ne_zero,Bool.not_true,Bool.not_false,Bool.true_eq_false,Bool.false_eq_true,Bool.true_beq,Bool.false_beq,Int.reduceLT,Int.reduceLE,Int.reduceEq,Int.reduceNe,ne_eq,not_false_eq_true,not_true_eq_false,List.getElem?_cons_zero,List.getElem?_cons_succ,List.length_cons,List.length_nil,List.all_cons,List.all_nil,Bool.and_true,Bool.and_self,Bool.true_and,Bool.false_and,Bool.and_false,Bool.or_true,Bool.or_false,Bool.true_or,Bool.false_or,Bool.or_self,List.elem_cons,List.elem_nil,Nat.add_zero,Nat.zero_add,or_self,or_false,false_or,true_or,or_true,and_true,true_and,and_false,false_and,and_self,List.mem_cons,List.not_mem_nil,Nat.reducePow],by simp -implicitDefEqProofs (maxDischargeDepth:=4) only[go_sem,decide_true,decide_false,beq_self_eq_true,↓reduceIte,Nat.reduceLT,Nat.reduceAdd,Nat.reduceMul,Nat.reduceSub,Nat.reduceEqDiff,Nat.reduceLeDiff,Nat.reduceBEq,reduceCtorEq,Nat.succ_ne_zero,Bool.not_true,Bool.not_false,Bool.true_eq_false,Bool.false_eq_true,Bool.true_beq,Bool.false_beq,Int.reduceLT,Int.reduceLE,Int.reduceEq,Int.reduceNe,ne_eq,not_false_eq_true,not_true_eq_false,List.getElem?_cons_zero,List.getElem?_cons_succ,List.length_cons,List.length_nil,List.all_cons,List.all_nil,Bool.and_true,Bool.and_self,Bool.true_and,Bool.false_and,Bool.and_false,Bool.or_true,Bool.or_false,Bool.true_or,Bool.false_or,Bool.or_self,List.elem_cons,List.elem_nil,Nat.add_zero,Nat.zero_add,or_self,or_false,false_or,true_or,or_true,and_true,true_and,and_false,false_and,and_self,List.mem_cons,List.not_mem_nil,Nat.reducePow],by simp -implicitDefEqProofs (maxDischargeDepth:=4) only[go_sem,decide_true,decide_false,beq_self_eq_true,↓reduceIte,Nat.reduceLT,Nat.reduceAdd,Nat.reduceMul,Nat.reduceSub,Nat.reduceEqDiff,Nat.reduceLeDiff,Nat.reduceBEq,reduceCtorEq,Nat.succ_ne_zero,Bool.not_true,Bool.not_false,Bool.true_eq_false,Bool.false_eq_true,Bool.true_beq,Bool.false_beq,Int.reduceLT,Int.reduceLE,Int.reduceEq,Int.reduceNe,ne_eq,not_false_eq_true,not_true_eq_false,List.getElem?_cons_zero,List.getElem?_cons_succ,List.length_cons,List.length_nil,List.all_cons,List.all_nil,Bool.and_true,Bool.and_self,Bool.true_and,Bool.false_and,Bool.and_false,Bool.or_true,Bool.or_false,Bool.true_or,Bool.false_or,Bool.or_self,List.elem_cons,List.elem_nil,Nat.add_zero,Nat.zero_add,or_self,or_false,false_or,true_or,or_true,and_true,true_and,and_false,false_and,and_self,List.mem_cons,List.not_mem_nil,Nat.reducePow]⟩
 obtain⟨fr3,p3,F3,m8,m9,m10,m11⟩:∃fr3,ex cx D 0 5 174 (.region 11 g5_10 false) fr2 G1=some (.normal,fr3,G2++[.cells 19 44 [.agg (d.set 2 sv)]])∧B5 fr3 ov i∧fr3.get 8=iv i∧fr3.get 9=iv 0∧fr3.get 10=.ptr p 0 0∧fr3.get 11=bv true:=by
  simp -implicitDefEqProofs (maxDischargeDepth:=4) only[go_sem,decide_true,decide_false,beq_self_eq_true,↓reduceIte,Nat.reduceLT,Nat.reduceAdd,Nat.reduceMul,Nat.reduceSub,Nat.reduceEqDiff,Nat.reduceLeDiff,Nat.reduceBEq,reduceCtorEq,Nat.succ_ne_zero,Bool.not_true,Bool.not_false,Bool.true_eq_false,Bool.false_eq_true,Bool.true_beq,Bool.false_beq,Int.reduceLT,Int.reduceLE,Int.reduceEq,Int.reduceNe,ne_eq,not_false_eq_true,not_true_eq_false,List.getElem?_cons_zero,List.getElem?_cons_succ,List.length_cons,List.length_nil,List.all_cons,List.all_nil,Bool.and_true,Bool.and_self,Bool.true_and,Bool.false_and,Bool.and_false,Bool.or_true,Bool.or_false,Bool.true_or,Bool.false_or,Bool.or_self,List.elem_cons,List.elem_nil,Nat.add_zero,Nat.zero_add,or_self,or_false,false_or,true_or,or_true,and_true,true_and,and_false,false_and,and_self,List.mem_cons,List.not_mem_nil,Nat.reducePow,elAt_eq,stV_eq,cellsB_cells,hp_get_r,hp_get_r0,hp_get_l,hp_set_r,hp_set_r0,hp_set_l,hp_one,hp_ne,List.drop_succ_cons,List.drop_zero,List.take_succ_cons,List.take_zero,F2.f5,F2.f7,den_call_eq,key2,hp,e6,e7,e8,Nat.zero_le,Nat.not_lt_zero]
  exact⟨_,rfl,F2.of fun t ht=>by rcases ht with rfl | rfl | rfl | rfl | rfl<;>simp -implicitDefEqProofs (maxDischargeDepth:=4) only[go_sem,decide_true,decide_false,beq_self_eq_true,↓reduceIte,Nat.reduceLT,Nat.reduceAdd,Nat.reduceMul,Nat.reduceSub,Nat.reduceEqDiff,Nat.reduceLeDiff,Nat.reduceBEq,reduceCtorEq,Nat.succ_ne_zero,Bool.not_true,Bool.not_false,Bool.true_eq_false,Bool.false_eq_true,Bool.true_beq,Bool.false_beq,Int.reduceLT,Int.reduceLE,Int.reduceEq,Int.reduceNe,ne_eq,not_false_eq_true,not_true_eq_false,List.getElem?_cons_zero,List.getElem?_cons_succ,List.length_cons,List.length_nil,List.all_cons,List.all_nil,Bool.and_true,Bool.and_self,Bool.true_and,Bool.false_and,Bool.and_false,Bool.or_true,Bool.or_false,Bool.true_or,Bool.false_or,Bool.or_self,List.elem_cons,List.elem_nil,Nat.add_zero,Nat.zero_add,or_self,or_false,false_or,true_or,or_true,and_true,true_and,and_false,false_and,and_self,List.mem_cons,List.not_mem_nil,Nat.reducePow],by simp -implicitDefEqProofs (maxDischargeDepth:=4) only[go_sem,decide_true,decide_false,beq_self_eq_true,↓reduceIte,Nat.reduceLT,Nat.reduceAdd,Nat.reduceMul,Nat.reduceSub,Nat.reduceEqDiff,Nat.reduceLeDiff,Nat.reduceBEq,reduceCtorEq,Nat.succ_ne_zero,Bool.not_true,Bool.not_false,Bool.true_eq_false,Bool.false_eq_true,Bool.true_beq,Bool.false_beq,Int.reduceLT,Int.reduceLE,Int.reduceEq,Int.reduceNe,ne_eq,not_false_eq_true,not_true_eq_false,List.getElem?_cons_zero,List.getElem?_cons_succ,List.length_cons,List.length_nil,List.all_cons,List.all_nil,Bool.and_true,Bool.and_self,Bool.true_and,Bool.false_and,Bool.and_false,Bool.or_true,Bool.or_false,Bool.true_or,Bool.false_or,Bool.or_self,List.elem_cons,List.elem_nil,Nat.add_zero,Nat.zero_add,or_self,or_false,false_or,true_or,or_true,and_true,true_and,and_false,false_and,and_self,List.mem_cons,List.not_mem_nil,Nat.reducePow,k8],by simp -implicitDefEqProofs (maxDischargeDepth:=4) only[go_sem,decide_true,decide_false,beq_self_eq_true,↓reduceIte,Nat.reduceLT,Nat.reduceAdd,Nat.reduceMul,Nat.reduceSub,Nat.reduceEqDiff,Nat.reduceLeDiff,Nat.reduceBEq,reduceCtorEq,Nat.succ_ne_zero,Bool.not_true,Bool.not_false,Bool.true_eq_false,Bool.false_eq_true,Bool.true_beq,Bool.false_beq,Int.reduceLT,Int.reduceLE,Int.reduceEq,Int.reduceNe,ne_eq,not_false_eq_true,not_true_eq_false,List.getElem?_cons_zero,List.getElem?_cons_succ,List.length_cons,List.length_nil,List.all_cons,List.all_nil,Bool.and_true,Bool.and_self,Bool.true_and,Bool.false_and,Bool.and_false,Bool.or_true,Bool.or_false,Bool.true_or,Bool.false_or,Bool.or_self,List.elem_cons,List.elem_nil,Nat.add_zero,Nat.zero_add,or_self,or_false,false_or,true_or,or_true,and_true,true_and,and_false,false_and,and_self,List.mem_cons,List.not_mem_nil,Nat.reducePow,k9],by simp -implicitDefEqProofs (maxDischargeDepth:=4) only[go_sem,decide_true,decide_false,beq_self_eq_true,↓reduceIte,Nat.reduceLT,Nat.reduceAdd,Nat.reduceMul,Nat.reduceSub,Nat.reduceEqDiff,Nat.reduceLeDiff,Nat.reduceBEq,reduceCtorEq,Nat.succ_ne_zero,Bool.not_true,Bool.not_false,Bool.true_eq_false,Bool.false_eq_true,Bool.true_beq,Bool.false_beq,Int.reduceLT,Int.reduceLE,Int.reduceEq,Int.reduceNe,ne_eq,not_false_eq_true,not_true_eq_false,List.getElem?_cons_zero,List.getElem?_cons_succ,List.length_cons,List.length_nil,List.all_cons,List.all_nil,Bool.and_true,Bool.and_self,Bool.true_and,Bool.false_and,Bool.and_false,Bool.or_true,Bool.or_false,Bool.true_or,Bool.false_or,Bool.or_self,List.elem_cons,List.elem_nil,Nat.add_zero,Nat.zero_add,or_self,or_false,false_or,true_or,or_true,and_true,true_and,and_false,false_and,and_self,List.mem_cons,List.not_mem_nil,Nat.reducePow],by simp -implicitDefEqProofs (maxDischargeDepth:=4) only[go_sem,decide_true,decide_false,beq_self_eq_true,↓reduceIte,Nat.reduceLT,Nat.reduceAdd,Nat.reduceMul,Nat.reduceSub,Nat.reduceEqDiff,Nat.reduceLeDiff,Nat.reduceBEq,reduceCtorEq,Nat.succ_ne_zero,Bool.not_true,Bool.not_false,Bool.true_eq_false,Bool.false_eq_true,Bool.true_beq,Bool.false_beq,Int.reduceLT,Int.reduceLE,Int.reduceEq,Int.reduceNe,ne_eq,not_false_eq_true,not_true_eq_false,List.getElem?_cons_zero,List.getElem?_cons_succ,List.length_cons,List.length_nil,List.all_cons,List.all_nil,Bool.and_true,Bool.and_self,Bool.true_and,Bool.false_and,Bool.and_false,Bool.or_true,Bool.or_false,Bool.true_or,Bool.false_or,Bool.or_self,List.elem_cons,List.elem_nil,Nat.add_zero,Nat.zero_add,or_self,or_false,false_or,true_or,or_true,and_true,true_and,and_false,false_and,and_self,List.mem_cons,List.not_mem_nil,Nat.reducePow]⟩
 obtain⟨G3,hG3⟩:∃G3,G2++[ABlock.cells 19 44 [.agg (d.set 2 sv)]]=G3:=⟨_,rfl⟩
 rw[hG3]at p3 A2 hW hput
 obtain⟨fr4,p4,F4,n10⟩:∃fr4,ex cx D 0 5 174 (.seq (.region 12 g5_11 false) (.cond (.tmp 62) (.seq (.region 13 g5_12 false) .ret) .skip)) fr3 G3=some (.normal,fr4,G3)∧B5 fr4 ov i∧fr4.get 10=.ptr p 0 0:=by
  simp -implicitDefEqProofs (maxDischargeDepth:=4) only[go_sem,decide_true,decide_false,beq_self_eq_true,↓reduceIte,Nat.reduceLT,Nat.reduceAdd,Nat.reduceMul,Nat.reduceSub,Nat.reduceEqDiff,Nat.reduceLeDiff,Nat.reduceBEq,reduceCtorEq,Nat.succ_ne_zero,Bool.not_true,Bool.not_false,Bool.true_eq_false,Bool.false_eq_true,Bool.true_beq,Bool.false_beq,Int.reduceLT,Int.reduceLE,Int.reduceEq,Int.reduceNe,ne_eq,not_false_eq_true,not_true_eq_false,List.getElem?_cons_zero,List.getElem?_cons_succ,List.length_cons,List.length_nil,List.all_cons,List.all_nil,Bool.and_true,Bool.and_self,Bool.true_and,Bool.false_and,Bool.and_false,Bool.or_true,Bool.or_false,Bool.true_or,Bool.false_or,Bool.or_self,List.elem_cons,List.elem_nil,Nat.add_zero,Nat.zero_add,or_self,or_false,false_or,true_or,or_true,and_true,true_and,and_false,false_and,and_self,List.mem_cons,List.not_mem_nil,Nat.reducePow,elAt_eq,stV_eq,cellsB_cells,hp_get_r,hp_get_r0,hp_get_l,hp_set_r,hp_set_r0,hp_set_l,hp_one,hp_ne,List.drop_succ_cons,List.drop_zero,List.take_succ_cons,List.take_zero,F3.f7,m8,m9,m10,m11,u_not]
  exact⟨_,rfl,F3.of fun t ht=>by rcases ht with rfl | rfl | rfl | rfl | rfl<;>simp -implicitDefEqProofs (maxDischargeDepth:=4) only[go_sem,decide_true,decide_false,beq_self_eq_true,↓reduceIte,Nat.reduceLT,Nat.reduceAdd,Nat.reduceMul,Nat.reduceSub,Nat.reduceEqDiff,Nat.reduceLeDiff,Nat.reduceBEq,reduceCtorEq,Nat.succ_ne_zero,Bool.not_true,Bool.not_false,Bool.true_eq_false,Bool.false_eq_true,Bool.true_beq,Bool.false_beq,Int.reduceLT,Int.reduceLE,Int.reduceEq,Int.reduceNe,ne_eq,not_false_eq_true,not_true_eq_false,List.getElem?_cons_zero,List.getElem?_cons_succ,List.length_cons,List.length_nil,List.all_cons,List.all_nil,Bool.and_true,Bool.and_self,Bool.true_and,Bool.false_and,Bool.and_false,Bool.or_true,Bool.or_false,Bool.true_or,Bool.false_or,Bool.or_self,List.elem_cons,List.elem_nil,Nat.add_zero,Nat.zero_add,or_self,or_false,false_or,true_or,or_true,and_true,true_and,and_false,false_and,and_self,List.mem_cons,List.not_mem_nil,Nat.reducePow],by simp -implicitDefEqProofs (maxDischargeDepth:=4) only[go_sem,decide_true,decide_false,beq_self_eq_true,↓reduceIte,Nat.reduceLT,Nat.reduceAdd,Nat.reduceMul,Nat.reduceSub,Nat.reduceEqDiff,Nat.reduceLeDiff,Nat.reduceBEq,reduceCtorEq,Nat.succ_ne_zero,Bool.not_true,Bool.not_false,Bool.true_eq_false,Bool.false_eq_true,Bool.true_beq,Bool.false_beq,Int.reduceLT,Int.reduceLE,Int.reduceEq,Int.reduceNe,ne_eq,not_false_eq_true,not_true_eq_false,List.getElem?_cons_zero,List.getElem?_cons_succ,List.length_cons,List.length_nil,List.all_cons,List.all_nil,Bool.and_true,Bool.and_self,Bool.true_and,Bool.false_and,Bool.and_false,Bool.or_true,Bool.or_false,Bool.true_or,Bool.false_or,Bool.or_self,List.elem_cons,List.elem_nil,Nat.add_zero,Nat.zero_add,or_self,or_false,false_or,true_or,or_true,and_true,true_and,and_false,false_and,and_self,List.mem_cons,List.not_mem_nil,Nat.reducePow,m10]⟩
 obtain⟨fr5',p5,F5'⟩:∃fr5',ex cx D 0 5 174 (.region 14 g5_13 false) fr4 G3=some (.normal,fr5',G3.set 3 (.cells 95 51 [.agg (HV.set i (d.set 2 sv)).flatten]))∧B5 fr5' ov i:=by
  simp -implicitDefEqProofs (maxDischargeDepth:=4) only[go_sem,decide_true,decide_false,beq_self_eq_true,↓reduceIte,Nat.reduceLT,Nat.reduceAdd,Nat.reduceMul,Nat.reduceSub,Nat.reduceEqDiff,Nat.reduceLeDiff,Nat.reduceBEq,reduceCtorEq,Nat.succ_ne_zero,Bool.not_true,Bool.not_false,Bool.true_eq_false,Bool.false_eq_true,Bool.true_beq,Bool.false_beq,Int.reduceLT,Int.reduceLE,Int.reduceEq,Int.reduceNe,ne_eq,not_false_eq_true,not_true_eq_false,List.getElem?_cons_zero,List.getElem?_cons_succ,List.length_cons,List.length_nil,List.all_cons,List.all_nil,Bool.and_true,Bool.and_self,Bool.true_and,Bool.false_and,Bool.and_false,Bool.or_true,Bool.or_false,Bool.true_or,Bool.false_or,Bool.or_self,List.elem_cons,List.elem_nil,Nat.add_zero,Nat.zero_add,or_self,or_false,false_or,true_or,or_true,and_true,true_and,and_false,false_and,and_self,List.mem_cons,List.not_mem_nil,Nat.reducePow,elAt_eq,stV_eq,cellsB_cells,hp_get_r,hp_get_r0,hp_get_l,hp_set_r,hp_set_r0,hp_set_l,hp_one,hp_ne,List.drop_succ_cons,List.drop_zero,List.take_succ_cons,List.take_zero,F4.f6,F4.f7,n10,hW,e6,e7,e8,hidx,hput]
  exact⟨_,rfl,F4.of fun t ht=>by rcases ht with rfl | rfl | rfl | rfl | rfl<;>simp -implicitDefEqProofs (maxDischargeDepth:=4) only[go_sem,decide_true,decide_false,beq_self_eq_true,↓reduceIte,Nat.reduceLT,Nat.reduceAdd,Nat.reduceMul,Nat.reduceSub,Nat.reduceEqDiff,Nat.reduceLeDiff,Nat.reduceBEq,reduceCtorEq,Nat.succ_ne_zero,Bool.not_true,Bool.not_false,Bool.true_eq_false,Bool.false_eq_true,Bool.true_beq,Bool.false_beq,Int.reduceLT,Int.reduceLE,Int.reduceEq,Int.reduceNe,ne_eq,not_false_eq_true,not_true_eq_false,List.getElem?_cons_zero,List.getElem?_cons_succ,List.length_cons,List.length_nil,List.all_cons,List.all_nil,Bool.and_true,Bool.and_self,Bool.true_and,Bool.false_and,Bool.and_false,Bool.or_true,Bool.or_false,Bool.true_or,Bool.false_or,Bool.or_self,List.elem_cons,List.elem_nil,Nat.add_zero,Nat.zero_add,or_self,or_false,false_or,true_or,or_true,and_true,true_and,and_false,false_and,and_self,List.mem_cons,List.not_mem_nil,Nat.reducePow]⟩
 obtain⟨G4,hG4⟩:∃G4,G3.set 3 (.cells 95 51 [.agg (HV.set i (d.set 2 sv)).flatten])=G4:=⟨_,rfl⟩
 rw[hG4]at p5
 obtain⟨fr6,p6,F6⟩:∃fr6,ex cx D 0 5 174 (.region 9 g5_14 false) fr5' G4=some (.normal,fr6,G4)∧B5 fr6 ov (i+1):=by
  simp -implicitDefEqProofs (maxDischargeDepth:=4) only[go_sem,decide_true,decide_false,beq_self_eq_true,↓reduceIte,Nat.reduceLT,Nat.reduceAdd,Nat.reduceMul,Nat.reduceSub,Nat.reduceEqDiff,Nat.reduceLeDiff,Nat.reduceBEq,reduceCtorEq,Nat.succ_ne_zero,Bool.not_true,Bool.not_false,Bool.true_eq_false,Bool.false_eq_true,Bool.true_beq,Bool.false_beq,Int.reduceLT,Int.reduceLE,Int.reduceEq,Int.reduceNe,ne_eq,not_false_eq_true,not_true_eq_false,List.getElem?_cons_zero,List.getElem?_cons_succ,List.length_cons,List.length_nil,List.all_cons,List.all_nil,Bool.and_true,Bool.and_self,Bool.true_and,Bool.false_and,Bool.and_false,Bool.or_true,Bool.or_false,Bool.true_or,Bool.false_or,Bool.or_self,List.elem_cons,List.elem_nil,Nat.add_zero,Nat.zero_add,or_self,or_false,false_or,true_or,or_true,and_true,true_and,and_false,false_and,and_self,List.mem_cons,List.not_mem_nil,Nat.reducePow,F5'.f7,w3]
  exact⟨_,rfl,by simp -implicitDefEqProofs (maxDischargeDepth:=4) only[go_sem,decide_true,decide_false,beq_self_eq_true,↓reduceIte,Nat.reduceLT,Nat.reduceAdd,Nat.reduceMul,Nat.reduceSub,Nat.reduceEqDiff,Nat.reduceLeDiff,Nat.reduceBEq,reduceCtorEq,Nat.succ_ne_zero,Bool.not_true,Bool.not_false,Bool.true_eq_false,Bool.false_eq_true,Bool.true_beq,Bool.false_beq,Int.reduceLT,Int.reduceLE,Int.reduceEq,Int.reduceNe,ne_eq,not_false_eq_true,not_true_eq_false,List.getElem?_cons_zero,List.getElem?_cons_succ,List.length_cons,List.length_nil,List.all_cons,List.all_nil,Bool.and_true,Bool.and_self,Bool.true_and,Bool.false_and,Bool.and_false,Bool.or_true,Bool.or_false,Bool.true_or,Bool.false_or,Bool.or_self,List.elem_cons,List.elem_nil,Nat.add_zero,Nat.zero_add,or_self,or_false,false_or,true_or,or_true,and_true,true_and,and_false,false_and,and_self,List.mem_cons,List.not_mem_nil,Nat.reducePow,F5'.f1],by simp -implicitDefEqProofs (maxDischargeDepth:=4) only[go_sem,decide_true,decide_false,beq_self_eq_true,↓reduceIte,Nat.reduceLT,Nat.reduceAdd,Nat.reduceMul,Nat.reduceSub,Nat.reduceEqDiff,Nat.reduceLeDiff,Nat.reduceBEq,reduceCtorEq,Nat.succ_ne_zero,Bool.not_true,Bool.not_false,Bool.true_eq_false,Bool.false_eq_true,Bool.true_beq,Bool.false_beq,Int.reduceLT,Int.reduceLE,Int.reduceEq,Int.reduceNe,ne_eq,not_false_eq_true,not_true_eq_false,List.getElem?_cons_zero,List.getElem?_cons_succ,List.length_cons,List.length_nil,List.all_cons,List.all_nil,Bool.and_true,Bool.and_self,Bool.true_and,Bool.false_and,Bool.and_false,Bool.or_true,Bool.or_false,Bool.true_or,Bool.false_or,Bool.or_self,List.elem_cons,List.elem_nil,Nat.add_zero,Nat.zero_add,or_self,or_false,false_or,true_or,or_true,and_true,true_and,and_false,false_and,and_self,List.mem_cons,List.not_mem_nil,Nat.reducePow,F5'.f2],by simp -implicitDefEqProofs (maxDischargeDepth:=4) only[go_sem,decide_true,decide_false,beq_self_eq_true,↓reduceIte,Nat.reduceLT,Nat.reduceAdd,Nat.reduceMul,Nat.reduceSub,Nat.reduceEqDiff,Nat.reduceLeDiff,Nat.reduceBEq,reduceCtorEq,Nat.succ_ne_zero,Bool.not_true,Bool.not_false,Bool.true_eq_false,Bool.false_eq_true,Bool.true_beq,Bool.false_beq,Int.reduceLT,Int.reduceLE,Int.reduceEq,Int.reduceNe,ne_eq,not_false_eq_true,not_true_eq_false,List.getElem?_cons_zero,List.getElem?_cons_succ,List.length_cons,List.length_nil,List.all_cons,List.all_nil,Bool.and_true,Bool.and_self,Bool.true_and,Bool.false_and,Bool.and_false,Bool.or_true,Bool.or_false,Bool.true_or,Bool.false_or,Bool.or_self,List.elem_cons,List.elem_nil,Nat.add_zero,Nat.zero_add,or_self,or_false,false_or,true_or,or_true,and_true,true_and,and_false,false_and,and_self,List.mem_cons,List.not_mem_nil,Nat.reducePow,F5'.f5],by simp -implicitDefEqProofs (maxDischargeDepth:=4) only[go_sem,decide_true,decide_false,beq_self_eq_true,↓reduceIte,Nat.reduceLT,Nat.reduceAdd,Nat.reduceMul,Nat.reduceSub,Nat.reduceEqDiff,Nat.reduceLeDiff,Nat.reduceBEq,reduceCtorEq,Nat.succ_ne_zero,Bool.not_true,Bool.not_false,Bool.true_eq_false,Bool.false_eq_true,Bool.true_beq,Bool.false_beq,Int.reduceLT,Int.reduceLE,Int.reduceEq,Int.reduceNe,ne_eq,not_false_eq_true,not_true_eq_false,List.getElem?_cons_zero,List.getElem?_cons_succ,List.length_cons,List.length_nil,List.all_cons,List.all_nil,Bool.and_true,Bool.and_self,Bool.true_and,Bool.false_and,Bool.and_false,Bool.or_true,Bool.or_false,Bool.true_or,Bool.false_or,Bool.or_self,List.elem_cons,List.elem_nil,Nat.add_zero,Nat.zero_add,or_self,or_false,false_or,true_or,or_true,and_true,true_and,and_false,false_and,and_self,List.mem_cons,List.not_mem_nil,Nat.reducePow,F5'.f6],by simp -implicitDefEqProofs (maxDischargeDepth:=4) only[go_sem,decide_true,decide_false,beq_self_eq_true,↓reduceIte,Nat.reduceLT,Nat.reduceAdd,Nat.reduceMul,Nat.reduceSub,Nat.reduceEqDiff,Nat.reduceLeDiff,Nat.reduceBEq,reduceCtorEq,Nat.succ_ne_zero,Bool.not_true,Bool.not_false,Bool.true_eq_false,Bool.false_eq_true,Bool.true_beq,Bool.false_beq,Int.reduceLT,Int.reduceLE,Int.reduceEq,Int.reduceNe,ne_eq,not_false_eq_true,not_true_eq_false,List.getElem?_cons_zero,List.getElem?_cons_succ,List.length_cons,List.length_nil,List.all_cons,List.all_nil,Bool.and_true,Bool.and_self,Bool.true_and,Bool.false_and,Bool.and_false,Bool.or_true,Bool.or_false,Bool.true_or,Bool.false_or,Bool.or_self,List.elem_cons,List.elem_nil,Nat.add_zero,Nat.zero_add,or_self,or_false,false_or,true_or,or_true,and_true,true_and,and_false,false_and,and_self,List.mem_cons,List.not_mem_nil,Nat.reducePow]⟩
 have eb:ex cx D 0 5 174 (.block 1 (.seq (.region 10 g5_9 true) (.seq (.region 11 g5_10 false) (.seq (.seq (.region 12 g5_11 false) (.cond (.tmp 62) (.seq (.region 13 g5_12 false) .ret) .skip)) (.region 14 g5_13 false))))) fr1 G=some (.normal,fr5',G4):=by
  rw[x_block,x_cont1 p2,x_cont1 p3,x_cont1 p4,p5];rfl
 have n4:∀b,b≠3→G4[b]?=G3[b]?:=fun b hb=>by rw[←hG4,hp_ne (Ne.symm hb)]
 have lo3:∀b,4≤b→b<G.length→G4[b]?=G[b]?:=fun b hb4 hb=>by
  rw[n4 _ (by omega),←hG3,←hG2,List.append_assoc,hp_get_l (by omega),lo1 b hb4 hb]
 have hHV:∀e∈HV.set i (d.set 2 sv),e.length=19:=fun e he=>by
  rcases List.mem_or_eq_of_mem_set he with h | h
  ·exact A.hl e h
  ·rw[h];exact e6
 refine⟨fr6,G4,_,_,?_,F6,⟨by rw[n4 _ (by decide)];exact A2.g0,⟨by rw[n4 _ (by decide)];exact A2.T.tb,by rw[n4 _ (by decide)];exact A2.T.sb,A2.T.ne,A2.T.ok⟩,by rw[←hG4,hp_one (lt_of_get A2.h3)],hHV,A2.l5,by rw[List.length_set];exact A.k5⟩,fun j hj=>?_,fun j hj1 hj2=>?_⟩
 ·unfold fr5
  rw[x_cont1 p1,x_cont1 eb,p6]
 ·by_cases hji:j=i
  ·subst hji
   refine⟨d,d.set 2 sv,by rw[List.getElem?_set_self (by rw[A.l5];exact hi)],by rw[List.getElem?_set_self (by rw[A.k5];exact hi)],⟨_,sv,[],Fd,by rw[e7];exact Fd',.inl sN,Ssv,by decide,fun t ht=>by rw[e7,List.getElem?_set_ne (Ne.symm ht)],fun b s i n c h=>by cases h⟩⟩
  ·obtain⟨d',e',h1,h2,h3⟩:=hF j (by omega)
   exact⟨d',e',by rw[List.getElem?_set_ne (Ne.symm hji),h1],by rw[List.getElem?_set_ne (Ne.symm hji),h2],h3.move lo3 fun _ _=>trivial⟩
 ·obtain⟨c',h1,h2⟩:=hR j (by omega) hj2
  exact⟨c',by rw[List.getElem?_set_ne (by omega),h1],h2⟩
theorem first_all(hfa:Fas fa):∀(m i:Nat)(fr:PT)(G:Hp)(sl HV:List (List AV)),5-i=m→i≤5→ASt G (fun _=>True) fa sl HV→Full G (fun _=>True) sl HV i→Rest sl i→B5 fr ov i→
  ∃fr' G' sl' HV',D.loop 0 5 174 l5_0 fr G=some (.exit 0,fr',G')∧B5 fr' ov 5∧ASt G' (fun _=>True) fa sl' HV'∧Full G' (fun _=>True) sl' HV' 5
 | 0,i,fr,G,sl,HV,hm,hi,A,hF,hR,F=>by
  have e:i=5:=by omega
  subst e
  have hlt:¬(((5:Nat):Int)<5):=by omega
  obtain⟨fr1,p1,F1⟩:∃fr1,D.loop 0 5 174 l5_0 fr G=some (.exit 0,fr1,G)∧B5 fr1 ov 5:=by
   rw[dl5_0]
   simp -implicitDefEqProofs (maxDischargeDepth:=4) only[go_sem,decide_true,decide_false,beq_self_eq_true,↓reduceIte,Nat.reduceLT,Nat.reduceAdd,Nat.reduceMul,Nat.reduceSub,Nat.reduceEqDiff,Nat.reduceLeDiff,Nat.reduceBEq,reduceCtorEq,Nat.succ_ne_zero,Bool.not_true,Bool.not_false,Bool.true_eq_false,Bool.false_eq_true,Bool.true_beq,Bool.false_beq,Int.reduceLT,Int.reduceLE,Int.reduceEq,Int.reduceNe,ne_eq,not_false_eq_true,not_true_eq_false,List.getElem?_cons_zero,List.getElem?_cons_succ,List.length_cons,List.length_nil,List.all_cons,List.all_nil,Bool.and_true,Bool.and_self,Bool.true_and,Bool.false_and,Bool.and_false,Bool.or_true,Bool.or_false,Bool.true_or,Bool.false_or,Bool.or_self,List.elem_cons,List.elem_nil,Nat.add_zero,Nat.zero_add,or_self,or_false,false_or,true_or,or_true,and_true,true_and,and_false,false_and,and_self,List.mem_cons,List.not_mem_nil,Nat.reducePow,elAt_eq,stV_eq,cellsB_cells,hp_get_r,hp_get_r0,hp_get_l,hp_set_r,hp_set_r0,hp_set_l,hp_one,hp_ne,List.drop_succ_cons,List.drop_zero,List.take_succ_cons,List.take_zero,F.f7,hlt]
   exact⟨_,rfl,F.of fun t ht=>by rcases ht with rfl | rfl | rfl | rfl | rfl<;>simp -implicitDefEqProofs (maxDischargeDepth:=4) only[go_sem,decide_true,decide_false,beq_self_eq_true,↓reduceIte,Nat.reduceLT,Nat.reduceAdd,Nat.reduceMul,Nat.reduceSub,Nat.reduceEqDiff,Nat.reduceLeDiff,Nat.reduceBEq,reduceCtorEq,Nat.succ_ne_zero,Bool.not_true,Bool.not_false,Bool.true_eq_false,Bool.false_eq_true,Bool.true_beq,Bool.false_beq,Int.reduceLT,Int.reduceLE,Int.reduceEq,Int.reduceNe,ne_eq,not_false_eq_true,not_true_eq_false,List.getElem?_cons_zero,List.getElem?_cons_succ,List.length_cons,List.length_nil,List.all_cons,List.all_nil,Bool.and_true,Bool.and_self,Bool.true_and,Bool.false_and,Bool.and_false,Bool.or_true,Bool.or_false,Bool.true_or,Bool.false_or,Bool.or_self,List.elem_cons,List.elem_nil,Nat.add_zero,Nat.zero_add,or_self,or_false,false_or,true_or,or_true,and_true,true_and,and_false,false_and,and_self,List.mem_cons,List.not_mem_nil,Nat.reducePow]⟩
  exact⟨fr1,G,sl,HV,p1,F1,A,hF⟩
 | m+1,i,fr,G,sl,HV,hm,hi,A,hF,hR,F=>by
  obtain⟨fr1,G1,sl1,HV1,p1,F1,A1,hF1,hR1⟩:=first_one hfa (by omega) A hF hR F
  obtain⟨fr2,G2,sl2,HV2,p2,F2,A2,hF2⟩:=first_all hfa m (i+1) fr1 G1 sl1 HV1 (by omega) (by omega) A1 hF1 hR1 F1
  refine⟨fr2,G2,sl2,HV2,?_,F2,A2,hF2⟩
  rw[dl5_0,show ex cx (den cx) 0 5 174 fr5 fr G=_ from p1,xbind_some,contR_normal]
  exact p2
end
theorem ze51:zeroT cx.T 51=some (95,.agg (List.flatten (List.replicate 5 zeroF))):=nk
theorem liveL_all:∀(i:Nat)(sl:List (List AV)),(∀c∈sl,liveC c=true)→(liveL i sl).length=sl.length
 | _,[],_=>rfl
 | i,c::l,h=>by
  unfold liveL
  rw[if_pos (h c (List.mem_cons_self ..)),List.length_cons,List.length_cons,liveL_all (i+1) l fun y hy=>h y (List.mem_cons_of_mem _ hy)]
theorem Full.live{G:Hp}{U:Nat→Prop}{sl HV:List (List AV)}(h:Full G U sl HV 5)(l5:sl.length=5):∀c∈sl,liveC c=true:=fun c hc=>by
 obtain⟨j,hj⟩:=List.getElem?_of_mem hc
 have hlt:=(List.getElem?_eq_some_iff.1 hj).1
 obtain⟨d,e,h1,h2,h3⟩:=h j (by omega)
 obtain⟨_,_,_,hd,_⟩:=h3.ex
 rw[hj]at h1
 cases h1
 exact liveC_true hd.len
theorem apart_ok{fa:List AV}(hl:fa.length=5)(hfa:Fas fa){ov:AV}{os:List Int}(ho:Sl 1 ov (os.map u8V))(hob:∀b∈os,0≤b∧b≤255):∃H',callB cx D 0 5 [.agg fa,ov] []=some (bv true,H'):=by
 have hwk:=works_ok
 have hsh:fa.map Abs.shr=fa:=by
  refine List.ext_getElem? fun j=>?_
  rw[List.getElem?_map]
  by_cases hj:j<5
  ·obtain⟨v,xs,h1,h2⟩:=hfa j hj
   rw[h1,Option.map_some,h2.shr]
  ·rw[List.getElem?_eq_none (by omega)];rfl
 have hnew:=new_ok (ro:=0) (H:=[.cells 5 50 [.agg fa]]) (n:=5) (Nat.zero_le _) (by decide) (by decide)
 have hnew':callB cx D 0 34 [iv 5] [.cells 5 50 [.agg fa]]=some (.ptr 2 0 0,[.cells 5 50 [.agg fa],.cells 20 185 (List.replicate 5 (.agg zeroC)),.cells 1 180 [.agg [.sl 1 20 0 5 5]]]):=hnew
 obtain⟨G,hG⟩:∃G:Hp,[.cells 5 50 [.agg fa],.cells 20 185 (List.replicate 5 (.agg zeroC)),.cells 1 180 [.agg [.sl 1 20 0 5 5]]]=G:=⟨_,rfl⟩
 rw[hG]at hnew'
 have hGl:G.length=3:=by rw[←hG];rfl
 obtain⟨G1,hG1⟩:∃G1:Hp,G++[.cells 95 51 [.agg (List.flatten (List.replicate 5 zeroF))]]=G1:=⟨_,rfl⟩
 obtain⟨fr1,p1,f1,f2,f5⟩:∃fr1,ex cx D 0 5 174 (.seq (.region 0 g5_0 false) (.seq (.seq (.region 1 g5_1 false) (.cond (.tmp 22) (.seq (.region 2 g5_2 false) .ret) .skip)) (.region 3 g5_3 false))) ((PT.nil.set 0 (drp (.agg fa))).set 1 (drp ov)) []=some (.normal,fr1,G)∧fr1.get 1=ov∧fr1.get 2=.ptr 0 0 0∧fr1.get 5=.ptr 2 0 0:=by
  simp -implicitDefEqProofs (maxDischargeDepth:=4) only[go_sem,decide_true,decide_false,beq_self_eq_true,↓reduceIte,Nat.reduceLT,Nat.reduceAdd,Nat.reduceMul,Nat.reduceSub,Nat.reduceEqDiff,Nat.reduceLeDiff,Nat.reduceBEq,reduceCtorEq,Nat.succ_ne_zero,Bool.not_true,Bool.not_false,Bool.true_eq_false,Bool.false_eq_true,Bool.true_beq,Bool.false_beq,Int.reduceLT,Int.reduceLE,Int.reduceEq,Int.reduceNe,ne_eq,not_false_eq_true,not_true_eq_false,List.getElem?_cons_zero,List.getElem?_cons_succ,List.length_cons,List.length_nil,List.all_cons,List.all_nil,Bool.and_true,Bool.and_self,Bool.true_and,Bool.false_and,Bool.and_false,Bool.or_true,Bool.or_false,Bool.true_or,Bool.false_or,Bool.or_self,List.elem_cons,List.elem_nil,Nat.add_zero,Nat.zero_add,or_self,or_false,false_or,true_or,or_true,and_true,true_and,and_false,false_and,and_self,List.mem_cons,List.not_mem_nil,Nat.reducePow,elAt_eq,stV_eq,cellsB_cells,hp_get_r,hp_get_r0,hp_get_l,hp_set_r,hp_set_r0,hp_set_l,hp_one,hp_ne,List.drop_succ_cons,List.drop_zero,List.take_succ_cons,List.take_zero,hsh,hl,ho.drp,hwk,u_not,den_call_eq,hnew',Nat.zero_le,Nat.not_lt_zero]
  exact⟨_,rfl,by simp -implicitDefEqProofs (maxDischargeDepth:=4) only[go_sem,decide_true,decide_false,beq_self_eq_true,↓reduceIte,Nat.reduceLT,Nat.reduceAdd,Nat.reduceMul,Nat.reduceSub,Nat.reduceEqDiff,Nat.reduceLeDiff,Nat.reduceBEq,reduceCtorEq,Nat.succ_ne_zero,Bool.not_true,Bool.not_false,Bool.true_eq_false,Bool.false_eq_true,Bool.true_beq,Bool.false_beq,Int.reduceLT,Int.reduceLE,Int.reduceEq,Int.reduceNe,ne_eq,not_false_eq_true,not_true_eq_false,List.getElem?_cons_zero,List.getElem?_cons_succ,List.length_cons,List.length_nil,List.all_cons,List.all_nil,Bool.and_true,Bool.and_self,Bool.true_and,Bool.false_and,Bool.and_false,Bool.or_true,Bool.or_false,Bool.true_or,Bool.false_or,Bool.or_self,List.elem_cons,List.elem_nil,Nat.add_zero,Nat.zero_add,or_self,or_false,false_or,true_or,or_true,and_true,true_and,and_false,false_and,and_self,List.mem_cons,List.not_mem_nil,Nat.reducePow,ho.drp],by simp -implicitDefEqProofs (maxDischargeDepth:=4) only[go_sem,decide_true,decide_false,beq_self_eq_true,↓reduceIte,Nat.reduceLT,Nat.reduceAdd,Nat.reduceMul,Nat.reduceSub,Nat.reduceEqDiff,Nat.reduceLeDiff,Nat.reduceBEq,reduceCtorEq,Nat.succ_ne_zero,Bool.not_true,Bool.not_false,Bool.true_eq_false,Bool.false_eq_true,Bool.true_beq,Bool.false_beq,Int.reduceLT,Int.reduceLE,Int.reduceEq,Int.reduceNe,ne_eq,not_false_eq_true,not_true_eq_false,List.getElem?_cons_zero,List.getElem?_cons_succ,List.length_cons,List.length_nil,List.all_cons,List.all_nil,Bool.and_true,Bool.and_self,Bool.true_and,Bool.false_and,Bool.and_false,Bool.or_true,Bool.or_false,Bool.true_or,Bool.false_or,Bool.or_self,List.elem_cons,List.elem_nil,Nat.add_zero,Nat.zero_add,or_self,or_false,false_or,true_or,or_true,and_true,true_and,and_false,false_and,and_self,List.mem_cons,List.not_mem_nil,Nat.reducePow],by simp -implicitDefEqProofs (maxDischargeDepth:=4) only[go_sem,decide_true,decide_false,beq_self_eq_true,↓reduceIte,Nat.reduceLT,Nat.reduceAdd,Nat.reduceMul,Nat.reduceSub,Nat.reduceEqDiff,Nat.reduceLeDiff,Nat.reduceBEq,reduceCtorEq,Nat.succ_ne_zero,Bool.not_true,Bool.not_false,Bool.true_eq_false,Bool.false_eq_true,Bool.true_beq,Bool.false_beq,Int.reduceLT,Int.reduceLE,Int.reduceEq,Int.reduceNe,ne_eq,not_false_eq_true,not_true_eq_false,List.getElem?_cons_zero,List.getElem?_cons_succ,List.length_cons,List.length_nil,List.all_cons,List.all_nil,Bool.and_true,Bool.and_self,Bool.true_and,Bool.false_and,Bool.and_false,Bool.or_true,Bool.or_false,Bool.true_or,Bool.false_or,Bool.or_self,List.elem_cons,List.elem_nil,Nat.add_zero,Nat.zero_add,or_self,or_false,false_or,true_or,or_true,and_true,true_and,and_false,false_and,and_self,List.mem_cons,List.not_mem_nil,Nat.reducePow]⟩
 obtain⟨fr2,p2,F2⟩:∃fr2,ex cx D 0 5 174 (.seq (.seq (.region 4 g5_4 false) (.cond (.tmp 25) (.seq (.region 5 g5_5 false) .ret) .skip)) (.seq (.region 6 g5_6 false) (.region 7 g5_7 false))) fr1 G=some (.normal,fr2,G1)∧B5 fr2 ov 0:=by
  rw[←hG1]
  simp -implicitDefEqProofs (maxDischargeDepth:=4) only[go_sem,decide_true,decide_false,beq_self_eq_true,↓reduceIte,Nat.reduceLT,Nat.reduceAdd,Nat.reduceMul,Nat.reduceSub,Nat.reduceEqDiff,Nat.reduceLeDiff,Nat.reduceBEq,reduceCtorEq,Nat.succ_ne_zero,Bool.not_true,Bool.not_false,Bool.true_eq_false,Bool.false_eq_true,Bool.true_beq,Bool.false_beq,Int.reduceLT,Int.reduceLE,Int.reduceEq,Int.reduceNe,ne_eq,not_false_eq_true,not_true_eq_false,List.getElem?_cons_zero,List.getElem?_cons_succ,List.length_cons,List.length_nil,List.all_cons,List.all_nil,Bool.and_true,Bool.and_self,Bool.true_and,Bool.false_and,Bool.and_false,Bool.or_true,Bool.or_false,Bool.true_or,Bool.false_or,Bool.or_self,List.elem_cons,List.elem_nil,Nat.add_zero,Nat.zero_add,or_self,or_false,false_or,true_or,or_true,and_true,true_and,and_false,false_and,and_self,List.mem_cons,List.not_mem_nil,Nat.reducePow,elAt_eq,stV_eq,cellsB_cells,hp_get_r,hp_get_r0,hp_get_l,hp_set_r,hp_set_r0,hp_set_l,hp_one,hp_ne,List.drop_succ_cons,List.drop_zero,List.take_succ_cons,List.take_zero,f5,hGl,ze51,Nat.zero_le,Nat.not_lt_zero]
  exact⟨_,rfl,by simp -implicitDefEqProofs (maxDischargeDepth:=4) only[go_sem,decide_true,decide_false,beq_self_eq_true,↓reduceIte,Nat.reduceLT,Nat.reduceAdd,Nat.reduceMul,Nat.reduceSub,Nat.reduceEqDiff,Nat.reduceLeDiff,Nat.reduceBEq,reduceCtorEq,Nat.succ_ne_zero,Bool.not_true,Bool.not_false,Bool.true_eq_false,Bool.false_eq_true,Bool.true_beq,Bool.false_beq,Int.reduceLT,Int.reduceLE,Int.reduceEq,Int.reduceNe,ne_eq,not_false_eq_true,not_true_eq_false,List.getElem?_cons_zero,List.getElem?_cons_succ,List.length_cons,List.length_nil,List.all_cons,List.all_nil,Bool.and_true,Bool.and_self,Bool.true_and,Bool.false_and,Bool.and_false,Bool.or_true,Bool.or_false,Bool.true_or,Bool.false_or,Bool.or_self,List.elem_cons,List.elem_nil,Nat.add_zero,Nat.zero_add,or_self,or_false,false_or,true_or,or_true,and_true,true_and,and_false,false_and,and_self,List.mem_cons,List.not_mem_nil,Nat.reducePow,f1],by simp -implicitDefEqProofs (maxDischargeDepth:=4) only[go_sem,decide_true,decide_false,beq_self_eq_true,↓reduceIte,Nat.reduceLT,Nat.reduceAdd,Nat.reduceMul,Nat.reduceSub,Nat.reduceEqDiff,Nat.reduceLeDiff,Nat.reduceBEq,reduceCtorEq,Nat.succ_ne_zero,Bool.not_true,Bool.not_false,Bool.true_eq_false,Bool.false_eq_true,Bool.true_beq,Bool.false_beq,Int.reduceLT,Int.reduceLE,Int.reduceEq,Int.reduceNe,ne_eq,not_false_eq_true,not_true_eq_false,List.getElem?_cons_zero,List.getElem?_cons_succ,List.length_cons,List.length_nil,List.all_cons,List.all_nil,Bool.and_true,Bool.and_self,Bool.true_and,Bool.false_and,Bool.and_false,Bool.or_true,Bool.or_false,Bool.true_or,Bool.false_or,Bool.or_self,List.elem_cons,List.elem_nil,Nat.add_zero,Nat.zero_add,or_self,or_false,false_or,true_or,or_true,and_true,true_and,and_false,false_and,and_self,List.mem_cons,List.not_mem_nil,Nat.reducePow,f2],by simp -implicitDefEqProofs (maxDischargeDepth:=4) only[go_sem,decide_true,decide_false,beq_self_eq_true,↓reduceIte,Nat.reduceLT,Nat.reduceAdd,Nat.reduceMul,Nat.reduceSub,Nat.reduceEqDiff,Nat.reduceLeDiff,Nat.reduceBEq,reduceCtorEq,Nat.succ_ne_zero,Bool.not_true,Bool.not_false,Bool.true_eq_false,Bool.false_eq_true,Bool.true_beq,Bool.false_beq,Int.reduceLT,Int.reduceLE,Int.reduceEq,Int.reduceNe,ne_eq,not_false_eq_true,not_true_eq_false,List.getElem?_cons_zero,List.getElem?_cons_succ,List.length_cons,List.length_nil,List.all_cons,List.all_nil,Bool.and_true,Bool.and_self,Bool.true_and,Bool.false_and,Bool.and_false,Bool.or_true,Bool.or_false,Bool.true_or,Bool.false_or,Bool.or_self,List.elem_cons,List.elem_nil,Nat.add_zero,Nat.zero_add,or_self,or_false,false_or,true_or,or_true,and_true,true_and,and_false,false_and,and_self,List.mem_cons,List.not_mem_nil,Nat.reducePow,f5],by simp -implicitDefEqProofs (maxDischargeDepth:=4) only[go_sem,decide_true,decide_false,beq_self_eq_true,↓reduceIte,Nat.reduceLT,Nat.reduceAdd,Nat.reduceMul,Nat.reduceSub,Nat.reduceEqDiff,Nat.reduceLeDiff,Nat.reduceBEq,reduceCtorEq,Nat.succ_ne_zero,Bool.not_true,Bool.not_false,Bool.true_eq_false,Bool.false_eq_true,Bool.true_beq,Bool.false_beq,Int.reduceLT,Int.reduceLE,Int.reduceEq,Int.reduceNe,ne_eq,not_false_eq_true,not_true_eq_false,List.getElem?_cons_zero,List.getElem?_cons_succ,List.length_cons,List.length_nil,List.all_cons,List.all_nil,Bool.and_true,Bool.and_self,Bool.true_and,Bool.false_and,Bool.and_false,Bool.or_true,Bool.or_false,Bool.true_or,Bool.false_or,Bool.or_self,List.elem_cons,List.elem_nil,Nat.add_zero,Nat.zero_add,or_self,or_false,false_or,true_or,or_true,and_true,true_and,and_false,false_and,and_self,List.mem_cons,List.not_mem_nil,Nat.reducePow],by simp -implicitDefEqProofs (maxDischargeDepth:=4) only[go_sem,decide_true,decide_false,beq_self_eq_true,↓reduceIte,Nat.reduceLT,Nat.reduceAdd,Nat.reduceMul,Nat.reduceSub,Nat.reduceEqDiff,Nat.reduceLeDiff,Nat.reduceBEq,reduceCtorEq,Nat.succ_ne_zero,Bool.not_true,Bool.not_false,Bool.true_eq_false,Bool.false_eq_true,Bool.true_beq,Bool.false_beq,Int.reduceLT,Int.reduceLE,Int.reduceEq,Int.reduceNe,ne_eq,not_false_eq_true,not_true_eq_false,List.getElem?_cons_zero,List.getElem?_cons_succ,List.length_cons,List.length_nil,List.all_cons,List.all_nil,Bool.and_true,Bool.and_self,Bool.true_and,Bool.false_and,Bool.and_false,Bool.or_true,Bool.or_false,Bool.true_or,Bool.false_or,Bool.or_self,List.elem_cons,List.elem_nil,Nat.add_zero,Nat.zero_add,or_self,or_false,false_or,true_or,or_true,and_true,true_and,and_false,false_and,and_self,List.mem_cons,List.not_mem_nil,Nat.reducePow];rfl⟩
 have zl:zeroF.length=19:=rfl
 have A:ASt G1 (fun _=>True) fa (List.replicate 5 zeroC) (List.replicate 5 zeroF):=by
  rw[←hG1,←hG]
  exact⟨rfl,⟨rfl,rfl,by decide,fun c hc=>by rw[List.eq_of_mem_replicate hc];exact zeroC_ok⟩,rfl,fun e he=>by rw[List.eq_of_mem_replicate he];exact zl,rfl,rfl⟩
 obtain⟨fr3,G3,sl3,HV3,p3,F3,A3,hF3⟩:=first_all hfa 5 0 fr2 G1 _ _ rfl (Nat.zero_le _) A (fun j hj=>by omega) (fun j _ hj=>⟨zeroC,by rw[List.getElem?_replicate,if_pos hj],rfl⟩) F2
 obtain⟨fr4,p4,F4⟩:∃fr4,ex cx D 0 5 174 (.region 15 g5_15 false) fr3 G3=some (.normal,fr4,G3)∧A5 fr4 ov 0:=by
  simp -implicitDefEqProofs (maxDischargeDepth:=4) only[go_sem,decide_true,decide_false,beq_self_eq_true,↓reduceIte,Nat.reduceLT,Nat.reduceAdd,Nat.reduceMul,Nat.reduceSub,Nat.reduceEqDiff,Nat.reduceLeDiff,Nat.reduceBEq,reduceCtorEq,Nat.succ_ne_zero,Bool.not_true,Bool.not_false,Bool.true_eq_false,Bool.false_eq_true,Bool.true_beq,Bool.false_beq,Int.reduceLT,Int.reduceLE,Int.reduceEq,Int.reduceNe,ne_eq,not_false_eq_true,not_true_eq_false,List.getElem?_cons_zero,List.getElem?_cons_succ,List.length_cons,List.length_nil,List.all_cons,List.all_nil,Bool.and_true,Bool.and_self,Bool.true_and,Bool.false_and,Bool.and_false,Bool.or_true,Bool.or_false,Bool.true_or,Bool.false_or,Bool.or_self,List.elem_cons,List.elem_nil,Nat.add_zero,Nat.zero_add,or_self,or_false,false_or,true_or,or_true,and_true,true_and,and_false,false_and,and_self,List.mem_cons,List.not_mem_nil,Nat.reducePow]
  exact⟨_,rfl,by simp -implicitDefEqProofs (maxDischargeDepth:=4) only[go_sem,decide_true,decide_false,beq_self_eq_true,↓reduceIte,Nat.reduceLT,Nat.reduceAdd,Nat.reduceMul,Nat.reduceSub,Nat.reduceEqDiff,Nat.reduceLeDiff,Nat.reduceBEq,reduceCtorEq,Nat.succ_ne_zero,Bool.not_true,Bool.not_false,Bool.true_eq_false,Bool.false_eq_true,Bool.true_beq,Bool.false_beq,Int.reduceLT,Int.reduceLE,Int.reduceEq,Int.reduceNe,ne_eq,not_false_eq_true,not_true_eq_false,List.getElem?_cons_zero,List.getElem?_cons_succ,List.length_cons,List.length_nil,List.all_cons,List.all_nil,Bool.and_true,Bool.and_self,Bool.true_and,Bool.false_and,Bool.and_false,Bool.or_true,Bool.or_false,Bool.true_or,Bool.false_or,Bool.or_self,List.elem_cons,List.elem_nil,Nat.add_zero,Nat.zero_add,or_self,or_false,false_or,true_or,or_true,and_true,true_and,and_false,false_and,and_self,List.mem_cons,List.not_mem_nil,Nat.reducePow,F3.f1],by simp -implicitDefEqProofs (maxDischargeDepth:=4) only[go_sem,decide_true,decide_false,beq_self_eq_true,↓reduceIte,Nat.reduceLT,Nat.reduceAdd,Nat.reduceMul,Nat.reduceSub,Nat.reduceEqDiff,Nat.reduceLeDiff,Nat.reduceBEq,reduceCtorEq,Nat.succ_ne_zero,Bool.not_true,Bool.not_false,Bool.true_eq_false,Bool.false_eq_true,Bool.true_beq,Bool.false_beq,Int.reduceLT,Int.reduceLE,Int.reduceEq,Int.reduceNe,ne_eq,not_false_eq_true,not_true_eq_false,List.getElem?_cons_zero,List.getElem?_cons_succ,List.length_cons,List.length_nil,List.all_cons,List.all_nil,Bool.and_true,Bool.and_self,Bool.true_and,Bool.false_and,Bool.and_false,Bool.or_true,Bool.or_false,Bool.true_or,Bool.false_or,Bool.or_self,List.elem_cons,List.elem_nil,Nat.add_zero,Nat.zero_add,or_self,or_false,false_or,true_or,or_true,and_true,true_and,and_false,false_and,and_self,List.mem_cons,List.not_mem_nil,Nat.reducePow,F3.f2],by simp -implicitDefEqProofs (maxDischargeDepth:=4) only[go_sem,decide_true,decide_false,beq_self_eq_true,↓reduceIte,Nat.reduceLT,Nat.reduceAdd,Nat.reduceMul,Nat.reduceSub,Nat.reduceEqDiff,Nat.reduceLeDiff,Nat.reduceBEq,reduceCtorEq,Nat.succ_ne_zero,Bool.not_true,Bool.not_false,Bool.true_eq_false,Bool.false_eq_true,Bool.true_beq,Bool.false_beq,Int.reduceLT,Int.reduceLE,Int.reduceEq,Int.reduceNe,ne_eq,not_false_eq_true,not_true_eq_false,List.getElem?_cons_zero,List.getElem?_cons_succ,List.length_cons,List.length_nil,List.all_cons,List.all_nil,Bool.and_true,Bool.and_self,Bool.true_and,Bool.false_and,Bool.and_false,Bool.or_true,Bool.or_false,Bool.true_or,Bool.false_or,Bool.or_self,List.elem_cons,List.elem_nil,Nat.add_zero,Nat.zero_add,or_self,or_false,false_or,true_or,or_true,and_true,true_and,and_false,false_and,and_self,List.mem_cons,List.not_mem_nil,Nat.reducePow,F3.f5],by simp -implicitDefEqProofs (maxDischargeDepth:=4) only[go_sem,decide_true,decide_false,beq_self_eq_true,↓reduceIte,Nat.reduceLT,Nat.reduceAdd,Nat.reduceMul,Nat.reduceSub,Nat.reduceEqDiff,Nat.reduceLeDiff,Nat.reduceBEq,reduceCtorEq,Nat.succ_ne_zero,Bool.not_true,Bool.not_false,Bool.true_eq_false,Bool.false_eq_true,Bool.true_beq,Bool.false_beq,Int.reduceLT,Int.reduceLE,Int.reduceEq,Int.reduceNe,ne_eq,not_false_eq_true,not_true_eq_false,List.getElem?_cons_zero,List.getElem?_cons_succ,List.length_cons,List.length_nil,List.all_cons,List.all_nil,Bool.and_true,Bool.and_self,Bool.true_and,Bool.false_and,Bool.and_false,Bool.or_true,Bool.or_false,Bool.true_or,Bool.false_or,Bool.or_self,List.elem_cons,List.elem_nil,Nat.add_zero,Nat.zero_add,or_self,or_false,false_or,true_or,or_true,and_true,true_and,and_false,false_and,and_self,List.mem_cons,List.not_mem_nil,Nat.reducePow,F3.f6],by simp -implicitDefEqProofs (maxDischargeDepth:=4) only[go_sem,decide_true,decide_false,beq_self_eq_true,↓reduceIte,Nat.reduceLT,Nat.reduceAdd,Nat.reduceMul,Nat.reduceSub,Nat.reduceEqDiff,Nat.reduceLeDiff,Nat.reduceBEq,reduceCtorEq,Nat.succ_ne_zero,Bool.not_true,Bool.not_false,Bool.true_eq_false,Bool.false_eq_true,Bool.true_beq,Bool.false_beq,Int.reduceLT,Int.reduceLE,Int.reduceEq,Int.reduceNe,ne_eq,not_false_eq_true,not_true_eq_false,List.getElem?_cons_zero,List.getElem?_cons_succ,List.length_cons,List.length_nil,List.all_cons,List.all_nil,Bool.and_true,Bool.and_self,Bool.true_and,Bool.false_and,Bool.and_false,Bool.or_true,Bool.or_false,Bool.true_or,Bool.false_or,Bool.or_self,List.elem_cons,List.elem_nil,Nat.add_zero,Nat.zero_add,or_self,or_false,false_or,true_or,or_true,and_true,true_and,and_false,false_and,and_self,List.mem_cons,List.not_mem_nil,Nat.reducePow];rfl⟩
 obtain⟨fr5',G5,sl5,HV5,p5,k5,A5',hF5⟩:=rounds hfa ho hob 30 0 fr4 G3 sl3 HV3 rfl (Nat.zero_le _) A3 hF3 F4
 obtain⟨L,x,Sx,hlive⟩:=live_ok (ro:=0) A5'.T (Nat.zero_le _) (by rw[A5'.l5];decide)
 have hll:(liveL 0 sl5).length=5:=by rw[liveL_all 0 sl5 (hF5.live A5'.l5),A5'.l5]
 have z5:(((5:Nat)):Int)=5:=rfl
 obtain⟨_,_,q0,s⟩:=x_split p1
 obtain⟨_,_,q1,q2⟩:=x_split s
 obtain⟨_,_,q3,s⟩:=x_split p2
 obtain⟨_,_,q4,q5⟩:=x_split s
 have eb:ex cx D 0 5 174 (.block 0 (.loop l5_0)) fr2 G1=some (.normal,fr3,G3):=by rw[x_block,x_loop,p3];rfl
 have ec:ex cx D 0 5 174 (.block 2 (.loop l5_4)) fr4 G3=some (.normal,fr5',G5):=by rw[x_block,x_loop,p5];rfl
 rw[c5,x_cont1 q0,x_cont1 q1,x_cont1 q2,x_cont1 q3,x_cont1 q4,x_assoc,x_cont1 q5,x_cont1 eb,x_assoc,x_cont1 p4,x_cont1 ec]
 simp -implicitDefEqProofs (maxDischargeDepth:=4) only[go_sem,decide_true,decide_false,beq_self_eq_true,↓reduceIte,Nat.reduceLT,Nat.reduceAdd,Nat.reduceMul,Nat.reduceSub,Nat.reduceEqDiff,Nat.reduceLeDiff,Nat.reduceBEq,reduceCtorEq,Nat.succ_ne_zero,Bool.not_true,Bool.not_false,Bool.true_eq_false,Bool.false_eq_true,Bool.true_beq,Bool.false_beq,Int.reduceLT,Int.reduceLE,Int.reduceEq,Int.reduceNe,ne_eq,not_false_eq_true,not_true_eq_false,List.getElem?_cons_zero,List.getElem?_cons_succ,List.length_cons,List.length_nil,List.all_cons,List.all_nil,Bool.and_true,Bool.and_self,Bool.true_and,Bool.false_and,Bool.and_false,Bool.or_true,Bool.or_false,Bool.true_or,Bool.false_or,Bool.or_self,List.elem_cons,List.elem_nil,Nat.add_zero,Nat.zero_add,or_self,or_false,false_or,true_or,or_true,and_true,true_and,and_false,false_and,and_self,List.mem_cons,List.not_mem_nil,Nat.reducePow,elAt_eq,stV_eq,cellsB_cells,hp_get_r,hp_get_r0,hp_get_l,hp_set_r,hp_set_r0,hp_set_l,hp_one,hp_ne,List.drop_succ_cons,List.drop_zero,List.take_succ_cons,List.take_zero,k5,den_call_eq,hlive,Sx.shr,Sx.notOwn,alen_sl Sx,sl31,Option.isSome_some,hll,z5]
 exact⟨_,rfl⟩
theorem words_read{d:Nat}{l:List AV}(h:Rdd Go.Proofs.Try.prog (d+2) 39 l):∃(a:AV)(xs:List Int),l=[a]∧Sl 1 a (xs.map iv):=by
 obtain⟨a,ls,rfl,h1,h2,h3⟩:=rd_slice Go.Proofs.Try.underlying39 h
 have hc:Go.Proofs.Try.prog.cellsOf 2=1:=by kernel_rfl
 rw[hc]at h3
 obtain⟨ys,k1,k2,k3⟩:=sl_map (g:=iv) (fun x hx=>by
  obtain⟨n,h4,rfl⟩:=rd_int Go.Proofs.Try.underlying2 (h2 x hx)
  exact⟨n,by rw[wrap_int Go.Proofs.Try.underlying2];rfl⟩) h3
 exact⟨a,ys,rfl,k3⟩
theorem u8s_read{d:Nat}{v:AV}(h:Rdd Go.Proofs.Try.prog (d+2) 22 [v]):∃ws:List Int,Sl 1 v (ws.map u8V)∧∀b∈ws,0≤b∧b≤255:=by
 obtain⟨a,ls,e,h1,h2,h3⟩:=rd_slice Go.Proofs.Try.underlying22 h
 cases e
 have hc:Go.Proofs.Try.prog.cellsOf 5=1:=by kernel_rfl
 rw[hc]at h3
 obtain⟨ys,k1,k2,k3⟩:=sl_map (g:=u8V) (fun x hx=>by
  obtain⟨n,h4,rfl⟩:=rd_int Go.Proofs.Try.underlying5 (h2 x hx)
  exact⟨n,by rw[wrap_int Go.Proofs.Try.underlying5];rfl⟩) h3
 refine⟨ys,k3,fun b hb=>?_⟩
 obtain⟨x,hx,hxy⟩:=k2 b hb
 obtain⟨n,h4,rfl⟩:=rd_int Go.Proofs.Try.underlying5 (h2 x hx)
 rw[wrap_int Go.Proofs.Try.underlying5]at hxy
 cases hxy
 have:=Go.bounds_u8 h4
 omega
theorem five_read{d:Nat}{l:List AV}(h:Rdd Go.Proofs.Try.prog (d+3) 50 l):l.length=5∧Fas l:=by
 obtain⟨zs,z1,z2,rfl⟩:=rd_array Go.Proofs.Try.underlying50 h
 have each:∀z∈zs,∃(a:AV)(xs:List Int),z=[a]∧Sl 1 a (xs.map iv):=fun z hz=>words_read (z2 z hz)
 match zs,z1,each with
 | [a,b,c,e,f],_,each =>
  obtain⟨a1,x1,rfl,s1⟩:=each a (by simp)
  obtain⟨a2,x2,rfl,s2⟩:=each b (by simp)
  obtain⟨a3,x3,rfl,s3⟩:=each c (by simp)
  obtain⟨a4,x4,rfl,s4⟩:=each e (by simp)
  obtain⟨a5,x5,rfl,s5⟩:=each f (by simp)
  refine⟨rfl,fun k hk=>?_⟩
  match k,hk with
  | 0,_=>exact⟨a1,x1,rfl,s1⟩
  | 1,_=>exact⟨a2,x2,rfl,s2⟩
  | 2,_=>exact⟨a3,x3,rfl,s3⟩
  | 3,_=>exact⟨a4,x4,rfl,s4⟩
  | 4,_=>exact⟨a5,x5,rfl,s5⟩
theorem apart_row{l0:List AV}{v1:AV}(h0:Rdd Go.Proofs.Try.prog 20 50 l0)(h1:Rdd Go.Proofs.Try.prog 20 22 [v1]):∃H',callB cx D 0 5 [.agg l0,v1] []=some (bv true,H'):=by
 obtain⟨k1,k2⟩:=five_read (d:=17) h0
 obtain⟨os,k3,k4⟩:=u8s_read (d:=18) h1
 exact apart_ok k1 k2 k3 k4
end Go.Abs.Tab
