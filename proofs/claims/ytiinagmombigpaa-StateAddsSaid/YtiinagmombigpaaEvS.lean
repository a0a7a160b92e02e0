/- The evaluator's steps, one by one, as equations. -/
import Derived.Test.YtiinagmombigpaaEvE
set_option linter.unnecessarySimpa false
set_option linter.unusedSimpArgs false
set_option linter.unusedVariables false
namespace Go.Abs
universe u
theorem nr{α:Sort u}{a b:α}(h:a=b):a=b:=h
theorem nk{α:Sort u}{a b:α}(h:a=b:=by kernel_rfl):a=b:=h
def xbind{α β:Type}(x:Option α)(k:α→Option β):Option β:=x.bind k
@[congr] theorem xbind_congr{α β:Type}{x y:Option α}{k:α→Option β}(h:x=y):xbind x k=xbind y k:=by rw[h]
theorem xbind_some{α β:Type}(a:α)(k:α→Option β):xbind (some a) k=k a:=rfl
theorem xbind_none{α β:Type}(k:α→Option β):xbind none k=none:=rfl
theorem get_set(t:PT)(i j:Nat)(x:AV)(h:i<16000):(t.set i x).get j=if i=j then x else t.get j:=by
 by_cases e:i=j
 ·subst e;rw[if_pos rfl,PT.get_set_eq h]
 ·rw[if_neg e,PT.get_set_ne e]
abbrev XO:=Option Tmp×Op×Option (Tmp×Bool)
def stripO(ops:Array Oper)(o:Oper):XO:=(o.dst,o.op,o.guard.map fun p=>(((ops[p.1]?).bind (·.dst)).getD 0,p.2))
def guardOk(ops:Array Oper)(o:Oper):Bool:=match o.guard with
 | none=>true
 | some (j,_)=>((ops[j]?).bind (·.dst)).isSome
def strip(ops:Array Oper):List XO:=ops.toList.map (stripO ops)
def guardsOk(ops:Array Oper):Bool:=ops.toList.all (guardOk ops)
def xwant(fr:PT):Option (Tmp×Bool)→Option Bool
 | none=>some true
 | some (d,w)=>wantsV w (fr.get d)
def setO(nt:Nat)(d:Option Tmp)(fr:PT)(H:Hp)(v:AV):Option (PT×Hp):=(putD nt d v fr).map fun fr'=>(fr',H)
def xapply(cx:Cx)(h:Hd)(ro:Nat)(f:AV)(args:List AV)(H:Hp):Option (AV×Hp) :=
 match f with
 | .fn g cap=>docall h ro g (args++cap) H (way cx g (args++cap))
 | .yld l=>round h ro l args H
 | _=>none
def xeff(nt:Nat)(d:Option Tmp)(fr:PT)(H:Hp)(e:Eff):Option (PT×Hp):=(putD nt d e.v (unownT e.un fr)).map fun fr'=>(fr',putB H e.up)
def xop(cx:Cx)(h:Hd)(ro fn nt:Nat)(ops:Array Oper)(nm:Nat)(fr:PT)(H:Hp)(d:Option Tmp)(op:Op):Option (PT×Hp) :=
 match calleeOf op with
 | some (f,args)=>xbind (xapply cx h ro (ev fr f) (args.map (ev fr)) H) fun p=>setO nt d fr p.2 p.1
 | none=>xbind (lop cx ro fn ops nm fr H (d.getD 0) op) fun e=>xeff nt d fr H e
def xgd(w:Option Bool)(a b:Unit→Option (PT×Hp)):Option (PT×Hp) :=
 match w with
 | some true=>a ()
 | some false=>b ()
 | none=>none
@[congr] theorem xgd_congr{w w':Option Bool}{a b:Unit→Option (PT×Hp)}(h:w=w'):xgd w a b=xgd w' a b:=by rw[h]
theorem xgd_true(a b:Unit→Option (PT×Hp)):xgd (some true) a b=a ():=rfl
theorem xgd_false(a b:Unit→Option (PT×Hp)):xgd (some false) a b=b ():=rfl
def xone(cx:Cx)(h:Hd)(ro fn nt:Nat)(ops:Array Oper)(nm:Nat)(fr:PT)(H:Hp)(o:XO):Option (PT×Hp) :=
 xgd (xwant fr o.2.2) (fun _=>xop cx h ro fn nt ops nm fr H o.1 o.2.1) (fun _=>setO nt o.1 fr H (.tup []))
theorem stepped_x{nt:Nat}{ops:Array Oper}{o:Oper}{fr:PT}{rd wr:Rd}{kp:Hp→Nat→Bool}(x:Option (AV×Hp)):(stepped nt ops o fr rd wr kp x).map (·.2)=xbind x fun p=>setO nt o.dst fr p.2 p.1:=by
 cases x with
 | none=>rfl
 | some p =>
  obtain⟨v,H⟩:=p
  simp only[stepped,xbind_some,setO]
  cases putD nt o.dst v fr<;>rfl
theorem step_x{cx:Cx}{h:Hd}{ro fn nt nm:Nat}{ops:Array Oper}{fr:PT}{H:Hp}{o:Oper}(hg:guardOk ops o=true):
  (step cx h ro fn nt ops nm fr H (some o)).map (·.2)=xone cx h ro fn nt ops nm fr H (stripO ops o):=by
 have hw:wants ops fr o=xwant fr (stripO ops o).2.2:=by
  unfold wants stripO xwant
  unfold guardOk at hg
  cases hgd:o.guard with
  | none=>rfl
  | some p =>
   obtain⟨j,w⟩:=p
   rw[hgd]at hg
   simp only[Option.map_some]
   cases hd:(ops[j]?).bind (·.dst) with
   | none=>simp only[hd]at hg;cases hg
   | some d=>rfl
 simp only[step,hw,xone]
 cases hx:xwant fr (stripO ops o).2.2 with
 | none=>rfl
 | some b =>
  cases b with
  | false=>simp only[stepG,stepped_x];rfl
  | true =>
   simp only[stepG,stepO,xgd_true,xop]
   show _=(match calleeOf o.op with | some (f,args)=>_ | none=>_)
   cases hc:calleeOf o.op with
   | some p =>
    obtain⟨f,args⟩:=p
    simp only[calls,xapply]
    cases hf:ev fr f<;>simp only[stepped_x]<;>rfl
   | none =>
    simp only
    show _=xbind (lop cx ro fn ops nm fr H (o.dst.getD 0) o.op) fun e=>xeff nt o.dst fr H e
    cases lop cx ro fn ops nm fr H (o.dst.getD 0) o.op with
    | none=>rfl
    | some e =>
     simp only[effed,xbind_some,xeff]
     cases putD nt o.dst e.v (unownT e.un fr)<;>rfl
def xrun(cx:Cx)(h:Hd)(ro fn nt:Nat)(ops:Array Oper):List XO→PT→Hp→Option (PT×Hp)
 | [],fr,H=>some (fr,H)
 | o::l,fr,H=>xbind (xone cx h ro fn nt ops H.length fr H o) fun p=>xrun cx h ro fn nt ops l p.1 p.2
theorem run_x{cx:Cx}{h:Hd}{ro fn nt:Nat}{ops:Array Oper}(hg:guardsOk ops=true):∀(n:Nat)(fr:PT)(H:Hp),n≤ops.size→
  ranOnly (run cx h ro fn nt ops (fun H _=>H.length) ((List.range ops.size).drop n) fr H)=xrun cx h ro fn nt ops ((strip ops).drop n) fr H:=by
 have hl:(strip ops).length=ops.size:=by simp[strip]
 have key:∀(m n:Nat)(fr:PT)(H:Hp),ops.size-n=m→n≤ops.size→ranOnly (run cx h ro fn nt ops (fun H _=>H.length) ((List.range ops.size).drop n) fr H)=xrun cx h ro fn nt ops ((strip ops).drop n) fr H:=by
  intro m
  induction m with
  | zero =>
   intro n fr H hm hn
   have:n=ops.size:=by omega
   subst this
   rw[List.drop_eq_nil_of_le (by simp),List.drop_eq_nil_of_le (by omega)]
   rfl
  | succ m ih =>
   intro n fr H hm hn
   have hlt:n<ops.size:=by omega
   rw[List.drop_eq_getElem_cons (l:=List.range ops.size) (by simpa using hlt),List.drop_eq_getElem_cons (l:=strip ops) (by omega)]
   rw[List.getElem_range]
   have ho:ops[n]?=some ops[n]:=Array.getElem?_eq_getElem hlt
   have hs:(strip ops)[n]'(by omega)=stripO ops ops[n]:=by simp[strip]
   rw[hs]
   simp only[run,xrun,ho]
   have hgo:guardOk ops ops[n]=true:=by
    unfold guardsOk at hg
    rw[List.all_eq_true]at hg
    exact hg _ (by simp)
   rw[←step_x hgo]
   cases step cx h ro fn nt ops H.length fr H (some ops[n]) with
   | none=>rfl
   | some p =>
    obtain⟨f,fr1,H1⟩:=p
    simp only[Option.map_some,xbind_some]
    rw[←ih (n+1) fr1 H1 (by omega) (by omega)]
    cases run cx h ro fn nt ops (fun H _=>H.length) ((List.range ops.size).drop (n+1)) fr1 H1 with
    | none=>rfl
    | some q=>rfl
 exact fun n fr H hn=>key _ n fr H rfl hn
def contR(k:PT→Hp→Option Res):Res→Option Res
 | (.normal,fr,H)=>k fr H
 | r=>some r
theorem contR_normal(k:PT→Hp→Option Res)(fr:PT)(H:Hp):contR k (.normal,fr,H)=k fr H:=rfl
theorem contR_exit(k:PT→Hp→Option Res)(id:Nat)(fr:PT)(H:Hp):contR k (.exit id,fr,H)=some (.exit id,fr,H):=rfl
theorem contR_ret(k:PT→Hp→Option Res)(fr:PT)(H:Hp):contR k (.ret,fr,H)=some (.ret,fr,H):=rfl
def outB(id:Nat):Res→Option Res
 | (.exit id',fr,H)=>some (if id'=id then .normal else .exit id',fr,H)
 | r=>some r
theorem outB_normal(id:Nat)(fr:PT)(H:Hp):outB id (.normal,fr,H)=some (.normal,fr,H):=rfl
theorem outB_exit(id id':Nat)(fr:PT)(H:Hp):outB id (.exit id',fr,H)=some (if id'=id then .normal else .exit id',fr,H):=rfl
theorem outB_ret(id:Nat)(fr:PT)(H:Hp):outB id (.ret,fr,H)=some (.ret,fr,H):=rfl
def condX(v:AV)(a b:Unit→Option Res):Option Res :=
 match v with
 | .lit (.bool true)=>a ()
 | .lit (.bool false)=>b ()
 | _=>none
@[congr] theorem condX_congr{v w:AV}{a b:Unit→Option Res}(h:v=w):condX v a b=condX w a b:=by rw[h]
theorem condX_true(a b:Unit→Option Res):condX (.lit (.bool true)) a b=a ():=rfl
theorem condX_false(a b:Unit→Option Res):condX (.lit (.bool false)) a b=b ():=rfl
section
variable {cx:Cx} {h:Hd} {ro fn nt:Nat} {fr:PT} {H:Hp}
theorem x_skip:ex cx h ro fn nt .skip fr H=some (.normal,fr,H):=rfl
theorem x_seq(a b:Code):ex cx h ro fn nt (.seq a b) fr H=xbind (ex cx h ro fn nt a fr H) (contR fun fr H=>ex cx h ro fn nt b fr H):=by
 simp only[ex]
 cases ex cx h ro fn nt a fr H with
 | none=>rfl
 | some r=>obtain⟨e,fr1,H1⟩:=r;cases e<;>rfl
theorem x_cond(c:Operand)(a b:Code):ex cx h ro fn nt (.cond c a b) fr H=condX (ev fr c) (fun _=>ex cx h ro fn nt a fr H) (fun _=>ex cx h ro fn nt b fr H):=by
 simp only[ex,condR,condX]
 cases ev fr c with
 | lit v=>cases v with
  | bool b=>cases b<;>rfl
  | _=>rfl
 | _=>rfl
theorem x_block(id:Nat)(a:Code):ex cx h ro fn nt (.block id a) fr H=xbind (ex cx h ro fn nt a fr H) (outB id):=by
 simp only[ex]
 cases ex cx h ro fn nt a fr H with
 | none=>rfl
 | some r=>obtain⟨e,fr1,H1⟩:=r;cases e<;>rfl
theorem x_loop(a:Code):ex cx h ro fn nt (.loop a) fr H=h.loop ro fn nt a fr H:=rfl
theorem x_exit(id:Nat):ex cx h ro fn nt (.exit id) fr H=some (.exit id,fr,H):=rfl
theorem x_ret:ex cx h ro fn nt .ret fr H=some (.ret,fr,H):=rfl
theorem x_scope(a:Code):ex cx h ro fn nt (.scope a) fr H=ex cx h ro fn nt a fr H:=rfl
theorem x_region{id:Nat}{ops:Array Oper}(l:List XO)(hg:guardsOk ops=true)(hl:strip ops=l):
  ex cx h ro fn nt (.region id ops false) fr H=xbind (xrun cx h ro fn nt ops l fr H) fun p=>some (.normal,p.1,p.2):=by
 subst hl
 have h0:=run_x (cx:=cx) (h:=h) (ro:=ro) (fn:=fn) (nt:=nt) hg 0 fr H (Nat.zero_le _)
 simp only[List.drop_zero]at h0
 simp only[ex,region,h0]
 cases xrun cx h ro fn nt ops (strip ops) fr H with
 | none=>rfl
 | some p=>rfl
end
section
variable {cx:Cx} {h:Hd} {ro fn nt nm:Nat} {ops:Array Oper} {fr:PT} {H:Hp} {d:Tmp} {dd:Option Tmp}
theorem setO_some(v:AV):setO nt (some d) fr H v=if d<nt then some (fr.set d v,H) else none:=by
 simp only[setO,putD];split<;>rfl
theorem setO_none(v:AV):setO nt none fr H v=some (fr,H):=rfl
theorem xone_plain(op:Op):xone cx h ro fn nt ops nm fr H (dd,op,none)=xop cx h ro fn nt ops nm fr H dd op:=rfl
theorem xone_guard(op:Op)(g:Tmp)(w:Bool):xone cx h ro fn nt ops nm fr H (dd,op,some (g,w))=xgd (wantsV w (fr.get g)) (fun _=>xop cx h ro fn nt ops nm fr H dd op) (fun _=>setO nt dd fr H (.tup [])):=rfl
theorem wantsV_bool(w b:Bool):wantsV w (.lit (.bool b))=some (b == w):=rfl
theorem wantsV_tup(w:Bool):wantsV w (.tup [])=some false:=rfl
theorem xop_of{op:Op}{x:Option AV}(hc:calleeOf op=none)(hl:lop cx ro fn ops nm fr H (dd.getD 0) op=x.map .of):xop cx h ro fn nt ops nm fr H dd op=xbind x fun v=>setO nt dd fr H v:=by
 simp only[xop,hc,hl]
 cases x<;>rfl
theorem xop_rdd{op:Op}{x:Option AV}{r:Rd}(hc:calleeOf op=none)(hl:lop cx ro fn ops nm fr H (dd.getD 0) op=x.map (.rdd r)):xop cx h ro fn nt ops nm fr H dd op=xbind x fun v=>setO nt dd fr H v:=by
 simp only[xop,hc,hl]
 cases x<;>rfl
theorem xo_bin(op:BinOp)(t:TypeId)(x y:Operand)(r:TypeId):xop cx h ro fn nt ops nm fr H dd (.binOp op t x y r)=xbind (abin cx.T op t (ev fr x) (ev fr y)) fun v=>setO nt dd fr H v:=xop_of rfl rfl
theorem xo_un(op:UnOp)(t:TypeId)(x:Operand):xop cx h ro fn nt ops nm fr H dd (.unOp op t x)=xbind (aun op (ev fr x)) fun v=>setO nt dd fr H v:=xop_of rfl rfl
theorem xo_conv(s t:TypeId)(x:Operand):xop cx h ro fn nt ops nm fr H dd (.convert s t x)=xbind (aconv cx.T s t (ev fr x)) fun v=>setO nt dd fr H v:=xop_of rfl rfl
theorem xo_field(t:TypeId)(x:Operand)(f:Nat):xop cx h ro fn nt ops nm fr H dd (.field t x f)=xbind (afield cx.T t (ev fr x) f) fun v=>setO nt dd fr H v:=xop_of rfl rfl
theorem xo_fieldAddr(t:TypeId)(x:Operand)(f:Nat):xop cx h ro fn nt ops nm fr H dd (.fieldAddr t x f)=xbind (afieldAddr cx.T t (ev fr x) f) fun v=>setO nt dd fr H v:=xop_of rfl rfl
theorem xo_indexAddr(t:TypeId)(x i:Operand):xop cx h ro fn nt ops nm fr H dd (.indexAddr t x i)=xbind (aindexAddr cx.T t (ev fr x) (ev fr i)) fun v=>setO nt dd fr H v:=xop_of rfl rfl
theorem xo_index(t:TypeId)(x i:Operand):xop cx h ro fn nt ops nm fr H dd (.index t x i)=xbind (aindex cx.T t (ev fr x) (ev fr i)) fun v=>setO nt dd fr H v:=xop_of rfl rfl
theorem xo_slice(t:TypeId)(x:Operand)(lo hi mx:Option Operand):xop cx h ro fn nt ops nm fr H dd (.slice t x lo hi mx)=xbind (aslice cx.T t (ev fr x) (lo.map (ev fr)) (hi.map (ev fr)) (mx.map (ev fr))) fun v=>setO nt dd fr H v:=xop_of rfl rfl
theorem xo_build(t:TypeId)(ps:List (Nat×Operand)):xop cx h ro fn nt ops nm fr H dd (.build t ps.toArray)=xbind (abuild cx.T t (ps.map fun p=>(p.1,ev fr p.2))) fun v=>setO nt dd fr H v:=xop_of rfl rfl
def natV(v:AV):Option AV:=(lNilCheck v).map (·.v)
theorem xo_nilCheck(x:Operand):xop cx h ro fn nt ops nm fr H dd (.nilCheck x)=xbind (natV (ev fr x)) fun v=>setO nt dd fr H v:=by
 refine xop_of rfl ?_
 simp only[lop,natV]
 cases ev fr x<;>rfl
def pickV(c a b:AV):Option AV:=match c with
 | .lit (.bool true)=>some a
 | .lit (.bool false)=>some b
 | _=>none
theorem pickV_true(a b:AV):pickV (.lit (.bool true)) a b=some a:=rfl
theorem pickV_false(a b:AV):pickV (.lit (.bool false)) a b=some b:=rfl
theorem xo_pick(c a b:Operand):xop cx h ro fn nt ops nm fr H dd (.pick c a b)=xbind (pickV (ev fr c) (ev fr a) (ev fr b)) fun v=>setO nt dd fr H v:=by
 refine xop_of rfl ?_
 simp only[lop,lPick,pickV]
 cases ev fr c with
 | lit v=>cases v with
  | bool b=>cases b<;>rfl
  | _=>rfl
 | _=>rfl
def exV(x:AV)(i:Nat):Option AV:=match x with
 | .tup vs=>(vs[i]?).map drp
 | _=>none
theorem exV_tup(vs:List AV)(i:Nat):exV (.tup vs) i=(vs[i]?).map drp:=rfl
theorem xo_extract(x:Operand)(i:Nat):xop cx h ro fn nt ops nm fr H dd (.extract x i)=xbind (exV (ev fr x) i) fun v=>setO nt dd fr H v:=by
 refine xop_of rfl ?_
 simp only[lop,lExtract,exV]
 cases ev fr x with
 | tup vs=>simp only;cases vs[i]?<;>rfl
 | _=>rfl
theorem xo_len(x:Operand)(t:TypeId)(ts:List TypeId):xop cx h ro fn nt ops nm fr H dd (.call ⟨.builtin .len,#[x],(t::ts).toArray⟩)=xbind (alen cx.T t H (ev fr x)) fun v=>setO nt dd fr H v:=xop_rdd rfl rfl
theorem xo_min(xs:List Operand)(ts:Array TypeId):xop cx h ro fn nt ops nm fr H dd (.call ⟨.builtin .min,xs.toArray,ts⟩)=xbind (aminmax false (xs.map (ev fr))) fun v=>setO nt dd fr H v:=xop_of rfl rfl
theorem xo_max(xs:List Operand)(ts:Array TypeId):xop cx h ro fn nt ops nm fr H dd (.call ⟨.builtin .max,xs.toArray,ts⟩)=xbind (aminmax true (xs.map (ev fr))) fun v=>setO nt dd fr H v:=xop_of rfl rfl
theorem xo_makeFunc(f:FuncId)(cs:List Operand):xop cx h ro fn nt ops nm fr H dd (.makeFunc (.func f) #[] cs.toArray)=setO nt dd fr H (.fn f (cs.map (ev fr))):=by
 rw[xop_of (x:=some (.fn f (cs.map (ev fr)))) rfl rfl];rfl
theorem xo_call(f:Operand)(args:List Operand)(ts:Array TypeId):xop cx h ro fn nt ops nm fr H dd (.call ⟨.value f,args.toArray,ts⟩)=xbind (xapply cx h ro (ev fr f) (args.map (ev fr)) H) fun p=>setO nt dd fr p.2 p.1:=rfl
def mvV(nt:Nat)(fr:PT)(H:Hp)(dd:Option Tmp)(t:Tmp)(tk:Bool):AV→Option (PT×Hp)
 | .vec sz .own els=>if tk then setO nt dd (fr.set t (.vec sz .shared els)) H (.vec sz .own els) else setO nt dd fr H (.vec sz .shared els)
 | v=>setO nt dd fr H v
theorem mvV_not{t:Tmp}{tk:Bool}{v:AV}(hv:isOwn v=false):mvV nt fr H dd t tk v=setO nt dd fr H v:=by
 unfold mvV
 split
 ·simp[isOwn]at hv
 ·rfl
theorem mvV_own{t:Tmp}{sz:Nat}{els:List AV}:mvV nt fr H dd t true (.vec sz .own els)=setO nt dd (fr.set t (.vec sz .shared els)) H (.vec sz .own els):=rfl
theorem mvV_shr{t:Tmp}{sz:Nat}{els:List AV}:mvV nt fr H dd t false (.vec sz .own els)=setO nt dd fr H (.vec sz .shared els):=rfl
theorem xo_move_tmp{t:Tmp}(hf:cx.pol.frz fn (dd.getD 0)=false):xop cx h ro fn nt ops nm fr H dd (.move (.tmp t))=mvV nt fr H dd t (takes ops (dd.getD 0)) (fr.get t):=by
 simp only[xop,calleeOf,lop,lMove,hf,Bool.false_eq_true,if_false,owner]
 cases hv:fr.get t with
 | vec sz k els =>
  cases k with
  | own =>
   simp only[mvV]
   split
   ·simp only[xbind_some,xeff,unownT,hv,setO,putB];rfl
   ·simp only[xbind_some,xeff,unownT,setO,putB,Eff.of,ev,hv];rfl
  | exact=>simp only[mvV,ev,hv];rfl
  | shared=>simp only[mvV,ev,hv];rfl
 | _=>simp only[mvV,ev,hv];rfl
theorem xo_move_const{v:Value}(hf:cx.pol.frz fn (dd.getD 0)=false):xop cx h ro fn nt ops nm fr H dd (.move (.const v))=setO nt dd fr H (ofVal v):=by
 simp only[xop,calleeOf,lop,lMove,hf,Bool.false_eq_true,if_false,owner];rfl
theorem xo_assign_tmp{t:Tmp}:xop cx h ro fn nt ops nm fr H dd (.assign (.tmp t))=mvV nt fr H dd t true (fr.get t):=by
 simp only[xop,calleeOf,lop,raw,owner]
 cases hv:fr.get t with
 | vec sz k els=>cases k<;>simp only[mvV,xbind_some,xeff,unownT,hv,setO,putB]<;>rfl
 | _=>simp only[mvV];rfl
theorem xo_assign_const{v:Value}:xop cx h ro fn nt ops nm fr H dd (.assign (.const v))=setO nt dd fr H (ofVal v):=rfl
theorem xo_assign_func{f:FuncId}:xop cx h ro fn nt ops nm fr H dd (.assign (.func f))=setO nt dd fr H (.fn f []):=rfl
theorem xo_load{t:TypeId}{x:Operand}(hf:cx.pol.frz fn (dd.getD 0)=false)(ht:takes ops (dd.getD 0)=false):xop cx h ro fn nt ops nm fr H dd (.load t x)=xbind (aload cx.T t H (ev fr x)) fun v=>setO nt dd fr H v :=
 xop_rdd (r:=rdOf (ev fr x)) rfl (by simp only[lop,lLoad,hf,ht];rfl)
end
theorem ev_tmp(fr:PT)(t:Tmp):ev fr (.tmp t)=shr (fr.get t):=rfl
theorem ev_const(fr:PT)(v:Value):ev fr (.const v)=ofVal v:=rfl
theorem ev_func(fr:PT)(f:FuncId):ev fr (.func f)=.fn f []:=rfl
def isBoolTy:Option TI→Bool
 | some { d:=.bool,.. }=>true
 | _=>false
def isPtrTy:Option TI→Bool
 | some { d:=.ptr,.. }=>true
 | _=>false
def slT(T:TypeId→Option TI)(t:TypeId):Option (Nat×TypeId×TI):=match T t with
 | some { d:=.slice e,.. }=>(T e).map fun te=>(te.size,e,te)
 | _=>none
def arT(T:TypeId→Option TI)(t:TypeId):Option (Nat×Nat):=match T t with
 | some { d:=.array n e,.. }=>(T e).map fun te=>(n,te.size)
 | _=>none
def ldT(T:TypeId→Option TI)(t:TypeId):Option (Bool×Nat):=(T t).map fun ti=>(ti.agg,ti.size)
def foT(T:TypeId→Option TI)(t:TypeId)(f:Nat):Option Nat:=match T t with
 | some { d:=.struct fs,.. }=>match fs[f]? with
  | some (off,ft)=>match T ft with
   | some ti=>if ti.size=0 then none else some off
   | none=>none
  | none=>none
 | _=>none
def eqT(T:TypeId→Option TI)(t:TypeId):Option (List Bool):=match T t with
 | some { eqp:=some ks,.. }=>some ks
 | _=>none
def cvT(T:TypeId→Option TI)(t:TypeId):Option IntKind:=match T t with
 | some { d:=.int k,.. }=>some k
 | _=>none
theorem shr_lit(v:Value):shr (.lit v)=.lit v:=rfl
theorem shr_ptr(b i j:Nat):shr (.ptr b i j)=.ptr b i j:=rfl
theorem shr_sl(b s i l c:Nat):shr (.sl b s i l c)=.sl b s i l c:=rfl
theorem shr_isl(b i j e l:Nat):shr (.isl b i j e l)=.isl b i j e l:=rfl
theorem shr_vp(el:AV)(j:Nat):shr (.vp el j)=.vp el j:=rfl
theorem shr_vx(s:Nat)(l:List AV):shr (.vec s .exact l)=.vec s .exact l:=rfl
theorem shr_vs(s:Nat)(l:List AV):shr (.vec s .shared l)=.vec s .shared l:=rfl
theorem shr_vo(s:Nat)(l:List AV):shr (.vec s .own l)=.vec s .shared l:=rfl
theorem shr_fn(f:FuncId)(c:List AV):shr (.fn f c)=.fn f c:=rfl
theorem shr_yld(l:Nat):shr (.yld l)=.yld l:=rfl
theorem shr_mp(m:Nat):shr (.mp m)=.mp m:=rfl
theorem shr_agg(l:List AV):shr (.agg l)=.agg l:=rfl
theorem shr_tup(l:List AV):shr (.tup l)=.tup l:=rfl
theorem drp_agg(l:List AV):drp (.agg l)=.agg (l.map shr):=rfl
theorem drp_lit(v:Value):drp (.lit v)=.lit v:=rfl
theorem drp_ptr(b i j:Nat):drp (.ptr b i j)=.ptr b i j:=rfl
theorem drp_sl(b s i l c:Nat):drp (.sl b s i l c)=.sl b s i l c:=rfl
theorem drp_vp(el:AV)(j:Nat):drp (.vp el j)=.vp el j:=rfl
theorem drp_vec(s:Nat)(k:Kd)(l:List AV):drp (.vec s k l)=shr (.vec s k l):=rfl
theorem drp_fn(f:FuncId)(c:List AV):drp (.fn f c)=.fn f c:=rfl
theorem drp_yld(l:Nat):drp (.yld l)=.yld l:=rfl
theorem drp_mp(m:Nat):drp (.mp m)=.mp m:=rfl
theorem ofVal_int(k:IntKind)(n:Int):ofVal (.int k n)=.lit (.int k n):=rfl
theorem ofVal_bool(b:Bool):ofVal (.bool b)=.lit (.bool b):=rfl
theorem ofVal_slice(a:Option Addr)(l c:Nat):ofVal (.slice a l c)=.lit (.slice a l c):=rfl
theorem ofVal_ptr(a:Option Addr):ofVal (.pointer a)=.lit (.pointer a):=rfl
theorem ofVal_str(s:ByteArray):ofVal (.string s)=.lit (.string s):=rfl
theorem ofVal_nilFunc:ofVal .nilFunc=.lit .nilFunc:=rfl
theorem isOwn_lit(v:Value):isOwn (.lit v)=false:=nr rfl
theorem isOwn_ptr(b i j:Nat):isOwn (.ptr b i j)=false:=nr rfl
theorem isOwn_sl(b s i l c:Nat):isOwn (.sl b s i l c)=false:=nr rfl
theorem isOwn_isl(b s i l c:Nat):isOwn (.isl b s i l c)=false:=nr rfl
theorem isOwn_vp(el:AV)(j:Nat):isOwn (.vp el j)=false:=nr rfl
theorem isOwn_vx(s:Nat)(l:List AV):isOwn (.vec s .exact l)=false:=nr rfl
theorem isOwn_vs(s:Nat)(l:List AV):isOwn (.vec s .shared l)=false:=nr rfl
theorem isOwn_fn(f:FuncId)(c:List AV):isOwn (.fn f c)=false:=nr rfl
theorem isOwn_yld(l:Nat):isOwn (.yld l)=false:=nr rfl
theorem isOwn_mp(m:Nat):isOwn (.mp m)=false:=nr rfl
theorem isOwn_agg(l:List AV):isOwn (.agg l)=false:=nr rfl
theorem isOwn_tup(l:List AV):isOwn (.tup l)=false:=nr rfl
theorem isOwn_shr(a:AV):isOwn (shr a)=false:=shr_notOwn a
def Sl(sz:Nat)(a:AV)(els:List AV):Prop:=a=.vec sz .exact els∨a=.vec sz .shared els∨(a=.lit (.slice none 0 0)∧els=[])
theorem Sl.notOwn{sz:Nat}{a:AV}{els:List AV}(h:Sl sz a els):isOwn a=false:=by
 rcases h with rfl | rfl | ⟨rfl,_⟩<;>rfl
theorem Sl.shr{sz:Nat}{a:AV}{els:List AV}(h:Sl sz a els):Abs.shr a=a:=by
 rcases h with rfl | rfl | ⟨rfl,_⟩<;>rfl
theorem Sl.drp{sz:Nat}{a:AV}{els:List AV}(h:Sl sz a els):Abs.drp a=a:=by
 rcases h with rfl | rfl | ⟨rfl,_⟩<;>rfl
theorem Sl.cl0{sz:Nat}{a:AV}{els:List AV}(h:Sl sz a els):Abs.cl0 a=a:=by
 rcases h with rfl | rfl | ⟨rfl,_⟩<;>rfl
theorem Sl.cl1{sz:Nat}{a:AV}{els:List AV}(h:Sl sz a els):Abs.cl1 a=a:=by
 rcases h with rfl | rfl | ⟨rfl,_⟩<;>rfl
theorem Sl.cl2{sz:Nat}{a:AV}{els:List AV}(h:Sl sz a els):Abs.cl2 a=a:=by
 rcases h with rfl | rfl | ⟨rfl,_⟩<;>rfl
theorem Sl.shut0{sz:Nat}{a:AV}{els:List AV}(h:Sl sz a els):Abs.shut0 a=true:=by
 rcases h with rfl | rfl | ⟨rfl,_⟩<;>rfl
theorem Sl.shut1{sz:Nat}{a:AV}{els:List AV}(h:Sl sz a els):Abs.shut1 a=true:=by
 rcases h with rfl | rfl | ⟨rfl,_⟩<;>rfl
theorem Sl.items{sz:Nat}{a:AV}{els:List AV}(h:Sl sz a els)(H:Hp):Abs.items sz H a=some els:=by
 rcases h with rfl | rfl | ⟨rfl,rfl⟩<;>simp[Abs.items]
theorem Sl.fit{sz:Nat}{a:AV}{els:List AV}(h:Sl sz a els){ti:TI}(h1:ti.agg=false)(h2:ti.size=1):Abs.fit ti a=true:=by
 rcases h with rfl | rfl | ⟨rfl,rfl⟩<;>simp[Abs.fit,h1,h2]
theorem Sl.fr0{sz:Nat}{a:AV}{els:List AV}(h:Sl sz a els)(n:Nat)(H:Hp):Abs.frz0 n H a=a:=by
 rcases h with rfl | rfl | ⟨rfl,_⟩<;>rfl
theorem alen_sl{T:TypeId→Option TI}{t:TypeId}{H:Hp}{sz:Nat}{a:AV}{els:List AV}(h:Sl sz a els)(ht:(slT T t).isSome=true):alen T t H a=some (.lit (.int .i64 els.length)):=by
 unfold slT at ht
 unfold alen
 split at ht
 ·rename_i hT
  rw[hT]
  rcases h with rfl | rfl | ⟨rfl,rfl⟩<;>rfl
 ·cases ht
theorem aindexAddr_sl{T:TypeId→Option TI}{t:TypeId}{sz n:Nat}{a:AV}{els:List AV}{e:TypeId}{te:TI}(h:Sl sz a els)(ht:slT T t=some (sz,e,te))(hn:n<els.length){k:IntKind}{m:Int}(hm:m=(n:Int)):
  aindexAddr T t a (.lit (.int k m))=some (.vp (els.getD n .dead) 0):=by
 subst hm
 have hnat:natOf (.lit (.int k (n:Int)))=some n:=by simp[natOf]
 unfold slT at ht
 split at ht
 ·rename_i e' _ hT
  cases he:T e' with
  | none=>rw[he]at ht;cases ht
  | some te' =>
   rw[he]at ht
   simp only[Option.map_some,Option.some.injEq,Prod.mk.injEq]at ht
   obtain⟨h1,rfl,rfl⟩:=ht
   unfold aindexAddr
   rw[hnat,hT]
   simp only[he]
   have hg:els[n]?=some (els.getD n .dead):=by simp[List.getD_eq_getElem?_getD,List.getElem?_eq_getElem hn]
   rcases h with rfl | rfl | ⟨rfl,rfl⟩
   ·simp only[h1,if_true,hg,Option.map_some]
   ·simp only[h1,if_true,hg,Option.map_some]
   ·simp at hn
 ·cases ht
theorem getD_map{α:Type}(f:α→AV)(l:List α)(d:α){n:Nat}(h:n<l.length):(l.map f).getD n .dead=f (l.getD n d):=by
 simp[List.getD_eq_getElem?_getD,List.getElem?_map,List.getElem?_eq_getElem h]
def elP(agg:Bool)(sz:Nat)(el:AV)(j:Nat):Option AV :=
 match el with
 | .agg l =>
  if agg then (if j+sz≤l.length then some (.agg (((l.drop j).take sz).map shr)) else none)
  else (l[j]?).map shr
 | x=>if isScal x=true∧agg=false∧j=0 then some (shr x) else none
theorem elPart_eq(ti:TI)(el:AV)(j:Nat):elPart ti el j=elP ti.agg ti.size el j:=by
 cases el<;>rfl
def ldA(agg:Bool)(sz:Nat)(H:Hp):AV→Option AV
 | .ptr b i j=>match H[b]? with
  | some (.cells _ _ els)=>match els[i]? with
   | some el=>elP agg sz el j
   | none=>none
  | _=>none
 | .vp el j=>elP agg sz el j
 | _=>none
theorem aload_eq(T:TypeId→Option TI)(t:TypeId)(H:Hp)(a:AV):aload T t H a=xbind (ldT T t) fun p=>ldA p.1 p.2 H a:=by
 unfold aload ldT
 cases T t with
 | none=>rfl
 | some ti =>
  simp only[Option.map_some,xbind_some]
  cases a with
  | ptr b i j =>
   simp only[ldA]
   cases H[b]? with
   | none=>rfl
   | some blk=>cases blk with
    | cells sz e els=>simp only;cases els[i]?<;>simp only[elPart_eq]
    | _=>rfl
  | vp el j=>simp only[ldA,elPart_eq]
  | _=>rfl
theorem elP_cell(sz:Nat)(l:List AV)(j:Nat):elP false sz (.agg l) j=(l[j]?).map shr:=rfl
theorem elP_agg(sz:Nat)(l:List AV)(j:Nat):elP true sz (.agg l) j=if j+sz≤l.length then some (.agg (((l.drop j).take sz).map shr)) else none:=rfl
theorem elP_lit(sz:Nat)(v:Value)(h:isScal (.lit v)=true):elP false sz (.lit v) 0=some (.lit v):=by
 simp[elP,h,shr]
theorem elP_int(sz:Nat)(k:IntKind)(n:Int):elP false sz (.lit (.int k n)) 0=some (.lit (.int k n)):=elP_lit _ _ rfl
theorem elP_bool(sz:Nat)(b:Bool):elP false sz (.lit (.bool b)) 0=some (.lit (.bool b)):=elP_lit _ _ rfl
theorem elP_nil(sz:Nat)(a:Option Addr)(l c:Nat):elP false sz (.lit (.slice a l c)) 0=some (.lit (.slice a l c)):=elP_lit _ _ rfl
theorem elP_np(sz:Nat)(a:Option Addr):elP false sz (.lit (.pointer a)) 0=some (.lit (.pointer a)):=elP_lit _ _ rfl
theorem elP_ptr(sz b i j:Nat):elP false sz (.ptr b i j) 0=some (.ptr b i j):=by simp[elP,isScal,shr]
theorem elP_sl(sz b s i l c:Nat):elP false sz (.sl b s i l c) 0=some (.sl b s i l c):=by simp[elP,isScal,shr]
theorem elP_vp(sz:Nat)(el:AV)(j:Nat):elP false sz (.vp el j) 0=some (.vp el j):=by simp[elP,isScal,shr]
theorem elP_vec(sz s:Nat)(k:Kd)(l:List AV):elP false sz (.vec s k l) 0=some (shr (.vec s k l)):=by simp[elP,isScal]
theorem elP_fn(sz:Nat)(f:FuncId)(c:List AV):elP false sz (.fn f c) 0=some (.fn f c):=by simp[elP,isScal,shr]
theorem elP_mp(sz m:Nat):elP false sz (.mp m) 0=some (.mp m):=by simp[elP,isScal,shr]
theorem elP_Sl{sz s:Nat}{a:AV}{els:List AV}(h:Sl s a els):elP false sz a 0=some a:=by
 rcases h with rfl | rfl | ⟨rfl,_⟩<;>simp[elP,isScal,Abs.shr]
theorem ldA_vp(agg:Bool)(sz:Nat)(H:Hp)(el:AV)(j:Nat):ldA agg sz H (.vp el j)=elP agg sz el j:=rfl
def elAt(H:Hp)(b i:Nat):Option AV:=match H[b]? with
 | some (.cells _ _ els)=>els[i]?
 | _=>none
theorem ldA_ptr(agg:Bool)(sz:Nat)(H:Hp)(b i j:Nat):ldA agg sz H (.ptr b i j)=xbind (elAt H b i) fun el=>elP agg sz el j:=by
 simp only[ldA,elAt]
 cases H[b]? with
 | none=>rfl
 | some blk=>cases blk with
  | cells sz e els=>simp only;cases els[i]?<;>rfl
  | _=>rfl
theorem afieldAddr_eq(T:TypeId→Option TI)(t:TypeId)(x:AV)(f:Nat):afieldAddr T t x f=xbind (foT T t f) fun off=>match x with
  | .ptr b i j=>some (.ptr b i (j+off))
  | .vp el j=>some (.vp el (j+off))
  | _=>none:=by
 unfold afieldAddr foT
 cases T t with
 | none=>rfl
 | some ti =>
  obtain⟨sz,by',z,ag,d,eq⟩:=ti
  cases d with
  | struct fs =>
   simp only
   cases fs[f]? with
   | none=>rfl
   | some p =>
    obtain⟨off,ft⟩:=p
    simp only
    cases T ft with
    | none=>rfl
    | some ti =>
     simp only
     split<;>rfl
  | _=>rfl
theorem aindexAddr_arr{T:TypeId→Option TI}{t:TypeId}{n m sz:Nat}{k:IntKind}(ht:arT T t=some (m,sz))(x:AV):aindexAddr T t x (.lit (.int k (n:Int)))=if n<m then (match x with
   | .ptr b i j=>some (.ptr b i (j+n*sz))
   | .vp el j=>some (.vp el (j+n*sz))
   | _=>none) else none:=by
 have hnat:natOf (.lit (.int k (n:Int)))=some n:=by simp[natOf]
 unfold arT at ht
 split at ht
 ·rename_i m' e _ hT
  cases he:T e with
  | none=>rw[he]at ht;cases ht
  | some te =>
   rw[he]at ht
   simp only[Option.map_some,Option.some.injEq,Prod.mk.injEq]at ht
   obtain⟨rfl,rfl⟩:=ht
   unfold aindexAddr
   rw[hnat,hT]
   simp only[he]
   rfl
 ·cases ht
section
variable {T:TypeId→Option TI} {t:TypeId} {k:IntKind} {a b:Int}
theorem b_lss:abin T .lss t (.lit (.int k a)) (.lit (.int k b))=some (.lit (.bool (decide (a<b)))):=by simp[abin,binI,cmpI]
theorem b_leq:abin T .leq t (.lit (.int k a)) (.lit (.int k b))=some (.lit (.bool (decide (a≤b)))):=by simp[abin,binI,cmpI]
theorem b_gtr:abin T .gtr t (.lit (.int k a)) (.lit (.int k b))=some (.lit (.bool (decide (b<a)))):=by simp[abin,binI,cmpI]
theorem b_geq:abin T .geq t (.lit (.int k a)) (.lit (.int k b))=some (.lit (.bool (decide (b≤a)))):=by simp[abin,binI,cmpI]
theorem b_eql:abin T .eql t (.lit (.int k a)) (.lit (.int k b))=some (.lit (.bool (decide (a=b)))):=by simp[abin,binI,cmpI,BEq.beq]
theorem b_neq:abin T .neq t (.lit (.int k a)) (.lit (.int k b))=some (.lit (.bool (!decide (a=b)))):=by simp[abin,binI,cmpI,bne,BEq.beq]
theorem b_add:abin T .add t (.lit (.int k a)) (.lit (.int k b))=some (.lit (.int k (wrapK k (a+b)))):=by simp[abin,binI,arith]
theorem b_sub:abin T .sub t (.lit (.int k a)) (.lit (.int k b))=some (.lit (.int k (wrapK k (a-b)))):=by simp[abin,binI,arith]
theorem b_mul:abin T .mul t (.lit (.int k a)) (.lit (.int k b))=some (.lit (.int k (wrapK k (a*b)))):=by simp[abin,binI,arith]
theorem b_rem(hb:b≠0):abin T .rem t (.lit (.int k a)) (.lit (.int k b))=some (.lit (.int k (a.tmod b))):=by simp[abin,binI,arith,hb]
theorem b_quo(hb:b≠0):abin T .quo t (.lit (.int k a)) (.lit (.int k b))=some (.lit (.int k (wrapK k (a.tdiv b)))):=by simp[abin,binI,arith,hb]
theorem b_beql{x y:Bool}(ht:isBoolTy (T t)=true):abin T .eql t (.lit (.bool x)) (.lit (.bool y))=some (.lit (.bool (x == y))):=by
 unfold isBoolTy at ht
 split at ht
 ·rename_i hT;simp only[abin,hT,neg?]
 ·cases ht
theorem b_bneq{x y:Bool}(ht:isBoolTy (T t)=true):abin T .neq t (.lit (.bool x)) (.lit (.bool y))=some (.lit (.bool (!(x == y)))):=by
 unfold isBoolTy at ht
 split at ht
 ·rename_i hT;simp only[abin,hT,neg?]
 ·cases ht
theorem b_aeql{x y:List AV}{ks:List Bool}{c:Bool}(ht:eqT T t=some ks)(hc:cellsEq ks x y=some c):abin T .eql t (.agg x) (.agg y)=some (.lit (.bool c)):=by
 unfold eqT at ht
 split at ht
 ·rename_i hT;cases ht;simp only[abin,hT,hc];rfl
 ·cases ht
theorem b_aneq{x y:List AV}{ks:List Bool}{c:Bool}(ht:eqT T t=some ks)(hc:cellsEq ks x y=some c):abin T .neq t (.agg x) (.agg y)=some (.lit (.bool !c)):=by
 unfold eqT at ht
 split at ht
 ·rename_i hT;cases ht;simp only[abin,hT,hc];rfl
 ·cases ht
theorem u_not{x:Bool}:aun .not (.lit (.bool x))=some (.lit (.bool !x)):=rfl
theorem u_neg:aun .neg (.lit (.int k a))=some (.lit (.int k (wrapK k (0-a)))):=rfl
end
theorem ptr_eql_nn{T:TypeId→Option TI}{t:TypeId}(ht:isPtrTy (T t)=true):abin T .eql t (.lit (.pointer none)) (.lit (.pointer none))=some (.lit (.bool true)):=by
 unfold isPtrTy at ht
 split at ht
 ·rename_i hT;simp[abin,nilTy,hT,nilEq,neg?]
 ·cases ht
theorem ptr_eql_pn{T:TypeId→Option TI}{t:TypeId}{b i j:Nat}(ht:isPtrTy (T t)=true):abin T .eql t (.ptr b i j) (.lit (.pointer none))=some (.lit (.bool false)):=by
 unfold isPtrTy at ht
 split at ht
 ·rename_i hT;simp[abin,nilTy,hT,nilEq,neg?]
 ·cases ht
theorem wrapK_i64{n:Int}(h1:-9223372036854775808≤n)(h2:n≤9223372036854775807):wrapK .i64 n=n:=by simp[wrapK,h1,h2]
theorem natV_ptr(b i j:Nat):natV (.ptr b i j)=some (.ptr b i j):=rfl
theorem natV_vp(el:AV)(j:Nat):natV (.vp el j)=some (.vp el j):=rfl
theorem natV_fn(f:FuncId)(c:List AV):natV (.fn f c)=some (.fn f c):=rfl
theorem natV_yld(l:Nat):natV (.yld l)=some (.yld l):=rfl
def pcall(h:Hd)(g:FuncId)(vs:List AV):Option AV:=(purely (h.call 0 g (vs.map cl2) []) 0 []).map (·.1)
theorem xapply_pure{cx:Cx}{h:Hd}{ro:Nat}{g:FuncId}{vs:List AV}{H:Hp}(hp:cx.pol.pure g=true)(hs:vs.all shut1=true):xapply cx h ro (.fn g []) vs H=(pcall h g vs).map fun v=>(v,H):=by
 simp only[xapply,List.append_nil,way,hp,hs,if_true,docall,pcall]
 cases h.call 0 g (vs.map cl2) [] with
 | none=>rfl
 | some p=>obtain⟨v,H'⟩:=p;rfl
theorem xapply_full{cx:Cx}{ro:Nat}{g:FuncId}{cap vs:List AV}{H:Hp}(hp:cx.pol.pure g=false)(hq:cx.pol.quiet g=false):xapply cx (den cx) ro (.fn g cap) vs H=callB cx (den cx) ro g ((vs++cap).map drp) H:=by
 have:way cx g (vs++cap)=.full:=by simp[way,hp,hq]
 simp only[xapply,this,docall,den_call_eq]
section
variable {cx:Cx} {h:Hd} {ro fn nt:Nat} {fr:PT} {H:Hp}
theorem ret_ret(rs:List ResultVar):returned cx rs (some (.ret,fr,H))=resAll cx fr H rs:=rfl
theorem ret_normal(rs:List ResultVar):returned cx rs (some (.normal,fr,H))=resAll cx fr H rs:=rfl
theorem res_one(t:Tmp):resAll cx fr H [.tmp t]=some (fr.get t,H):=rfl
theorem res_two(s t:Tmp):resAll cx fr H [.tmp s,.tmp t]=some (.tup [drp (fr.get s),drp (fr.get t)],H):=rfl
theorem res_none:resAll cx fr H []=some (.tup [],H):=rfl
theorem res_cells{s t:Tmp}{ts tt:TypeId}:resAll cx fr H [.cell s ts,.cell t tt]=xbind (aload cx.T ts H (ev fr (.tmp s))) fun v=>xbind (aload cx.T tt H (ev fr (.tmp t))) fun u=>some (.tup [drp v,drp u],H):=by
 simp only[resAll,List.mapM_cons,List.mapM_nil,resOne]
 cases aload cx.T ts H (ev fr (.tmp s)) with
 | none=>rfl
 | some v=>cases aload cx.T tt H (ev fr (.tmp t))<;>rfl
theorem trimmed_same(k:PT→Hp→Option Res):trimmed k H.length fr H=k fr H:=by simp[trimmed]
theorem x_loopB(a:Code):loopB cx h ro fn nt a fr H=xbind (ex cx h ro fn nt a fr H) (contR (trimK (cx.pol.keep fn) (h.loop ro fn nt a) H.length)):=by
 simp only[loopB]
 cases ex cx h ro fn nt a fr H with
 | none=>rfl
 | some r=>obtain⟨e,fr1,H1⟩:=r;cases e<;>rfl
theorem den_loop_x(a:Code)(hk:cx.pol.keep fn=false:=by kernel_rfl):(den cx).loop ro fn nt a fr H=xbind (ex cx (den cx) ro fn nt a fr H) (contR (trimmed ((den cx).loop ro fn nt a) H.length)):=by
 rw[den_loop_eq,x_loopB,hk]
 rfl
theorem den_loop_k(a:Code)(hk:cx.pol.keep fn=true:=by kernel_rfl):(den cx).loop ro fn nt a fr H=xbind (ex cx (den cx) ro fn nt a fr H) (contR ((den cx).loop ro fn nt a)):=by
 rw[den_loop_eq,x_loopB,hk]
 rfl
end
def regs:Code→List (Array Oper)
 | .region _ ops _=>[ops]
 | .seq a b=>regs a++regs b
 | .cond _ a b=>regs a++regs b
 | .block _ a=>regs a
 | .loop a=>regs a
 | .scope a=>regs a
 | .rangeFunc _ _ a b=>regs a++regs b
 | _=>[]
def regAt(f:Func)(i:Nat):Array Oper:=match f.body with
 | some c=>(regs c).getD i #[]
 | none=>#[]
attribute [go_sem] ret_ret ret_normal res_one res_two res_none res_cells trimmed_same get_set PT.get_nil   x_skip x_seq x_cond x_block x_exit x_ret x_scope xrun setO_some setO_none xone_plain xone_guard wantsV_bool wantsV_tup
 xo_bin xo_un xo_conv xo_field xo_fieldAddr xo_indexAddr xo_index xo_slice xo_build xo_nilCheck xo_pick pickV_true pickV_false exV_tup xo_extract xo_len xo_min xo_max xo_makeFunc xo_call
 mvV_not mvV_own mvV_shr xo_move_tmp xo_move_const xo_assign_tmp xo_assign_const xo_assign_func xo_load ev_tmp ev_const ev_func
 shr_lit shr_ptr shr_sl shr_isl shr_vp shr_vx shr_vs shr_vo shr_fn shr_yld shr_mp shr_agg shr_tup drp_agg drp_lit drp_ptr drp_sl drp_vp drp_vec drp_fn drp_yld drp_mp
 ofVal_int ofVal_bool ofVal_slice ofVal_ptr ofVal_str ofVal_nilFunc
 isOwn_lit isOwn_ptr isOwn_sl isOwn_isl isOwn_vp isOwn_vx isOwn_vs isOwn_fn isOwn_yld isOwn_mp isOwn_agg isOwn_tup isOwn_shr
 aload_eq elP_cell elP_agg elP_int elP_bool elP_nil elP_np elP_ptr elP_sl elP_vp elP_vec elP_fn elP_mp ldA_vp ldA_ptr afieldAddr_eq b_lss b_leq b_gtr b_geq b_eql b_neq b_add b_sub b_mul b_rem b_quo b_beql b_bneq u_not u_neg ptr_eql_nn ptr_eql_pn
 natV_ptr natV_vp natV_fn natV_yld xapply_pure xapply_full Option.getD_some Option.getD_none Option.map_some Option.map_none List.map_cons List.map_nil List.append_nil
attribute [go_sem ↓] xbind_some xbind_none xgd_true xgd_false contR_normal contR_exit contR_ret outB_normal outB_exit outB_ret condX_true condX_false
inductive Fm where
 | no | rd (b:Nat) | rdAll | wr (b:Nat) | full (kp:Nat→Bool) | tak (b:Nat) | bad
def rdM:Rd→Fm
 | .no=>.no
 | .one b=>.rd b
 | .all=>.rdAll
noncomputable def fmOk:Fm→Fm→Bool
 | .no,_=>true
 | _,.no=>true
 | .bad,_=>false
 | _,.bad=>false
 | .rd b,.wr c=>!Nat.beq b c
 | .wr b,.rd c=>!Nat.beq b c
 | .wr b,.wr c=>!Nat.beq b c
 | .rd _,.tak _=>true
 | .tak _,.rd _=>true
 | .wr b,.tak c=>!Nat.beq b c
 | .tak b,.wr c=>!Nat.beq b c
 | .tak b,.tak c=>!Nat.beq b c
 | .rd b,.full kp=>kp b
 | .full kp,.rd b=>kp b
 | .rd _,.rd _=>true
 | .rd _,.rdAll=>true
 | .rdAll,.rd _=>true
 | .rdAll,.rdAll=>true
 | _,_=>false
def mayUn(ops:Array Oper)(d:Tmp):Op→Bool
 | .move _=>takes ops d
 | .assign _ | .store .. => true
 | .call c=>match c.callee with
  | .builtin .append=>true
  | _=>false
 | _=>false
def statWs(ops:Array Oper)(o:Oper):List Tmp:=o.dst.toList++(if mayUn ops (o.dst.getD 0) o.op then o.op.operands.toList.filterMap (fun | .tmp t=>some t | _=>none) else [])
noncomputable def fmCall(cx:Cx)(H H':Hp)(f:AV)(args:List AV):Fm :=
 match f with
 | .fn g cap=>match way cx g (args++cap) with
  | .pure=>.no
  | .quiet=>.rdAll
  | .full=>.full (kpAs H H')
 | .yld _=>.full (kpAs H H')
 | _=>.bad
def takM(H:Hp)(a:AV):Fm:=match atake H a with
 | some (_,b,_)=>.tak b
 | none=>.rdAll
noncomputable def fmO(cx:Cx)(fn:FuncId)(ops:Array Oper)(nm:Nat)(fr:PT)(H H':Hp)(d:Tmp)(op:Op):Fm :=
 match op with
 | .move _=>if cx.pol.frz fn d then .bad else .no
 | .assign _ | .pick .. | .build .. | .nilCheck _ | .binOp .. | .unOp .. | .convert .. | .makeFunc .. | .slice .. | .fieldAddr .. | .field .. | .indexAddr .. | .index .. | .extract .. => .no
 | .alloc _ | .box .. | .makeMap .. => .wr nm
 | .buildSlice .. | .makeSlice .. => if cx.pol.heap fn d then .wr nm else .no
 | .load _ a=>if cx.pol.frz fn d then .bad else if takes ops d then takM H (ev fr a) else rdM (rdOf (ev fr a))
 | .store _ a _=>match ev fr a with
  | .ptr b _ _=>.wr b
  | _=>.bad
 | .lookup _ x _ _=>match ev fr x with
  | .mp b=>.rd b
  | _=>.bad
 | .mapUpdate _ m _ _=>match ev fr m with
  | .mp b=>.wr b
  | _=>.bad
 | .call c=>match c.callee with
  | .builtin .len=>match c.args.toList with
   | [x]=>rdM (lenRd (ev fr x))
   | _=>.bad
  | .builtin .min=>.no
  | .builtin .max=>.no
  | .builtin .append=>if cx.pol.heap fn d then .bad else match c.args.toList with
   | [_,x]=>rdM (rdOf (ev fr x))
   | _=>.bad
  | .builtin .copy=>match c.args.toList with
   | [x,_]=>match ev fr x with
    | .isl b _ _ _ _=>.wr b
    | _=>.bad
   | _=>.bad
  | .value f=>fmCall cx H H' (ev fr f) (c.args.toList.map (ev fr))
  | _=>.bad
 | _=>.bad
def ConfE(e:Eff):Fm→Prop
 | .no=>e.rd=.no∧e.up=none∧e.tk=false
 | .rd b=>(e.rd=.no∨e.rd=.one b)∧e.up=none∧e.tk=false
 | .rdAll=>e.up=none∧e.tk=false
 | .wr b=>(e.rd=.no∨e.rd=.one b)∧(e.up=none∨∃blk,e.up=some (b,blk))∧e.tk=false
 | .full _=>False
 | .tak b=>(e.rd=.no∨e.rd=.one b)∧(e.up=none∨(e.tk=true∧∃blk,e.up=some (b,blk)))
 | .bad=>True
structure FmE(e:Eff)(m:Fm)(un:Bool):Prop where
 conf:ConfE e m
 un:un=false→e.un=none
theorem FmE.of{v:AV}{b:Bool}:FmE (.of v) .no b:=⟨⟨rfl,rfl,rfl⟩,fun _=>rfl⟩
theorem FmE.rdd{v:AV}{r:Rd}{b:Bool}:FmE (.rdd r v) (rdM r) b:=by
 refine⟨?_,fun _=>rfl⟩
 cases r with
 | no=>exact⟨rfl,rfl,rfl⟩
 | one b=>exact⟨.inr rfl,rfl,rfl⟩
 | all=>exact⟨rfl,rfl⟩
theorem fme_of{x:Option AV}{e:Eff}{b:Bool}(h:x.map .of=some e):FmE e .no b:=by
 cases x with
 | none=>cases h
 | some v=>cases h;exact .of
theorem fme_rdd{x:Option AV}{r:Rd}{e:Eff}{b:Bool}(h:x.map (.rdd r)=some e):FmE e (rdM r) b:=by
 cases x with
 | none=>cases h
 | some v=>cases h;exact .rdd
theorem fme_p1{α:Type}{x:Option (AV×α)}{e:Eff}{b:Bool}(h:x.map (fun p=>Eff.of p.1)=some e):FmE e .no b:=by
 cases x with
 | none=>cases h
 | some v=>cases h;exact .of
theorem fme_laid{ro nm:Nat}{H:Hp}{r:Option (AV×Hp)}{e:Eff}{b:Bool}(h:lLaid ro nm H r=some e):FmE e (.wr nm) b:=by
 unfold lLaid at h
 split at h
 ·split at h
  ·cases h
  ·cases h;exact⟨⟨.inl rfl,.inr ⟨_,rfl⟩,rfl⟩,fun _=>rfl⟩
 ·cases h
theorem fme_bad{e:Eff}{b:Bool}(h:b=false→e.un=none):FmE e .bad b:=⟨trivial,h⟩
theorem lop_fm{cx:Cx}{ro nm:Nat}{fn:FuncId}{ops:Array Oper}{fr:PT}{H H':Hp}{d:Tmp}{op:Op}{e:Eff}(h:lop cx ro fn ops nm fr H d op=some e):FmE e (fmO cx fn ops nm fr H H' d op) (mayUn ops d op):=by
 cases op with
 | move x =>
  simp only[lop,lMove]at h
  simp only[fmO,mayUn]
  split at h
  ·rename_i hf
   rw[if_pos hf]
   refine fme_bad fun _=>?_
   unfold freeze at h
   split at h
   ·split at h
    ·cases h
    ·split at h
     ·split at h
      ·cases h;rfl
      ·cases h
     ·cases h
   ·cases h
  ·rename_i hf
   rw[if_neg hf]
   split at h
   ·split at h
    ·rename_i ht;cases h;exact⟨⟨rfl,rfl,rfl⟩,fun h=>by rw[ht]at h;cases h⟩
    ·cases h;exact .of
   ·cases h;exact .of
 | assign x=>simp only[lop]at h;cases h;exact⟨⟨rfl,rfl,rfl⟩,fun h=>by cases h⟩
 | pick c a b =>
  simp only[lop,lPick]at h
  split at h
  ·cases h;exact .of
  ·cases h;exact .of
  ·cases h
 | alloc t =>
  simp only[lop,lAlloc]at h
  split at h
  ·split at h
   ·split at h
    ·cases h
    ·cases h;exact⟨⟨.inl rfl,.inr ⟨_,rfl⟩,rfl⟩,fun _=>rfl⟩
   ·cases h
  ·cases h
 | box t x =>
  simp only[lop,lBox]at h
  split at h
  ·split at h
   ·cases h
   ·cases h;exact⟨⟨.inl rfl,.inr ⟨_,rfl⟩,rfl⟩,fun _=>rfl⟩
  ·cases h
 | build t ps=>exact fme_of h
 | buildSlice t n ps =>
  simp only[lop,lBuildSlice]at h
  simp only[fmO]
  split at h
  ·rename_i hh;rw[if_pos hh];exact fme_laid h
  ·rename_i hh;rw[if_neg hh];exact fme_p1 h
 | makeSlice t l c =>
  simp only[lop,lMakeSlice]at h
  simp only[fmO]
  split at h
  ·rename_i hh;rw[if_pos hh];exact fme_laid h
  ·rename_i hh;rw[if_neg hh];exact fme_p1 h
 | makeMap t r =>
  cases r with
  | some r=>cases h
  | none =>
   simp only[lop]at h
   split at h
   ·cases h
   ·cases h;exact⟨⟨.inl rfl,.inr ⟨_,rfl⟩,rfl⟩,fun _=>rfl⟩
 | load t x =>
  simp only[lop,lLoad]at h
  simp only[fmO]
  by_cases hf:cx.pol.frz fn d=true
  ·rw[if_pos hf]
   rw[if_pos hf]at h
   refine fme_bad fun _=>?_
   cases h1:(aload cx.T t H (ev fr x)).bind (freezeA H ro) with
   | none=>rw[h1]at h;cases h
   | some e' =>
    rw[h1]at h
    cases h
    cases h2:aload cx.T t H (ev fr x) with
    | none=>rw[h2]at h1;cases h1
    | some v =>
     rw[h2]at h1
     have h1:freezeA H ro v=some e':=h1
     unfold freezeA at h1
     split at h1
     ·split at h1
      ·cases h1;rfl
      ·cases h1;rfl
     ·unfold freeze at h1
      split at h1
      ·split at h1
       ·cases h1
       ·split at h1
        ·split at h1
         ·cases h1;rfl
         ·cases h1
        ·cases h1
      ·cases h1
  ·rw[if_neg hf]at h
   rw[if_neg hf]
   by_cases ht:takes ops d=true
   ·rw[if_pos ht]
    rw[if_pos ht]at h
    split at h
    ·rename_i v b H1 hat
     unfold takM
     rw[hat]
     unfold lTake at h
     split at h
     ·cases h
     ·cases h
      refine⟨⟨.inr rfl,?_⟩,fun _=>rfl⟩
      simp only
      cases H1[b]? with
      | none=>exact .inl rfl
      | some blk=>exact .inr ⟨trivial,blk,rfl⟩
    ·rename_i hat
     unfold takM
     rw[hat]
     exact fme_rdd h
   ·rw[if_neg ht]
    rw[if_neg ht]at h
    exact fme_rdd h
 | store t a x =>
  simp only[lop]at h
  simp only[fmO]
  unfold lStore at h
  split at h
  ·rename_i b i j hv
   split at h
   ·cases h
   ·split at h
    ·rename_i H1 hs
     obtain⟨blk,rfl,hlt,_⟩:=astore_local (H':=H) hs rfl
     rw[List.getElem?_set_self hlt]at h
     cases h
     rw[hv]
     exact⟨⟨.inr rfl,.inr ⟨_,rfl⟩,rfl⟩,fun h=>by cases h⟩
    ·cases h
  ·cases h
 | nilCheck x =>
  simp only[lop,lNilCheck]at h
  split at h<;>cases h<;>exact .of
 | binOp op t x y r=>exact fme_of h
 | unOp op t x=>exact fme_of h
 | convert s t x=>exact fme_of h
 | makeFunc f first captured =>
  simp only[lop,lMakeFunc]at h
  split at h
  ·split at h
   ·cases h;exact .of
   ·cases h
  ·cases h
 | slice t x lo hi mx=>exact fme_of h
 | fieldAddr t x f=>exact fme_of h
 | field t x f=>exact fme_of h
 | indexAddr t x ix=>exact fme_of h
 | index t x ix=>exact fme_of h
 | extract t i =>
  simp only[lop,lExtract]at h
  split at h
  ·rename_i vs _
   cases hv:vs[i]? with
   | none=>rw[hv]at h;cases h
   | some v=>rw[hv]at h;cases h;exact .of
  ·cases h
 | lookup t x k ok =>
  simp only[lop,lLookup]at h
  simp only[fmO]
  split at h
  ·split at h
   ·split at h
    ·split at h
     ·cases h
     ·split at h
      ·rename_i hx
       split at h
       ·unfold lFound at h
        split at h<;>cases h<;>(rw[hx];exact⟨⟨.inr rfl,rfl,rfl⟩,fun _=>rfl⟩)
       ·cases h
      ·cases h
    ·cases h
   ·cases h
  ·cases h
 | mapUpdate t m k x =>
  simp only[lop,lMapUpdate]at h
  simp only[fmO]
  split at h
  ·split at h
   ·rename_i hx
    split at h
    ·cases h
    ·split at h
     ·unfold lUpd at h
      split at h<;>cases h<;>(rw[hx];exact⟨⟨.inr rfl,.inr ⟨_,rfl⟩,rfl⟩,fun _=>rfl⟩)
     ·cases h
   ·cases h
  ·cases h
 | call c =>
  simp only[lop,lCall]at h
  simp only[fmO,mayUn]
  cases hc:c.callee with
  | builtin b =>
   rw[hc]at h
   simp only at h
   unfold lBuiltin at h
   split at h
   ·rename_i x t tl hargs _
    simp only[hargs]
    exact fme_rdd h
   ·rename_i s x t t' tl hargs _
    split at h
    ·unfold lAppend at h
     split at h
     ·rename_i hh
      simp only[hh,if_true]
      exact fme_bad fun h=>by cases h
     ·rename_i hh
      simp only[hh,hargs]
      cases ha:aappend cx.T t H (raw fr s) (ev fr x) with
      | none=>rw[ha]at h;cases h
      | some v =>
       rw[ha]at h
       cases h
       refine⟨?_,fun h=>by cases h⟩
       cases rdOf (ev fr x) with
       | no=>exact⟨rfl,rfl,rfl⟩
       | one b=>exact⟨.inr rfl,rfl,rfl⟩
       | all=>exact⟨rfl,rfl⟩
    ·cases h
   ·exact fme_of h
   ·exact fme_of h
   ·rename_i x y t tl hargs _
    simp only[hargs]
    unfold lCopy at h
    split at h
    ·rename_i n b blk hcp
     split at h
     ·cases h
     ·cases h
      have:∃i j es len,ev fr x=.isl b i j es len:=by
       unfold acopy at hcp
       split at hcp
       ·rename_i e b' i j esz len ht hx
        split at hcp
        ·split at hcp
         ·split at hcp
          ·split at hcp
           ·simp only at hcp
            split at hcp
            ·cases hcp;exact⟨_,_,_,_,hx⟩
            ·cases hcp
           ·cases hcp
          ·cases hcp
         ·cases hcp
        ·cases hcp
       ·cases hcp
      obtain⟨i,j,es,len,hx⟩:=this
      simp only[hx]
      exact⟨⟨.inr rfl,.inr ⟨_,rfl⟩,rfl⟩,fun _=>rfl⟩
    ·cases h
   ·refine fme_bad fun _=>?_
    unfold lDelete at h
    split at h
    ·split at h
     ·split at h
      ·cases h
      ·split at h
       ·unfold lDel at h
        split at h<;>cases h<;>rfl
       ·cases h
     ·cases h
    ·cases h
   ·cases h
  | _=>rw[hc]at h;cases h
 | _=>cases h
def Conf(f:Fp):Fm→Prop
 | .no=>f.rd=.no∧f.wr=.no∧f.tk=.no
 | .rd b=>(f.rd=.no∨f.rd=.one b)∧f.wr=.no∧f.tk=.no
 | .rdAll=>f.wr=.no∧f.tk=.no
 | .wr b=>(f.rd=.no∨f.rd=.one b)∧(f.wr=.no∨f.wr=.one b)∧f.tk=.no
 | .full kp=>(f.wr=.no∧f.rd=.no∧f.tk=.no)∨(f.tk=.no∧f.kp=kp)
 | .tak b=>(f.rd=.no∨f.rd=.one b)∧f.wr=.no∧(f.tk=.no∨f.tk=.one b)
 | .bad=>True
theorem conf_any{f:Fp}(h1:f.rd=.no)(h2:f.wr=.no)(h3:f.tk=.no)(m:Fm):Conf f m:=by
 cases m with
 | no=>exact⟨h1,h2,h3⟩
 | rd b=>exact⟨.inl h1,h2,h3⟩
 | rdAll=>exact⟨h2,h3⟩
 | wr b=>exact⟨.inl h1,.inl h2,h3⟩
 | full kp=>exact .inl ⟨h2,h1,h3⟩
 | tak b=>exact⟨.inl h1,h2,.inl h3⟩
 | bad=>trivial
structure StepF(f:Fp)(m:Fm)(ops:Array Oper)(o:Oper):Prop where
 conf:Conf f m
 rs:f.rs=tmpsOf ops o
 ws:∀t∈f.ws,t∈statWs ops o
theorem stepped_f{nt:Nat}{ops:Array Oper}{o:Oper}{fr fr':PT}{rd wr:Rd}{kp:Hp→Nat→Bool}{x:Option (AV×Hp)}{f:Fp}{H':Hp}{m:Fm}(h:stepped nt ops o fr rd wr kp x=some (f,fr',H'))
  (hm:∀kp',kp'=kp H'→Conf ⟨tmpsOf ops o,o.dst.toList,rd,wr,.no,kp'⟩ m):StepF f m ops o:=by
 unfold stepped at h
 split at h
 ·rename_i v H1
  cases hp:putD nt o.dst v fr with
  | none=>rw[hp]at h;cases h
  | some fr1 =>
   rw[hp]at h
   cases h
   exact⟨hm _ rfl,rfl,fun t ht=>by simp only[statWs,List.mem_append];exact .inl ht⟩
 ·cases h
theorem step_f{cx:Cx}{h:Hd}{ro nt nm:Nat}{fn:FuncId}{ops:Array Oper}{fr fr':PT}{H H':Hp}{o:Oper}{f:Fp}(hs:step cx h ro fn nt ops nm fr H (some o)=some (f,fr',H')):
  StepF f (fmO cx fn ops nm fr H H' (o.dst.getD 0) o.op) ops o:=by
 simp only[step]at hs
 cases hw:wants ops fr o with
 | none=>rw[hw]at hs;cases hs
 | some b =>
  rw[hw]at hs
  cases b with
  | false =>
   simp only[stepG]at hs
   exact stepped_f hs fun _ _=>conf_any rfl rfl rfl _
  | true =>
   simp only[stepG]at hs
   unfold stepO at hs
   split at hs
   ·rename_i g args hc
    have hop:∃c:Call,o.op=.call c∧c.callee=.value g∧args=c.args.toList:=by
     unfold calleeOf at hc
     split at hc
     ·rename_i c hop
      split at hc
      ·rename_i f' hf'
       cases hc
       exact⟨c,hop,hf',rfl⟩
      ·cases hc
     ·cases hc
    obtain⟨c,hop,hcal,rfl⟩:=hop
    rw[hop]
    simp only[fmO,hcal]
    unfold calls at hs
    unfold fmCall
    split at hs
    ·rename_i f0 cap hfv
     rw[hfv]
     simp only
     refine stepped_f hs fun kp hk=>?_
     subst hk
     cases hway:way cx f0 (c.args.toList.map (ev fr)++cap) with
     | pure=>exact⟨rfl,rfl,rfl⟩
     | quiet=>exact⟨rfl,rfl⟩
     | full=>exact .inr ⟨rfl,rfl⟩
    ·rename_i l hfv
     rw[hfv]
     exact stepped_f hs fun kp hk=>by subst hk;exact .inr ⟨rfl,rfl⟩
    ·cases hs
   ·rename_i hc
    cases hl:lop cx ro fn ops nm fr H (o.dst.getD 0) o.op with
    | none=>rw[hl]at hs;cases hs
    | some e =>
     rw[hl]at hs
     simp only[effed]at hs
     have hE:=lop_fm (H':=H') hl
     have hF:=lop_facts hl
     cases hp:putD nt o.dst e.v (unownT e.un fr) with
     | none=>rw[hp]at hs;cases hs
     | some fr1 =>
      rw[hp]at hs
      simp only[Option.map_some,Option.some.injEq,Prod.mk.injEq]at hs
      obtain⟨rfl,rfl,hH⟩:=hs
      refine⟨?_,rfl,fun t ht=>?_⟩
      ·have hc:=hE.conf
       generalize fmO cx fn ops nm fr H H' (o.dst.getD 0) o.op=m at hc
       cases m with
       | no=>obtain⟨h1,h2,h3⟩:=hc;simp only[Conf,h1,h2,h3,blockOf];simp
       | rd b=>obtain⟨h1,h2,h3⟩:=hc;simp only[Conf,h2,h3,blockOf];simpa using h1
       | rdAll=>obtain⟨h2,h3⟩:=hc;simp only[Conf,h2,h3,blockOf];simp
       | wr b =>
        obtain⟨h1,h2,h3⟩:=hc
        refine⟨h1,?_,?_⟩
        ·simp only[h3]
         rcases h2 with h2 | ⟨blk,h2⟩
         ·rw[h2];exact .inl rfl
         ·rw[h2];exact .inr rfl
        ·simp only[h3];rfl
       | full kp=>exact hc.elim
       | tak b =>
        obtain⟨h1,h2⟩:=hc
        rcases h2 with h2 | ⟨h3,blk,h2⟩
        ·refine⟨h1,?_,?_⟩
         ·simp only[h2,blockOf];split<;>rfl
         ·simp only[h2,blockOf];split<;>exact .inl rfl
        ·refine⟨h1,?_,?_⟩
         ·simp only[h3,if_true]
         ·simp only[h3,if_true,h2,blockOf];exact .inr trivial
       | bad=>trivial
      ·simp only[List.mem_append]at ht
       simp only[statWs,List.mem_append]
       rcases ht with ht | ht
       ·exact .inl ht
       ·right
        cases hu:mayUn ops (o.dst.getD 0) o.op with
        | false=>rw[hE.un hu]at ht;simp at ht
        | true =>
         simp only[if_true,List.mem_filterMap]
         cases hun:e.un with
         | none=>rw[hun]at ht;simp at ht
         | some t' =>
          rw[hun]at ht
          simp at ht
          subst ht
          exact⟨.tmp t,by simpa using hF.un t hun,rfl⟩
theorem fmOk_apart{f g:Fp}{m m':Fm}(hf:Conf f m)(hg:Conf g m')(h:fmOk m m'=true):
  ((!f.wr.meets g.rd||g.rd.kept f.kp)&&!f.wr.meets g.wr&&(!f.rd.meets g.wr||f.rd.kept g.kp)&&!f.wr.meets g.tk&&!f.tk.meets g.wr&&!f.tk.meets g.tk&&!(f.tk != .no&&g.rd == .all)&&!(g.tk != .no&&f.rd == .all))=true:=by
 have nl:∀r:Rd,Rd.no.meets r=false:=fun r=>by cases r<;>rfl
 have nr':∀r:Rd,r.meets .no=false:=fun r=>by cases r<;>rfl
 have hno:∀ {f g:Fp},f.rd=.no→f.wr=.no→f.tk=.no→(g.tk=.no∨f.rd≠.all)→((!f.wr.meets g.rd||g.rd.kept f.kp)&&!f.wr.meets g.wr&&(!f.rd.meets g.wr||f.rd.kept g.kp)&&!f.wr.meets g.tk&&!f.tk.meets g.wr&&!f.tk.meets g.tk&&!(f.tk != .no&&g.rd == .all)&&!(g.tk != .no&&f.rd == .all))=true:=fun {f g} h1 h2 h3 _=>by
  simp[h1,h2,h3,nl]
 have hno':∀ {f g:Fp},g.rd=.no→g.wr=.no→g.tk=.no→((!f.wr.meets g.rd||g.rd.kept f.kp)&&!f.wr.meets g.wr&&(!f.rd.meets g.wr||f.rd.kept g.kp)&&!f.wr.meets g.tk&&!f.tk.meets g.wr&&!f.tk.meets g.tk&&!(f.tk != .no&&g.rd == .all)&&!(g.tk != .no&&f.rd == .all))=true:=fun {f g} h1 h2 h3=>by
  simp[h1,h2,h3,nr']
 have mt:∀ {r:Rd} {b c:Nat},(r=.no∨r=.one b)→b≠c→r.meets (.one c)=false:=fun {r b c} hr hne=>by
  rcases hr with rfl | rfl
  ·rfl
  ·simpa [Rd.meets] using hne
 have mt2:∀ {r s:Rd} {b c:Nat},(r=.no∨r=.one b)→(s=.no∨s=.one c)→b≠c→r.meets s=false:=fun {r s b c} hr hs hne=>by
  rcases hs with rfl | rfl
  ·exact nr' _
  ·exact mt hr hne
 cases m with
 | no=>obtain⟨h1,h2,h3⟩:=hf;exact hno h1 h2 h3 (.inr (by rw[h1];simp))
 | bad =>
  cases m' with
  | no=>obtain⟨h1,h2,h3⟩:=hg;exact hno' h1 h2 h3
  | _=>cases h
 | rd b =>
  obtain⟨h1,h2,h3⟩:=hf
  cases m' with
  | no=>obtain⟨h1,h2,h3⟩:=hg;exact hno' h1 h2 h3
  | bad=>cases h
  | rd c=>obtain⟨g1,g2,g3⟩:=hg;simp[h2,h3,g2,g3,nl,nr']
  | rdAll=>obtain⟨g2,g3⟩:=hg;simp[h2,h3,g2,g3,nl,nr']
  | wr c =>
   obtain⟨g1,g2,g3⟩:=hg
   have hne:b≠c:=by
    intro e;subst e;simp[fmOk]at h
   simp[h2,h3,g3,nl,nr',mt2 h1 g2 hne]
  | full kp =>
   rcases hg with⟨g1,g2,g3⟩ | ⟨g3,g4⟩
   ·exact hno' g2 g1 g3
   ·have hk:kp b=true:=h
    rcases h1 with h1 | h1
    ·simp[h1,h2,h3,g3,nl,nr']
    ·simp[h1,h2,h3,g3,nl,nr',Rd.kept,g4,hk]
  | tak c =>
   obtain⟨g1,g2,g3⟩:=hg
   have ha:(f.rd == Rd.all)=false:=by rcases h1 with h1 | h1<;>rw[h1]<;>rfl
   simp[h2,h3,g2,nl,nr',ha]
 | rdAll =>
  obtain⟨h2,h3⟩:=hf
  cases m' with
  | no=>obtain⟨h1,h2,h3⟩:=hg;exact hno' h1 h2 h3
  | rd c=>obtain⟨g1,g2,g3⟩:=hg;simp[h2,h3,g2,g3,nl,nr']
  | rdAll=>obtain⟨g2,g3⟩:=hg;simp[h2,h3,g2,g3,nl,nr']
  | bad=>cases h
  | wr c=>cases h
  | full kp=>cases h
  | tak c=>cases h
 | wr b =>
  obtain⟨h1,h2,h3⟩:=hf
  cases m' with
  | no=>obtain⟨h1,h2,h3⟩:=hg;exact hno' h1 h2 h3
  | bad=>cases h
  | rdAll=>cases h
  | full kp=>cases h
  | rd c =>
   obtain⟨g1,g2,g3⟩:=hg
   have hne:b≠c:=by
    intro e;subst e;simp[fmOk]at h
   simp[h3,g2,g3,nl,nr',mt2 h2 g1 hne]
  | wr c =>
   obtain⟨g1,g2,g3⟩:=hg
   have hne:b≠c:=by
    intro e;subst e;simp[fmOk]at h
   simp[h3,g3,nl,nr',mt2 h2 g1 hne,mt2 h2 g2 hne,mt2 h1 g2 hne]
  | tak c =>
   obtain⟨g1,g2,g3⟩:=hg
   have hne:b≠c:=by
    intro e;subst e;simp[fmOk]at h
   have ha:(f.rd == Rd.all)=false:=by rcases h1 with h1 | h1<;>rw[h1]<;>rfl
   simp[h3,g2,nl,nr',mt2 h2 g1 hne,mt2 h2 g3 hne,ha]
 | tak b =>
  obtain⟨h1,h2,h3⟩:=hf
  cases m' with
  | no=>obtain⟨h1,h2,h3⟩:=hg;exact hno' h1 h2 h3
  | bad=>cases h
  | rdAll=>cases h
  | full kp=>cases h
  | rd c =>
   obtain⟨g1,g2,g3⟩:=hg
   have ha:(g.rd == Rd.all)=false:=by rcases g1 with g1 | g1<;>rw[g1]<;>rfl
   simp[h2,g2,g3,nl,nr',ha]
  | wr c =>
   obtain⟨g1,g2,g3⟩:=hg
   have hne:b≠c:=by
    intro e;subst e;simp[fmOk]at h
   have ha:(g.rd == Rd.all)=false:=by rcases g1 with g1 | g1<;>rw[g1]<;>rfl
   simp[h2,g3,nl,nr',mt2 h1 g2 hne,mt2 h3 g2 hne,ha]
  | tak c =>
   obtain⟨g1,g2,g3⟩:=hg
   have hne:b≠c:=by
    intro e;subst e;simp[fmOk]at h
   have ha:(g.rd == Rd.all)=false:=by rcases g1 with g1 | g1<;>rw[g1]<;>rfl
   have hb:(f.rd == Rd.all)=false:=by rcases h1 with h1 | h1<;>rw[h1]<;>rfl
   simp[h2,g2,nl,nr',mt2 h3 g3 hne,ha,hb]
 | full kp =>
  rcases hf with⟨f1,f2,f3⟩ | ⟨f3,f4⟩
  ·exact hno f2 f1 f3 (.inr (by rw[f2];simp))
  ·cases m' with
   | no=>obtain⟨h1,h2,h3⟩:=hg;exact hno' h1 h2 h3
   | rd c =>
    obtain⟨g1,g2,g3⟩:=hg
    have hk:kp c=true:=h
    rcases g1 with g1 | g1
    ·simp[f3,g1,g2,g3,nl,nr']
    ·simp[f3,g1,g2,g3,nl,nr',Rd.kept,f4,hk]
   | bad=>cases h
   | rdAll=>cases h
   | wr c=>cases h
   | full kp=>cases h
   | tak c=>cases h
abbrev XU:=Nat×Nat×List Nat×XO
def unord(bs:List Nat)(j:Nat):List Nat:=(List.range j).filter fun i=>!(bs.getD j 0).testBit i
def stripU(cx:Cx)(fn:FuncId)(ops:Array Oper):List XU:=ops.toList.zipIdx.map fun p=>(p.2,((ops.toList.take p.2).filter (isAlloc cx fn)).length,unord (befores ops) p.2,stripO ops p.1)
def tmpsApart(ops:Array Oper)(x y:Oper):Bool:=(statWs ops x).all (fun t=>!(tmpsOf ops y).contains t&&!(statWs ops y).contains t)&&(statWs ops y).all (fun t=>!(tmpsOf ops x).contains t)
def tempsOk(ops:Array Oper):Bool:=ops.toList.zipIdx.all fun p=>(unord (befores ops) p.2).all fun i=>match ops[i]? with
 | some x=>tmpsApart ops x p.1
 | none=>true
def fmAdd(j:Nat)(m:Fm)(acc:List (Nat×Fm)):List (Nat×Fm):=match m with
 | .no=>acc
 | m=>(j,m)::acc
noncomputable def fmAll(un:List Nat)(m:Fm)(acc:List (Nat×Fm)):Bool:=acc.all fun p=>!un.elem p.1||fmOk p.2 m
noncomputable def xrunU(cx:Cx)(h:Hd)(ro fn nt:Nat)(ops:Array Oper)(n0:Nat):List XU→PT→Hp→List (Nat×Fm)→Option (PT×Hp)
 | [],fr,H,_=>some (fr,H)
 | (j,a,un,o)::l,fr,H,acc=>xbind (xone cx h ro fn nt ops (n0+a) fr H o) fun p =>
  if fmAll un (fmO cx fn ops (n0+a) fr H p.2 (o.1.getD 0) o.2.1) acc=true then xrunU cx h ro fn nt ops n0 l p.1 p.2 (fmAdd j (fmO cx fn ops (n0+a) fr H p.2 (o.1.getD 0) o.2.1) acc) else none
theorem stripU_get{cx:Cx}{fn:FuncId}{ops:Array Oper}{n:Nat}(hn:n<ops.size):(stripU cx fn ops)[n]?=some (n,((ops.toList.take n).filter (isAlloc cx fn)).length,unord (befores ops) n,stripO ops ops[n]):=by
 simp only[stripU,List.getElem?_map,List.getElem?_zipIdx]
 have:ops.toList[n]?=some ops[n]:=by simp[hn]
 rw[this]
 simp
theorem stripU_len{cx:Cx}{fn:FuncId}{ops:Array Oper}:(stripU cx fn ops).length=ops.size:=by simp[stripU]
theorem unord_mem{bs:List Nat}{i j:Nat}(hij:i<j)(h:(bs.getD j 0).testBit i=false):i∈unord bs j:=by
 simp only[unord,List.mem_filter,List.mem_range,h]
 exact⟨hij,rfl⟩
theorem run_u{cx:Cx}{h:Hd}{ro fn nt n0:Nat}{ops:Array Oper}(hg:guardsOk ops=true)(ht:tempsOk ops=true):
  ∀(m n:Nat)(fr fr':PT)(H H':Hp)(acc:List (Nat×Fm))(fsP:List (Nat×Fp)),ops.size-n=m→n≤ops.size→
  (∀p∈fsP,p.1<n∧∃o mm,ops[p.1]?=some o∧StepF p.2 mm ops o∧(mm=.no∨(p.1,mm)∈acc))→
  xrunU cx h ro fn nt ops n0 ((stripU cx fn ops).drop n) fr H acc=some (fr',H')→
  ∃fs,run cx h ro fn nt ops (fun _ i=>n0+((ops.toList.take i).filter (isAlloc cx fn)).length) ((List.range ops.size).drop n) fr H=some (fs,fr',H')∧
   (∀p∈fsP,∀q∈fs,((befores ops).getD q.1 0).testBit p.1=true∨p.2.apart q.2=true)∧apartAll (befores ops) fs=true
 | 0,n,fr,fr',H,H',acc,fsP,hm,hn,hP,hr=>by
  have:n=ops.size:=by omega
  subst this
  rw[List.drop_eq_nil_of_le (by rw[stripU_len];exact Nat.le_refl _)]at hr
  simp only[xrunU,Option.some.injEq,Prod.mk.injEq]at hr
  obtain⟨rfl,rfl⟩:=hr
  rw[List.drop_eq_nil_of_le (by simp)]
  exact⟨[],rfl,fun p _ q hq=>(by cases hq),rfl⟩
 | m+1,n,fr,fr',H,H',acc,fsP,hm,hn,hP,hr=>by
  have hlt:n<ops.size:=by omega
  have hd:(stripU cx fn ops).drop n=(n,((ops.toList.take n).filter (isAlloc cx fn)).length,unord (befores ops) n,stripO ops ops[n])::(stripU cx fn ops).drop (n+1):=by
   have h1:=stripU_get (cx:=cx) (fn:=fn) hlt
   rw[List.getElem?_eq_some_iff]at h1
   obtain⟨h2,h3⟩:=h1
   rw[List.drop_eq_getElem_cons h2,h3]
  rw[hd]at hr
  simp only[xrunU]at hr
  have ho:ops[n]?=some ops[n]:=Array.getElem?_eq_getElem hlt
  have hgo:guardOk ops ops[n]=true:=by
   unfold guardsOk at hg
   rw[List.all_eq_true]at hg
   exact hg _ (by simp)
  rw[←step_x hgo]at hr
  rw[List.drop_eq_getElem_cons (l:=List.range ops.size) (by simpa using hlt),List.getElem_range]
  cases hs:step cx h ro fn nt ops (n0+((ops.toList.take n).filter (isAlloc cx fn)).length) fr H (some ops[n]) with
  | none=>rw[hs]at hr;cases hr
  | some p =>
   obtain⟨f,fr1,H1⟩:=p
   rw[hs]at hr
   simp only[Option.map_some,xbind_some]at hr
   have hF:=step_f hs
   split at hr
   ·rename_i hall
    have hmm:fmO cx fn ops (n0+((ops.toList.take n).filter (isAlloc cx fn)).length) fr H H1 ((stripO ops ops[n]).1.getD 0) (stripO ops ops[n]).2.1=fmO cx fn ops (n0+((ops.toList.take n).filter (isAlloc cx fn)).length) fr H H1 (ops[n].dst.getD 0) ops[n].op:=rfl
    rw[hmm]at hr hall
    generalize fmO cx fn ops (n0+((ops.toList.take n).filter (isAlloc cx fn)).length) fr H H1 (ops[n].dst.getD 0) ops[n].op=mm at hr hall hF
    have hsub:∀x∈acc,x∈fmAdd n mm acc:=fun x hx=>by
     cases mm<;>simp only[fmAdd]<;>first | exact hx | exact List.mem_cons_of_mem _ hx
    have hin:mm=.no∨(n,mm)∈fmAdd n mm acc:=by
     cases mm<;>simp[fmAdd]
    obtain⟨fs,k1,k2,k3⟩:=run_u hg ht m (n+1) fr1 fr' H1 H' (fmAdd n mm acc) (fsP++[(n,f)]) (by omega) (by omega) (fun p hp=>by
     rcases List.mem_append.1 hp with hp | hp
     ·obtain⟨a1,o,mm',a2,a3,a4⟩:=hP p hp
      exact⟨by omega,o,mm',a2,a3,a4.imp id (hsub _)⟩
     ·simp only[List.mem_singleton]at hp
      subst hp
      exact⟨by simp,ops[n],mm,ho,hF,hin⟩) hr
    refine⟨(n,f)::fs,?_,?_,?_⟩
    ·simp only[run,ho,hs,k1,cons1]
    ·intro p hp q hq
     rcases List.mem_cons.1 hq with rfl | hq
     ·by_cases hb:((befores ops).getD n 0).testBit p.1=true
      ·exact .inl hb
      ·right
       obtain⟨a1,o,mm',a2,a3,a4⟩:=hP p hp
       have hu:=unord_mem a1 (by simpa using hb)
       have hta:tmpsApart ops o ops[n]=true:=by
        unfold tempsOk at ht
        rw[List.all_eq_true]at ht
        have h1:=ht (ops[n],n) (by
         rw[List.mem_iff_getElem?]
         exact⟨n,by rw[List.getElem?_zipIdx,Array.getElem?_toList,ho];simp⟩)
        rw[List.all_eq_true]at h1
        have h2:=h1 p.1 hu
        rw[a2]at h2
        exact h2
       have hmem:fmOk mm' mm=true:=by
        rcases a4 with rfl | a4
        ·rfl
        ·unfold fmAll at hall
         rw[List.all_eq_true]at hall
         have:=hall _ a4
         simp only[Bool.or_eq_true,Bool.not_eq_true']at this
         rcases this with this | this
         ·rw[List.elem_eq_mem,decide_eq_false_iff_not]at this
          exact absurd hu this
         ·exact this
       have hM:=fmOk_apart a3.conf hF.conf hmem
       unfold tmpsApart at hta
       simp only[Bool.and_eq_true,List.all_eq_true,Bool.not_eq_true',List.contains_eq_mem,decide_eq_false_iff_not]at hta
       obtain⟨t1,t2⟩:=hta
       unfold Fp.apart
       simp only[Bool.and_eq_true]at hM ⊢
       obtain⟨⟨⟨⟨⟨⟨⟨m1,m2⟩,m3⟩,m4⟩,m5⟩,m6⟩,m7⟩,m8⟩:=hM
       refine⟨⟨⟨⟨⟨⟨⟨⟨⟨?_,?_⟩,m1⟩,m2⟩,m3⟩,m4⟩,m5⟩,m6⟩,m7⟩,m8⟩
       ·simp only[List.all_eq_true,Bool.and_eq_true,Bool.not_eq_true',List.contains_eq_mem,decide_eq_false_iff_not]
        intro t htw
        obtain⟨b1,b2⟩:=t1 t (a3.ws t htw)
        exact⟨by rw[hF.rs];exact b1,fun hx=>b2 (hF.ws t hx)⟩
       ·simp only[List.all_eq_true,Bool.not_eq_true',List.contains_eq_mem,decide_eq_false_iff_not]
        intro t htw
        rw[a3.rs]
        exact t2 t (hF.ws t htw)
     ·exact k2 p (List.mem_append.2 (.inl hp)) q hq
    ·simp only[apartAll,Bool.and_eq_true,List.all_eq_true]
     refine⟨fun q hq=>?_,k3⟩
     have:=k2 (n,f) (List.mem_append.2 (.inr (by simp))) q hq
     simpa using this
   ·cases hr
noncomputable def regionRaw(cx:Cx)(h:Hd)(ro fn nt:Nat)(ops:Array Oper)(fr:PT)(H:Hp):Option Res:=normR (region cx h ro fn nt ops fr H true)
def orRaw(x:Option (PT×Hp))(k:Unit→Option Res):Option Res:=match x with
 | some r=>some (.normal,r.1,r.2)
 | none=>k ()
theorem orRaw_some(r:PT×Hp)(k:Unit→Option Res):orRaw (some r) k=some (.normal,r.1,r.2):=rfl
@[congr] theorem orRaw_congr{x y:Option (PT×Hp)}{k:Unit→Option Res}(h:x=y):orRaw x k=orRaw y k:=by rw[h]
theorem x_regionU{cx:Cx}{h:Hd}{ro fn nt id:Nat}{ops:Array Oper}{fr:PT}{H:Hp}(l:List XU)(m:Nat)(h1:guardsOk ops=true)(h2:forward ops=true)(h3:tempsOk ops=true)(hl:stripU cx fn ops=l)(hm:(ops.toList.filter (isAlloc cx fn)).length=m):
  ex cx h ro fn nt (.region id ops true) fr H=orRaw (xrunU cx h ro fn nt ops H.length l fr (H++List.replicate m .res) []) fun _=>regionRaw cx h ro fn nt ops fr H:=by
 cases hx:xrunU cx h ro fn nt ops H.length l fr (H++List.replicate m .res) [] with
 | none=>rfl
 | some r =>
  obtain⟨fr',H'⟩:=r
  rw[orRaw_some]
  subst hl;subst hm
  obtain⟨fs,k1,_,k3⟩:=run_u h1 h3 ops.size 0 fr fr' _ H' [] [] (by omega) (Nat.zero_le _) (fun p hp=>by cases hp) (by simpa using hx)
  simp only[List.drop_zero]at k1
  simp only[ex,region,h2,if_true,k1,ranAny,k3,normR]
section
variable {cx:Cx} {fn:FuncId} {ops:Array Oper} {nm:Nat} {fr:PT} {H H':Hp} {d:Tmp} {un:List Nat} {acc:List (Nat×Fm)} {j b c:Nat} {kp:Nat→Bool}
theorem fm_move{x:Operand}(hf:cx.pol.frz fn d=false):fmO cx fn ops nm fr H H' d (.move x)=.no:=by simp[fmO,hf]
theorem fm_assign{x:Operand}:fmO cx fn ops nm fr H H' d (.assign x)=.no:=nr rfl
theorem fm_pick{x y z:Operand}:fmO cx fn ops nm fr H H' d (.pick x y z)=.no:=nr rfl
theorem fm_build{t:TypeId}{ps:Array (Nat×Operand)}:fmO cx fn ops nm fr H H' d (.build t ps)=.no:=nr rfl
theorem fm_nilCheck{x:Operand}:fmO cx fn ops nm fr H H' d (.nilCheck x)=.no:=nr rfl
theorem fm_bin{op:BinOp}{t r:TypeId}{x y:Operand}:fmO cx fn ops nm fr H H' d (.binOp op t x y r)=.no:=nr rfl
theorem fm_un{op:UnOp}{t:TypeId}{x:Operand}:fmO cx fn ops nm fr H H' d (.unOp op t x)=.no:=nr rfl
theorem fm_conv{s t:TypeId}{x:Operand}:fmO cx fn ops nm fr H H' d (.convert s t x)=.no:=nr rfl
theorem fm_makeFunc{f:Fn}{x y:Array Operand}:fmO cx fn ops nm fr H H' d (.makeFunc f x y)=.no:=nr rfl
theorem fm_slice{t:TypeId}{x:Operand}{lo hi mx:Option Operand}:fmO cx fn ops nm fr H H' d (.slice t x lo hi mx)=.no:=nr rfl
theorem fm_fieldAddr{t:TypeId}{x:Operand}{f:Nat}:fmO cx fn ops nm fr H H' d (.fieldAddr t x f)=.no:=nr rfl
theorem fm_field{t:TypeId}{x:Operand}{f:Nat}:fmO cx fn ops nm fr H H' d (.field t x f)=.no:=nr rfl
theorem fm_indexAddr{t:TypeId}{x i:Operand}:fmO cx fn ops nm fr H H' d (.indexAddr t x i)=.no:=nr rfl
theorem fm_index{t:TypeId}{x i:Operand}:fmO cx fn ops nm fr H H' d (.index t x i)=.no:=nr rfl
theorem fm_extract{x:Operand}{i:Nat}:fmO cx fn ops nm fr H H' d (.extract x i)=.no:=nr rfl
theorem fm_alloc{t:TypeId}:fmO cx fn ops nm fr H H' d (.alloc t)=.wr nm:=nr rfl
theorem fm_box{t:TypeId}{x:Operand}:fmO cx fn ops nm fr H H' d (.box t x)=.wr nm:=nr rfl
theorem fm_makeMap{t:TypeId}{r:Option Operand}:fmO cx fn ops nm fr H H' d (.makeMap t r)=.wr nm:=nr rfl
theorem fm_buildSlice{t:TypeId}{n:Nat}{ps:Array (Nat×Operand)}:fmO cx fn ops nm fr H H' d (.buildSlice t n ps)=if cx.pol.heap fn d then .wr nm else .no:=nr rfl
theorem fm_makeSlice{t:TypeId}{l c:Operand}:fmO cx fn ops nm fr H H' d (.makeSlice t l c)=if cx.pol.heap fn d then .wr nm else .no:=nr rfl
theorem fm_take{t:TypeId}{a:Operand}(hf:cx.pol.frz fn d=false)(ht:takes ops d=true):fmO cx fn ops nm fr H H' d (.load t a)=takM H (ev fr a):=by simp[fmO,hf,ht]
theorem fo_rt:fmOk (.rd b) (.tak c)=true:=nr rfl
theorem fo_tr:fmOk (.tak b) (.rd c)=true:=nr rfl
theorem fo_wt:fmOk (.wr b) (.tak c) = !Nat.beq b c:=nr rfl
theorem fo_tw:fmOk (.tak b) (.wr c) = !Nat.beq b c:=nr rfl
theorem fmAdd_tak:fmAdd j (.tak b) acc=(j,.tak b)::acc:=nr rfl
theorem fm_load{t:TypeId}{a:Operand}(hf:cx.pol.frz fn d=false)(ht:takes ops d=false):fmO cx fn ops nm fr H H' d (.load t a)=rdM (rdOf (ev fr a)):=by simp[fmO,hf,ht]
def stM:AV→Fm
 | .ptr b _ _=>.wr b
 | _=>.bad
theorem fm_store{t:TypeId}{a x:Operand}:fmO cx fn ops nm fr H H' d (.store t a x)=stM (ev fr a):=nr rfl
theorem stM_ptr{i j:Nat}:stM (.ptr b i j)=.wr b:=nr rfl
theorem fm_len{x:Operand}{ts:Array TypeId}:fmO cx fn ops nm fr H H' d (.call ⟨.builtin .len,#[x],ts⟩)=rdM (lenRd (ev fr x)):=nr rfl
theorem fm_min{xs:Array Operand}{ts:Array TypeId}:fmO cx fn ops nm fr H H' d (.call ⟨.builtin .min,xs,ts⟩)=.no:=nr rfl
theorem fm_max{xs:Array Operand}{ts:Array TypeId}:fmO cx fn ops nm fr H H' d (.call ⟨.builtin .max,xs,ts⟩)=.no:=nr rfl
theorem fm_append{s x:Operand}{ts:Array TypeId}:fmO cx fn ops nm fr H H' d (.call ⟨.builtin .append,#[s,x],ts⟩)=if cx.pol.heap fn d then .bad else rdM (rdOf (ev fr x)):=nr rfl
theorem fm_copy{x y:Operand}{ts:Array TypeId}:fmO cx fn ops nm fr H H' d (.call ⟨.builtin .copy,#[x,y],ts⟩)=(match ev fr x with | .isl b _ _ _ _=>.wr b | _=>.bad):=nr rfl
theorem fm_call{f:Operand}{xs:List Operand}{ts:Array TypeId}:fmO cx fn ops nm fr H H' d (.call ⟨.value f,xs.toArray,ts⟩)=fmCall cx H H' (ev fr f) (xs.map (ev fr)):=nr rfl
theorem fmc_pure{g:FuncId}{vs:List AV}(hp:cx.pol.pure g=true)(hs:vs.all shut1=true):fmCall cx H H' (.fn g []) vs=.no:=by simp[fmCall,way,hp,hs]
theorem fmc_yld{l:Nat}{vs:List AV}:fmCall cx H H' (.yld l) vs=.full (kpAs H H'):=nr rfl
theorem fmAll_no:fmAll un .no acc=true:=by
 unfold fmAll;rw[List.all_eq_true];intro p _;cases p.2<;>simp[fmOk]
theorem fmAll_nil{m:Fm}:fmAll un m []=true:=nr rfl
theorem fmAll_cons{m m':Fm}{i:Nat}:fmAll un m ((i,m')::acc)=((!un.elem i||fmOk m' m)&&fmAll un m acc):=nr rfl
theorem fmAdd_no:fmAdd j .no acc=acc:=nr rfl
theorem fmAdd_rd:fmAdd j (.rd b) acc=(j,.rd b)::acc:=nr rfl
theorem fmAdd_rdAll:fmAdd j .rdAll acc=(j,.rdAll)::acc:=nr rfl
theorem fmAdd_wr:fmAdd j (.wr b) acc=(j,.wr b)::acc:=nr rfl
theorem fmAdd_full:fmAdd j (.full kp) acc=(j,.full kp)::acc:=nr rfl
theorem fmAdd_bad:fmAdd j .bad acc=(j,.bad)::acc:=nr rfl
theorem fo_xn{m:Fm}:fmOk m .no=true:=by cases m<;>rfl
theorem fo_nx{m:Fm}:fmOk .no m=true:=by cases m<;>rfl
theorem fmc_tup{vs:List AV}:fmCall cx H H' (.tup []) vs=.bad:=nr rfl
theorem fo_rr:fmOk (.rd b) (.rd c)=true:=nr rfl
theorem fo_ra:fmOk (.rd b) .rdAll=true:=nr rfl
theorem fo_ar:fmOk .rdAll (.rd c)=true:=nr rfl
theorem fo_aa:fmOk .rdAll .rdAll=true:=nr rfl
theorem fo_rw:fmOk (.rd b) (.wr c) = !Nat.beq b c:=nr rfl
theorem fo_wr:fmOk (.wr b) (.rd c) = !Nat.beq b c:=nr rfl
theorem fo_ww:fmOk (.wr b) (.wr c) = !Nat.beq b c:=nr rfl
theorem fo_rf:fmOk (.rd b) (.full kp)=kp b:=nr rfl
theorem fo_fr:fmOk (.full kp) (.rd b)=kp b:=nr rfl
theorem rdM_no:rdM .no=.no:=nr rfl
theorem rdM_one:rdM (.one b)=.rd b:=nr rfl
theorem rdM_all:rdM .all=.rdAll:=nr rfl
theorem rdOf_ptr{i k:Nat}:rdOf (.ptr b i k)=.one b:=nr rfl
theorem rdOf_sl{s i l c:Nat}:rdOf (.sl b s i l c)=.one b:=nr rfl
theorem rdOf_isl{s i l c:Nat}:rdOf (.isl b s i l c)=.one b:=nr rfl
theorem rdOf_vp{el:AV}{k:Nat}:rdOf (.vp el k)=.no:=nr rfl
theorem rdOf_vec{s:Nat}{k:Kd}{l:List AV}:rdOf (.vec s k l)=.no:=nr rfl
theorem rdOf_lit{v:Value}:rdOf (.lit v)=.no:=nr rfl
theorem rdOf_mp:rdOf (.mp b)=.one b:=nr rfl
theorem lenRd_vec{s:Nat}{k:Kd}{l:List AV}:lenRd (.vec s k l)=.no:=nr rfl
theorem lenRd_sl{s i l c:Nat}:lenRd (.sl b s i l c)=.no:=nr rfl
theorem lenRd_lit{v:Value}:lenRd (.lit v)=.no:=nr rfl
theorem lenRd_mp:lenRd (.mp b)=.one b:=nr rfl
end
theorem Sl.rdOf{sz:Nat}{a:AV}{els:List AV}(h:Sl sz a els):Abs.rdOf a=.no:=by
 rcases h with rfl | rfl | ⟨rfl,_⟩<;>rfl
theorem Sl.lenRd{sz:Nat}{a:AV}{els:List AV}(h:Sl sz a els):Abs.lenRd a=.no:=by
 rcases h with rfl | rfl | ⟨rfl,_⟩<;>rfl
attribute [go_sem ↓] orRaw_some
attribute [go_sem] xrunU fm_move fm_assign fm_pick fm_build fm_nilCheck fm_bin fm_un fm_conv fm_makeFunc fm_slice fm_fieldAddr fm_field fm_indexAddr fm_index fm_extract fm_alloc fm_box fm_makeMap fm_buildSlice fm_makeSlice fm_take fo_rt fo_tr fo_wt fo_tw fmAdd_tak fm_load fm_store stM_ptr fm_len fm_min fm_max fm_append fm_copy fm_call fmc_pure fmc_yld
 fmAll_no fmAll_nil fmAll_cons fmAdd_no fmAdd_rd fmAdd_rdAll fmAdd_wr fmAdd_full fmAdd_bad fo_xn fo_nx fmc_tup fo_rr fo_ra fo_ar fo_aa fo_rw fo_wr fo_ww fo_rf fo_fr rdM_no rdM_one rdM_all rdOf_ptr rdOf_sl rdOf_isl rdOf_vp rdOf_vec rdOf_lit rdOf_mp lenRd_vec lenRd_sl lenRd_lit lenRd_mp
 List.replicate_zero List.append_nil
def fitA(agg:Bool)(sz:Nat):AV→Bool
 | .agg l=>agg&&l.length == sz
 | .tup _=>false
 | .dead=>false
 | .lit (.agg _)=>false
 | .lit (.tuple _)=>false
 | _=>!agg&&sz == 1
theorem fit_eq(ti:TI)(x:AV):fit ti x=fitA ti.agg ti.size x:=by
 unfold fit fitA
 cases x with
 | lit v=>cases v<;>rfl
 | _=>rfl
theorem fitA_agg(agg:Bool)(sz:Nat)(l:List AV):fitA agg sz (.agg l)=(agg&&decide (l.length=sz)):=nr rfl
theorem fitA_int(k:IntKind)(n:Int):fitA false 1 (.lit (.int k n))=true:=nr rfl
theorem fitA_bool(b:Bool):fitA false 1 (.lit (.bool b))=true:=nr rfl
theorem fitA_nil(a:Option Addr)(l c:Nat):fitA false 1 (.lit (.slice a l c))=true:=nr rfl
theorem fitA_np(a:Option Addr):fitA false 1 (.lit (.pointer a))=true:=nr rfl
theorem fitA_ptr(b i j:Nat):fitA false 1 (.ptr b i j)=true:=nr rfl
theorem fitA_sl(b s i l c:Nat):fitA false 1 (.sl b s i l c)=true:=nr rfl
theorem fitA_vp(el:AV)(j:Nat):fitA false 1 (.vp el j)=true:=nr rfl
theorem fitA_vec(s:Nat)(k:Kd)(l:List AV):fitA false 1 (.vec s k l)=true:=nr rfl
theorem fitA_fn(f:FuncId)(c:List AV):fitA false 1 (.fn f c)=true:=nr rfl
theorem Sl.fitA{sz:Nat}{a:AV}{els:List AV}(h:Sl sz a els):Abs.fitA false 1 a=true:=by
 rcases h with rfl | rfl | ⟨rfl,_⟩<;>rfl
theorem free_len(ro:Nat)(H:Hp){n:Nat}(hn:n=H.length):free ro H n=decide (ro≤n):=by
 subst hn
 unfold free
 rw[List.getElem?_eq_none (Nat.le_refl _),Bool.eq_iff_iff]
 simp[Nat.ble_eq]
theorem free_res(ro:Nat)(H:Hp){n:Nat}(hn:H[n]?=some .res):free ro H n=decide (ro≤n):=by
 unfold free
 rw[hn,Bool.eq_iff_iff]
 simp[Nat.ble_eq]
section
variable {cx:Cx} {h:Hd} {ro fn nt nm:Nat} {ops:Array Oper} {fr:PT} {H:Hp} {d:Tmp} {dd:Option Tmp}
def layB(nt ro nm:Nat)(dd:Option Tmp)(fr:PT)(H:Hp)(v:AV)(blk:ABlock):Option (PT×Hp) :=
 if free ro H nm=true then setO nt dd fr (putB H (some (nm,blk))) v else none
theorem layB_eq{v:AV}{blk:ABlock}(hf:free ro H nm=true):layB nt ro nm dd fr H v blk=setO nt dd fr (putB H (some (nm,blk))) v:=by rw[layB,if_pos hf]
theorem xo_box(e:TypeId)(x:Operand):xop cx h ro fn nt ops nm fr H dd (.box e x)=xbind (ldT cx.T e) fun p=>if p.2=0∨fitA p.1 p.2 (ev fr x)=false then none else layB nt ro nm dd fr H (.ptr nm 0 0) (.cells p.2 e [drp (ev fr x)]):=by
 simp only[xop,calleeOf,lop,lBox,ldT]
 cases cx.T e with
 | none=>rfl
 | some te =>
  simp only[Option.map_some,xbind_some,fit_eq]
  by_cases h1:te.size=0
  ·simp[h1,xbind]
  ·by_cases h2:fitA te.agg te.size (ev fr x)=false
   ·simp[h2,xbind]
   ·by_cases h3:free ro H nm=true
    ·simp only[h1,h2,h3,false_or,Bool.true_eq_false,if_false,or_self,xbind_some,layB,if_true];rfl
    ·have h3':free ro H nm=false:=by simpa using h3
     simp[h1,h2,h3',layB,xbind]
def zeroT(T:TypeId→Option TI)(e:TypeId):Option (Nat×AV):=(T e).bind fun te=>(zeroAV te).map fun z=>(te.size,z)
theorem xo_alloc(e:TypeId):xop cx h ro fn nt ops nm fr H dd (.alloc e)=xbind (zeroT cx.T e) fun p=>if p.1=0 then none else layB nt ro nm dd fr H (.ptr nm 0 0) (.cells p.1 e [p.2]):=by
 simp only[xop,calleeOf,lop,lAlloc,zeroT]
 cases cx.T e with
 | none=>rfl
 | some te =>
  simp only[Option.bind_some]
  cases zeroAV te with
  | none=>rfl
  | some z =>
   simp only[Option.map_some,xbind_some]
   by_cases h1:te.size=0
   ·simp[h1,xbind]
   ·by_cases h3:free ro H nm=true
    ·simp only[h1,h3,Bool.true_eq_false,if_false,or_self,xbind_some,layB,if_true];rfl
    ·have h3':free ro H nm=false:=by simpa using h3
     simp[h1,h3',layB,xbind]
theorem xo_makeMap(t:TypeId):xop cx h ro fn nt ops nm fr H dd (.makeMap t none)=layB nt ro nm dd fr H (.mp nm) (.mapo []):=by
 simp only[xop,calleeOf,lop,layB]
 by_cases h3:free ro H nm=true
 ·simp only[h3,Bool.true_eq_false,if_false,xbind_some,if_true];rfl
 ·have h3':free ro H nm=false:=by simpa using h3
  simp[h3',xbind]
def mkT(T:TypeId→Option TI)(t:TypeId):Option (Nat×TypeId×Nat×AV):=match T t with
 | some { d:=.slice e,.. }=>match T e with
  | some te=>(zeroAV te).map fun z=>(te.size,e,te.bytes,z)
  | none=>none
 | _=>none
def mkL(bytes:Nat):AV→AV→Option Nat
 | .lit (.int .i64 l),.lit (.int .i64 c)=>if 0≤l∧l=c∧l*(bytes+1)≤2 ^ 40 then some l.toNat else none
 | _,_=>none
theorem mkL_nat{bytes n:Nat}{m:Int}(hm:m=(n:Int))(h:n*(bytes+1)≤2 ^ 40):mkL bytes (.lit (.int .i64 m)) (.lit (.int .i64 m))=some n:=by
 subst hm
 simp only[mkL]
 have h':(n:Int)*((bytes:Int)+1)≤2 ^ 40:=by exact_mod_cast h
 rw[if_pos ⟨by omega,trivial,h'⟩]
 simp
theorem mkL_cast{bytes n:Nat}(h:n*(bytes+1)≤1099511627776):mkL bytes (.lit (.int .i64 (n:Int))) (.lit (.int .i64 (n:Int)))=some n:=mkL_nat rfl h
theorem xo_makeSlice_h(hh:cx.pol.heap fn (dd.getD 0)=true)(t:TypeId)(l c:Operand):xop cx h ro fn nt ops nm fr H dd (.makeSlice t l c)=xbind (mkT cx.T t) fun p=>if p.1=0 then none else xbind (mkL p.2.2.1 (ev fr l) (ev fr c)) fun n=>layB nt ro nm dd fr H (.sl nm p.1 0 n n) (.cells p.1 p.2.1 (List.replicate n p.2.2.2)):=by
 simp only[xop,calleeOf,lop,lMakeSlice,hh,if_true,mkT,amakeSlice]
 cases hT:cx.T t with
 | none=>rfl
 | some ti =>
  obtain⟨sz,by',z0,ag,d',eq⟩:=ti
  cases d' with
  | slice e =>
   simp only
   cases he:cx.T e with
   | none=>rfl
   | some te =>
    simp only
    cases hz:zeroAV te with
    | none=>rfl
    | some z =>
     simp only[Option.map_some,xbind_some]
     generalize ev fr l=L
     generalize ev fr c=C
     have triv:∀(f:Nat→Option (PT×Hp)),mkL te.bytes L C=none→(none:Option (PT×Hp))=if te.size=0 then none else xbind (mkL te.bytes L C) f:=fun f hm=>by rw[hm];split<;>rfl
     cases L with
     | lit v =>
      cases v with
      | int k l' =>
       cases k with
       | i64 =>
        cases C with
        | lit u =>
         cases u with
         | int k2 c' =>
          cases k2 with
          | i64 =>
           simp only[mkL]
           by_cases h1:te.size=0
           ·rw[if_neg (fun hx=>hx.2.2.1 h1),if_pos h1];rfl
           ·rw[if_neg h1]
            by_cases h2:0≤l'∧l'=c'∧l'*(te.bytes+1)≤2 ^ 40
            ·rw[if_pos ⟨h2.1,h2.2.1,h1,h2.2.2⟩,if_pos h2]
             simp only[laid,if_true,List.nil_append,lLaid,xbind_some,layB,List.length_replicate]
             by_cases h3:free ro H nm=true
             ·simp only[h3,Bool.true_eq_false,if_false,xbind_some,if_true];rfl
             ·have h3':free ro H nm=false:=by simpa using h3
              simp[h3',xbind]
            ·rw[if_neg (fun hx=>h2 ⟨hx.1,hx.2.1,hx.2.2.2⟩),if_neg h2];rfl
          | _=>exact triv _ rfl
         | _=>exact triv _ rfl
        | _=>exact triv _ rfl
       | _=>exact triv _ rfl
      | _=>exact triv _ rfl
     | _=>exact triv _ rfl
  | _=>rfl
def elS(agg:Bool)(sz:Nat)(el:AV)(j:Nat)(x:AV):Option AV :=
 if fitA agg sz x=false then none else
 match el with
 | .agg l=>if j+sz≤l.length then some (.agg (l.take j++cellsOf x++l.drop (j+sz))) else none
 | .tup _=>none
 | _=>if agg=false∧j=0 then some x else none
theorem elSet_eq(ti:TI)(el:AV)(j:Nat)(x:AV):elSet ti el j x=elS ti.agg ti.size el j x:=by
 unfold elSet elS
 rw[fit_eq]
 split
 ·rfl
 ·cases el<;>rfl
def stV(ro:Nat)(H:Hp)(agg:Bool)(sz:Nat)(a x:AV):Option Hp :=
 match a with
 | .ptr b i j=>if b<ro then none else match H[b]? with
  | some (.cells z e els)=>match els[i]? with
   | some el=>(elS agg sz el j x).map fun el'=>H.set b (.cells z e (els.set i el'))
   | none=>none
  | _=>none
 | _=>none
def stX(fr:PT):Operand→AV×PT
 | .tmp t=>match fr.get t with
  | .vec z .own els=>(.vec z .own els,fr.set t (.vec z .shared els))
  | v=>(drp (shr v),fr)
 | x=>(drp (ev fr x),fr)
theorem xo_store(t:TypeId)(a x:Operand):xop cx h ro fn nt ops nm fr H dd (.store t a x)=xbind (ldT cx.T t) fun p=>xbind (stV ro H p.1 p.2 (ev fr a) (stX fr x).1) fun H'=>setO nt dd (stX fr x).2 H' (.tup []):=by
 have hx:(match owner fr x with | some s=>fr.get s | none=>drp (ev fr x))=(stX fr x).1∧unownT (owner fr x) fr=(stX fr x).2:=by
  cases x with
  | tmp s =>
   cases hv:fr.get s with
   | vec z k els=>cases k<;>simp[owner,stX,hv,unownT,ev,shr]
   | _=>simp[owner,stX,hv,unownT,ev]
  | _=>exact⟨rfl,rfl⟩
 simp only[xop,calleeOf,lop]
 cases hT:cx.T t with
 | none =>
  simp only[ldT,hT,Option.map_none,xbind_none]
  cases ev fr a<;>simp only[lStore,astore,hT]<;>first | rfl | (split<;>rfl)
 | some ti =>
  simp only[ldT,hT,Option.map_some,xbind_some]
  cases ev fr a with
  | ptr b i j =>
   have hval:lStore cx.T ro fr H t (.ptr b i j) x=if b<ro then none else match astore cx.T t H (.ptr b i j) (stX fr x).1 with
    | some H'=>some { v:=.tup [],un:=owner fr x,up:=(H'[b]?).map fun blk=>(b,blk),rd:=.one b }
    | none=>none:=by rw[←hx.1];rfl
   simp only[hval,stV]
   split
   ·rfl
   ·simp only[astore,hT]
    cases hb:H[b]? with
    | none=>rfl
    | some blk =>
     cases blk with
     | cells z e els =>
      simp only
      cases he:els[i]? with
      | none=>rfl
      | some el =>
       simp only[elSet_eq]
       cases hs:elS ti.agg ti.size el j (stX fr x).1 with
       | none=>rfl
       | some el' =>
        have hlt:=lt_of_get hb
        simp only[Option.map_some,xbind_some,List.getElem?_set_self hlt,xeff,hx.2,putB,setO]
        rw[if_neg (by omega)]
     | _=>rfl
  | _=>rfl
def stW(fr:PT)(t:Tmp):AV→AV×PT
 | .vec z .own els=>(.vec z .own els,fr.set t (.vec z .shared els))
 | v=>(drp (shr v),fr)
theorem stX_tmp{t:Tmp}:stX fr (.tmp t)=stW fr t (fr.get t):=nr rfl
theorem stW_not{t:Tmp}{v:AV}(hv:isOwn v=false):stW fr t v=(drp v,fr):=by
 unfold stW
 split
 ·simp[isOwn]at hv
 ·rw[shr_of_notOwn hv]
theorem stW_own{t:Tmp}{z:Nat}{els:List AV}:stW fr t (.vec z .own els)=(.vec z .own els,fr.set t (.vec z .shared els)):=nr rfl
theorem stX_const{v:Value}:stX fr (.const v)=(drp (ofVal v),fr):=nr rfl
theorem stX_func{f:FuncId}:stX fr (.func f)=(.fn f [],fr):=nr rfl
end
theorem aindexAddr_blk{T:TypeId→Option TI}{t:TypeId}{sz:Nat}{e:TypeId}{te:TI}(ht:slT T t=some (sz,e,te)){b i len cap n:Nat}{k:IntKind}{m:Int}(hm:m=(n:Int))(hn:n<len):aindexAddr T t (.sl b sz i len cap) (.lit (.int k m))=some (.ptr b (i+n) 0):=by
 subst hm
 have hnat:natOf (.lit (.int k (n:Int)))=some n:=by simp[natOf]
 unfold slT at ht
 split at ht
 ·rename_i e' _ hT
  cases he:T e' with
  | none=>rw[he]at ht;cases ht
  | some te' =>
   rw[he]at ht
   simp only[Option.map_some,Option.some.injEq,Prod.mk.injEq]at ht
   obtain⟨rfl,rfl,rfl⟩:=ht
   unfold aindexAddr
   rw[hnat,hT]
   simp only[he,hn,and_self,if_true]
 ·cases ht
theorem alen_blk{T:TypeId→Option TI}{t:TypeId}{H:Hp}{b sz i len cap:Nat}(ht:(slT T t).isSome=true):alen T t H (.sl b sz i len cap)=some (.lit (.int .i64 len)):=by
 unfold slT at ht
 unfold alen
 split at ht
 ·rename_i hT;rw[hT]
 ·cases ht
section
variable {H L:Hp} {n k b:Nat} {x:ABlock}
theorem hp_get_r(hn:H.length=n):(H++L)[n+k]?=L[k]?:=by
 rw[List.getElem?_append_right (by omega)];congr 1;omega
theorem hp_get_r0(hn:H.length=n):(H++L)[n]?=L[0]?:=by
 rw[List.getElem?_append_right (by omega)];congr 1;omega
theorem hp_get_l(hb:b<H.length):(H++L)[b]?=H[b]?:=List.getElem?_append_left hb
theorem hp_set_r(hn:H.length=n):(H++L).set (n+k) x=H++L.set k x:=by
 rw[List.set_append_right _ _ (by omega)];congr 2;omega
theorem hp_set_r0(hn:H.length=n):(H++L).set n x=H++L.set 0 x:=by
 rw[List.set_append_right _ _ (by omega)];congr 2;omega
theorem hp_set_l(hb:b<H.length):(H++L).set b x=H.set b x++L:=List.set_append_left _ _ hb
theorem hp_one(hb:b<H.length):(H.set b x)[b]?=some x:=List.getElem?_set_self hb
theorem hp_ne{c:Nat}(hb:b≠c):(H.set b x)[c]?=H[c]?:=List.getElem?_set_ne hb
theorem layB_len{nt ro nm:Nat}{dd:Option Tmp}{fr:PT}{v:AV}{blk:ABlock}(h1:H.length=nm)(h2:ro≤nm):layB nt ro nm dd fr H v blk=setO nt dd fr (H++[blk]) v:=by
 rw[layB_eq (by rw[free_len ro H h1.symm];simpa using h2)]
 simp only[putB,h1,if_true]
theorem layB_res{nt ro nm:Nat}{dd:Option Tmp}{fr:PT}{v:AV}{blk:ABlock}(h1:H[nm]?=some .res)(h2:ro≤nm):layB nt ro nm dd fr H v blk=setO nt dd fr (H.set nm blk) v:=by
 rw[layB_eq (by rw[free_res ro H h1];simpa using h2)]
 have:nm≠H.length:=by
  intro e;rw[e,List.getElem?_eq_none (Nat.le_refl _)]at h1;cases h1
 simp only[putB,if_neg this]
end
theorem elS_whole{sz:Nat}{l c:List AV}(h1:c.length=sz)(h2:l.length=sz):elS true sz (.agg l) 0 (.agg c)=some (.agg c):=by
 subst h1
 simp[elS,fitA,h2,cellsOf,List.drop_eq_nil_of_le (Nat.le_of_eq h2)]
theorem elS_cell{l:List AV}{j:Nat}{x:AV}(hx:fitA false 1 x=true)(hj:j<l.length):elS false 1 (.agg l) j x=some (.agg (l.set j x)):=by
 have hc:cellsOf x=[x]:=by
  cases x<;>first | rfl | (simp[fitA]at hx)
 simp only[elS,hx,Bool.true_eq_false,if_false,hc]
 rw[if_pos (by omega),List.set_eq_take_append_cons_drop,if_pos hj]
 simp
theorem elS_one{v:Value}{x:AV}(hx:fitA false 1 x=true):elS false 1 (.lit v) 0 x=some x:=by
 simp[elS,hx]
theorem elS_ptr{b i j:Nat}{x:AV}(hx:fitA false 1 x=true):elS false 1 (.ptr b i j) 0 x=some x:=by
 simp[elS,hx]
theorem elS_vec{s:Nat}{k:Kd}{l:List AV}{x:AV}(hx:fitA false 1 x=true):elS false 1 (.vec s k l) 0 x=some x:=by
 simp[elS,hx]
theorem xapply_yld{cx:Cx}{h:Hd}{ro l:Nat}{vs:List AV}{H:Hp}:xapply cx h ro (.yld l) vs H=round h ro l vs H:=nr rfl
theorem get_mapdrp(fr:PT)(t:Nat):(fr.map drp).get t=drp (fr.get t):=PT.get_map rfl fr t
theorem get_mapkill(n:Nat)(fr:PT)(t:Nat):(fr.map (kill n)).get t=kill n (fr.get t):=PT.get_map rfl fr t
theorem setArgs_cons(t:Tmp)(a:AV)(l:List (Tmp×AV))(fr:PT):setArgs ((t,a)::l) fr=setArgs l (fr.set t (drp a)):=nr rfl
theorem setArgs_nil(fr:PT):setArgs [] fr=fr:=nr rfl
def cellsB:Option ABlock→Option (Nat×TypeId×List AV)
 | some (.cells z e els)=>some (z,e,els)
 | _=>none
theorem cellsB_cells(z:Nat)(e:TypeId)(els:List AV):cellsB (some (.cells z e els))=some (z,e,els):=nr rfl
theorem elAt_eq(H:Hp)(b i:Nat):elAt H b i=xbind (cellsB H[b]?) fun p=>p.2.2[i]?:=by
 simp only[elAt]
 cases H[b]? with
 | none=>rfl
 | some blk=>cases blk<;>rfl
theorem stV_eq(ro:Nat)(H:Hp)(agg:Bool)(sz b i j:Nat)(x:AV):stV ro H agg sz (.ptr b i j) x=if b<ro then none else xbind (cellsB H[b]?) fun p=>xbind p.2.2[i]? fun el=>xbind (elS agg sz el j x) fun el'=>some (H.set b (.cells p.1 p.2.1 (p.2.2.set i el'))):=by
 simp only[stV]
 split
 ·rfl
 ·cases H[b]? with
  | none=>rfl
  | some blk=>cases blk with
   | cells z e els =>
    simp only[cellsB_cells,xbind_some]
    cases els[i]? with
    | none=>rfl
    | some el=>simp only[xbind_some];cases elS agg sz el j x<;>rfl
   | _=>rfl
theorem round_eq{cx:Cx}{ro l:Nat}{args:List AV}{H:Hp}{r:ALoop}(hl:H[l]?=some (.loop r))(hro:ro≤l)(hst:r.state=.ready)(hlen:args.length=r.params.length)(hp:r.params.all (· < r.nt)=true):
  round (den cx) ro l args H=bodyRound (den cx) ro l r (ex cx (den cx) ro r.fn r.nt r.assign (setArgs (r.params.zip args) r.fr) H):=by
 unfold round
 rw[if_neg (by omega),hl]
 simp only
 rw[if_pos ⟨hst,hlen,hp⟩,den_code_eq]
theorem bodyRound_eq{cx:Cx}{ro l:Nat}{H:Hp}{fr:PT}{r0 r:ALoop}(hl:H[l]?=some (.loop r))(hst:r.state=.ready):
  bodyRound (den cx) ro l r0 (some (.normal,fr,H))=endRound l (ex cx (den cx) ro r0.fn r0.nt r0.body fr (H.set l (.loop { r with state:=.busy }))):=by
 simp only[bodyRound,hl,hst,if_true,den_code_eq]
theorem endRound_normal{l:Nat}{fr:PT}{H:Hp}{r:ALoop}(hl:H[l]?=some (.loop r)):
  endRound l (some (.normal,fr,H))=some (.lit (.bool true),H.set l (.loop { r with state:=.ready,pending:=none })):=by
 simp only[endRound,hl];rfl
theorem endRound_other{l:Nat}{fr:PT}{H:Hp}{r:ALoop}{e:Ex}(hl:H[l]?=some (.loop r))(he:e≠.normal):
  endRound l (some (e,fr,H))=some (.lit (.bool false),H.set l (.loop { r with state:=.done,pending:=some e })):=by
 have hb:(e == Ex.normal)=false:=by simpa using he
 simp only[endRound,hl,hb,he,if_false]
theorem x_range{cx:Cx}{h:Hd}{ro fn nt:Nat}{fr:PT}{H:Hp}(f:Operand)(ps:Array Tmp)(q r:Code):ex cx h ro fn nt (.rangeFunc f ps q r) fr H=ranged h ro fr H { fn,nt,fr:=fr.map drp,params:=ps.toList,assign:=q,body:=r,state:=.ready,pending:=none } (ev fr f):=rfl
theorem ranged_fn{h:Hd}{ro:Nat}{fr:PT}{H:Hp}{r:ALoop}{g:FuncId}{cap:List AV}:ranged h ro fr H r (.fn g cap)=endLoop H.length fr (h.call ro g (.yld H.length::cap) (H++[.loop r])):=rfl
theorem endLoop_eq{l:Nat}{fr:PT}{H:Hp}{v:AV}{r:ALoop}(hl:H[l]?=some (.loop r))(hs:r.state≠.busy):endLoop l fr (some (v,H))=some (r.pending.getD .normal,fr,H.set l (.loop { r with state:=.exhausted })):=by
 simp only[endLoop,hl]
 rw[if_neg hs]
attribute [go_sem] xapply_yld get_mapdrp get_mapkill setArgs_cons setArgs_nil List.zip_cons_cons List.zip_nil_left xo_makeSlice_h mkL_cast alen_blk Option.isSome_some elS_whole elS_cell elS_one elS_ptr elS_vec layB_len List.append_assoc List.cons_append List.nil_append List.length_append List.length_set List.set_cons_zero List.set_cons_succ fitA_agg fitA_int fitA_bool fitA_nil fitA_np fitA_ptr fitA_sl fitA_vp fitA_vec fitA_fn xo_box xo_alloc xo_makeMap xo_store stX_tmp stW_not stW_own stX_const stX_func x_range ranged_fn
theorem aslice_arr{T:TypeId→Option TI}{t:TypeId}{n sz b i j:Nat}(ht:arT T t=some (n,sz)):aslice T t (.ptr b i j) none none none=some (.isl b i j sz n):=by
 unfold arT at ht
 split at ht
 ·rename_i m' e _ hT
  cases he:T e with
  | none=>rw[he]at ht;cases ht
  | some te =>
   rw[he]at ht
   simp only[Option.map_some,Option.some.injEq,Prod.mk.injEq]at ht
   obtain⟨rfl,rfl⟩:=ht
   simp only[aslice,hT,he]
   rfl
 ·cases ht
theorem aslice_ptr{T:TypeId→Option TI}{t:TypeId}{b i j:Nat}:aslice T t (.ptr b i j) none none none=xbind (arT T t) fun p=>some (.isl b i j p.2 p.1):=by
 cases h:arT T t with
 | some p=>obtain⟨n,sz⟩:=p;rw[aslice_arr h];rfl
 | none =>
  unfold arT at h
  simp only[aslice,xbind_none]
  split at h
  ·rename_i e _ hT
   cases he:T e with
   | none=>simp only[hT,he]
   | some te=>rw[he]at h;cases h
  ·rename_i hne
   split
   ·exact absurd (by assumption) (hne _ _ _ _ _ _ _)
   ·rfl
def cpA(j esz len:Nat)(xs:List AV)(ok:Bool):AV→Option AV
 | .agg l=>if j+min xs.length len*esz≤l.length∧ok=true then some (.agg (l.take j++(xs.take (min xs.length len)).flatMap cellsOf++l.drop (j+min xs.length len*esz))) else none
 | _=>none
theorem acopy_isl{T:TypeId→Option TI}{t:TypeId}{H:Hp}{b i j esz len:Nat}{Y:AV}:acopy T t H (.isl b i j esz len) Y=xbind (slT T t) fun q=>if q.1=esz then xbind (items esz H Y) fun xs=>xbind (cellsB H[b]?) fun c=>xbind c.2.2[i]? fun el=>xbind (cpA j esz len xs (xs.all (fit q.2.2)) el) fun el'=>some (min xs.length len,b,.cells c.1 c.2.1 (c.2.2.set i el')) else none:=by
 unfold acopy slT
 cases hT:T t with
 | none=>rfl
 | some ti =>
  obtain⟨sz,by',z0,ag,d',eq⟩:=ti
  cases d' with
  | slice e =>
   simp only
   cases he:T e with
   | none=>rfl
   | some te =>
    simp only[Option.map_some,xbind_some]
    split
    ·cases items esz H Y with
     | none=>rfl
     | some xs =>
      cases H[b]? with
      | none=>rfl
      | some blk =>
       cases blk with
       | cells z e els =>
        simp only[cellsB_cells,xbind_some]
        cases els[i]? with
        | none=>rfl
        | some el =>
         cases el with
         | agg l =>
          simp only[xbind_some,cpA]
          split<;>rfl
         | _=>rfl
       | _=>rfl
    ·rfl
  | _=>rfl
theorem acopy_b{T:TypeId→Option TI}{t:TypeId}{H:Hp}{x y:AV}{n b:Nat}{blk:ABlock}(h:acopy T t H x y=some (n,b,blk)):b<H.length:=by
 unfold acopy at h
 split at h
 ·split at h
  ·split at h
   ·split at h
    ·rename_i hb
     split at h
     ·simp only at h
      split at h
      ·cases h;exact lt_of_get hb
      ·cases h
     ·cases h
    ·cases h
   ·cases h
  ·cases h
 ·cases h
def cpV(ro:Nat)(H:Hp)(y:AV):Nat×Nat×ABlock→Option (AV×Hp):=fun r =>
 if r.2.1<ro∨rdOf y≠.no then none else some (.lit (.int .i64 r.1),H.set r.2.1 r.2.2)
theorem xo_copy{cx:Cx}{h:Hd}{ro fn nt nm:Nat}{ops:Array Oper}{fr:PT}{H:Hp}{dd:Option Tmp}{x y:Operand}{t:TypeId}{ts:List TypeId}:
  xop cx h ro fn nt ops nm fr H dd (.call ⟨.builtin .copy,#[x,y],(t::ts).toArray⟩)=xbind (acopy cx.T t H (ev fr x) (ev fr y)) fun r=>xbind (cpV ro H (ev fr y) r) fun p=>setO nt dd fr p.2 p.1:=by
 simp only[xop,calleeOf,lop,lCall,lBuiltin,lCopy]
 cases hA:acopy cx.T t H (ev fr x) (ev fr y) with
 | none=>rfl
 | some r =>
  obtain⟨n,b,blk⟩:=r
  have hlt:=acopy_b hA
  simp only[xbind_some,cpV]
  by_cases h0:b<ro∨rdOf (ev fr y)≠.no
  ·rw[if_pos h0,if_pos h0];rfl
  ·rw[if_neg h0,if_neg h0]
   simp only[xbind_some,xeff,unownT,putB,setO]
   rw[if_neg (by omega)]
attribute [go_sem] aslice_ptr xo_copy acopy_isl cpV
theorem pcall_eq{cx:Cx}{g:FuncId}{vs:List AV}{v:AV}{H':Hp}(h:callB cx (den cx) 0 g (vs.map cl2) []=some (v,H')):pcall (den cx) g vs=some (frz 0 H' v):=by
 unfold pcall
 rw[den_call_eq,h]
 rfl
def takeV(T:TypeId→Option TI)(ro:Nat)(H:Hp)(t:TypeId)(x:AV):Option (AV×Hp) :=
 match atake H x with
 | some (v,b,H')=>if b<ro∨(T t).map (·.agg)≠some false then none else some (v,H')
 | none=>(aload T t H x).map fun v=>(v,H)
theorem atake_len{H H':Hp}{a v:AV}{b:Nat}(h:atake H a=some (v,b,H')):b<H.length∧∃blk,H'=H.set b blk:=by
 unfold atake at h
 split at h
 ·rename_i b0 i j
  cases hb:H[b0]? with
  | none=>rw[hb]at h;cases h
  | some blk =>
   rw[hb]at h
   split at h
   ·split at h
    ·split at h
     ·cases h;exact⟨lt_of_get hb,_,rfl⟩
     ·cases h
    ·split at h
     ·cases h;exact⟨lt_of_get hb,_,rfl⟩
     ·cases h
    ·cases h
   ·cases h
 ·cases h
section
variable {cx:Cx} {h:Hd} {ro fn nt nm:Nat} {ops:Array Oper} {fr:PT} {H:Hp} {dd:Option Tmp}
theorem xo_takeload{t:TypeId}{x:Operand}(hf:cx.pol.frz fn (dd.getD 0)=false)(ht:takes ops (dd.getD 0)=true):xop cx h ro fn nt ops nm fr H dd (.load t x)=xbind (takeV cx.T ro H t (ev fr x)) fun p=>setO nt dd fr p.2 p.1:=by
 simp only[xop,calleeOf,lop,lLoad,hf,ht,Bool.false_eq_true,if_false,if_true,takeV]
 cases ha:atake H (ev fr x) with
 | none =>
  simp only
  cases aload cx.T t H (ev fr x) with
  | none=>rfl
  | some v=>rfl
 | some r =>
  obtain⟨v,b,H'⟩:=r
  obtain⟨hlt,blk,rfl⟩:=atake_len ha
  simp only[lTake]
  by_cases h0:b<ro∨(cx.T t).map (·.agg)≠some false
  ·rw[if_pos h0,if_pos h0];rfl
  ·rw[if_neg h0,if_neg h0]
   simp only[xbind_some,List.getElem?_set_self hlt,Option.map_some,xeff,unownT,putB,setO]
   rw[if_neg (by omega)]
def tkE(ro:Nat)(H:Hp)(agg:Bool)(sz b i j z:Nat)(e:TypeId)(els:List AV):AV→Option (AV×Hp)
 | .vec s .own xs=>if j=0 then if b<ro∨agg=true then none else some (.vec s .own xs,H.set b (.cells z e (els.set i (.vec s .shared xs)))) else (elP agg sz (.vec s .own xs) j).map fun v=>(v,H)
 | .agg l=>match l[j]? with
  | some (.vec s .own xs)=>if b<ro∨agg=true then none else some (.vec s .own xs,H.set b (.cells z e (els.set i (.agg (l.set j (.vec s .shared xs))))))
  | _=>(elP agg sz (.agg l) j).map fun v=>(v,H)
 | el=>(elP agg sz el j).map fun v=>(v,H)
theorem tkE_own{agg:Bool}{sz b i z s:Nat}{e:TypeId}{els xs:List AV}:tkE ro H agg sz b i 0 z e els (.vec s .own xs)=if b<ro∨agg=true then none else some (.vec s .own xs,H.set b (.cells z e (els.set i (.vec s .shared xs)))):=nr rfl
theorem tkE_lit{agg:Bool}{sz b i j z:Nat}{e:TypeId}{els:List AV}{v:Value}:tkE ro H agg sz b i j z e els (.lit v)=(elP agg sz (.lit v) j).map fun v=>(v,H):=nr rfl
theorem takeV_ptr{T:TypeId→Option TI}{t:TypeId}{b i j:Nat}:takeV T ro H t (.ptr b i j)=xbind (ldT T t) fun q=>xbind (cellsB H[b]?) fun p=>xbind p.2.2[i]? fun el=>tkE ro H q.1 q.2 b i j p.1 p.2.1 p.2.2 el:=by
 simp only[takeV,atake]
 cases hT:T t with
 | none =>
  simp only[aload_eq,ldT,hT,Option.map_none,xbind_none]
  have:(none:Option Bool)≠some false:=by simp
  cases H[b]? with
  | none=>rfl
  | some blk=>cases blk with
   | cells z e els =>
    simp only
    cases els[i]? with
    | none=>rfl
    | some el=>cases el with
     | vec s k xs=>cases k<;>simp[this]<;>split<;>simp
     | agg l=>simp only;cases l[j]? with
      | none=>rfl
      | some x=>cases x with
       | vec s k xs=>cases k<;>simp[this]
       | _=>rfl
     | _=>rfl
   | _=>rfl
 | some ti =>
  have hag:∀x:Nat,(x<ro∨some ti.agg≠some false)↔(x<ro∨ti.agg=true):=fun x=>by simp
  simp only[aload_eq,ldT,hT,Option.map_some,xbind_some,ldA_ptr,elAt_eq]
  cases H[b]? with
  | none=>rfl
  | some blk=>cases blk with
   | cells z e els =>
    simp only[cellsB_cells,xbind_some]
    cases els[i]? with
    | none=>rfl
    | some el=>cases el with
     | vec s k xs =>
      cases k with
      | own=>by_cases hj:j=0<;>simp only[hj,if_true,if_false,tkE,xbind_some,hag]
      | _=>simp only[tkE,xbind_some]
     | agg l=>simp only[tkE,xbind_some];cases l[j]? with
      | none=>rfl
      | some x=>cases x with
       | vec s k xs=>cases k<;>simp only[hag]
       | _=>rfl
     | _=>rfl
   | _=>rfl
def takO(b j:Nat):Option AV→Fm
 | some (.vec _ .own _)=>if j=0 then .tak b else .rdAll
 | some (.agg l)=>match l[j]? with
  | some (.vec _ .own _)=>.tak b
  | _=>.rdAll
 | _=>.rdAll
theorem takM_ptr{b i j:Nat}:takM H (.ptr b i j)=(match cellsB H[b]? with
 | some p=>takO b j p.2.2[i]?
 | none=>.rdAll):=by
 simp only[takM,atake]
 cases H[b]? with
 | none=>rfl
 | some blk=>cases blk with
  | cells z e els =>
   simp only[cellsB_cells]
   cases els[i]? with
   | none=>rfl
   | some el=>cases el with
    | vec s k xs =>
     cases k with
     | own=>by_cases hj:j=0<;>simp[takO,hj]
     | _=>rfl
    | agg l =>
     simp only[takO]
     cases l[j]? with
     | none=>rfl
     | some x=>cases x with
      | vec s k xs=>cases k<;>rfl
      | _=>rfl
    | _=>rfl
  | _=>rfl
theorem tkE_agg{agg:Bool}{sz b i j z:Nat}{e:TypeId}{els l:List AV}:tkE ro H agg sz b i j z e els (.agg l)=(match l[j]? with
  | some (.vec s .own xs)=>if b<ro∨agg=true then none else some (.vec s .own xs,H.set b (.cells z e (els.set i (.agg (l.set j (.vec s .shared xs))))))
  | _=>(elP agg sz (.agg l) j).map fun v=>(v,H)):=nr rfl
theorem takeV_vp{T:TypeId→Option TI}{t:TypeId}{el:AV}{j:Nat}:takeV T ro H t (.vp el j)=xbind (aload T t H (.vp el j)) fun v=>some (v,H):=by
 simp only[takeV,atake];cases aload T t H (.vp el j)<;>rfl
theorem cl1_lit(v:Value):cl1 (.lit v)=.lit v:=nr rfl
theorem cl1_vp(el:AV)(j:Nat):cl1 (.vp el j)=.vp el j:=nr rfl
theorem cl1_agg(l:List AV):cl1 (.agg l)=.agg (l.map cl0):=nr rfl
theorem cl0_lit(v:Value):cl0 (.lit v)=.lit v:=nr rfl
theorem cl0_vp(el:AV)(j:Nat):cl0 (.vp el j)=.vp el j:=nr rfl
theorem res_cell{cx:Cx}{s:Tmp}{ts:TypeId}:resAll cx fr H [.cell s ts]=xbind (aload cx.T ts H (ev fr (.tmp s))) fun v=>some (v,H):=by
 simp only[resAll,resOne]
 cases aload cx.T ts H (ev fr (.tmp s))<;>rfl
theorem res_celltmp{cx:Cx}{s t:Tmp}{ts:TypeId}:resAll cx fr H [.cell s ts,.tmp t]=xbind (aload cx.T ts H (ev fr (.tmp s))) fun v=>some (.tup [drp v,drp (fr.get t)],H):=by
 simp only[resAll,List.mapM_cons,List.mapM_nil,resOne]
 cases aload cx.T ts H (ev fr (.tmp s))<;>rfl
def plA(agg:Bool)(sz:Nat):List AV→List (Nat×AV)→Option (List AV)
 | z,[]=>some z
 | z,(i,x)::rest=>if fitA agg sz x=true∧i<z.length then plA agg sz (z.set i x) rest else none
theorem plA_nil(agg:Bool)(sz:Nat)(z:List AV):plA agg sz z []=some z:=nr rfl
theorem plA_cons(agg:Bool)(sz:Nat)(z:List AV)(i:Nat)(x:AV)(rest:List (Nat×AV)):plA agg sz z ((i,x)::rest)=if fitA agg sz x=true∧i<z.length then plA agg sz (z.set i x) rest else none:=nr rfl
theorem aplace_pl(te:TI)(l:List (Nat×AV)):∀z,aplace te z l=plA te.agg te.size z l:=by
 induction l with
 | nil=>intro z;rfl
 | cons p l ih =>
  intro z
  obtain⟨i,x⟩:=p
  simp only[aplace,plA,fit_eq,ih]
theorem xo_buildSlice{t:TypeId}{len:Nat}{parts:List (Nat×Operand)}(hh:cx.pol.heap fn (dd.getD 0)=false):xop cx h ro fn nt ops nm fr H dd (.buildSlice t len parts.toArray) =
  xbind (mkT cx.T t) fun p=>xbind (ldT cx.T p.2.1) fun q=>if p.1=0∨16777216<len*p.1 then none else xbind (plA q.1 p.1 (List.replicate len p.2.2.2) (parts.map fun p=>(p.1,ev fr p.2))) fun els=>setO nt dd fr H (.vec p.1 .exact (els.map cl1)):=by
 simp only[xop,calleeOf,lop,lBuildSlice,hh,Bool.false_eq_true,if_false,mkT,abuildSlice]
 cases hT:cx.T t with
 | none=>rfl
 | some ti =>
  obtain⟨a1,a2,a3,a4,d,a6⟩:=ti
  cases d with
  | slice e =>
   simp only
   cases hE:cx.T e with
   | none=>rfl
   | some te =>
    simp only
    cases hz:zeroAV te with
    | none=>rfl
    | some z =>
     simp only[Option.map_some,xbind_some,ldT,hE,aplace_pl]
     by_cases h1:te.size=0∨len*te.size > 16777216
     ·rw[if_pos h1,if_pos (by simpa using h1)];rfl
     ·rw[if_neg h1,if_neg (by simpa using h1)]
      cases plA te.agg te.size (List.replicate len z) (parts.map fun p=>(p.1,ev fr p.2))<;>rfl
  | _=>rfl
def apV(sz by':Nat):List AV→AV→Option AV
 | [],s=>match s with | .lit (.slice none 0 0)=>some s | .vec .. => some s | _=>none
 | xs,s=>match s with
  | .lit (.slice none 0 0)=>if 0<sz∧xs.length*(by'+1)≤1099511627776 then some (.vec sz .own xs) else none
  | .vec sz' k els=>if k≠.shared∧sz'=sz∧0<sz∧(els.length+xs.length)*(by'+1)≤1099511627776 then some (.vec sz' .own (els++xs)) else none
  | _=>none
theorem apV_none{sz by':Nat}{x:AV}{xs:List AV}(h:(xs.length+1)*(by'+1)≤1099511627776)(hs:0<sz):apV sz by' (x::xs) (.lit (.slice none 0 0))=some (.vec sz .own (x::xs)):=by
 simp only[apV,List.length_cons];rw[if_pos ⟨hs,h⟩]
theorem apV_own{sz by':Nat}{x:AV}{xs els:List AV}(h:(els.length+(xs.length+1))*(by'+1)≤1099511627776)(hs:0<sz):apV sz by' (x::xs) (.vec sz .own els)=some (.vec sz .own (els++x::xs)):=by
 simp only[apV,List.length_cons];rw[if_pos ⟨by decide,trivial,hs,h⟩]
theorem apV_exact{sz by':Nat}{x:AV}{xs els:List AV}(h:(els.length+(xs.length+1))*(by'+1)≤1099511627776)(hs:0<sz):apV sz by' (x::xs) (.vec sz .exact els)=some (.vec sz .own (els++x::xs)):=by
 simp only[apV,List.length_cons];rw[if_pos ⟨by decide,trivial,hs,h⟩]
def apS(fr:PT)(t:Tmp):AV→PT
 | .vec z .own els=>fr.set t (.vec z .shared els)
 | _=>fr
theorem apS_own{t:Tmp}{z:Nat}{els:List AV}:apS fr t (.vec z .own els)=fr.set t (.vec z .shared els):=nr rfl
theorem apS_not{t:Tmp}{v:AV}(hv:isOwn v=false):apS fr t v=fr:=by
 unfold apS
 split
 ·simp[isOwn]at hv
 ·rfl
theorem items_vec{sz sz':Nat}{k:Kd}{els:List AV}:items sz H (.vec sz' k els)=if sz'=sz then some els else none:=nr rfl
theorem items_nil{sz c:Nat}:items sz H (.lit (.slice none 0 c))=some []:=nr rfl
theorem aappend_eq{T:TypeId→Option TI}{t:TypeId}{s x:AV}{p:Nat×TypeId×Nat×AV}(hm:mkT T t=some p):aappend T t H s x=xbind (items p.1 H x) fun xs=>apV p.1 p.2.2.1 xs s:=by
 unfold mkT at hm
 unfold aappend
 split at hm
 ·rename_i e _ hT
  rw[hT]
  cases hE:T e with
  | none=>rw[hE]at hm;cases hm
  | some te =>
   rw[hE]at hm
   simp only[hE]at hm ⊢
   cases hz:zeroAV te with
   | none=>rw[hz]at hm;cases hm
   | some z =>
    rw[hz]at hm
    simp only[Option.map_some,Option.some.injEq]at hm
    subst hm
    simp only
    cases items te.size H x with
    | none=>rfl
    | some xs =>
     cases xs with
     | nil=>simp only[xbind_some,apV];rfl
     | cons a l=>simp only[xbind_some,apV,Nat.reducePow];rfl
 ·cases hm
theorem xo_append{t:TypeId}{s:Tmp}{x:Operand}{t':TypeId}{ts:List TypeId}(hh:cx.pol.heap fn (dd.getD 0)=false)(hq:(slT cx.T t').isSome=true)(hm:(mkT cx.T t).isSome=true):
  xop cx h ro fn nt ops nm fr H dd (.call ⟨.builtin .append,#[.tmp s,x],(t::t'::ts).toArray⟩)=xbind (mkT cx.T t) fun p=>xbind (items p.1 H (ev fr x)) fun xs=>xbind (apV p.1 p.2.2.1 xs (fr.get s)) fun v=>setO nt dd (apS fr s (fr.get s)) H v:=by
 obtain⟨p,hm⟩:=Option.isSome_iff_exists.1 hm
 obtain⟨q,hq⟩:=Option.isSome_iff_exists.1 hq
 rw[hm,xbind_some]
 have hl:lBuiltin cx ro fn nm (dd.getD 0) fr H .append [.tmp s,x] (t::t'::ts)=lAppend cx fn ro nm (dd.getD 0) fr H t (.tmp s) x:=by
  unfold slT at hq
  simp only[lBuiltin]
  split at hq
  ·rename_i hT;rw[hT]
  ·cases hq
 simp only[xop,calleeOf,lop,lCall]
 rw[hl]
 simp only[lAppend,hh,Bool.false_eq_true,if_false,aappend_eq hm,raw]
 cases items p.1 H (ev fr x) with
 | none=>rfl
 | some xs =>
  simp only[xbind_some]
  cases apV p.1 p.2.2.1 xs (fr.get s) with
  | none=>rfl
  | some v =>
   simp only[Option.map_some,xbind_some,xeff,owner,unownT,putB,setO]
   cases hs:fr.get s with
   | vec z k els=>cases k<;>simp only[hs,apS]<;>rfl
   | _=>simp only[apS]
end
theorem aconv_eq{T:TypeId→Option TI}{s t:TypeId}{k:IntKind}{n:Int}:aconv T s t (.lit (.int k n))=xbind (ldT T s) fun _=>xbind (cvT T t) fun k'=>some (.lit (.int k' (wrapK k' n))):=by
 unfold aconv ldT cvT
 cases hs:T s with
 | none=>rfl
 | some ts =>
  cases ht:T t with
  | none=>rfl
  | some tt =>
   obtain⟨a1,a2,a3,a4,d,a6⟩:=tt
   cases d<;>rfl
theorem fmc_full{cx:Cx}{H H':Hp}{g:FuncId}{vs:List AV}(hp:cx.pol.pure g=false)(hq:cx.pol.quiet g=false):fmCall cx H H' (.fn g []) vs=.full (kpAs H H'):=by
 simp[fmCall,way,hp,hq]
theorem kpAs_of{H H':Hp}{b:Nat}(h:H'[b]?=H[b]?):kpAs H H' b=true:=by simp[kpAs,h]
theorem kpAs_same{H:Hp}{b:Nat}:kpAs H H b=true:=by simp[kpAs]
attribute [go_sem] res_cell res_celltmp aconv_eq fmc_full kpAs_of kpAs_same xo_takeload takeV_vp takeV_ptr tkE_own tkE_lit takM_ptr takO tkE_agg items_vec items_nil cl1_lit cl1_vp cl1_agg cl0_lit cl0_vp List.replicate_succ List.replicate_zero List.length_cons List.length_nil plA_nil plA_cons xo_buildSlice xo_append apV_none apV_own apV_exact apS_own apS_not
section
variable {cx:Cx} {h:Hd} {ro fn nt:Nat} {fr fr':PT} {H H':Hp} {a b b1 c:Code}
theorem x_cont1(e:ex cx h ro fn nt a fr H=some (.normal,fr',H')):ex cx h ro fn nt (.seq a c) fr H=ex cx h ro fn nt c fr' H':=by
 rw[x_seq,e,xbind_some,contR_normal]
end
end Go.Abs
