/- Results; calls of functions; every level of fuel. -/
import Derived.Test.YtiinagmombigpaaEvD
import Derived.Orders
import Derived.Below
set_option linter.unnecessarySimpa false
set_option linter.unusedSimpArgs false
set_option linter.unusedVariables false
namespace Go.Abs
variable {P:Program}
def resC(tm:Array Value):ResultVar→Sem Value
 | .tmp t=>pure (tm.getD t undef)
 | .cell a t=>do loadVar t (←asAddr (tm.getD a undef))
theorem resOne_ok{cx:Cx}(hT:TOk P cx.T){g:Gh}{ro nt:Nat}{fr:PT}{H:Hp}{tm:Array Value}{w:World}(hR:Rel g ro nt fr H tm w){r:ResultVar}{v:AV}(h:resOne cx fr H r=some v):
  ∃c,(resC tm r).run P w=.ok c w∧VR g.imm g.mu (drp v) c∧((∃t,r=.tmp t∧v=fr.get t∧c=tm.getD t undef)∨VR g.imm g.mu v c):=by
 cases r with
 | tmp t =>
  simp only[resOne,Option.some.injEq]at h
  subst h
  refine⟨tm.getD t undef,rfl,?_,.inl ⟨t,rfl,rfl,rfl⟩⟩
  rw[←drp_shr];exact(hR.slot_VR t).drp
 | cell a t =>
  simp only[resOne]at h
  have ha:=hR.slot_VR a
  have hev:ev fr (.tmp a)=shr (fr.get a):=rfl
  rw[hev]at h
  obtain⟨c,h1,h2⟩:=aload_ok (P:=P) hT hR.mem ha h
  refine⟨c,?_,h2.drp,.inr h2⟩
  simp only[resC]
  simp only[Instr.loadAt]at h1
  cases hv:tm.getD a undef with
  | pointer p =>
   rw[hv]at h1
   cases p with
   | none=>simp[Instr.sureAddr,stuck,Sem.run]at h1
   | some p=>simpa [Instr.sureAddr,asAddr] using h1
  | _=>rw[hv]at h1;simp[Instr.sureAddr,stuck,Sem.run]at h1
theorem resList_ok{cx:Cx}(hT:TOk P cx.T){g:Gh}{ro nt:Nat}{fr:PT}{H:Hp}{tm:Array Value}{w:World}(hR:Rel g ro nt fr H tm w):∀(rs:List ResultVar) {vs:List AV},rs.mapM (resOne cx fr H)=some vs→
  ∃cs:List Value,(rs.mapM (resC tm)).run P w=.ok cs w∧VRs g.imm g.mu (vs.map drp) cs∧cs.length=rs.length
 | [],vs,h=>by
  simp at h;subst h
  exact⟨[],rfl,by simp[VRs],rfl⟩
 | r::rs,vs,h=>by
  simp only[List.mapM_cons]at h
  cases h1:resOne cx fr H r with
  | none=>rw[h1]at h;simp at h
  | some v =>
   rw[h1]at h
   simp only[Option.bind_eq_bind,Option.bind_some]at h
   cases h2:rs.mapM (resOne cx fr H) with
   | none=>rw[h2]at h;simp at h
   | some vs' =>
    rw[h2]at h
    simp at h
    subst h
    obtain⟨c,k1,k2,_⟩:=resOne_ok (P:=P) hT hR h1
    obtain⟨cs,k3,k4,k5⟩:=resList_ok hT hR rs h2
    refine⟨c::cs,?_,?_,by simp[k5]⟩
    ·simp only[List.mapM_cons,Sem.run_bind,k1,k3,Result.andThen,Sem.run_pure]
    ·simp only[List.map_cons,VRs];exact⟨c,cs,rfl,k2,k4⟩
theorem results_ok{cx:Cx}(hT:TOk P cx.T){fn:Func}{g:Gh}{ro nt:Nat}{fr:PT}{H H':Hp}{tm:Array Value}{w:World}(hR:Rel g ro nt fr H tm w){v:AV}(h:resAll cx fr H fn.results.toList=some (v,H')):
  H'=H∧∃c g',(results fn tm).run P w=.ok c w∧MR g' ro H w∧Ev ro g w g' w∧SR g' w .res v c:=by
 have hres:results fn tm=(do let vs ←fn.results.mapM (resC tm);pure (if h:vs.size=1 then vs[0] else .tuple vs)):=by
  unfold results
  congr 1
 have hmap:∀ {cs:List Value},(fn.results.toList.mapM (resC tm)).run P w=.ok cs w→(results fn tm).run P w=.ok (if h:cs.toArray.size=1 then cs.toArray[0] else .tuple cs.toArray) w:=by
  intro cs hcs
  rw[hres,Array.mapM_eq_mapM_toList]
  simp only[Sem.run_bind,Sem.run_map,hcs,Result.andThen,Sem.run_pure]
 cases hrs:fn.results.toList with
 | nil =>
  rw[hrs]at h
  simp only[resAll,List.mapM_nil]at h
  simp at h
  obtain⟨rfl,rfl⟩:=h
  refine⟨rfl,.tuple #[],g,?_,hR.mem,Ev.refl _ _ _,undef_tup.sr⟩
  have:=hmap (cs:=[]) (by rw[hrs];rfl)
  simpa using this
 | cons r rest =>
  cases rest with
  | nil =>
   rw[hrs]at h
   simp only[resAll]at h
   cases h1:resOne cx fr H r with
   | none=>rw[h1]at h;simp at h
   | some v' =>
    rw[h1]at h
    simp only[Option.map_some,Option.some.injEq,Prod.mk.injEq]at h
    obtain⟨rfl,rfl⟩:=h
    obtain⟨c,k1,_,k3⟩:=resOne_ok (P:=P) hT hR h1
    have hrun:(results fn tm).run P w=.ok c w:=by
     have:=hmap (cs:=[c]) (by rw[hrs];simp only[List.mapM_cons,List.mapM_nil,Sem.run_bind,k1,Result.andThen,Sem.run_pure])
     simpa using this
    refine⟨rfl,?_⟩
    rcases k3 with⟨t,rfl,rfl,rfl⟩ | k3
    ·rcases hR.slots t with hd | ⟨u,e1,e2⟩
     ·exact⟨_,g,hrun,hR.mem,Ev.refl _ _ _,by rw[hd];exact VR.sr (by simp[VR])⟩
     ·cases hown:isOwn (fr.get t) with
      | false =>
       have:tm.getD t undef=u:=by rw[Array.getD_eq_getD_getElem?,e1];rfl
       exact⟨_,g,hrun,hR.mem,Ev.refl _ _ _,by rw[this];exact((SR_notOwn hown).1 e2).sr⟩
      | true =>
       obtain⟨sz,els,he⟩:=isOwn_spec hown
       have ho:owner fr (.tmp t)=some t:=by simp[owner,he]
       obtain⟨g',X,hk⟩:=Rel.take (a:={ tmps:=tm,defers:=[] }) hR ho .res
       refine⟨_,g',hrun,hk.mem,hk.keeps.ev hR.mem.owlt (fun B l hB hl hX=>?_) (fun L lr hX hl=>?_),hk.sr⟩
       ·rw[(hk.only B hX).1]at hB;cases hB;exact hl
       ·obtain⟨_,ccs,e,hc⟩:=hk.only L hX
        rw[hc]at hl;cases hl
    ·exact⟨c,g,hrun,hR.mem,Ev.refl _ _ _,k3.sr⟩
  | cons r2 rest =>
   rw[hrs]at h
   simp only[resAll]at h
   cases h1:(r::r2::rest).mapM (resOne cx fr H) with
   | none=>rw[h1]at h;simp at h
   | some vs =>
    rw[h1]at h
    simp only[Option.map_some,Option.some.injEq,Prod.mk.injEq]at h
    obtain⟨rfl,rfl⟩:=h
    obtain⟨cs,k1,k2,k3⟩:=resList_ok (P:=P) hT hR _ h1
    refine⟨rfl,.tuple cs.toArray,g,?_,hR.mem,Ev.refl _ _ _,?_⟩
    ·have:=hmap (cs:=cs) (by rw[hrs];exact k1)
     rw[dif_neg (by simp[k3])]at this
     exact this
    ·refine VR.sr ?_
     simp only[VR]
     exact⟨cs,rfl,k2⟩
def FOk(P:Program)(cx:Cx):Prop:=∀f fn,cx.fns f=some fn→P.funcs[f]?=some fn∧(fn.name == "runtime.NumGoroutine")=false
theorem callB_ok{cx:Cx}{k:Nat}{h:Hd}(hT:TOk P cx.T)(hF:FOk P cx)(hh:HdOk P k h)(hre:Reorders P cx h){ro:Nat}{f:FuncId}{args:List AV}{H:Hp}{v:AV}{H':Hp}(hx:callB cx h ro f args H=some (v,H')):
  (∀(w:World)(cargs:Array Value),(callFunc f cargs).run P w=.ok (.enter f cargs) w)∧
  ∀ {g:Gh} {w:World} {cargs:Array Value},MR g ro H w→VRs g.imm g.mu args cargs.toList→∀n,CallsIn Fence.wide n P f cargs w (CallPost ro H' v g w):=by
 unfold callB at hx
 cases hfn:cx.fns f with
 | none=>rw[hfn]at hx;cases hx
 | some fn =>
  rw[hfn]at hx
  obtain⟨hP,hname⟩:=hF f fn hfn
  simp only[funced]at hx
  cases hb:fn.body with
  | none=>rw[hb]at hx;cases hx
  | some c =>
   rw[hb]at hx
   simp only[bodied]at hx
   split at hx
   ·rename_i hlen
    obtain⟨hl1,hl2⟩:=hlen
    constructor
    ·intro w cargs
     have hn2:¬fn.name = "runtime.NumGoroutine" := by simpa using hname
     simp[callFunc,hP,hn2,hb,Result.andThen]
    ·intro g w cargs hm ha n
     cases he:ex cx h ro f fn.ntmps c (setArgs ((List.range args.length).zip args) .nil) H with
     | none=>rw[he]at hx;cases hx
     | some res =>
      obtain⟨e,fr1,H1⟩:=res
      rw[he]at hx
      have hR:=Rel.enter hm ha hl1 hl2
      refine callsIn_of_wp_marks hP hb trivial ?_
      refine ex_ok hT hh hre c he none n w.heap.size g _ w hR (.nil (Nat.le_refl _)) (fun L hL=>by cases hL) _ fun a1 w1 g1 h1 h2 h3=>?_
      have hfin:∀ {v H'},resAll cx fr1 H1 fn.results.toList=some (v,H')→LeavesInM Fence.wide n P fn a1.tmps (CallPost ro H' v g w) a1.defers .returning w1:=by
       intro v H' hr
       obtain⟨_,rs,m1,m2,m3⟩:=h2
       rw[m1]
       refine marks_ok (n0:=w.heap.size) (g0:=g) (w0:=w) (fun B l hB=>hm.owlt B l hB) (fun L lr hL=>(Array.getElem?_eq_some_iff.1 hL).1) rs h1 m2 m3 h3 fun w2 k1 k2=>?_
       obtain⟨rfl,c',g',q1,q2,q3,q4⟩:=results_ok (P:=P) hT k1 hr
       exact⟨c',q1,g',q2,k2.trans q3,q4⟩
      cases e with
      | exit id=>simp[returned]at hx
      | normal=>exact hfin hx
      | ret=>exact hfin hx
   ·cases hx
theorem lvl_ok{cx:Cx}(hT:TOk P cx.T)(hF:FOk P cx)(hre:∀k,Reorders P cx (lvl cx k)):∀k,HdOk P k (lvl cx k)
 | 0=>hdOk_none
 | k+1=>⟨fun hx=>callB_ok hT hF (lvl_ok hT hF hre k) (hre _) hx,fun hx=>loopB_ok hT (lvl_ok hT hF hre k) (hre _) hx,fun hx=>ex_ok hT (lvl_ok hT hF hre k) (hre _) _ hx⟩
theorem PT.setD_comm(d:Nat):∀(t:PT)(i j:Nat)(x y:AV),i≠j→setD d (setD d t i x) j y=setD d (setD d t j y) i x:=by
 induction d with
 | zero=>intro t i j x y h;rfl
 | succ d ih =>
  intro t i j x y h
  cases i with
  | zero =>
   cases j with
   | zero=>exact absurd rfl h
   | succ j=>cases t<;>by_cases hj:j % 2=0<;>simp[setD,hj]
  | succ i =>
   cases j with
   | zero=>cases t<;>by_cases hi:i % 2=0<;>simp[setD,hi]
   | succ j =>
    cases t<;>by_cases hi:i % 2=0<;>by_cases hj:j % 2=0<;>simp[setD,hi,hj] <;>
     (apply ih;omega)
theorem PT.set_comm(t:PT){i j:Nat}(x y:AV)(h:i≠j):(t.set i x).set j y=(t.set j y).set i x:=PT.setD_comm 14 t i j x y h
structure Sees(fr fr':PT)(x:Operand):Prop where
 ev:Abs.ev fr' x=Abs.ev fr x
 raw:Abs.raw fr' x=Abs.raw fr x
 owner:Abs.owner fr' x=Abs.owner fr x
 get:∀t,Abs.owner fr x=some t→fr'.get t=fr.get t
theorem Sees.of{fr fr':PT}{x:Operand}(h:∀t,x=.tmp t→fr'.get t=fr.get t):Sees fr fr' x:=by
 cases x with
 | tmp t =>
  have ht:=h t rfl
  refine⟨by simp[Abs.ev,ht],by simp[Abs.raw,ht],by simp[Abs.owner,ht],fun s hs=>?_⟩
  obtain⟨he,_⟩:=owner_spec hs
  cases he;exact ht
 | _=>exact⟨rfl,rfl,rfl,fun s hs=>by cases hs⟩
theorem sees_list{fr fr':PT}:∀ {l:List Operand},(∀x∈l,Sees fr fr' x)→l.map (ev fr')=l.map (ev fr)
 | [],_=>rfl
 | x::l,h=>by
  have h1:=(h x (by simp)).ev
  have h2:=sees_list (l:=l) fun y hy=>h y (List.mem_cons_of_mem _ hy)
  simp only[List.map_cons,h1,h2]
theorem sees_parts{fr fr':PT}:∀ {l:List (Nat×Operand)},(∀x∈l.map (·.2),Sees fr fr' x)→l.map (fun p=>(p.1,ev fr' p.2))=l.map (fun p=>(p.1,ev fr p.2))
 | [],_=>rfl
 | x::l,h=>by
  have h1:=(h x.2 (by simp)).ev
  have h2:=sees_parts (l:=l) fun y hy=>h y (by rw[List.map_cons];exact List.mem_cons_of_mem _ hy)
  simp only[List.map_cons,h1,h2]
theorem lop_congr{cx:Cx}{ro nm:Nat}{fn:FuncId}{ops:Array Oper}{fr fr':PT}{H:Hp}{d:Tmp}{op:Op}(h:∀x∈op.operands,Sees fr fr' x):lop cx ro fn ops nm fr' H d op=lop cx ro fn ops nm fr H d op:=by
 cases op with
 | move x =>
  have hx:=h x (by simp[Op.operands])
  simp only[lop,lMove,hx.ev,hx.owner]
  cases ho:owner fr x with
  | none=>rfl
  | some t=>simp only[hx.get t ho]
 | assign x=>have hx:=h x (by simp[Op.operands]);simp only[lop,hx.raw,hx.owner]
 | pick c a b=>simp only[lop,lPick,(h c (by simp[Op.operands])).ev,(h a (by simp[Op.operands])).ev,(h b (by simp[Op.operands])).ev]
 | alloc e=>rfl
 | box e x=>simp only[lop,(h x (by simp[Op.operands])).ev]
 | build t ps=>simp only[lop,sees_parts (l:=ps.toList) fun x hx=>h x (by simpa [Op.operands] using hx)]
 | buildSlice t n ps=>simp only[lop,sees_parts (l:=ps.toList) fun x hx=>h x (by simpa [Op.operands] using hx)]
 | makeSlice t l c=>simp only[lop,(h l (by simp[Op.operands])).ev,(h c (by simp[Op.operands])).ev]
 | makeMap t r=>cases r<;>rfl
 | load t x=>simp only[lop,(h x (by simp[Op.operands])).ev]
 | store t a x =>
  have hx:=h x (by simp[Op.operands])
  simp only[lop,lStore,(h a (by simp[Op.operands])).ev,hx.ev,hx.owner]
  cases ho:owner fr x with
  | none=>rfl
  | some t=>simp only[hx.get t ho]
 | nilCheck x=>simp only[lop,(h x (by simp[Op.operands])).ev]
 | binOp op t x y r=>simp only[lop,(h x (by simp[Op.operands])).ev,(h y (by simp[Op.operands])).ev]
 | unOp op t x=>simp only[lop,(h x (by simp[Op.operands])).ev]
 | convert s t x=>simp only[lop,(h x (by simp[Op.operands])).ev]
 | makeFunc f first captured=>simp only[lop,lMakeFunc,sees_list (l:=captured.toList) fun x hx=>h x (by simp[Op.operands];exact .inr (by simpa using hx))]
 | slice t x lo hi mx =>
  have ho:∀(y:Option Operand),(∀z∈y,Sees fr fr' z)→y.map (ev fr')=y.map (ev fr):=fun y hy=>by cases y with | none=>rfl | some z=>simp only[Option.map_some,(hy z rfl).ev]
  simp only[lop,(h x (by simp[Op.operands])).ev,ho lo fun z hz=>h z (by simp only[Option.mem_def]at hz;subst hz;simp[Op.operands]),ho hi fun z hz=>h z (by simp only[Option.mem_def]at hz;subst hz;simp[Op.operands]),ho mx fun z hz=>h z (by simp only[Option.mem_def]at hz;subst hz;simp[Op.operands])]
 | fieldAddr t x f=>simp only[lop,(h x (by simp[Op.operands])).ev]
 | field t x f=>simp only[lop,(h x (by simp[Op.operands])).ev]
 | indexAddr t x ix=>simp only[lop,(h x (by simp[Op.operands])).ev,(h ix (by simp[Op.operands])).ev]
 | index t x ix=>simp only[lop,(h x (by simp[Op.operands])).ev,(h ix (by simp[Op.operands])).ev]
 | extract t i=>simp only[lop,(h t (by simp[Op.operands])).ev]
 | lookup t x k ok=>simp only[lop,(h x (by simp[Op.operands])).ev,(h k (by simp[Op.operands])).ev]
 | mapUpdate t m k x=>simp only[lop,(h x (by simp[Op.operands])).ev,(h k (by simp[Op.operands])).ev,(h m (by simp[Op.operands])).ev]
 | call c =>
  have ha:∀x∈c.args.toList,Sees fr fr' x:=fun x hx=>h x (by simp only[Op.operands,Call.operands,Array.mem_append];exact .inr (by simpa using hx))
  simp only[lop,lCall]
  cases hc:c.callee with
  | builtin b =>
   simp only[lBuiltin]
   split
   ·rename_i x t _ hargs _
    simp only[hargs]at ha
    simp only[(ha x (by simp)).ev]
   ·rename_i s x t t' _ hargs _
    simp only[hargs]at ha
    simp only[lAppend,(ha x (by simp)).ev,(ha s (by simp)).raw,(ha s (by simp)).owner]
   ·rw[sees_list ha]
   ·rw[sees_list ha]
   ·rename_i x y t _ hargs _
    simp only[hargs]at ha
    simp only[(ha x (by simp)).ev,(ha y (by simp)).ev]
   ·rename_i x y t _ hargs _
    simp only[hargs]at ha
    simp only[(ha x (by simp)).ev,(ha y (by simp)).ev]
   ·rfl
  | _=>rfl
 | _=>rfl
def Near(x y:Option ABlock):Prop:=y=x∨∃sz e els els',x=some (.cells sz e els)∧y=some (.cells sz e els')∧els'.map drp=els.map drp
structure Agree(rd:Rd)(up:Option (Nat×ABlock))(H H':Hp):Prop where
 all:rd=.all→H'=H
 one:∀b,rd=.one b→Near H[b]? H'[b]?
 up:∀b blk,up=some (b,blk)→b<H.length∧H'[b]?=H[b]?
theorem shr_shr(a:AV):shr (shr a)=shr a:=shr_of_notOwn (shr_notOwn a)
theorem cl0_shr(a:AV):cl0 (shr a)=cl0 a:=by
 cases a with
 | vec sz k els=>cases k<;>rfl
 | _=>rfl
theorem map_shr_shr(l:List AV):(l.map shr).map shr=l.map shr:=by
 rw[List.map_map];exact List.map_congr_left fun a _=>shr_shr a
theorem map_cl0_shr(l:List AV):(l.map shr).map cl0=l.map cl0:=by
 rw[List.map_map];exact List.map_congr_left fun a _=>cl0_shr a
theorem elPart_of_drp(ti:TI)(el:AV)(j:Nat):elPart ti (drp el) j=elPart ti el j:=by
 cases el with
 | agg l =>
  simp only[drp,elPart,List.length_map,List.getElem?_map]
  split
  ·split
   ·rw[←List.map_drop,←List.map_take,map_shr_shr]
   ·rfl
  ·cases l[j]? with
   | none=>rfl
   | some a=>simp only[Option.map_some,shr_shr]
 | tup l=>rfl
 | vec sz k els=>cases k<;>rfl
 | lit v=>cases v<;>rfl
 | _=>rfl
theorem cl1_of_drp(el:AV):cl1 (drp el)=cl1 el:=by
 cases el with
 | agg l=>simp only[drp,cl1,map_cl0_shr]
 | tup l=>rfl
 | vec sz k els=>cases k<;>rfl
 | _=>rfl
theorem elPart_drp{ti:TI}{el el':AV}{j:Nat}(h:drp el'=drp el):elPart ti el' j=elPart ti el j:=by
 rw[←elPart_of_drp ti el',←elPart_of_drp ti el,h]
theorem map_cl1_drp{l l':List AV}(h:l'.map drp=l.map drp):l'.map cl1=l.map cl1:=by
 have e:∀l:List AV,l.map cl1=(l.map drp).map cl1:=fun l=>by
  rw[List.map_map];exact List.map_congr_left fun a _=>(cl1_of_drp a).symm
 rw[e l,e l',h]
theorem Near.mapo{x y:Option ABlock}{es:List (AV×AV)}(h:Near x y)(hx:x=some (.mapo es)):y=some (.mapo es):=by
 rcases h with h | ⟨sz,e,els,els',h,_⟩
 ·rw[h,hx]
 ·rw[hx]at h;cases h
theorem aload_local{T:TypeId→Option TI}{t:TypeId}{H H':Hp}{x:AV}(hs:∀b,rdOf x=.one b→Near H[b]? H'[b]?):aload T t H' x=aload T t H x:=by
 unfold aload
 cases T t with
 | none=>rfl
 | some ti =>
  cases x with
  | ptr b i j =>
   rcases hs b rfl with h | ⟨sz,e,els,els',h1,h2,h3⟩
   ·simp only[h]
   ·simp only[h1,h2]
    have h4:(els'.map drp)[i]?=(els.map drp)[i]?:=by rw[h3]
    rw[List.getElem?_map,List.getElem?_map]at h4
    cases h5:els[i]? with
    | none=>rw[h5]at h4;cases h6:els'[i]? with
     | none=>rfl
     | some a=>rw[h6]at h4;cases h4
    | some a =>
     rw[h5]at h4;cases h6:els'[i]? with
     | none=>rw[h6]at h4;cases h4
     | some a' =>
      rw[h6]at h4
      simp only[Option.map_some,Option.some.injEq]at h4
      exact elPart_drp h4
  | _=>rfl
theorem items_local{sz:Nat}{H H':Hp}{x:AV}(hs:∀b,rdOf x=.one b→Near H[b]? H'[b]?):items sz H' x=items sz H x:=by
 unfold items
 cases x with
 | sl b sz' i len cap =>
  rcases hs b rfl with h | ⟨sz',e,els,els',h1,h2,h3⟩
  ·simp only[h]
  ·simp only[h1,h2]
   have hl:els'.length=els.length:=by have:=congrArg List.length h3;simpa using this
   rw[hl]
   split
   ·rw[List.map_take,List.map_drop,map_cl1_drp h3,←List.map_drop,←List.map_take]
   ·rfl
 | lit v=>cases v with
  | slice b l c=>cases b with
   | none=>cases l<;>rfl
   | some b=>rfl
  | _=>rfl
 | _=>rfl
theorem free_local{ro nm:Nat}{H H':Hp}(h:free ro H nm=true)(hlt:nm<H.length)(hs:H'[nm]?=H[nm]?):free ro H' nm=true:=by
 rcases free_spec h with⟨h1,h2 | h2⟩
 ·omega
 ·unfold free
  rw[hs,h2]
  simpa using h1
theorem freeze_local{H H':Hp}{ro:Nat}{v:AV}{e:Eff}(h:freeze H ro v=some e)(A:Agree e.rd e.up H H'):freeze H' ro v=some e:=by
 unfold freeze at h ⊢
 split at h
 ·rename_i b sz0 i len cap
  split at h
  ·cases h
  ·rename_i hro
   simp only[hro,if_false]
   split at h
   ·rename_i sz el els hb
    split at h
    ·rename_i hc
     cases h
     have:H'[b]?=some (.cells sz el els):=by rw[←hb];exact(A.up b _ rfl).2
     rw[this]
     simp only[hc,and_self,if_true]
    ·cases h
   ·cases h
 ·cases h
theorem alen_local{T:TypeId→Option TI}{t:TypeId}{H H':Hp}{x v:AV}(h:alen T t H x=some v)(hs:∀b,lenRd x=.one b→Near H[b]? H'[b]?):alen T t H' x=some v:=by
 rw[←h]
 unfold alen at h ⊢
 cases x with
 | mp m =>
  cases ht:T t with
  | none=>rfl
  | some ti =>
   obtain⟨s,by',z,ag,d,eq⟩:=ti
   cases d with
   | map k e =>
    rw[ht]at h
    simp only at h ⊢
    split at h
    ·rename_i es hb
     rw[(hs m rfl).mapo hb]
    ·cases h
   | _=>rfl
 | lit v=>cases v with
  | map o=>cases o<;>rfl
  | slice b l c=>cases b<;>rfl
  | _=>rfl
 | _=>rfl
theorem aappend_local{T:TypeId→Option TI}{t:TypeId}{H H':Hp}{s x:AV}(hs:∀b,rdOf x=.one b→Near H[b]? H'[b]?):aappend T t H' s x=aappend T t H s x:=by
 unfold aappend
 simp only[fun sz=>items_local (sz:=sz) hs]
theorem aappendB_local{T:TypeId→Option TI}{t:TypeId}{H H':Hp}{s x:AV}(hs:∀b,rdOf x=.one b→Near H[b]? H'[b]?):aappendB T t H' s x=aappendB T t H s x:=by
 unfold aappendB
 simp only[fun sz=>items_local (sz:=sz) hs]
theorem lLaid_local{ro nm:Nat}{H H':Hp}{r:Option (AV×Hp)}{e:Eff}(h:lLaid ro nm H r=some e)(A:Agree e.rd e.up H H'):lLaid ro nm H' r=some e:=by
 unfold lLaid at h ⊢
 split at h
 ·split at h
  ·cases h
  ·rename_i hf
   cases h
   obtain⟨h1,h2⟩:=A.up nm _ rfl
   rw[if_neg (by rw[free_local (not_false_true hf) h1 h2];simp)]
 ·cases h
theorem rdd_local{x x':Option AV}{r:Rd}{e:Eff}{H H':Hp}(h:x.map (.rdd r)=some e)(A:Agree e.rd e.up H H')(hx:∀v,x=some v→(∀b,r=.one b→Near H[b]? H'[b]?)→x'=some v):x'.map (.rdd r)=some e:=by
 cases x with
 | none=>cases h
 | some v=>cases h;rw[hx v rfl fun b hb=>A.one b hb];rfl
theorem lMapUpdate_local{T:TypeId→Option TI}{ro:Nat}{H H':Hp}{t:TypeId}{x k v:AV}{e:Eff}(h:lMapUpdate T ro H t x k v=some e)(A:Agree e.rd e.up H H'):lMapUpdate T ro H' t x k v=some e:=by
 unfold lMapUpdate at h
 split at h
 ·rename_i ti ht
  split at h
  ·rename_i kt et m hd
   split at h
   ·cases h
   ·rename_i hn
    split at h
    ·rename_i es hb
     have hup:∃blk,e.up=some (m,blk):=by
      unfold lUpd at h
      split at h<;>cases h<;>exact⟨_,rfl⟩
     obtain⟨blk,hup⟩:=hup
     have hb':H'[m]?=some (.mapo es):=by rw[←hb];exact(A.up m blk hup).2
     unfold lMapUpdate
     simp only[ht,hd,hn,if_false,hb',h]
    ·cases h
  ·cases h
 ·cases h
theorem lDelete_local{T:TypeId→Option TI}{ro:Nat}{H H':Hp}{t:TypeId}{x k:AV}{e:Eff}(h:lDelete T ro H t x k=some e)(A:Agree e.rd e.up H H'):lDelete T ro H' t x k=some e:=by
 unfold lDelete at h
 split at h
 ·rename_i ti ht
  split at h
  ·rename_i kt et m hd
   split at h
   ·cases h
   ·rename_i hn
    split at h
    ·rename_i es hb
     have hup:∃blk,e.up=some (m,blk):=by
      unfold lDel at h
      split at h<;>cases h<;>exact⟨_,rfl⟩
     obtain⟨blk,hup⟩:=hup
     have hb':H'[m]?=some (.mapo es):=by rw[←hb];exact(A.up m blk hup).2
     unfold lDelete
     simp only[ht,hd,hn,if_false,hb',h]
    ·cases h
  ·cases h
 ·cases h
theorem lLookup_local{T:TypeId→Option TI}{H H':Hp}{t:TypeId}{x k:AV}{ok:Bool}{e:Eff}(h:lLookup T H t x k ok=some e)(A:Agree e.rd e.up H H'):lLookup T H' t x k ok=some e:=by
 unfold lLookup at h
 split at h
 ·rename_i ti ht
  split at h
  ·rename_i kt et hd
   split at h
   ·rename_i te hte
    split at h
    ·cases h
    ·rename_i hn
     split at h
     ·rename_i z m hz
      split at h
      ·rename_i es hb
       have hrd:e.rd=.one m:=by
        unfold lFound at h
        split at h<;>cases h<;>rfl
       have hb':H'[m]?=some (.mapo es):=(A.one m hrd).mapo hb
       unfold lLookup
       simp only[ht,hd,hte,hn,if_false,hz,hb',h]
       simp
      ·cases h
     ·cases h
   ·cases h
  ·cases h
 ·cases h
theorem atake_local{H H' H1:Hp}{x v:AV}{b:Nat}(h:atake H x=some (v,b,H1))(hb:H'[b]?=H[b]?):∃blk,H1=H.set b blk∧b<H.length∧atake H' x=some (v,b,H'.set b blk):=by
 unfold atake at h
 split at h
 ·rename_i b' i j
  split at h
  ·rename_i sz e els hbb
   have hlt:=lt_of_get hbb
   split at h
   ·rename_i s xs he
    split at h
    ·rename_i hj
     cases h
     refine⟨_,rfl,hlt,?_⟩
     unfold atake
     simp only[hb,hbb,he,hj,if_true]
    ·cases h
   ·rename_i l he
    split at h
    ·rename_i s xs hl
     cases h
     refine⟨_,rfl,hlt,?_⟩
     unfold atake
     simp only[hb,hbb,he,hl]
    ·cases h
   ·cases h
  ·cases h
 ·cases h
theorem lTake_local{ti:Option TI}{ro:Nat}{v:AV}{b:Nat}{H H':Hp}{blk:ABlock}{e:Eff}(h:lTake ti ro v b (H.set b blk)=some e)(hlt:b<H.length)(hb:b<H'.length):lTake ti ro v b (H'.set b blk)=some e∧e.up=some (b,blk):=by
 unfold lTake at h ⊢
 split at h
 ·cases h
 ·rename_i hn
  rw[List.getElem?_set_self hlt]at h
  cases h
  rw[if_neg hn,List.getElem?_set_self hb]
  exact⟨rfl,rfl⟩
theorem lTake_up{ti:Option TI}{ro:Nat}{v:AV}{b:Nat}{H:Hp}{blk:ABlock}{e:Eff}(h:lTake ti ro v b (H.set b blk)=some e)(hlt:b<H.length):e.up=some (b,blk)∧e.rd=.one b:=by
 unfold lTake at h
 split at h
 ·cases h
 ·rw[List.getElem?_set_self hlt]at h
  cases h
  exact⟨rfl,rfl⟩
theorem lLoad_local{cx:Cx}{ro:Nat}{fn:FuncId}{ops:Array Oper}{d:Tmp}{H H':Hp}{t:TypeId}{x:AV}{e:Eff}(h:lLoad cx ro fn ops d H t x=some e)(A:Agree e.rd e.up H H'):lLoad cx ro fn ops d H' t x=some e:=by
 unfold lLoad at h
 by_cases hf:cx.pol.frz fn d=true
 ·rw[if_pos hf]at h
  have hall:e.rd=.all:=by
   cases h1:(aload cx.T t H x).bind (freezeA H ro) with
   | none=>rw[h1]at h;cases h
   | some e'=>rw[h1]at h;cases h;rfl
  rw[A.all hall]
  unfold lLoad
  rw[if_pos hf];exact h
 ·rw[if_neg hf]at h
  by_cases ht:takes ops d=true
  ·rw[if_pos ht]at h
   cases hk:atake H x with
   | none =>
    rw[hk]at h
    have hall:e.rd=.all:=by
     cases h1:aload cx.T t H x with
     | none=>rw[h1]at h;cases h
     | some e'=>rw[h1]at h;cases h;rfl
    rw[A.all hall]
    unfold lLoad
    rw[if_neg hf,if_pos ht,hk];exact h
   | some r =>
    obtain⟨v,b,H1⟩:=r
    rw[hk]at h
    simp only at h
    obtain⟨blk,rfl,hlt,_⟩:=atake_local (H':=H) hk rfl
    obtain⟨hup,_⟩:=lTake_up h hlt
    obtain⟨_,hb⟩:=A.up b blk hup
    obtain⟨blk2,h1,_,h2⟩:=atake_local hk hb
    have hbe:blk2=blk:=by
     have:=congrArg (fun l:Hp=>l[b]?) h1
     simp only[List.getElem?_set_self hlt,Option.some.injEq]at this
     exact this.symm
    subst hbe
    have hlt':b<H'.length:=by
     have:(H'[b]?).isSome=true:=by rw[hb];simp[hlt]
     simpa using this
    unfold lLoad
    rw[if_neg hf,if_pos ht,h2]
    exact(lTake_local h hlt hlt').1
  ·rw[if_neg ht]at h
   unfold lLoad
   rw[if_neg hf,if_neg ht]
   exact rdd_local h A fun v hv hr=>by rw[←hv];exact aload_local hr
theorem astore_local{T:TypeId→Option TI}{t:TypeId}{H H' H1:Hp}{b i j:Nat}{x:AV}(h:astore T t H (.ptr b i j) x=some H1)(hb:H'[b]?=H[b]?):∃blk,H1=H.set b blk∧b<H.length∧astore T t H' (.ptr b i j) x=some (H'.set b blk):=by
 unfold astore at h
 split at h
 ·rename_i ti b' i' j' ht hp
  cases hp
  split at h
  ·rename_i sz e els hbb
   have hlt:=lt_of_get hbb
   split at h
   ·rename_i el he
    split at h
    ·rename_i el' hel
     cases h
     refine⟨_,rfl,hlt,?_⟩
     unfold astore
     simp only[ht,hb,hbb,he,hel]
    ·cases h
   ·cases h
  ·cases h
 ·cases h
theorem lStore_local{T:TypeId→Option TI}{ro:Nat}{fr:PT}{H H':Hp}{t:TypeId}{a:AV}{x:Operand}{e:Eff}(h:lStore T ro fr H t a x=some e)(A:Agree e.rd e.up H H'):lStore T ro fr H' t a x=some e:=by
 unfold lStore at h
 split at h
 ·rename_i b i j
  split at h
  ·cases h
  ·rename_i hro
   split at h
   ·rename_i H1 hs
    obtain⟨blk,h1,hlt,_⟩:=astore_local (H':=H) hs rfl
    have hget:H1[b]?=some blk:=by rw[h1,List.getElem?_set_self hlt]
    have hup:e.up=some (b,blk):=by rw[hget]at h;cases h;rfl
    obtain⟨_,hb⟩:=A.up b blk hup
    obtain⟨blk2,h2,_,h3⟩:=astore_local hs hb
    have hbe:blk2=blk:=by
     have:=hget
     rw[h2,List.getElem?_set_self hlt]at this
     exact Option.some.inj this
    subst hbe
    have hlt':b<H'.length:=by
     have:(H'[b]?).isSome=true:=by rw[hb];simp[hlt]
     simpa using this
    unfold lStore
    simp only[hro,if_false,h3]
    rw[hget]at h
    rw[List.getElem?_set_self hlt']
    exact h
   ·cases h
 ·cases h
theorem acopy_local{T:TypeId→Option TI}{t:TypeId}{H H':Hp}{x y:AV}{n b:Nat}{blk:ABlock}(h:acopy T t H x y=some (n,b,blk))(hb:H'[b]?=H[b]?)(hy:rdOf y=.no):acopy T t H' x y=some (n,b,blk)∧b<H.length:=by
 have hi:∀sz,items sz H' y=items sz H y:=fun sz=>items_local fun b hb=>by rw[hy]at hb;cases hb
 unfold acopy at h
 split at h
 ·rename_i e b' i j esz len ht
  split at h
  ·rename_i te hte
   split at h
   ·rename_i hsz
    split at h
    ·rename_i xs sz el els hxs hbb
     split at h
     ·rename_i l hel
      simp only at h
      split at h
      ·rename_i hc
       cases h
       refine⟨?_,lt_of_get hbb⟩
       unfold acopy
       simp only[ht,hte,hsz,if_true,hi,hxs,hb,hbb,hel]
       rw[if_pos hc]
      ·cases h
     ·cases h
    ·cases h
   ·cases h
  ·cases h
 ·cases h
theorem lCopy_local{T:TypeId→Option TI}{ro:Nat}{H H':Hp}{t:TypeId}{x y:AV}{e:Eff}(h:lCopy T ro H t x y=some e)(A:Agree e.rd e.up H H'):lCopy T ro H' t x y=some e:=by
 unfold lCopy at h
 split at h
 ·rename_i n b blk hc
  split at h
  ·cases h
  ·rename_i hn
   cases h
   have hy:rdOf y=.no:=by
    by_cases hy:rdOf y=.no
    ·exact hy
    ·exact absurd (.inr hy) hn
   unfold lCopy
   rw[(acopy_local hc (A.up b blk rfl).2 hy).1]
   simp only
   rw[if_neg hn]
 ·cases h
theorem lAppend_local{cx:Cx}{fn:FuncId}{ro nm:Nat}{d:Tmp}{fr:PT}{H H':Hp}{t:TypeId}{s x:Operand}{e:Eff}(h:lAppend cx fn ro nm d fr H t s x=some e)(A:Agree e.rd e.up H H'):lAppend cx fn ro nm d fr H' t s x=some e:=by
 have value:((aappend cx.T t H (raw fr s) (ev fr x)).map fun v=>({ v,un:=owner fr s,rd:=rdOf (ev fr x) }:Eff))=some e→e.rd=rdOf (ev fr x)∧((aappend cx.T t H' (raw fr s) (ev fr x)).map fun v=>({ v,un:=owner fr s,rd:=rdOf (ev fr x) }:Eff))=some e:=by
  intro h
  cases ha:aappend cx.T t H (raw fr s) (ev fr x) with
  | none=>rw[ha]at h;cases h
  | some v =>
   rw[ha]at h
   cases h
   rw[aappend_local fun b hb=>A.one b hb,ha]
   exact⟨rfl,rfl⟩
 unfold lAppend at h ⊢
 split at h
 ·rename_i hh
  rw[if_pos hh]
  split at h
  ·rename_i els sz el ha
   split at h
   ·cases h
   ·rename_i hf
    cases h
    obtain⟨h1,h2⟩:=A.up nm _ rfl
    rw[aappendB_local fun b hb=>A.one b hb,ha]
    simp only
    rw[if_neg (by rw[free_local (not_false_true hf) h1 h2];simp)]
  ·rename_i ha
   obtain⟨h1,h2⟩:=value h
   rw[aappendB_local fun b hb=>A.one b (by rw[h1];exact hb),ha]
   exact h2
 ·rename_i hh
  rw[if_neg hh]
  exact(value h).2
theorem lBuiltin_local{cx:Cx}{ro nm:Nat}{fn:FuncId}{d:Tmp}{fr:PT}{H H':Hp}{b:Builtin}{args:List Operand}{tys:List TypeId}{e:Eff}(h:lBuiltin cx ro fn nm d fr H b args tys=some e)(A:Agree e.rd e.up H H'):lBuiltin cx ro fn nm d fr H' b args tys=some e:=by
 unfold lBuiltin at h
 split at h
 ·simp only[lBuiltin]
  exact rdd_local h A fun v hv hr=>alen_local hv hr
 ·simp only[lBuiltin]
  split at h
  ·exact lAppend_local h A
  ·cases h
 ·exact h
 ·exact h
 ·exact lCopy_local h A
 ·exact lDelete_local h A
 ·cases h
theorem lop_local{cx:Cx}{ro nm:Nat}{fn:FuncId}{ops:Array Oper}{fr:PT}{H H':Hp}{d:Tmp}{op:Op}{e:Eff}(h:lop cx ro fn ops nm fr H d op=some e)(A:Agree e.rd e.up H H'):lop cx ro fn ops nm fr H' d op=some e:=by
 cases op with
 | move x =>
  simp only[lop,lMove]at h ⊢
  split at h
  ·rename_i hf;rw[if_pos hf];exact freeze_local h A
  ·rename_i hf;rw[if_neg hf];exact h
 | alloc t =>
  simp only[lop,lAlloc]at h ⊢
  split at h
  ·split at h
   ·split at h
    ·cases h
    ·rename_i hn
     cases h
     obtain⟨h1,h2⟩:=A.up nm _ rfl
     rw[if_neg]
     rintro (hx | hx)
     ·exact hn (.inl hx)
     ·have hf:free ro H nm=true:=not_false_true fun h=>hn (.inr h)
      rw[free_local hf h1 h2]at hx;cases hx
   ·cases h
  ·cases h
 | box t x =>
  simp only[lop,lBox]at h ⊢
  split at h
  ·split at h
   ·cases h
   ·rename_i hn
    cases h
    obtain⟨h1,h2⟩:=A.up nm _ rfl
    rw[if_neg]
    rintro (hx | hx | hx)
    ·exact hn (.inl hx)
    ·exact hn (.inr (.inl hx))
    ·have hf:free ro H nm=true:=not_false_true fun h=>hn (.inr (.inr h))
     rw[free_local hf h1 h2]at hx;cases hx
  ·cases h
 | buildSlice t n ps =>
  simp only[lop,lBuildSlice]at h ⊢
  split at h
  ·rename_i hh;rw[if_pos hh];exact lLaid_local h A
  ·rename_i hh;rw[if_neg hh];exact h
 | makeSlice t l c =>
  simp only[lop,lMakeSlice]at h ⊢
  split at h
  ·rename_i hh;rw[if_pos hh];exact lLaid_local h A
  ·rename_i hh;rw[if_neg hh];exact h
 | makeMap t r =>
  cases r with
  | some r=>cases h
  | none =>
   simp only[lop]at h ⊢
   split at h
   ·cases h
   ·rename_i hf
    cases h
    obtain⟨h1,h2⟩:=A.up nm _ rfl
    rw[if_neg (by rw[free_local (not_false_true hf) h1 h2];simp)]
 | load t x=>exact lLoad_local h A
 | store t a x=>exact lStore_local h A
 | lookup t x k ok=>exact lLookup_local h A
 | mapUpdate t m k x=>exact lMapUpdate_local h A
 | call c =>
  simp only[lop,lCall]at h ⊢
  cases hc:c.callee with
  | builtin b=>rw[hc]at h;exact lBuiltin_local h A
  | _=>rw[hc]at h;cases h
 | _=>first | exact h | (cases h)
theorem set_self{α:Type}:∀ {l:List α} {i:Nat} {x:α},l[i]?=some x→l.set i x=l
 | [],i,x,h=>by simp at h
 | a::l,0,x,h=>by simp at h;simp[h]
 | a::l,i+1,x,h=>by simp at h;simp[set_self h]
theorem Near.symm{x y:Option ABlock}(h:Near x y):Near y x:=by
 rcases h with h | ⟨sz,e,els,els',h1,h2,h3⟩
 ·exact .inl h.symm
 ·exact .inr ⟨sz,e,els',els,h2,h1,h3.symm⟩
structure Facts(e:Eff)(H:Hp)(nm:Nat)(al:Bool)(ts:Array Operand):Prop where
 up:∀b blk,e.up=some (b,blk)→b<H.length∨(b=nm∧al=true)
 tk:e.tk=true→∃b blk,e.up=some (b,blk)∧Near H[b]? (some blk)
 un:∀t,e.un=some t→Operand.tmp t∈ts
theorem Facts.of{e:Eff}{H:Hp}{nm:Nat}{al:Bool}{ts:Array Operand}(h1:e.up=none)(h2:e.tk=false)(h3:e.un=none):Facts e H nm al ts :=
 ⟨fun b blk h=>by (rw[h1]at h;cases h),fun h=>by (rw[h2]at h;cases h),fun t h=>by (rw[h3]at h;cases h)⟩
theorem atake_near{H H1:Hp}{x v:AV}{b:Nat}(h:atake H x=some (v,b,H1)):∃blk,H1=H.set b blk∧b<H.length∧Near H[b]? (some blk):=by
 unfold atake at h
 split at h
 ·rename_i b' i j
  split at h
  ·rename_i sz e els hbb
   have hlt:=lt_of_get hbb
   split at h
   ·rename_i s xs he
    split at h
    ·rename_i hj
     cases h
     refine⟨_,rfl,hlt,.inr ⟨sz,e,els,_,hbb,rfl,?_⟩⟩
     rw[List.map_set]
     have:drp (.vec s .shared xs)=drp (.vec s .own xs):=rfl
     rw[this,←List.map_set]
     rw[set_self he]
    ·cases h
   ·rename_i l he
    split at h
    ·rename_i s xs hl
     cases h
     refine⟨_,rfl,hlt,.inr ⟨sz,e,els,_,hbb,rfl,?_⟩⟩
     rw[List.map_set]
     have:drp (.agg (l.set j (.vec s .shared xs)))=drp (.agg l):=by
      simp only[drp,AV.agg.injEq]
      rw[List.map_set]
      have:shr (.vec s .shared xs)=shr (.vec s .own xs):=rfl
      rw[this,←List.map_set]
      rw[set_self hl]
     rw[this,←List.map_set]
     rw[set_self he]
    ·cases h
   ·cases h
  ·cases h
 ·cases h
theorem freeze_facts{H:Hp}{ro nm:Nat}{v:AV}{e:Eff}{al:Bool}{ts:Array Operand}(h:freeze H ro v=some e):Facts e H nm al ts:=by
 unfold freeze at h
 split at h
 ·split at h
  ·cases h
  ·split at h
   ·rename_i hb
    split at h
    ·cases h
     exact⟨fun b blk h=>by (cases h;exact .inl (lt_of_get hb)),fun h=>(by cases h),fun t h=>by cases h⟩
    ·cases h
   ·cases h
 ·cases h
theorem frzL_spec{H:Hp}{ro:Nat}:∀ {l l':List AV} {b:Nat},frzL H ro l=some (l',b)→∃pre x post w,l=pre++x::post∧l'=pre++w::post∧freeze H ro x=some { v:=w,up:=some (b,.gone),rd:=.one b }
 | [],_,_,h=>by cases h
 | x::l,l',b,h=>by
  simp only[frzL]at h
  split at h
  ·rename_i e he
   have hb:∃v' b',e={ v:=v',up:=some (b',.gone),rd:=.one b' }:=by
    unfold freeze at he
    split at he
    ·split at he
     ·cases he
     ·split at he
      ·split at he
       ·cases he;exact⟨_,_,rfl⟩
       ·cases he
      ·cases he
    ·cases he
   obtain⟨v',b',rfl⟩:=hb
   simp only at h
   cases h
   exact⟨[],x,l,_,rfl,rfl,he⟩
  ·rename_i he
   cases hr:frzL H ro l with
   | none=>rw[hr]at h;cases h
   | some p =>
    rw[hr]at h
    cases h
    obtain⟨pre,y,post,w,rfl,h2,h3⟩:=frzL_spec (l':=p.1) (b:=p.2) hr
    exact⟨x::pre,y,post,w,rfl,by rw[h2];rfl,h3⟩
theorem freezeA_facts{H:Hp}{ro nm:Nat}{v:AV}{e:Eff}{al:Bool}{ts:Array Operand}(h:freezeA H ro v=some e):Facts e H nm al ts:=by
 unfold freezeA at h
 split at h
 ·split at h
  ·rename_i l' b hl
   cases h
   obtain⟨pre,x,post,y,_,_,h3⟩:=frzL_spec hl
   have:=freeze_facts (nm:=nm) (al:=al) (ts:=ts) h3
   exact⟨this.up,this.tk,this.un⟩
  ·cases h
   exact .of rfl rfl rfl
 ·exact freeze_facts h
theorem lLaid_facts{ro nm:Nat}{H:Hp}{r:Option (AV×Hp)}{e:Eff}{ts:Array Operand}(h:lLaid ro nm H r=some e):Facts e H nm true ts:=by
 unfold lLaid at h
 split at h
 ·split at h
  ·cases h
  ·cases h
   exact⟨fun b blk h=>by (cases h;exact .inr ⟨rfl,rfl⟩),fun h=>(by cases h),fun t h=>by cases h⟩
 ·cases h
theorem rdd_facts{x:Option AV}{r:Rd}{e:Eff}{H:Hp}{nm:Nat}{al:Bool}{ts:Array Operand}(h:x.map (.rdd r)=some e):Facts e H nm al ts:=by
 cases x with
 | none=>cases h
 | some v=>cases h;exact .of rfl rfl rfl
theorem of_facts{x:Option AV}{e:Eff}{H:Hp}{nm:Nat}{al:Bool}{ts:Array Operand}(h:x.map .of=some e):Facts e H nm al ts:=by
 cases x with
 | none=>cases h
 | some v=>cases h;exact .of rfl rfl rfl
theorem p1_facts{α:Type}{x:Option (AV×α)}{e:Eff}{H:Hp}{nm:Nat}{al:Bool}{ts:Array Operand}(h:x.map (fun p=>Eff.of p.1)=some e):Facts e H nm al ts:=by
 cases x with
 | none=>cases h
 | some v=>cases h;exact .of rfl rfl rfl
theorem lMapUpdate_facts{T:TypeId→Option TI}{ro nm:Nat}{H:Hp}{t:TypeId}{x k v:AV}{e:Eff}{al:Bool}{ts:Array Operand}(h:lMapUpdate T ro H t x k v=some e):Facts e H nm al ts:=by
 unfold lMapUpdate at h
 split at h
 ·split at h
  ·split at h
   ·cases h
   ·split at h
    ·rename_i hb
     have hlt:=lt_of_get hb
     unfold lUpd at h
     split at h<;>cases h<;>exact⟨fun b blk h=>by (cases h;exact .inl hlt),fun h=>(by cases h),fun t h=>by cases h⟩
    ·cases h
  ·cases h
 ·cases h
theorem lDelete_facts{T:TypeId→Option TI}{ro nm:Nat}{H:Hp}{t:TypeId}{x k:AV}{e:Eff}{al:Bool}{ts:Array Operand}(h:lDelete T ro H t x k=some e):Facts e H nm al ts:=by
 unfold lDelete at h
 split at h
 ·split at h
  ·split at h
   ·cases h
   ·split at h
    ·rename_i hb
     have hlt:=lt_of_get hb
     unfold lDel at h
     split at h<;>cases h<;>exact⟨fun b blk h=>by (cases h;exact .inl hlt),fun h=>(by cases h),fun t h=>by cases h⟩
    ·cases h
  ·cases h
 ·cases h
theorem lLookup_facts{T:TypeId→Option TI}{nm:Nat}{H:Hp}{t:TypeId}{x k:AV}{ok:Bool}{e:Eff}{al:Bool}{ts:Array Operand}(h:lLookup T H t x k ok=some e):Facts e H nm al ts:=by
 unfold lLookup at h
 split at h
 ·split at h
  ·split at h
   ·split at h
    ·cases h
    ·split at h
     ·split at h
      ·unfold lFound at h
       split at h<;>cases h<;>exact .of rfl rfl rfl
      ·cases h
     ·cases h
   ·cases h
  ·cases h
 ·cases h
theorem lLoad_facts{cx:Cx}{ro nm:Nat}{fn:FuncId}{ops:Array Oper}{d:Tmp}{H:Hp}{t:TypeId}{x:AV}{e:Eff}{al:Bool}{ts:Array Operand}(h:lLoad cx ro fn ops d H t x=some e):Facts e H nm al ts:=by
 unfold lLoad at h
 split at h
 ·cases h1:(aload cx.T t H x).bind (freezeA H ro) with
  | none=>rw[h1]at h;cases h
  | some e' =>
   rw[h1]at h
   cases h
   cases h2:aload cx.T t H x with
   | none=>rw[h2]at h1;cases h1
   | some v =>
    rw[h2]at h1
    have:=freezeA_facts (nm:=nm) (al:=al) (ts:=ts) (show freezeA H ro v=some e' from h1)
    exact⟨this.up,this.tk,this.un⟩
 ·split at h
  ·split at h
   ·rename_i v b H1 hk
    obtain⟨blk,rfl,hlt,hn⟩:=atake_near hk
    obtain⟨h1,_⟩:=lTake_up h hlt
    have hun:e.un=none:=by
     unfold lTake at h
     split at h
     ·cases h
     ·cases h;rfl
    exact⟨fun b' blk' h'=>by (rw[h1]at h';cases h';exact .inl hlt),fun _=>⟨b,blk,h1,hn⟩,fun t h'=>by (rw[hun]at h';cases h')⟩
   ·exact rdd_facts h
  ·exact rdd_facts h
theorem lStore_facts{T:TypeId→Option TI}{ro nm:Nat}{fr:PT}{H:Hp}{t:TypeId}{a:AV}{x:Operand}{e:Eff}{al:Bool}{ts:Array Operand}(hx:x∈ts)(h:lStore T ro fr H t a x=some e):Facts e H nm al ts:=by
 unfold lStore at h
 split at h
 ·rename_i b i j
  split at h
  ·cases h
  ·split at h
   ·rename_i H1 hs
    obtain⟨blk,rfl,hlt,_⟩:=astore_local (H':=H) hs rfl
    rw[List.getElem?_set_self hlt]at h
    cases h
    exact⟨fun b blk h=>by (cases h;exact .inl hlt),fun h=>(by cases h),fun t h=>by (rw[←(owner_spec h).1];exact hx)⟩
   ·cases h
 ·cases h
theorem lCopy_facts{T:TypeId→Option TI}{ro nm:Nat}{H:Hp}{t:TypeId}{x y:AV}{e:Eff}{al:Bool}{ts:Array Operand}(h:lCopy T ro H t x y=some e):Facts e H nm al ts:=by
 unfold lCopy at h
 split at h
 ·rename_i n b blk hc
  split at h
  ·cases h
  ·rename_i hn
   cases h
   have hy:rdOf y=.no:=by
    by_cases hy:rdOf y=.no
    ·exact hy
    ·exact absurd (.inr hy) hn
   have hlt:=(acopy_local (H':=H) hc rfl hy).2
   exact⟨fun b blk h=>by (cases h;exact .inl hlt),fun h=>(by cases h),fun t h=>by cases h⟩
 ·cases h
theorem lop_facts{cx:Cx}{ro nm:Nat}{fn:FuncId}{ops:Array Oper}{fr:PT}{H:Hp}{o:Oper}{e:Eff}(h:lop cx ro fn ops nm fr H (o.dst.getD 0) o.op=some e):Facts e H nm (isAlloc cx fn o) o.op.operands:=by
 obtain⟨dst,op,ty,pos,after,guard⟩:=o
 simp only at h ⊢
 cases op with
 | move x =>
  simp only[lop,lMove]at h
  split at h
  ·exact freeze_facts h
  ·split at h
   ·rename_i t ho
    split at h
    ·cases h
     refine⟨fun b blk h=>(by cases h),fun h=>(by cases h),fun t' h=>?_⟩
     cases h
     rw[←(owner_spec ho).1];simp[Op.operands]
    ·cases h;exact .of rfl rfl rfl
   ·cases h;exact .of rfl rfl rfl
 | assign x =>
  simp only[lop]at h
  cases h
  refine⟨fun b blk h=>(by cases h),fun h=>(by cases h),fun t' h=>?_⟩
  simp only at h
  rw[←(owner_spec h).1];simp[Op.operands]
 | pick c a b =>
  simp only[lop,lPick]at h
  split at h
  ·cases h;exact .of rfl rfl rfl
  ·cases h;exact .of rfl rfl rfl
  ·cases h
 | alloc t =>
  simp only[lop,lAlloc]at h
  split at h
  ·split at h
   ·split at h
    ·cases h
    ·cases h
     exact⟨fun b blk h=>by (cases h;exact .inr ⟨rfl,rfl⟩),fun h=>(by cases h),fun t h=>by cases h⟩
   ·cases h
  ·cases h
 | box t x =>
  simp only[lop,lBox]at h
  split at h
  ·split at h
   ·cases h
   ·cases h
    exact⟨fun b blk h=>by (cases h;exact .inr ⟨rfl,rfl⟩),fun h=>(by cases h),fun t h=>by cases h⟩
  ·cases h
 | build t ps=>exact of_facts h
 | buildSlice t n ps =>
  simp only[lop,lBuildSlice]at h
  split at h
  ·rename_i hh
   have:isAlloc cx fn ⟨dst,.buildSlice t n ps,ty,pos,after,guard⟩=true:=hh
   rw[this];exact lLaid_facts h
  ·exact p1_facts h
 | makeSlice t l c =>
  simp only[lop,lMakeSlice]at h
  split at h
  ·rename_i hh
   have:isAlloc cx fn ⟨dst,.makeSlice t l c,ty,pos,after,guard⟩=true:=hh
   rw[this];exact lLaid_facts h
  ·exact p1_facts h
 | makeMap t r =>
  cases r with
  | some r=>cases h
  | none =>
   simp only[lop]at h
   split at h
   ·cases h
   ·cases h
    exact⟨fun b blk h=>by (cases h;exact .inr ⟨rfl,rfl⟩),fun h=>(by cases h),fun t h=>by cases h⟩
 | load t x=>exact lLoad_facts h
 | store t a x=>exact lStore_facts (by simp[Op.operands]) h
 | nilCheck x =>
  simp only[lop,lNilCheck]at h
  split at h<;>cases h<;>exact .of rfl rfl rfl
 | binOp op t x y r=>exact of_facts h
 | unOp op t x=>exact of_facts h
 | convert s t x=>exact of_facts h
 | makeFunc f first captured =>
  simp only[lop,lMakeFunc]at h
  split at h
  ·split at h
   ·cases h;exact .of rfl rfl rfl
   ·cases h
  ·cases h
 | slice t x lo hi mx=>exact of_facts h
 | fieldAddr t x f=>exact of_facts h
 | field t x f=>exact of_facts h
 | indexAddr t x ix=>exact of_facts h
 | index t x ix=>exact of_facts h
 | extract t i =>
  simp only[lop,lExtract]at h
  split at h
  ·rename_i vs _
   cases hv:vs[i]? with
   | none=>rw[hv]at h;cases h
   | some v=>rw[hv]at h;cases h;exact .of rfl rfl rfl
  ·cases h
 | lookup t x k ok=>exact lLookup_facts h
 | mapUpdate t m k x=>exact lMapUpdate_facts h
 | call c =>
  simp only[lop,lCall]at h
  cases hc:c.callee with
  | builtin b =>
   rw[hc]at h
   simp only at h
   unfold lBuiltin at h
   split at h
   ·exact rdd_facts h
   ·rename_i s x t t' tl hargs _
    split at h
    ·have value:((aappend cx.T t H (raw fr s) (ev fr x)).map fun v=>({ v,un:=owner fr s,rd:=rdOf (ev fr x) }:Eff))=some e→Facts e H nm (isAlloc cx fn ⟨dst,.call c,ty,pos,after,guard⟩) (Op.call c).operands:=by
      intro h
      cases ha:aappend cx.T t H (raw fr s) (ev fr x) with
      | none=>rw[ha]at h;cases h
      | some v =>
       rw[ha]at h
       cases h
       refine⟨fun b blk h=>(by cases h),fun h=>(by cases h),fun t h=>?_⟩
       simp only at h
       rw[←(owner_spec h).1]
       have:s∈c.args:=by rw[←Array.mem_toList_iff,hargs];simp
       simp only[Op.operands,Call.operands,Array.mem_append]
       exact .inr this
     unfold lAppend at h
     split at h
     ·rename_i hh
      split at h
      ·split at h
       ·cases h
       ·cases h
        have hal:isAlloc cx fn ⟨dst,.call c,ty,pos,after,guard⟩=true:=by simp only[isAlloc,hc];exact hh
        rw[hal]
        exact⟨fun b blk h=>by (cases h;exact .inr ⟨rfl,rfl⟩),fun h=>(by cases h),fun t h=>by cases h⟩
      ·exact value h
     ·exact value h
    ·cases h
   ·exact of_facts h
   ·exact of_facts h
   ·exact lCopy_facts h
   ·exact lDelete_facts h
   ·cases h
  | _=>rw[hc]at h;cases h
 | _=>cases h
def setL:List (Tmp×AV)→PT→PT
 | [],fr=>fr
 | (t,x)::l,fr=>setL l (fr.set t x)
theorem setL_get:∀(l:List (Tmp×AV)) {fr:PT} {t:Tmp},(∀p∈l,p.1≠t)→(setL l fr).get t=fr.get t
 | [],fr,t,h=>rfl
 | (s,x)::l,fr,t,h=>by
  simp only[setL]
  rw[setL_get l fun p hp=>h p (by simp[hp]),PT.get_set_ne (h (s,x) (by simp))]
theorem setL_set:∀(l:List (Tmp×AV)) {fr:PT} {t:Tmp} {x:AV},(∀p∈l,p.1≠t)→setL l (fr.set t x)=(setL l fr).set t x
 | [],fr,t,x,h=>rfl
 | (s,y)::l,fr,t,x,h=>by
  simp only[setL]
  rw[PT.set_comm _ _ _ (Ne.symm (h (s,y) (by simp))),setL_set l fun p hp=>h p (by simp[hp])]
theorem setL_comm:∀(l l':List (Tmp×AV)) {fr:PT},(∀p∈l,∀q∈l',p.1≠q.1)→setL l (setL l' fr)=setL l' (setL l fr)
 | l,[],fr,h=>rfl
 | l,(t,x)::l',fr,h=>by
  simp only[setL]
  rw[setL_comm l l' fun p hp q hq=>h p hp q (by simp[hq]),setL_set l fun p hp=>h p hp (t,x) (by simp)]
inductive HU where
 | up (u:Option (Nat×ABlock))
 | all (H':Hp)
def HU.app:HU→Hp→Hp
 | .up none,H=>H
 | .up (some (b,blk)),H=>H.set b blk
 | .all H',_=>H'
def HU.fits(f:Fp)(H:Hp):HU→Prop
 | .up none=>f.wr=.no∧f.tk=.no
 | .up (some (b,blk))=>(b<H.length∧∀c,f.kp c=false)∧((f.wr=.one b∧f.tk=.no)∨(f.wr=.no∧f.tk=.one b∧Near H[b]? (some blk)))
 | .all H'=>f.rd=.all∧f.wr=.all∧f.tk=.no∧∀b,f.kp b=true→H'[b]?=H[b]?
structure AgreeF(f:Fp)(H H':Hp):Prop where
 all:f.rd=.all→H'=H
 one:∀b,f.rd=.one b→Near H[b]? H'[b]?
 wr:∀b,f.wr=.one b∨f.tk=.one b→H'[b]?=H[b]?
def Local(cx:Cx)(h:Hd)(ro:Nat)(fn nt:Nat)(ops:Array Oper)(nm:Nat)(fr:PT)(H:Hp)(oo:Option Oper)(f:Fp)(W:List (Tmp×AV))(u:HU):Prop :=
 (∀p∈W,p.1∈f.ws)∧u.fits f H∧
 ∀fr2 H2,(∀t∈f.rs,fr2.get t=fr.get t)→AgreeF f H H2→step cx h ro fn nt ops nm fr2 H2 oo=some (f,setL W fr2,u.app H2)
theorem putD_setL{nt:Nat}{dst:Option Tmp}{v:AV}{fr fr':PT}(h:putD nt dst v fr=some fr'):
  fr'=setL (dst.toList.map fun d=>(d,v)) fr∧∀fr2,putD nt dst v fr2=some (setL (dst.toList.map fun d=>(d,v)) fr2):=by
 cases dst with
 | none=>simp only[putD]at h;cases h;exact⟨rfl,fun _=>rfl⟩
 | some d =>
  simp only[putD]at h
  split at h
  ·rename_i hd
   cases h
   exact⟨rfl,fun fr2=>by simp only[putD];rw[if_pos hd];rfl⟩
  ·cases h
theorem wants_local{ops:Array Oper}{fr fr2:PT}{o:Oper}(h:∀t∈tmpsOf ops o,fr2.get t=fr.get t):wants ops fr2 o=wants ops fr o:=by
 unfold wants
 cases hg:o.guard with
 | none=>rfl
 | some p =>
  obtain⟨j,want⟩:=p
  simp only
  cases hd:(ops[j]?).bind (·.dst) with
  | none=>rfl
  | some d =>
   simp only
   rw[h d (by simp[tmpsOf,hg,hd])]
theorem sees_of{ops:Array Oper}{fr fr2:PT}{o:Oper}(h:∀t∈tmpsOf ops o,fr2.get t=fr.get t):∀x∈o.op.operands,Sees fr fr2 x:=by
 intro x hx
 refine Sees.of fun t ht=>h t ?_
 subst ht
 simp only[tmpsOf,List.mem_append,List.mem_filterMap]
 exact .inl ⟨.tmp t,by simpa using hx,rfl⟩
theorem callee_ops{op:Op}{f:Operand}{args:List Operand}(h:calleeOf op=some (f,args)):f∈op.operands∧∀x∈args,x∈op.operands:=by
 unfold calleeOf at h
 split at h
 ·rename_i c
  split at h
  ·rename_i f' hc
   cases h
   simp only[Op.operands,Call.operands,hc,Array.mem_append]
   exact⟨.inl (by simp),fun x hx=>.inr (by simpa using hx)⟩
  ·cases h
 ·cases h
theorem unownT_setL(un:Option Tmp)(fr:PT):unownT un fr=setL (un.toList.map fun t=>(t,shr (fr.get t))) fr:=by
 cases un<;>rfl
theorem setL_append:∀(l l':List (Tmp×AV))(fr:PT),setL (l++l') fr=setL l' (setL l fr)
 | [],l',fr=>rfl
 | (t,x)::l,l',fr=>by simp only[List.cons_append,setL];exact setL_append l l' _
theorem fits_no{f:Fp}{H:Hp}(h1:f.wr=.no)(h2:f.tk=.no):(HU.up none).fits f H:=⟨h1,h2⟩
theorem step_local{cx:Cx}{h:Hd}{ro nt nm:Nat}{fn:FuncId}{ops:Array Oper}{fr fr':PT}{H H':Hp}{oo:Option Oper}{f:Fp}(hs:step cx h ro fn nt ops nm fr H oo=some (f,fr',H'))
  (hnm:∀o,oo=some o→isAlloc cx fn o=true→nm<H.length):∃W u,fr'=setL W fr∧H'=u.app H∧Local cx h ro fn nt ops nm fr H oo f W u:=by
 cases oo with
 | none=>cases hs
 | some o =>
  simp only[step]at hs
  cases hw:wants ops fr o with
  | none=>rw[hw]at hs;cases hs
  | some b =>
   rw[hw]at hs
   have hwl:∀fr2,(∀t∈tmpsOf ops o,fr2.get t=fr.get t)→wants ops fr2 o=some b:=fun fr2 h2=>by rw[wants_local h2,hw]
   cases b with
   | false =>
    simp only[stepG,stepped]at hs
    cases hp:putD nt o.dst (.tup []) fr with
    | none=>rw[hp]at hs;cases hs
    | some fr1 =>
     rw[hp]at hs
     cases hs
     obtain⟨h1,h2⟩:=putD_setL hp
     refine⟨_,.up none,h1,rfl,?_,fits_no rfl rfl,fun fr2 H2 hr A=>?_⟩
     ·intro p hp;simp only[List.mem_map]at hp;obtain⟨d,hd,rfl⟩:=hp;exact hd
     ·simp only[step,hwl fr2 hr,stepG,stepped,h2 fr2];rfl
   | true =>
    simp only[stepG]at hs
    have hstep:∀fr2 H2,(∀t∈tmpsOf ops o,fr2.get t=fr.get t)→step cx h ro fn nt ops nm fr2 H2 (some o)=stepO cx h ro fn nt ops nm fr2 H2 o:=fun fr2 H2 h2=>by
     simp only[step,hwl fr2 h2,stepG]
    unfold stepO at hs
    split at hs
    ·
     rename_i g args hc
     obtain⟨hg,hargs⟩:=callee_ops hc
     have hsees:∀fr2,(∀t∈tmpsOf ops o,fr2.get t=fr.get t)→ev fr2 g=ev fr g∧args.map (ev fr2)=args.map (ev fr):=fun fr2 h2 =>
      ⟨(sees_of h2 g hg).ev,sees_list fun x hx=>sees_of h2 x (hargs x hx)⟩
     have hfin:∀ {v:AV} {H1:Hp} {rd wr:Rd} {kp:Hp→Nat→Bool} (u:HU),stepped nt ops o fr rd wr kp (some (v,H1))=some (f,fr',H')→H1=u.app H→
       u.fits ⟨tmpsOf ops o,o.dst.toList,rd,wr,.no,kp H1⟩ H→
       (∀fr2 H2,(∀t∈tmpsOf ops o,fr2.get t=fr.get t)→AgreeF ⟨tmpsOf ops o,o.dst.toList,rd,wr,.no,kp H1⟩ H H2→∃kp',kp' (u.app H2)=kp H1∧stepO cx h ro fn nt ops nm fr2 H2 o=stepped nt ops o fr2 rd wr kp' (some (v,u.app H2)))→
       ∃W u,fr'=setL W fr∧H'=u.app H∧Local cx h ro fn nt ops nm fr H (some o) f W u:=by
      intro v H1 rd wr kp u hst hH1 hfit hloc
      simp only[stepped]at hst
      cases hp:putD nt o.dst v fr with
      | none=>rw[hp]at hst;cases hst
      | some fr1 =>
       rw[hp]at hst
       cases hst
       obtain⟨h1,h2⟩:=putD_setL hp
       refine⟨_,u,h1,hH1,?_,hfit,fun fr2 H2 hr A=>?_⟩
       ·intro p hp;simp only[List.mem_map]at hp;obtain⟨d,hd,rfl⟩:=hp;exact hd
       ·obtain⟨kp',hk1,hk2⟩:=hloc fr2 H2 hr A
        rw[hstep fr2 H2 hr,hk2]
        simp only[stepped,h2 fr2,hk1];rfl
     have hst2:∀fr2 H2,(∀t∈tmpsOf ops o,fr2.get t=fr.get t)→stepO cx h ro fn nt ops nm fr2 H2 o=calls cx h ro nt ops o fr2 H2 (ev fr g) (args.map (ev fr)):=fun fr2 H2 h2=>by
      unfold stepO
      rw[hc]
      simp only
      rw[(hsees fr2 h2).1,(hsees fr2 h2).2]
     unfold calls at hs
     split at hs
     ·rename_i f0 cap hfv
      cases hway:way cx f0 (args.map (ev fr)++cap) with
      | pure =>
       rw[hway]at hs
       cases hd:docall h ro f0 (args.map (ev fr)++cap) H .pure with
       | none=>rw[hd]at hs;simp[stepped]at hs
       | some res =>
        obtain⟨v,H1⟩:=res
        rw[hd]at hs
        simp only[docall]at hd
        cases hcall:h.call 0 f0 ((args.map (ev fr)++cap).map cl2) [] with
        | none=>rw[hcall]at hd;simp[purely]at hd
        | some res2 =>
         obtain⟨v2,H3⟩:=res2
         rw[hcall]at hd
         simp only[purely,Option.some.injEq,Prod.mk.injEq]at hd
         obtain⟨hv,rfl⟩:=hd
         refine hfin (.up none) hs rfl (fits_no rfl rfl) fun fr2 H2 hr A=>?_
         refine⟨kpNo,rfl,?_⟩
         rw[hst2 fr2 H2 hr,hfv]
         simp only[calls,hway,docall,hcall,purely,hv]
         rfl
      | quiet =>
       rw[hway]at hs
       cases hd:docall h ro f0 (args.map (ev fr)++cap) H .quiet with
       | none=>rw[hd]at hs;simp[stepped]at hs
       | some res =>
        obtain⟨v,H1⟩:=res
        rw[hd]at hs
        have hH1:H1=H:=by
         simp only[docall]at hd
         cases hcall:h.call H.length f0 ((args.map (ev fr)++cap).map drp) H with
         | none=>rw[hcall]at hd;simp[purely]at hd
         | some res2=>obtain⟨v2,H3⟩:=res2;rw[hcall]at hd;simp only[purely,Option.some.injEq,Prod.mk.injEq]at hd;exact hd.2.symm
        refine hfin (.up none) hs hH1 (fits_no rfl rfl) fun fr2 H2 hr A=>?_
        have:H2=H:=A.all rfl
        subst this
        refine⟨kpNo,rfl,?_⟩
        rw[hst2 fr2 H2 hr,hfv]
        simp only[calls,hway,hd,hH1]
        rfl
      | full =>
       rw[hway]at hs
       cases hd:docall h ro f0 (args.map (ev fr)++cap) H .full with
       | none=>rw[hd]at hs;simp[stepped]at hs
       | some res =>
        obtain⟨v,H1⟩:=res
        rw[hd]at hs
        refine hfin (.all H1) hs rfl ⟨rfl,rfl,rfl,fun b hb=>by simpa [kpWay,kpAs] using hb⟩ fun fr2 H2 hr A=>?_
        have:H2=H:=A.all rfl
        subst this
        refine⟨kpAs H2,rfl,?_⟩
        rw[hst2 fr2 H2 hr,hfv]
        simp only[calls,hway,hd]
        rfl
     ·rename_i l hfv
      cases hd:round h ro l (args.map (ev fr)) H with
      | none=>rw[hd]at hs;simp[stepped]at hs
      | some res =>
       obtain⟨v,H1⟩:=res
       rw[hd]at hs
       refine hfin (.all H1) hs rfl ⟨rfl,rfl,rfl,fun b hb=>by simpa [kpAs] using hb⟩ fun fr2 H2 hr A=>?_
       have:H2=H:=A.all rfl
       subst this
       refine⟨kpAs H2,rfl,?_⟩
       rw[hst2 fr2 H2 hr,hfv]
       simp only[calls,hd]
       rfl
     ·cases hs
    ·
     rename_i hc
     cases hl:lop cx ro fn ops nm fr H (o.dst.getD 0) o.op with
     | none=>rw[hl]at hs;cases hs
     | some e =>
      rw[hl]at hs
      simp only[effed]at hs
      cases hp:putD nt o.dst e.v (unownT e.un fr) with
      | none=>rw[hp]at hs;cases hs
      | some fr1 =>
       rw[hp]at hs
       cases hs
       obtain⟨h1,h2⟩:=putD_setL hp
       have hF:=lop_facts hl
       have hup:∀b blk,e.up=some (b,blk)→b<H.length:=fun b blk hb=>by
        rcases hF.up b blk hb with h | ⟨h,ha⟩
        ·exact h
        ·rw[h];exact hnm o rfl ha
       refine⟨(e.un.toList.map fun t=>(t,shr (fr.get t)))++(o.dst.toList.map fun d=>(d,e.v)),.up e.up,?_,?_,?_,?_,fun fr2 H2 hr A=>?_⟩
       ·rw[setL_append,←unownT_setL];exact h1
       ·cases hu:e.up with
        | none=>rfl
        | some p =>
         obtain⟨b,blk⟩:=p
         simp only[putB,HU.app]
         rw[if_neg (by have:=hup b blk hu;omega)]
       ·intro p hp
        simp only[List.mem_append,List.mem_map]at hp ⊢
        rcases hp with⟨t,ht,rfl⟩ | ⟨t,ht,rfl⟩
        ·exact .inr ht
        ·exact .inl ht
       ·cases hu:e.up with
        | none =>
         refine fits_no ?_ ?_
         ·simp only[hu];split<;>rfl
         ·simp only[hu];split<;>rfl
        | some p =>
         obtain⟨b,blk⟩:=p
         refine⟨⟨hup b blk hu,fun _=>rfl⟩,?_⟩
         cases htk:e.tk with
         | false=>exact .inl ⟨by simp[hu,htk,blockOf],by simp[htk]⟩
         | true =>
          obtain⟨b',blk',k1,k2⟩:=hF.tk htk
          rw[hu]at k1;cases k1
          exact .inr ⟨by simp[htk],by simp[hu,htk,blockOf],k2⟩
       ·have hlop:lop cx ro fn ops nm fr2 H2 (o.dst.getD 0) o.op=some e:=by
         rw[lop_congr (sees_of hr)]
         refine lop_local hl ⟨A.all,A.one,fun b blk hb=>⟨hup b blk hb,A.wr b ?_⟩⟩
         simp only[hb,blockOf]
         cases e.tk with
         | false=>exact .inl rfl
         | true=>exact .inr rfl
        rw[hstep fr2 H2 hr]
        unfold stepO
        rw[hc]
        simp only[hlop,effed]
        have hun:unownT e.un fr2=setL (e.un.toList.map fun t=>(t,shr (fr.get t))) fr2:=by
         rw[unownT_setL]
         cases hu:e.un with
         | none=>rfl
         | some t =>
          have:fr2.get t=fr.get t:=hr t (by
           simp only[tmpsOf,List.mem_append,List.mem_filterMap]
           exact .inl ⟨.tmp t,by simpa using hF.un t hu,rfl⟩)
          simp only[Option.toList_some,List.map_cons,List.map_nil,this]
        rw[h2,hun,setL_append]
        have hH:putB H2 e.up=(HU.up e.up).app H2:=by
         cases hu:e.up with
         | none=>rfl
         | some p =>
          obtain⟨b,blk⟩:=p
          simp only[putB,HU.app]
          have h3:H2[b]?=H[b]?:=A.wr b (by
           simp only[hu,blockOf]
           cases e.tk with
           | false=>exact .inl rfl
           | true=>exact .inr rfl)
          have h4:b<H2.length:=by
           have:(H2[b]?).isSome=true:=by rw[h3];simp[hup b blk hu]
           simpa using this
          rw[if_neg (by omega)]
        simp only[Option.map_some,hH]
structure ApartS(f g:Fp):Prop where
 w1:∀t∈f.ws,t∉g.rs∧t∉g.ws
 w2:∀t∈g.ws,t∉f.rs
 wr:f.wr.meets g.rd=false∨∃b,g.rd=.one b∧f.kp b=true
 ww:f.wr.meets g.wr=false
 rw:f.rd.meets g.wr=false∨∃b,f.rd=.one b∧g.kp b=true
 wt:f.wr.meets g.tk=false
 tw:f.tk.meets g.wr=false
 tt:f.tk.meets g.tk=false
 ta:g.rd=.all→f.tk=.no
 at':f.rd=.all→g.tk=.no
theorem kept_spec{kp:Nat→Bool}{r:Rd}(h:r.kept kp=true):∃b,r=.one b∧kp b=true:=by
 cases r with
 | one b=>exact⟨b,rfl,h⟩
 | _=>cases h
theorem apart_spec{f g:Fp}(h:f.apart g=true):ApartS f g:=by
 unfold Fp.apart at h
 simp only[Bool.and_eq_true,List.all_eq_true,Bool.not_eq_true',List.contains_eq_mem,decide_eq_false_iff_not,Bool.or_eq_true]at h
 obtain⟨⟨⟨⟨⟨⟨⟨⟨⟨h1,h2⟩,h3⟩,h4⟩,h5⟩,h6⟩,h7⟩,h8⟩,h9⟩,h10⟩:=h
 refine⟨h1,h2,h3.imp id kept_spec,h4,h5.imp id kept_spec,h6,h7,h8,fun h=>?_,fun h=>?_⟩
 ·rw[h]at h9;simpa using h9
 ·rw[h]at h10;simpa using h10
theorem app_other{u:HU}{f:Fp}{H H0:Hp}{b:Nat}(hf:u.fits f H0)(h1:f.wr.meets (.one b)=false)(h2:f.tk.meets (.one b)=false):(u.app H)[b]?=H[b]?:=by
 cases u with
 | up u=>cases u with
  | none=>rfl
  | some p =>
   obtain⟨c,blk⟩:=p
   obtain⟨h3,h4⟩:=hf
   simp only[HU.app]
   rw[List.getElem?_set_ne]
   rcases h4 with⟨h4,_⟩ | ⟨_,h4,_⟩
   ·rw[h4]at h1;simpa [Rd.meets] using h1
   ·rw[h4]at h2;simpa [Rd.meets] using h2
 | all H'=>rw[hf.2.1]at h1;simp[Rd.meets]at h1
theorem app_none{u:HU}{f:Fp}{H H0:Hp}(hf:u.fits f H0)(h1:f.wr=.no)(h2:f.tk=.no):u.app H=H:=by
 cases u with
 | up u=>cases u with
  | none=>rfl
  | some p =>
   obtain⟨c,blk⟩:=p
   obtain⟨h3,h4⟩:=hf
   rcases h4 with⟨h4,_⟩ | ⟨_,h4,_⟩
   ·rw[h1]at h4;cases h4
   ·rw[h2]at h4;cases h4
 | all H'=>rw[hf.2.1]at h1;cases h1
theorem meets_comm(a b:Rd):a.meets b=b.meets a:=by
 cases a<;>cases b<;>simp[Rd.meets,Bool.beq_comm]
theorem agree_app{u:HU}{f g:Fp}{H:Hp}(hf:u.fits f H)(hall:g.rd=.all→f.wr=.no∧f.tk=.no)(hone:∀b,g.rd=.one b→f.wr.meets (.one b)=false∨f.kp b=true)
  (hw:∀b,g.wr=.one b∨g.tk=.one b→f.wr.meets (.one b)=false∧f.tk.meets (.one b)=false):AgreeF g H (u.app H):=by
 refine⟨fun h=>app_none hf (hall h).1 (hall h).2,fun b h=>?_,fun b h=>app_other hf (hw b h).1 (hw b h).2⟩
 rcases hone b h with h1 | hk
 ·by_cases h2:f.tk.meets (.one b)=false
  ·exact .inl (app_other hf h1 h2)
  ·cases u with
   | up u=>cases u with
    | none=>exact .inl rfl
    | some p =>
     obtain⟨c,blk⟩:=p
     obtain⟨h3,h4⟩:=hf
     rcases h4 with⟨_,h4⟩ | ⟨_,h4,h5⟩
     ·rw[h4]at h2;simp[Rd.meets]at h2
     ·rw[h4]at h2
      simp only[Rd.meets,Bool.not_eq_false,beq_iff_eq]at h2
      subst h2
      simp only[HU.app]
      rw[List.getElem?_set_self h3.1]
      exact h5
   | all H'=>rw[hf.2.1]at h1;simp[Rd.meets]at h1
 ·cases u with
  | up u =>
   cases u with
   | none=>exact .inl rfl
   | some p =>
    obtain⟨c,blk⟩:=p
    rw[hf.1.2 b]at hk
    cases hk
  | all H'=>exact .inl (hf.2.2.2 b hk)
theorem AgreeF.symm{f:Fp}{H H':Hp}(h:AgreeF f H H'):AgreeF f H' H :=
 ⟨fun k=>(h.all k).symm,fun b k=>(h.one b k).symm,fun b k=>(h.wr b k).symm⟩
theorem app_comm{u v:HU}{f g:Fp}{H0 H1 H:Hp}(hu:u.fits f H0)(hv:v.fits g H1)(hw:f.wr.meets g.wr=false)(hwt:f.wr.meets g.tk=false)(htw:f.tk.meets g.wr=false)(htt:f.tk.meets g.tk=false):
  u.app (v.app H)=v.app (u.app H):=by
 cases u with
 | all H' =>
  have h1:f.wr=.all:=hu.2.1
  rw[h1]at hw hwt
  have h2:g.wr=.no:=by cases hg:g.wr<;>rw[hg]at hw<;>first | rfl | (simp[Rd.meets]at hw)
  have h3:g.tk=.no:=by cases hg:g.tk<;>rw[hg]at hwt<;>first | rfl | (simp[Rd.meets]at hwt)
  rw[app_none (H:=H) hv h2 h3,app_none (H:=(HU.all H').app H) hv h2 h3]
 | up u =>
  cases v with
  | all H' =>
   have h1:g.wr=.all:=hv.2.1
   rw[h1]at hw htw
   have h2:f.wr=.no:=by cases hg:f.wr<;>rw[hg]at hw<;>first | rfl | (simp[Rd.meets]at hw)
   have h3:f.tk=.no:=by cases hg:f.tk<;>rw[hg]at htw<;>first | rfl | (simp[Rd.meets]at htw)
   rw[app_none (H:=H) hu h2 h3,app_none (H:=(HU.all H').app H) hu h2 h3]
  | up v =>
   cases u with
   | none=>rfl
   | some p =>
    cases v with
    | none=>rfl
    | some q =>
     obtain⟨b,x⟩:=p
     obtain⟨c,y⟩:=q
     obtain⟨_,hu⟩:=hu
     obtain⟨_,hv⟩:=hv
     have hne:c≠b:=by
      intro e
      subst e
      rcases hu with⟨a1,a2⟩ | ⟨a1,a2,_⟩<;>rcases hv with⟨b1,b2⟩ | ⟨b1,b2,_⟩
      ·rw[a1,b1]at hw;simp[Rd.meets]at hw
      ·rw[a1,b2]at hwt;simp[Rd.meets]at hwt
      ·rw[a2,b1]at htw;simp[Rd.meets]at htw
      ·rw[a2,b2]at htt;simp[Rd.meets]at htt
     simp only[HU.app]
     exact List.set_comm _ _ hne
theorem meets_all{r:Rd}(h:r.meets .all=false):r=.no:=by cases r<;>first | rfl | (simp[Rd.meets]at h)
theorem meets_all'{r:Rd}(h:Rd.meets .all r=false):r=.no:=by cases r<;>first | rfl | (simp[Rd.meets]at h)
theorem swap{cx:Cx}{h:Hd}{ro nt n m:Nat}{fn:FuncId}{ops:Array Oper}{fr fr1 fr2:PT}{H H1 H2:Hp}{x y:Option Oper}{f g:Fp}
  (hx:step cx h ro fn nt ops n fr H x=some (f,fr1,H1)) (hy:step cx h ro fn nt ops m fr1 H1 y=some (g,fr2,H2)) (hap:f.apart g=true)
  (hn:∀o,x=some o→isAlloc cx fn o=true→n<H.length) (hm:∀o,y=some o→isAlloc cx fn o=true→m<H1.length):
  ∃fr3 H3,step cx h ro fn nt ops m fr H y=some (g,fr3,H3)∧step cx h ro fn nt ops n fr3 H3 x=some (f,fr2,H2):=by
 obtain⟨W,u,rfl,rfl,hW,hu,hX⟩:=step_local hx hn
 obtain⟨V,v,rfl,rfl,hV,hv,hY⟩:=step_local hy hm
 have A:=apart_spec hap
 have h1:AgreeF g H (u.app H):=by
  refine agree_app hu (fun k=>⟨?_,A.ta k⟩) (fun b k=>?_) fun b k=>?_
  ·rcases A.wr with this | ⟨b,hb,_⟩
   ·rw[k]at this;exact meets_all this
   ·rw[k]at hb;cases hb
  ·rcases A.wr with this | ⟨c,hb,hk⟩
   ·rw[k]at this;exact .inl this
   ·rw[k]at hb;cases hb;exact .inr hk
  ·rcases k with k | k
   ·exact⟨by have:=A.ww;rw[k]at this;exact this,by have:=A.tw;rw[k]at this;exact this⟩
   ·exact⟨by have:=A.wt;rw[k]at this;exact this,by have:=A.tt;rw[k]at this;exact this⟩
 have s1:=hY fr H (fun t ht=>(setL_get W fun p hp e=>(A.w1 p.1 (hW p hp)).1 (e ▸ ht)).symm) h1.symm
 refine⟨_,_,s1,?_⟩
 have hv0:v.fits g H:=by
  cases v with
  | up v=>cases v with
   | none=>exact hv
   | some p =>
    obtain⟨b,blk⟩:=p
    obtain⟨k1,k2⟩:=hv
    have hb:(u.app H)[b]?=H[b]?:=by
     rcases k2 with⟨k2,_⟩ | ⟨_,k2,_⟩
     ·exact h1.wr b (.inl k2)
     ·exact h1.wr b (.inr k2)
    refine⟨⟨?_,k1.2⟩,?_⟩
    ·have:(H[b]?).isSome=true:=by rw[←hb];simp[k1.1]
     simpa using this
    ·rw[←hb];exact k2
  | all H' =>
   have e1:f.wr=.no:=by
    have:=A.ww
    rw[hv.2.1]at this
    cases hw:f.wr<;>rw[hw]at this<;>first | rfl | (simp[Rd.meets]at this)
   have e2:f.tk=.no:=by
    have:=A.tw
    rw[hv.2.1]at this
    cases hw:f.tk<;>rw[hw]at this<;>first | rfl | (simp[Rd.meets]at this)
   rw[app_none hu e1 e2]at hv
   exact hv
 have h2:AgreeF f H (v.app H):=by
  refine agree_app hv0 (fun k=>⟨?_,A.at' k⟩) (fun b k=>?_) fun b k=>?_
  ·rcases A.rw with this | ⟨b,hb,_⟩
   ·rw[k]at this;exact meets_all' this
   ·rw[k]at hb;cases hb
  ·rcases A.rw with this | ⟨c,hb,hk⟩
   ·rw[k,meets_comm]at this;exact .inl this
   ·rw[k]at hb;cases hb;exact .inr hk
  ·rcases k with k | k
   ·exact⟨by have:=A.ww;rw[k,meets_comm]at this;exact this,by have:=A.wt;rw[k,meets_comm]at this;exact this⟩
   ·exact⟨by have:=A.tw;rw[k,meets_comm]at this;exact this,by have:=A.tt;rw[k,meets_comm]at this;exact this⟩
 have s2:=hX (setL V fr) (v.app H) (fun t ht=>setL_get V fun p hp e=>A.w2 p.1 (hV p hp) (e ▸ ht)) h2
 rw[s2,setL_comm W V fun p hp q hq e=>(A.w1 p.1 (hW p hp)).2 (e ▸ hV q hq),app_comm hu hv0 A.ww A.wt A.tw A.tt]
structure Grow(h:Hd):Prop where
 call:∀ {ro f args H v H'},h.call ro f args H=some (v,H')→H.length≤H'.length
 loop:∀ {ro fn nt c fr H e fr' H'},h.loop ro fn nt c fr H=some (e,fr',H')→H.length≤H'.length
 code:∀ {ro fn nt c fr H e fr' H'},h.code ro fn nt c fr H=some (e,fr',H')→H.length≤H'.length
theorem grow_none:Grow Hd.none:=⟨fun h=>(by cases h),fun h=>(by cases h),fun h=>by cases h⟩
theorem putB_grow(H:Hp)(u:Option (Nat×ABlock)):H.length≤(putB H u).length:=by
 cases u with
 | none=>exact Nat.le_refl _
 | some p =>
  obtain⟨b,blk⟩:=p
  simp only[putB]
  split<;>simp
theorem endRound_grow{l:Nat}{r:Option Res}{v:AV}{H':Hp}{n:Nat}(h:endRound l r=some (v,H'))(hr:∀e fr H,r=some (e,fr,H)→n≤H.length):n≤H'.length:=by
 unfold endRound at h
 split at h
 ·rename_i e fr H
  split at h
  ·cases h;have:=hr _ _ _ rfl;simpa using this
  ·cases h
 ·cases h
theorem round_grow{h:Hd}(G:Grow h){ro l:Nat}{args:List AV}{H H':Hp}{v:AV}(hs:round h ro l args H=some (v,H')):H.length≤H'.length:=by
 unfold round at hs
 split at hs
 ·cases hs
 ·split at hs
  ·rename_i r hb
   split at hs
   ·unfold bodyRound at hs
    split at hs
    ·rename_i fr1 H1 hc
     have h1:=G.code hc
     split at hs
     ·split at hs
      ·refine endRound_grow hs fun e fr2 H2 h2=>?_
       have:=G.code h2
       simp at this
       omega
      ·cases hs
     ·cases hs
    ·cases hs
   ·cases hs
  ·cases hs
theorem docall_grow{h:Hd}(G:Grow h){ro:Nat}{g:FuncId}{args:List AV}{H H':Hp}{v:AV}{w:Way}(hs:docall h ro g args H w=some (v,H')):H.length≤H'.length:=by
 have hp:∀ {r:Option (AV×Hp)} {n:Nat},purely r n H=some (v,H')→H.length≤H'.length:=fun {r n} h=>by
  unfold purely at h
  split at h<;>cases h
  exact Nat.le_refl _
 cases w with
 | pure=>exact hp hs
 | quiet=>exact hp hs
 | full=>exact G.call hs
theorem stepped_grow{nt:Nat}{ops:Array Oper}{o:Oper}{fr fr':PT}{rd wr:Rd}{kp:Hp→Nat→Bool}{r:Option (AV×Hp)}{f:Fp}{H':Hp}{n:Nat}(h:stepped nt ops o fr rd wr kp r=some (f,fr',H'))(hr:∀v H,r=some (v,H)→n≤H.length):n≤H'.length:=by
 unfold stepped at h
 split at h
 ·rename_i v H1
  cases hp:putD nt o.dst v fr with
  | none=>rw[hp]at h;cases h
  | some fr1=>rw[hp]at h;cases h;exact hr _ _ rfl
 ·cases h
theorem step_grow{cx:Cx}{h:Hd}(G:Grow h){ro nt nm:Nat}{fn:FuncId}{ops:Array Oper}{fr fr':PT}{H H':Hp}{oo:Option Oper}{f:Fp}(hs:step cx h ro fn nt ops nm fr H oo=some (f,fr',H')):H.length≤H'.length:=by
 cases oo with
 | none=>cases hs
 | some o =>
  simp only[step]at hs
  cases hw:wants ops fr o with
  | none=>rw[hw]at hs;cases hs
  | some b =>
   rw[hw]at hs
   cases b with
   | false =>
    simp only[stepG]at hs
    exact stepped_grow hs fun v H1 h1=>by cases h1;exact Nat.le_refl _
   | true =>
    simp only[stepG]at hs
    unfold stepO at hs
    split at hs
    ·unfold calls at hs
     split at hs
     ·exact stepped_grow hs fun v H1 h1=>docall_grow G h1
     ·exact stepped_grow hs fun v H1 h1=>round_grow G h1
     ·cases hs
    ·cases hl:lop cx ro fn ops nm fr H (o.dst.getD 0) o.op with
     | none=>rw[hl]at hs;cases hs
     | some e =>
      rw[hl]at hs
      simp only[effed]at hs
      cases hp:putD nt o.dst e.v (unownT e.un fr) with
      | none=>rw[hp]at hs;cases hs
      | some fr1=>rw[hp]at hs;cases hs;exact putB_grow _ _
theorem run_cons{cx:Cx}{h:Hd}{ro nt:Nat}{fn:FuncId}{ops:Array Oper}{nm:Hp→Nat→Nat}{i:Nat}{l:List Nat}{fr fr':PT}{H H':Hp}{fs:List (Nat×Fp)}(hr:run cx h ro fn nt ops nm (i::l) fr H=some (fs,fr',H')):
  ∃f fr1 H1 fs1,step cx h ro fn nt ops (nm H i) fr H ops[i]?=some (f,fr1,H1)∧run cx h ro fn nt ops nm l fr1 H1=some (fs1,fr',H')∧fs=(i,f)::fs1:=by
 simp only[run]at hr
 cases hst:step cx h ro fn nt ops (nm H i) fr H ops[i]? with
 | none=>rw[hst]at hr;cases hr
 | some res =>
  obtain⟨f,fr1,H1⟩:=res
  rw[hst]at hr
  simp only at hr
  cases hr2:run cx h ro fn nt ops nm l fr1 H1 with
  | none=>rw[hr2]at hr;cases hr
  | some res2 =>
   obtain⟨fs1,fr2,H2⟩:=res2
   rw[hr2]at hr
   simp only[cons1,Option.some.injEq,Prod.mk.injEq]at hr
   obtain⟨rfl,rfl,rfl⟩:=hr
   exact⟨f,fr1,H1,fs1,rfl,hr2,rfl⟩
theorem run_grow{cx:Cx}{h:Hd}(G:Grow h){ro nt:Nat}{fn:FuncId}{ops:Array Oper}{nm:Hp→Nat→Nat}:∀(l:List Nat) {fr fr':PT} {H H':Hp} {fs:List (Nat×Fp)},run cx h ro fn nt ops nm l fr H=some (fs,fr',H')→H.length≤H'.length
 | [],fr,fr',H,H',fs,hr=>by simp only[run]at hr;cases hr;exact Nat.le_refl _
 | i::l,fr,fr',H,H',fs,hr=>by
  obtain⟨f,fr1,H1,fs1,h1,h2,_⟩:=run_cons hr
  exact Nat.le_trans (step_grow G h1) (run_grow G l h2)
theorem region_grow{cx:Cx}{h:Hd}(G:Grow h){ro nt:Nat}{fn:FuncId}{ops:Array Oper}{fr fr':PT}{H H':Hp}{draw:Bool}(hr:region cx h ro fn nt ops fr H draw=some (fr',H')):H.length≤H'.length:=by
 cases draw with
 | true =>
  simp only[region]at hr
  split at hr
  ·unfold ranAny at hr
   split at hr
   ·rename_i fs r hrun
    split at hr
    ·cases hr
     have:=run_grow G _ hrun
     simp at this
     omega
    ·cases hr
   ·cases hr
  ·cases hr
 | false =>
  simp only[region]at hr
  unfold ranOnly at hr
  split at hr
  ·rename_i fs r hrun
   cases hr
   exact run_grow G _ hrun
  ·cases hr
theorem ex_grow{cx:Cx}{h:Hd}(G:Grow h){ro nt:Nat}{fn:FuncId}:∀(c:Code) {fr fr':PT} {H H':Hp} {e:Ex},ex cx h ro fn nt c fr H=some (e,fr',H')→H.length≤H'.length
 | .skip,fr,fr',H,H',e,hx=>by simp only[ex]at hx;cases hx;exact Nat.le_refl _
 | .label _,fr,fr',H,H',e,hx=>by simp only[ex]at hx;cases hx;exact Nat.le_refl _
 | .region id ops draw,fr,fr',H,H',e,hx=>by
  simp only[ex]at hx
  cases hr:region cx h ro fn nt ops fr H draw with
  | none=>rw[hr]at hx;cases hx
  | some res=>obtain⟨fr1,H1⟩:=res;rw[hr]at hx;simp only[normR]at hx;cases hx;exact region_grow G hr
 | .seq x y,fr,fr',H,H',e,hx=>by
  simp only[ex]at hx
  cases ha:ex cx h ro fn nt x fr H with
  | none=>rw[ha]at hx;cases hx
  | some res =>
   obtain⟨e1,fr1,H1⟩:=res
   rw[ha]at hx
   have h1:=ex_grow G x ha
   cases e1 with
   | normal=>simp only[thenR]at hx;exact Nat.le_trans h1 (ex_grow G y hx)
   | exit id=>simp only[thenR]at hx;cases hx;exact h1
   | ret=>simp only[thenR]at hx;cases hx;exact h1
 | .cond c x y,fr,fr',H,H',e,hx=>by
  simp only[ex]at hx
  unfold condR at hx
  split at hx
  ·exact ex_grow G x hx
  ·exact ex_grow G y hx
  ·cases hx
 | .block id x,fr,fr',H,H',e,hx=>by
  simp only[ex]at hx
  cases ha:ex cx h ro fn nt x fr H with
  | none=>rw[ha]at hx;cases hx
  | some res =>
   obtain⟨e1,fr1,H1⟩:=res
   rw[ha]at hx
   have h1:=ex_grow G x ha
   cases e1 with
   | normal=>simp only[blockR]at hx;cases hx;exact h1
   | exit id=>simp only[blockR]at hx;cases hx;exact h1
   | ret=>simp only[blockR]at hx;cases hx;exact h1
 | .loop x,fr,fr',H,H',e,hx=>by simp only[ex]at hx;exact G.loop hx
 | .rangeFunc f ps assign body,fr,fr',H,H',e,hx=>by
  simp only[ex]at hx
  unfold ranged at hx
  split at hx
  ·unfold endLoop at hx
   split at hx
   ·rename_i v H1 hc
    have:=G.call hc
    simp at this
    split at hx
    ·split at hx
     ·cases hx
     ·cases hx;simp;omega
    ·cases hx
   ·cases hx
  ·cases hx
 | .exit id,fr,fr',H,H',e,hx=>by simp only[ex]at hx;cases hx;exact Nat.le_refl _
 | .ret,fr,fr',H,H',e,hx=>by simp only[ex]at hx;cases hx;exact Nat.le_refl _
 | .scope x,fr,fr',H,H',e,hx=>by simp only[ex]at hx;exact ex_grow G x hx
 | .goto _,fr,fr',H,H',e,hx=>by simp only[ex]at hx;cases hx
 | .refuse _,fr,fr',H,H',e,hx=>by simp only[ex]at hx;cases hx
theorem loopB_grow{cx:Cx}{h:Hd}(G:Grow h){ro nt:Nat}{fn:FuncId}{c:Code}{fr fr':PT}{H H':Hp}{e:Ex}(hx:loopB cx h ro fn nt c fr H=some (e,fr',H')):H.length≤H'.length:=by
 unfold loopB at hx
 cases ha:ex cx h ro fn nt c fr H with
 | none=>rw[ha]at hx;cases hx
 | some res =>
  obtain⟨e1,fr1,H1⟩:=res
  rw[ha]at hx
  have h1:=ex_grow G c ha
  cases e1 with
  | normal =>
   simp only[thenR,trimK,trimmed]at hx
   split at hx
   ·exact Nat.le_trans h1 (G.loop hx)
   split at hx
   ·exact Nat.le_trans h1 (G.loop hx)
   ·have:=G.loop hx
    simp at this
    omega
  | exit id=>simp only[thenR]at hx;cases hx;exact h1
  | ret=>simp only[thenR]at hx;cases hx;exact h1
theorem resAll_heap{cx:Cx}{fr:PT}{H H':Hp}{rs:List ResultVar}{v:AV}(h:resAll cx fr H rs=some (v,H')):H'=H:=by
 unfold resAll at h
 split at h
 ·rename_i r
  cases h1:resOne cx fr H r with
  | none=>rw[h1]at h;cases h
  | some x=>rw[h1]at h;cases h;rfl
 ·cases h1:rs.mapM (resOne cx fr H) with
  | none=>rw[h1]at h;cases h
  | some x=>rw[h1]at h;cases h;rfl
theorem callB_grow{cx:Cx}{h:Hd}(G:Grow h){ro:Nat}{f:FuncId}{args:List AV}{H H':Hp}{v:AV}(hx:callB cx h ro f args H=some (v,H')):H.length≤H'.length:=by
 unfold callB at hx
 cases hf:cx.fns f with
 | none=>rw[hf]at hx;cases hx
 | some fn =>
  rw[hf]at hx
  simp only[funced]at hx
  cases hb:fn.body with
  | none=>rw[hb]at hx;cases hx
  | some c =>
   rw[hb]at hx
   simp only[bodied]at hx
   split at hx
   ·unfold returned at hx
    split at hx
    ·cases hx
    ·rename_i e fr1 H1 _ he
     rw[resAll_heap hx]
     exact ex_grow G c he
    ·cases hx
   ·cases hx
theorem lvl_grow(cx:Cx):∀k,Grow (lvl cx k)
 | 0=>grow_none
 | k+1=>⟨fun h=>callB_grow (lvl_grow cx k) h,fun h=>loopB_grow (lvl_grow cx k) h,fun h=>ex_grow (lvl_grow cx k) _ h⟩
variable {P:Program}
section
variable {cx:Cx} {h:Hd} {ro nt:Nat} {fn:FuncId} {ops:Array Oper} {nm:Nat→Nat}
theorem run_fst:∀(l:List Nat) {fr fr':PT} {H H':Hp} {fs:List (Nat×Fp)},run cx h ro fn nt ops (fun _ i=>nm i) l fr H=some (fs,fr',H')→fs.map (·.1)=l
 | [],fr,fr',H,H',fs,hr=>by simp only[run]at hr;cases hr;rfl
 | i::l,fr,fr',H,H',fs,hr=>by
  obtain⟨f,fr1,H1,fs1,h1,h2,rfl⟩:=run_cons hr
  simp only[List.map_cons,run_fst l h2]
def Bound(cx:Cx)(fn:FuncId)(ops:Array Oper)(nm:Nat→Nat)(H:Hp):Prop:=∀(i:Nat)(o:Oper),ops[i]?=some o→isAlloc cx fn o=true→nm i<H.length
theorem front(G:Grow h){i:Nat}{l2:List Nat}:∀(l1:List Nat) {fr fr':PT} {H H':Hp} {fs:List (Nat×Fp)},Bound cx fn ops nm H→run cx h ro fn nt ops (fun _ i=>nm i) (l1++i::l2) fr H=some (fs,fr',H')→
  (∀f a b,fs=a++(i,f)::b→a.length=l1.length→∀p∈a,p.2.apart f=true)→
  ∃f fr1 H1 a b,step cx h ro fn nt ops (nm i) fr H ops[i]?=some (f,fr1,H1)∧run cx h ro fn nt ops (fun _ i=>nm i) (l1++l2) fr1 H1=some (a++b,fr',H')∧fs=a++(i,f)::b∧a.length=l1.length
 | [],fr,fr',H,H',fs,hB,hr,hap=>by
  obtain⟨f,fr1,H1,fs1,h1,h2,rfl⟩:=run_cons hr
  exact⟨f,fr1,H1,[],fs1,h1,h2,rfl,rfl⟩
 | j::l1,fr,fr',H,H',fs,hB,hr,hap=>by
  obtain⟨g,fr1,H1,fs1,h1,h2,rfl⟩:=run_cons hr
  have hB1:Bound cx fn ops nm H1:=fun i o ho ha=>Nat.lt_of_lt_of_le (hB i o ho ha) (step_grow G h1)
  obtain⟨f,fr2,H2,a,b,k1,k2,k3,k4⟩:=front G l1 hB1 h2 fun f a b e hl p hp=>hap f ((j,g)::a) b (by rw[e];rfl) (by simp[hl]) p (by simp[hp])
  have hgf:=hap f ((j,g)::a) b (by rw[k3];rfl) (by simp[k4]) (j,g) (by simp)
  obtain⟨fr3,H3,s1,s2⟩:=swap h1 k1 hgf (fun o ho ha=>hB j o ho ha) (fun o ho ha=>hB1 i o ho ha)
  refine⟨f,fr3,H3,(j,g)::a,b,s1,?_,by rw[k3];rfl,by simp[k4]⟩
  simp only[List.cons_append,run,s2,k2,cons1]
def Closed(ops:Array Oper)(listed:Array Bool):Prop:=∀(i:Nat)(o:Oper),listed[i]?=some true→ops[i]?=some o→∀e∈o.after.toList,Region.binds .any e=true→listed[e.on]?=some true
theorem bits_one(acc:List Nat)(j:Nat):∀(l:List Edge)(s:Nat),(l.foldl (fun s e=>if Region.binds .any e then s ||| 2 ^ e.on ||| acc.getD e.on 0 else s) s).testBit j=true→
  s.testBit j=true∨∃e∈l,Region.binds .any e=true∧(e.on=j∨(acc.getD e.on 0).testBit j=true)
 | [],s,hb=>.inl hb
 | e::l,s,hb=>by
  rw[List.foldl_cons]at hb
  rcases bits_one acc j l _ hb with h1 | ⟨e',h1,h2⟩
  ·split at h1
   ·rename_i hbd
    simp only[Nat.testBit_or,Nat.testBit_two_pow,Bool.or_eq_true,decide_eq_true_eq]at h1
    rcases h1 with(h1 | h1) | h1
    ·exact .inl h1
    ·exact .inr ⟨e,by simp,hbd,.inl h1⟩
    ·exact .inr ⟨e,by simp,hbd,.inr h1⟩
   ·exact .inl h1
  ·exact .inr ⟨e',by simp[h1],h2⟩
def GoodB(pre:List Oper)(acc:List Nat):Prop:=acc.length=pre.length∧∀i j,(acc.getD i 0).testBit j=true→
 ∃o,pre[i]?=some o∧∃e∈o.after.toList,Region.binds .any e=true∧(e.on=j∨(e.on<i∧(acc.getD e.on 0).testBit j=true))
theorem goodB:∀(os pre:List Oper)(acc:List Nat),GoodB pre acc→GoodB (pre++os) (os.foldl (fun acc o=>acc++[o.after.toList.foldl (fun s e=>if Region.binds .any e then s ||| 2 ^ e.on ||| acc.getD e.on 0 else s) 0]) acc)
 | [],pre,acc,hg=>by simpa using hg
 | o::os,pre,acc,hg=>by
  rw[List.foldl_cons,List.append_cons]
  refine goodB os (pre++[o]) _ ⟨by simp[hg.1],fun i j hb=>?_⟩
  have hlen:=hg.1
  have hout:∀k,acc.length≤k→(acc.getD k 0).testBit j=false:=fun k hk=>by
   rw[List.getD_eq_getElem?_getD,List.getElem?_eq_none hk];simp
  have hkeep:∀(x k:Nat),(acc.getD k 0).testBit j=true→k<acc.length∧((acc++[x]).getD k 0).testBit j=true:=fun x k hk=>by
   have hlt:k<acc.length:=by
    apply Nat.lt_of_not_le
    intro hle
    rw[hout k hle]at hk;cases hk
   refine⟨hlt,?_⟩
   rw[List.getD_eq_getElem?_getD,List.getElem?_append_left hlt,←List.getD_eq_getElem?_getD];exact hk
  by_cases hi:i<acc.length
  ·rw[List.getD_eq_getElem?_getD,List.getElem?_append_left hi,←List.getD_eq_getElem?_getD]at hb
   obtain⟨o',h1,e,h2,h3,h4⟩:=hg.2 i j hb
   refine⟨o',by rw[List.getElem?_append_left (by omega)];exact h1,e,h2,h3,?_⟩
   rcases h4 with h4 | ⟨h4,h5⟩
   ·exact .inl h4
   ·exact .inr ⟨h4,(hkeep _ _ h5).2⟩
  ·by_cases hie:i=acc.length
   ·subst hie
    rw[List.getD_eq_getElem?_getD,List.getElem?_concat_length,Option.getD_some]at hb
    rcases bits_one acc j _ _ hb with h1 | ⟨e,h1,h2,h3⟩
    ·simp at h1
    ·refine⟨o,by rw[hlen];simp,e,h1,h2,?_⟩
     rcases h3 with h3 | h3
     ·exact .inl h3
     ·exact .inr (hkeep _ _ h3)
   ·rw[List.getD_eq_getElem?_getD,List.getElem?_eq_none (by simp;omega)]at hb
    simp at hb
theorem befores_good(ops:Array Oper):GoodB ops.toList (befores ops):=by
 have:=goodB ops.toList [] [] ⟨rfl,fun i j hb=>by simp at hb⟩
 simpa [befores] using this
theorem listed_of_bit{listed:Array Bool}(hc:Closed ops listed){j:Nat}:∀(n i:Nat),i<n→∀o,ops[i]?=some o→(∀e∈o.after.toList,Region.binds .any e=true→listed[e.on]?=some true)→
  ((befores ops).getD i 0).testBit j=true→listed[j]?=some true
 | 0,i,hi,o,ho,ha,hb=>by omega
 | n+1,i,hi,o,ho,ha,hb=>by
  obtain⟨o',h1,e,h2,h3,h4⟩:=(befores_good ops).2 i j hb
  rw[Array.getElem?_toList,ho]at h1
  cases h1
  have h5:=ha e h2 h3
  rcases h4 with rfl | ⟨h4,h6⟩
  ·exact h5
  ·obtain⟨o2,k1,_⟩:=(befores_good ops).2 e.on j h6
   rw[Array.getElem?_toList]at k1
   exact listed_of_bit hc n e.on (by omega) o2 k1 (hc e.on o2 h5 k1) h6
theorem apartAll_mid{bs:List Nat}{i:Nat}{f:Fp}:∀ {a b:List (Nat×Fp)},apartAll bs (a++(i,f)::b)=true→
  (∀p∈a,(bs.getD i 0).testBit p.1=true∨p.2.apart f=true)∧apartAll bs (a++b)=true
 | [],b,hap=>by
  simp only[List.nil_append,apartAll,Bool.and_eq_true]at hap
  exact⟨fun p hp=>(by cases hp),hap.2⟩
 | (j,g)::a,b,hap=>by
  simp only[List.cons_append,apartAll,Bool.and_eq_true,List.all_eq_true]at hap
  obtain⟨h1,h2⟩:=hap
  obtain⟨h3,h4⟩:=apartAll_mid h2
  refine⟨fun p hp=>?_,?_⟩
  ·rcases List.mem_cons.1 hp with rfl | hp
   ·have:=h1 (i,f) (by simp)
    simpa using this
   ·exact h3 p hp
  ·simp only[List.cons_append,apartAll,Bool.and_eq_true,List.all_eq_true]
   refine⟨fun p hp=>h1 p ?_,h4⟩
   rcases List.mem_append.1 hp with hp | hp
   ·exact List.mem_append.2 (.inl hp)
   ·exact List.mem_append.2 (.inr (by simp[hp]))
theorem exists_min:∀(l:List Nat),l≠[]→∃m∈l,∀x∈l,m≤x
 | [],hn=>absurd rfl hn
 | [x],_=>⟨x,by simp,fun y hy=>by simp at hy;omega⟩
 | x::y::l,_=>by
  obtain⟨m,h1,h2⟩:=exists_min (y::l) (by simp)
  by_cases hx:x≤m
  ·exact⟨x,by simp,fun z hz=>by
    rcases List.mem_cons.1 hz with rfl | hz
    ·exact Nat.le_refl _
    ·exact Nat.le_trans hx (h2 z hz)⟩
  ·exact⟨m,by simp only[List.mem_cons]at h1 ⊢;exact .inr h1,fun z hz=>by
    rcases List.mem_cons.1 hz with rfl | hz
    ·omega
    ·exact h2 z hz⟩
theorem ready_spec{listed:Array Bool}{i:Nat}(hs:listed.size=ops.size):i∈Region.ready .any ops listed ↔
  i<ops.size∧listed[i]?=some false∧∀o,ops[i]?=some o→∀e∈o.after.toList,Region.binds .any e=true→listed[e.on]?=some true:=by
 have hgd:∀k,listed.getD k false=true↔listed[k]?=some true:=fun k=>by
  rw[Array.getD_eq_getD_getElem?]
  cases listed[k]? with
  | none=>simp
  | some b=>simp
 have hgt:∀k,k<listed.size→((!listed.getD k true)=true↔listed[k]?=some false):=fun k hk=>by
  rw[Array.getD_eq_getD_getElem?]
  rw[Array.getElem?_eq_getElem hk]
  simp
 unfold Region.ready
 rw[List.mem_filter,List.mem_range,Bool.and_eq_true]
 constructor
 ·rintro ⟨h1,h2,h3⟩
  refine⟨h1,(hgt i (by omega)).1 h2,fun o ho e he hb=>?_⟩
  rw[ho]at h3
  simp only[Option.map_some,Option.getD_some,Array.all_eq_true']at h3
  have:=h3 e (by simpa using he)
  rw[hb]at this
  simp only[Bool.not_true,Bool.false_or]at this
  exact(hgd _).1 this
 ·rintro ⟨h1,h2,h3⟩
  refine⟨h1,(hgt i (by omega)).2 h2,?_⟩
  rw[Array.getElem?_eq_getElem h1]
  simp only[Option.map_some,Option.getD_some,Array.all_eq_true']
  intro e he
  cases hb:Region.binds .any e with
  | false=>simp
  | true =>
   simp only[Bool.not_true,Bool.false_or]
   exact(hgd _).2 (h3 _ (Array.getElem?_eq_getElem h1) e (by simpa using he) hb)
theorem lin(G:Grow h)(hfw:forward ops=true):∀(n t:Nat)(listed:Array Bool)(L:List Nat) {fr fr':PT} {H H':Hp} {fs:List (Nat×Fp)},L.length=n→listed.size=ops.size→(∀i,i∈L↔listed[i]?=some false)→L.Nodup→Closed ops listed→Bound cx fn ops nm H→
  run cx h ro fn nt ops (fun _ i=>nm i) L fr H=some (fs,fr',H')→apartAll (befores ops) fs=true→
  ∃fs',run cx h ro fn nt ops (fun _ i=>nm i) (Region.linearise.go .any ops n t listed []) fr H=some (fs',fr',H')
 | 0,t,listed,L,fr,fr',H,H',fs,hl,hs,hL,hnd,hc,hB,hr,hap=>by
  have:L=[]:=List.length_eq_zero_iff.1 hl
  subst this
  exact⟨fs,hr⟩
 | n+1,t,listed,L,fr,fr',H,H',fs,hl,hs,hL,hnd,hc,hB,hr,hap=>by
  have hlt:∀i,i∈L→i<ops.size:=fun i hi=>by
   have:=(Array.getElem?_eq_some_iff.1 ((hL i).1 hi)).1
   omega
  have hne:Region.ready .any ops listed≠[]:=by
   have hLn:L≠[]:=by intro e;rw[e]at hl;cases hl
   obtain⟨m,h1,h2⟩:=exists_min L hLn
   intro hnil
   have:m∈Region.ready .any ops listed:=by
    rw[ready_spec hs]
    refine⟨hlt m h1,(hL m).1 h1,fun o ho e he hb=>?_⟩
    have hlt':e.on<m:=by
     unfold forward at hfw
     rw[List.all_eq_true]at hfw
     have:=hfw (o,m) (by
      rw[List.mem_iff_getElem?]
      exact⟨m,by rw[List.getElem?_zipIdx,Array.getElem?_toList,ho];simp⟩)
     simp only[List.all_eq_true]at this
     have:=this e he
     rw[hb]at this
     simpa using this
    have hnm:e.on∉L:=fun hin=>by have:=h2 _ hin;omega
    have hsz:e.on<listed.size:=by have:=hlt m h1;omega
    rw[Array.getElem?_eq_getElem hsz]
    cases hv:listed[e.on] with
    | true=>rfl
    | false=>exact absurd ((hL e.on).2 (by rw[Array.getElem?_eq_getElem hsz,hv])) hnm
   rw[hnil]at this
   cases this
  simp only[Region.linearise.go]
  change ∃fs',run cx h ro fn nt ops (fun _ i=>nm i) (match (Region.ready .any ops listed)[t % (Region.ready .any ops listed).length]? with
   | some i=>Region.linearise.go .any ops n (t / (Region.ready .any ops listed).length) (listed.setIfInBounds i true) [i]
   | none=>[].reverse) fr H=some (fs',fr',H')
  cases hi:(Region.ready .any ops listed)[t % (Region.ready .any ops listed).length]? with
  | none =>
   exfalso
   have hpos:0<(Region.ready .any ops listed).length:=List.length_pos_iff.2 hne
   have:=Nat.mod_lt t hpos
   rw[List.getElem?_eq_none_iff]at hi
   omega
  | some i =>
   simp only[]
   rw[linearise_go_acc,List.reverse_singleton,List.singleton_append]
   have hmem:=List.mem_of_getElem? hi
   rw[ready_spec hs]at hmem
   obtain⟨r1,r2,r3⟩:=hmem
   have hiL:=(hL i).2 r2
   obtain⟨l1,l2,rfl⟩:=List.append_of_mem hiL
   have hfst:=run_fst _ hr
   obtain⟨f,fr1,H1,a,b,k1,k2,k3,k4⟩:=front G l1 hB hr (fun f a b e hlen p hp=>by
    rw[e]at hap hfst
    rcases (apartAll_mid hap).1 p hp with hbit | hok
    ·exfalso
     have hj:=listed_of_bit hc (i+1) i (by omega) _ (Array.getElem?_eq_getElem r1) (r3 _ (Array.getElem?_eq_getElem r1)) hbit
     have hpL:p.1∈l1++i::l2:=by
      rw[←hfst]
      exact List.mem_map.2 ⟨p,List.mem_append.2 (.inl hp),rfl⟩
     rw[(hL p.1).1 hpL]at hj
     cases hj
    ·exact hok)
   have hnd2:(l1++l2).Nodup∧i∉l1++l2:=by
    rw[List.nodup_append]at hnd ⊢
    obtain⟨n1,n2,n3⟩:=hnd
    rw[List.nodup_cons]at n2
    refine⟨⟨n1,n2.2,fun a ha b hb=>n3 a ha b (by simp[hb])⟩,fun hin=>?_⟩
    rcases List.mem_append.1 hin with hin | hin
    ·exact n3 i hin i (by simp) rfl
    ·exact n2.1 hin
   have hset:∀k,(listed.setIfInBounds i true)[k]?=if i=k then some true else listed[k]?:=fun k=>by
    rw[Array.getElem?_setIfInBounds]
    split
    ·rename_i e;subst e;rw[if_pos (by omega)]
    ·rfl
   obtain⟨fs',hfin⟩:=lin G hfw n (t / (Region.ready .any ops listed).length) (listed.setIfInBounds i true) (l1++l2) (fs:=a++b) (by simp at hl ⊢;omega) (by simpa using hs) (fun k=>by
     rw[hset k]
     constructor
     ·intro hk
      rw[if_neg (fun (e:i=k)=>hnd2.2 (e ▸ hk))]
      refine(hL k).1 ?_
      rcases List.mem_append.1 hk with hk | hk
      ·exact List.mem_append.2 (.inl hk)
      ·exact List.mem_append.2 (.inr (by simp[hk]))
     ·intro hk
      split at hk
      ·cases hk
      ·rename_i hne'
       have:=(hL k).2 hk
       rcases List.mem_append.1 this with h' | h'
       ·exact List.mem_append.2 (.inl h')
       ·rcases List.mem_cons.1 h' with h' | h'
        ·exact absurd h'.symm hne'
        ·exact List.mem_append.2 (.inr h')) hnd2.1 (fun k o hk ho e he hb=>by
     rw[hset]at hk ⊢
     split
     ·rfl
     ·split at hk
      ·rename_i hke;subst hke;exact r3 o ho e he hb
      ·exact hc k o hk ho e he hb) (fun j o ho ha=>Nat.lt_of_lt_of_le (hB j o ho ha) (step_grow G k1)) k2 (by rw[k3]at hap;exact(apartAll_mid hap).2)
   exact⟨(i,f)::fs',by simp only[run,k1,hfin,cons1]⟩
end
theorem reorders{cx:Cx}{h:Hd}(hm:P.follows .mixedOrders=true)(G:Grow h):Reorders P cx h :=
 ⟨hm,fun {ro fn nt ops nm fr fr' H H' fs} hfw hB hr hap t=>by
  unfold Region.linearise
  refine lin G hfw ops.size t (Array.replicate ops.size false) (List.range ops.size) (by simp) (by simp) (fun i=>?_) List.nodup_range (fun i o hi=>?_) hB hr hap
  ·rw[List.mem_range,Array.getElem?_replicate]
   split
   ·rename_i h;simp[h]
   ·rename_i h;simp[h]
  ·rw[Array.getElem?_replicate]at hi
   split at hi<;>cases hi⟩
theorem lvl_sound{cx:Cx}(hT:TOk P cx.T)(hF:FOk P cx)(hm:P.follows .mixedOrders=true)(k:Nat):HdOk P k (lvl cx k) :=
 lvl_ok hT hF (fun k=>reorders hm (lvl_grow cx k)) k
open Go.RowKit (Below)
variable {P:Program}
def memImm(w:World):Imm:=fun B o=>w.cell? ⟨B,o,none⟩
def memGh(w:World):Gh:={ imm:=memImm w,mu:=noMu,ow:=fun B=>if B<w.heap.size then some .oth else none }
theorem MR.mem(w:World):MR (memGh w) 0 [] w:=by
 refine⟨Nat.le_refl _,fun _ _ _ h=>h,fun _ _=>rfl,?_,?_,?_,?_,?_,?_⟩
 ·intro b b' B sz sz' hb;cases hb
 ·intro b B sz hb;cases hb
 ·intro B l hl
  simp only[memGh]at hl
  split at hl
  ·assumption
  ·cases hl
 ·intro b B sz _ hb;cases hb
 ·intro b B sz _ hb;cases hb
 ·intro b blk hb;simp at hb
theorem call_sound{cx:Cx}(hT:TOk P cx.T)(hF:FOk P cx)(hm:P.follows .mixedOrders=true){k:Nat}{f:FuncId}{args:List AV}{cargs:Array Value}{w:World}{b:Bool}{H':Hp}
  (ha:VRs (memImm w) noMu args cargs.toList) (h:(lvl cx k).call 0 f args []=some (.lit (.bool b),H')):
  Calls P f cargs w fun e w'=>e=.returned (.bool b)∧Below w.heap.size w w':=by
 refine callsIn_wide.1 (CallsIn.mono (((lvl_sound hT hF hm k).call h).2 (MR.mem w) ha 0) fun e w' he=>?_)
 cases e with
 | returned c =>
  obtain⟨g',h1,h2,h3⟩:=he
  have hc:c=.bool b:=VR_lit ((SR_notOwn rfl).1 h3)
  subst hc
  refine⟨rfl,h2.out.os,h2.out.tape,h2.out.output,h2.size,fun B hB=>?_⟩
  exact(h2.prot B .oth (by simp[memGh,hB]) trivial).2.2
 | panicked _=>exact he.elim
 | outgrown=>exact he.elim
structure Le(h h':Hd):Prop where
 call:∀ {ro f args H r},h.call ro f args H=some r→h'.call ro f args H=some r
 loop:∀ {ro fn nt c fr H r},h.loop ro fn nt c fr H=some r→h'.loop ro fn nt c fr H=some r
 code:∀ {ro fn nt c fr H r},h.code ro fn nt c fr H=some r→h'.code ro fn nt c fr H=some r
theorem Le.refl(h:Hd):Le h h:=⟨id,id,id⟩
theorem Le.trans{a b c:Hd}(h:Le a b)(k:Le b c):Le a c:=⟨fun x=>k.call (h.call x),fun x=>k.loop (h.loop x),fun x=>k.code (h.code x)⟩
structure Chain(S:Nat→Hd)(D:Hd):Prop where
 up:∀k,Le (S k) (S (k+1))
 le:∀k,Le (S k) D
 call:∀ {ro f args H r},D.call ro f args H=some r→∃k,(S k).call ro f args H=some r
 loop:∀ {ro fn nt c fr H r},D.loop ro fn nt c fr H=some r→∃k,(S k).loop ro fn nt c fr H=some r
 code:∀ {ro fn nt c fr H r},D.code ro fn nt c fr H=some r→∃k,(S k).code ro fn nt c fr H=some r
theorem Chain.mono{S:Nat→Hd}{D:Hd}(C:Chain S D){k:Nat}:∀ {k':Nat},k≤k'→Le (S k) (S k')
 | 0,h=>by have:k=0:=by omega
           subst this;exact .refl _
 | k'+1,h=>by
  by_cases e:k=k'+1
  ·subst e;exact .refl _
  ·exact(C.mono (show k≤k' by omega)).trans (C.up k')
structure Cont(S:Nat→Hd)(D:Hd){α:Type}(X:Hd→Option α):Prop where
 up:∀ {k k' r},k≤k'→X (S k)=some r→X (S k')=some r
 lim:∀ {r},X D=some r→∃k,X (S k)=some r
 le:∀ {k r},X (S k)=some r→X D=some r
section
variable {S:Nat→Hd} {D:Hd} {α β:Type}
theorem Cont.const(x:Option α):Cont S D fun _=>x:=⟨fun _ h=>h,fun h=>⟨0,h⟩,fun h=>h⟩
theorem Cont.comp{F:Hd→Option α→Option β}{X:Hd→Option α}(hn:∀h,F h none=none)(hX:Cont S D X)(hF:∀a,Cont S D fun h=>F h (some a)):Cont S D fun h=>F h (X h):=by
 refine⟨fun {k k' r} hk h=>?_,fun {r} h=>?_,fun {k r} h=>?_⟩
 ·cases hx:X (S k) with
  | none=>rw[hx,hn]at h;cases h
  | some a=>rw[hx]at h;rw[hX.up hk hx];exact(hF a).up hk h
 ·cases hx:X D with
  | none=>rw[hx,hn]at h;cases h
  | some a =>
   rw[hx]at h
   obtain⟨k1,h1⟩:=hX.lim hx
   obtain⟨k2,h2⟩:=(hF a).lim h
   refine⟨max k1 k2,?_⟩
   rw[hX.up (Nat.le_max_left _ _) h1]
   exact(hF a).up (Nat.le_max_right _ _) h2
 ·cases hx:X (S k) with
  | none=>rw[hx,hn]at h;cases h
  | some a=>rw[hx]at h;rw[hX.le hx];exact(hF a).le h
theorem Cont.call(C:Chain S D){ro f args H}:Cont S D fun h=>h.call ro f args H:=⟨fun hk h=>(C.mono hk).call h,fun h=>C.call h,fun {k r} h=>(C.le k).call h⟩
theorem Cont.loop(C:Chain S D){ro fn nt c fr H}:Cont S D fun h=>h.loop ro fn nt c fr H:=⟨fun hk h=>(C.mono hk).loop h,fun h=>C.loop h,fun {k r} h=>(C.le k).loop h⟩
theorem Cont.code(C:Chain S D){ro fn nt c fr H}:Cont S D fun h=>h.code ro fn nt c fr H:=⟨fun hk h=>(C.mono hk).code h,fun h=>C.code h,fun {k r} h=>(C.le k).code h⟩
theorem cont_docall(C:Chain S D){ro:Nat}{g:FuncId}{args:List AV}{H:Hp}(w:Way):Cont S D fun h=>docall h ro g args H w:=by
 cases w with
 | pure=>exact Cont.comp (F:=fun _ x=>purely x 0 H) (fun _=>rfl) (Cont.call C) fun a=>.const _
 | quiet=>exact Cont.comp (F:=fun _ x=>purely x H.length H) (fun _=>rfl) (Cont.call C) fun a=>.const _
 | full=>exact Cont.call C
theorem cont_round(C:Chain S D){ro l:Nat}{args:List AV}{H:Hp}:Cont S D fun h=>round h ro l args H:=by
 simp only[round]
 split
 ·exact .const _
 ·split
  ·rename_i r _
   split
   ·refine Cont.comp (F:=fun h x=>bodyRound h ro l r x) (fun _=>rfl) (Cont.code C) fun a=>?_
    obtain⟨e,fr,H1⟩:=a
    cases e with
    | normal =>
     simp only[bodyRound]
     split
     ·split
      ·exact Cont.comp (F:=fun _ x=>endRound l x) (fun _=>rfl) (Cont.code C) fun a=>.const _
      ·exact .const _
     ·exact .const _
    | exit id=>exact .const none
    | ret=>exact .const none
   ·exact .const _
  ·exact .const _
theorem cont_step(C:Chain S D){cx:Cx}{ro nt nm:Nat}{fn:FuncId}{ops:Array Oper}{fr:PT}{H:Hp}(oo:Option Oper):Cont S D fun h=>step cx h ro fn nt ops nm fr H oo:=by
 cases oo with
 | none=>exact .const none
 | some o =>
  simp only[step]
  cases hw:wants ops fr o with
  | none=>exact .const none
  | some b =>
   cases b with
   | false=>exact .const _
   | true =>
    simp only[stepG,stepO]
    split
    ·rename_i f args _
     simp only[calls]
     split
     ·exact Cont.comp (F:=fun _ x=>stepped nt ops o fr _ _ _ x) (fun _=>rfl) (cont_docall C _) fun a=>.const _
     ·exact Cont.comp (F:=fun _ x=>stepped nt ops o fr _ _ _ x) (fun _=>rfl) (cont_round C) fun a=>.const _
     ·exact .const _
    ·exact .const _
theorem cont_run(C:Chain S D){cx:Cx}{ro nt:Nat}{fn:FuncId}{ops:Array Oper}{nm:Hp→Nat→Nat}:∀(l:List Nat) {fr:PT} {H:Hp},Cont S D fun h=>run cx h ro fn nt ops nm l fr H
 | [],fr,H=>.const _
 | i::l,fr,H=>by
  simp only[run]
  refine Cont.comp (F:=fun h x=>match x with | some (f,fr',H')=>cons1 i f (run cx h ro fn nt ops nm l fr' H') | none=>none) (fun _=>rfl) (cont_step C _) fun a=>?_
  obtain⟨f,fr1,H1⟩:=a
  exact Cont.comp (F:=fun _ x=>cons1 i f x) (fun _=>rfl) (cont_run C l) fun a=>.const _
theorem cont_region(C:Chain S D){cx:Cx}{ro nt:Nat}{fn:FuncId}{ops:Array Oper}{fr:PT}{H:Hp}(d:Bool):Cont S D fun h=>region cx h ro fn nt ops fr H d:=by
 cases d with
 | true =>
  simp only[region]
  split
  ·exact Cont.comp (F:=fun _ x=>ranAny (befores ops) x) (fun _=>rfl) (cont_run C _) fun a=>.const _
  ·exact .const _
 | false=>exact Cont.comp (F:=fun _ x=>ranOnly x) (fun _=>rfl) (cont_run C _) fun a=>.const _
theorem cont_ex(C:Chain S D){cx:Cx}{ro nt:Nat}{fn:FuncId}:∀(c:Code) {fr:PT} {H:Hp},Cont S D fun h=>ex cx h ro fn nt c fr H
 | .skip,fr,H=>.const _
 | .label _,fr,H=>.const _
 | .region id ops draw,fr,H=>by
  simp only[ex]
  exact Cont.comp (F:=fun _ x=>normR x) (fun _=>rfl) (cont_region C draw) fun a=>.const _
 | .seq x y,fr,H=>by
  simp only[ex]
  refine Cont.comp (F:=fun h r=>thenR (ex cx h ro fn nt y) r) (fun _=>rfl) (cont_ex C x) fun a=>?_
  obtain⟨e,fr1,H1⟩:=a
  cases e with
  | normal=>exact cont_ex C y
  | exit id=>exact .const _
  | ret=>exact .const _
 | .cond c x y,fr,H=>by
  simp only[ex,condR]
  split
  ·exact cont_ex C x
  ·exact cont_ex C y
  ·exact .const _
 | .block id x,fr,H=>by
  simp only[ex]
  exact Cont.comp (F:=fun _ r=>blockR id r) (fun _=>rfl) (cont_ex C x) fun a=>.const _
 | .loop x,fr,H=>by simp only[ex];exact Cont.loop C
 | .rangeFunc f ps assign body,fr,H=>by
  simp only[ex,ranged]
  split
  ·exact Cont.comp (F:=fun _ r=>endLoop H.length fr r) (fun _=>rfl) (Cont.call C) fun a=>.const _
  ·exact .const _
 | .exit id,fr,H=>.const _
 | .scope x,fr,H=>by simp only[ex];exact cont_ex C x
 | .ret,fr,H=>.const _
 | .goto _,fr,H=>.const _
 | .refuse _,fr,H=>.const _
theorem cont_loopB(C:Chain S D){cx:Cx}{ro nt:Nat}{fn:FuncId}{c:Code}{fr:PT}{H:Hp}:Cont S D fun h=>loopB cx h ro fn nt c fr H:=by
 simp only[loopB]
 refine Cont.comp (F:=fun h r=>thenR (trimK (cx.pol.keep fn) (h.loop ro fn nt c) H.length) r) (fun _=>rfl) (cont_ex C c) fun a=>?_
 obtain⟨e,fr1,H1⟩:=a
 cases e with
 | normal =>
  simp only[thenR,trimK,trimmed]
  split
  ·exact Cont.loop C
  ·split
   ·exact Cont.loop C
   ·exact Cont.loop C
 | exit id=>exact .const _
 | ret=>exact .const _
theorem cont_callB(C:Chain S D){cx:Cx}{ro:Nat}{f:FuncId}{args:List AV}{H:Hp}:Cont S D fun h=>callB cx h ro f args H:=by
 simp only[callB]
 cases cx.fns f with
 | none=>exact .const none
 | some fn =>
  simp only[funced]
  cases fn.body with
  | none=>exact .const none
  | some c =>
   simp only[bodied]
   split
   ·exact Cont.comp (F:=fun _ r=>returned cx fn.results.toList r) (fun _=>rfl) (cont_ex C c) fun a=>.const _
   ·exact .const _
end
theorem chain_two{h h':Hd}(l:Le h h'):Chain (fun k=>if k=0 then h else h') h':=by
 refine⟨fun k=>?_,fun k=>?_,fun hr=>⟨1,by simpa using hr⟩,fun hr=>⟨1,by simpa using hr⟩,fun hr=>⟨1,by simpa using hr⟩⟩
 ·by_cases e:k=0
  ·simp[e,l]
  ·simp[e,Le.refl]
 ·by_cases e:k=0
  ·simp[e,l]
  ·simp[e,Le.refl]
theorem lvl_up(cx:Cx):∀k,Le (lvl cx k) (lvl cx (k+1))
 | 0=>⟨fun h=>(by cases h),fun h=>(by cases h),fun h=>by cases h⟩
 | k+1=>by
  have C:=chain_two (lvl_up cx k)
  exact⟨fun h=>(cont_callB C).le (k:=0) (by exact h),fun h=>(cont_loopB C).le (k:=0) (by exact h),fun h=>(cont_ex C _).le (k:=0) (by exact h)⟩
theorem lvl_mono(cx:Cx){k:Nat}:∀ {k':Nat},k≤k'→Le (lvl cx k) (lvl cx k')
 | 0,h=>by have:k=0:=by omega
           subst this;exact .refl _
 | k'+1,h=>by
  by_cases e:k=k'+1
  ·subst e;exact .refl _
  ·exact(lvl_mono cx (show k≤k' by omega)).trans (lvl_up cx k')
open Classical in
noncomputable def limit{α:Type}(X:Nat→Option α):Option α:=if h:∃k r,X k=some r then some h.choose_spec.choose else none
theorem limit_spec{α:Type}{X:Nat→Option α}(hm:∀k k' r,k≤k'→X k=some r→X k'=some r){r:α}:limit X=some r↔∃k,X k=some r:=by
 unfold limit
 split
 ·rename_i h
  have h1:=h.choose_spec.choose_spec
  constructor
  ·intro e;cases e;exact⟨_,h1⟩
  ·rintro ⟨k,hk⟩
   have a:=hm _ (max k h.choose) _ (Nat.le_max_right _ _) h1
   have b:=hm _ (max k h.choose) _ (Nat.le_max_left _ _) hk
   rw[a]at b;exact b
 ·rename_i h
  constructor
  ·intro e;cases e
  ·rintro ⟨k,hk⟩;exact absurd ⟨k,_,hk⟩ h
noncomputable def den(cx:Cx):Hd where
 call ro f args H:=limit fun k=>(lvl cx k).call ro f args H
 loop ro fn nt c fr H:=limit fun k=>(lvl cx k).loop ro fn nt c fr H
 code ro fn nt c fr H:=limit fun k=>(lvl cx k).code ro fn nt c fr H
theorem den_call{cx:Cx}{ro f args H r}:(den cx).call ro f args H=some r↔∃k,(lvl cx k).call ro f args H=some r:=limit_spec fun k k' r hk h=>(lvl_mono cx hk).call h
theorem den_loop{cx:Cx}{ro fn nt c fr H r}:(den cx).loop ro fn nt c fr H=some r↔∃k,(lvl cx k).loop ro fn nt c fr H=some r:=limit_spec fun k k' r hk h=>(lvl_mono cx hk).loop h
theorem den_code{cx:Cx}{ro fn nt c fr H r}:(den cx).code ro fn nt c fr H=some r↔∃k,(lvl cx k).code ro fn nt c fr H=some r:=limit_spec fun k k' r hk h=>(lvl_mono cx hk).code h
theorem den_chain(cx:Cx):Chain (lvl cx) (den cx) :=
 ⟨lvl_up cx,fun k=>⟨fun h=>den_call.2 ⟨k,h⟩,fun h=>den_loop.2 ⟨k,h⟩,fun h=>den_code.2 ⟨k,h⟩⟩,fun h=>den_call.1 h,fun h=>den_loop.1 h,fun h=>den_code.1 h⟩
theorem opt_eq{α:Type}{x y:Option α}(h:∀r,x=some r↔y=some r):x=y:=by
 cases x with
 | none=>cases y with
  | none=>rfl
  | some b=>have:=(h b).2 rfl;cases this
 | some a=>exact((h a).1 rfl).symm
theorem den_call_eq(cx:Cx)(ro:Nat)(f:FuncId)(args:List AV)(H:Hp):(den cx).call ro f args H=callB cx (den cx) ro f args H:=by
 refine opt_eq fun r=>⟨fun h=>?_,fun h=>?_⟩
 ·obtain⟨k,hk⟩:=den_call.1 h
  cases k with
  | zero=>cases hk
  | succ k=>exact(cont_callB (den_chain cx)).le (k:=k) hk
 ·obtain⟨k,hk⟩:=(cont_callB (den_chain cx)).lim h
  exact den_call.2 ⟨k+1,hk⟩
theorem den_loop_eq(cx:Cx)(ro:Nat)(fn:FuncId)(nt:Nat)(c:Code)(fr:PT)(H:Hp):(den cx).loop ro fn nt c fr H=loopB cx (den cx) ro fn nt c fr H:=by
 refine opt_eq fun r=>⟨fun h=>?_,fun h=>?_⟩
 ·obtain⟨k,hk⟩:=den_loop.1 h
  cases k with
  | zero=>cases hk
  | succ k=>exact(cont_loopB (den_chain cx)).le (k:=k) hk
 ·obtain⟨k,hk⟩:=(cont_loopB (den_chain cx)).lim h
  exact den_loop.2 ⟨k+1,hk⟩
theorem den_code_eq(cx:Cx)(ro:Nat)(fn:FuncId)(nt:Nat)(c:Code)(fr:PT)(H:Hp):(den cx).code ro fn nt c fr H=ex cx (den cx) ro fn nt c fr H:=by
 refine opt_eq fun r=>⟨fun h=>?_,fun h=>?_⟩
 ·obtain⟨k,hk⟩:=den_code.1 h
  cases k with
  | zero=>cases hk
  | succ k=>exact(cont_ex (den_chain cx) c).le (k:=k) hk
 ·obtain⟨k,hk⟩:=(cont_ex (den_chain cx) c).lim h
  exact den_code.2 ⟨k+1,hk⟩
open Go.RowKit (Below)
variable {P:Program}
def litEq:Value→AV→Bool
 | .int k n,.lit (.int k' n')=>decide (k=k')&&decide (n=n')
 | .bool b,.lit (.bool b')=>b == b'
 | .slice none l c,.lit (.slice none l' c')=>Nat.beq l l'&&Nat.beq c c'
 | .pointer none,.lit (.pointer none)=>true
 | _,_=>false
def vecOf:AV→Option (Nat×Kd×List AV)
 | .vec sz k els=>some (sz,k,els)
 | _=>none
def cellsA:AV→Option (List AV)
 | .agg l=>some l
 | _=>none
def tupA:AV→Option (List AV)
 | .tup l=>some l
 | _=>none
def adEq:AV→AV→Bool
 | .ptr b i j,.ptr b' i' j'=>Nat.beq b b'&&Nat.beq i i'&&Nat.beq j j'
 | .sl b z i l c,.sl b' z' i' l' c'=>Nat.beq b b'&&Nat.beq z z'&&Nat.beq i i'&&Nat.beq l l'&&Nat.beq c c'
 | .isl b z i l c,.isl b' z' i' l' c'=>Nat.beq b b'&&Nat.beq z z'&&Nat.beq i i'&&Nat.beq l l'&&Nat.beq c c'
 | .mp b,.mp b'=>Nat.beq b b'
 | _,_=>false
mutual
def avEq:AV→AV→Bool
 | .lit v,b=>litEq v b
 | .vec sz k els,b=>match vecOf b with
  | some (sz',k',els')=>sz == sz'&&decide (k=k')&&avEqs els els'
  | none=>false
 | .agg l,b=>match cellsA b with
  | some l'=>avEqs l l'
  | none=>false
 | .tup l,b=>match tupA b with
  | some l'=>avEqs l l'
  | none=>false
 | a,b=>adEq a b
def avEqs:List AV→List AV→Bool
 | [],bs=>bs.isEmpty
 | a::as,bs=>match bs with
  | []=>false
  | b::bs=>avEq a b&&avEqs as bs
end
def bEq:ABlock→ABlock→Bool
 | .cells sz e els,.cells sz' e' els'=>Nat.beq sz sz'&&Nat.beq e e'&&avEqs els els'
 | .mapo [],.mapo []=>true
 | .gone,.gone=>true
 | _,_=>false
def hEq:Hp→Hp→Bool
 | [],[]=>true
 | a::as,b::bs=>bEq a b&&hEq as bs
 | _,_=>false
structure Row where
 f:FuncId
 args:List AV
 H:Hp
 v:AV
def Row.ok(P:Program)(r:Row):Prop:=∃k h,HdOk P k h∧docall h 0 r.f r.args r.H .quiet=some (r.v,r.H)
def look(ro:Nat)(f:FuncId)(args:List AV)(H:Hp):List Row→Option AV
 | []=>none
 | r::rs=>if Nat.beq r.f f&&avEqs r.args args&&hEq r.H H&&Nat.beq ro H.length then some r.v else look ro f args H rs
def known(rs:List Row)(r:Nat→FuncId→List AV→Hp→Option (AV×Hp))(ro:Nat)(f:FuncId)(args:List AV)(H:Hp):Option (AV×Hp) :=
 match look ro f args H rs with
 | some v=>some (v,H)
 | none=>r ro f args H
def isTrue:Option (AV×Hp)→Bool
 | some (.lit (.bool true),_)=>true
 | _=>false
theorem isTrue_spec{x:Option (AV×Hp)}(h:isTrue x=true):∃H,x=some (.lit (.bool true),H):=by
 unfold isTrue at h
 split at h
 ·exact⟨_,rfl⟩
 ·cases h
end Go.Abs
