/- Maps: lookups, writes. -/
import Derived.Test.YtiinagmombigpaaEvC
import Derived.Scope
set_option linter.unnecessarySimpa false
set_option linter.unusedSimpArgs false
set_option linter.unusedVariables false
namespace Go.Abs
variable {P:Program} {T:TypeId→Option TI} {imm:Imm} {mu:Mu}
theorem mapW_ok{ro:Nat}{g:Gh}{H:Hp}{w:World}{b:Nat}{es es':List (AV×AV)}{mes':Array MapEntry}{clock':Nat}(hm:MR g ro H w)(hro:ro≤b)(hb:H[b]?=some (.mapo es)){B sz:Nat}(hmu:g.mu b=some (B,sz)){mes:Array MapEntry}{clock:Nat}(hh:w.heap[B]?=some (.map mes clock))(hr:MapR g es' mes'.toList):
  (setObj B (.map mes' clock')).run P w=.ok () (w.putObj B (.map mes' clock'))∧Keeps g w g (w.putObj B (.map mes' clock')) (fun B'=>B'=B)∧MR g ro (putB H (some (b,.mapo es'))) (w.putObj B (.map mes' clock'))∧g.ow B=none:=by
 have how:g.ow B=none:=hm.free b B sz hro hmu
 have hlt:B<w.heap.size:=hm.lt b B sz hmu
 have k:Keeps g w g (w.putObj B (.map mes' clock')) (fun B'=>B'=B) :=
  ⟨Imm.le_refl _,.refl _ _,by simp,fun B' _ hB'=>⟨rfl,fun _=>rfl,World.putObj_heap_other hB'⟩,⟨rfl,rfl,rfl⟩⟩
 have himm:∀o,g.imm B o=none:=by
  intro o
  cases hi:g.imm B o with
  | none=>rfl
  | some v=>have:=hm.imm B o v hi;simp[World.cell?,hh]at this
 refine⟨MapKept.run_setObj_map _ hh,k,?_,how⟩
 refine hm.change k b ?_ rfl ?_ (fun _ _ _ _=>rfl) (fun b' hb'=>putB_ne hb') ?_ ?_ ?_ ?_
 ·intro B' o v hv
  have hne:B'≠B:=by intro e;subst e;rw[himm]at hv;cases hv
  rw[cell_of_heap (World.putObj_heap_other hne)]
  exact hm.imm B' o v hv
 ·intro B' l hl;rw[World.putObj_size];exact hm.owlt B' l hl
 ·have:=lt_of_get hb
  simp only[putB];rw[if_neg (by omega)];simp
 ·intro b' B' s hne hmu' e;subst e;exact hne (hm.inj b' b _ _ _ hmu' hmu)
 ·intro b' B' i' j' _ hB' e;subst e;rw[how]at hB';cases hB'
 ·intro blk hblk
  rw[putB_same (Nat.le_of_lt (lt_of_get hb))]at hblk
  cases hblk
  exact⟨B,sz,mes',clock',hmu,World.putObj_heap_same hlt,hr⟩
theorem MapR.get{g:Gh}:∀ {es:List (AV×AV)} {mes:List MapEntry},MapR g es mes→∀(i:Nat),(es[i]?).isSome=(mes[i]?).isSome
 | [],mes,h,i=>by simp only[MapR]at h;subst h;simp
 | (k,v)::es,mes,h,i=>by
  simp only[MapR]at h
  obtain⟨e,mes',rfl,_,_,h4⟩:=h
  cases i with
  | zero=>rfl
  | succ i=>simpa using h4.get i
theorem MapR.set{g:Gh}{k v:AV}{c u:Value}(hk:VR g.imm noMu k c)(hv:VR g.imm noMu v u):∀ {es:List (AV×AV)} {mes:List MapEntry},MapR g es mes→∀i,MapR g (es.set i (k,v)) (mes.modify i fun e=>{ e with key:=c,val:=u })
 | [],mes,h,i=>by simp only[MapR]at h;subst h;simp[MapR]
 | (k',v')::es,mes,h,i=>by
  simp only[MapR]at h
  obtain⟨e,mes',rfl,h2,h3,h4⟩:=h
  cases i with
  | zero=>simp only[List.set_cons_zero,List.modify_zero_cons,MapR];exact⟨_,_,rfl,hk,hv,h4⟩
  | succ i=>simp only[List.set_cons_succ,List.modify_succ_cons,MapR];exact⟨e,_,rfl,h2,h3,h4.set hk hv i⟩
theorem MapR.push{g:Gh}{k v:AV}{e:MapEntry}(hk:VR g.imm noMu k e.key)(hv:VR g.imm noMu v e.val):∀ {es:List (AV×AV)} {mes:List MapEntry},MapR g es mes→MapR g (es++[(k,v)]) (mes++[e])
 | [],mes,h=>by simp only[MapR]at h;subst h;simp only[List.nil_append,MapR];exact⟨e,[],rfl,hk,hv,rfl⟩
 | (k',v')::es,mes,h=>by
  simp only[MapR]at h
  obtain⟨e',mes',rfl,h2,h3,h4⟩:=h
  simp only[List.cons_append,MapR];exact⟨e',_,rfl,h2,h3,h4.push hk hv⟩
theorem MapR.erase{g:Gh}:∀ {es:List (AV×AV)} {mes:List MapEntry},MapR g es mes→∀i,MapR g (es.eraseIdx i) (mes.eraseIdx i)
 | [],mes,h,i=>by simp only[MapR]at h;subst h;simp[MapR]
 | (k',v')::es,mes,h,i=>by
  simp only[MapR]at h
  obtain⟨e,mes',rfl,h2,h3,h4⟩:=h
  cases i with
  | zero=>simpa using h4
  | succ i=>simp only[List.eraseIdx_cons_succ,MapR];exact⟨e,_,rfl,h2,h3,h4.erase i⟩
theorem zeroV_ok(hT:TOk P T){t:TypeId}{ti:TI}(ht:T t=some ti){z:AV}(hz:zeroAV ti=some z)(imm:Imm)(mu:Mu)(w:World):∃zc,(zeroValue t).run P w=.ok zc w∧VR imm mu z zc:=by
 obtain⟨i,zc,u,h1,h2,h3,h4,h5,h6,h7,h8,h9,h10,h11,h12⟩:=hT.info ht
 have hza:=hT.zagg ht h1 h2
 refine⟨zc,by simp[zeroValue,typeInfo,h1,h2,Result.andThen],?_⟩
 obtain⟨h13,h14,h15⟩:=zeroAV_ok hT ht hz h6 imm mu
 cases hb:ti.agg with
 | true =>
  rw[hb]at hza h13
  cases zc<;>simp[zAgg]at hza
  exact h13
 | false =>
  rw[hb]at hza h13
  have:zc.cells=#[zc]:=by cases zc<;>first | rfl | simp[zAgg]at hza
  rw[this]at h13
  simpa using h13
theorem lLookup_ok(hT:TOk P T){ro:Nat}{g:Gh}{H:Hp}{w:World}{o:Oper}{a:Act}{t:TypeId}{x k:AV}{X K:Operand}{ok:Bool}{ef:Eff}(hm:MR g ro H w)(ho:o.op=.lookup t X K ok)(hx:VR g.imm g.mu x (a.eval X))(hk:VR g.imm g.mu k (a.eval K))
  (h:lLookup T H t x k ok=some ef):OpOk P ro g H w o a ef:=by
 unfold lLookup at h
 split at h
 ·rename_i ti ht
  split at h
  ·rename_i kt e hd
   split at h
   ·rename_i te hte
    split at h
    ·cases h
    ·rename_i hok
     split at h
     ·rename_i z m hz
      split at h
      ·rename_i es hb
       simp only[VR]at hx
       obtain⟨B,sz,hmu,hxe⟩:=hx
       obtain⟨B',sz',mes,clock,h1,h2,h3⟩:=hm.blk m _ hb
       rw[hmu]at h1;cases h1
       have hu:=hT.map ht hd
       cases hf:mfind T kt k es 0 with
       | none=>rw[hf]at h;cases h
       | some r =>
        obtain⟨hck,r',hfk,hr',_⟩:=find_ok hT (w:=w) mes.isEmpty hk (not_false_true hok) h3 hf
        obtain⟨zc,hz1,hzz⟩:=zeroV_ok hT hte hz g.imm g.mu w
        rw[hf]at h
        have hrd:∀ {ef},lFound ok z m (some r)=some ef→OpOk P ro g H w o a ef:=by
         intro ef h
         cases r with
         | none =>
          simp only[MFR]at hr'
          subst hr'
          simp only[lFound,Option.some.injEq]at h
          subst h
          refine OpOk.pure hm ⟨if ok then .tuple #[zc,.bool false] else zc,?_,?_⟩
          ·simp only[execOp,ho,Instr.lookup,Sem.run_bind,run_underlying_of hu,Result.andThen,hxe,MapKept.run_getObj_map h2,Sem.run_pure,hck,hfk,hz1]
          ·cases ok with
           | true=>simp only[if_true,VR,VRs];exact⟨[zc,.bool false],rfl,zc,_,rfl,hzz,_,[],rfl,rfl,rfl⟩
           | false=>simpa using hzz
         | some iv =>
          obtain⟨i,v⟩:=iv
          simp only[MFR]at hr'
          obtain⟨u,rfl,hv⟩:=hr'
          have hv:=VR.mono (Imm.le_refl _) _ (noMu_le g.mu) hv
          simp only[lFound,Option.some.injEq]at h
          subst h
          refine OpOk.pure hm ⟨if ok then .tuple #[u,.bool true] else u,?_,?_⟩
          ·simp only[execOp,ho,Instr.lookup,Sem.run_bind,run_underlying_of hu,Result.andThen,hxe,MapKept.run_getObj_map h2,Sem.run_pure,hck,hfk]
          ·cases ok with
           | true=>simp only[if_true,VR,VRs];exact⟨[u,.bool true],rfl,u,_,rfl,hv,_,[],rfl,rfl,rfl⟩
           | false=>simpa using hv
        exact hrd h
      ·cases h
     ·cases h
   ·cases h
  ·cases h
 ·cases h
theorem lMapUpdate_ok(hT:TOk P T){ro:Nat}{g:Gh}{H:Hp}{w:World}{o:Oper}{a:Act}{t:TypeId}{x k v:AV}{X K V:Operand}{ef:Eff}(hm:MR g ro H w)(ho:o.op=.mapUpdate t X K V)(hx:VR g.imm g.mu x (a.eval X))(hk:VR g.imm g.mu k (a.eval K))(hv:VR g.imm g.mu v (a.eval V))
  (h:lMapUpdate T ro H t x k v=some ef):OpOk P ro g H w o a ef:=by
 unfold lMapUpdate at h
 split at h
 ·rename_i ti ht
  split at h
  ·rename_i kt e m hd
   split at h
   ·cases h
   ·rename_i hn
    have hro:ro≤m:=Nat.le_of_not_lt fun e=>hn (.inl e)
    have hok:keyOk T kt k=true:=not_false_true fun e=>hn (.inr e)
    split at h
    ·rename_i es hb
     simp only[VR]at hx
     obtain⟨B,sz,hmu,hxe⟩:=hx
     obtain⟨B',sz',mes,clock,h1,h2,h3⟩:=hm.blk m _ hb
     rw[hmu]at h1;cases h1
     have hu:=hT.map ht hd
     cases hf:mfind T kt k es 0 with
     | none=>rw[hf]at h;cases h
     | some r =>
      obtain⟨hck,r',hfk,hr',hst⟩:=find_ok hT (w:=w) false hk hok h3 hf
      rw[hf]at h
      cases r with
      | none =>
       simp only[MFR]at hr'
       subst hr'
       simp only[lUpd,Option.some.injEq]at h
       subst h
       obtain⟨w1,w2,w3,w4⟩:=mapW_ok (P:=P) hm hro hb hmu h2 (es':=es++[(cl1 k,cl1 v)]) (mes':=mes.push { key:=a.eval K,val:=a.eval V,born:=clock }) (clock':=clock+1) (by simpa using h3.push (e:={ key:=a.eval K,val:=a.eval V,born:=clock }) hk.cl1 hv.cl1)
       refine⟨⟨undef,.skip,_,g,fun B'=>B'=B,?_,.inr ⟨rfl,rfl⟩,w2,w3,?_,?_,?_,undef_tup.sr⟩,fun t ht=>by cases ht⟩
       ·simp only[execOp,ho,Instr.mapUpdate,Sem.run_bind,run_underlying_of hu,Result.andThen,hxe,MapKept.run_getObj_map h2,hck,hfk,w1,Sem.run_pure]
       ·intro t B' hB' e;subst e;rw[w4]at hB';cases hB'
       ·intro B' l hB' hl e;subst e;rw[w4]at hB';cases hB'
       ·intro L lr e hl;subst e;rw[h2]at hl;cases hl
      | some iv =>
       obtain⟨i,v'⟩:=iv
       simp only[MFR]at hr'
       obtain⟨u,rfl,hv'⟩:=hr'
       simp only[lUpd,Option.some.injEq]at h
       subst h
       obtain⟨w1,w2,w3,w4⟩:=mapW_ok (P:=P) hm hro hb hmu h2 (es':=es.set i (cl1 k,cl1 v)) (mes':=mes.modify i fun e=>{ e with key:=a.eval K,val:=a.eval V }) (clock':=clock) (by simpa using h3.set hk.cl1 hv.cl1 i)
       refine⟨⟨undef,.skip,_,g,fun B'=>B'=B,?_,.inr ⟨rfl,rfl⟩,w2,w3,?_,?_,?_,undef_tup.sr⟩,fun t ht=>by cases ht⟩
       ·simp only[execOp,ho,Instr.mapUpdate,Sem.run_bind,run_underlying_of hu,Result.andThen,hxe,MapKept.run_getObj_map h2,hck,hfk,hst i u rfl,w1,Sem.run_pure]
       ·intro t B' hB' e;subst e;rw[w4]at hB';cases hB'
       ·intro B' l hB' hl e;subst e;rw[w4]at hB';cases hB'
       ·intro L lr e hl;subst e;rw[h2]at hl;cases hl
    ·cases h
  ·cases h
 ·cases h
theorem lDelete_ok(hT:TOk P T){ro:Nat}{g:Gh}{H:Hp}{w:World}{o:Oper}{a:Act}{t:TypeId}{x k:AV}{X K:Value}{tys:Array TypeId}{ty:TypeId}{args:Array Value}{ef:Eff}(hm:MR g ro H w)
  (ho:(execOp a.eval o).run P w=((do pure (.value (←Builtin.delete_ tys ty args)):Sem Next)).run P w)
  (h1':tys[0]?=some t) (h3':args[0]?=some X) (h4':args[1]?=some K) (hx:VR g.imm g.mu x X) (hk:VR g.imm g.mu k K) (h:lDelete T ro H t x k=some ef):OpOk P ro g H w o a ef:=by
 unfold lDelete at h
 split at h
 ·rename_i ti ht
  split at h
  ·rename_i kt e m hd
   split at h
   ·cases h
   ·rename_i hn
    have hro:ro≤m:=Nat.le_of_not_lt fun e=>hn (.inl e)
    have hok:keyOk T kt k=true:=not_false_true fun e=>hn (.inr e)
    split at h
    ·rename_i es hb
     simp only[VR]at hx
     obtain⟨B,sz,hmu,hxe⟩:=hx
     obtain⟨B',sz',mes,clock,h1,h2,h3⟩:=hm.blk m _ hb
     rw[hmu]at h1;cases h1
     have hu:=hT.map ht hd
     cases hf:mfind T kt k es 0 with
     | none=>rw[hf]at h;cases h
     | some r =>
      obtain⟨hck,r',hfk,hr',hst⟩:=find_ok hT (w:=w) mes.isEmpty hk hok h3 hf
      rw[hf]at h
      cases r with
      | none =>
       simp only[MFR]at hr'
       subst hr'
       simp only[lDel,Option.some.injEq]at h
       subst h
       obtain⟨w1,w2,w3,w4⟩:=mapW_ok (P:=P) hm hro hb hmu h2 (es':=es) (mes':=mes) (clock':=clock) h3
       refine⟨⟨.tuple #[],_,_,g,fun B'=>B'=B,?_,.inl rfl,w2,w3,?_,?_,?_,undef_tup.sr⟩,fun t ht=>by cases ht⟩
       ·rw[ho]
        simp only[Builtin.delete_,h1',h3',h4',Sem.run_bind,run_underlying_of hu,Result.andThen,hxe,MapKept.run_getObj_map h2,hck,hfk,w1,Sem.run_pure]
       ·intro t B' hB' e;subst e;rw[w4]at hB';cases hB'
       ·intro B' l hB' hl e;subst e;rw[w4]at hB';cases hB'
       ·intro L lr e hl;subst e;rw[h2]at hl;cases hl
      | some iv =>
       obtain⟨i,v'⟩:=iv
       simp only[MFR]at hr'
       obtain⟨u,rfl,hv'⟩:=hr'
       simp only[lDel,Option.some.injEq]at h
       subst h
       obtain⟨w1,w2,w3,w4⟩:=mapW_ok (P:=P) hm hro hb hmu h2 (es':=es.eraseIdx i) (mes':=mes.eraseIdxIfInBounds i) (clock':=clock) (by simpa using h3.erase i)
       refine⟨⟨.tuple #[],_,_,g,fun B'=>B'=B,?_,.inl rfl,w2,w3,?_,?_,?_,undef_tup.sr⟩,fun t ht=>by cases ht⟩
       ·rw[ho]
        simp only[Builtin.delete_,h1',h3',h4',Sem.run_bind,run_underlying_of hu,Result.andThen,hxe,MapKept.run_getObj_map h2,hck,hfk,w1,Sem.run_pure]
       ·intro t B' hB' e;subst e;rw[w4]at hB';cases hB'
       ·intro B' l hB' hl e;subst e;rw[w4]at hB';cases hB'
       ·intro L lr e hl;subst e;rw[h2]at hl;cases hl
    ·cases h
  ·cases h
 ·cases h
variable {P:Program} {T:TypeId→Option TI} {imm:Imm} {mu:Mu}
theorem Rel.evals{g:Gh}{ro nt:Nat}{fr:PT}{H:Hp}{a:Act}{w:World}(h:Rel g ro nt fr H a.tmps w):∀(l:List Operand),VRs g.imm g.mu (l.map (ev fr)) (l.map a.eval)
 | []=>by simp[VRs]
 | x::l=>by simp only[List.map_cons,VRs];exact⟨_,_,rfl,h.eval (a:=a) x,h.evals l⟩
theorem Rel.parts{g:Gh}{ro nt:Nat}{fr:PT}{H:Hp}{a:Act}{w:World}(h:Rel g ro nt fr H a.tmps w):∀(l:List (Nat×Operand)),VParts g.imm g.mu (l.map fun p=>(p.1,ev fr p.2)) (l.map fun p=>(p.1,a.eval p.2))
 | []=>by simp[VParts]
 | x::l=>by simp only[List.map_cons,VParts];exact⟨_,_,rfl,rfl,h.eval (a:=a) x.2,h.parts l⟩
theorem pure_map{ro:Nat}{g:Gh}{H:Hp}{w:World}{o:Oper}{a:Act}{x:Option AV}{r:AV→Rd}{ef:Eff}(hm:MR g ro H w)(h:x.map (fun v=>Eff.rdd (r v) v)=some ef)
  (hx:∀v,x=some v→∃c,(execOp a.eval o).run P w=.ok (.value c) w∧VR g.imm g.mu v c):OpOk P ro g H w o a ef:=by
 cases x with
 | none=>cases h
 | some v=>cases h;exact OpOk.pure hm (hx v rfl)
theorem ovr_map{g:Gh}{ro nt:Nat}{fr:PT}{H:Hp}{a:Act}{w:World}(h:Rel g ro nt fr H a.tmps w)(x:Option Operand):ovr g.imm g.mu (x.map (ev fr)) (x.map a.eval):=by
 cases x with
 | none=>trivial
 | some x=>exact h.eval (a:=a) x
theorem run_builtin{w:World}{o:Oper}{a:Act}{c:Call}{b:Builtin}(ho:o.op=.call c)(hc:c.callee=.builtin b):
  (execOp a.eval o).run P w=(builtin b c.argTypes o.type (c.args.map fun | .const _=>true | _=>false) (c.args.map a.eval)).run P w:=by
 simp only[execOp,ho,resolve,hc,Sem.run_bind,Sem.run_pure,Result.andThen,invoke]
 rfl
theorem lBuiltin_ok{cx:Cx}(hT:TOk P cx.T){ro nt nm:Nat}{fn:FuncId}{g:Gh}{fr:PT}{H:Hp}{w:World}{o:Oper}{a:Act}{c:Call}{b:Builtin}{ef:Eff}(hR:Rel g ro nt fr H a.tmps w)
  (ho:o.op=.call c) (hc:c.callee=.builtin b) (h:lBuiltin cx ro fn nm (o.dst.getD 0) fr H b c.args.toList c.argTypes.toList=some ef):OpOk P ro g H w o a ef:=by
 have hrun:=run_builtin (P:=P) (w:=w) (a:=a) ho hc
 have hl:=hR.evals (a:=a) c.args.toList
 have get2:∀ {s x:Operand},c.args.toList=[s,x]→(c.args.map a.eval)[0]?=some (a.eval s)∧(c.args.map a.eval)[1]?=some (a.eval x):=by
  intro s x hs
  have:c.args=#[s,x]:=by apply Array.ext';rw[hs]
  rw[this];simp
 have get1:∀ {s:Operand},c.args.toList=[s]→(c.args.map a.eval)[0]?=some (a.eval s):=by
  intro s hs
  have:c.args=#[s]:=by apply Array.ext';rw[hs]
  rw[this];simp
 have gett:∀ {t:TypeId} {r:List TypeId},c.argTypes.toList=t::r→c.argTypes[0]?=some t:=by
  intro t r ht
  rw[←Array.getElem?_toList,ht];rfl
 have gett2:∀ {t t':TypeId} {r:List TypeId},c.argTypes.toList=t::t'::r→c.argTypes[1]?=some t':=by
  intro t t' r ht
  rw[←Array.getElem?_toList,ht];rfl
 unfold lBuiltin at h
 split at h
 ·rename_i x t _ ha ht
  refine pure_map (r:=fun _=>lenRd (ev fr x)) hR.mem h fun v hv=>?_
  obtain⟨c',h1,h2⟩:=alen_ok (P:=P) (ty:=o.type) hT hR.mem (hR.eval (a:=a) x) hv (gett ht) (get1 ha)
  exact⟨c',by rw[hrun];simp only[builtin,Sem.run_bind,h1,Result.andThen,Sem.run_pure],h2⟩
 ·rename_i s x t t' _ ha ht
  split at h
  ·rename_i e' _ ht'
   exact lAppend_ok (cs:=#[]) hT hR (by rw[hrun];rfl) (gett ht) (gett2 ht) (get2 ha).1 (get2 ha).2 (hT.slice ht' rfl) h
  ·cases h
 ·refine pure_map (r:=fun _=>.no) hR.mem h fun v hv=>?_
  obtain⟨c',h1,h2⟩:=aminmax_ok (P:=P) (w:=w) false c.argTypes o.type (cs:=c.args.map a.eval) (by simpa using hl) hv
  simp only[Bool.false_eq_true,if_false]at h1
  exact⟨c',by rw[hrun];simp only[builtin,Sem.run_bind,h1,Result.andThen,Sem.run_pure],h2⟩
 ·refine pure_map (r:=fun _=>.no) hR.mem h fun v hv=>?_
  obtain⟨c',h1,h2⟩:=aminmax_ok (P:=P) (w:=w) true c.argTypes o.type (cs:=c.args.map a.eval) (by simpa using hl) hv
  simp only[if_true]at h1
  exact⟨c',by rw[hrun];simp only[builtin,Sem.run_bind,h1,Result.andThen,Sem.run_pure],h2⟩
 ·rename_i x y t _ ha ht
  exact lCopy_ok hT hR.mem (by rw[hrun];rfl) (gett ht) (get2 ha).1 (get2 ha).2 (hR.eval (a:=a) x) (hR.eval (a:=a) y) h
 ·rename_i m k t _ ha ht
  exact lDelete_ok hT hR.mem (by rw[hrun];rfl) (gett ht) (get2 ha).1 (get2 ha).2 (hR.eval (a:=a) m) (hR.eval (a:=a) k) h
 ·cases h
theorem lop_ok{cx:Cx}(hT:TOk P cx.T){ro nt nm:Nat}{fn:FuncId}{ops:Array Oper}{g:Gh}{fr:PT}{H:Hp}{w:World}{o:Oper}{a:Act}{ef:Eff}(hR:Rel g ro nt fr H a.tmps w)
  (h:lop cx ro fn ops nm fr H (o.dst.getD 0) o.op=some ef):OpOk P ro g H w o a ef:=by
 have hm:=hR.mem
 have he:=fun x=>hR.eval (a:=a) x
 cases hop:o.op with
 | move x=>rw[hop]at h;exact lMove_ok hR hop h
 | assign x=>rw[hop]at h;cases h;exact lAssign_ok hR hop
 | pick c x y =>
  rw[hop]at h
  simp only[lop,lPick]at h
  have hc:=he c
  split at h
  ·rename_i hv
   cases h
   rw[hv]at hc
   exact OpOk.pure hm ⟨_,by simp[execOp,hop,VR_lit hc,asBool],he x⟩
  ·rename_i hv
   cases h
   rw[hv]at hc
   exact OpOk.pure hm ⟨_,by simp[execOp,hop,VR_lit hc,asBool],he y⟩
  ·cases h
 | alloc e=>rw[hop]at h;exact lAlloc_ok hT hm hop h
 | box e x=>rw[hop]at h;exact lBox_ok hT hm hop (he x) h
 | build t parts =>
  rw[hop]at h
  refine pure_map (r:=fun _=>.no) hm h fun v hv=>?_
  obtain⟨c,h1,h2⟩:=abuild_ok (P:=P) (w:=w) hT (hR.parts (a:=a) parts.toList) hv
  refine⟨c,?_,h2⟩
  have:(parts.map fun x=>match x with | (i,x)=>(i,a.eval x))=(parts.toList.map fun p=>(p.1,a.eval p.2)).toArray:=by apply Array.ext';simp
  simp only[execOp,hop,this,Sem.run_bind,h1,Result.andThen,Sem.run_pure]
 | buildSlice t len parts=>rw[hop]at h;exact abuildSlice_ok hT hm hop (hR.parts (a:=a) parts.toList) h
 | makeSlice t l c=>rw[hop]at h;exact lMakeSlice_ok hT hm hop (he l) (he c) h
 | makeMap t r =>
  rw[hop]at h
  cases r with
  | none =>
   simp only[lop]at h
   split at h
   ·cases h
   ·rename_i hf
    cases h
    exact lMakeMap_ok hm hop (not_false_true hf)
  | some r=>simp[lop]at h
 | load t x=>rw[hop]at h;exact lLoad_ok hT hm hop (he x) h
 | store t x y=>rw[hop]at h;exact lStore_ok hT hR hop h
 | nilCheck x =>
  rw[hop]at h
  have hx:=he x
  simp only[lop,lNilCheck]at h
  split at h
  ·rename_i hv
   cases h
   rw[hv]at hx
   have hx':=hx
   simp only[VR]at hx'
   obtain⟨B,sz,_,e⟩:=hx'
   exact OpOk.pure hm ⟨a.eval x,by simp[execOp,hop,e],hx⟩
  ·rename_i hv
   cases h
   rw[hv]at hx
   have hx':=hx
   simp only[VR]at hx'
   obtain⟨B,o,c,e,_⟩:=hx'
   exact OpOk.pure hm ⟨a.eval x,by simp[execOp,hop,e],hx⟩
  ·rename_i hv
   cases h
   rw[hv]at hx
   have hx':=hx
   simp only[VR]at hx'
   obtain⟨cs,e,_⟩:=hx'
   exact OpOk.pure hm ⟨a.eval x,by simp[execOp,hop,e],hx⟩
  ·rename_i hv
   cases h
   rw[hv]at hx
   have hx':=hx
   simp only[VR]at hx'
   obtain⟨B,sz,_,e⟩:=hx'
   exact OpOk.pure hm ⟨a.eval x,by simp[execOp,hop,e],hx⟩
  ·cases h
 | binOp op t x y r =>
  rw[hop]at h
  refine pure_map (r:=fun _=>.no) hm h fun v hv=>?_
  obtain⟨c,h1,h2⟩:=abin_ok (P:=P) (w:=w) (X:=x) (Y:=y) hT (he x) (he y) hv
  refine⟨c,?_,h2⟩
  simp only[execOp,hop,Sem.run_bind,Sem.run_pure]at h1 ⊢
  rw[h1];rfl
 | unOp op t x =>
  rw[hop]at h
  refine pure_map (r:=fun _=>.no) hm h fun v hv=>?_
  obtain⟨c,h1,h2⟩:=aun_ok (P:=P) (w:=w) (he x) hv
  exact⟨c,by simp only[execOp,hop,Sem.run_bind,h1,Result.andThen,Sem.run_pure],h2⟩
 | convert src dst x =>
  rw[hop]at h
  refine pure_map (r:=fun _=>.no) hm h fun v hv=>?_
  obtain⟨c,h1,h2⟩:=aconv_ok (P:=P) (w:=w) hT (he x) hv
  exact⟨c,by simp only[execOp,hop,Sem.run_bind,h1,Result.andThen,Sem.run_pure],h2⟩
 | makeFunc f first captured =>
  rw[hop]at h
  simp only[lop,lMakeFunc]at h
  split at h
  ·rename_i f0
   split at h
   ·rename_i hf
    cases h
    have hf:first=#[]:=by simpa using hf
    subst hf
    refine OpOk.pure hm ⟨.func (.func f0) #[] (captured.map a.eval),by simp[execOp,hop,Instr.makeFunc],?_⟩
    simp only[VR]
    exact⟨captured.toList.map a.eval,by congr 1;apply Array.ext';simp,hR.evals (a:=a) _⟩
   ·cases h
  ·cases h
 | slice t x lo hi mx =>
  rw[hop]at h
  refine pure_map (r:=fun _=>.no) hm h fun v hv=>?_
  obtain⟨c,h1,h2⟩:=aslice_ok (P:=P) (w:=w) hT (he x) (ovr_map (a:=a) hR lo) (ovr_map (a:=a) hR hi) (ovr_map (a:=a) hR mx) hv
  exact⟨c,by simp only[execOp,hop,Sem.run_bind,h1,Result.andThen,Sem.run_pure],h2⟩
 | fieldAddr t x f =>
  rw[hop]at h
  refine pure_map (r:=fun _=>.no) hm h fun v hv=>?_
  obtain⟨c,h1,h2⟩:=afieldAddr_ok (P:=P) (w:=w) hT (he x) hv
  exact⟨c,by simp only[execOp,hop,Sem.run_bind,h1,Result.andThen,Sem.run_pure],h2⟩
 | field t x f =>
  rw[hop]at h
  refine pure_map (r:=fun _=>.no) hm h fun v hv=>?_
  obtain⟨c,h1,h2⟩:=afield_ok (P:=P) (w:=w) hT (he x) hv
  exact⟨c,by simp only[execOp,hop,Sem.run_bind,h1,Result.andThen,Sem.run_pure],h2⟩
 | indexAddr t x ix =>
  rw[hop]at h
  refine pure_map (r:=fun _=>.no) hm h fun v hv=>?_
  obtain⟨c,h1,h2⟩:=aindexAddr_ok (P:=P) (w:=w) hT (he x) (he ix) hv
  exact⟨c,by simp only[execOp,hop,Sem.run_bind,h1,Result.andThen,Sem.run_pure],h2⟩
 | index t x ix =>
  rw[hop]at h
  refine pure_map (r:=fun _=>.no) hm h fun v hv=>?_
  obtain⟨c,h1,h2⟩:=aindex_ok (P:=P) (w:=w) hT (he x) (he ix) hv
  exact⟨c,by simp only[execOp,hop,Sem.run_bind,h1,Result.andThen,Sem.run_pure],h2⟩
 | extract t i =>
  rw[hop]at h
  have hx:=he t
  simp only[lop,lExtract]at h
  split at h
  ·rename_i vs hv
   rw[hv]at hx
   simp only[VR]at hx
   obtain⟨cs,e,h1⟩:=hx
   refine pure_map (r:=fun _=>.no) (x:=(vs[i]?).map drp) hm (by rw[←h];cases vs[i]?<;>rfl) fun v hvi=>?_
   cases hvs:vs[i]? with
   | none=>rw[hvs]at hvi;cases hvi
   | some v' =>
    rw[hvs]at hvi
    cases hvi
    obtain⟨c,h2,h3⟩:=h1.get hvs
    exact⟨c,by simp[execOp,hop,e,Instr.extract,h2],h3.drp⟩
  ·cases h
 | lookup t x k ok=>rw[hop]at h;exact lLookup_ok hT hm hop (he x) (he k) h
 | mapUpdate t m k x=>rw[hop]at h;exact lMapUpdate_ok hT hm hop (he m) (he k) (he x) h
 | call c =>
  rw[hop]at h
  simp only[lop,lCall]at h
  split at h
  ·rename_i b hc
   exact lBuiltin_ok hT hR hop hc h
  ·cases h
 | _=>rw[hop]at h;simp[lop]at h
variable {P:Program} {T:TypeId→Option TI}
structure Evs(ro:Nat)(g:Gh)(w:World)(g':Gh)(w':World):Prop extends Ev ro g w g' w' where
 slots:∀(t B:Nat),g.ow B=some (.slot t)→g'.ow B=some (.slot t)∧(∀o,g'.imm B o=g.imm B o)∧w'.heap[B]?=w.heap[B]?
theorem Rel.after{g g':Gh}{ro nt:Nat}{fr fr':PT}{H H':Hp}{tm:Array Value}{w w':World}(h:Rel g ro nt fr H tm w)(e:Evs ro g w g' w')(hm:MR g' ro H' w')
  {dst:Option Tmp} {v:AV} {c:Value} (hv:∀d,dst=some d→SR g' w' (.slot d) v c) (hf:putD nt dst v fr=some fr'):
  Rel g' ro nt fr' H' (putT tm dst c) w':=by
 have hs:∀t,fr.get t=.dead∨∃v,tm[t]?=some v∧SR g' w' (.slot t) (fr.get t) v:=by
  intro t
  rcases h.slots t with hd | ⟨v,h1,h2⟩
  ·exact .inl hd
  ·exact .inr ⟨v,h1,h2.mono e.imm e.mun.le fun B hB=>e.slots t B hB⟩
 cases dst with
 | none =>
  simp only[putD,Option.some.injEq]at hf
  subst hf
  exact⟨h.size,h.nt_le,hs,hm⟩
 | some d =>
  simp only[putD]at hf
  split at hf
  ·rename_i hd
   simp only[Option.some.injEq]at hf
   subst hf
   refine⟨by simp[putT,h.size],h.nt_le,fun t=>?_,hm⟩
   by_cases e:d=t
   ·subst e
    right
    rw[PT.get_set_eq (Nat.lt_of_lt_of_le hd h.nt_le)]
    exact⟨c,by simp[putT,h.size,hd],hv d rfl⟩
   ·rw[PT.get_set_ne e]
    rcases hs t with h1 | ⟨v,h1,h2⟩
    ·exact .inl h1
    ·exact .inr ⟨v,by simp only[putT];rw[Array.getElem?_setIfInBounds_ne e];exact h1,h2⟩
  ·cases hf
def Gh.lend(g:Gh):Gh:={ g with ow:=fun B=>match g.ow B with | some (.slot _)=>some .oth | x=>x }
theorem lend_slot{g:Gh}{B t:Nat}(h:g.ow B=some (.slot t)):g.lend.ow B=some .oth:=by simp[Gh.lend,h]
theorem lend_other{g:Gh}{B:Nat}(h:∀t,g.ow B≠some (.slot t)):g.lend.ow B=g.ow B:=by
 show (match g.ow B with | some (.slot _)=>some .oth | x=>x)=g.ow B
 cases hg:g.ow B with
 | none=>rfl
 | some l=>cases l with
  | slot t=>exact absurd hg (h t)
  | _=>rfl
theorem MR.lend{g:Gh}{ro:Nat}{H:Hp}{w:World}(h:MR g ro H w):MR g.lend ro H w:=by
 refine⟨h.role,h.imm,h.dom,h.inj,h.lt,?_,?_,?_,?_⟩
 ·intro B l hl
  cases hb:g.ow B with
  | none=>simp[Gh.lend,hb]at hl
  | some l'=>exact h.owlt B l' hb
 ·intro b B sz hb hm
  have:=h.prot b B sz hb hm
  rw[lend_other (by rw[this];simp)];exact this
 ·intro b B sz hb hm
  have:=h.free b B sz hb hm
  rw[lend_other (by rw[this];simp)];exact this
 ·intro b blk hb
  exact(h.blk b blk hb).mono (Imm.le_refl _) (Mu.le_refl _) (fun _ _ _=>⟨fun _=>rfl,rfl⟩) id fun B i j hB=>⟨by rw[lend_other (by rw[hB];simp)];exact hB,fun _=>rfl,rfl⟩
def Gh.back(g g2:Gh)(d:Loc):Gh:={ g2 with ow:=fun B=>match g.ow B with | some (.slot t)=>some (.slot t) | _=>match g2.ow B with | some .res=>some d | x=>x }
theorem back_slot{g g2:Gh}{d:Loc}{B t:Nat}(h:g.ow B=some (.slot t)):(g.back g2 d).ow B=some (.slot t):=by simp[Gh.back,h]
theorem back_res{g g2:Gh}{d:Loc}{B:Nat}(h:∀t,g.ow B≠some (.slot t))(h2:g2.ow B=some .res):(g.back g2 d).ow B=some d:=by
 show (match g.ow B with | some (.slot t)=>some (.slot t) | _=>match g2.ow B with | some .res=>some d | x=>x)=some d
 rw[h2]
 cases hg:g.ow B with
 | none=>rfl
 | some l=>cases l with
  | slot t=>exact absurd hg (h t)
  | _=>rfl
theorem back_other{g g2:Gh}{d:Loc}{B:Nat}(h:∀t,g.ow B≠some (.slot t))(h2:g2.ow B≠some .res):(g.back g2 d).ow B=g2.ow B:=by
 have key:(match g2.ow B with | some .res=>some d | x=>x)=g2.ow B:=by
  cases hg2:g2.ow B with
  | none=>rfl
  | some l=>cases l with
   | res=>exact absurd hg2 h2
   | _=>rfl
 show (match g.ow B with | some (.slot t)=>some (.slot t) | _=>match g2.ow B with | some .res=>some d | x=>x)=g2.ow B
 cases hg:g.ow B with
 | none=>exact key
 | some l=>cases l with
  | slot t=>exact absurd hg (h t)
  | _=>exact key
section
variable {g g2:Gh} {ro:Nat} {H H':Hp} {w w':World} {d:Loc}
theorem lent_slot(e:Ev ro g.lend w g2 w'){B t:Nat}(h:g.ow B=some (.slot t)):g2.ow B=some .oth∧(∀o,g2.imm B o=g.imm B o)∧w'.heap[B]?=w.heap[B]? :=
 e.prot B .oth (lend_slot h) trivial
theorem MR.back(hm:MR g ro H w)(h:MR g2 ro H' w')(e:Ev ro g.lend w g2 w'):MR (g.back g2 d) ro H' w':=by
 refine⟨h.role,h.imm,h.dom,h.inj,h.lt,?_,?_,?_,?_⟩
 ·intro B l hl
  by_cases hs:∃t,g.ow B=some (.slot t)
  ·obtain⟨t,ht⟩:=hs
   exact Nat.lt_of_lt_of_le (hm.owlt B _ ht) e.size
  ·have hs':∀t,g.ow B≠some (.slot t):=fun t ht=>hs ⟨t,ht⟩
   cases h2:g2.ow B with
   | some l2=>exact h.owlt B l2 h2
   | none=>rw[back_other hs' (by rw[h2];simp),h2]at hl;cases hl
 ·intro b B sz hb hmu
  have h2:=h.prot b B sz hb hmu
  have hs':∀t,g.ow B≠some (.slot t):=by
   intro t ht
   rcases e.mun.new b B sz hmu with h3 | h3
   ·have:=hm.prot b B sz hb h3;rw[ht]at this;cases this
   ·have:=hm.owlt B _ ht;omega
  rw[back_other hs' (by rw[h2];simp)];exact h2
 ·intro b B sz hb hmu
  have h2:=h.free b B sz hb hmu
  have hs':∀t,g.ow B≠some (.slot t):=by
   intro t ht
   have:=(lent_slot e ht).1;rw[h2]at this;cases this
  rw[back_other hs' (by rw[h2];simp)];exact h2
 ·intro b blk hb
  refine(h.blk b blk hb).mono (Imm.le_refl _) (Mu.le_refl _) (fun _ _ _=>⟨fun _=>rfl,rfl⟩) id fun B i j hB=>⟨?_,fun _=>rfl,rfl⟩
  have hs':∀t,g.ow B≠some (.slot t):=by
   intro t ht
   have:=(lent_slot e ht).1;rw[hB]at this;cases this
  rw[back_other hs' (by rw[hB];simp)];exact hB
theorem Evs.back(e:Ev ro g.lend w g2 w'):Evs ro g w (g.back g2 d) w':=by
 refine { imm:=e.imm,mun:=e.mun,size:=e.size,loops:=e.loops,out:=e.out,prot:=?_,slots:=?_ }
 ·intro B l hB hl
  have hs':∀t,g.ow B≠some (.slot t):=by intro t ht;rw[hB]at ht;cases ht;exact hl
  obtain⟨h1,h2,h3⟩:=e.prot B l (by rw[lend_other hs'];exact hB) hl
  exact⟨by rw[back_other hs' (by rw[h1];intro e;cases e;exact hl)];exact h1,h2,h3⟩
 ·intro t B hB
  obtain⟨h1,h2,h3⟩:=lent_slot e hB
  exact⟨back_slot hB,h2,h3⟩
theorem SR.back(e:Ev ro g.lend w g2 w'){v:AV}{c:Value}(h:SR g2 w' .res v c):SR (g.back g2 d) w' d v c:=by
 cases hown:isOwn v with
 | false =>
  have hv:=(SR_notOwn (loc:=.res) hown).1 h
  exact(SR_notOwn hown).2 hv
 | true =>
  obtain⟨sz,els,rfl⟩:=isOwn_spec hown
  obtain⟨B,cap,cs,h1,h2,h3,h4,h5,h6,h7⟩:=h
  have hs':∀t,g.ow B≠some (.slot t):=by
   intro t ht
   have:=(lent_slot e ht).1;rw[h5]at this;cases this
  exact⟨B,cap,cs,h1,h2,h3,h4,back_res hs' h5,h6,h7⟩
end
def Gh.shutFor(g:Gh)(size n:Nat)(m:Mu):Gh :=
 { imm:=g.imm,mu:=m,ow:=fun B=>if B<size then some (match g.ow B with | some (.cell b i j)=>if b<n then .cell b i j else .oth | _=>.oth) else none }
theorem shutFor_lt{g:Gh}{size n:Nat}{m:Mu}{B:Nat}(h:B<size):∃l,(g.shutFor size n m).ow B=some l∧l.shut n∧l≠.res:=by
 simp only[Gh.shutFor,h,if_true]
 split
 ·split
  ·rename_i hb;exact⟨_,rfl,hb,by simp⟩
  ·exact⟨_,rfl,trivial,by simp⟩
 ·exact⟨_,rfl,trivial,by simp⟩
theorem MR.quiet{g:Gh}{ro:Nat}{H:Hp}{w:World}(h:MR g ro H w):MR (g.shutFor w.heap.size H.length g.mu) H.length H w:=by
 refine⟨Nat.le_refl _,h.imm,h.dom,h.inj,h.lt,?_,?_,?_,?_⟩
 ·intro B l hl
  simp only[Gh.shutFor]at hl
  split at hl
  ·assumption
  ·cases hl
 ·intro b B sz hb hm
  have hlt:=h.lt b B sz hm
  simp only[Gh.shutFor,hlt,if_true]
  rcases Nat.lt_or_ge b ro with hro | hro
  ·rw[h.prot b B sz hro hm]
  ·rw[h.free b B sz hro hm]
 ·intro b B sz hb hm
  have:=h.dom b hb
  have hm':g.mu b=some (B,sz):=hm
  rw[this]at hm';cases hm'
 ·intro b blk hb
  refine(h.blk b blk hb).mono (Imm.le_refl _) (Mu.le_refl _) (fun _ _ _=>⟨fun _=>rfl,rfl⟩) id fun B i j hB=>⟨?_,fun _=>rfl,rfl⟩
  simp only[Gh.shutFor,h.owlt B _ hB,if_true,hB,lt_of_get hb]
theorem MR.pureCall{g:Gh}{ro:Nat}{H:Hp}{w:World}(h:MR g ro H w):MR (g.shutFor w.heap.size 0 noMu) 0 [] w:=by
 refine⟨Nat.le_refl _,h.imm,fun _ _=>rfl,?_,?_,?_,?_,?_,?_⟩
 ·intro b b' B sz sz' hb;cases hb
 ·intro b B sz hb;cases hb
 ·intro B l hl
  simp only[Gh.shutFor]at hl
  split at hl
  ·assumption
  ·cases hl
 ·intro b B sz _ hb;cases hb
 ·intro b B sz _ hb;cases hb
 ·intro b blk hb;simp at hb
def Gh.kept(g g2:Gh)(size:Nat)(w':World)(d:Loc):Gh :=
 { imm:=fun B o=>if B<size then g.imm B o else if g2.ow B=some .res then g2.imm B o else w'.cell? ⟨B,o,none⟩
   mu:=g.mu
   ow:=fun B=>if B<size then g.ow B else if g2.ow B=some .res then some d else none }
section
variable {g g2:Gh} {n:Nat} {m:Mu} {ro:Nat} {H H':Hp} {w w':World} {d:Loc}
theorem shut_old(e:Ev n (g.shutFor w.heap.size n m) w g2 w'){B:Nat}(hB:B<w.heap.size):g2.ow B≠some .res∧(∀o,g2.imm B o=g.imm B o)∧w'.heap[B]?=w.heap[B]?:=by
 obtain⟨l,h1,h2,h3⟩:=shutFor_lt (g:=g) (m:=m) (n:=n) hB
 obtain⟨h4,h5,h6⟩:=e.prot B l h1 h2
 exact⟨by rw[h4];intro e;cases e;exact h3 rfl,h5,h6⟩
theorem kept_imm(e:Ev n (g.shutFor w.heap.size n m) w g2 w')(h2:MR g2 n H' w'):g2.imm.le (g.kept g2 w.heap.size w' d).imm:=by
 intro B o v hv
 simp only[Gh.kept]
 split
 ·rename_i hB;rw[←(shut_old e hB).2.1];exact hv
 ·split
  ·exact hv
  ·exact h2.imm B o v hv
theorem Keeps.kept(hm:MR g ro H w)(e:Ev n (g.shutFor w.heap.size n m) w g2 w')(h2:MR g2 n H' w'):Keeps g w (g.kept g2 w.heap.size w' d) w' (fun _=>False) where
 imm:=fun B o v hv=>by
  have hlt:B<w.heap.size:=World.block_lt_of_cell? _ _ (hm.imm B o v hv)
  simp only[Gh.kept,hlt,if_true];exact hv
 mun:=.refl _ _
 size:=e.size
 same:=fun B hB _=>⟨by simp[Gh.kept,hB],fun o=>by simp[Gh.kept,hB],(shut_old e hB).2.2⟩
 out:=e.out
theorem MR.kept(hm:MR g ro H w)(e:Ev n (g.shutFor w.heap.size n m) w g2 w')(h2:MR g2 n H' w'):MR (g.kept g2 w.heap.size w' d) ro H w':=by
 have k:=Keeps.kept (d:=d) hm e h2
 refine⟨hm.role,?_,hm.dom,hm.inj,fun b B sz h=>Nat.lt_of_lt_of_le (hm.lt b B sz h) e.size,?_,?_,?_,?_⟩
 ·intro B o v hv
  simp only[Gh.kept]at hv
  split at hv
  ·rename_i hB
   rw[cell_of_heap (shut_old e hB).2.2];exact hm.imm B o v hv
  ·split at hv
   ·exact h2.imm B o v hv
   ·exact hv
 ·intro B l hl
  simp only[Gh.kept]at hl
  split at hl
  ·exact Nat.lt_of_lt_of_le (hm.owlt B l hl) e.size
  ·split at hl
   ·rename_i hr;exact h2.owlt B _ hr
   ·cases hl
 ·intro b B sz hb h
  have hlt:=hm.lt b B sz h
  simp only[Gh.kept,hlt,if_true];exact hm.prot b B sz hb h
 ·intro b B sz hb h
  have hlt:=hm.lt b B sz h
  simp only[Gh.kept,hlt,if_true];exact hm.free b B sz hb h
 ·intro b blk hb
  exact(hm.blk b blk hb).keeps k hm.owlt (fun B sz h=>hm.lt b B sz h) (fun _ _ _ h=>h) (fun _ _ _ _ h=>h) id
theorem Evs.kept(hm:MR g ro H w)(e:Ev n (g.shutFor w.heap.size n m) w g2 w')(h2:MR g2 n H' w'):Evs ro g w (g.kept g2 w.heap.size w' d) w':=by
 have k:=Keeps.kept (d:=d) hm e h2
 refine { imm:=k.imm,mun:=k.mun,size:=k.size,loops:=e.loops,out:=k.out,prot:=?_,slots:=?_ }
 ·intro B l hB _
  obtain⟨h1,h2,h3⟩:=k.same B (hm.owlt B l hB) (fun h=>h)
  exact⟨by rw[h1];exact hB,h2,h3⟩
 ·intro t B hB
  obtain⟨h1,h2,h3⟩:=k.same B (hm.owlt B _ hB) (fun h=>h)
  exact⟨by rw[h1];exact hB,h2,h3⟩
theorem VR.frz0(hmn:∀b,n≤b→m b=none)(e:Ev n (g.shutFor w.heap.size n m) w g2 w')(h2:MR g2 n H' w'){a:AV}{c:Value}(h:VR g2.imm g2.mu a c):VR (g.kept g2 w.heap.size w' d).imm noMu (Abs.frz0 n H' a) c:=by
 have hother:Abs.frz0 n H' a=Abs.cl0 a→VR (g.kept g2 w.heap.size w' d).imm noMu (Abs.frz0 n H' a) c:=fun he=>by
  rw[he];exact VR.mono (kept_imm e h2) _ (Mu.le_refl _) h.cl0
 cases a with
 | sl b sz0 i len cap =>
  simp only[Abs.frz0]
  split
  ·simp[VR]
  ·rename_i hbn
   split
   ·rename_i sz el els hb
    split
    ·rename_i hc
     simp only[VR]at h
     obtain⟨B,cap',hmu,hle,rfl⟩:=h
     have hbr:=h2.blk b _ hb
     have hsz:sz0=sz:=by
      obtain⟨B',h1,_⟩:=hbr
      rw[hmu]at h1;cases h1;rfl
     subst hsz
     obtain⟨cs,h5,h6⟩:=hbr.part (i:=i) (len:=len) hmu
     have hnew:¬B<w.heap.size:=by
      rcases e.mun.new b B sz0 hmu with h3 | h3
      ·have:=hmn b (by omega)
       have h3':m b=some (B,sz0):=h3
       rw[this]at h3';cases h3'
      ·omega
     have hres:g2.ow B≠some .res:=by rw[h2.free b B sz0 (by omega) hmu];simp
     have hl:(((els.drop i).take len).map Abs.cl1).length=len:=by simp[Nat.min_def];omega
     simp only[VR]
     refine⟨B,i*sz0,none,cap',cs,by rw[hl],.inr rfl,by simp,by simp,by omega,VRels.mono (kept_imm e h2) _ (Mu.le_refl _) h5,fun k v hk=>?_⟩
     simp only[Gh.kept,hnew,if_false,hres]
     exact h6 k v hk
    ·simp[VR]
   ·simp[VR]
 | _=>exact hother rfl
theorem VR.frz1(hmn:∀b,n≤b→m b=none)(e:Ev n (g.shutFor w.heap.size n m) w g2 w')(h2:MR g2 n H' w'){a:AV}{c:Value}(h:VR g2.imm g2.mu a c):VR (g.kept g2 w.heap.size w' d).imm noMu (Abs.frz1 n H' a) c:=by
 cases a with
 | agg l =>
  simp only[VR,Abs.frz1]at h ⊢
  obtain⟨cs,rfl,h3,h4⟩:=h
  exact⟨cs,rfl,h3.map fun a c h=>h.frz0 hmn e h2,h4⟩
 | _=>exact VR.frz0 hmn e h2 h
theorem SR.frz(hmn:∀b,n≤b→m b=none)(e:Ev n (g.shutFor w.heap.size n m) w g2 w')(h2:MR g2 n H' w'){v:AV}{c:Value}(h:SR g2 w' .res v c):SR (g.kept g2 w.heap.size w' d) w' d (Abs.frz n H' v) c:=by
 cases hown:isOwn v with
 | true =>
  obtain⟨sz,els,rfl⟩:=isOwn_spec hown
  obtain⟨B,cap,cs,h1,h3,h4,h5,h6,h7,h8⟩:=h
  have hnew:¬B<w.heap.size:=fun hB=>(shut_old e hB).1 h6
  have hi:=kept_imm (d:=d) e h2
  refine⟨B,cap,cs,h1,h3,VRels.mono hi _ (Mu.le_refl _) h4,h5.mono hi,by simp[Gh.kept,hnew,h6],fun o ho=>?_,h8⟩
  simp only[Gh.kept,hnew,if_false,h6,if_true];exact h7 o ho
 | false =>
  have hv:=(SR_notOwn hown).1 h
  have hup:∀ {x},VR (g.kept g2 w.heap.size w' d).imm noMu x c→SR (g.kept g2 w.heap.size w' d) w' d x c:=fun hx=>(VR.mono (Imm.le_refl _) _ (noMu_le _) hx).sr
  cases v with
  | tup l =>
   refine hup ?_
   simp only[VR,Abs.frz]at hv ⊢
   obtain⟨cs,rfl,h3⟩:=hv
   exact⟨cs,rfl,h3.map fun a c h=>h.frz1 hmn e h2⟩
  | vec sz k els =>
   refine hup ?_
   have:=VR.mono (kept_imm (d:=d) e h2) _ (Mu.le_refl _) hv
   simpa [Abs.frz,VR] using this
  | _=>exact hup (VR.frz1 hmn e h2 hv)
end
variable {P:Program}
abbrev Fr(r:Option Nat):Fence:={ Fence.wide with round:=r }
def Marks(n0:Nat)(g:Gh)(w:World)(ds:List Deferred):Prop :=
 n0≤w.heap.size∧∃rs:List Nat,ds=rs.map (fun r=>{ target:=.collected r,args:=#[] })∧rs.Nodup∧∀r∈rs,n0≤r∧g.ow r=some .oth∧w.heap[r]?=some (.deferred (some []))
theorem Marks.ev{n0 ro:Nat}{g g':Gh}{w w':World}{ds:List Deferred}(h:Marks n0 g w ds)(e:Ev ro g w g' w'):Marks n0 g' w' ds:=by
 obtain⟨h0,rs,h1,h2,h3⟩:=h
 refine⟨Nat.le_trans h0 e.size,rs,h1,h2,fun r hr=>?_⟩
 obtain⟨a,b,c⟩:=h3 r hr
 obtain⟨d1,_,d3⟩:=e.prot r .oth b trivial
 exact⟨a,d1,by rw[d3];exact c⟩
theorem Marks.nil{n0:Nat}{g:Gh}{w:World}(h:n0≤w.heap.size):Marks n0 g w []:=⟨h,[],rfl,List.nodup_nil,by simp⟩
def InRound(r:Option Nat)(w:World):Prop:=∀L,r=some L→∃lr:Loop,w.heap[L]?=some (Obj.loop lr)
theorem InRound.ev{r:Option Nat}{ro:Nat}{g g':Gh}{w w':World}(h:InRound r w)(e:Ev ro g w g' w'):InRound r w':=fun L hL=>by
 obtain⟨lr,h1⟩:=h L hL
 obtain⟨lr',h2,_⟩:=e.loops L lr h1
 exact⟨lr',h2⟩
def CallPost(ro:Nat)(H':Hp)(v:AV)(g:Gh)(w:World):Ending→World→Prop
 | .returned c,w'=>∃g',MR g' ro H' w'∧Ev ro g w g' w'∧SR g' w' .res v c
 | _,_=>False
def CodeOk(P:Program)(ro nt:Nat)(c:Code)(fr:PT)(H:Hp)(e:Ex)(fr':PT)(H':Hp):Prop :=
 ∀(r:Option Nat)(n n0:Nat)(g:Gh)(a:Act)(w:World),Rel g ro nt fr H a.tmps w→Marks n0 g w a.defers→InRound r w→
  ∀Q:Exit→Act→World→Prop,(∀a' w' g',Rel g' ro nt fr' H' a'.tmps w'→Marks n0 g' w' a'.defers→Ev ro g w g' w'→Q e.conc a' w')→c.wpIn (Fr r) n P Q a w
def LoopOk(P:Program)(k ro nt:Nat)(c:Code)(fr:PT)(H:Hp)(e:Ex)(fr':PT)(H':Hp):Prop :=
 ∀(r:Option Nat)(n n0:Nat)(g:Gh)(a:Act)(w:World),Rel g ro nt fr H a.tmps w→Marks n0 g w a.defers→InRound r w→
  ∀Q:Exit→Act→World→Prop,(∀a' w' g',Rel g' ro nt fr' H' a'.tmps w'→Marks n0 g' w' a'.defers→Ev ro g w g' w'→Q e.conc a' w')→Code.roundsIn (Fr r) n P c Q k a w
structure HdOk(P:Program)(k:Nat)(h:Hd):Prop where
 call:∀ {ro:Nat} {f:FuncId} {args:List AV} {H:Hp} {v:AV} {H':Hp},h.call ro f args H=some (v,H')→
  (∀(w:World)(cargs:Array Value),(callFunc f cargs).run P w=.ok (.enter f cargs) w)∧
  ∀ {g:Gh} {w:World} {cargs:Array Value},MR g ro H w→VRs g.imm g.mu args cargs.toList→∀n,CallsIn Fence.wide n P f cargs w (CallPost ro H' v g w)
 loop:∀ {ro:Nat} {fn:FuncId} {nt:Nat} {c:Code} {fr:PT} {H:Hp} {e:Ex} {fr':PT} {H':Hp},h.loop ro fn nt c fr H=some (e,fr',H')→LoopOk P k ro nt c fr H e fr' H'
 code:∀ {ro:Nat} {fn:FuncId} {nt:Nat} {c:Code} {fr:PT} {H:Hp} {e:Ex} {fr':PT} {H':Hp},h.code ro fn nt c fr H=some (e,fr',H')→CodeOk P ro nt c fr H e fr' H'
theorem hdOk_none:HdOk P 0 Hd.none:=⟨fun h=>(by cases h),fun h=>(by cases h),fun h=>(by cases h)⟩
def DonePost(ro:Nat)(H':Hp)(v:AV)(d:Loc)(g:Gh)(w:World):Ending→World→Prop
 | .returned c,w'=>∃g',MR g' ro H' w'∧Evs ro g w g' w'∧SR g' w' d v c
 | _,_=>False
theorem docall_ok{k:Nat}{h:Hd}(hh:HdOk P k h){ro:Nat}{f:FuncId}{args:List AV}{H H':Hp}{v:AV}{wy:Way}{g:Gh}{w:World}{cargs:Array Value}(hm:MR g ro H w)(ha:VRs g.imm g.mu args cargs.toList)
  (hd:docall h ro f args H wy=some (v,H')) (d:Loc):
  (∀(w:World)(cargs:Array Value),(callFunc f cargs).run P w=.ok (.enter f cargs) w)∧∀n,CallsIn Fence.wide n P f cargs w (DonePost ro H' v d g w):=by
 cases wy with
 | full =>
  simp only[docall]at hd
  obtain⟨h1,h2⟩:=hh.call hd
  refine⟨h1,fun n=>(h2 (g:=g.lend) hm.lend (ha.map fun a c h=>h.drp) n).mono fun e w' he=>?_⟩
  cases e with
  | returned c =>
   obtain⟨g2,k1,k2,k3⟩:=he
   exact⟨g.back g2 d,MR.back hm k1 k2,Evs.back k2,SR.back k2 k3⟩
  | panicked _=>exact he
  | outgrown=>exact he
 | quiet =>
  simp only[docall,purely]at hd
  split at hd
  ·rename_i v0 H0 hc
   cases hd
   obtain⟨h1,h2⟩:=hh.call hc
   refine⟨h1,fun n=>(h2 hm.quiet (ha.map fun a c h=>h.drp) n).mono fun e w' he=>?_⟩
   cases e with
   | returned c =>
    obtain⟨g2,k1,k2,k3⟩:=he
    exact⟨_,MR.kept (d:=d) hm k2 k1,Evs.kept hm k2 k1,SR.frz (fun b hb=>hm.dom b hb) k2 k1 k3⟩
   | panicked _=>exact he
   | outgrown=>exact he
  ·cases hd
 | pure =>
  simp only[docall,purely]at hd
  split at hd
  ·rename_i v0 H0 hc
   cases hd
   obtain⟨h1,h2⟩:=hh.call hc
   refine⟨h1,fun n=>(h2 hm.pureCall (ha.map fun a c h=>h.cl2) n).mono fun e w' he=>?_⟩
   cases e with
   | returned c =>
    obtain⟨g2,k1,k2,k3⟩:=he
    exact⟨_,MR.kept (d:=d) hm k2 k1,Evs.kept hm k2 k1,SR.frz (fun b hb=>rfl) k2 k1 k3⟩
   | panicked _=>exact he
   | outgrown=>exact he
  ·cases hd
theorem loopW_ok{ro:Nat}{g:Gh}{H:Hp}{w:World}{b:Nat}{blk:ABlock}{r':ALoop}{lr lr':Loop}(hm:MR g ro H w)(hro:ro≤b)(hb:H[b]?=some blk){B sz:Nat}(hmu:g.mu b=some (B,sz))(hh:w.heap[B]?=some (.loop lr))(hr:LR g r' lr')(hd:lr'.defers=lr.defers):
  MR g ro (H.set b (.loop r')) (w.putObj B (.loop lr'))∧Evs ro g w g (w.putObj B (.loop lr')):=by
 have how:g.ow B=none:=hm.free b B sz hro hmu
 have hlt:B<w.heap.size:=hm.lt b B sz hmu
 have k:Keeps g w g (w.putObj B (.loop lr')) (fun B'=>B'=B) :=
  ⟨Imm.le_refl _,.refl _ _,by simp,fun B' _ hB'=>⟨rfl,fun _=>rfl,World.putObj_heap_other hB'⟩,⟨rfl,rfl,rfl⟩⟩
 have himm:∀o,g.imm B o=none:=by
  intro o
  cases hi:g.imm B o with
  | none=>rfl
  | some v=>have:=hm.imm B o v hi;simp[World.cell?,hh]at this
 constructor
 ·refine hm.change k b ?_ rfl ?_ (fun _ _ _ _=>rfl) (fun b' hb'=>by rw[List.getElem?_set_ne (Ne.symm hb')]) (by simp) ?_ ?_ ?_
  ·intro B' o v hv
   have hne:B'≠B:=by intro e;subst e;rw[himm]at hv;cases hv
   rw[cell_of_heap (World.putObj_heap_other hne)]
   exact hm.imm B' o v hv
  ·intro B' l hl;rw[World.putObj_size];exact hm.owlt B' l hl
  ·intro b' B' s hne hmu' e;subst e;exact hne (hm.inj b' b _ _ _ hmu' hmu)
  ·intro b' B' i' j' _ hB' e;subst e;rw[how]at hB';cases hB'
  ·intro blk' hblk
   rw[List.getElem?_set_self (lt_of_get hb)]at hblk
   cases hblk
   exact⟨B,sz,lr',hmu,World.putObj_heap_same hlt,hr⟩
 ·have hne:∀B' l,g.ow B'=some l→B'≠B:=by intro B' l hB' e;subst e;rw[how]at hB';cases hB'
  refine { imm:=k.imm,mun:=k.mun,size:=k.size,out:=k.out,prot:=?_,slots:=?_,loops:=?_ }
  ·intro B' l hB' _;exact⟨hB',fun _=>rfl,World.putObj_heap_other (hne B' l hB')⟩
  ·intro L lr0 hl
   by_cases e:L=B
   ·subst e
    rw[hh]at hl;cases hl
    exact⟨lr',World.putObj_heap_same hlt,hd⟩
   ·exact⟨lr0,by rw[World.putObj_heap_other e];exact hl,rfl⟩
  ·intro t B' hB';exact⟨hB',fun _=>rfl,World.putObj_heap_other (hne B' _ hB')⟩
def SlotsV(imm:Imm)(mu:Mu)(fr:PT)(tm:Array Value):Prop:=∀t,fr.get t=.dead∨∃v,tm[t]?=some v∧VR imm mu (fr.get t) v
theorem SlotsV.set{imm:Imm}{mu:Mu}{fr:PT}{tm:Array Value}(h:SlotsV imm mu fr tm){t:Tmp}{x:AV}{v:Value}(ht:t<tm.size)(h16:t<16000)(hx:VR imm mu x v):SlotsV imm mu (fr.set t x) (tm.setIfInBounds t v):=by
 intro s
 by_cases e:t=s
 ·subst e
  right
  rw[PT.get_set_eq h16]
  exact⟨v,by simp[ht],hx⟩
 ·rw[PT.get_set_ne e]
  rcases h s with h1 | ⟨u,h1,h2⟩
  ·exact .inl h1
  ·exact .inr ⟨u,by rw[Array.getElem?_setIfInBounds_ne e];exact h1,h2⟩
theorem setArgs_ok{imm:Imm}{mu:Mu}:∀(ps:List Tmp) {as:List AV} {cs:List Value} {fr:PT} {tm:Array Value},VRs imm mu as cs→SlotsV imm mu fr tm→(∀p∈ps,p<tm.size∧p<16000)→
  SlotsV imm mu (setArgs (ps.zip as) fr) ((ps.zip cs).foldl (fun tmps (x:Tmp×Value)=>tmps.setIfInBounds x.1 x.2) tm)∧((ps.zip cs).foldl (fun tmps (x:Tmp×Value)=>tmps.setIfInBounds x.1 x.2) tm).size=tm.size
 | [],_,_,_,_,_,h,_=>⟨h,rfl⟩
 | p::ps,[],cs,fr,tm,ha,h,_=>by
  rw[VRs_nil ha];exact⟨h,rfl⟩
 | p::ps,a::as,cs,fr,tm,ha,h,hp=>by
  obtain⟨c,cs',rfl,h1,h2⟩:=VRs_cons ha
  simp only[List.zip_cons_cons,setArgs,List.foldl_cons]
  obtain⟨k1,k2⟩:=setArgs_ok ps h2 (h.set (hp p (by simp)).1 (hp p (by simp)).2 h1.drp) fun q hq=>by
   rw[Array.size_setIfInBounds];exact hp q (by simp[hq])
  exact⟨k1,by rw[k2,Array.size_setIfInBounds]⟩
theorem Evs.trans{ro:Nat}{g g' g'':Gh}{w w' w'':World}(h:Evs ro g w g' w')(k:Evs ro g' w' g'' w''):Evs ro g w g'' w'' :=
 { toEv:=h.toEv.trans k.toEv,slots:=fun t B hB=>by
    obtain⟨a1,a2,a3⟩:=h.slots t B hB
    obtain⟨b1,b2,b3⟩:=k.slots t B a1
    exact⟨b1,fun o=>by rw[b2,a2],by rw[b3,a3]⟩ }
theorem LS.conc_ready{s:LS}(h:s=.ready):s.conc=.ready:=by rw[h];rfl
theorem round_ok{k:Nat}{h:Hd}(hh:HdOk P k h){ro l:Nat}{args:List AV}{H H':Hp}{v:AV}{g:Gh}{w:World}{cargs:Array Value}{c:Value}(hm:MR g ro H w)(ha:VRs g.imm g.mu args cargs.toList)(hl:VR g.imm g.mu (.yld l) c)
  (hd:round h ro l args H=some (v,H')) (d:Loc):
  ∃(L:Nat)(lr:Loop)(tm:Array Value),c=.func (.yield L) #[] #[]∧(Instr.yield L cargs).run P w=.ok (.round L lr.fn tm lr.assign lr.body) w∧∀n,RoundIn Fence.wide n P L lr.fn tm lr.assign lr.body w (DonePost ro H' v d g w):=by
 unfold round at hd
 split at hd
 ·cases hd
 ·rename_i hro
  have hro:ro≤l:=Nat.le_of_not_lt hro
  split at hd
  ·rename_i r hb
   split at hd
   ·rename_i hc
    obtain⟨hst,hal,hps⟩:=hc
    simp only[VR]at hl
    obtain⟨L,sz,hmu,rfl⟩:=hl
    obtain⟨L',sz',lr,h1,h2,h3⟩:=hm.blk l _ hb
    rw[hmu]at h1;cases h1
    have h3':=h3
    obtain⟨l1,l2,l3,l4,l5,l6,l7,l8⟩:=h3'
    have hsz:cargs.size=lr.params.size:=by
     have:=ha.length
     rw[l1];simp only[Array.length_toList]at this;simp[this,hal]
    refine⟨L,lr,_,rfl,run_yield h2 hsz,fun n=>?_⟩
    obtain⟨s1,s2⟩:=setArgs_ok r.params ha (fr:=r.fr) (tm:=lr.tmps) l8 (fun p hp=>by
     have:=List.all_eq_true.1 hps p hp
     have:p<r.nt:=by simpa using this
     exact⟨by rw[l6];exact this,Nat.lt_of_lt_of_le this l7⟩)
    have hfold:(lr.params.zip cargs).foldl (fun tmps (x:Tmp×Value)=>tmps.setIfInBounds x.1 x.2) lr.tmps=(r.params.zip cargs.toList).foldl (fun tmps (x:Tmp×Value)=>tmps.setIfInBounds x.1 x.2) lr.tmps:=by
     rw[l1,←Array.foldl_toList];simp
    unfold bodyRound at hd
    split at hd
    ·rename_i fr1 H1 hassign
     split at hd
     ·rename_i r1 hb1
      split at hd
      ·rename_i hst1
       cases hbody:h.code ro r.fn r.nt r.body fr1 (H1.set l (.loop { r1 with state:=.busy })) with
       | none=>rw[hbody]at hd;cases hd
       | some res =>
        obtain⟨e,fr2,H2⟩:=res
        rw[hbody]at hd
        simp only[endRound]at hd
        split at hd
        ·rename_i r2 hb2
         cases hd
         have hrel:Rel g.lend ro r.nt (setArgs (r.params.zip args) r.fr) H ((lr.params.zip cargs).foldl (fun tmps (x:Tmp×Value)=>tmps.setIfInBounds x.1 x.2) lr.tmps) w:=by
          rw[hfold]
          refine⟨by rw[s2,l6],l7,fun t=>?_,hm.lend⟩
          rcases s1 t with h | ⟨u,h4,h5⟩
          ·exact .inl h
          ·exact .inr ⟨u,h4,VR.sr (g:=g.lend) h5⟩
         refine roundIn_of_wpIn trivial ?_
         rw[l2]
         refine hh.code hassign (some L) n w.heap.size g.lend { tmps:=_,defers:=[] } w hrel (.nil (Nat.le_refl _)) (fun L' hL'=>by cases hL';exact⟨lr,h2⟩) _ fun a1 w1 g1 hr1 hm1 e1=>?_
         obtain⟨L1,sz1,lr1,q1,q2,q3⟩:=hr1.mem.blk l _ hb1
         have hmu1:g1.mu l=some (L,sz):=e1.mu _ _ hmu
         rw[hmu1]at q1;cases q1
         have hrs:lr1.state=.ready:=by rw[q3.2.2.2.1,LS.conc_ready hst1]
         refine⟨_,run_beginRound q2 hrs,?_⟩
         have q3':LR g1 { r1 with state:=.busy } { lr1 with state:=.busy }:=⟨q3.1,q3.2.1,q3.2.2.1,rfl,q3.2.2.2.2.1,q3.2.2.2.2.2.1,q3.2.2.2.2.2.2.1,q3.2.2.2.2.2.2.2⟩
         obtain⟨m1,m2⟩:=loopW_ok hr1.mem hro hb1 hmu1 q2 q3' rfl
         have hrel2:Rel g1 ro r.nt fr1 (H1.set l (.loop { r1 with state:=.busy })) a1.tmps (w1.putObj L (.loop { lr1 with state:=.busy })):=by
          refine⟨hr1.size,hr1.nt_le,fun t=>?_,m1⟩
          rcases hr1.slots t with h | ⟨u,h4,h5⟩
          ·exact .inl h
          ·exact .inr ⟨u,h4,h5.mono m2.imm m2.mun.le fun B hB=>m2.slots t B hB⟩
         rw[l3]
         refine hh.code hbody (some L) n w.heap.size g1 a1 _ hrel2 (hm1.ev m2.toEv) (fun L' hL'=>by cases hL';exact⟨_,World.putObj_heap_same (hr1.mem.lt _ _ _ hmu1)⟩) _ fun a2 w2 g2 hr2 hm2 e2=>?_
         have hmu2:g2.mu l=some (L,sz):=e2.mu _ _ hmu1
         obtain⟨L2,sz2,lr2,p1,p2,p3⟩:=hr2.mem.blk l _ hb2
         rw[hmu2]at p1;cases p1
         have eall:Ev ro g.lend w g2 w2:=(e1.trans m2.toEv).trans e2
         have fin:∀(jump:Option Code),jump=(if e=.normal then none else some e).bind Ex.code→jump.isNone=decide (e=.normal)→
           ∃v w',(Instr.endRound L jump).run P w2=.ok v w'∧DonePost ro (H2.set l (.loop { r2 with state:=if e=.normal then .ready else .done,pending:=if e=.normal then none else some e })) (.lit (.bool (e == .normal))) d g w (.returned v) w':=by
          intro jump hj hjn
          have p3':LR g2 { r2 with state:=if e=.normal then .ready else .done,pending:=if e=.normal then none else some e } { lr2 with state:=if jump.isNone then .ready else .done,pending:=jump }:=by
           refine⟨p3.1,p3.2.1,p3.2.2.1,?_,hj,p3.2.2.2.2.2.1,p3.2.2.2.2.2.2.1,p3.2.2.2.2.2.2.2⟩
           simp only[hjn]
           by_cases he:e=.normal<;>simp[he,LS.conc]
          obtain⟨z1,z2⟩:=loopW_ok hr2.mem hro hb2 hmu2 p2 p3' rfl
          refine⟨_,_,run_endRound jump p2,g.back g2 d,MR.back hm z1 (eall.trans z2.toEv),Evs.back (eall.trans z2.toEv),?_⟩
          refine VR.sr ?_
          simp only[VR,hjn]
          cases e<;>rfl
         cases e with
         | normal=>exact fin none (by simp) (by simp)
         | exit id=>exact fin (some (.exit id)) (by simp[Ex.code]) (by simp)
         | ret=>exact fin (some .ret) (by simp[Ex.code]) (by simp)
        ·cases hd
      ·cases hd
     ·cases hd
    ·cases hd
   ·cases hd
  ·cases hd
variable {P:Program}
theorem put_tmps(a:Act)(dst:Option Tmp)(c:Value):(a.put dst c).tmps=putT a.tmps dst c:=by cases dst<;>rfl
theorem put_defers(a:Act)(dst:Option Tmp)(c:Value):(a.put dst c).defers=a.defers:=by cases dst<;>rfl
def OpWp(r:Option Nat)(n:Nat)(P:Program)(ops:Array Oper)(o:Oper)(a:Act)(w:World)(next:Act→World→Prop)(Q:Exit→Act→World→Prop):Prop :=
 if Region.wanted o (yielded ops a.tmps) then o.wpIn (Fr r) n P a w next Q else (∀f,o.about P w a.eval=some f→(Fr r).fn f)∧next (a.put o.dst undef) w
theorem wants_ok{g:Gh}{ro nt:Nat}{fr:PT}{H:Hp}{a:Act}{w:World}{ops:Array Oper}{o:Oper}{b:Bool}(h:Rel g ro nt fr H a.tmps w)(hw:wants ops fr o=some b):Region.wanted o (yielded ops a.tmps)=b:=by
 unfold wants at hw
 unfold Region.wanted
 split at hw
 ·rename_i hg
  cases hw
  rw[hg]
 ·rename_i j want hg
  rw[hg]
  simp only
  unfold yielded
  split at hw
  ·cases hw
  ·rename_i d hd
   rw[hd]
   simp only[Option.bind_some]
   rcases h.slots d with h1 | ⟨v,h1,h2⟩
   ·rw[h1]at hw;simp[wantsV]at hw
   ·rw[h1]
    have h3:=h2.shr
    unfold wantsV at hw
    split at hw
    ·rename_i b' hv
     cases hw
     rw[hv]at h3
     have:=VR_lit h3
     subst this
     rfl
    ·rename_i hv
     cases hw
     rw[hv]at h3
     simp only[shr,VR,VRs]at h3
     obtain⟨cs,rfl,rfl⟩:=h3
     rfl
    ·cases hw
theorem Rel.effed{g:Gh}{ro nt:Nat}{fr fr':PT}{H:Hp}{a:Act}{w:World}{o:Oper}{e:Eff}(hR:Rel g ro nt fr H a.tmps w)(hok:OpOk P ro g H w o a e)(hf:putD nt o.dst e.v (unownT e.un fr)=some fr'):
  ∃(c:Value)(nx:Next)(w':World)(g':Gh),(execOp a.eval o).run P w=.ok nx w'∧(nx=.value c∨(nx=.skip∧c=undef))∧Rel g' ro nt fr' (putB H e.up) (a.put o.dst c).tmps w'∧Ev ro g w g' w':=by
 obtain⟨⟨c,nx,w',g',X,h1,h2,h3,h4,h5,h6,h7,h8⟩,hun⟩:=hok
 refine⟨c,nx,w',g',h1,h2,?_,h3.ev hR.mem.owlt h6 h7⟩
 rw[put_tmps]
 exact hR.put h3 h4 hun (fun t B hB hX=>h5 t B hB hX) (fun d hd=>by rw[hd]at h8;exact h8) hf
theorem step_ok{cx:Cx}{k:Nat}{h:Hd}(hT:TOk P cx.T)(hh:HdOk P k h){ro nt nm:Nat}{fn:FuncId}{ops:Array Oper}{g:Gh}{fr fr':PT}{H H':Hp}{w:World}{o:Oper}{a:Act}{fp:Fp}(hR:Rel g ro nt fr H a.tmps w)
  (hs:step cx h ro fn nt ops nm fr H (some o)=some (fp,fr',H')) {r:Option Nat} {n:Nat} {next:Act→World→Prop} {Q:Exit→Act→World→Prop}
  (hq:∀a' w' g',Rel g' ro nt fr' H' a'.tmps w'→a'.defers=a.defers→Ev ro g w g' w'→next a' w'):OpWp r n P ops o a w next Q:=by
 simp only[step]at hs
 unfold OpWp
 cases hw:wants ops fr o with
 | none=>rw[hw]at hs;simp[stepG]at hs
 | some b =>
  rw[hw]at hs
  rw[wants_ok hR hw]
  cases b with
  | false =>
   simp only[stepG,stepped]at hs
   simp only[Bool.false_eq_true,if_false]
   refine⟨fun _ _=>trivial,?_⟩
   cases hf:putD nt o.dst (.tup []) fr with
   | none=>rw[hf]at hs;cases hs
   | some fr1 =>
    rw[hf]at hs
    cases hs
    refine hq _ _ g ?_ (put_defers _ _ _) (Ev.refl _ _ _)
    rw[put_tmps]
    exact hR.after { toEv:=Ev.refl _ _ _,slots:=fun t B hB=>⟨hB,fun _=>rfl,rfl⟩ } hR.mem (fun d hd=>undef_tup.sr) hf
  | true =>
   simp only[stepG,stepO]at hs
   simp only[if_true]
   refine⟨fun _ _=>trivial,?_⟩
   split at hs
   ·
    rename_i f args hc
    have hop:∃c:Call,o.op=.call c∧c.callee=.value f∧args=c.args.toList:=by
     unfold calleeOf at hc
     split at hc
     ·rename_i c hop
      split at hc
      ·rename_i f' hf'
       cases hc
       exact⟨c,hop,hf',rfl⟩
      ·cases hc
     ·cases hc
    obtain⟨c,hop,hcal,rfl⟩:=hop
    rw[Oper.semAt_eq _ _ _ (by rw[hop];simp)]
    have hf:=hR.eval (a:=a) f
    have hargs:=hR.evals (a:=a) c.args.toList
    have hcargs:VRs g.imm g.mu (c.args.toList.map (ev fr)) (c.args.map a.eval).toList:=by simpa using hargs
    have hfin:∀ {v:AV} {H1:Hp} {fr1:PT} (hp:putD nt o.dst v fr=some fr1) {e:Ending} {w':World},DonePost ro H1 v (.slot (o.dst.getD 0)) g w e w'→fr1=fr'→H1=H'→
      (match e,w' with
       | .returned v,w''=>next (a.put o.dst v) w''
       | .panicked chain,w''=>Q (.panic chain) a w''
       | .outgrown,_=>LetsOut Q):=by
     intro v H1 fr1 hp e w' hd h1 h2
     subst h1;subst h2
     cases e with
     | returned c' =>
      obtain⟨g',k1,k2,k3⟩:=hd
      refine hq _ _ g' ?_ (put_defers _ _ _) k2.toEv
      rw[put_tmps]
      exact hR.after k2 k1 (fun d hd=>by rw[hd]at k3;exact k3) hp
     | panicked _=>exact hd.elim
     | outgrown=>exact hd.elim
    unfold calls at hs
    split at hs
    ·
     rename_i f0 cap hfv
     rw[hfv]at hf
     simp only[VR]at hf
     obtain⟨cs,hfe,hcap⟩:=hf
     cases hd:docall h ro f0 (c.args.toList.map (ev fr)++cap) H (way cx f0 (c.args.toList.map (ev fr)++cap)) with
     | none=>rw[hd]at hs;simp[stepped]at hs
     | some res =>
      obtain⟨v,H1⟩:=res
      rw[hd]at hs
      simp only[stepped]at hs
      cases hp:putD nt o.dst v fr with
      | none=>rw[hp]at hs;cases hs
      | some fr1 =>
       rw[hp]at hs
       cases hs
       have hall:VRs g.imm g.mu (c.args.toList.map (ev fr)++cap) (#[]++c.args.map a.eval++cs.toArray).toList:=by
        simpa using hcargs.append hcap
       obtain⟨k1,k2⟩:=docall_ok hh hR.mem hall hd (.slot (o.dst.getD 0))
       have hrun:(execOp a.eval o).run P w=.ok (.enter f0 (#[]++c.args.map a.eval++cs.toArray)) w:=by
        simp only[execOp,hop,resolve,hcal,hfe,Deferred.ofValue,Sem.run_bind,Sem.run_pure,Result.andThen,invoke,k1]
       rw[hrun,Oper.uponIn_enter]
       refine⟨fun hx=>(by simp[Fr,Fence.wide]at hx),CallsIn.mono (k2 _) fun e w' he=>?_⟩
       have:=hfin hp he rfl rfl
       cases e<;>exact this
    ·
     rename_i l hfv
     rw[hfv]at hf
     cases hd:round h ro l (c.args.toList.map (ev fr)) H with
     | none=>rw[hd]at hs;simp[stepped]at hs
     | some res =>
      obtain⟨v,H1⟩:=res
      rw[hd]at hs
      simp only[stepped]at hs
      cases hp:putD nt o.dst v fr with
      | none=>rw[hp]at hs;cases hs
      | some fr1 =>
       rw[hp]at hs
       cases hs
       obtain⟨L,lr,tm,k1,k2,k3⟩:=round_ok (cargs:=#[]++c.args.map a.eval) hh hR.mem (by simpa using hcargs) hf hd (.slot (o.dst.getD 0))
       have hrun:(execOp a.eval o).run P w=.ok (.round L lr.fn tm lr.assign lr.body) w:=by
        simp only[execOp,hop,resolve,hcal,k1,Deferred.ofValue,Sem.run_bind,Sem.run_pure,Result.andThen,invoke,k2]
       rw[hrun,Oper.uponIn_round]
       refine⟨fun hx=>(by simp[Fr,Fence.wide]at hx),RoundIn.mono (k3 _) fun e w' he=>?_⟩
       have:=hfin hp he rfl rfl
       cases e<;>exact this
    ·cases hs
   ·
    rename_i hc
    cases hl:lop cx ro fn ops nm fr H (o.dst.getD 0) o.op with
    | none=>rw[hl]at hs;simp[Go.Abs.effed]at hs
    | some e =>
     rw[hl]at hs
     simp only[Go.Abs.effed]at hs
     cases hp:putD nt o.dst e.v (unownT e.un fr) with
     | none=>rw[hp]at hs;cases hs
     | some fr1 =>
      rw[hp]at hs
      cases hs
      obtain⟨c,nx,w',g',h1,h2,h3,h4⟩:=hR.effed (lop_ok (nm:=nm) hT hR hl) hp
      rw[Oper.semAt_eq _ _ _ (by intro c hcc;rw[hcc]at hl;simp[lop]at hl),h1]
      rcases h2 with rfl | ⟨rfl,rfl⟩
      ·rw[Oper.uponIn_value];exact hq _ _ g' h3 (put_defers _ _ _) h4
      ·rw[Oper.uponIn_skip];exact hq _ _ g' h3 (put_defers _ _ _) h4
theorem run_ok{cx:Cx}{k:Nat}{h:Hd}(hT:TOk P cx.T)(hh:HdOk P k h){ro nt:Nat}{nm:Hp→Nat→Nat}{fn:FuncId}{ops:Array Oper}:∀(l:List Nat) {g:Gh} {fr fr':PT} {H H':Hp} {w:World} {a:Act} {fs:List (Nat×Fp)},Rel g ro nt fr H a.tmps w→
  run cx h ro fn nt ops nm l fr H=some (fs,fr',H')→∀ {r:Option Nat} {n:Nat} {Q:Exit→Act→World→Prop},
  (∀a' w' g',Rel g' ro nt fr' H' a'.tmps w'→a'.defers=a.defers→Ev ro g w g' w'→Q .normal a' w')→wpOpsIn (Fr r) n P ops Q l a w
 | [],g,fr,fr',H,H',w,a,fs,hR,hs,r,n,Q,hq=>by
  simp only[run,Option.some.injEq,Prod.mk.injEq]at hs
  obtain⟨_,rfl,rfl⟩:=hs
  exact hq a w g hR rfl (Ev.refl _ _ _)
 | i::l,g,fr,fr',H,H',w,a,fs,hR,hs,r,n,Q,hq=>by
  simp only[run]at hs
  cases hst:step cx h ro fn nt ops (nm H i) fr H ops[i]? with
  | none=>rw[hst]at hs;cases hs
  | some res =>
   obtain⟨f,fr1,H1⟩:=res
   rw[hst]at hs
   simp only at hs
   cases ho:ops[i]? with
   | none=>rw[ho]at hst;simp[step]at hst
   | some o =>
    rw[ho]at hst
    have hrest:∃fs',run cx h ro fn nt ops nm l fr1 H1=some (fs',fr',H'):=by
     cases hr:run cx h ro fn nt ops nm l fr1 H1 with
     | none=>rw[hr]at hs;simp[cons1]at hs
     | some res=>obtain⟨fs',r'⟩:=res;rw[hr]at hs;simp only[cons1,Option.some.injEq,Prod.mk.injEq]at hs;obtain⟨_,rfl⟩:=hs;exact⟨fs',rfl⟩
    obtain⟨fs',hrest⟩:=hrest
    simp only[wpOpsIn,ho]
    exact step_ok (next:=wpOpsIn (Fr r) n P ops Q l) hT hh hR hst fun a1 w1 g1 h1 h2 h3 =>
     run_ok hT hh l h1 hrest fun a2 w2 g2 k1 k2 k3=>hq a2 w2 g2 k1 (k2.trans h2) (h3.trans k3)
variable {P:Program} {imm:Imm} {mu:Mu}
def Mu.upto(mu:Mu)(n:Nat):Mu:=fun b=>if b<n then mu b else none
theorem upto_lt{mu:Mu}{n b:Nat}{x:Nat×Nat}(h:mu b=some x)(hb:b<n):mu.upto n b=some x:=by simp[Mu.upto,hb,h]
theorem upto_le(mu:Mu)(n:Nat):(mu.upto n).le mu:=fun b x h=>by
 simp only[Mu.upto]at h
 split at h
 ·exact h
 ·cases h
theorem VR.kill0(n:Nat):∀ {a:AV} {c:Value},VR imm mu a c→VR imm (mu.upto n) (kill0 n a) c
 | .ptr b i j,c,h=>by
  simp only[Abs.kill0]
  split
  ·rename_i hb
   simp only[VR]at h ⊢
   obtain⟨B,sz,h1,h2⟩:=h
   exact⟨B,sz,upto_lt h1 hb,h2⟩
  ·simp[VR]
 | .sl b z i l c',c,h=>by
  simp only[Abs.kill0]
  split
  ·rename_i hb
   simp only[VR]at h ⊢
   obtain⟨B,cap,h1,h2⟩:=h
   exact⟨B,cap,upto_lt h1 hb,h2⟩
  ·simp[VR]
 | .isl b i j e l,c,h=>by
  simp only[Abs.kill0]
  split
  ·rename_i hb
   simp only[VR]at h ⊢
   obtain⟨B,sz,h1,h2⟩:=h
   exact⟨B,sz,upto_lt h1 hb,h2⟩
  ·simp[VR]
 | .yld b,c,h=>by
  simp only[Abs.kill0]
  split
  ·rename_i hb
   simp only[VR]at h ⊢
   obtain⟨B,sz,h1,h2⟩:=h
   exact⟨B,sz,upto_lt h1 hb,h2⟩
  ·simp[VR]
 | .mp b,c,h=>by
  simp only[Abs.kill0]
  split
  ·rename_i hb
   simp only[VR]at h ⊢
   obtain⟨B,sz,h1,h2⟩:=h
   exact⟨B,sz,upto_lt h1 hb,h2⟩
  ·simp[VR]
 | .fn f cap,c,h=>by
  simp only[Abs.kill0]
  split
  ·rename_i hall
   simp only[VR]at h ⊢
   obtain⟨cs,rfl,h1⟩:=h
   refine⟨cs,rfl,VRs.of h1.length fun i a c ha hc=>?_⟩
   obtain⟨c',h2,h3⟩:=h1.get ha
   rw[hc]at h2;cases h2
   have:=List.all_eq_true.1 hall a (List.mem_of_getElem? ha)
   split at this
   ·rename_i b i' j'
    simp only[decide_eq_true_eq]at this
    simp only[VR]at h3 ⊢
    obtain⟨B,sz,h4,h5⟩:=h3
    exact⟨B,sz,upto_lt h4 this,h5⟩
   ·cases this
  ·simp[VR]
 | .dead,_,h=>by simp[Abs.kill0,VR]
 | .lit _,_,h=>by simpa [Abs.kill0,VR] using h
 | .vp ..,_,h=>by simpa [Abs.kill0,VR] using h
 | .vec ..,_,h=>by simpa [Abs.kill0,VR] using h
 | .agg l,c,h=>by simp[Abs.kill0,VR]
 | .tup l,c,h=>by simp[Abs.kill0,VR]
theorem VR.kill1(n:Nat){a:AV}{c:Value}(h:VR imm mu a c):VR imm (mu.upto n) (kill1 n a) c:=by
 cases a with
 | agg l =>
  simp only[VR,Abs.kill1]at h ⊢
  obtain⟨cs,rfl,h1,h2⟩:=h
  exact⟨cs,rfl,h1.map fun a c h=>h.kill0 n,h2⟩
 | _=>exact VR.kill0 n h
theorem VR.kill(n:Nat){a:AV}{c:Value}(h:VR imm mu a c):VR imm (mu.upto n) (kill n a) c:=by
 cases a with
 | tup l =>
  simp only[VR,Abs.kill]at h ⊢
  obtain⟨cs,rfl,h1⟩:=h
  exact⟨cs,rfl,h1.map fun a c h=>h.kill1 n⟩
 | _=>exact VR.kill1 n h
def Gh.upto(g:Gh)(n:Nat):Gh:={ g with mu:=g.mu.upto n }
theorem SR.own_upto{g:Gh}{w:World}{loc:Loc}{n sz:Nat}{els:List AV}{v:Value}(h:SR g w loc (.vec sz .own els) v):SR (g.upto n) w loc (.vec sz .own els) v:=h
theorem SR.kill0(n:Nat){g:Gh}{w:World}{loc:Loc}{a:AV}{v:Value}(h:SR g w loc a v):SR (g.upto n) w loc (kill0 n a) v:=by
 cases hown:isOwn a with
 | true=>obtain⟨sz,els,rfl⟩:=isOwn_spec hown;exact h.own_upto
 | false=>exact VR.sr (g:=g.upto n) (VR.kill0 n ((SR_notOwn hown).1 h))
theorem SR.kill1(n:Nat){g:Gh}{w:World}{loc:Loc}{a:AV}{v:Value}(h:SR g w loc a v):SR (g.upto n) w loc (kill1 n a) v:=by
 cases hown:isOwn a with
 | true=>obtain⟨sz,els,rfl⟩:=isOwn_spec hown;exact h.own_upto
 | false=>exact VR.sr (g:=g.upto n) (VR.kill1 n ((SR_notOwn hown).1 h))
theorem SR.kill(n:Nat){g:Gh}{w:World}{loc:Loc}{a:AV}{v:Value}(h:SR g w loc a v):SR (g.upto n) w loc (Abs.kill n a) v:=by
 cases hown:isOwn a with
 | true=>obtain⟨sz,els,rfl⟩:=isOwn_spec hown;exact h.own_upto
 | false=>exact VR.sr (g:=g.upto n) (VR.kill n ((SR_notOwn hown).1 h))
theorem aggOf_kill0(n:Nat):∀(a:AV),aggOf (Abs.kill0 n a)=none:=by
 intro a
 cases a<;>simp only[Abs.kill0]<;>first | rfl | (split<;>rfl)
theorem ER.kill(n:Nat){g:Gh}{w:World}{B sz b i:Nat}{el:AV}(h:ER g w B sz b i el):ER (g.upto n) w B sz b i (Abs.kill1 n el):=by
 unfold ER at h
 cases ha:aggOf el with
 | some l =>
  rw[ha]at h
  obtain⟨h1,h2⟩:=h
  rw[aggOf_some ha]
  refine⟨by simpa using h1,fun j a hj=>?_⟩
  rw[List.getElem?_map]at hj
  cases hl:l[j]? with
  | none=>rw[hl]at hj;cases hj
  | some a' =>
   rw[hl]at hj
   cases hj
   obtain⟨c,h3,h4,h5⟩:=h2 j a' hl
   exact⟨c,h3,h4,h5.kill0 n⟩
 | none =>
  rw[ha]at h
  obtain⟨h1,c,h2,h3,h4⟩:=h
  have hk:Abs.kill1 n el=Abs.kill0 n el:=by cases el<;>first | rfl | simp[aggOf]at ha
  unfold ER
  rw[hk,aggOf_kill0]
  exact⟨h1,c,h2,h3,h4.kill0 n⟩
theorem LR.kill(n:Nat){g:Gh}{r:ALoop}{lr:Loop}(h:LR g r lr):LR (g.upto n) { r with fr:=r.fr.map (Abs.kill n) } lr:=by
 obtain⟨h1,h2,h3,h4,h5,h6,h7,h8⟩:=h
 refine⟨h1,h2,h3,h4,h5,h6,h7,fun t=>?_⟩
 simp only
 rw[PT.get_map rfl]
 rcases h8 t with h | ⟨v,ha,hb⟩
 ·left;rw[h];rfl
 ·exact .inr ⟨v,ha,hb.kill n⟩
theorem MapR.le{g g':Gh}(hi:g.imm.le g'.imm):∀ {l:List (AV×AV)} {es:List MapEntry},MapR g l es→MapR g' l es
 | [],es,h=>h
 | (k,v)::l,es,h=>by
  obtain⟨e,es',h1,h2,h3,h4⟩:=h
  exact⟨e,es',h1,VR.mono hi k (Mu.le_refl _) h2,VR.mono hi v (Mu.le_refl _) h3,MapR.le hi h4⟩
theorem BR.kill(n:Nat){g:Gh}{w:World}{b:Nat}{blk:ABlock}(hb:b<n)(h:BR g w b blk):BR (g.upto n) w b (killB n blk):=by
 cases blk with
 | cells sz e els =>
  obtain⟨B,h1,h2,h3,h4⟩:=h
  refine⟨B,upto_lt h1 hb,h2,h3,fun i el hel=>?_⟩
  rw[List.getElem?_map]at hel
  cases hl:els[i]? with
  | none=>rw[hl]at hel;cases hel
  | some el'=>rw[hl]at hel;cases hel;exact(h4 i el' hl).kill n
 | mapo es =>
  obtain⟨B,sz,mes,clock,h1,h2,h3⟩:=h
  exact⟨B,sz,mes,clock,upto_lt h1 hb,h2,MapR.le (g:=g) (g':=g.upto n) (Imm.le_refl _) h3⟩
 | loop r =>
  obtain⟨B,sz,lr,h1,h2,h3⟩:=h
  exact⟨B,sz,lr,upto_lt h1 hb,h2,h3.kill n⟩
 | gone=>trivial
 | res=>trivial
theorem MR.trim{g:Gh}{ro n:Nat}{H:Hp}{w:World}(h:MR g ro H w)(h1:ro≤n):MR (g.upto n) ro ((H.take n).map (killB n)) w:=by
 have hl:((H.take n).map (killB n)).length=min n H.length:=by simp
 have h0:=h.role
 refine⟨by omega,h.imm,?_,?_,?_,h.owlt,?_,?_,?_⟩
 ·intro b hb
  simp only[Gh.upto,Mu.upto]
  split
  ·exact h.dom b (by omega)
  ·rfl
 ·intro b b' B s s' hb hb';exact h.inj b b' B s s' (upto_le _ _ _ _ hb) (upto_le _ _ _ _ hb')
 ·intro b B s hb;exact h.lt b B s (upto_le _ _ _ _ hb)
 ·intro b B s hbr hb;exact h.prot b B s hbr (upto_le _ _ _ _ hb)
 ·intro b B s hbr hb;exact h.free b B s hbr (upto_le _ _ _ _ hb)
 ·intro b blk hb
  have hlt:=lt_of_get hb
  rw[hl]at hlt
  have hlt:b<n:=by omega
  rw[List.getElem?_map,List.getElem?_take,if_pos hlt]at hb
  cases hbb:H[b]? with
  | none=>rw[hbb]at hb;cases hb
  | some blk'=>rw[hbb]at hb;cases hb;exact(h.blk b blk' hbb).kill n hlt
theorem Rel.trim{g:Gh}{ro nt n:Nat}{fr:PT}{H:Hp}{tm:Array Value}{w:World}(h:Rel g ro nt fr H tm w)(h1:ro≤n):Rel (g.upto n) ro nt (fr.map (Abs.kill n)) ((H.take n).map (killB n)) tm w:=by
 refine⟨h.size,h.nt_le,fun t=>?_,h.mem.trim h1⟩
 rw[PT.get_map rfl]
 rcases h.slots t with hd | ⟨v,ha,hb⟩
 ·left;rw[hd];rfl
 ·exact .inr ⟨v,ha,hb.kill n⟩
theorem Ev.trim{ro n:Nat}{g0 g:Gh}{w0 w:World}(e:Ev ro g0 w0 g w)(hn:∀b x,g0.mu b=some x→b<n):Ev ro g0 w0 (g.upto n) w :=
 ⟨e.imm,⟨fun b x h=>upto_lt (e.mun.le b x h) (hn b x h),fun b B sz h=>e.mun.new b B sz (upto_le _ _ _ _ h)⟩,e.size,e.prot,e.loops,e.out⟩
variable {P:Program}
def Reorders(P:Program)(cx:Cx)(h:Hd):Prop :=
 P.follows .mixedOrders=true∧
 ∀ {ro:Nat} {fn:FuncId} {nt:Nat} {ops:Array Oper} {nm:Nat→Nat} {fr fr':PT} {H H':Hp} {fs:List (Nat×Fp)},forward ops=true→
  (∀(i:Nat)(o:Oper),ops[i]?=some o→isAlloc cx fn o=true→nm i<H.length)→
  run cx h ro fn nt ops (fun _ i=>nm i) (List.range ops.size) fr H=some (fs,fr',H')→apartAll (befores ops) fs=true→
  ∀t,∃fs',run cx h ro fn nt ops (fun _ i=>nm i) (Region.linearise .any ops t) fr H=some (fs',fr',H')
theorem MR.reserve{g:Gh}{ro:Nat}{H:Hp}{w:World}(h:MR g ro H w)(k:Nat):MR g ro (H++List.replicate k .res) w:=by
 refine⟨by have:=h.role;simp;omega,h.imm,fun b hb=>h.dom b (by simp at hb;omega),h.inj,h.lt,h.owlt,h.prot,h.free,fun b blk hb=>?_⟩
 rw[List.getElem?_append]at hb
 split at hb
 ·exact h.blk b blk hb
 ·rename_i hlt
  have:=List.mem_of_getElem? hb
  rw[(List.mem_replicate.1 this).2]
  exact h.dom b (by omega)
theorem Rel.reserve{g:Gh}{ro nt:Nat}{fr:PT}{H:Hp}{tm:Array Value}{w:World}(h:Rel g ro nt fr H tm w)(k:Nat):Rel g ro nt fr (H++List.replicate k .res) tm w :=
 ⟨h.size,h.nt_le,h.slots,h.mem.reserve k⟩
theorem Rel.drew{g:Gh}{ro nt:Nat}{fr:PT}{H:Hp}{tm:Array Value}{w:World}(h:Rel g ro nt fr H tm w):Rel g ro nt fr H tm w.drew :=
 ⟨h.size,h.nt_le,h.slots,h.mem.drew⟩
theorem Ev.undrew{ro:Nat}{g g':Gh}{w w':World}(h:Ev ro g w.drew g' w'):Ev ro g w g' w' :=
 ⟨h.imm,⟨h.mun.le,h.mun.new⟩,h.size,h.prot,h.loops,⟨h.out.os,h.out.tape,h.out.output⟩⟩
theorem region_ok{cx:Cx}{k:Nat}{h:Hd}(hT:TOk P cx.T)(hh:HdOk P k h)(hre:Reorders P cx h){ro:Nat}{fn:FuncId}{nt id:Nat}{ops:Array Oper}{draw:Bool}{fr fr':PT}{H H':Hp}
  (hr:region cx h ro fn nt ops fr H draw=some (fr',H')):CodeOk P ro nt (.region id ops draw) fr H .normal fr' H':=by
 intro r n n0 g a w hR hM hI Q hq
 cases draw with
 | false =>
  simp only[region]at hr
  cases hrun:run cx h ro fn nt ops (fun H _=>H.length) (List.range ops.size) fr H with
  | none=>rw[hrun]at hr;cases hr
  | some res =>
   obtain⟨fs,fr1,H1⟩:=res
   rw[hrun]at hr
   simp only[ranOnly,Option.some.injEq,Prod.mk.injEq]at hr
   obtain⟨rfl,rfl⟩:=hr
   exact wpIn_region (run_ok hT hh _ hR hrun fun a' w' g' h1 h2 h3=>hq a' w' g' h1 (by rw[h2];exact hM.ev h3) h3)
 | true =>
  simp only[region]at hr
  split at hr
  ·rename_i hfw
   cases hrun:run cx h ro fn nt ops (fun _ i=>H.length+((ops.toList.take i).filter (isAlloc cx fn)).length) (List.range ops.size) fr (H++List.replicate (ops.toList.filter (isAlloc cx fn)).length .res) with
   | none=>rw[hrun]at hr;cases hr
   | some res =>
    obtain⟨fs,fr1,H1⟩:=res
    rw[hrun]at hr
    simp only[ranAny]at hr
    split at hr
    ·rename_i hap
     simp only[Option.some.injEq,Prod.mk.injEq]at hr
     obtain⟨rfl,rfl⟩:=hr
     obtain⟨hmix,hre⟩:=hre
     refine wpIn_region_draw fun t=>?_
     have hsch:Region.schedule (P.follows .mixedOrders) ops t=Region.linearise .any ops t:=by simp[Region.schedule,hmix]
     rw[hsch]
     obtain⟨fs',hrun'⟩:=hre hfw (fun i o ho hal=>by
      simp only[List.length_append,List.length_replicate]
      have h1:ops.toList=ops.toList.take i++o::ops.toList.drop (i+1):=by
       have hlt:i<ops.toList.length:=by have:=(Array.getElem?_eq_some_iff.1 ho).1;simpa using this
       have he:ops.toList[i]=o:=by have:=(Array.getElem?_eq_some_iff.1 ho).2;simpa using this
       rw[←he,List.getElem_cons_drop,List.take_append_drop]
      have h2:(ops.toList.filter (isAlloc cx fn)).length=((ops.toList.take i).filter (isAlloc cx fn)).length+(1+((ops.toList.drop (i+1)).filter (isAlloc cx fn)).length):=by
       conv=>lhs;rw[h1]
       rw[List.filter_append,List.length_append,List.filter_cons_of_pos hal,List.length_cons,Nat.add_comm 1]
      omega) hrun hap t
     exact run_ok hT hh _ (hR.reserve _).drew hrun' fun a' w' g' h1 h2 h3=>hq a' w' g' h1 (by rw[h2];exact hM.ev h3.undrew) h3.undrew
    ·cases hr
  ·cases hr
theorem wpIn_scope_straight{F:Fence}{n:Nat}{Q:Exit→Act→World→Prop}{a:Act}{w:World}{c:Code}(h:c.wpIn F n P (Exit.noGoto Q) a w):(Code.scope c).wpIn F n P Q a w:=by
 intro b k cs hro hb hr
 have s1:∀ {a w},Go.step P (lone (b.atR a (.code (.scope c)::k)) cs w)=.next (lone (b.atR a (.code c :: .inScope c::k)) cs w):=fun {a w}=>step_lone_go (by simp[Go.stepG,Go.stepG.exec,Frame.atR])
 have s2:∀ {a w},Go.step P (lone (b.atR a (.inScope c::k)) cs w)=.next (lone (b.atR a k) cs w):=fun {a w}=>step_lone_go (by simp[Go.stepG,Go.stepG.exec,Frame.atR])
 have hx:∀id,exitTo id (.inScope c::k)=exitTo id k:=fun id=>by simp[exitTo]
 have h0:(lone (b.atR a (.code (.scope c)::k)) cs w).fenced P F:=fenced_calm hb hr rfl
 obtain⟨e,a₁,w₁,hq,harr⟩:=h b (.inScope c::k) cs hro hb hr
 cases e with
 | normal=>exact⟨.normal,a₁,w₁,hq,.head h0 s1 (StepsIn.trans harr (.one (fenced_calm hb hr rfl) s2))⟩
 | exit id=>exact⟨.exit id,a₁,w₁,hq,fun k' hk=>.head h0 s1 (harr.1 k' (by rw[hx];exact hk)),fun hr' hk=>let ⟨k₁,h1,h2⟩:=harr.2 hr' (by rw[hx];exact hk);⟨k₁,h1,.head h0 s1 h2⟩⟩
 | goto l=>exact hq.elim
 | ret=>exact⟨_,a₁,w₁,hq,.of_steps (.one h0 s1) harr⟩
 | panic ch=>exact⟨_,a₁,w₁,hq,.of_steps (.one h0 s1) harr⟩
 | outgrown=>exact⟨_,a₁,w₁,hq,.of_steps (.one h0 s1) harr⟩
variable {P:Program}
theorem drp_shr(a:AV):drp (shr a)=drp a:=by
 cases a with
 | vec sz k els=>cases k<;>rfl
 | _=>rfl
def Gh.other(g:Gh)(B:Nat):Gh:={ g with ow:=fun B'=>if B'=B then some .oth else g.ow B' }
theorem MR.other{g:Gh}{ro:Nat}{H:Hp}{w:World}(hm:MR g ro H w)(o:Obj):MR (g.other w.heap.size) ro H (w.alloc o)∧Ev ro g w (g.other w.heap.size) (w.alloc o):=by
 have hold:∀B l,g.ow B=some l→B≠w.heap.size:=fun B l h e=>by have:=hm.owlt B l h;omega
 have hne:∀b B sz,g.mu b=some (B,sz)→B≠w.heap.size:=fun b B sz h e=>by have:=hm.lt b B sz h;omega
 have k:Keeps g w (g.other w.heap.size) (w.alloc o) (fun _=>False) :=
  ⟨Imm.le_refl _,.refl _ _,by simp,fun B hB _=>⟨by simp[Gh.other,Nat.ne_of_lt hB],fun _=>rfl,heap_alloc_old w o hB⟩,⟨rfl,rfl,rfl⟩⟩
 refine⟨⟨hm.role,?_,hm.dom,hm.inj,?_,?_,?_,?_,?_⟩,k.ev hm.owlt (fun _ _ _ _ h=>h) fun _ _ h=>h.elim⟩
 ·intro B o' v h
  have hv:w.cell? ⟨B,o',none⟩=some v:=hm.imm B o' v h
  rw[World.cell?_alloc_lt _ _ _ (World.block_lt_of_cell? _ _ hv)];exact hv
 ·intro b B sz h;have:=hm.lt b B sz h;simp;omega
 ·intro B l h
  by_cases e:B=w.heap.size
  ·rw[e];simp
  ·simp only[Gh.other,e,if_false]at h;have:=hm.owlt B l h;simp;omega
 ·intro b B sz hb h;simp only[Gh.other,hne b B sz h,if_false];exact hm.prot b B sz hb h
 ·intro b B sz hb h;simp only[Gh.other,hne b B sz h,if_false];exact hm.free b B sz hb h
 ·intro b blk hb
  exact(hm.blk b blk hb).keeps k hm.owlt (fun B sz h=>hm.lt b B sz h) (fun _ _ _ h=>h) (fun _ _ _ _ h=>h) id
theorem MR.newLoop{g:Gh}{ro:Nat}{H:Hp}{w:World}(hm:MR g ro H w){r:ALoop}{lr:Loop}(hr:LR g r lr):
  MR (g.named H.length w.heap.size 0) ro (H++[.loop r]) (w.alloc (.loop lr))∧Ev ro g w (g.named H.length w.heap.size 0) (w.alloc (.loop lr)):=by
 have hf:Abs.free ro H H.length=true:=by simp[Abs.free,hm.role]
 have k:=Keeps.named hm hf (.loop lr) 0
 have hb:BR (g.named H.length w.heap.size 0) (w.alloc (.loop lr)) H.length (.loop r):=⟨w.heap.size,0,lr,by simp[Gh.named],heap_alloc_new w _,hr.mono k.imm k.mu⟩
 have:=hm.named hf (.loop lr) 0 (.loop r) hb
 rw[show putB H (some (H.length,.loop r))=H++[.loop r] by simp[putB]]at this
 exact⟨this,k.ev hm.owlt (fun _ _ _ _ h=>h) fun _ _ h=>h.elim⟩
theorem ranged_ok{k:Nat}{h:Hd}(hh:HdOk P k h){ro nt:Nat}{fr fr':PT}{H H':Hp}{r:ALoop}{f:FuncId}{cap:List AV}{e:Ex}{g gA:Gh}{w wA:World}{a:Act}(hR:Rel g ro nt fr H a.tmps w)
  (hd:endLoop H.length fr (h.call ro f (.yld H.length::cap) (H++[.loop r]))=some (e,fr',H')) (hcap:∃cs:List Value,VRs g.imm g.mu cap cs)
  (mA:MR gA ro H wA) (eA:Ev ro g.lend w gA wA) {lr:Loop} (hlr:LR gA r lr) {cs:List Value} (hcs:VRs g.imm g.mu cap cs):
  (∀(w:World)(cargs:Array Value),(callFunc f cargs).run P w=.ok (.enter f cargs) w)∧
  ∀n,CallsIn Fence.wide n P f (#[] ++ #[Value.func (.yield wA.heap.size) #[] #[]]++cs.toArray) (wA.alloc (.loop lr)) (fun
   | .returned _,w3=>∃jump w4 g',(Instr.endLoop wA.heap.size).run P w3=.ok jump w4∧jump=(if e=.normal then none else e.code)∧Rel g' ro nt fr' H' a.tmps w4∧Evs ro g w g' w4∧(∀B,gA.ow B=some .oth→(∀t,g.ow B≠some (.slot t))→g'.ow B=some .oth∧w4.heap[B]?=wA.heap[B]?)
   | _,_=>False):=by
 obtain⟨mB,eB⟩:=mA.newLoop hlr
 cases hc:h.call ro f (.yld H.length::cap) (H++[.loop r]) with
 | none=>rw[hc]at hd;cases hd
 | some res =>
  obtain⟨v,H1⟩:=res
  rw[hc]at hd
  obtain⟨k1,k2⟩:=hh.call hc
  refine⟨k1,fun n=>?_⟩
  have eAB:Ev ro g.lend w _ _:=eA.trans eB
  have hargs:VRs (gA.named H.length wA.heap.size 0).imm (gA.named H.length wA.heap.size 0).mu (.yld H.length::cap) (#[] ++ #[Value.func (.yield wA.heap.size) #[] #[]]++cs.toArray).toList:=by
   have h1:(#[] ++ #[Value.func (.yield wA.heap.size) #[] #[]]++cs.toArray:Array Value).toList=Value.func (.yield wA.heap.size) #[] #[]::cs:=by simp
   rw[h1]
   simp only[VRs]
   refine⟨_,_,rfl,?_,VRs.mono eAB.imm _ eAB.mun.le (show VRs g.lend.imm g.lend.mu cap cs from hcs)⟩
   simp only[VR]
   exact⟨wA.heap.size,0,by simp[Gh.named],rfl⟩
  refine(k2 mB hargs n).mono fun e' w3 he=>?_
  cases e' with
  | panicked _=>exact he.elim
  | outgrown=>exact he.elim
  | returned c =>
   obtain⟨g2,m2,e2,_⟩:=he
   simp only[endLoop]at hd
   split at hd
   ·rename_i r1 hb1
    split at hd
    ·cases hd
    ·rename_i hbusy
     simp only[Option.some.injEq,Prod.mk.injEq]at hd
     obtain⟨rfl,rfl,rfl⟩:=hd
     obtain⟨L1,sz1,lr1,q1,q2,q3⟩:=m2.blk _ _ hb1
     have hmu:g2.mu H.length=some (wA.heap.size,0):=e2.mun.le _ _ (by simp[Gh.named])
     rw[hmu]at q1;cases q1
     have hns:lr1.state≠.busy:=by
      rw[q3.2.2.2.1]
      cases hst:r1.state<;>simp[LS.conc]
      exact hbusy hst
     have hro:ro≤H.length:=hR.mem.role
     have q3':LR g2 { r1 with state:=.exhausted } { lr1 with state:=.exhausted }:=⟨q3.1,q3.2.1,q3.2.2.1,rfl,q3.2.2.2.2.1,q3.2.2.2.2.2.1,q3.2.2.2.2.2.2.1,q3.2.2.2.2.2.2.2⟩
     obtain⟨z1,z2⟩:=loopW_ok m2 hro hb1 hmu q2 q3' rfl
     have eall:Ev ro g.lend w g2 _:=(eAB.trans e2).trans z2.toEv
     refine⟨_,_,g.back g2 .res,run_endLoop q2 hns,?_,?_,Evs.back eall,?_⟩
     ·rw[q3.2.2.2.2.1]
      cases hp:r1.pending with
      | none=>simp
      | some x=>cases x<;>simp[Ex.code]
     ·exact hR.after (dst:=none) (v:=.dead) (c:=undef) (Evs.back eall) (MR.back hR.mem z1 eall) (fun d hd=>by cases hd) rfl
     ·intro B hB hs
      obtain⟨a1,_,a3⟩:=((eB.trans e2).trans z2.toEv).prot B .oth hB trivial
      exact⟨by rw[back_other hs (by rw[a1];simp)];exact a1,a3⟩
   ·cases hd
variable {P:Program}
theorem run_enterLoop_inner{w:World}{L:Nat}{lr0:Loop}(h:w.heap[L]?=some (.loop lr0))(fn:FuncId)(tmps:Array Value)(ps:Array Tmp)(assign body:Code):
  (Instr.enterLoop fn tmps ps assign body (some L)).run P w =
   .ok (w.heap.size,[]) (w.alloc (.loop { state:=.ready,pending:=none,fn,tmps,params:=ps,assign,body,defers:=lr0.defers })):=by
 unfold Instr.enterLoop
 simp only[Sem.run_bind,run_getLoop h,run_newObj_alloc,Result.andThen,Sem.run_pure]
theorem LR.made{g gA:Gh}{ro nt:Nat}{fn0 fn:FuncId}{fr:PT}{H:Hp}{w:World}{a:Act}(hR:Rel g ro nt fr H a.tmps w)(hi:g.imm.le gA.imm)(hm:g.mu.le gA.mu)(ps:Array Tmp)(assign body:Code)(ds:Nat):
  LR gA { fn:=fn0,nt,fr:=fr.map drp,params:=ps.toList,assign,body,state:=.ready,pending:=none } { state:=.ready,pending:=none,fn,tmps:=a.tmps,params:=ps,assign,body,defers:=ds }:=by
 refine⟨by simp,rfl,rfl,rfl,rfl,hR.size,hR.nt_le,fun t=>?_⟩
 simp only
 rw[PT.get_map rfl]
 rcases hR.slots t with hd | ⟨v,ha,hb⟩
 ·left;rw[hd];rfl
 ·exact .inr ⟨v,ha,by rw[←drp_shr];exact VR.mono hi _ hm hb.shr.drp⟩
theorem jump_ok{r:Option Nat}{n:Nat}{Q:Exit→Act→World→Prop}{a:Act}{w:World}{e:Ex}{jump:Option Code}(hj:jump=(if e=.normal then none else e.code))(hq:Q e.conc a w):
  (match (generalizing:=false) jump with | none=>Q .normal a w | some c=>c.wpIn (Fr r) n P Q a w):=by
 cases e with
 | normal=>simp at hj;subst hj;exact hq
 | exit id=>simp[Ex.code]at hj;subst hj;exact wpIn_exit hq
 | ret=>simp[Ex.code]at hj;subst hj;exact wpIn_ret hq
theorem ex_ok{cx:Cx}{k:Nat}{h:Hd}(hT:TOk P cx.T)(hh:HdOk P k h)(hre:Reorders P cx h){ro:Nat}{fn:FuncId}{nt:Nat}:∀(c:Code) {fr fr':PT} {H H':Hp} {e:Ex},
  ex cx h ro fn nt c fr H=some (e,fr',H')→CodeOk P ro nt c fr H e fr' H'
 | .skip,fr,fr',H,H',e,hx=>by
  simp only[ex,Option.some.injEq,Prod.mk.injEq]at hx
  obtain⟨rfl,rfl,rfl⟩:=hx
  exact fun r n n0 g a w hR hM hI Q hq=>wpIn_skip (hq a w g hR hM (Ev.refl _ _ _))
 | .label _,fr,fr',H,H',e,hx=>by
  simp only[ex,Option.some.injEq,Prod.mk.injEq]at hx
  obtain⟨rfl,rfl,rfl⟩:=hx
  exact fun r n n0 g a w hR hM hI Q hq=>wpIn_label (hq a w g hR hM (Ev.refl _ _ _))
 | .region id ops draw,fr,fr',H,H',e,hx=>by
  simp only[ex]at hx
  cases hr:region cx h ro fn nt ops fr H draw with
  | none=>rw[hr]at hx;cases hx
  | some res =>
   obtain⟨fr1,H1⟩:=res
   rw[hr]at hx
   simp only[normR,Option.some.injEq,Prod.mk.injEq]at hx
   obtain⟨rfl,rfl,rfl⟩:=hx
   exact region_ok hT hh hre hr
 | .seq x y,fr,fr',H,H',e,hx=>by
  simp only[ex]at hx
  intro r n n0 g a w hR hM hI Q hq
  refine wpIn_seq ?_
  cases ha:ex cx h ro fn nt x fr H with
  | none=>rw[ha]at hx;cases hx
  | some res =>
   obtain⟨e1,fr1,H1⟩:=res
   rw[ha]at hx
   refine ex_ok hT hh hre x ha r n n0 g a w hR hM hI _ fun a1 w1 g1 h1 h2 h3=>?_
   cases e1 with
   | normal =>
    simp only[thenR]at hx
    exact ex_ok hT hh hre y hx r n n0 g1 a1 w1 h1 h2 (hI.ev h3) Q fun a2 w2 g2 k1 k2 k3=>hq a2 w2 g2 k1 k2 (h3.trans k3)
   | exit id =>
    simp only[thenR,Option.some.injEq,Prod.mk.injEq]at hx
    obtain⟨rfl,rfl,rfl⟩:=hx
    exact hq a1 w1 g1 h1 h2 h3
   | ret =>
    simp only[thenR,Option.some.injEq,Prod.mk.injEq]at hx
    obtain⟨rfl,rfl,rfl⟩:=hx
    exact hq a1 w1 g1 h1 h2 h3
 | .cond c x y,fr,fr',H,H',e,hx=>by
  simp only[ex]at hx
  intro r n n0 g a w hR hM hI Q hq
  have hc:=hR.eval (a:=a) c
  unfold condR at hx
  split at hx
  ·rename_i hv
   rw[hv]at hc
   exact wpIn_cond_true (VR_lit hc) (ex_ok hT hh hre x hx r n n0 g a w hR hM hI Q hq)
  ·rename_i hv
   rw[hv]at hc
   exact wpIn_cond_false (VR_lit hc) (ex_ok hT hh hre y hx r n n0 g a w hR hM hI Q hq)
  ·cases hx
 | .block id x,fr,fr',H,H',e,hx=>by
  simp only[ex]at hx
  intro r n n0 g a w hR hM hI Q hq
  refine wpIn_block ?_
  cases ha:ex cx h ro fn nt x fr H with
  | none=>rw[ha]at hx;cases hx
  | some res =>
   obtain⟨e1,fr1,H1⟩:=res
   rw[ha]at hx
   refine ex_ok hT hh hre x ha r n n0 g a w hR hM hI _ fun a1 w1 g1 h1 h2 h3=>?_
   cases e1 with
   | normal =>
    simp only[blockR,Option.some.injEq,Prod.mk.injEq]at hx
    obtain⟨rfl,rfl,rfl⟩:=hx
    exact hq a1 w1 g1 h1 h2 h3
   | exit id' =>
    simp only[blockR,Option.some.injEq,Prod.mk.injEq]at hx
    obtain⟨rfl,rfl,rfl⟩:=hx
    have:=hq a1 w1 g1 h1 h2 h3
    simp only[Ex.conc,Exit.inBlock]
    split
    ·rename_i hid;simpa [hid,Ex.conc] using this
    ·rename_i hid;simpa [hid,Ex.conc] using this
   | ret =>
    simp only[blockR,Option.some.injEq,Prod.mk.injEq]at hx
    obtain⟨rfl,rfl,rfl⟩:=hx
    exact hq a1 w1 g1 h1 h2 h3
 | .loop x,fr,fr',H,H',e,hx=>by
  simp only[ex]at hx
  exact fun r n n0 g a w hR hM hI Q hq=>wpIn_loop_rounds k (hh.loop hx r n n0 g a w hR hM hI Q hq)
 | .exit id,fr,fr',H,H',e,hx=>by
  simp only[ex,Option.some.injEq,Prod.mk.injEq]at hx
  obtain⟨rfl,rfl,rfl⟩:=hx
  exact fun r n n0 g a w hR hM hI Q hq=>wpIn_exit (hq a w g hR hM (Ev.refl _ _ _))
 | .ret,fr,fr',H,H',e,hx=>by
  simp only[ex,Option.some.injEq,Prod.mk.injEq]at hx
  obtain⟨rfl,rfl,rfl⟩:=hx
  exact fun r n n0 g a w hR hM hI Q hq=>wpIn_ret (hq a w g hR hM (Ev.refl _ _ _))
 | .scope x,fr,fr',H,H',e,hx=>by
  simp only[ex]at hx
  intro r n n0 g a w hR hM hI Q hq
  refine wpIn_scope_straight (ex_ok hT hh hre x hx r n n0 g a w hR hM hI _ fun a1 w1 g1 h1 h2 h3=>?_)
  have:=hq a1 w1 g1 h1 h2 h3
  cases e<;>exact this
 | .goto _,fr,fr',H,H',e,hx=>by simp[ex]at hx
 | .refuse _,fr,fr',H,H',e,hx=>by simp[ex]at hx
 | .rangeFunc f ps assign body,fr,fr',H,H',e,hx=>by
  simp only[ex]at hx
  intro r n n0 g a w hR hM hI Q hq
  have hf:=hR.eval (a:=a) f
  unfold ranged at hx
  split at hx
  ·rename_i f0 cap hfv
   rw[hfv]at hf
   simp only[VR]at hf
   obtain⟨cs,hfe,hcap⟩:=hf
   refine wpIn_rangeFunc fun fn' _=>?_
   have hres:∀(l:Nat)(w1:World),(resolve a.eval (rangeCall f l) 0).run P w1=.ok { target:=.fn (.func f0) cs.toArray,args:=#[] ++ #[.func (.yield l) #[] #[]] } w1:=by
    intro l w1
    have hcv:a.eval (.const (.func (.yield l) #[] #[]))=.func (.yield l) #[] #[]:=rfl
    simp[resolve,rangeCall,hfe,Deferred.ofValue,hcv]
   cases r with
   | none =>
    obtain⟨mA,eA⟩:=hR.mem.lend.other (.deferred (some []))
    obtain⟨k1,k2⟩:=ranged_ok hh hR hx ⟨cs,hcap⟩ mA eA (LR.made (fn:=fn') hR (show g.imm.le (g.lend.other w.heap.size).imm from Imm.le_refl _) (Mu.le_refl _) ps assign body w.heap.size) hcap
    refine⟨_,_,_,_,_,f0,#[] ++ #[Value.func (.yield (w.alloc (.deferred (some []))).heap.size) #[] #[]]++cs.toArray,(w.alloc (.deferred (some []))).alloc (.loop { state:=.ready,pending:=none,fn:=fn',tmps:=a.tmps,params:=ps,assign,body,defers:=w.heap.size }),run_enterLoop_outer fn' a.tmps ps assign body,hres _ _,fun _ _=>trivial,?_,fun hx=>(by simp[Fr,Fence.wide]at hx),?_⟩
    ·simp only[invoke,World.size_alloc,k1]
    ·refine CallsIn.mono (k2 _) fun e' w3 he=>?_
     cases e' with
     | panicked _=>exact he.elim
     | outgrown=>exact he.elim
     | returned c =>
      obtain⟨jump,w4,g',h1,h2,h3,h4,h5⟩:=he
      rw[World.size_alloc]at h1
      refine⟨jump,w4,h1,jump_ok h2 (hq { a with defers:=[{ target:=.collected w.heap.size,args:=#[] }]++a.defers } w4 g' h3 ?_ h4.toEv)⟩
      obtain⟨hm0,rs,m1,m2,m3⟩:=hM
      have hfresh:∀t,g.ow w.heap.size≠some (.slot t):=fun t ht=>by have:=hR.mem.owlt _ _ ht;omega
      obtain⟨b1,b2⟩:=h5 w.heap.size (by simp[Gh.other]) hfresh
      refine⟨Nat.le_trans hm0 h4.size,w.heap.size::rs,by simp[m1],List.nodup_cons.2 ⟨fun hmem=>?_,m2⟩,?_⟩
      ·have:=(m3 _ hmem).2.2;simp at this
      ·intro r' hr'
       rcases List.mem_cons.1 hr' with rfl | hr'
       ·exact⟨hm0,b1,by rw[b2];exact heap_alloc_new w _⟩
       ·obtain⟨c1,c2,c3⟩:=m3 r' hr'
        obtain⟨d1,_,d3⟩:=h4.prot r' .oth c2 trivial
        exact⟨c1,d1,by rw[d3];exact c3⟩
   | some L =>
    obtain⟨lr0,hl0⟩:=hI L rfl
    obtain⟨k1,k2⟩:=ranged_ok hh hR hx ⟨cs,hcap⟩ hR.mem.lend (Ev.refl _ _ _) (LR.made (fn:=fn') hR (show g.imm.le g.lend.imm from Imm.le_refl _) (Mu.le_refl _) ps assign body lr0.defers) hcap
    refine⟨_,_,_,_,_,f0,#[] ++ #[Value.func (.yield w.heap.size) #[] #[]]++cs.toArray,w.alloc (.loop { state:=.ready,pending:=none,fn:=fn',tmps:=a.tmps,params:=ps,assign,body,defers:=lr0.defers }),run_enterLoop_inner hl0 fn' a.tmps ps assign body,hres _ _,fun _ _=>trivial,?_,fun hx=>(by simp[Fr,Fence.wide]at hx),?_⟩
    ·simp only[invoke,k1]
    ·refine CallsIn.mono (k2 _) fun e' w3 he=>?_
     cases e' with
     | panicked _=>exact he.elim
     | outgrown=>exact he.elim
     | returned c =>
      obtain⟨jump,w4,g',h1,h2,h3,h4,h5⟩:=he
      exact⟨jump,w4,h1,jump_ok h2 (hq { a with defers:=[]++a.defers } w4 g' h3 (hM.ev h4.toEv) h4.toEv)⟩
  ·cases hx
variable {P:Program}
theorem loopB_ok{cx:Cx}{k:Nat}{h:Hd}(hT:TOk P cx.T)(hh:HdOk P k h)(hre:Reorders P cx h){ro:Nat}{fn:FuncId}{nt:Nat}{c:Code}{fr fr':PT}{H H':Hp}{e:Ex}
  (hx:loopB cx h ro fn nt c fr H=some (e,fr',H')):LoopOk P (k+1) ro nt c fr H e fr' H':=by
 intro r n n0 g a w hR hM hI Q hq
 rw[roundsIn_succ]
 unfold loopB at hx
 cases ha:ex cx h ro fn nt c fr H with
 | none=>rw[ha]at hx;cases hx
 | some res =>
  obtain⟨e1,fr1,H1⟩:=res
  rw[ha]at hx
  refine ex_ok hT hh hre c ha r n n0 g a w hR hM hI _ fun a1 w1 g1 h1 h2 h3=>?_
  cases e1 with
  | normal =>
   simp only[thenR,trimK,trimmed]at hx
   split at hx
   ·exact hh.loop hx r n n0 g1 a1 w1 h1 h2 (hI.ev h3) Q fun a2 w2 g2 k1 k2 k3=>hq a2 w2 g2 k1 k2 (h3.trans k3)
   split at hx
   ·exact hh.loop hx r n n0 g1 a1 w1 h1 h2 (hI.ev h3) Q fun a2 w2 g2 k1 k2 k3=>hq a2 w2 g2 k1 k2 (h3.trans k3)
   ·have e2:=h3.trim (n:=H.length) fun b x hb=>hR.mem.mu_lt hb
    obtain⟨m1,m2⟩:=h2
    exact hh.loop hx r n n0 (g1.upto H.length) a1 w1 (h1.trim hR.mem.role) ⟨m1,m2⟩ (hI.ev h3) Q fun a2 w2 g2 k1 k2 k3=>hq a2 w2 g2 k1 k2 (e2.trans k3)
  | exit id =>
   simp only[thenR,Option.some.injEq,Prod.mk.injEq]at hx
   obtain⟨rfl,rfl,rfl⟩:=hx
   exact hq a1 w1 g1 h1 h2 h3
  | ret =>
   simp only[thenR,Option.some.injEq,Prod.mk.injEq]at hx
   obtain⟨rfl,rfl,rfl⟩:=hx
   exact hq a1 w1 g1 h1 h2 h3
theorem setArgs_fixed{imm:Imm}{mu:Mu}{tm:Array Value}:∀(l:List (Tmp×AV)) {fr:PT},(∀p∈l,p.1<16000∧∃v,tm[p.1]?=some v∧VR imm mu p.2 v)→SlotsV imm mu fr tm→SlotsV imm mu (setArgs l fr) tm
 | [],fr,_,h=>h
 | (t,x)::l,fr,hl,h=>by
  simp only[setArgs]
  refine setArgs_fixed l (fun p hp=>hl p (by simp[hp])) fun s=>?_
  obtain⟨h1,v,h2,h3⟩:=hl (t,x) (by simp)
  by_cases e:t=s
  ·subst e
   right
   rw[PT.get_set_eq h1]
   exact⟨v,h2,h3.drp⟩
  ·rw[PT.get_set_ne e];exact h s
theorem Rel.enter{g:Gh}{ro nt:Nat}{H:Hp}{w:World}{args:List AV}{cargs:Array Value}(hm:MR g ro H w)(ha:VRs g.imm g.mu args cargs.toList)(h1:args.length≤nt)(h2:nt≤16000):
  Rel g ro nt (setArgs ((List.range args.length).zip args) .nil) H (cargs++Array.replicate (nt-cargs.size) undef) w:=by
 have hsz:cargs.size=args.length:=by have:=ha.length;simpa using this
 have key:SlotsV g.imm g.mu (setArgs ((List.range args.length).zip args) .nil) (cargs++Array.replicate (nt-cargs.size) undef):=by
  refine setArgs_fixed _ (fun p hp=>?_) fun t=>.inl (PT.get_nil t)
  obtain⟨i,hi⟩:=List.getElem?_of_mem hp
  rw[List.getElem?_zip_eq_some]at hi
  obtain⟨h3,h4⟩:=hi
  have hlt:=(List.getElem?_eq_some_iff.1 h4).1
  rw[List.getElem?_range hlt]at h3
  simp only[Option.some.injEq]at h3
  obtain⟨c,h5,h6⟩:=ha.get h4
  rw[←h3]
  refine⟨Nat.lt_of_lt_of_le hlt (Nat.le_trans h1 h2),c,?_,h6⟩
  rw[Array.getElem?_append_left (show i<cargs.size by omega)]
  simpa using h5
 exact⟨by simp;omega,h2,fun t=>by
  rcases key t with h | ⟨v,h3,h4⟩
  ·exact .inl h
  ·exact .inr ⟨v,h3,h4.sr⟩,hm⟩
theorem MR.mark{g:Gh}{ro:Nat}{H:Hp}{w:World}{r:Nat}(hm:MR g ro H w)(hr:g.ow r=some .oth)(hh:w.heap[r]?=some (.deferred (some []))):
  MR g ro H (w.putObj r (.deferred none))∧Keeps g w g (w.putObj r (.deferred none)) (fun B=>B=r):=by
 have k:Keeps g w g (w.putObj r (.deferred none)) (fun B=>B=r) :=
  ⟨Imm.le_refl _,.refl _ _,by simp,fun B _ hB=>⟨rfl,fun _=>rfl,World.putObj_heap_other hB⟩,⟨rfl,rfl,rfl⟩⟩
 have himm:∀B o v,g.imm B o=some v→B≠r:=by
  intro B o v h e
  subst e
  have:=hm.imm B o v h
  simp[World.cell?,hh]at this
 refine⟨⟨hm.role,?_,hm.dom,hm.inj,?_,?_,hm.prot,hm.free,?_⟩,k⟩
 ·intro B o v h
  rw[cell_of_heap (World.putObj_heap_other (himm B o v h))];exact hm.imm B o v h
 ·intro b B sz h;rw[World.putObj_size];exact hm.lt b B sz h
 ·intro B l h;rw[World.putObj_size];exact hm.owlt B l h
 ·intro b blk hb
  have hbr:=hm.blk b blk hb
  have hne:∀(ob:Obj)(B:Nat),w.heap[B]?=some ob→ob≠.deferred (some [])→B≠r:=by
   intro ob B h1 h2 e
   subst e;rw[hh]at h1;cases h1;exact h2 rfl
  have fin:(∀B sz,g.mu b=some (B,sz)→B≠r)→BR g (w.putObj r (.deferred none)) b blk:=fun hx =>
   hbr.keeps k hm.owlt (fun B sz h=>hm.lt b B sz h) (fun B sz h=>hx B sz h) (fun B i j hB e=>by subst e;rw[hr]at hB;cases hB) id
  cases blk with
  | cells sz e els =>
   obtain⟨B,h1,⟨ccs,e',h2⟩,_⟩:=hbr
   exact fin fun B' s h=>by rw[h1]at h;cases h;exact hne _ _ h2 (by simp)
  | mapo es =>
   obtain⟨B,sz,mes,clock,h1,h2,_⟩:=hbr
   exact fin fun B' s h=>by rw[h1]at h;cases h;exact hne _ _ h2 (by simp)
  | loop r' =>
   obtain⟨B,sz,lr,h1,h2,_⟩:=hbr
   exact fin fun B' s h=>by rw[h1]at h;cases h;exact hne _ _ h2 (by simp)
  | gone=>trivial
  | res=>exact hbr
theorem marks_ok{n:Nat}{fn:Func}{tm:Array Value}{R:Ending→World→Prop}{ro nt n0:Nat}{fr:PT}{H:Hp}{g0 g:Gh}{w0:World}(hg0:∀B l,g0.ow B=some l→B<n0)(hl0:∀(L:Nat)(lr:Loop),w0.heap[L]?=some (Obj.loop lr)→L<n0):∀(rs:List Nat) {w:World},
  Rel g ro nt fr H tm w→rs.Nodup→(∀r∈rs,n0≤r∧g.ow r=some .oth∧w.heap[r]?=some (.deferred (some [])))→Ev ro g0 w0 g w→
  (∀w',Rel g ro nt fr H tm w'→Ev ro g0 w0 g w'→∃v,(results fn tm).run P w'=.ok v w'∧R (.returned v) w')→
  LeavesInM Fence.wide n P fn tm R (rs.map fun r=>{ target:=.collected r,args:=#[] }) .returning w
 | [],w,hR,_,_,he,hf=>hf w hR he
 | r::rs,w,hR,hnd,hrs,he,hf=>by
  obtain⟨h1,h2,h3⟩:=hrs r (by simp)
  obtain⟨m1,k⟩:=hR.mem.mark h2 h3
  have hlt:r<w.heap.size:=hR.mem.owlt r _ h2
  refine⟨by simp,.inl ⟨r,_,rfl,run_takeDeferred h3,?_⟩⟩
  refine marks_ok hg0 hl0 rs ⟨hR.size,hR.nt_le,fun t=>?_,m1⟩ (List.nodup_cons.1 hnd).2 (fun r' hr'=>?_) ?_ hf
  ·rcases hR.slots t with h | ⟨v,ha,hb⟩
   ·exact .inl h
   ·exact .inr ⟨v,ha,hb.keeps k hR.mem.owlt fun B hB e=>by subst e;rw[h2]at hB;cases hB⟩
  ·obtain⟨a1,a2,a3⟩:=hrs r' (by simp[hr'])
   have hne:r'≠r:=fun e=>(List.nodup_cons.1 hnd).1 (e ▸ hr')
   exact⟨a1,a2,by rw[World.putObj_heap_other hne];exact a3⟩
  ·refine⟨he.imm,he.mun,by rw[World.putObj_size];exact he.size,fun B l hB hl=>?_,fun L lr hL=>?_,⟨he.out.os,he.out.tape,he.out.output⟩⟩
   ·obtain⟨b1,b2,b3⟩:=he.prot B l hB hl
    have:=hg0 B l hB
    exact⟨b1,b2,by rw[World.putObj_heap_other (by omega)];exact b3⟩
   ·obtain⟨lr',c1,c2⟩:=he.loops L lr hL
    have:=hl0 L lr hL
    exact⟨lr',by rw[World.putObj_heap_other (by omega)];exact c1,c2⟩
end Go.Abs
