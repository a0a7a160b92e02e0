/- Lengths, slices, addresses, parts. -/
import Derived.Test.YtiinagmombigpaaEvB
import Derived.Laws.MakeOwn
import Derived.ArgAppend
import Derived.MapKept
set_option linter.unnecessarySimpa false
set_option linter.unusedSimpArgs false
set_option linter.unusedVariables false
namespace Go.Abs
variable {P:Program} {T:TypeId→Option TI} {imm:Imm} {mu:Mu} {w:World}
theorem addr_add(B o n:Nat):(⟨B,o,none⟩:Addr).add n=⟨B,o+n,none⟩:=by
 unfold Addr.add;split
 ·rename_i h;subst h;rfl
 ·rfl
theorem natOf_spec{x:AV}{n:Nat}{a:Value}(h:natOf x=some n)(hx:VR imm mu x a):∃k m,a=.int k m∧0≤m∧m.toNat=n:=by
 unfold natOf at h
 split at h
 ·rename_i k m
  split at h
  ·rename_i h0
   simp only[Option.some.injEq]at h
   exact⟨k,m,VR_lit hx,h0,h⟩
  ·cases h
 ·cases h
theorem minmax_go_ok(mx:Bool):∀ {l:List AV} {cs:List Value} (k:IntKind) (n:Int) {v:AV},VRs imm mu l cs→aminmax.go mx k n l=some v→
  ∃c,(cs.foldlM (if mx then Builtin.max2 else Builtin.min2) (.int k n)).run P w=.ok c w∧VR imm mu v c
 | [],cs,k,n,v,hl,h=>by
  simp only[aminmax.go,Option.some.injEq]at h;subst h
  rw[VRs_nil hl];exact⟨_,rfl,by simp[VR]⟩
 | x::l,cs,k,n,v,hl,h=>by
  obtain⟨c,cs',rfl,h1,h2⟩:=VRs_cons hl
  unfold aminmax.go at h
  split at h
  ·rename_i he;cases he
  ·rename_i k' y rest he
   cases he
   rw[VR_lit h1]
   obtain⟨c,h3,h4⟩:=minmax_go_ok mx k _ h2 h
   refine⟨c,?_,h4⟩
   simp only[List.foldlM_cons,Sem.run_bind]
   cases mx with
   | true=>simpa [Builtin.max2,Result.andThen] using h3
   | false=>simpa [Builtin.min2,Result.andThen] using h3
  ·cases h
theorem aminmax_ok(mx:Bool){l:List AV}{cs:Array Value}{v:AV}(tys:Array TypeId)(ty:TypeId)(hl:VRs imm mu l cs.toList)(h:aminmax mx l=some v):
  ∃c,((if mx then Builtin.max_ else Builtin.min_) tys ty cs).run P w=.ok c w∧VR imm mu v c:=by
 unfold aminmax at h
 split at h
 ·cases h
 ·obtain⟨c,cs',e1,h1,h2⟩:=VRs_cons hl
  obtain⟨c',h3,h4⟩:=minmax_go_ok (P:=P) (w:=w) mx _ _ h2 h
  refine⟨c',?_,h4⟩
  rw[VR_lit h1]at e1
  cases mx with
  | true=>simp only[if_true,Builtin.max_,e1];simpa using h3
  | false=>simp only[Bool.false_eq_true,if_false,Builtin.min_,e1];simpa using h3
 ·cases h
theorem MapR.length{g:Gh}:∀ {l:List (AV×AV)} {es:List MapEntry},MapR g l es→es.length=l.length
 | [],es,h=>by simp[MapR]at h;simp[h]
 | (k,v)::l,es,h=>by obtain⟨e,es',rfl,_,_,h4⟩:=h;simp[MapR.length h4]
theorem alen_ok(hT:TOk P T){g:Gh}{ro:Nat}{H:Hp}(hm:MR g ro H w){t:TypeId}{x v:AV}{a:Value}(hx:VR g.imm g.mu x a)(h:alen T t H x=some v)
  {tys:Array TypeId} {ty:TypeId} {args:Array Value} (h1:tys[0]?=some t) (h2:args[0]?=some a):∃c,(Builtin.len_ tys ty args).run P w=.ok c w∧VR g.imm g.mu v c:=by
 unfold alen at h
 simp only[Builtin.len_,h1,h2,Sem.run_bind]
 split at h
 ·rename_i ht
  rw[run_underlying_of (hT.str ht rfl)]
  split at h
  ·cases h;rw[VR_lit hx];exact⟨_,rfl,by simp[VR,goInt]⟩
  ·cases h
 ·rename_i ht
  rw[run_underlying_of (hT.array ht rfl)]
  cases h;exact⟨_,rfl,by simp[VR,goInt]⟩
 ·rename_i ht
  rw[run_underlying_of (hT.slice ht rfl)]
  split at h
  ·cases h;simp only[VR]at hx;obtain⟨B,o,sp,cap,cs,rfl,_⟩:=hx;exact⟨_,rfl,by simp[VR,goInt]⟩
  ·cases h;simp only[VR]at hx;obtain⟨B,cap,_,_,rfl⟩:=hx;exact⟨_,rfl,by simp[VR,goInt]⟩
  ·cases h;rw[VR_lit hx];exact⟨_,rfl,by simp[VR,goInt]⟩
  ·cases h
 ·rename_i ht
  rw[run_underlying_of (hT.map ht rfl)]
  split at h
  ·split at h
   ·rename_i m es hes
    cases h
    simp only[VR]at hx
    obtain⟨B,sz,h3,rfl⟩:=hx
    obtain⟨B',sz',mes,clock,h4,h5,h6⟩:=hm.blk _ _ hes
    rw[h3]at h4;cases h4
    refine⟨goInt mes.size,?_,by simp only[VR,goInt];rw[←h6.length];simp⟩
    simp[Result.andThen,getObj,Sem.run,h5]
   ·cases h
  ·cases h;rw[VR_lit hx];exact⟨_,rfl,by simp[VR,goInt]⟩
  ·cases h
 ·cases h
def ovr(imm:Imm)(mu:Mu):Option AV→Option Value→Prop
 | none,none=>True
 | some x,some a=>VR imm mu x a
 | _,_=>False
theorem sliceBound_ok{k:IntKind}{m:Int}{n y:Nat}(h0:0≤m)(hn:m.toNat=n)(hy:n≤y)(code:BoundsCode):(Instr.sliceBound (.int k m) y code).run P w=.ok n w:=by
 have:0≤m∧m≤(y:Int):=⟨h0,by omega⟩
 simp[Instr.sliceBound,asIntOf,this,hn]
theorem natOr_spec{d l:Nat}{o:Option AV}{vo:Option Value}(h:ovr imm mu o vo)(e:natOr d o=some l):
  (o.isSome=false∧vo=none∧l=d)∨(o.isSome=true∧∃k i,vo=some (.int k i)∧0≤i∧i.toNat=l):=by
 cases o with
 | none=>cases vo with
  | none=>simp only[natOr,Option.some.injEq]at e;exact .inl ⟨rfl,rfl,e.symm⟩
  | some _=>exact h.elim
 | some x=>cases vo with
  | none=>exact h.elim
  | some v =>
   obtain⟨k,i,rfl,hi0,hin⟩:=natOf_spec e h
   exact .inr ⟨rfl,k,i,rfl,hi0,hin⟩
theorem sliceBounds_ok{isSlice:Bool}{len cap:Nat}{lo hi mx:Option AV}{vlo vhi vmx:Option Value}(h1:ovr imm mu lo vlo)(h2:ovr imm mu hi vhi)(h3:ovr imm mu mx vmx){l h m:Nat}
  (e1:natOr 0 lo=some l) (e2:natOr len hi=some h) (e3:natOr cap mx=some m) (hlh:l≤h) (hhm:h≤m) (hm:m≤cap) (hmx:mx.isSome→hi.isSome):
  (Instr.sliceBounds isSlice len cap vlo vhi vmx).run P w=.ok (l,h,m) w:=by
 rcases natOr_spec h3 e3 with⟨m0,rfl,rfl⟩ | ⟨m0,k3,i3,rfl,p3,q3⟩
 ·rcases natOr_spec h2 e2 with⟨_,rfl,rfl⟩ | ⟨_,k2,i2,rfl,p2,q2⟩
  ·rcases natOr_spec h1 e1 with⟨_,rfl,rfl⟩ | ⟨_,k1,i1,rfl,p1,q1⟩
   ·simp[Instr.sliceBounds]
   ·simp[Instr.sliceBounds,Result.andThen,sliceBound_ok p1 q1 hlh]
  ·rcases natOr_spec h1 e1 with⟨_,rfl,rfl⟩ | ⟨_,k1,i1,rfl,p1,q1⟩
   ·simp[Instr.sliceBounds,Result.andThen,sliceBound_ok p2 q2 hhm]
   ·simp[Instr.sliceBounds,Result.andThen,sliceBound_ok p1 q1 hlh,sliceBound_ok p2 q2 hhm]
 ·rcases natOr_spec h2 e2 with⟨h0,rfl,rfl⟩ | ⟨_,k2,i2,rfl,p2,q2⟩
  ·rw[hmx m0]at h0;cases h0
  ·rcases natOr_spec h1 e1 with⟨_,rfl,rfl⟩ | ⟨_,k1,i1,rfl,p1,q1⟩
   ·simp[Instr.sliceBounds,Result.andThen,sliceBound_ok p2 q2 hhm,sliceBound_ok p3 q3 hm]
   ·simp[Instr.sliceBounds,Result.andThen,sliceBound_ok p1 q1 hlh,sliceBound_ok p2 q2 hhm,sliceBound_ok p3 q3 hm]
theorem VRels.seg_sub{sz:Nat}{B o n k:Nat}{cs:List Value}(hs:Seg imm B o cs):Seg imm B (o+n*sz) ((cs.drop (n*sz)).take (k*sz)):=by
 intro i c hc
 rw[List.getElem?_take]at hc
 split at hc
 ·rw[List.getElem?_drop]at hc
  have:=hs _ _ hc
  rw[Nat.add_assoc];exact this
 ·cases hc
theorem aslice_ok(hT:TOk P T){t:TypeId}{x v:AV}{lo hi mx:Option AV}{a:Value}{vlo vhi vmx:Option Value}(hx:VR imm mu x a)(h1:ovr imm mu lo vlo)(h2:ovr imm mu hi vhi)(h3:ovr imm mu mx vmx)
  (h:aslice T t x lo hi mx=some v):∃c,(Instr.sliceAt t a vlo vhi vmx).run P w=.ok c w∧VR imm mu v c:=by
 unfold aslice at h
 split at h
 ·
  rename_i sz k els
  split at h
  ·rename_i e _ ht
   have hu:=hT.slice ht rfl
   split at h
   ·rename_i hc
    obtain⟨hsz,hmx⟩:=hc
    simp only[VR]at hx
    obtain⟨B,o,sp,cap,cs,rfl,hsp,hk1,hk2,hcap,hels,hseg⟩:=hx
    have hrs:∀w,(sizeOf e).run P w=.ok sz w:=by
     intro w
     cases hte:T e with
     | none=>rw[hte]at hsz;cases hsz
     | some te=>rw[hte]at hsz;simp at hsz;rw[←hsz];exact hT.run_size hte w
    split at h
    ·rename_i l h' el eh
     have fin:∀m,(Instr.sliceBounds true els.length cap vlo vhi vmx).run P w=.ok (l,h',m) w→l≤h'→h'≤els.length→h'≤m→m≤cap→∀k',k'≠.own→(k'=.exact→m=h')→
       ∃c,(Instr.sliceAt t (.slice (some ⟨B,o,sp⟩) els.length cap) vlo vhi vmx).run P w=.ok c w∧VR imm mu (.vec sz k' ((els.drop l).take (h'-l))) c:=by
      intro m hb hlh hhl hhm hmc k' hk' hex
      have hlen:((els.drop l).take (h'-l)).length=h'-l:=by simp;omega
      by_cases hml:m=l
      ·subst hml
       have e0:h'=m:=by omega
       subst e0
       refine⟨.slice (some ⟨B,o,sp⟩) 0 0,?_,?_⟩
       ·simp only[Instr.sliceAt,Sem.run_bind,run_underlying_of hu,Result.andThen,Instr.slice,hb,hrs]
        simp
       ·simp only[VR]
        exact⟨B,o,sp,0,[],by simp,.inl rfl,hk',fun _=>by simp,by simp,by simp[VRels],fun i c hc=>by simp at hc⟩
      ·obtain rfl:sp=none:=hsp.resolve_left (by omega)
       refine⟨.slice (some ⟨B,o+l*sz,none⟩) (h'-l) (m-l),?_,?_⟩
       ·simp only[Instr.sliceAt,Sem.run_bind,run_underlying_of hu,Result.andThen,Instr.slice,hb,hrs]
        simp[hml,addr_add]
       ·simp only[VR]
        exact⟨B,o+l*sz,none,m-l,(cs.drop (l*sz)).take ((h'-l)*sz),by rw[hlen],.inr rfl,hk',fun hx=>by rw[hlen,hex hx],by rw[hlen];omega,(hels.drop l).take (h'-l),VRels.seg_sub hseg⟩
     split at h
     ·split at h
      ·rename_i hlh
       cases h
       have hcapn:natOr cap (none:Option AV)=some cap:=rfl
       refine fin cap (sliceBounds_ok h1 h2 h3 el eh hcapn hlh.1 (by omega) (Nat.le_refl _) hmx) hlh.1 hlh.2 (by omega) (Nat.le_refl _) _ (by split<;>simp) ?_
       intro hex
       split at hex
       ·rename_i hh;rw[hk2 hh.2,hh.1]
       ·cases hex
      ·cases h
     ·split at h
      ·rename_i m em
       split at h
       ·rename_i hlh
        cases h
        refine fin m (sliceBounds_ok h1 h2 h3 el eh em hlh.1 hlh.2.1 (by omega) hmx) hlh.1 (by omega) hlh.2.1 (by omega) _ (by split<;>simp) ?_
        intro hex
        split at hex
        ·assumption
        ·cases hex
       ·cases h
      ·cases h
    ·cases h
   ·cases h
  ·cases h
 ·
  split at h
  ·rename_i e _ ht
   have hu:=hT.slice ht rfl
   split at h
   ·rename_i el eh em
    split at h
    ·rename_i hmx
     cases h
     rw[VR_lit hx]
     have hb:(Instr.sliceBounds true 0 0 vlo vhi vmx).run P w=.ok (0,0,0) w:=sliceBounds_ok h1 h2 h3 el eh em (Nat.le_refl _) (Nat.le_refl _) (Nat.le_refl _) hmx.2
     have hrs:∃n,(sizeOf e).run P w=.ok n w:=by
      cases hte:T e with
      | none=>rw[hte]at hmx;simp at hmx
      | some te=>exact⟨_,hT.run_size hte w⟩
     obtain⟨n,hrs⟩:=hrs
     refine⟨.slice none 0 0,?_,by simp[VR]⟩
     simp only[Instr.sliceAt,Sem.run_bind,run_underlying_of hu,Result.andThen,Instr.slice,hb,hrs]
     simp
    ·cases h
   ·cases h
  ·cases h
 ·
  rename_i b sz i len cap
  split at h
  ·rename_i e _ ht
   have hu:=hT.slice ht rfl
   split at h
   ·rename_i te hte
    have hrs:=hT.run_size hte w
    split at h
    ·rename_i l h' m el eh em
     split at h
     ·rename_i hc
      obtain⟨hz,hlh,hhm,hmc,hmx⟩:=hc
      simp only[VR]at hx
      obtain⟨B,cap',hB,hcap,rfl⟩:=hx
      subst hz
      have key:∀m',(Instr.sliceBounds true len cap' vlo vhi vmx).run P w=.ok (l,h',m') w→(mx.isSome=true→m'=m)→m≤m'→(mx.isSome=false→m'=cap'∧m=cap)→
        ∃c,(Instr.sliceAt t (.slice (some ⟨B,i*te.size,none⟩) len cap') vlo vhi vmx).run P w=.ok c w∧VR imm mu v c:=by
       intro m' hb hm1 hm2 hm3
       by_cases hml:m'=l
       ·have hl:m=l:=by omega
        rw[if_pos hl]at h
        cases h
        refine⟨.slice (some ⟨B,i*te.size,none⟩) (h'-l) (m'-l),?_,?_⟩
        ·simp only[Instr.sliceAt,Sem.run_bind,run_underlying_of hu,Result.andThen,Instr.slice,hb,hrs]
         simp[hml]
        ·simp only[VR]
         exact⟨B,i*te.size,none,m'-l,[],by simp;omega,.inr rfl,by split<;>simp,fun _=>by simp;omega,by simp,by simp[VRels],fun i c hc=>by simp at hc⟩
       ·have hrun:(Instr.sliceAt t (.slice (some ⟨B,i*te.size,none⟩) len cap') vlo vhi vmx).run P w=.ok (.slice (some ⟨B,i*te.size+l*te.size,none⟩) (h'-l) (m'-l)) w:=by
         simp only[Instr.sliceAt,Sem.run_bind,run_underlying_of hu,Result.andThen,Instr.slice,hb,hrs]
         simp[hml,addr_add]
        refine⟨_,hrun,?_⟩
        split at h
        ·rename_i hl
         cases h
         have hh:h'=l:=by omega
         have hmx':mx.isSome=false:=by
          cases hms:mx.isSome with
          | false=>rfl
          | true=>exact absurd ((hm1 hms).trans hl) hml
         simp only[VR]
         refine⟨B,i*te.size+l*te.size,none,m'-l,[],by simp;omega,.inr rfl,by rw[hmx'];simp,fun hx=>?_,by simp,by simp[VRels],fun i c hc=>by simp at hc⟩
         rw[hmx']at hx;simp at hx
        ·cases h
         simp only[VR]
         exact⟨B,m'-l,hB,by omega,by rw[Nat.add_mul]⟩
      cases hms:mx.isSome with
      | false =>
       have hmn:mx=none:=by cases mx<;>simp at hms ⊢
       subst hmn
       have em':m=cap:=by simp only[natOr,Option.some.injEq]at em;exact em.symm
       exact key cap' (sliceBounds_ok h1 h2 h3 el eh rfl hlh (by omega) (Nat.le_refl _) hmx) (fun hx=>by cases hx) (by omega) (fun _=>⟨rfl,em'⟩)
      | true =>
       have em':natOr cap' mx=some m:=by cases mx<;>simp_all [natOr]
       exact key m (sliceBounds_ok h1 h2 h3 el eh em' hlh hhm (by omega) hmx) (fun _=>rfl) (Nat.le_refl _) (fun hx=>by rw[hms]at hx;cases hx)
     ·cases h
    ·cases h
   ·cases h
  ·cases h
 ·
  split at h
  ·rename_i n e _ ht
   have hu:=hT.array ht rfl
   split at h
   ·rename_i te hte
    have hrs:=hT.run_size hte w
    split at h
    ·rename_i hc
     cases h
     obtain⟨c1,c2,c3⟩:=hc
     simp only[VR]at hx
     obtain⟨B,sz,hB,rfl⟩:=hx
     have e1:lo=none:=by simpa using c1
     have e2:hi=none:=by simpa using c2
     have e3:mx=none:=by simpa using c3
     subst e1;subst e2;subst e3
     cases vlo<;>cases vhi<;>cases vmx<;>first | exact h1.elim | exact h2.elim | exact h3.elim | skip
     refine⟨.slice (some ⟨B,_,none⟩) n n,?_,by simp only[VR];exact⟨B,sz,hB,rfl⟩⟩
     simp only[Instr.sliceAt,Sem.run_bind,run_underlying_of hu,Result.andThen,Instr.sureAddr,Instr.sliceBounds]
     by_cases hn:n=0<;>simp[hn,addr_add,hrs]
    ·cases h
   ·cases h
  ·cases h
 ·
  split at h
  ·rename_i ht
   have hu:=hT.str ht rfl
   split at h
   ·rename_i l h' el eh
    split at h
    ·rename_i hc
     cases h
     rw[VR_lit hx]
     have hb:∀s:ByteArray,h'≤s.size→natOr s.size hi=some h'→(Instr.sliceBounds false s.size s.size vlo vhi none).run P w=.ok (l,h',s.size) w:=fun s hs eh=>by
      have h3':ovr imm mu none none:=trivial
      exact sliceBounds_ok h1 h2 h3' el eh rfl hc.1 hs (Nat.le_refl _) (by simp)
     cases vmx with
     | some _=>exact h3.elim
     | none =>
      refine⟨_,?_,by simp only[VR];rfl⟩
      simp only[Instr.sliceAt,Sem.run_bind,run_underlying_of hu,Result.andThen,Instr.slice]
      simp[hb _ hc.2 eh]
    ·cases h
   ·cases h
  ·cases h
 ·cases h
theorem VR_vp0{sz n B o:Nat}{els:List AV}{cs:List Value}{el:AV}(hels:VRels imm noMu sz els cs)(hseg:Seg imm B o cs)(hel:els[n]?=some el):
  VR imm mu (.vp el 0) (.pointer (some ⟨B,o+n*sz,none⟩)):=by
 obtain⟨c,h1,h2,h3,h4⟩:=hels.get hel
 simp only[VR]
 exact⟨B,o+n*sz,c,rfl,h1,h3,fun j x hx=>by rw[Nat.add_assoc];exact hseg _ _ (h4 j x hx)⟩
theorem aindexAddr_ok(hT:TOk P T){t:TypeId}{x ix v:AV}{a b:Value}(hx:VR imm mu x a)(hi:VR imm mu ix b)(h:aindexAddr T t x ix=some v):
  ∃c,(Instr.indexAt t a b).run P w=.ok c w∧VR imm mu v c:=by
 unfold aindexAddr at h
 split at h
 ·rename_i n _ _ _ _ e _ en ht
  obtain⟨k,m,rfl,h0,hn⟩:=natOf_spec en hi
  have hu:=hT.slice ht rfl
  split at h
  ·rename_i te hte
   have hrs:=hT.run_size hte w
   split at h
   ·rename_i sz _ els
    split at h
    ·rename_i hz
     subst hz
     cases hel:els[n]? with
     | none=>rw[hel]at h;cases h
     | some el =>
      rw[hel]at h
      cases h
      simp only[VR]at hx
      obtain⟨B,o,sp,cap,cs,rfl,hsp,_,_,hcapl,hels,hseg⟩:=hx
      have hlt:n<els.length:=(List.getElem?_eq_some_iff.1 hel).1
      obtain rfl:sp=none:=by rcases hsp with h | h;· omega
                             ·exact h
      refine⟨.pointer (some ⟨B,o+n*te.size,none⟩),?_,VR_vp0 hels hseg hel⟩
      have hb:0≤m∧m<(els.length:Int):=⟨h0,by omega⟩
      simp only[Instr.indexAt,asIntOf,Sem.run_bind,run_underlying_of hu,Result.andThen,Sem.run_pure]
      simp[hb,hrs,addr_add,hn]
    ·cases h
   ·rename_i bb sz i len _
    split at h
    ·rename_i hz
     obtain⟨hz,hlt⟩:=hz
     subst hz
     cases h
     simp only[VR]at hx
     obtain⟨B,cap,hB,hcap,rfl⟩:=hx
     refine⟨.pointer (some ⟨B,i*te.size+n*te.size,none⟩),?_,by simp only[VR];exact⟨B,te.size,hB,by rw[Nat.add_mul];rfl⟩⟩
     have hb:0≤m∧m<(len:Int):=⟨h0,by omega⟩
     simp only[Instr.indexAt,asIntOf,Sem.run_bind,run_underlying_of hu,Result.andThen,Sem.run_pure]
     simp[hb,hrs,addr_add,hn]
    ·cases h
   ·cases h
  ·cases h
 ·rename_i n _ _ _ _ m' e _ en ht
  obtain⟨k,m,rfl,h0,hn⟩:=natOf_spec en hi
  have hu:=hT.array ht rfl
  split at h
  ·rename_i te hte
   have hrs:=hT.run_size hte w
   split at h
   ·rename_i hlt
    have hb:0≤m∧m<(m':Int):=⟨h0,by omega⟩
    split at h
    ·cases h
     simp only[VR]at hx
     obtain⟨B,sz,hB,rfl⟩:=hx
     refine⟨.pointer (some ⟨B,_+n*te.size,none⟩),?_,by simp only[VR];exact⟨B,sz,hB,by rw[Nat.add_assoc]⟩⟩
     simp only[Instr.indexAt,asIntOf,Sem.run_bind,run_underlying_of hu,Result.andThen,Sem.run_pure,Instr.sureAddr]
     simp[hb,hrs,addr_add,hn]
    ·cases h
     simp only[VR]at hx
     obtain⟨B,o,c,rfl,h1,h2,h3⟩:=hx
     refine⟨.pointer (some ⟨B,_+n*te.size,none⟩),?_,by simp only[VR];exact⟨B,o,c,by rw[Nat.add_assoc],h1,h2,h3⟩⟩
     simp only[Instr.indexAt,asIntOf,Sem.run_bind,run_underlying_of hu,Result.andThen,Sem.run_pure,Instr.sureAddr]
     simp[hb,hrs,addr_add,hn]
    ·cases h
   ·cases h
  ·cases h
 ·cases h
theorem TOk.field(hT:TOk P T){t:TypeId}{ti:TI}(ht:T t=some ti){fs:List (Nat×TypeId)}(hd:ti.d=.struct fs){f off:Nat}{ft:TypeId}(hf:fs[f]?=some (off,ft)):
  ∃(fields:Array Field)(fd:Field),P.underlying t=some (.struct fields)∧fields[f]?=some fd∧fd.offset=off∧fd.type=ft:=by
 obtain⟨fields,h1,rfl⟩:=hT.struct ht hd
 rw[List.getElem?_map]at hf
 cases hfd:fields.toList[f]? with
 | none=>rw[hfd]at hf;cases hf
 | some fd =>
  rw[hfd]at hf
  simp at hf
  exact⟨fields,fd,h1,by simpa using hfd,hf.1,hf.2⟩
theorem afieldAddr_ok(hT:TOk P T){t:TypeId}{x v:AV}{f:Nat}{a:Value}(hx:VR imm mu x a)(h:afieldAddr T t x f=some v):
  ∃c,(Instr.fieldAt t a f).run P w=.ok c w∧VR imm mu v c:=by
 unfold afieldAddr at h
 split at h
 ·rename_i fs _ ht
  split at h
  ·rename_i off ft hf
   obtain⟨fields,fd,hu,hfd,e1,e2⟩:=hT.field ht rfl hf
   split at h
   ·rename_i ti hti
    have hrs:=hT.run_size hti w
    split at h
    ·cases h
    ·rename_i hz
     split at h
     ·cases h
      simp only[VR]at hx
      obtain⟨B,sz,hB,rfl⟩:=hx
      refine⟨.pointer (some ⟨B,_+off,none⟩),?_,by simp only[VR];exact⟨B,sz,hB,by rw[Nat.add_assoc]⟩⟩
      simp only[Instr.fieldAt,Sem.run_bind,run_underlying_of hu,Result.andThen,hfd,Instr.sureAddr,Sem.run_pure,fieldPlace,e1,e2,hrs]
      simp[hz,addr_add]
     ·cases h
      simp only[VR]at hx
      obtain⟨B,o,c,rfl,h1,h2,h3⟩:=hx
      refine⟨.pointer (some ⟨B,_+off,none⟩),?_,by simp only[VR];exact⟨B,o,c,by rw[Nat.add_assoc],h1,h2,h3⟩⟩
      simp only[Instr.fieldAt,Sem.run_bind,run_underlying_of hu,Result.andThen,hfd,Instr.sureAddr,Sem.run_pure,fieldPlace,e1,e2,hrs]
      simp[hz,addr_add]
     ·cases h
   ·cases h
  ·cases h
 ·cases h
theorem apart_ok(hT:TOk P T){t:TypeId}{ti:TI}(ht:T t=some ti){cells:List AV}{cs:List Value}{off:Nat}{v:AV}(hc:VRs imm mu cells cs)(ho:∀x∈cs,one x)(h:apart ti cells off=some v):
  ∃c,(part t cs.toArray off).run P w=.ok c w∧VR imm mu v c:=by
 unfold apart at h
 have ha:=hT.run_isAgg ht w
 have hs:=hT.run_size ht w
 split at h
 ·rename_i hagg
  split at h
  ·rename_i hl
   cases h
   refine⟨.agg ((cs.drop off).take ti.size).toArray,?_,?_⟩
   ·simp only[part,Sem.run_bind,ha,hagg,Result.andThen,if_true,hs,Sem.run_pure]
    congr 2
    apply Array.ext'
    simp
   ·simp only[VR]
    exact⟨_,rfl,(hc.drop off).take _,fun x hx=>ho x (List.mem_of_mem_drop (List.mem_of_mem_take hx))⟩
  ·cases h
 ·rename_i hagg
  obtain⟨c,h1,h2⟩:=hc.get h
  refine⟨c,?_,h2⟩
  simp only[part,Sem.run_bind,ha,Result.andThen]
  simp[hagg,h1]
theorem afield_ok(hT:TOk P T){t:TypeId}{x v:AV}{f:Nat}{a:Value}(hx:VR imm mu x a)(h:afield T t x f=some v):
  ∃c,(Instr.field t a f).run P w=.ok c w∧VR imm mu v c:=by
 unfold afield at h
 split at h
 ·rename_i fs _ cells ht
  split at h
  ·rename_i off ft hf
   obtain⟨fields,fd,hu,hfd,e1,e2⟩:=hT.field ht rfl hf
   split at h
   ·rename_i ti hti
    simp only[VR]at hx
    obtain⟨cs,rfl,h1,h2⟩:=hx
    obtain⟨c,h3,h4⟩:=apart_ok (w:=w) hT hti h1 h2 h
    refine⟨c,?_,h4⟩
    simp only[Instr.field,Sem.run_bind,run_underlying_of hu,Result.andThen,hfd,asAgg,Sem.run_pure,e1,e2,h3]
   ·cases h
  ·cases h
 ·cases h
theorem aindex_ok(hT:TOk P T){t:TypeId}{x ix v:AV}{a b:Value}(hx:VR imm mu x a)(hi:VR imm mu ix b)(h:aindex T t x ix=some v):
  ∃c,(Instr.index t a b).run P w=.ok c w∧VR imm mu v c:=by
 unfold aindex at h
 split at h
 ·rename_i n _ _ _ _ m' e _ cells en ht
  obtain⟨k,m,rfl,h0,hn⟩:=natOf_spec en hi
  have hu:=hT.array ht rfl
  split at h
  ·rename_i te hte
   have hrs:=hT.run_size hte w
   split at h
   ·rename_i hlt
    have hb:0≤m∧m<(m':Int):=⟨h0,by omega⟩
    simp only[VR]at hx
    obtain⟨cs,rfl,h1,h2⟩:=hx
    obtain⟨c,h3,h4⟩:=apart_ok (w:=w) hT hte h1 h2 h
    refine⟨c,?_,h4⟩
    simp only[Instr.index,asIntOf,Sem.run_bind,run_underlying_of hu,Result.andThen,Sem.run_pure]
    simp[hb,hrs,hn,Result.andThen,h3]
   ·cases h
  ·cases h
 ·rename_i n _ _ _ _ _ s en ht
  obtain⟨k,m,rfl,h0,hn⟩:=natOf_spec en hi
  have hu:=hT.str ht rfl
  cases hs:s[n]? with
  | none=>rw[hs]at h;cases h
  | some y =>
   rw[hs]at h
   cases h
   rw[VR_lit hx]
   refine⟨.int .u8 y.toNat,?_,by simp[VR]⟩
   simp only[Instr.index,asIntOf,Sem.run_bind,run_underlying_of hu,Result.andThen,Sem.run_pure]
   simp[h0,hn,hs]
 ·cases h
variable {P:Program} {T:TypeId→Option TI} {imm:Imm} {mu:Mu} {w:World}
theorem one_cells{c:Value}(h:one c):c.cells=#[c]:=by cases c<;>first | rfl | simp[one,Value.oneCell']at h
theorem VR_one:∀ {a:AV} {c:Value},VR imm mu a c→a≠.dead→(∀v,a=.lit v→one v)→aggOf a=none→(∀l,a≠.tup l)→one c
 | .dead,_,_,h,_,_,_=>absurd rfl h
 | .lit v,c,hr,_,hl,_,_=>by rw[VR_lit hr];exact hl v rfl
 | .ptr ..,c,hr,_,_,_,_=>by simp only[VR]at hr;obtain⟨_,_,_,rfl⟩:=hr;rfl
 | .sl ..,c,hr,_,_,_,_=>by simp only[VR]at hr;obtain⟨_,_,_,_,rfl⟩:=hr;rfl
 | .isl ..,c,hr,_,_,_,_=>by simp only[VR]at hr;obtain⟨_,_,_,rfl⟩:=hr;rfl
 | .vp ..,c,hr,_,_,_,_=>by simp only[VR]at hr;obtain⟨_,_,_,rfl,_⟩:=hr;rfl
 | .vec ..,c,hr,_,_,_,_=>by simp only[VR]at hr;obtain⟨_,_,_,_,_,rfl,_⟩:=hr;rfl
 | .fn ..,c,hr,_,_,_,_=>by simp only[VR]at hr;obtain⟨_,rfl,_⟩:=hr;rfl
 | .yld _,c,hr,_,_,_,_=>by simp only[VR]at hr;obtain⟨_,_,_,rfl⟩:=hr;rfl
 | .mp _,c,hr,_,_,_,_=>by simp only[VR]at hr;obtain⟨_,_,_,rfl⟩:=hr;rfl
 | .agg l,c,_,_,_,h,_=>by simp[aggOf]at h
 | .tup l,c,_,_,_,_,h=>absurd rfl (h l)
structure FitOk(ti:TI)(a:AV)(c:Value):Prop where
 size:c.cells.size=ti.size
 ones:∀x∈c.cells.toList,one x
 scal:aggOf a=none→c.cells=#[c]∧ti.size=1∧one c∧ti.agg=false
 agg:∀l,a=.agg l→l.length=ti.size∧ti.agg=true
theorem fit_ok{ti:TI}{a:AV}{c:Value}(hf:fit ti a=true)(h:VR imm mu a c):FitOk ti a c:=by
 have sc:aggOf a=none→ti.agg=false→ti.size=1→one c→FitOk ti a c:=fun h1 h2 h3 h4 =>
  ⟨by rw[one_cells h4,h3];rfl,fun x hx=>by rw[one_cells h4]at hx;simp at hx;rw[hx];exact h4,fun _=>⟨one_cells h4,h3,h4,h2⟩,fun l hl=>by rw[hl]at h1;simp[aggOf]at h1⟩
 cases a with
 | agg l =>
  simp only[fit,Bool.and_eq_true,beq_iff_eq]at hf
  simp only[VR]at h
  obtain⟨cs,rfl,h1,h2⟩:=h
  have hl:=h1.length
  refine⟨?_,?_,?_,?_⟩
  ·simp[Value.cells];omega
  ·intro x hx;simp[Value.cells]at hx;exact h2 x hx
  ·intro h;simp[aggOf]at h
  ·intro l' hl';cases hl';exact⟨hf.2,hf.1⟩
 | tup l=>simp[fit]at hf
 | dead=>simp[fit]at hf
 | lit v =>
  have hv:one v∧ti.agg=false∧ti.size=1:=by
   cases v<;>first | (simp[fit]at hf;done) | (simp[fit]at hf;exact⟨rfl,hf⟩)
  exact sc rfl hv.2.1 hv.2.2 (by rw[VR_lit h];exact hv.1)
 | ptr=>simp[fit]at hf;exact sc rfl hf.1 hf.2 (VR_one h (by simp) (by simp) rfl (by simp))
 | sl=>simp[fit]at hf;exact sc rfl hf.1 hf.2 (VR_one h (by simp) (by simp) rfl (by simp))
 | isl=>simp[fit]at hf;exact sc rfl hf.1 hf.2 (VR_one h (by simp) (by simp) rfl (by simp))
 | vp=>simp[fit]at hf;exact sc rfl hf.1 hf.2 (VR_one h (by simp) (by simp) rfl (by simp))
 | vec=>simp[fit]at hf;exact sc rfl hf.1 hf.2 (VR_one h (by simp) (by simp) rfl (by simp))
 | fn=>simp[fit]at hf;exact sc rfl hf.1 hf.2 (VR_one h (by simp) (by simp) rfl (by simp))
 | yld=>simp[fit]at hf;exact sc rfl hf.1 hf.2 (VR_one h (by simp) (by simp) rfl (by simp))
 | mp=>simp[fit]at hf;exact sc rfl hf.1 hf.2 (VR_one h (by simp) (by simp) rfl (by simp))
theorem VR_cellsOf{ti:TI}{a:AV}{c:Value}(hf:fit ti a=true)(h:VR imm mu a c):VRs imm mu (cellsOf a) c.cells.toList:=by
 have hF:=fit_ok hf h
 cases ha:aggOf a with
 | some l =>
  rw[aggOf_some ha]at h ⊢
  simp only[VR]at h
  obtain⟨cs,rfl,h1,_⟩:=h
  simpa [cellsOf,Value.cells] using h1
 | none =>
  have hc:cellsOf a=[a]:=by cases a<;>first | rfl | simp[aggOf]at ha
  rw[hc,(hF.scal ha).1]
  simp only[VRs]
  exact⟨c,[],rfl,h,rfl⟩
theorem splice_ok:∀(vs:List Value)(off k:Nat)(cs:Array Value),off+k+vs.length≤cs.size→
  (vs.zipIdx k).foldl (fun (cs:Array Value) (p:Value×Nat)=>cs.setIfInBounds (off+p.2) p.1) cs=(cs.toList.take (off+k)++vs++cs.toList.drop (off+k+vs.length)).toArray
 | [],off,k,cs,_=>by apply Array.ext';simp
 | v::vs,off,k,cs,h=>by
  simp only[List.zipIdx_cons,List.foldl_cons]
  rw[splice_ok vs off (k+1) _ (by simp at h ⊢;omega)]
  apply Array.ext'
  simp only[Array.toList_setIfInBounds,List.length_cons]
  have hk:off+k<cs.toList.length:=by simp at h ⊢;omega
  have e1:(cs.toList.set (off+k) v).take (off+(k+1))=cs.toList.take (off+k)++[v]:=by
   rw[show off+(k+1)=off+k+1 from by omega,List.take_set,List.take_succ_eq_append_getElem hk,List.set_append]
   have hmin:min (off+k) cs.size=off+k:=by simp at hk;omega
   simp[hmin]
  have e2:(cs.toList.set (off+k) v).drop (off+(k+1)+vs.length)=cs.toList.drop (off+k+(vs.length+1)):=by
   rw[List.drop_set_of_lt (by omega)]
   congr 1;omega
  simp only[e1,e2]
  simp[List.append_assoc]
def PartsR(imm:Imm)(mu:Mu)(place:Nat→Option (Nat×Nat)):List (Nat×TI×AV)→List (Nat×Value)→Prop
 | [],vs=>vs=[]
 | p::ps,vs=>∃q vs',vs=q::vs'∧place q.1=some (p.1,p.2.1.size)∧VR imm mu p.2.2 q.2∧PartsR imm mu place ps vs'
theorem fill_ok{place:Nat→Option (Nat×Nat)}:∀ {parts:List (Nat×TI×AV)} {vs:List (Nat×Value)} {z z':List AV} {cs:Array Value},
  PartsR imm mu place parts vs→VRs imm mu z cs.toList→(∀x∈cs.toList,one x)→afill z parts=some z'→
  ∃cs',Instr.fill place cs vs=some cs'∧VRs imm mu z' cs'.toList∧(∀x∈cs'.toList,one x)
 | [],_,z,z',cs,hp,hz,ho,h=>by
  simp only[PartsR]at hp;subst hp
  simp only[afill,Option.some.injEq]at h;subst h
  exact⟨cs,rfl,hz,ho⟩
 | (off,ti,x)::parts,_,z,z',cs,hp,hz,ho,h=>by
  simp only[PartsR]at hp
  obtain⟨⟨i,v⟩,vs,rfl,hq1,hq2,hp⟩:=hp
  have hq:place i=some (off,ti.size)∧VR imm mu x v:=⟨hq1,hq2⟩
  ·unfold afill at h
   split at h
   ·rename_i hc
    have hF:=fit_ok hc.1 hq.2
    have hlen:=hz.length
    simp only[Array.length_toList]at hlen
    have hsp:=splice_ok v.cells.toList off 0 cs (by simp[hF.size];omega)
    simp only[Nat.add_zero]at hsp
    have hz2:VRs imm mu (z.take off++cellsOf x++z.drop (off+ti.size)) (cs.toList.take off++v.cells.toList++cs.toList.drop (off+v.cells.toList.length)):=by
     refine((hz.take off).append (VR_cellsOf hc.1 hq.2)).append ?_
     have:v.cells.toList.length=ti.size:=by simpa using hF.size
     rw[this];exact hz.drop _
    have ho2:∀y∈cs.toList.take off++v.cells.toList++cs.toList.drop (off+v.cells.toList.length),one y:=by
     intro y hy
     simp only[List.mem_append]at hy
     rcases hy with(hy | hy) | hy
     ·exact ho y (List.mem_of_mem_take hy)
     ·exact hF.ones y hy
     ·exact ho y (List.mem_of_mem_drop hy)
    obtain⟨cs',h1,h2,h3⟩:=fill_ok hp (cs:=(cs.toList.take off++v.cells.toList++cs.toList.drop (off+v.cells.toList.length)).toArray) (by simpa using hz2) (by simpa using ho2) h
    refine⟨cs',?_,h2,h3⟩
    simp only[Instr.fill,hq.1]
    rw[if_neg (by simp[hF.size];omega)]
    rw[←hsp]at h1
    rw[←h1]
    rw[←Array.toList_zipIdx,Array.foldl_toList]
   ·cases h
theorem run_mapM_places(hT:TOk P T)(w:World):∀(fs:List Field),(∀f∈fs,(T f.type).isSome=true)→
  (fs.mapM (fun f=>do pure (f.offset,←sizeOf f.type):Field→Sem (Nat×Nat))).run P w=.ok (fs.map fun f=>(f.offset,P.cellsOf f.type)) w
 | [],_=>rfl
 | f::fs,h=>by
  obtain⟨ti,hti⟩:=Option.isSome_iff_exists.1 (h f (by simp))
  have hs:=hT.run_size hti w
  have hc:P.cellsOf f.type=ti.size:=by
   obtain⟨i,_,_,h1,_,_,h4,_⟩:=hT.info hti
   simp[Program.cellsOf,h1,h4]
  simp only[List.mapM_cons,Sem.run_bind,hs,Result.andThen,Sem.run_pure,run_mapM_places hT w fs (fun g hg=>h g (by simp[hg])),List.map_cons,hc]
def VParts(imm:Imm)(mu:Mu):List (Nat×AV)→List (Nat×Value)→Prop
 | [],vs=>vs=[]
 | p::ps,vs=>∃q vs',vs=q::vs'∧q.1=p.1∧VR imm mu p.2 q.2∧VParts imm mu ps vs'
theorem VParts.partsR(hT:TOk P T){fs:List (Nat×TypeId)}{place:Nat→Option (Nat×Nat)}(hpl:∀i off ft ti,fs[i]?=some (off,ft)→T ft=some ti→place i=some (off,ti.size)):
  ∀ {parts:List (Nat×AV)} {vs:List (Nat×Value)} {ps:List (Nat×TI×AV)},VParts imm mu parts vs→
  parts.mapM (fun (i,x)=>match fs[i]? with | some (off,ft)=>(T ft).map fun tf=>(off,tf,x) | none=>none)=some ps→PartsR imm mu place ps vs
 | [],vs,ps,h,hm=>by simp at hm;subst hm;simpa [VParts,PartsR] using h
 | (i,x)::parts,vs,ps,h,hm=>by
  simp only[VParts]at h
  obtain⟨⟨i',v⟩,vs',rfl,h1,h2,h3⟩:=h
  simp only at h1
  subst h1
  simp only[List.mapM_cons]at hm
  cases hf:fs[i']? with
  | none=>rw[hf]at hm;simp at hm
  | some q =>
   obtain⟨off,ft⟩:=q
   rw[hf]at hm
   simp only at hm
   cases ht:T ft with
   | none=>rw[ht]at hm;simp at hm
   | some tf =>
    rw[ht]at hm
    simp only[Option.map_some,Option.bind_eq_bind,Option.bind_some]at hm
    cases hr:parts.mapM (fun (i,x)=>match fs[i]? with | some (off,ft)=>(T ft).map fun tf=>(off,tf,x) | none=>none) with
    | none=>rw[hr]at hm;simp at hm
    | some ps' =>
     rw[hr]at hm
     simp at hm
     subst hm
     simp only[PartsR]
     exact⟨_,vs',rfl,hpl _ _ _ _ hf ht,h2,VParts.partsR hT hpl h3 hr⟩
theorem abuild_ok(hT:TOk P T){t:TypeId}{parts:List (Nat×AV)}{vs:List (Nat×Value)}{v:AV}(hp:VParts imm mu parts vs)(h:abuild T t parts=some v):
  ∃c,(Instr.build t vs.toArray).run P w=.ok c w∧VR imm mu v c:=by
 unfold abuild at h
 split at h
 ·rename_i ti ht
  split at h
  ·cases h
  ·rename_i hagg
   obtain⟨z,hz,hzc⟩:=hT.run_zero ht w
   obtain⟨_,_,_,_,_,_,_,_,_,_,_,_,_,hones,_⟩:=hT.info ht
   have hzl:VRs imm mu (ti.zero.map AV.lit) z.cells.toList:=by rw[hzc];exact VRs_lits _ _ _
   have hzo:∀x∈z.cells.toList,one x:=by rw[hzc];exact hones
   simp only at h
   split at h
   ·rename_i fs hd
    split at h
    ·cases h
    ·rename_i hall
     split at h
     ·rename_i ps hps
      obtain⟨fields,hu,hfs⟩:=hT.struct ht hd
      have hall':∀f∈fields.toList,(T f.type).isSome=true:=by
       intro f hf
       have h2:fs.all (fun p=>(T p.2).isSome)=true:=by
        cases hb:fs.all (fun p=>(T p.2).isSome) with
        | true=>rfl
        | false=>exact absurd hb hall
       rw[hfs]at h2
       simp only[List.all_map,List.all_eq_true]at h2
       exact h2 f hf
      have hpl:∀(i off:Nat)(ft:TypeId)(ti':TI),fs[i]?=some (off,ft)→T ft=some ti'→(fields.map fun f=>(f.offset,P.cellsOf f.type))[i]?=some (off,ti'.size):=by
       intro i off ft ti' hi hti
       obtain⟨fields',fd,hu',hfd,e1,e2⟩:=hT.field ht hd hi
       rw[hu]at hu';cases hu'
       have hc:P.cellsOf fd.type=ti'.size:=by
        rw[e2];obtain⟨i,_,_,h1,_,_,h4,_⟩:=hT.info hti
        simp[Program.cellsOf,h1,h4]
       simp[hfd,e1,hc]
      cases haf:afill (ti.zero.map AV.lit) ps with
      | none=>rw[haf]at h;cases h
      | some z' =>
       rw[haf]at h;cases h
       obtain⟨cs',h1,h2,h3⟩:=fill_ok (hp.partsR hT hpl hps) hzl hzo haf
       refine⟨.agg cs',?_,by simp only[VR];exact⟨cs'.toList,by simp,h2,h3⟩⟩
       have hm:=run_mapM_places hT w fields.toList hall'
       have hm2:(fields.mapM (fun f=>do pure (f.offset,←sizeOf f.type):Field→Sem (Nat×Nat))).run P w=.ok (fields.map fun f=>(f.offset,P.cellsOf f.type)) w:=by
        rw[Array.mapM_eq_mapM_toList]
        simp only[Sem.run_map,hm,Result.andThen]
        congr 1
        apply Array.ext';simp
       simp only[Instr.build,Sem.run_bind,hz,Result.andThen,run_underlying_of hu,hm2,h1,Sem.run_pure]
     ·cases h
   ·rename_i n e hd
    split at h
    ·rename_i te hte
     have hu:=hT.array ht hd
     have hrs:=hT.run_size hte w
     cases haf:afill (ti.zero.map AV.lit) (parts.map fun (i,x)=>(i*te.size,te,x)) with
     | none=>rw[haf]at h;cases h
     | some z' =>
      rw[haf]at h;cases h
      have hpr:∀ {parts:List (Nat×AV)} {vs:List (Nat×Value)},VParts imm mu parts vs→PartsR imm mu (fun i=>some (i*te.size,te.size)) (parts.map fun (i,x)=>(i*te.size,te,x)) vs:=by
       intro parts
       induction parts with
       | nil=>intro vs h;simpa [VParts,PartsR] using h
       | cons p ps ih =>
        intro vs h
        obtain⟨i,x⟩:=p
        simp only[VParts]at h
        obtain⟨q,vs',rfl,h1,h2,h3⟩:=h
        simp only[List.map_cons,PartsR]
        exact⟨q,vs',rfl,by rw[h1],h2,ih h3⟩
      obtain⟨cs',h1,h2,h3⟩:=fill_ok (hpr hp) hzl hzo haf
      refine⟨.agg cs',?_,by simp only[VR];exact⟨cs'.toList,by simp,h2,h3⟩⟩
      simp only[Instr.build,Sem.run_bind,hz,Result.andThen,run_underlying_of hu,hrs,h1,Sem.run_pure]
    ·cases h
   ·cases h
 ·cases h
variable {P:Program} {T:TypeId→Option TI}
theorem free_spec{ro nm:Nat}{H:Hp}(h:free ro H nm=true):ro≤nm∧((nm=H.length)∨H[nm]?=some .res):=by
 unfold free at h
 split at h
 ·simp only[Bool.and_eq_true,beq_iff_eq,Nat.ble_eq]at h;exact⟨h.2,.inl h.1⟩
 ·rename_i hr;simp only[Nat.ble_eq]at h;exact⟨h,.inr hr⟩
 ·cases h
theorem putB_length_le(H:Hp)(u:Option (Nat×ABlock)):H.length≤(putB H u).length:=by
 unfold putB;split
 ·exact Nat.le_refl _
 ·split<;>simp
theorem putB_ne{H:Hp}{nm:Nat}{blk:ABlock}{b:Nat}(h:b≠nm):(putB H (some (nm,blk)))[b]?=H[b]?:=by
 simp only[putB]
 split
 ·rename_i e
  rw[List.getElem?_append]
  split
  ·rfl
  ·rename_i hb
   rw[List.getElem?_eq_none (by simp at hb ⊢;omega),List.getElem?_eq_none (by simpa using hb)]
 ·rw[List.getElem?_set_ne (Ne.symm h)]
theorem putB_same{H:Hp}{nm:Nat}{blk:ABlock}(h:nm≤H.length):(putB H (some (nm,blk)))[nm]?=some blk:=by
 simp only[putB]
 split
 ·rename_i e;subst e;simp
 ·rw[List.getElem?_set_self (by omega)]
theorem lt_of_get{H:Hp}{b:Nat}{blk:ABlock}(h:H[b]?=some blk):b<H.length:=(List.getElem?_eq_some_iff.1 h).1
theorem MR.fresh_imm{g:Gh}{ro:Nat}{H:Hp}{w:World}(hm:MR g ro H w){B:Nat}(hB:w.heap.size≤B)(o:Nat):g.imm B o=none:=by
 cases h:g.imm B o with
 | none=>rfl
 | some v =>
  have:=World.block_lt_of_cell? _ _ (hm.imm B o v h)
  simp at this;omega
theorem MR.fresh_ow{g:Gh}{ro:Nat}{H:Hp}{w:World}(hm:MR g ro H w){B:Nat}(hB:w.heap.size≤B):g.ow B=none:=by
 cases h:g.ow B with
 | none=>rfl
 | some l=>have:=hm.owlt B l h;omega
theorem MR.mu_lt{g:Gh}{ro:Nat}{H:Hp}{w:World}(hm:MR g ro H w){b:Nat}{x:Nat×Nat}(h:g.mu b=some x):b<H.length:=by
 rcases Nat.lt_or_ge b H.length with h' | h'
 ·exact h'
 ·rw[hm.dom b h']at h;cases h
def Gh.anon(g:Gh)(B:Nat)(ccs:Array Value)(n:Nat)(l:Option Loc):Gh :=
 { g with imm:=fun B' o=>if B'=B then (if o<n then ccs[o]? else none) else g.imm B' o,ow:=fun B'=>if B'=B then l else g.ow B' }
theorem Keeps.anon{g:Gh}{ro:Nat}{H:Hp}{w:World}(hm:MR g ro H w)(o:Obj)(ccs:Array Value)(n:Nat)(l:Option Loc):Keeps g w (g.anon w.heap.size ccs n l) (w.alloc o) (fun _=>False) where
 imm:=fun B o v h=>by
  have:B≠w.heap.size:=fun e=>by rw[hm.fresh_imm (Nat.le_of_eq e.symm) o]at h;cases h
  simp[Gh.anon,this,h]
 mun:=.refl _ _
 size:=by simp
 same:=fun B hB _=>by
  have:B≠w.heap.size:=Nat.ne_of_lt hB
  exact⟨by simp[Gh.anon,this],fun o=>by simp[Gh.anon,this],heap_alloc_old w o hB⟩
 out:=⟨rfl,rfl,rfl⟩
theorem MR.anon{g:Gh}{ro:Nat}{H:Hp}{w:World}(hm:MR g ro H w)(ccs:Array Value)(e:TypeId)(n:Nat)(l:Option Loc):
  MR (g.anon w.heap.size ccs n l) ro H (w.alloc (.cells ccs e)):=by
 have k:=Keeps.anon hm (.cells ccs e) ccs n l
 have hne:∀b B sz,g.mu b=some (B,sz)→B≠w.heap.size:=fun b B sz h e=>by have:=hm.lt b B sz h;omega
 refine⟨hm.role,?_,hm.dom,hm.inj,?_,?_,?_,?_,?_⟩
 ·intro B o v h
  by_cases hB:B=w.heap.size
  ·subst hB
   simp only[Gh.anon,if_true]at h
   split at h
   ·rw[World.cell?_alloc_new];exact h
   ·cases h
  ·simp only[Gh.anon,hB,if_false]at h
   rw[World.cell?_alloc_old _ _ _ (by simpa using hB)];exact hm.imm B o v h
 ·intro b B sz h;have:=hm.lt b B sz h;simp;omega
 ·intro B l' h
  by_cases hB:B=w.heap.size
  ·subst hB;simp
  ·simp only[Gh.anon,hB,if_false]at h
   have:=hm.owlt B l' h;simp;omega
 ·intro b B sz hb h
  simp only[Gh.anon,hne b B sz h,if_false];exact hm.prot b B sz hb h
 ·intro b B sz hb h
  simp only[Gh.anon,hne b B sz h,if_false];exact hm.free b B sz hb h
 ·intro b blk hb
  exact(hm.blk b blk hb).keeps k hm.owlt (fun B sz h=>hm.lt b B sz h) (fun _ _ _ h=>h) (fun _ _ _ _ h=>h) id
theorem Seg.anon(g:Gh)(B:Nat)(ccs:Array Value)(n:Nat)(l:Option Loc):Seg (g.anon B ccs n l).imm B 0 (ccs.toList.take n):=by
 intro i c hc
 rw[List.getElem?_take]at hc
 split at hc
 ·rename_i hi
  simp only[Gh.anon,Nat.zero_add,if_true,hi,if_true]
  simpa using hc
 ·cases hc
def Gh.named(g:Gh)(nm B sz:Nat):Gh:={ g with mu:=fun b=>if b=nm then some (B,sz) else g.mu b }
theorem MR.named_mu{g:Gh}{ro:Nat}{H:Hp}{w:World}(hm:MR g ro H w){nm:Nat}(hf:Abs.free ro H nm=true):g.mu nm=none:=by
 rcases (free_spec hf).2 with h | h
 ·exact hm.dom nm (by omega)
 ·exact hm.blk nm _ h
theorem Keeps.named{g:Gh}{ro:Nat}{H:Hp}{w:World}(hm:MR g ro H w){nm:Nat}(hf:Abs.free ro H nm=true)(o:Obj)(sz:Nat):Keeps g w (g.named nm w.heap.size sz) (w.alloc o) (fun _=>False) where
 imm:=Imm.le_refl _
 mun:=⟨fun b x h=>by
  have:b≠nm:=fun e=>by rw[e,hm.named_mu hf]at h;cases h
  simp[Gh.named,this,h],fun b B sz h=>by
  simp only[Gh.named]at h
  split at h
  ·cases h;exact .inr (Nat.le_refl _)
  ·exact .inl h⟩
 size:=by simp
 same:=fun B hB _=>⟨rfl,fun _=>rfl,heap_alloc_old w o hB⟩
 out:=⟨rfl,rfl,rfl⟩
theorem MR.named{g:Gh}{ro:Nat}{H:Hp}{w:World}(hm:MR g ro H w){nm:Nat}(hf:Abs.free ro H nm=true)(o:Obj)(sz:Nat)(blk:ABlock)
  (hb:BR (g.named nm w.heap.size sz) (w.alloc o) nm blk):MR (g.named nm w.heap.size sz) ro (putB H (some (nm,blk))) (w.alloc o):=by
 have k:=Keeps.named hm hf o sz
 have hle:nm≤H.length:=by
  rcases (free_spec hf).2 with h | h
  ·omega
  ·exact Nat.le_of_lt (lt_of_get h)
 have hmu:∀b x,(g.named nm w.heap.size sz).mu b=some x→(b=nm∧x=(w.heap.size,sz))∨(b≠nm∧g.mu b=some x):=by
  intro b x h
  by_cases e:b=nm
  ·left;simp only[Gh.named,e,if_true,Option.some.injEq]at h;exact⟨e,h.symm⟩
  ·right;simp only[Gh.named,e,if_false]at h;exact⟨e,h⟩
 refine⟨Nat.le_trans hm.role (putB_length_le H _),?_,?_,?_,?_,?_,?_,?_,?_⟩
 ·intro B o' v h
  have hv:w.cell? ⟨B,o',none⟩=some v:=hm.imm B o' v h
  rw[World.cell?_alloc_lt _ _ _ (World.block_lt_of_cell? _ _ hv)];exact hv
 ·intro b hb'
  have hl:H.length≤b:=Nat.le_trans (putB_length_le H _) hb'
  have hne:b≠nm:=by
   intro e;subst e
   have:=lt_of_get (putB_same (H:=H) (nm:=b) (blk:=blk) hle);omega
  simp only[Gh.named,hne,if_false];exact hm.dom b hl
 ·intro b b' B s s' h h'
  rcases hmu b _ h with⟨rfl,e⟩ | ⟨e1,e2⟩
  ·cases e
   rcases hmu b' _ h' with⟨rfl,_⟩ | ⟨_,e4⟩
   ·rfl
   ·have:=hm.lt _ _ _ e4;omega
  ·rcases hmu b' _ h' with⟨rfl,e⟩ | ⟨_,e4⟩
   ·cases e;have:=hm.lt _ _ _ e2;omega
   ·exact hm.inj b b' B s s' e2 e4
 ·intro b B s h
  rcases hmu b _ h with⟨_,e⟩ | ⟨_,e2⟩
  ·cases e;simp
  ·have:=hm.lt _ _ _ e2;simp;omega
 ·intro B l h;have:=hm.owlt B l h;simp;omega
 ·intro b B s hb' h
  rcases hmu b _ h with⟨rfl,_⟩ | ⟨_,e2⟩
  ·have:=(free_spec hf).1;omega
  ·exact hm.prot b B s hb' e2
 ·intro b B s hb' h
  rcases hmu b _ h with⟨rfl,e⟩ | ⟨_,e2⟩
  ·cases e;exact hm.fresh_ow (Nat.le_refl _)
  ·exact hm.free b B s hb' e2
 ·intro b blk' hb'
  by_cases e:b=nm
  ·subst e;rw[putB_same hle]at hb';cases hb';exact hb
  ·rw[putB_ne e]at hb'
   exact(hm.blk b blk' hb').keeps k hm.owlt (fun B sz h=>hm.lt b B sz h) (fun _ _ _ h=>h) (fun _ _ _ _ h=>h) (fun h=>by simp[Gh.named,e,h])
theorem ER.of_cells{g:Gh}{w:World}{B sz b i:Nat}{ti:TI}{a:AV}{c:Value}(hf:fit ti a=true)(h:VR g.imm g.mu a c)(hz:ti.size=sz)
  (hc:∀j x,c.cells.toList[j]?=some x→w.cell? ⟨B,i*sz+j,none⟩=some x):ER g w B sz b i a:=by
 have hF:=fit_ok hf h
 unfold ER
 cases ha:aggOf a with
 | some l =>
  have hl:=aggOf_some ha
  refine⟨by rw[(hF.agg l hl).1,hz],fun j a' ha'=>?_⟩
  have hv:=VR_cellsOf hf h
  rw[hl]at hv
  obtain⟨x,h1,h2⟩:=hv.get (show (cellsOf (.agg l))[j]?=some a' from ha')
  exact⟨x,hc j x h1,hF.ones x (List.mem_of_getElem? h1),h2.sr⟩
 | none =>
  obtain⟨h1,h2,h3,_⟩:=hF.scal ha
  refine⟨by omega,c,?_,h3,h.sr⟩
  have:=hc 0 c (by rw[h1];rfl)
  rw[←hz,h2]at this
  simpa using this
variable {P:Program} {T:TypeId→Option TI} {imm:Imm} {mu:Mu}
theorem VR.drp:∀ {a:AV} {c:Value},VR imm mu a c→VR imm mu (drp a) c
 | .agg l,c,h=>by
  simp only[VR,Abs.drp]at h ⊢
  obtain⟨cs,rfl,h1,h2⟩:=h
  exact⟨cs,rfl,h1.map fun a c h=>h.shr,h2⟩
 | .tup l,c,h=>by
  simp only[VR,Abs.drp]at h ⊢
  obtain⟨cs,rfl,h1⟩:=h
  refine⟨cs,rfl,h1.map fun a c h=>?_⟩
  cases a with
  | agg l =>
   simp only[VR]at h ⊢
   obtain⟨cs,rfl,h1,h2⟩:=h
   exact⟨cs,rfl,h1.map fun a c h=>h.shr,h2⟩
  | _=>exact h.shr
 | .dead,_,h | .lit _,_,h | .ptr ..,_,h | .sl ..,_,h | .isl ..,_,h | .vp ..,_,h | .fn ..,_,h | .yld _,_,h | .mp _,_,h=>h
 | .vec ..,_,h=>h.shr
theorem VR.cl0:∀ {a:AV} {c:Value},VR imm mu a c→VR imm noMu (cl0 a) c
 | .vec sz k els,c,h=>by
  simp only[VR,Abs.cl0]at h ⊢
  obtain⟨B,o,sp,cap,cs,h1,h0,h2,h3,h4,h5,h6⟩:=h
  rw[if_neg h2]
  exact⟨B,o,sp,cap,cs,h1,h0,h2,h3,h4,h5,h6⟩
 | .lit _,_,h=>by simpa [Abs.cl0,VR] using h
 | .vp ..,_,h=>by simpa [Abs.cl0,VR] using h
 | .fn f [],_,h=>by simpa [Abs.cl0,VR,VRs] using h
 | .fn f (_::_),_,h=>by simp[Abs.cl0,VR]
 | .dead,_,_ | .ptr ..,_,_ | .sl ..,_,_ | .isl ..,_,_ | .yld _,_,_ | .mp _,_,_ | .agg _,_,_ | .tup _,_,_=>by simp[Abs.cl0,VR]
theorem VR.cl1:∀ {a:AV} {c:Value},VR imm mu a c→VR imm noMu (cl1 a) c
 | .agg l,c,h=>by
  simp only[VR,Abs.cl1]at h ⊢
  obtain⟨cs,rfl,h1,h2⟩:=h
  exact⟨cs,rfl,h1.map fun a c h=>h.cl0,h2⟩
 | .dead,_,h | .lit _,_,h | .ptr ..,_,h | .sl ..,_,h | .isl ..,_,h | .vp ..,_,h | .fn ..,_,h | .yld _,_,h | .mp _,_,h | .vec ..,_,h | .tup ..,_,h=>h.cl0
theorem VR.cl2:∀ {a:AV} {c:Value},VR imm mu a c→VR imm noMu (cl2 a) c
 | .tup l,c,h=>by
  simp only[VR,Abs.cl2]at h ⊢
  obtain⟨cs,rfl,h1⟩:=h
  exact⟨cs,rfl,h1.map fun a c h=>h.cl1⟩
 | .dead,_,h | .lit _,_,h | .ptr ..,_,h | .sl ..,_,h | .isl ..,_,h | .vp ..,_,h | .fn ..,_,h | .yld _,_,h | .mp _,_,h | .vec ..,_,h | .agg ..,_,h=>h.cl1
theorem shr_cl0:∀(a:AV),cl0 (shr a)=cl0 a
 | .vec sz k els=>by cases k<;>rfl
 | .dead | .lit _ | .ptr .. | .sl .. | .isl .. | .vp .. | .fn .. | .yld _ | .mp _ | .agg _ | .tup _=>rfl
theorem MR.change{g g':Gh}{ro:Nat}{H H':Hp}{w w':World}{X:Nat→Prop}(hm:MR g ro H w)(k:Keeps g w g' w' X)(b:Nat)
  (himm:∀B o v,g'.imm B o=some v→w'.cell? ⟨B,o,none⟩=some v) (hmu:g'.mu=g.mu) (howlt:∀B l,g'.ow B=some l→B<w'.heap.size)
  (hnm:∀b' B sz,g.mu b'=some (B,sz)→g'.ow B=g.ow B)
  (hH:∀b',b'≠b→H'[b']?=H[b']?) (hl:H'.length=H.length)
  (hX1:∀b' B sz,b'≠b→g.mu b'=some (B,sz)→¬X B) (hX2:∀b' B i j,b'≠b→g.ow B=some (.cell b' i j)→¬X B)
  (hb:∀blk,H'[b]?=some blk→BR g' w' b blk):MR g' ro H' w':=by
 refine⟨by rw[hl];exact hm.role,himm,?_,?_,?_,howlt,?_,?_,?_⟩
 ·intro b' h;rw[hmu];exact hm.dom b' (by omega)
 ·intro b1 b2 B s1 s2 h1 h2;rw[hmu]at h1 h2;exact hm.inj b1 b2 B s1 s2 h1 h2
 ·intro b' B s h;rw[hmu]at h;exact Nat.lt_of_lt_of_le (hm.lt b' B s h) k.size
 ·intro b' B s hb' h;rw[hmu]at h;rw[hnm b' B s h];exact hm.prot b' B s hb' h
 ·intro b' B s hb' h;rw[hmu]at h;rw[hnm b' B s h];exact hm.free b' B s hb' h
 ·intro b' blk h
  by_cases e:b'=b
  ·subst e;exact hb blk h
  ·rw[hH b' e]at h
   exact(hm.blk b' blk h).keeps k hm.owlt (fun B sz h=>hm.lt b' B sz h) (fun B sz h=>hX1 b' B sz e h) (fun B i j h=>hX2 b' B i j e h) (fun h=>by rw[hmu];exact h)
theorem off_ne{sz i i' j j':Nat}(hi:i≠i')(hj:j<sz)(hj':j'<sz):i*sz+j≠i'*sz+j':=by
 intro h
 have h1:(i*sz+j) / sz=i:=by rw[Nat.mul_comm,Nat.mul_add_div (by omega)];simp[Nat.div_eq_of_lt hj]
 have h2:(i'*sz+j') / sz=i':=by rw[Nat.mul_comm,Nat.mul_add_div (by omega)];simp[Nat.div_eq_of_lt hj']
 rw[h]at h1
 exact hi (h1.symm.trans h2)
theorem cell_setCells{w:World}{B:Nat}{ccs:Array Value}{e:TypeId}{fz:Nat×Nat}(hh:w.heap[B]?=some (.cells ccs e fz)){o:Nat}{vs:List Value}(hl:o+vs.length≤ccs.size)(x:Nat):
  (w.setCells B o vs).cell? ⟨B,x,none⟩=if o≤x∧x<o+vs.length then vs[x-o]? else w.cell? ⟨B,x,none⟩:=by
 split
 ·rename_i h
  have:=World.cell?_setCells_in B vs o w (fun j hj=>cell_lt hh (by omega)) (x-o) (by omega)
  rw[show o+(x-o)=x from by omega]at this
  rw[this];simp[List.getElem?_eq_getElem (show x-o<vs.length by omega)]
 ·rename_i h
  exact World.cell?_setCells_out B vs o w ⟨B,x,none⟩ (fun _ _=>by simp;omega)
theorem elem_len{g:Gh}{w:World}{B sz b i:Nat}{l:List AV}(h:ER g w B sz b i (.agg l)):l.length=sz:=h.1
theorem cell_in{w:World}{B o:Nat}{v:Value}{ccs:Array Value}{e:TypeId}{fz:Nat×Nat}(hh:w.heap[B]?=some (.cells ccs e fz))(h:w.cell? ⟨B,o,none⟩=some v):o<ccs.size:=by
 simp[World.cell?,hh]at h
 exact(Array.getElem?_eq_some_iff.1 h).1
theorem ER.set{g g':Gh}{w w':World}{B sz b i j:Nat}{el el' x:AV}{ti:TI}{c:Value}{ccs:Array Value}{e:TypeId}(h:ER g w B sz b i el)(hs:elSet ti el j x=some el')
  (hx:∀loc,isOwn x=false→SR g' w' loc x c) (hown:isOwn x=true→SR g' w' (.cell b i j) x c) (hfit:FitOk ti x c) (hcells:isOwn x=false→VRs g'.imm g'.mu (cellsOf x) c.cells.toList)
  (hi:g.imm.le g'.imm) (hm:g.mu.le g'.mu) (hh:w.heap[B]?=some (.cells ccs e (0,0))) (hw:w'=w.setCells B (i*sz+j) c.cells.toList)
  (hB:∀B' j',g.ow B'=some (.cell b i j')→(∀o,g'.imm B' o=g.imm B' o)∧w'.heap[B']?=w.heap[B']? ∧ g'.ow B'=g.ow B') (hsz:i*sz+sz≤ccs.size):
  ER g' w' B sz b i el'∧(j+c.cells.toList.length≤sz):=by
 have hcl:c.cells.toList.length=ti.size:=by simpa using hfit.size
 unfold elSet at hs
 split at hs
 ·cases hs
 ·split at hs
  ·rename_i l
   split at hs
   ·rename_i hlen
    cases hs
    obtain⟨h1,h2⟩:=h
    have hlen':(l.take j++cellsOf x++l.drop (j+ti.size)).length=sz:=by
     have:(cellsOf x).length=ti.size:=by
      cases ho:isOwn x with
      | false=>rw[←(hcells ho).length,hcl]
      | true =>
       obtain⟨s,es,rfl⟩:=isOwn_spec ho
       exact((hfit.scal rfl).2.1).symm
     simp[this];omega
    refine⟨⟨hlen',fun k a ha=>?_⟩,by omega⟩
    have hcs:∀y,w'.cell? ⟨B,y,none⟩=if i*sz+j≤y∧y<i*sz+j+c.cells.toList.length then c.cells.toList[y-(i*sz+j)]? else w.cell? ⟨B,y,none⟩:=by
     intro y;rw[hw];exact cell_setCells hh (by omega) y
    have hk:k<sz:=by rw[←hlen'];exact(List.getElem?_eq_some_iff.1 ha).1
    have hcellsl:(cellsOf x).length=ti.size:=by simp at hlen';omega
    rw[hcs]
    rcases Nat.lt_or_ge k j with hkj | hkj
    ·rw[if_neg (by omega)]
     rw[List.append_assoc,List.getElem?_append_left (by simp;omega),List.getElem?_take,if_pos hkj]at ha
     obtain⟨c',h3,h4,h5⟩:=h2 k a ha
     exact⟨c',h3,h4,h5.mono hi hm fun B' hb=>by obtain⟨a1,a2,a3⟩:=hB B' k hb;exact⟨by rw[a3];exact hb,a1,a2⟩⟩
    ·rcases Nat.lt_or_ge k (j+ti.size) with hk2 | hk2
     ·rw[if_pos (by omega)]
      rw[List.append_assoc,List.getElem?_append_right (by simp;omega)]at ha
      rw[show (l.take j).length=j by simp;omega,List.getElem?_append_left (by omega)]at ha
      rw[show i*sz+k-(i*sz+j)=k-j by omega]
      cases ho:isOwn x with
      | false =>
       obtain⟨c',h3,h4⟩:=(hcells ho).get ha
       exact⟨c',h3,hfit.ones c' (List.mem_of_getElem? h3),h4.sr⟩
      | true =>
       have hxx:=ho
       obtain⟨s,es,rfl⟩:=isOwn_spec ho
       have hs1:=(hfit.scal rfl).2.1
       have hk0:k=j:=by omega
       subst hk0
       simp[cellsOf]at ha
       subst ha
       refine⟨c,?_,(hfit.scal rfl).2.2.1,hown rfl⟩
       rw[(hfit.scal rfl).1];simp
     ·rw[if_neg (by omega)]
      rw[List.append_assoc,List.getElem?_append_right (by simp;omega)]at ha
      rw[show (l.take j).length=j by simp;omega,List.getElem?_append_right (by omega),hcellsl,List.getElem?_drop]at ha
      rw[show j+ti.size+(k-j-ti.size)=k by omega]at ha
      obtain⟨c',h3,h4,h5⟩:=h2 k a ha
      exact⟨c',h3,h4,h5.mono hi hm fun B' hb=>by obtain⟨a1,a2,a3⟩:=hB B' k hb;exact⟨by rw[a3];exact hb,a1,a2⟩⟩
   ·cases hs
  ·cases hs
  ·rename_i hna hnt
   split at hs
   ·rename_i hc
    obtain⟨hag,hj⟩:=hc
    have he:el'=x:=by simp only[Option.some.injEq]at hs;exact hs.symm
    subst he
    subst hj
    have hel:aggOf el=none:=by cases el<;>first | rfl | exact absurd rfl (hna _)
    unfold ER at h
    rw[hel]at h
    obtain⟨h1,_⟩:=h
    subst h1
    have hxa:aggOf el'=none:=by
     cases hxx:aggOf el' with
     | none=>rfl
     | some l=>have:=(hfit.agg l (aggOf_some hxx)).2;rw[this]at hag;cases hag
    obtain⟨f1,f2,f3,_⟩:=hfit.scal hxa
    have hcell:w'.cell? ⟨B,i,none⟩=some c:=by
     rw[hw,cell_setCells hh (by omega),if_pos (by omega)]
     rw[f1];simp
    refine⟨?_,by omega⟩
    unfold ER
    rw[hxa]
    refine⟨rfl,c,hcell,f3,?_⟩
    cases ho:isOwn el' with
    | false=>exact hx _ ho
    | true=>exact hown ho
   ·cases hs
variable {P:Program} {T:TypeId→Option TI}
def LE(w:World)(imm:Imm)(mu:Mu)(B o:Nat)(el:AV):Prop :=
 match aggOf el with
 | some l=>∃cs:List Value,VRs imm mu (l.map shr) cs∧(∀x∈cs,one x)∧∀k c,cs[k]?=some c→w.cell? ⟨B,o+k,none⟩=some c
 | none=>isScal el=true→∃c,w.cell? ⟨B,o,none⟩=some c∧one c∧VR imm mu (shr el) c
theorem list_of_get{Q:Nat→AV→Value→Prop}:∀ {l:List AV},(∀j a,l[j]?=some a→∃c,Q j a c)→∃cs:List Value,cs.length=l.length∧∀j a c,l[j]?=some a→cs[j]?=some c→Q j a c
 | [],_=>⟨[],rfl,fun j a c h=>by simp at h⟩
 | x::l,h=>by
  obtain⟨c,hc⟩:=h 0 x rfl
  obtain⟨cs,h1,h2⟩:=list_of_get (Q:=fun j=>Q (j+1)) (l:=l) fun j a ha=>h (j+1) a (by simpa using ha)
  refine⟨c::cs,by simp[h1],fun j a c' ha hc'=>?_⟩
  cases j with
  | zero=>simp at ha hc';subst ha;subst hc';exact hc
  | succ j=>simp at ha hc';exact h2 j a c' ha hc'
theorem ER.le{g:Gh}{w:World}{B sz b i:Nat}{el:AV}(h:ER g w B sz b i el):LE w g.imm g.mu B (i*sz) el:=by
 unfold ER at h
 unfold LE
 cases ha:aggOf el with
 | some l =>
  rw[ha]at h
  obtain⟨h1,h2⟩:=h
  obtain⟨cs,h3,h4⟩:=list_of_get h2
  refine⟨cs,VRs.of (by simp[h3]) fun k a c hk hc=>?_,fun x hx=>?_,fun k c hc=>?_⟩
  ·rw[List.getElem?_map]at hk
   cases hl:l[k]? with
   | none=>rw[hl]at hk;cases hk
   | some a'=>rw[hl]at hk;cases hk;exact(h4 k a' c hl hc).2.2.shr
  ·obtain⟨k,hk⟩:=List.getElem?_of_mem hx
   have hlt:k<l.length:=by rw[←h3];exact(List.getElem?_eq_some_iff.1 hk).1
   exact(h4 k _ x (List.getElem?_eq_getElem hlt) hk).2.1
  ·have hlt:k<l.length:=by rw[←h3];exact(List.getElem?_eq_some_iff.1 hc).1
   exact(h4 k _ c (List.getElem?_eq_getElem hlt) hc).1
 | none =>
  rw[ha]at h
  obtain⟨h1,c,h2,h3,h4⟩:=h
  subst h1
  exact fun _=>⟨c,by rw[Nat.mul_one];exact h2,h3,h4.shr⟩
theorem scal_one{imm:Imm}{mu:Mu}{a:AV}{c:Value}(h:VR imm mu a c)(hs:isScal a=true):one c:=by
 refine VR_one h ?_ ?_ ?_ ?_
 ·intro e;subst e;simp[isScal]at hs
 ·intro v e;subst e;cases v<;>simp[isScal]at hs<;>rfl
 ·cases a<;>simp[isScal]at hs<;>rfl
 ·intro l e;subst e;simp[isScal]at hs
theorem LE.of_vp{g:Gh}{ro:Nat}{H:Hp}{w:World}(hm:MR g ro H w){B o:Nat}{el:AV}{c:Value}(h1:VR g.imm noMu el c)(h2:∀x∈c.cells.toList,one x)(h3:Seg g.imm B o c.cells.toList):
  LE w g.imm g.mu B o el:=by
 have h1':VR g.imm g.mu el c:=VR.mono (Imm.le_refl _) el (noMu_le _) h1
 unfold LE
 cases ha:aggOf el with
 | some l =>
  rw[aggOf_some ha]at h1'
  simp only[VR]at h1'
  obtain⟨cs,rfl,h4,h5⟩:=h1'
  refine⟨cs,h4.map fun a c h=>h.shr,h5,fun k x hx=>hm.imm _ _ _ (h3 k x (by simpa [Value.cells] using hx))⟩
 | none =>
  intro hs
  have hone:=scal_one h1' hs
  refine⟨c,?_,hone,h1'.shr⟩
  have:=h3 0 c (by rw[one_cells hone];rfl)
  exact hm.imm _ _ _ this
theorem run_load_cell{w:World}{a:Addr}{v:Value}(h:w.cell? a=some v):(load a).run P w=.ok v w:=by simp[h]
theorem elPart_ok(hT:TOk P T){t:TypeId}{ti:TI}(ht:T t=some ti){w:World}{imm:Imm}{mu:Mu}{B o j:Nat}{el v:AV}(hel:LE w imm mu B o el)(h:elPart ti el j=some v):
  ∃c,(loadVar t ⟨B,o+j,none⟩).run P w=.ok c w∧VR imm mu v c:=by
 have hagg:=hT.run_isAgg ht w
 have hsz:=hT.run_size ht w
 unfold elPart at h
 split at h
 ·rename_i l
  obtain⟨cs,h1,h2,h3⟩:=hel
  split at h
  ·rename_i hag
   split at h
   ·rename_i hl
    cases h
    have hcl:cs.length=l.length:=by simpa using h1.length
    refine⟨.agg ((cs.drop j).take ti.size).toArray,?_,?_⟩
    ·have hlen:((cs.drop j).take ti.size).length=ti.size:=by simp;omega
     have:=run_loadCells_list (P:=P) w ⟨B,o+j,none⟩ ((cs.drop j).take ti.size) (fun k v hk=>by
      rw[List.getElem?_take]at hk
      split at hk
      ·rw[List.getElem?_drop]at hk
       rw[addr_add,Nat.add_assoc];exact h3 _ _ hk
      ·cases hk)
     rw[hlen]at this
     simp only[loadVar,Sem.run_bind,hagg,hag,Result.andThen,if_true,hsz,this,Sem.run_pure]
    ·simp only[VR]
     refine⟨_,rfl,?_,fun x hx=>h2 x (List.mem_of_mem_drop (List.mem_of_mem_take hx))⟩
     rw[List.map_take,List.map_drop]
     exact(h1.drop j).take _
   ·cases h
  ·rename_i hag
   cases hl:l[j]? with
   | none=>rw[hl]at h;cases h
   | some a =>
    rw[hl]at h;cases h
    obtain⟨c,h4,h5⟩:=h1.get (show (l.map shr)[j]?=some (shr a) by simp[hl])
    refine⟨c,?_,h5⟩
    simp only[loadVar,Sem.run_bind,hagg,hag,Result.andThen]
    exact run_load_cell (h3 j c h4)
 ·rename_i hna
  split at h
  ·rename_i hc
   obtain⟨hs,hag,hj⟩:=hc
   cases h
   subst hj
   have ha:aggOf el=none:=by cases el<;>first | rfl | exact absurd rfl (hna _)
   unfold LE at hel
   rw[ha]at hel
   obtain⟨c,h1,_,h3⟩:=hel hs
   refine⟨c,?_,h3⟩
   simp only[loadVar,Sem.run_bind,hagg,hag,Result.andThen]
   exact run_load_cell h1
  ·cases h
theorem aload_ok(hT:TOk P T){g:Gh}{ro:Nat}{H:Hp}{w:World}(hm:MR g ro H w){t:TypeId}{x v:AV}{a:Value}(hx:VR g.imm g.mu x a)(h:aload T t H x=some v):
  ∃c,(Instr.loadAt t a).run P w=.ok c w∧VR g.imm g.mu v c:=by
 unfold aload at h
 split at h
 ·rename_i ti ht
  split at h
  ·rename_i b i j
   simp only[VR]at hx
   obtain⟨B,sz,hB,rfl⟩:=hx
   split at h
   ·rename_i sz' e els hb
    obtain⟨B',h1,_,_,h4⟩:=hm.blk b _ hb
    rw[hB]at h1;cases h1
    split at h
    ·rename_i el hel
     obtain⟨c,h5,h6⟩:=elPart_ok (w:=w) hT ht (h4 i el hel).le h
     exact⟨c,by simpa [Instr.loadAt,Instr.sureAddr] using h5,h6⟩
    ·cases h
   ·cases h
  ·rename_i el j
   simp only[VR]at hx
   obtain⟨B,o,c,rfl,h1,h2,h3⟩:=hx
   obtain⟨c',h5,h6⟩:=elPart_ok (w:=w) hT ht (LE.of_vp hm h1 h2 h3) h
   exact⟨c',by simpa [Instr.loadAt,Instr.sureAddr] using h5,h6⟩
  ·cases h
 ·cases h
theorem own_fit{ti:TI}{g:Gh}{w:World}{loc:Loc}{x:AV}{c:Value}(hf:fit ti x=true)(h:SR g w loc x c):FitOk ti x c:=by
 cases ho:isOwn x with
 | false=>exact fit_ok hf ((SR_notOwn ho).1 h)
 | true =>
  obtain⟨s,es,rfl⟩:=isOwn_spec ho
  have h2:=fit_ok (ti:=ti) (a:=.vec s .shared es) hf (by simpa [shr] using h.shr)
  exact⟨h2.size,h2.ones,fun _=>h2.scal rfl,fun l hl=>by cases hl⟩
theorem elSet_fit{ti:TI}{el x el':AV}{j:Nat}(h:elSet ti el j x=some el'):fit ti x=true:=by
 unfold elSet at h
 split at h
 ·cases h
 ·rename_i hf;cases hb:fit ti x with
  | true=>rfl
  | false=>exact absurd hb hf
variable {P:Program} {T:TypeId→Option TI} {imm:Imm} {mu:Mu}
theorem range_row(zs:List Value)(s:Nat)(hs:zs.length=s)(h0:0<s):∀(n:Nat),(List.range (n*s)).map (fun i=>zs[i % s]!)=(List.replicate n zs).flatten
 | 0=>by simp
 | n+1=>by
  rw[Nat.succ_mul,List.range_add,List.map_append,range_row zs s hs h0 n,List.map_map,List.replicate_succ',List.flatten_append]
  congr 1
  simp only[List.flatten_cons,List.flatten_nil,List.append_nil]
  apply List.ext_getElem?
  intro i
  simp only[List.getElem?_map,List.getElem?_range',Function.comp]
  by_cases hi:i<s
  ·rw[List.getElem?_range hi,Option.map_some]
   show some (zs[(n*s+i) % s]!)=_
   rw[show (n*s+i) % s=i by rw[Nat.mul_comm,Nat.mul_add_mod];exact Nat.mod_eq_of_lt hi]
   rw[List.getElem?_eq_getElem (by omega)]
   simp[List.getElem!_eq_getElem?_getD,List.getElem?_eq_getElem (show i<zs.length by omega)]
  ·rw[List.getElem?_eq_none (by simpa using hi),List.getElem?_eq_none (by omega)];rfl
theorem VRels_replicate{sz:Nat}{z:AV}{zc:Value}(hz:VR imm mu z zc)(hs:zc.cells.size=sz)(ho:∀x∈zc.cells.toList,one x):∀(n:Nat),VRels imm mu sz (List.replicate n z) (List.replicate n zc.cells.toList).flatten
 | 0=>by simp[VRels]
 | n+1=>by
  simp only[List.replicate_succ,List.flatten_cons,VRels]
  exact⟨zc,_,rfl,hs,ho,hz,VRels_replicate hz hs ho n⟩
theorem VRels.set{sz:Nat}{x:AV}{v:Value}(hx:VR imm mu x v)(hs:v.cells.size=sz)(ho:∀y∈v.cells.toList,one y):∀ {l:List AV} {cs:List Value} {i:Nat},VRels imm mu sz l cs→i<l.length→
  VRels imm mu sz (l.set i x) (cs.take (i*sz)++v.cells.toList++cs.drop (i*sz+sz))
 | [],cs,i,_,h=>by simp at h
 | a::as,cs,0,h,_=>by
  simp only[VRels]at h
  obtain⟨c,cs',rfl,h2,h3,h4,h5⟩:=h
  have hl:c.cells.toList.length=sz:=by simpa using h2
  simp only[List.set_cons_zero,VRels]
  refine⟨v,cs',?_,hs,ho,hx,h5⟩
  simp only[Nat.zero_mul,List.take_zero,List.nil_append,Nat.zero_add]
  rw[←hl,List.drop_left]
 | a::as,cs,i+1,h,hi=>by
  simp only[VRels]at h
  obtain⟨c,cs',rfl,h2,h3,h4,h5⟩:=h
  have hl:c.cells.toList.length=sz:=by simpa using h2
  simp only[List.set_cons_succ,VRels]
  refine⟨c,_,?_,h2,h3,h4,VRels.set hx hs ho h5 (by simpa using hi)⟩
  have e1:(i+1)*sz=sz+i*sz:=by rw[Nat.add_mul];omega
  rw[e1,List.take_append,hl,List.take_of_length_le (by omega),show sz+i*sz-sz=i*sz from by omega]
  rw[Nat.add_assoc,←List.drop_drop,show List.drop sz (c.cells.toList++cs')=cs' from by rw[←hl];simp]
  simp[List.append_assoc]
theorem zeroAV_ok(hT:TOk P T){t:TypeId}{ti:TI}(ht:T t=some ti){z:AV}(hz:zeroAV ti=some z){zc:Value}(hc:zc.cells.toList=ti.zero)(imm:Imm)(mu:Mu):
  VR imm mu z (if ti.agg then .agg zc.cells else zc.cells.getD 0 undef)∧fit ti z=true∧(if ti.agg then Value.agg zc.cells else zc.cells.getD 0 undef).cells=zc.cells:=by
 obtain⟨_,_,_,_,_,_,_,_,_,_,_,_,hlen,hones,hor⟩:=hT.info ht
 unfold zeroAV at hz
 split at hz
 ·rename_i hag
  cases hz
  rw[if_pos hag]
  refine⟨?_,?_,rfl⟩
  ·simp only[VR]
   exact⟨ti.zero,by rw[←hc],VRs_lits _ _ _,hones⟩
  ·simp[fit,hag,hlen]
 ·rename_i hag
  split at hz
  ·rename_i v hv
   cases hz
   rw[if_neg hag]
   have h1:zc.cells=#[v]:=by apply Array.ext';rw[hc,hv]
   have ho:one v:=hones v (by rw[hv];simp)
   rw[h1]
   refine⟨by simp[VR],?_,by simp[one_cells ho]⟩
   have hs:ti.size=1:=by rw[←hlen,hv];rfl
   have:=one_isOne ho
   cases v<;>first | (simp[fit,hs,hag];done) | (simp[isOne]at this)
  ·cases hz
theorem MR.drew{g:Gh}{ro:Nat}{H:Hp}{w:World}(h:MR g ro H w):MR g ro H w.drew :=
 ⟨h.role,h.imm,h.dom,h.inj,h.lt,h.owlt,h.prot,h.free,h.blk⟩
theorem Keeps.undrew{g g':Gh}{w w':World}{X:Nat→Prop}(k:Keeps g w.drew g' w' X):Keeps g w g' w' X :=
 ⟨k.imm,⟨k.mun.le,k.mun.new⟩,k.size,k.same,⟨k.out.os,k.out.tape,k.out.output⟩⟩
theorem BR.new_cells{g:Gh}{ro:Nat}{H:Hp}{w:World}(hm:MR g ro H w){nm sz:Nat}{e:TypeId}{ti:TI}{els:List AV}{ccs:List Value}(hf:Abs.free ro H nm=true)
  (hr:VRels g.imm g.mu sz els ccs) (hfit:∀el∈els,fit ti el=true) (hz:ti.size=sz):BR (g.named nm w.heap.size sz) (w.alloc (.cells ccs.toArray e)) nm (.cells sz e els):=by
 refine⟨w.heap.size,by simp[Gh.named],⟨ccs.toArray,e,heap_alloc_new w _⟩,fun o=>hm.fresh_imm (Nat.le_refl _) o,fun i el hel=>?_⟩
 obtain⟨c,h1,h2,_,h4⟩:=hr.get hel
 have k:=Keeps.named hm hf (.cells ccs.toArray e) sz
 refine ER.of_cells (hfit el (List.mem_of_getElem? hel)) (VR.mono k.imm _ k.mu h1) hz fun j x hx=>?_
 rw[World.cell?_alloc_new]
 simpa using h4 j x hx
theorem OpOk.named{ro:Nat}{g:Gh}{H:Hp}{w:World}{o:Oper}{a:Act}{v:AV}{rd:Rd}{nm:Nat}{blk:ABlock}(hm:MR g ro H w)(hf:Abs.free ro H nm=true)(ob:Obj)(sz:Nat)(w0:World)(hw0:w0=w∨w0=w.drew){c:Value}
  (h:(execOp a.eval o).run P w=.ok (.value c) (w0.alloc ob)) (hb:BR (g.named nm w.heap.size sz) (w0.alloc ob) nm blk) (hv:VR g.imm (g.named nm w.heap.size sz).mu v c):
  OpOk P ro g H w o a { v,up:=some (nm,blk),rd }:=by
 rcases hw0 with rfl | rfl
 ·exact⟨⟨c,_,_,_,fun _=>False,h,.inl rfl,Keeps.named hm hf ob sz,hm.named hf ob sz blk hb,fun _ _ _ h=>h.elim,fun _ _ _ _ h=>h,fun _ _ h=>h.elim,hv.sr⟩,fun t ht=>by cases ht⟩
 ·exact⟨⟨c,_,_,_,fun _=>False,h,.inl rfl,(Keeps.named hm.drew hf ob sz).undrew,hm.drew.named hf ob sz blk hb,fun _ _ _ h=>h.elim,fun _ _ _ _ h=>h,fun _ _ h=>h.elim,hv.sr⟩,fun t ht=>by cases ht⟩
theorem OpOk.laidB{ro:Nat}{g:Gh}{H:Hp}{w:World}{o:Oper}{a:Act}{rd:Rd}{nm sz:Nat}{e:TypeId}{ti:TI}{els:List AV}{ccs:List Value}(hm:MR g ro H w)(hf:Abs.free ro H nm=true)
  (w0:World) (hw0:w0=w∨w0=w.drew) (cap:Nat) (hcap:els.length≤cap)  (rest:List Value) (h:(execOp a.eval o).run P w=.ok (.value (.slice (some ⟨w.heap.size,0,none⟩) els.length cap)) (w0.alloc (.cells (ccs++rest).toArray e)))
  (hr:VRels g.imm g.mu sz els ccs) (hfit:∀el∈els,fit ti el=true) (hz:ti.size=sz):
  OpOk P ro g H w o a { v:=.sl nm sz 0 els.length els.length,up:=some (nm,.cells sz e els),rd }:=by
 have hb:∀(w0:World),MR g ro H w0→w0.heap=w.heap→BR (g.named nm w.heap.size sz) (w0.alloc (.cells (ccs++rest).toArray e)) nm (.cells sz e els):=by
  intro w0 hm0 hw
  have hsz:w0.heap.size=w.heap.size:=by rw[hw]
  refine⟨w.heap.size,by simp[Gh.named],⟨(ccs++rest).toArray,e,by rw[←hsz];exact heap_alloc_new w0 _⟩,fun o=>hm.fresh_imm (Nat.le_refl _) o,fun i el hel=>?_⟩
  obtain⟨c,h1,h2,_,h4⟩:=hr.get hel
  have k:=Keeps.named hm0 hf (.cells ccs.toArray e) sz
  refine ER.of_cells (hfit el (List.mem_of_getElem? hel)) (VR.mono k.imm _ (by rw[←hsz];exact k.mu) h1) hz fun j x hx=>?_
  rw[←hsz,World.cell?_alloc_new]
  have:=h4 j x hx
  have hl:=(List.getElem?_eq_some_iff.1 this).1
  simp only[List.getElem?_toArray]
  rw[List.getElem?_append_left hl];exact this
 refine OpOk.named hm hf _ sz w0 hw0 h ?_ ?_
 ·rcases hw0 with rfl | rfl
  ·exact hb _ hm rfl
  ·exact hb _ hm.drew rfl
 ·simp only[VR]
  exact⟨w.heap.size,cap,by simp[Gh.named],hcap,by simp⟩
theorem VRels.cl1{sz:Nat}:∀ {l:List AV} {cs:List Value},VRels imm mu sz l cs→VRels imm noMu sz (l.map Abs.cl1) cs
 | [],cs,h=>by simpa [VRels] using h
 | a::as,cs,h=>by
  simp only[VRels]at h
  obtain⟨c,cs',h1,h2,h3,h4,h5⟩:=h
  simp only[List.map_cons,VRels]
  exact⟨c,cs',h1,h2,h3,h4.cl1,VRels.cl1 h5⟩
theorem OpOk.laidV{ro:Nat}{g:Gh}{H:Hp}{w:World}{o:Oper}{a:Act}{rd:Rd}{sz:Nat}{e:TypeId}{els:List AV}{ccs:List Value}(hm:MR g ro H w)
  (h:(execOp a.eval o).run P w=.ok (.value (.slice (some ⟨w.heap.size,0,none⟩) els.length els.length)) (w.alloc (.cells ccs.toArray e)))
  (hr:VRels g.imm g.mu sz els ccs):OpOk P ro g H w o a { v:=.vec sz .exact (els.map Abs.cl1),rd }:=by
 have hlen:=hr.length
 have k:=Keeps.anon hm (.cells ccs.toArray e) ccs.toArray ccs.length none
 refine⟨⟨_,_,_,g.anon w.heap.size ccs.toArray ccs.length none,fun _=>False,h,.inl rfl,k,hm.anon ccs.toArray e ccs.length none,fun _ _ _ h=>h.elim,fun _ _ _ _ h=>h,fun _ _ h=>h.elim,?_⟩,fun t ht=>by cases ht⟩
 refine VR.sr ?_
 simp only[VR,List.length_map]
 refine⟨w.heap.size,0,none,els.length,ccs,rfl,.inr rfl,by simp,fun _=>rfl,Nat.le_refl _,VRels.mono k.imm _ (Mu.le_refl _) hr.cl1,?_⟩
 have:=Seg.anon g w.heap.size ccs.toArray ccs.length none
 simpa using this
theorem lAlloc_ok(hT:TOk P T){ro:Nat}{g:Gh}{H:Hp}{w:World}{o:Oper}{a:Act}{nm:Nat}{e:TypeId}{ef:Eff}(hm:MR g ro H w)(ho:o.op=.alloc e)(h:lAlloc T ro nm H e=some ef):OpOk P ro g H w o a ef:=by
 unfold lAlloc at h
 split at h
 ·rename_i te hte
  split at h
  ·rename_i z hz
   split at h
   ·cases h
   ·rename_i hn
    cases h
    have hf:Abs.free ro H nm=true:=by
     cases hb:Abs.free ro H nm with
     | true=>rfl
     | false=>exact absurd (Or.inr hb) hn
    obtain⟨zc,h1,h2⟩:=hT.run_zero hte w
    obtain⟨h3,h4,h5⟩:=zeroAV_ok hT hte hz h2 g.imm g.mu
    have hF:=fit_ok h4 h3
    refine OpOk.named hm hf (.cells zc.cells e) te.size w (.inl rfl) (c:=.pointer (some ⟨w.heap.size,0,none⟩)) ?_ ?_ ?_
    ·simp[execOp,ho,Instr.alloc,h1,Result.andThen,newVar,newRow]
    ·have:=BR.new_cells (e:=e) (ti:=te) (els:=[z]) (ccs:=zc.cells.toList) hm hf (by
      simp only[VRels]
      exact⟨_,[],by rw[h5];simp,hF.size,hF.ones,h3,rfl⟩) (by simpa using h4) rfl
     simpa using this
    ·simp only[VR]
     exact⟨w.heap.size,te.size,by simp[Gh.named],by simp⟩
  ·cases h
 ·cases h
theorem fit_drp{ti:TI}{a:AV}(h:fit ti a=true):fit ti (drp a)=true:=by
 cases a with
 | agg l=>simpa [fit,drp] using h
 | vec sz k els=>cases k<;>simpa [fit,drp,shr] using h
 | tup l=>simp[fit]at h
 | _=>simpa [fit,drp,shr] using h
theorem lBox_ok(hT:TOk P T){ro:Nat}{g:Gh}{H:Hp}{w:World}{o:Oper}{a:Act}{nm:Nat}{e:TypeId}{x:AV}{X:Operand}{ef:Eff}(hm:MR g ro H w)(ho:o.op=.box e X)(hx:VR g.imm g.mu x (a.eval X))(h:lBox T ro nm H e x=some ef):OpOk P ro g H w o a ef:=by
 unfold lBox at h
 split at h
 ·rename_i te hte
  split at h
  ·cases h
  ·rename_i hn
   cases h
   have hf:Abs.free ro H nm=true:=by
    cases hb:Abs.free ro H nm with
    | true=>rfl
    | false=>exact absurd (Or.inr (Or.inr hb)) hn
   have hfit:fit te x=true:=by
    cases hb:fit te x with
    | true=>rfl
    | false=>exact absurd (Or.inr (Or.inl hb)) hn
   have hF:=fit_ok hfit hx
   refine OpOk.named hm hf (.cells (a.eval X).cells e) te.size w (.inl rfl) (c:=.pointer (some ⟨w.heap.size,0,none⟩)) ?_ ?_ ?_
   ·simp[execOp,ho,Instr.box,newVar,newRow]
   ·have:=BR.new_cells (e:=e) (ti:=te) (els:=[drp x]) (ccs:=(a.eval X).cells.toList) hm hf (by
     simp only[VRels]
     exact⟨_,[],by simp,hF.size,hF.ones,hx.drp,rfl⟩) (by simpa using fit_drp hfit) rfl
    simpa using this
   ·simp only[VR]
    exact⟨w.heap.size,te.size,by simp[Gh.named],by simp⟩
 ·cases h
theorem place_ok{te:TI}:∀ {parts:List (Nat×AV)} {vs:List (Nat×Value)} {zs els:List AV} {cs:Array Value},VParts imm mu parts vs→VRels imm mu te.size zs cs.toList→(∀z∈zs,fit te z=true)→
  aplace te zs parts=some els→∃cs',Instr.fill (fun i=>some (i*te.size,te.size)) cs vs=some cs'∧VRels imm mu te.size els cs'.toList∧(∀z∈els,fit te z=true)∧els.length=zs.length
 | [],vs,zs,els,cs,hp,hz,hf,h=>by
  simp only[VParts]at hp;subst hp
  simp only[aplace,Option.some.injEq]at h;subst h
  exact⟨cs,rfl,hz,hf,rfl⟩
 | (i,x)::parts,vs,zs,els,cs,hp,hz,hf,h=>by
  simp only[VParts]at hp
  obtain⟨⟨i',v⟩,vs',rfl,h1,h2,h3⟩:=hp
  simp only at h1 h2
  subst h1
  unfold aplace at h
  split at h
  ·rename_i hc
   obtain⟨hc1,hc2⟩:=hc
   have hF:=fit_ok hc1 h2
   have hlen:=hz.length
   simp only[Array.length_toList]at hlen
   have hmul:(i'+1)*te.size≤zs.length*te.size:=Nat.mul_le_mul_right _ hc2
   rw[Nat.add_mul]at hmul
   have hsp:=splice_ok v.cells.toList (i'*te.size) 0 cs (by simp[hF.size];omega)
   simp only[Nat.add_zero]at hsp
   have hz2:=VRels.set h2 hF.size hF.ones hz hc2
   have hv:v.cells.toList.length=te.size:=by simpa using hF.size
   obtain⟨cs',e1,e2,e3,e4⟩:=place_ok h3 (cs:=(cs.toList.take (i'*te.size)++v.cells.toList++cs.toList.drop (i'*te.size+te.size)).toArray) (by simpa using hz2) (fun z hzm=>by
    rcases List.mem_or_eq_of_mem_set hzm with h | h
    ·exact hf z h
    ·rw[h];exact hc1) h
   refine⟨cs',?_,e2,e3,by rw[e4];simp⟩
   simp only[Instr.fill]
   rw[if_neg (by simp[hF.size];omega)]
   rw[hv]at hsp
   rw[←hsp]at e1
   rw[←e1]
   rw[←Array.toList_zipIdx,Array.foldl_toList]
  ·cases h
theorem zrow_ok(hT:TOk P T){e:TypeId}{te:TI}(hte:T e=some te){z:AV}(hz:zeroAV te=some z){zc:Value}(hc:zc.cells.toList=te.zero)(h0:te.size≠0)(n:Nat)(imm:Imm)(mu:Mu):
  ∃cs:List Value,(Array.range (n*te.size)).map (zc.cells[· % zc.cells.size]!)=cs.toArray∧VRels imm mu te.size (List.replicate n z) cs∧fit te z=true:=by
 obtain⟨h3,h4,h5⟩:=zeroAV_ok hT hte hz hc imm mu
 have hF:=fit_ok h4 h3
 have hcs:zc.cells.size=te.size:=by have:=hF.size;rw[h5]at this;exact this
 refine⟨_,?_,VRels_replicate h3 hF.size hF.ones n,h4⟩
 rw[h5]
 apply Array.ext'
 show _=(List.replicate n zc.cells.toList).flatten
 rw[←range_row zc.cells.toList te.size (by simpa using hcs) (by omega)]
 simp only[Array.toList_map,Array.toList_range,hcs]
 apply List.map_congr_left
 intro i _
 simp only[List.getElem!_eq_getElem?_getD,Array.getElem?_toList]
 rw[Array.getElem!_eq_getD,Array.getD_eq_getD_getElem?]
theorem abuildSlice_ok(hT:TOk P T){ro:Nat}{g:Gh}{H:Hp}{w:World}{o:Oper}{a:Act}{heap:Bool}{nm:Nat}{t:TypeId}{len:Nat}{parts:List (Nat×AV)}{PS:Array (Nat×Operand)}{ef:Eff}(hm:MR g ro H w)
  (ho:o.op=.buildSlice t len PS) (hp:VParts g.imm g.mu parts (PS.toList.map fun p=>(p.1,a.eval p.2))) (h:lBuildSlice T heap ro nm H t len parts=some ef):OpOk P ro g H w o a ef:=by
 have key:∀(heap:Bool)(parts:List (Nat×AV))(r:AV×Hp),VParts g.imm g.mu parts (PS.toList.map fun p=>(p.1,a.eval p.2))→abuildSlice T heap t len parts []=some r→∃e te els ccs,T e=some te∧te.size≠0∧r=laid heap te.size e els []∧els.length=len∧
   (execOp a.eval o).run P w=.ok (.value (.slice (some ⟨w.heap.size,0,none⟩) len len)) (w.alloc (.cells ccs.toArray e))∧VRels g.imm g.mu te.size els ccs∧∀el∈els,fit te el=true:=by
  intro heap parts r hp h
  unfold abuildSlice at h
  split at h
  ·rename_i e _ ht
   split at h
   ·rename_i te hte
    split at h
    ·rename_i z hz
     split at h
     ·cases h
     ·rename_i hn
      have hn1:te.size≠0:=fun e=>hn (.inl e)
      have hn2:¬len*te.size > 2 ^ 24:=fun e=>hn (.inr e)
      cases hap:aplace te (List.replicate len z) parts with
      | none=>rw[hap]at h;cases h
      | some els =>
       rw[hap]at h
       simp only[Option.map_some,Option.some.injEq]at h
       obtain⟨zc,h1,h2⟩:=hT.run_zero hte w
       obtain⟨cs,e1,e2,e3⟩:=zrow_ok hT hte hz h2 hn1 len g.imm g.mu
       obtain⟨cs',f1,f2,f3,f4⟩:=place_ok hp (cs:=cs.toArray) (by simpa using e2) (fun y hy=>by rw[(List.mem_replicate.1 hy).2];exact e3) hap
       refine⟨e,te,els,cs'.toList,hte,hn1,h.symm,by rw[f4];simp,?_,f2,f3⟩
       have hu:=hT.slice ht rfl
       have hs:=hT.run_size hte w
       have hps:(PS.map fun x=>match x with | (i,x)=>(i,a.eval x)).toList=PS.toList.map fun p=>(p.1,a.eval p.2):=by simp
       by_cases hl:len*te.size=0
       ·have hlen:len=0:=by
         rcases Nat.mul_eq_zero.1 hl with h | h
         ·exact h
         ·exact absurd h hn1
        subst hlen
        simp only[Nat.zero_mul]at e1 hn2
        have hcs:cs=[]:=by
         have:=e2.length;simp at this;exact this
        subst hcs
        have hr0:Array.range 0=#[]:=rfl
        have f1':Instr.fill (fun i=>some (i*te.size,te.size)) #[] (PS.toList.map fun p=>(p.1,a.eval p.2))=some cs':=f1
        simp only[execOp,ho,Instr.buildSlice,Sem.run_bind,run_underlying_of hu,Result.andThen,hs,Nat.zero_mul,hn2,if_false,if_true,Sem.run_pure,hr0,List.map_toArray,Array.map_empty,hps,f1',newRow,run_newObj_alloc]
        simp
        rw[f1']
        simp
       ·simp only[execOp,ho,Instr.buildSlice,Sem.run_bind,run_underlying_of hu,Result.andThen,hs,hn2,hl,if_false,Sem.run_pure,h1,Sem.run_map,hps,newRow,run_newObj_alloc]
        simp only[e1,f1,Sem.run_bind,run_newObj_alloc,Result.andThen,Sem.run_pure]
    ·cases h
   ·cases h
  ·cases h
 unfold lBuildSlice at h
 split at h
 ·rename_i hh
  have hp2:VParts g.imm g.mu (parts.map fun p=>(p.1,drp p.2)) (PS.toList.map fun p=>(p.1,a.eval p.2)):=by
   have aux:∀ {l:List (Nat×AV)} {vs:List (Nat×Value)},VParts g.imm g.mu l vs→VParts g.imm g.mu (l.map fun p=>(p.1,drp p.2)) vs:=by
    intro l
    induction l with
    | nil=>intro vs h;simpa [VParts] using h
    | cons p l ih =>
     intro vs h
     simp only[VParts,List.map_cons]at h ⊢
     obtain⟨q,vs',h1,h2,h3,h4⟩:=h
     exact⟨q,vs',h1,h2,h3.drp,ih h4⟩
   exact aux hp
  cases hr:abuildSlice T true t len (parts.map fun p=>(p.1,drp p.2)) [] with
  | none=>rw[hr]at h;cases h
  | some r =>
   rw[hr]at h
   obtain⟨e,te,els,ccs,k1,k2,k3,k4,k5,k6,k7⟩:=key true _ r hp2 hr
   subst k3
   simp only[laid,if_true,List.nil_append,lLaid]at h
   split at h
   ·cases h
   ·rename_i hf
    have hf:Abs.free ro H nm=true:=by
     cases hb:Abs.free ro H nm with
     | true=>rfl
     | false=>exact absurd hb hf
    cases h
    refine OpOk.laidB (ccs:=ccs) (e:=e) (ti:=te) hm hf w (.inl rfl) els.length (Nat.le_refl _) [] ?_ k6 k7 rfl
    rw[k5,k4];simp
 ·cases hr:abuildSlice T false t len parts [] with
  | none=>rw[hr]at h;cases h
  | some r =>
   rw[hr]at h
   obtain⟨e,te,els,ccs,k1,k2,k3,k4,k5,k6,k7⟩:=key false _ r hp hr
   subst k3
   simp only[laid,Option.map_some,Option.some.injEq]at h
   subst h
   exact OpOk.laidV hm (by rw[k5,k4]) k6
variable {P:Program} {T:TypeId→Option TI} {imm:Imm} {mu:Mu}
theorem not_false_true{b:Bool}(h:¬b=false):b=true:=by cases b<;>simp_all
theorem lMakeSlice_ok(hT:TOk P T){ro:Nat}{g:Gh}{H:Hp}{w:World}{o:Oper}{a:Act}{heap:Bool}{nm:Nat}{t:TypeId}{l c:AV}{L C:Operand}{ef:Eff}(hm:MR g ro H w)
  (ho:o.op=.makeSlice t L C) (hl:VR g.imm g.mu l (a.eval L)) (hc:VR g.imm g.mu c (a.eval C)) (h:lMakeSlice T heap ro nm H t l c=some ef):OpOk P ro g H w o a ef:=by
 have key:∀(heap:Bool)(r:AV×Hp),amakeSlice T heap t l c []=some r→∃e te els ccs,T e=some te∧r=laid heap te.size e els []∧
   (execOp a.eval o).run P w=.ok (.value (.slice (some ⟨w.heap.size,0,none⟩) els.length els.length)) (w.alloc (.cells ccs.toArray e))∧VRels g.imm g.mu te.size els ccs∧∀el∈els,fit te el=true:=by
  intro heap r hk
  unfold amakeSlice at hk
  split at hk
  ·rename_i e _ ht
   split at hk
   ·rename_i te hte
    split at hk
    ·rename_i z n m hz
     split at hk
     ·rename_i hn
      obtain⟨h0,hnm,hsz,hb⟩:=hn
      subst hnm
      cases hk
      obtain⟨i,zv,u,h1,h2,h3,h4,h5,h6,h7,h8,h9,h10,h11,h12⟩:=hT.info hte
      have hu:=hT.slice ht rfl
      obtain⟨cs,e1,e2,e3⟩:=zrow_ok hT hte hz h6 hsz n.toNat g.imm g.mu
      refine⟨e,te,List.replicate n.toNat z,cs,hte,rfl,?_,e2,fun el hel=>by rw[(List.mem_replicate.1 hel).2];exact e3⟩
      have hb':n*(te.bytes:Int)+n≤2 ^ 40:=by
       have:n*((te.bytes:Int)+1)=n*(te.bytes:Int)+n:=by rw[Int.mul_add,Int.mul_one]
       omega
      have hnb:0≤n*(te.bytes:Int):=Int.mul_nonneg h0 (by omega)
      have hr:=run_make (P:=P) w t e i zv hu h1 h2 .i64 .i64 n n h0 (Int.le_refl _) (by rw[h5,Int.mul_comm];omega) (by omega)
      simp only[execOp,ho,Sem.run_bind,VR_lit hl,VR_lit hc,hr,Result.andThen,Sem.run_pure,madeCells,h4,e1,List.length_replicate]
     ·cases hk
    ·cases hk
   ·cases hk
  ·cases hk
 unfold lMakeSlice at h
 split at h
 ·cases hr:amakeSlice T true t l c [] with
  | none=>rw[hr]at h;cases h
  | some r =>
   rw[hr]at h
   obtain⟨e,te,els,ccs,k1,k3,k5,k6,k7⟩:=key true r hr
   subst k3
   simp only[laid,if_true,List.nil_append,lLaid]at h
   split at h
   ·cases h
   ·rename_i hf
    cases h
    exact OpOk.laidB (ccs:=ccs) (e:=e) (ti:=te) hm (not_false_true hf) w (.inl rfl) els.length (Nat.le_refl _) [] (by rw[k5];simp) k6 k7 rfl
 ·cases hr:amakeSlice T false t l c [] with
  | none=>rw[hr]at h;cases h
  | some r =>
   rw[hr]at h
   obtain⟨e,te,els,ccs,k1,k3,k5,k6,k7⟩:=key false r hr
   subst k3
   simp only[laid,Option.map_some,Option.some.injEq]at h
   subst h
   exact OpOk.laidV hm k5 k6
theorem lMakeMap_ok{ro:Nat}{g:Gh}{H:Hp}{w:World}{o:Oper}{a:Act}{nm:Nat}{t:TypeId}(hm:MR g ro H w)(ho:o.op=.makeMap t none)(hf:Abs.free ro H nm=true):
  OpOk P ro g H w o a { v:=.mp nm,up:=some (nm,.mapo []) }:=by
 refine OpOk.named hm hf (.map #[] 0) 0 w (.inl rfl) (c:=.map (some w.heap.size)) ?_ ?_ ?_
 ·simp[execOp,ho,Instr.makeMap]
 ·exact⟨w.heap.size,0,#[],0,by simp[Gh.named],heap_alloc_new w _,by simp[MapR]⟩
 ·simp only[VR]
  exact⟨w.heap.size,0,by simp[Gh.named],rfl⟩
theorem owner_spec{fr:PT}{x:Operand}{t:Tmp}(h:owner fr x=some t):x=.tmp t∧∃sz els,fr.get t=.vec sz .own els:=by
 unfold owner at h
 split at h
 ·rename_i s
  split at h
  ·rename_i sz els he
   cases h
   exact⟨rfl,sz,els,he⟩
  ·cases h
 ·cases h
theorem eval_tmp{a:Act}{t:Tmp}{v:Value}(h:a.tmps[t]?=some v):a.eval (.tmp t)=v:=by
 show a.tmps.getD t undef=v
 rw[Array.getD_eq_getD_getElem?,h];rfl
structure Took(g:Gh)(ro:Nat)(H:Hp)(w:World)(t:Tmp)(loc:Loc)(x:AV)(c:Value)(g':Gh)(X:Nat→Prop):Prop where
 keeps:Keeps g w g' w X
 mem:MR g' ro H w
 slot:∀t' B,g.ow B=some (.slot t')→X B→some t=some t'
 only:∀B,X B→g.ow B=some (.slot t)∧∃ccs e,w.heap[B]?=some (.cells ccs e (0,0))
 sr:SR g' w loc x c
 imm:g'.imm=g.imm
 mu:g'.mu=g.mu
 ow:∀B,¬X B→g'.ow B=g.ow B
theorem Rel.take{g:Gh}{ro nt:Nat}{fr:PT}{H:Hp}{a:Act}{w:World}(h:Rel g ro nt fr H a.tmps w){x:Operand}{t:Tmp}(ho:owner fr x=some t)(loc:Loc):
  ∃g' X,Took g ro H w t loc (fr.get t) (a.eval x) g' X:=by
 obtain⟨rfl,sz,els,he⟩:=owner_spec ho
 rcases h.slots t with hd | ⟨v,hv,hs⟩
 ·rw[hd]at he;cases he
 ·rw[eval_tmp hv]
  rw[he]at hs ⊢
  obtain⟨B,cap,cs,h1,h2,h3,h4,h5,h6,ccs,e,h7,h8⟩:=hs
  have hlt:=h.mem.owlt B _ h5
  have k:Keeps g w { g with ow:=fun B'=>if B'=B then some loc else g.ow B' } w (fun B'=>B'=B) :=
   ⟨Imm.le_refl _,.refl _ _,Nat.le_refl _,fun B' _ hB'=>⟨by simp[hB'],fun _=>rfl,rfl⟩,.refl _⟩
  refine⟨{ g with ow:=fun B'=>if B'=B then some loc else g.ow B' },fun B'=>B'=B,⟨k,⟨h.mem.role,h.mem.imm,h.mem.dom,h.mem.inj,h.mem.lt,?_,?_,?_,?_⟩,?_,?_,?_,rfl,rfl,?_⟩⟩
  ·intro B' l hl
   by_cases e:B'=B
   ·rw[e];exact hlt
   ·simp only[e,if_false]at hl;exact h.mem.owlt B' l hl
  ·intro b B' s hb hmu
   have:=h.mem.prot b B' s hb hmu
   have hne:B'≠B:=by intro e;rw[e,h5]at this;cases this
   simpa [hne] using this
  ·intro b B' s hb hmu
   have:=h.mem.free b B' s hb hmu
   have hne:B'≠B:=by intro e;rw[e,h5]at this;cases this
   simpa [hne] using this
  ·intro b blk hb
   refine(h.mem.blk b blk hb).keeps k h.mem.owlt (fun B sz h'=>h.mem.lt b B sz h') ?_ ?_ id
   ·intro B' s hmu e
    subst e
    rcases Nat.lt_or_ge b ro with hro | hro
    ·have:=h.mem.prot b B' s hro hmu;rw[h5]at this;cases this
    ·have:=h.mem.free b B' s hro hmu;rw[h5]at this;cases this
   ·intro B' i j hB' e
    subst e;rw[h5]at hB';cases hB'
  ·intro t' B' hB' e
   subst e;rw[h5]at hB';cases hB';rfl
  ·intro B' hb;subst hb;exact⟨h5,ccs,e,h7⟩
  ·exact⟨B,cap,cs,h1,h2,h3,h4,by simp,h6,ccs,e,h7,h8⟩
  ·intro B' hB';simp[hB']
theorem Took.opOk{g:Gh}{ro:Nat}{H:Hp}{w:World}{t:Tmp}{x:AV}{c:Value}{g':Gh}{X:Nat→Prop}{o:Oper}{a:Act}(h:Took g ro H w t (.slot (o.dst.getD 0)) x c g' X)(ht:t<16000)
  (he:(execOp a.eval o).run P w=.ok (.value c) w):OpOk P ro g H w o a { v:=x,un:=some t } :=
 ⟨⟨c,_,w,g',X,he,.inl rfl,h.keeps,h.mem,h.slot,fun B l hB hl hX=>(by rw[(h.only B hX).1]at hB;cases hB;exact hl),fun L lr hX hl=>(by
  obtain⟨_,ccs,e,hc⟩:=h.only L hX
  rw[hc]at hl;cases hl),h.sr⟩,fun t' ht'=>by cases ht';exact ht⟩
theorem Rel.owner_lt{g:Gh}{ro nt:Nat}{fr:PT}{H:Hp}{tm:Array Value}{w:World}(h:Rel g ro nt fr H tm w){x:Operand}{t:Tmp}(ho:owner fr x=some t):t<16000:=by
 obtain⟨_,_,_,he⟩:=owner_spec ho
 exact Nat.lt_of_lt_of_le (h.own_lt (by rw[he];simp)) h.nt_le
theorem ER.elem{g:Gh}{w:World}{B sz b i:Nat}{el:AV}(h:ER g w B sz b i el):
  ∃c:Value,c.cells.size=sz∧(∀x∈c.cells.toList,one x)∧VR g.imm g.mu (drp el) c∧∀j x,c.cells.toList[j]?=some x→w.cell? ⟨B,i*sz+j,none⟩=some x:=by
 unfold ER at h
 cases ha:aggOf el with
 | some l =>
  rw[ha]at h
  obtain⟨h1,h2⟩:=h
  obtain⟨cs,h3,h4⟩:=list_of_get h2
  have hget:∀k (c:Value),cs[k]?=some c→∃a,l[k]?=some a∧w.cell? ⟨B,i*sz+k,none⟩=some c∧one c∧SR g w (.cell b i k) a c:=by
   intro k c hc
   have hlt:k<l.length:=by rw[←h3];exact(List.getElem?_eq_some_iff.1 hc).1
   exact⟨_,List.getElem?_eq_getElem hlt,h4 k _ c (List.getElem?_eq_getElem hlt) hc⟩
  have hones:∀x∈cs,one x:=fun x hx=>by
   obtain⟨k,hk⟩:=List.getElem?_of_mem hx
   obtain⟨_,_,_,h,_⟩:=hget k x hk
   exact h
  refine⟨.agg cs.toArray,by simp[Value.cells,h3,h1],by simpa [Value.cells] using hones,?_,fun j x hx=>?_⟩
  ·rw[aggOf_some ha]
   simp only[drp,VR]
   refine⟨cs,rfl,VRs.of (by simp[h3]) fun k a c hk hc=>?_,hones⟩
   rw[List.getElem?_map]at hk
   cases hl:l[k]? with
   | none=>rw[hl]at hk;cases hk
   | some a'=>rw[hl]at hk;cases hk;exact(h4 k a' c hl hc).2.2.shr
  ·obtain⟨_,_,h,_⟩:=hget j x (by simpa [Value.cells] using hx)
   exact h
 | none =>
  rw[ha]at h
  obtain⟨h1,c,h2,h3,h4⟩:=h
  subst h1
  refine⟨c,by rw[one_cells h3];rfl,fun x hx=>by rw[one_cells h3]at hx;simp at hx;rw[hx];exact h3,?_,fun j x hx=>?_⟩
  ·have hd:drp el=shr el:=by
    cases el with
    | agg l=>simp[aggOf]at ha
    | tup l =>
     have:=(SR_notOwn (a:=.tup l) rfl).1 h4
     simp only[VR]at this
     obtain⟨cs,rfl,_⟩:=this
     simp[one,Value.oneCell']at h3
    | _=>rfl
   rw[hd];exact h4.shr
  ·rw[one_cells h3]at hx
   cases j with
   | zero=>simp at hx;subst hx;simpa using h2
   | succ j=>simp at hx
theorem rows_ok{g:Gh}{w:World}{B sz b:Nat}:∀ {L:List AV} {i:Nat},(∀k el,L[k]?=some el→ER g w B sz b (i+k) el)→
  ∃cs:List Value,VRels g.imm g.mu sz (L.map drp) cs∧∀k c,cs[k]?=some c→w.cell? ⟨B,i*sz+k,none⟩=some c
 | [],i,_=>⟨[],by simp[VRels],by simp⟩
 | el::L,i,h=>by
  obtain⟨c,h1,h2,h3,h4⟩:=(h 0 el rfl).elem
  obtain⟨cs,h5,h6⟩:=rows_ok (L:=L) (i:=i+1) fun k el' hk=>by
   have:=h (k+1) el' (by simpa using hk)
   rwa [show i+(k+1)=i+1+k by omega]at this
  refine⟨c.cells.toList++cs,by simp only[List.map_cons,VRels];exact⟨c,cs,rfl,h1,h2,h3,h5⟩,fun k x hx=>?_⟩
  have hl:c.cells.toList.length=sz:=by simpa using h1
  rw[List.getElem?_append,hl]at hx
  split at hx
  ·exact h4 k x hx
  ·rename_i hk
   have:=h6 (k-sz) x hx
   rw[show (i+1)*sz+(k-sz)=i*sz+k by rw[Nat.add_mul];omega]at this
   exact this
theorem cl1_drp(a:AV):Abs.cl1 (drp a)=Abs.cl1 a:=by
 cases a with
 | agg l=>simp[drp,Abs.cl1,shr_cl0]
 | vec sz k els=>cases k<;>rfl
 | tup l=>rfl
 | _=>rfl
theorem BR.part{g:Gh}{w:World}{b B sz i len:Nat}{e:TypeId}{els:List AV}(hmu:g.mu b=some (B,sz))(h:BR g w b (.cells sz e els)):
  ∃cs:List Value,VRels g.imm noMu sz (((els.drop i).take len).map Abs.cl1) cs∧∀k c,cs[k]?=some c→w.cell? ⟨B,i*sz+k,none⟩=some c:=by
 obtain⟨B',h1,_,_,h4⟩:=h
 rw[hmu]at h1;cases h1
 obtain⟨cs,h5,h6⟩:=rows_ok (g:=g) (w:=w) (B:=B) (sz:=sz) (b:=b) (L:=(els.drop i).take len) (i:=i) fun k el hk=>by
  rw[List.getElem?_take]at hk
  split at hk
  ·rw[List.getElem?_drop]at hk;exact h4 _ _ hk
  ·cases hk
 have:=h5.cl1
 rw[List.map_map,show Abs.cl1 ∘ drp=Abs.cl1 from funext cl1_drp]at this
 exact⟨cs,this,h6⟩
theorem items_ok{g:Gh}{ro:Nat}{H:Hp}{w:World}(hm:MR g ro H w){sz:Nat}{x:AV}{c:Value}{xs:List AV}(hx:VR g.imm g.mu x c)(h:items sz H x=some xs):
  (∃cap,c=.slice none 0 cap∧xs=[])∨
  ∃B o sp cap cs,c=.slice (some ⟨B,o,sp⟩) xs.length cap∧(xs.length=0∨sp=none)∧VRels g.imm noMu sz xs cs∧∀k v,cs[k]?=some v→w.cell? ⟨B,o+k,none⟩=some v:=by
 unfold items at h
 split at h
 ·split at h
  ·rename_i hs
   cases h;subst hs
   simp only[VR]at hx
   obtain⟨B,o,sp,cap,cs,rfl,h0,_,_,h4,h5,h6⟩:=hx
   exact .inr ⟨B,o,sp,cap,cs,rfl,h0.imp (fun h=>by omega) id,h5,fun k v hk=>hm.imm _ _ _ (h6 k v hk)⟩
  ·cases h
 ·cases h
  exact .inl ⟨_,VR_lit hx,rfl⟩
 ·rename_i b sz0 i len cap
  split at h
  ·rename_i sz' e els hb
   split at h
   ·rename_i hc
    obtain⟨rfl,hlen⟩:=hc
    cases h
    simp only[VR]at hx
    obtain⟨B,cap',hmu,_,rfl⟩:=hx
    have hbr:=hm.blk b _ hb
    have hsz:sz0=sz':=by
     obtain⟨B',h1,_⟩:=hbr
     rw[hmu]at h1;cases h1;rfl
    subst hsz
    obtain⟨cs,h1,h2⟩:=hbr.part (i:=i) (len:=len) hmu
    exact .inr ⟨B,i*sz0,none,cap',cs,by simp[Nat.min_def];omega,.inr rfl,h1,h2⟩
   ·cases h
  ·cases h
 ·cases h
theorem freeze_gen{ro:Nat}{g:Gh}{H:Hp}{w:World}{o:Oper}{a:Act}{v V:AV}{c C:Value}{ef:Eff}(hm:MR g ro H w)(hx:VR g.imm g.mu v c)
  (he:(execOp a.eval o).run P w=.ok (.value C) w) (h:freeze H ro v=some ef) (hC:∀imm',g.imm.le imm'→VR imm' g.mu ef.v c→VR imm' g.mu V C):OpOk P ro g H w o a { ef with v:=V }:=by
 unfold freeze at h
 split at h
 ·rename_i b sz0 i len cap
  split at h
  ·cases h
  ·rename_i hro
   split at h
   ·rename_i sz e els hb
    split at h
    ·rename_i hc
     obtain⟨hlen,hcap⟩:=hc
     cases h
     simp only[VR]at hx
     obtain⟨B,cap',hmu,hle,rfl⟩:=hx
     have hbr:=hm.blk b _ hb
     have hbr':=hbr
     obtain⟨B',h1,⟨ccs,e',hcc⟩,himm,_⟩:=hbr'
     rw[hmu]at h1
     cases h1
     obtain⟨cs,h5,h6⟩:=hbr.part (i:=i) (len:=len) hmu
     have how:g.ow B=none:=hm.free b B sz0 (by omega) hmu
     have k:Keeps g w { g with imm:=fun B' o=>if B'=B then (if i*sz0≤o∧o<i*sz0+cs.length then cs[o-i*sz0]? else none) else g.imm B' o } w (fun B'=>B'=B) :=
      ⟨fun B' o x hx=>by
       have:B'≠B:=by intro e;subst e;rw[himm]at hx;cases hx
       simp[this,hx],.refl _ _,Nat.le_refl _,fun B' _ hB'=>⟨rfl,fun o=>by simp[hB'],rfl⟩,.refl _⟩
     have hseg:Seg (fun B' o=>if B'=B then (if i*sz0≤o∧o<i*sz0+cs.length then cs[o-i*sz0]? else none) else g.imm B' o) B (i*sz0) cs:=by
      intro j x hj
      have hl:=(List.getElem?_eq_some_iff.1 hj).1
      simp only[if_true]
      rw[if_pos (by omega),show i*sz0+j-i*sz0=j by omega];exact hj
     refine⟨⟨_,_,w,_,_,he,.inl rfl,k,?_,?_,?_,?_,?_⟩,fun t ht=>by cases ht⟩
     ·refine hm.change k b ?_ rfl hm.owlt (fun _ _ _ _=>rfl) (fun b' hb'=>putB_ne hb') ?_ ?_ ?_ ?_
      ·intro B' o x hx
       by_cases e:B'=B
       ·subst e
        simp only[if_true]at hx
        split at hx
        ·rename_i ho
         have:=h6 _ x hx
         rwa [show i*sz0+(o-i*sz0)=o by omega]at this
        ·cases hx
       ·simp only[e,if_false]at hx;exact hm.imm B' o x hx
      ·have:=lt_of_get hb
       simp only[putB];rw[if_neg (by omega)];simp
      ·intro b' B' s hne hmu' e
       subst e;exact hne (hm.inj b' b _ _ _ hmu' hmu)
      ·intro b' B' i' j' _ hB' e
       subst e;rw[how]at hB';cases hB'
      ·intro blk hblk
       rw[putB_same (Nat.le_of_lt (lt_of_get hb))]at hblk
       cases hblk;trivial
     ·intro t B' hB' e;subst e;rw[how]at hB';cases hB'
     ·intro B' l hB' hl e;subst e;rw[how]at hB';cases hB'
     ·intro L lr e hl;subst e;rw[hcc]at hl;cases hl
     ·refine VR.sr (hC _ k.imm ?_)
      simp only[VR]
      have hl:(((els.drop i).take len).map Abs.cl1).length=len:=by simp[Nat.min_def];omega
      exact⟨B,i*sz0,none,cap',cs,by rw[hl],.inr rfl,by simp,by simp,by omega,VRels.mono k.imm _ (Mu.le_refl _) h5,hseg⟩
    ·cases h
   ·cases h
 ·cases h
theorem freeze_ok{ro:Nat}{g:Gh}{H:Hp}{w:World}{o:Oper}{a:Act}{v:AV}{c:Value}{ef:Eff}(hm:MR g ro H w)(hx:VR g.imm g.mu v c)
  (he:(execOp a.eval o).run P w=.ok (.value c) w) (h:freeze H ro v=some ef):OpOk P ro g H w o a ef:=freeze_gen hm hx he h fun _ _ h=>h
theorem VRs.cut{imm:Imm}{mu:Mu}{x:AV}{post:List AV}:∀ {pre:List AV} {cs:List Value},VRs imm mu (pre++x::post) cs→∃c1 c c2,cs=c1++c::c2∧VRs imm mu pre c1∧VR imm mu x c∧VRs imm mu post c2
 | [],cs,h=>by
  simp only[List.nil_append,VRs]at h
  obtain⟨c,cs',h1,h2,h3⟩:=h
  exact⟨[],c,cs',h1,by simp[VRs],h2,h3⟩
 | y::pre,cs,h=>by
  simp only[List.cons_append,VRs]at h
  obtain⟨c,cs',h1,h2,h3⟩:=h
  obtain⟨c1,d,c2,h4,h5,h6,h7⟩:=VRs.cut h3
  exact⟨c::c1,d,c2,by rw[h1,h4];rfl,by simp only[VRs];exact⟨c,c1,rfl,h2,h5⟩,h6,h7⟩
theorem VRs.join{imm:Imm}{mu:Mu}{x:AV}{post:List AV}{c:Value}{c2:List Value}(h6:VR imm mu x c)(h7:VRs imm mu post c2):∀ {pre:List AV} {c1:List Value},VRs imm mu pre c1→VRs imm mu (pre++x::post) (c1++c::c2)
 | [],c1,h=>by
  simp only[VRs]at h
  subst h
  simp only[List.nil_append,VRs]
  exact⟨c,c2,rfl,h6,h7⟩
 | y::pre,c1,h=>by
  simp only[VRs]at h
  obtain⟨d,cs',h1,h2,h3⟩:=h
  subst h1
  simp only[List.cons_append,VRs]
  exact⟨d,cs'++c::c2,rfl,h2,VRs.join h6 h7 h3⟩
variable {P:Program} {T:TypeId→Option TI} {imm:Imm} {mu:Mu}
theorem Keeps.trans{g g1 g2:Gh}{w w1 w2:World}{X Y:Nat→Prop}(h:Keeps g w g1 w1 X)(k:Keeps g1 w1 g2 w2 Y):Keeps g w g2 w2 (fun B=>X B∨Y B) :=
 ⟨Imm.le_trans h.imm k.imm,h.mun.trans k.mun h.size,Nat.le_trans h.size k.size,fun B hB hn=>by
  obtain⟨a1,a2,a3⟩:=h.same B hB fun e=>hn (.inl e)
  obtain⟨b1,b2,b3⟩:=k.same B (Nat.lt_of_lt_of_le hB h.size) fun e=>hn (.inr e)
  exact⟨b1.trans a1,fun o=>(b2 o).trans (a2 o),b3.trans a3⟩,h.out.trans k.out⟩
theorem ER.room{g:Gh}{w:World}{B sz b i:Nat}{el:AV}(h:ER g w B sz b i el){ccs:Array Value}{e:TypeId}{fz:Nat×Nat}(hh:w.heap[B]?=some (.cells ccs e fz)):i*sz+sz≤ccs.size∨sz=0:=by
 unfold ER at h
 cases ha:aggOf el with
 | some l =>
  rw[ha]at h
  obtain⟨h1,h2⟩:=h
  rcases Nat.eq_zero_or_pos sz with h0 | h0
  ·exact .inr h0
  ·left
   have hlt:sz-1<l.length:=by omega
   obtain⟨c,h3,_⟩:=h2 (sz-1) _ (List.getElem?_eq_getElem hlt)
   have:=cell_in hh h3
   omega
 | none =>
  rw[ha]at h
  obtain⟨h1,c,h3,_⟩:=h
  subst h1
  have:=cell_in hh h3
  left;omega
theorem out_setCells(B o:Nat):∀(vs:List Value)(o:Nat)(w:World),Outs w (w.setCells B o vs)
 | [],_,w=>.refl w
 | v::r,o,w=>by
  rw[World.setCells]
  exact Outs.trans (b:=w.setCell ⟨B,o,none⟩ v) ⟨rfl,rfl,rfl⟩ (out_setCells B o r (o+1) _)
theorem write_ok{ro:Nat}{g:Gh}{H:Hp}{w:World}{b i j sz:Nat}{e:TypeId}{els:List AV}{el el' x:AV}{ti:TI}{c:Value}(hm:MR g ro H w)(hro:ro≤b)(hb:H[b]?=some (.cells sz e els))(hel:els[i]?=some el)
  (hs:elSet ti el j x=some el') (hx:SR g w (.cell b i j) x c):
  ∃B w',g.mu b=some (B,sz)∧(storeCells ⟨B,i*sz+j,none⟩ c.cells.toList).run P w=.ok () w'∧Keeps g w g w' (fun B'=>B'=B)∧MR g ro (H.set b (.cells sz e (els.set i el'))) w'∧g.ow B=none∧
   (∃ccs e,w.heap[B]?=some (.cells ccs e (0,0)))∧c.cells.size=ti.size:=by
 obtain⟨B,hmu,⟨ccs,e',hcc⟩,himm,hER⟩:=hm.blk b _ hb
 have how:g.ow B=none:=hm.free b B sz hro hmu
 have hfit:=elSet_fit hs
 have hF:=own_fit hfit hx
 have her:=hER i el hel
 have hroom:=her.room hcc
 have hcl:c.cells.toList.length=ti.size:=by simpa using hF.size
 have hj:j+c.cells.toList.length≤sz:=by
  unfold elSet at hs
  split at hs
  ·cases hs
  ·split at hs
   ·rename_i l
    split at hs
    ·have:=elem_len her;omega
    ·cases hs
   ·cases hs
   ·rename_i hna _
    split at hs
    ·rename_i hc
     have hae:aggOf el=none:=by cases el<;>first | rfl | exact absurd rfl (hna _)
     have hax:aggOf x=none:=by
      cases hxx:aggOf x with
      | none=>rfl
      | some l=>have:=(hF.agg l (aggOf_some hxx)).2;rw[this]at hc;cases hc.1
     unfold ER at her
     rw[hae]at her
     have:=(hF.scal hax).2.1
     have:=her.1
     omega
    ·cases hs
 have hroom2:i*sz+j+c.cells.toList.length≤ccs.size∨c.cells.toList.length=0:=by
  rcases hroom with h | h
  ·left;omega
  ·right;omega
 refine⟨B,w.setCells B (i*sz+j) c.cells.toList,hmu,?_,?_,?_,how,⟨ccs,e',hcc⟩,hF.size⟩
 ·have:=run_storeCells_cells (P:=P) B (i*sz+j) c.cells.toList 0 w (fun k hk=>by
   rcases hroom2 with h | h
   ·exact cell_lt hcc (by omega)
   ·omega) (fun k hk=>frozen_of_cells hcc _) (fun v hv=>hF.ones v hv)
  simpa using this
 ·refine⟨Imm.le_refl _,.refl _ _,Nat.le_of_eq (size_setCells B _ _ _).symm,fun B' _ hB'=>⟨rfl,fun _=>rfl,heap_setCells_ne B _ _ _ (Ne.symm hB')⟩,out_setCells B 0 _ _ _⟩
 ·have k:Keeps g w g (w.setCells B (i*sz+j) c.cells.toList) (fun B'=>B'=B) :=
   ⟨Imm.le_refl _,.refl _ _,Nat.le_of_eq (size_setCells B _ _ _).symm,fun B' _ hB'=>⟨rfl,fun _=>rfl,heap_setCells_ne B _ _ _ (Ne.symm hB')⟩,out_setCells B 0 _ _ _⟩
  refine hm.change k b ?_ rfl ?_ (fun _ _ _ _=>rfl) ?_ (by simp) ?_ ?_ ?_
  ·intro B' o v hv
   have hne:B'≠B:=by intro e;subst e;rw[himm]at hv;cases hv
   rw[cell_of_heap (heap_setCells_ne B _ _ _ (Ne.symm hne))]
   exact hm.imm B' o v hv
  ·intro B' l hl;rw[size_setCells];exact hm.owlt B' l hl
  ·intro b' hb';rw[List.getElem?_set_ne (Ne.symm hb')]
  ·intro b' B' s hne hmu' e
   subst e;exact hne (hm.inj b' b _ _ _ hmu' hmu)
  ·intro b' B' i' j' _ hB' e
   subst e;rw[how]at hB';cases hB'
  ·intro blk hblk
   rw[List.getElem?_set_self (lt_of_get hb)]at hblk
   cases hblk
   obtain⟨ccs',hcc',hsz'⟩:=heap_setCells_cells B c.cells.toList (i*sz+j) w hcc
   refine⟨B,hmu,⟨ccs',e',hcc'⟩,himm,fun i' el'' hel'=>?_⟩
   have hother:∀B',g.ow B'≠none→(w.setCells B (i*sz+j) c.cells.toList).heap[B']?=w.heap[B']?:=by
    intro B' hB'
    have hne:B≠B':=by intro e;subst e;exact hB' how
    exact heap_setCells_ne B _ _ _ hne
   by_cases ei:i'=i
   ·subst ei
    rw[List.getElem?_set_self (List.getElem?_eq_some_iff.1 hel).1]at hel'
    cases hel'
    have hx':∀loc,isOwn x=false→SR g (w.setCells B (i'*sz+j) c.cells.toList) loc x c:=fun loc ho=>(SR_notOwn ho).2 ((SR_notOwn ho).1 hx)
    have hbz:i'*sz+sz≤ccs.size:=by
     rcases hroom with h | h
     ·exact h
     ·rw[h];simp
    exact(ER.set her hs hx' (fun _=>hx.keeps k hm.owlt fun B' hB' e=>by subst e;rw[how]at hB';cases hB') hF (fun ho=>VR_cellsOf hfit ((SR_notOwn ho).1 hx)) (Imm.le_refl _) (Mu.le_refl _) hcc rfl
     (fun B' j' hB'=>⟨fun _=>rfl,hother B' (by rw[hB'];simp),rfl⟩) hbz).1
   ·rw[List.getElem?_set_ne (Ne.symm ei)]at hel'
    have her':=hER i' el'' hel'
    have hsame:∀k,k<sz→(w.setCells B (i*sz+j) c.cells.toList).cell? ⟨B,i'*sz+k,none⟩=w.cell? ⟨B,i'*sz+k,none⟩:=by
     intro k hk
     rw[cell_setCells hcc (by
      rcases hroom with h | h
      ·omega
      ·omega),if_neg]
     intro ⟨h1,h2⟩
     have:=off_ne (sz:=sz) (Ne.symm ei) (show i'*sz+k-i*sz<sz by omega) hk
     omega
    unfold ER at her' ⊢
    cases ha:aggOf el'' with
    | some l =>
     rw[ha]at her'
     obtain⟨h1,h2⟩:=her'
     refine⟨h1,fun k a hk=>?_⟩
     obtain⟨c',h3,h4,h5⟩:=h2 k a hk
     have hk':k<sz:=by rw[←h1];exact(List.getElem?_eq_some_iff.1 hk).1
     exact⟨c',by rw[hsame k hk'];exact h3,h4,h5.keeps ‹_› hm.owlt fun B' hB' e=>by subst e;rw[how]at hB';cases hB'⟩
    | none =>
     rw[ha]at her'
     obtain⟨h1,c',h3,h4,h5⟩:=her'
     subst h1
     have:=hsame 0 (by omega)
     rw[Nat.add_zero,Nat.mul_one i']at this
     exact⟨rfl,c',by rw[this];exact h3,h4,h5.keeps ‹_› hm.owlt fun B' hB' e=>by subst e;rw[how]at hB';cases hB'⟩
theorem putB_set{H:Hp}{b:Nat}{blk:ABlock}(h:b<H.length):putB H (((H.set b blk)[b]?).map fun x=>(b,x))=H.set b blk:=by
 rw[List.getElem?_set_self h]
 simp only[Option.map_some,putB]
 rw[if_neg (by omega)]
theorem undef_tup{imm:Imm}{mu:Mu}:VR imm mu (.tup []) undef:=by simp only[VR];exact⟨[],rfl,rfl⟩
theorem lStore_ok(hT:TOk P T){ro nt:Nat}{g:Gh}{fr:PT}{H:Hp}{w:World}{o:Oper}{a:Act}{t:TypeId}{A X:Operand}{ef:Eff}(hR:Rel g ro nt fr H a.tmps w)
  (ho:o.op=.store t A X) (h:lStore T ro fr H t (ev fr A) X=some ef):OpOk P ro g H w o a ef:=by
 have hA:=hR.eval (a:=a) A
 unfold lStore at h
 split at h
 ·rename_i b i j ha
  rw[ha]at hA
  split at h
  ·cases h
  ·rename_i hro
   split at h
   ·rename_i H' hst
    cases h
    simp only[VR]at hA
    obtain⟨B0,sz0,hmu0,hA⟩:=hA
    have hval:∃g1 X1 x,x=(match owner fr X with | some s=>fr.get s | none=>drp (ev fr X))∧Keeps g w g1 w X1∧MR g1 ro H w∧(∀t' B,g.ow B=some (.slot t')→X1 B→owner fr X=some t')∧
      (∀B,X1 B→∃t',g.ow B=some (.slot t'))∧(∀B,X1 B→∃ccs e,w.heap[B]?=some (.cells ccs e (0,0)))∧SR g1 w (.cell b i j) x (a.eval X)∧g1.mu=g.mu:=by
     cases hown:owner fr X with
     | none =>
      exact⟨g,fun _=>False,_,rfl,Keeps.refl _ _ _,hR.mem,fun _ _ _ h=>h.elim,fun _ h=>h.elim,fun _ h=>h.elim,(hR.eval (a:=a) X).drp.sr,rfl⟩
     | some s =>
      obtain⟨g1,X1,hk⟩:=hR.take (a:=a) hown (.cell b i j)
      exact⟨g1,X1,_,rfl,hk.keeps,hk.mem,hk.slot,fun B hB=>⟨s,(hk.only B hB).1⟩,fun B hB=>(hk.only B hB).2,hk.sr,hk.mu⟩
    obtain⟨g1,X1,x,hxe,hk1,hm1,hs1,ho1,hc1,hsr,hmu1⟩:=hval
    replace hst:astore T t H (.ptr b i j) x=some H':=by rw[hxe];exact hst
    unfold astore at hst
    split at hst
    ·rename_i ti b' i' j' ht heq
     cases heq
     split at hst
     ·rename_i sz e els hb
      split at hst
      ·rename_i el hel
       split at hst
       ·rename_i el' hset
        cases hst
        obtain⟨B,w',h1,h2,h3,h4,h5,h6,h7⟩:=write_ok (P:=P) hm1 (Nat.le_of_not_lt hro) hb hel hset hsr
        rw[hmu1,hmu0]at h1
        cases h1
        rw[putB_set (lt_of_get hb) |>.symm]at h4
        refine⟨⟨undef,.skip,w',g1,fun B'=>X1 B'∨B'=B0,?_,.inr ⟨rfl,rfl⟩,hk1.trans h3,h4,?_,?_,?_,undef_tup.sr⟩,fun t' ht'=>hR.owner_lt ht'⟩
        ·have hsz:=hT.run_size ht w
         simp only[execOp,ho,Instr.storeAt,hA,Instr.sureAddr,Sem.run_bind,Sem.run_pure,Result.andThen,storeVar,hsz,h7,ne_eq,not_true,if_false,h2]
        ·intro t' B' hB' hX
         rcases hX with hX | rfl
         ·exact hs1 t' B' hB' hX
         ·exfalso
          have:=hR.mem.free b B' sz0 (Nat.le_of_not_lt hro) hmu0
          rw[this]at hB';cases hB'
        ·intro B' l hB' hl hX
         rcases hX with hX | rfl
         ·obtain⟨t',ht'⟩:=ho1 B' hX;rw[ht']at hB';cases hB';exact hl
         ·have:=hR.mem.free b B' sz0 (Nat.le_of_not_lt hro) hmu0
          rw[this]at hB';cases hB'
        ·intro L lr hX hl
         rcases hX with hX | rfl
         ·obtain⟨ccs,e,hc⟩:=hc1 L hX;rw[hc]at hl;cases hl
         ·obtain⟨ccs,e,hc⟩:=h6;rw[hc]at hl;cases hl
       ·cases hst
      ·cases hst
     ·cases hst
    ·cases hst
   ·cases h
 ·cases h
theorem ER.cell{g:Gh}{w:World}{B sz b i:Nat}{l:List AV}(h:ER g w B sz b i (.agg l)){j:Nat}{a:AV}(hj:l[j]?=some a):∃c,w.cell? ⟨B,i*sz+j,none⟩=some c∧one c∧SR g w (.cell b i j) a c:=h.2 j a hj
theorem atake_ok{ro:Nat}{g:Gh}{H H':Hp}{w:World}{d:Loc}{x v:AV}{b:Nat}{c:Value}(hm:MR g ro H w)(hx:VR g.imm g.mu x c)(h:atake H x=some (v,b,H')):
  ∃B0 o g' X cv,c=.pointer (some ⟨B0,o,none⟩)∧w.cell? ⟨B0,o,none⟩=some cv∧Keeps g w g' w X∧MR g' ro H' w∧(∀B,X B→(∃i j,g.ow B=some (.cell b i j))∧∃ccs e,w.heap[B]?=some (.cells ccs e (0,0)))∧SR g' w d v cv∧
   ∃blk,H'=H.set b blk∧b<H.length:=by
 unfold atake at h
 split at h
 ·rename_i b0 i j
  split at h
  ·rename_i sz e els hb
   simp only[VR]at hx
   obtain⟨B,sz0,hmu,rfl⟩:=hx
   have hbr:=hm.blk b0 _ hb
   obtain⟨B',h1,hcc,himm,hER⟩:=hbr
   rw[hmu]at h1;cases h1
   have key:∀(s:Nat)(xs:List AV)(el':AV)(j:Nat)(cv:Value),SR g w (.cell b0 i j) (.vec s .own xs) cv→(∀(g':Gh)(k:Keeps g w g' w (fun B2=>g'.ow B2≠g.ow B2)) ,(∀B2,g.ow B2≠g'.ow B2→g.ow B2=some (.cell b0 i j))→VR g'.imm g'.mu (.vec s .shared xs) cv→ER g' w B sz b0 i el')→
     ∃g' X,Keeps g w g' w X∧MR g' ro (H.set b0 (.cells sz e (els.set i el'))) w∧(∀B,X B→(∃i j,g.ow B=some (.cell b0 i j))∧∃ccs e,w.heap[B]?=some (.cells ccs e (0,0)))∧SR g' w d (.vec s .own xs) cv:=by
    intro s xs el' j cv hsr hel'
    have hshr:=hsr.shr
    obtain⟨B2,cap,cs,e1,e2,e3,e4,e5,e6,ccs,e7,e8,e9⟩:=hsr
    have k:Keeps g w { g with ow:=fun B'=>if B'=B2 then some d else g.ow B' } w (fun B'=>B'=B2) :=
     ⟨Imm.le_refl _,.refl _ _,Nat.le_refl _,fun B' _ hB'=>⟨by simp[hB'],fun _=>rfl,rfl⟩,.refl _⟩
    have hnm:∀b' B' s,g.mu b'=some (B',s)→B'≠B2:=by
     intro b' B' s hb' e
     subst e
     rcases Nat.lt_or_ge b' ro with hro | hro
     ·have:=hm.prot b' B' s hro hb';rw[e5]at this;cases this
     ·have:=hm.free b' B' s hro hb';rw[e5]at this;cases this
    refine⟨{ g with ow:=fun B'=>if B'=B2 then some d else g.ow B' },fun B'=>B'=B2,k,?_,?_,⟨B2,cap,cs,e1,e2,e3,e4,by simp,e6,ccs,e7,e8,e9⟩⟩
    ·refine hm.change k b0 hm.imm rfl ?_ ?_ ?_ (by simp) ?_ ?_ ?_
     ·intro B' l hl
      by_cases e:B'=B2
      ·rw[e];exact hm.owlt B2 _ e5
      ·simp only[e,if_false]at hl;exact hm.owlt B' l hl
     ·intro b' B' s hb';simp[hnm b' B' s hb']
     ·intro b' hb';rw[List.getElem?_set_ne (Ne.symm hb')]
     ·intro b' B' s hne hb' e;exact hnm b' B' s hb' e
     ·intro b' B' i' j' hne hB' e;subst e;rw[e5]at hB';cases hB';exact hne rfl
     ·intro blk hblk
      rw[List.getElem?_set_self (lt_of_get hb)]at hblk
      cases hblk
      refine⟨B,hmu,hcc,himm,fun i' el'' hel''=>?_⟩
      by_cases ei:i'=i
      ·subst ei
       have hlt:i'<els.length:=by
        have:=(List.getElem?_eq_some_iff.1 hel'').1;simpa using this
       rw[List.getElem?_set_self hlt]at hel''
       cases hel''
       refine hel' _ ⟨Imm.le_refl _,.refl _ _,Nat.le_refl _,fun B' _ hB'=>⟨Classical.not_not.1 hB',fun _=>rfl,rfl⟩,.refl _⟩ ?_ ?_
       ·intro B' hB'
        by_cases e:B'=B2
        ·subst e;exact e5
        ·exact absurd (by simp[e]) hB'
       ·exact hshr
      ·rw[List.getElem?_set_ne (Ne.symm ei)]at hel''
       exact(hER i' el'' hel'').mono (Imm.le_refl _) (Mu.le_refl _) (fun _=>rfl) fun B' j' hB'=>by
        have hne:B'≠B2:=by intro e;subst e;rw[e5]at hB';cases hB';exact ei rfl
        exact⟨by simp[hne,hB'],fun _=>rfl,rfl⟩
    ·intro B' e;subst e;exact⟨⟨i,j,e5⟩,ccs,e7,e8⟩
   split at h
   ·rename_i s xs hel
    split at h
    ·rename_i hj
     cases h
     subst hj
     have her:=hER i _ hel
     have her2:=her
     unfold ER at her2
     simp only[aggOf]at her2
     obtain⟨hsz,cv,hcv,hone,hsr⟩:=her2
     subst hsz
     obtain⟨g',X,k1,k2,k3,k4⟩:=key s xs (.vec s .shared xs) 0 cv hsr fun g' k hk hv=>by
      unfold ER
      show 1=1∧_
      exact⟨rfl,cv,hcv,hone,hv.sr⟩
     exact⟨B,i*1+0,g',X,cv,rfl,by simpa using hcv,k1,k2,k3,k4,_,rfl,lt_of_get hb⟩
    ·cases h
   ·rename_i l hel
    split at h
    ·rename_i s xs hl
     cases h
     have her:=hER i _ hel
     obtain⟨cv,hcv,hone,hsr⟩:=her.cell hl
     obtain⟨g',X,k1,k2,k3,k4⟩:=key s xs (.agg (l.set j (.vec s .shared xs))) j cv hsr fun g' k hk hv=>by
      refine⟨by simpa using her.1,fun j' a' ha'=>?_⟩
      by_cases ej:j'=j
      ·subst ej
       rw[List.getElem?_set_self (List.getElem?_eq_some_iff.1 hl).1]at ha'
       cases ha'
       exact⟨cv,hcv,hone,hv.sr⟩
      ·rw[List.getElem?_set_ne (Ne.symm ej)]at ha'
       obtain⟨c',h3,h4,h5⟩:=her.2 j' a' ha'
       refine⟨c',h3,h4,h5.keeps k hm.owlt fun B' hB' hne=>?_⟩
       have:=hk B' (Ne.symm hne)
       rw[hB']at this;cases this;exact ej rfl
     exact⟨B,i*sz+j,g',X,cv,rfl,hcv,k1,k2,k3,k4,_,rfl,lt_of_get hb⟩
    ·cases h
   ·cases h
  ·cases h
 ·cases h
theorem rd_irrel{ro:Nat}{g:Gh}{H:Hp}{w:World}{o:Oper}{a:Act}{v:AV}{un:Option Tmp}{up:Option (Nat×ABlock)}{rd rd':Rd}{tk tk':Bool}(h:OpOk P ro g H w o a { v,un,up,rd,tk }):OpOk P ro g H w o a { v,un,up,rd:=rd',tk:=tk' } :=
 ⟨h.out,h.un⟩
theorem frzL_sp{H:Hp}{ro:Nat}:∀ {l l':List AV} {b:Nat},frzL H ro l=some (l',b)→∃pre x post w,l=pre++x::post∧l'=pre++w::post∧freeze H ro x=some { v:=w,up:=some (b,.gone),rd:=.one b }
 | [],_,_,h=>by cases h
 | x::l,l',b,h=>by
  simp only[frzL]at h
  split at h
  ·rename_i e he
   have hb:∃v' b',e={ v:=v',up:=some (b',.gone),rd:=.one b' }:=by
    unfold freeze at he
    split at he
    ·split at he
     ·cases he
     ·split at he
      ·split at he
       ·cases he;exact⟨_,_,rfl⟩
       ·cases he
      ·cases he
    ·cases he
   obtain⟨v',b',rfl⟩:=hb
   simp only at h
   cases h
   exact⟨[],x,l,_,rfl,rfl,he⟩
  ·rename_i he
   cases hr:frzL H ro l with
   | none=>rw[hr]at h;cases h
   | some p =>
    rw[hr]at h
    cases h
    obtain⟨pre,y,post,w,rfl,h2,h3⟩:=frzL_sp (l':=p.1) (b:=p.2) hr
    exact⟨x::pre,y,post,w,rfl,by rw[h2];rfl,h3⟩
theorem freezeA_ok{ro:Nat}{g:Gh}{H:Hp}{w:World}{o:Oper}{a:Act}{v:AV}{c:Value}{ef:Eff}(hm:MR g ro H w)(hx:VR g.imm g.mu v c)
  (he:(execOp a.eval o).run P w=.ok (.value c) w) (h:freezeA H ro v=some ef):OpOk P ro g H w o a ef:=by
 unfold freezeA at h
 split at h
 ·rename_i l
  split at h
  ·rename_i l' b hl
   cases h
   obtain⟨pre,x,post,y,rfl,rfl,h3⟩:=frzL_sp hl
   simp only[VR]at hx
   obtain⟨cs,rfl,h5,h6⟩:=hx
   obtain⟨c1,cc,c2,rfl,k1,k2,k3⟩:=VRs.cut h5
   exact freeze_gen (V:=.agg (pre++y::post)) hm k2 he h3 fun imm' hle hv=>by
    simp only[VR]
    exact⟨_,rfl,VRs.join hv (VRs.mono hle _ (Mu.le_refl _) k3) (VRs.mono hle _ (Mu.le_refl _) k1),h6⟩
  ·cases h
   exact OpOk.pure hm ⟨_,he,hx⟩
 ·exact freeze_ok hm hx he h
theorem lLoad_ok{cx:Cx}(hT:TOk P cx.T){ro:Nat}{fn:FuncId}{ops:Array Oper}{g:Gh}{H:Hp}{w:World}{o:Oper}{a:Act}{t:TypeId}{A:Operand}{x:AV}{ef:Eff}(hm:MR g ro H w)
  (ho:o.op=.load t A) (hx:VR g.imm g.mu x (a.eval A)) (h:lLoad cx ro fn ops (o.dst.getD 0) H t x=some ef):OpOk P ro g H w o a ef:=by
 have hplain:∀v,aload cx.T t H x=some v→∃c,(execOp a.eval o).run P w=.ok (.value c) w∧VR g.imm g.mu v c:=by
  intro v hv
  obtain⟨c,h1,h2⟩:=aload_ok (P:=P) hT hm hx hv
  exact⟨c,by simp[execOp,ho,h1,Result.andThen],h2⟩
 unfold lLoad at h
 split at h
 ·cases hl:aload cx.T t H x with
  | none=>rw[hl]at h;cases h
  | some v =>
   rw[hl]at h
   obtain⟨c,h1,h2⟩:=hplain v hl
   simp only[Option.bind_some]at h
   cases hf:freezeA H ro v with
   | none=>rw[hf]at h;cases h
   | some ef0 =>
    rw[hf]at h
    cases h
    exact rd_irrel (freezeA_ok hm h2 h1 hf)
 ·have hp:∀r,(aload cx.T t H x).map (.rdd r)=some ef→OpOk P ro g H w o a ef:=by
   intro r h
   cases hl:aload cx.T t H x with
   | none=>rw[hl]at h;cases h
   | some v=>rw[hl]at h;cases h;exact OpOk.pure hm (hplain v hl)
  split at h
  ·split at h
   rename_i v b H' htk
   ·unfold lTake at h
    split at h
    ·cases h
    ·rename_i hn
     cases h
     have hro:ro≤b:=Nat.le_of_not_lt fun e=>hn (.inl e)
     have hagg:(cx.T t).map (·.agg)=some false:=Classical.not_not.1 fun e=>hn (.inr e)
     cases htt:cx.T t with
     | none=>rw[htt]at hagg;cases hagg
     | some ti =>
      rw[htt]at hagg
      simp only[Option.map_some,Option.some.injEq]at hagg
      obtain⟨B0,of,g',X,cv,h1,h2,h3,h4,h5,h6,blk,rfl,hlt⟩:=atake_ok (d:=.slot (o.dst.getD 0)) hm hx htk
      rw[←putB_set hlt]at h4
      refine⟨⟨cv,_,w,g',X,?_,.inl rfl,h3,h4,?_,?_,?_,h6⟩,fun t ht=>by cases ht⟩
      ·have hag:=hT.run_isAgg htt w
       simp only[execOp,ho,h1,Instr.loadAt,Instr.sureAddr,Sem.run_bind,Sem.run_pure,Result.andThen,loadVar,hag,hagg,Bool.false_eq_true,if_false,run_load_cell h2]
      ·intro t' B hB hX;obtain⟨⟨i,j,hc⟩,_⟩:=h5 B hX;rw[hc]at hB;cases hB
      ·intro B l hB hl hX;obtain⟨⟨i,j,hc⟩,_⟩:=h5 B hX;rw[hc]at hB;cases hB;exact absurd hro (Nat.not_le_of_lt hl)
      ·intro L lr hX hl;obtain⟨_,ccs,e,hc⟩:=h5 L hX;rw[hc]at hl;cases hl
   ·exact hp _ h
  ·exact hp _ h
theorem lMove_ok{cx:Cx}{ro nt:Nat}{fn:FuncId}{ops:Array Oper}{g:Gh}{fr:PT}{H:Hp}{w:World}{o:Oper}{a:Act}{X:Operand}{ef:Eff}(hR:Rel g ro nt fr H a.tmps w)
  (ho:o.op=.move X) (h:lMove cx ro fn ops (o.dst.getD 0) fr H X=some ef):OpOk P ro g H w o a ef:=by
 have he:(execOp a.eval o).run P w=.ok (.value (a.eval X)) w:=by simp[execOp,ho]
 have hx:=hR.eval (a:=a) X
 unfold lMove at h
 split at h
 ·exact freeze_ok hR.mem hx he h
 ·split at h
  ·rename_i t hown
   split at h
   ·cases h
    obtain⟨g',X,hk⟩:=hR.take (a:=a) hown (.slot (o.dst.getD 0))
    exact hk.opOk (hR.owner_lt hown) he
   ·cases h;exact OpOk.pure hR.mem ⟨_,he,hx⟩
  ·cases h;exact OpOk.pure hR.mem ⟨_,he,hx⟩
theorem raw_ev{fr:PT}{x:Operand}(h:owner fr x=none):raw fr x=ev fr x:=by
 cases x with
 | tmp t =>
  simp only[raw,ev]
  cases hv:fr.get t with
  | vec sz k els=>cases k<;>first | rfl | (simp[owner,hv]at h)
  | _=>rfl
 | _=>rfl
theorem raw_own{fr:PT}{x:Operand}{t:Tmp}(h:owner fr x=some t):raw fr x=fr.get t:=by
 obtain⟨rfl,_⟩:=owner_spec h
 rfl
theorem lAssign_ok{ro nt:Nat}{g:Gh}{fr:PT}{H:Hp}{w:World}{o:Oper}{a:Act}{X:Operand}(hR:Rel g ro nt fr H a.tmps w)
  (ho:o.op=.assign X):OpOk P ro g H w o a { v:=raw fr X,un:=owner fr X }:=by
 have he:(execOp a.eval o).run P w=.ok (.value (a.eval X)) w:=by simp[execOp,ho]
 have hx:=hR.eval (a:=a) X
 cases hown:owner fr X with
 | none=>rw[raw_ev hown];exact OpOk.pure hR.mem ⟨_,he,hx⟩
 | some t =>
  rw[raw_own hown]
  obtain⟨g',X,hk⟩:=hR.take (a:=a) hown (.slot (o.dst.getD 0))
  exact hk.opOk (hR.owner_lt hown) he
variable {P:Program} {T:TypeId→Option TI} {imm:Imm} {mu:Mu}
theorem run_append_eq{w:World}{tys:Array TypeId}{ty t t' e e':TypeId}{args:Array Value}{s x:Value}(h1:tys[0]?=some t)(h2:tys[1]?=some t')(h3:args[0]?=some s)(h4:args[1]?=some x)
  (hu:P.underlying t=some (.slice e)) (hu':P.underlying t'=some (.slice e')):
  (Builtin.append_ tys ty args).run P w=(Builtin.append_ #[t,t] ty #[s,x]).run P w:=by
 have e1:(#[t,t]:Array TypeId)[0]?=some t:=rfl
 have e2:(#[t,t]:Array TypeId)[1]?=some t:=rfl
 have e3:(#[s,x]:Array Value)[0]?=some s:=rfl
 have e4:(#[s,x]:Array Value)[1]?=some x:=rfl
 simp only[Builtin.append_,h1,h2,h3,h4,e1,e2,e3,e4,Sem.run_bind,run_underlying_of hu,Result.andThen]
 cases s<;>simp only[Sem.run_bind,run_underlying_of hu,run_underlying_of hu',Result.andThen,Sem.run_pure]
theorem run_append_none{w:World}{ty t e:TypeId}{x:Value}{base:Option Addr}{n cap c:Nat}{i:TypeInfo}(hu:P.underlying t=some (.slice e))(hi:P.info? e=some i)(hn:n≤cap)(hx:∃b,x=.slice b 0 c):
  (Builtin.append_ #[t,t] ty #[.slice base n cap,x]).run P w=.ok (.slice base n cap) w:=by
 obtain⟨b,rfl⟩:=hx
 cases b<;>cases base<;>simp[Builtin.append_,run_underlying_of hu,Result.andThen,Builtin.lenOf,hn,Builtin.firstCells,sizeOf,typeInfo,hi,loadCells,loadCellsFrom,storeCells]
theorem OpOk.ownNew{ro:Nat}{g:Gh}{H:Hp}{w:World}{o:Oper}{a:Act}{un:Option Tmp}{rd:Rd}{sz cap:Nat}{e:TypeId}{els:List AV}{cs:List Value}{rest:Array Value}(hm:MR g ro H w)(hu:∀t,un=some t→t<16000)
  (h:(execOp a.eval o).run P w=.ok (.value (.slice (some ⟨w.heap.size,0,none⟩) els.length cap)) (w.drew.alloc (.cells (cs.toArray++rest) e)))
  (hr:VRels g.imm noMu sz els cs) (hle:els.length≤cap) (hsz:(cs.toArray++rest).size=cap*sz):OpOk P ro g H w o a { v:=.vec sz .own els,un,rd }:=by
 have k:=Keeps.anon hm.drew (.cells (cs.toArray++rest) e) (cs.toArray++rest) cs.length (some (.slot (o.dst.getD 0)))
 refine⟨⟨_,_,_,g.anon w.heap.size (cs.toArray++rest) cs.length (some (.slot (o.dst.getD 0))),fun _=>False,h,.inl rfl,k.undrew,hm.drew.anon (cs.toArray++rest) e cs.length _,fun _ _ _ h=>h.elim,fun _ _ _ _ h=>h,fun _ _ h=>h.elim,?_⟩,hu⟩
 refine⟨w.heap.size,cap,cs,rfl,hle,VRels.mono k.imm _ (Mu.le_refl _) hr,?_,by simp[Gh.anon],fun of hof=>?_,_,e,heap_alloc_new w.drew _,hsz⟩
 ·have:=Seg.anon g w.heap.size (cs.toArray++rest) cs.length (some (.slot (o.dst.getD 0)))
  simpa using this
 ·have:=hr.length
  simp only[Gh.anon,if_true]
  rw[if_neg (by omega)]
theorem zc_size(hT:TOk P T){e:TypeId}{te:TI}(hte:T e=some te):∃i z,P.info? e=some i∧i.zero=some z∧i.size=te.size∧i.bytes=te.bytes∧z.cells.size=te.size:=by
 obtain⟨i,z,u,h1,h2,h3,h4,h5,h6,_,_,_,h10,_⟩:=hT.info hte
 exact⟨i,z,h1,h2,h4,h5,by rw[←h10,←h6];simp⟩
theorem items_news{g:Gh}{ro:Nat}{H:Hp}{w:World}(hm:MR g ro H w){sz:Nat}{x:AV}{c:Value}{xs:List AV}(hx:VR g.imm g.mu x c)(h:items sz H x=some xs)(hne:xs≠[]):
  ∃(A:Addr)(cap:Nat)(cs:List Value),c=.slice (some A) xs.length cap∧VRels g.imm noMu sz xs cs∧cs.length=xs.length*sz∧∀k v,cs[k]?=some v→w.cell? (A.add k)=some v:=by
 rcases items_ok hm hx h with⟨cap,_,h2⟩ | ⟨B,o,sp,cap,cs,h1,h0,h2,h3⟩
 ·exact absurd h2 hne
 ·obtain rfl:sp=none:=by rcases h0 with h | h;· exact absurd (List.length_eq_zero_iff.1 h) hne
                         ·exact h
  exact⟨_,cap,cs,h1,h2,h2.length,fun k v hk=>by rw[addr_add];exact h3 k v hk⟩
theorem arr_app(cs:List Value)(rest:Array Value):(cs++rest.toList).toArray=cs.toArray++rest:=by apply Array.ext';simp
theorem mul_bound{n b:Nat}(h:n*(b+1)≤2 ^ 40):n≤2 ^ 40∧n*b≤2 ^ 40:=by
 rw[Nat.mul_add,Nat.mul_one]at h
 omega
theorem grow_nil(hT:TOk P T){g:Gh}{ro:Nat}{H:Hp}{w:World}(hm:MR g ro H w){t e ty:TypeId}{te:TI}(hu:P.underlying t=some (.slice e))(hte:T e=some te){x:AV}{c:Value}{xs:List AV}(hx:VR g.imm g.mu x c)(h:items te.size H x=some xs)(hne:xs≠[])
  (hb:xs.length*(te.bytes+1)≤2 ^ 40):
  ∃(cap:Nat)(cs:List Value)(rest:Array Value),(Builtin.append_ #[t,t] ty #[.slice none 0 0,c]).run P w=.ok (.slice (some ⟨w.heap.size,0,none⟩) xs.length cap) (w.drew.alloc (.cells (cs.toArray++rest) e))∧
   VRels g.imm noMu te.size xs cs∧xs.length≤cap∧(cs.toArray++rest).size=cap*te.size:=by
 obtain⟨A,cap,cs,rfl,h2,h3,h4⟩:=items_news hm hx h hne
 obtain⟨i,z,i1,i2,i3,i4,i5⟩:=zc_size hT hte
 obtain⟨hb1,hb2⟩:=mul_bound hb
 have hpos:0<xs.length:=List.length_pos_iff.2 hne
 have hr:=run_append_nil (P:=P) w t ty e i z hu i1 i2 A xs.length cap cs (by rw[i3];exact h3) h4 hpos (by omega) (by rw[i4];omega)
 have hge:=grownCap_ge w xs.length 0 e
 refine⟨_,cs,_,hr,h2,hge,?_⟩
 simp only[Array.size_append,List.size_toArray,h3,size_zeroCells,i5,←Nat.add_mul]
 congr 1;omega
theorem seg_read{g:Gh}{ro:Nat}{H:Hp}{w:World}(hm:MR g ro H w){B of cap sz:Nat}{sp:Option Nat}{els:List AV}{olds:List Value}{mu:Mu}(h0:cap=0∨sp=none)(hle:els.length≤cap∨sp=none)
  (ho:VRels g.imm mu sz els olds) (hs:Seg g.imm B of olds):∀k v,olds[k]?=some v→w.cell? ((⟨B,of,sp⟩:Addr).add k)=some v:=fun k v hk=>by
 obtain rfl:sp=none:=by
  rcases h0 with h | h
  ·rcases hle with h' | h'
   ·have:=(List.getElem?_eq_some_iff.1 hk).1
    have h2:els.length=0:=by omega
    rw[ho.length,h2]at this;omega
   ·exact h'
  ·exact h
 rw[addr_add];exact hm.imm _ _ _ (hs k v hk)
theorem grow_some(hT:TOk P T){g:Gh}{ro:Nat}{H:Hp}{w:World}(hm:MR g ro H w){t e ty:TypeId}{te:TI}(hu:P.underlying t=some (.slice e))(hte:T e=some te){x:AV}{c:Value}{xs els:List AV}(hx:VR g.imm g.mu x c)(h:items te.size H x=some xs)(hne:xs≠[])
  {A0:Addr} {cap0:Nat} {olds:List Value} (ho:VRels g.imm noMu te.size els olds) (hs:∀k v,olds[k]?=some v→w.cell? (A0.add k)=some v) (hcap:cap0<els.length+xs.length) (hb:(els.length+xs.length)*(te.bytes+1)≤2 ^ 40):
  ∃(cap:Nat)(cs:List Value)(rest:Array Value),(Builtin.append_ #[t,t] ty #[.slice (some A0) els.length cap0,c]).run P w=.ok (.slice (some ⟨w.heap.size,0,none⟩) (els++xs).length cap) (w.drew.alloc (.cells (cs.toArray++rest) e))∧
   VRels g.imm noMu te.size (els++xs) cs∧(els++xs).length≤cap∧(cs.toArray++rest).size=cap*te.size:=by
 obtain⟨A,cap,cs,rfl,h2,h3,h4⟩:=items_news hm hx h hne
 obtain⟨i,z,i1,i2,i3,i4,i5⟩:=zc_size hT hte
 obtain⟨hb1,hb2⟩:=mul_bound hb
 have hr:=run_append_grow (P:=P) w t ty e i z hu i1 i2 A0 els.length cap0 olds (by rw[i3];exact ho.length) hs A xs.length cap cs (by rw[i3];exact h3) h4 hcap (by omega)
  (growslice_fits hcap (by rw[i4];omega))
 have hge:=grownCap_ge w (els.length+xs.length) cap0 e
 refine⟨grownCap w (els.length+xs.length) cap0 e,olds++cs,Builtin.zeroCells z.cells (grownCap w (els.length+xs.length) cap0 e-(els.length+xs.length)),?_,ho.append h2,by simpa using hge,?_⟩
 ·rw[hr];simp
 ·simp only[Array.size_append,List.size_toArray,List.length_append,ho.length,h3,size_zeroCells,i5,←Nat.add_mul]
  congr 1;omega
theorem lAppend_ok{cx:Cx}(hT:TOk P cx.T){ro nt nm:Nat}{fn:FuncId}{g:Gh}{fr:PT}{H:Hp}{w:World}{o:Oper}{a:Act}{t t' e':TypeId}{S X:Operand}{tys:Array TypeId}{ty:TypeId}{cs:Array Bool}{args:Array Value}{ef:Eff}(hR:Rel g ro nt fr H a.tmps w)
  (ho:(execOp a.eval o).run P w=((do pure (.value (←Builtin.append_ tys ty args)):Sem Next)).run P w)
  (h1:tys[0]?=some t) (h2:tys[1]?=some t') (h3:args[0]?=some (a.eval S)) (h4:args[1]?=some (a.eval X)) (hu':P.underlying t'=some (.slice e'))
  (h:lAppend cx fn ro nm (o.dst.getD 0) fr H t S X=some ef):OpOk P ro g H w o a ef:=by
 have hm:=hR.mem
 have hx:=hR.eval (a:=a) X
 have run1:∀ {e s v w'},P.underlying t=some (.slice e)→a.eval S=s→(Builtin.append_ #[t,t] ty #[s,a.eval X]).run P w=.ok v w'→(execOp a.eval o).run P w=.ok (.value v) w':=by
  intro e s v w' hu hs hr
  subst hs
  rw[ho]
  simp only[Sem.run_bind,run_append_eq h1 h2 h3 h4 hu hu',hr,Result.andThen,Sem.run_pure]
 have hS:∀ {sz k els},raw fr S=.vec sz k els→(k=.own∧∃s,owner fr S=some s∧SR g w (.slot s) (.vec sz .own els) (a.eval S))∨(k≠.own∧owner fr S=none∧VR g.imm g.mu (.vec sz k els) (a.eval S)):=by
  intro sz k els hv
  cases hown:owner fr S with
  | none =>
   right
   rw[raw_ev hown]at hv
   have:=hR.eval (a:=a) S
   rw[hv]at this
   refine⟨?_,rfl,this⟩
   intro e;subst e;simp[VR]at this
  | some s =>
   left
   rw[raw_own hown]at hv
   obtain⟨rfl,sz',els',he⟩:=owner_spec hown
   rw[hv]at he
   cases he
   refine⟨rfl,s,rfl,?_⟩
   rcases hR.slots s with hd | ⟨v,e1,e2⟩
   ·rw[hd]at hv;cases hv
   ·rw[hv]at e2;rw[eval_tmp e1];exact e2
 have hlit:∀ {v},raw fr S=.lit v→a.eval S=v∧owner fr S=none:=by
  intro v hv
  cases hown:owner fr S with
  | none=>rw[raw_ev hown]at hv;have:=hR.eval (a:=a) S;rw[hv]at this;exact⟨VR_lit this,rfl⟩
  | some s=>rw[raw_own hown]at hv;obtain⟨_,_,_,he⟩:=owner_spec hown;rw[he]at hv;cases hv
 have value:∀ {ef:Eff},((aappend cx.T t H (raw fr S) (ev fr X)).map fun v=>({ v,un:=owner fr S,rd:=rdOf (ev fr X) }:Eff))=some ef→OpOk P ro g H w o a ef:=by
  intro ef h
  cases hap:aappend cx.T t H (raw fr S) (ev fr X) with
  | none=>rw[hap]at h;cases h
  | some v =>
   rw[hap]at h
   simp only[Option.map_some,Option.some.injEq]at h
   subst h
   have hun:∀t,owner fr S=some t→t<16000:=fun t ht=>hR.owner_lt ht
   unfold aappend at hap
   split at hap
   ·rename_i e _ ht
    have hu:=hT.slice ht rfl
    split at hap
    ·rename_i te hte
     obtain⟨i,z,i1,i2,i3,i4,i5⟩:=zc_size hT hte
     split at hap
     ·rename_i hxs
      have hxe:∃c b,a.eval X=.slice b 0 c:=by
       rcases items_ok hm hx hxs with⟨cap,h2,_⟩ | ⟨B,of,sp,cap,cs,h2,_,_⟩
       ·exact⟨_,_,h2⟩
       ·exact⟨_,_,h2⟩
      obtain⟨c,hxe⟩:=hxe
      split at hap
      ·rename_i hraw
       cases hap
       rw[hraw,(hlit hraw).2]
       obtain⟨hs,_⟩:=hlit hraw
       exact OpOk.pure hm ⟨_,run1 hu hs (run_append_none hu i1 (Nat.le_refl _) hxe),by simp[VR]⟩
      ·rename_i sz k els hraw
       cases hap
       rcases hS hraw with⟨hk,s,hs,hv⟩ | ⟨hk,hs,hv⟩
       ·subst hk
        obtain⟨g',X',hk'⟩:=hR.take (a:=a) hs (.slot (o.dst.getD 0))
        obtain⟨B,cap,cs,e1,e2,_⟩:=hv
        have:=run1 hu e1 (run_append_none (base:=some ⟨B,0,none⟩) (n:=els.length) hu i1 e2 hxe)
        rw[←e1]at this
        rw[hs,raw_own hs]
        exact rd_irrel (hk'.opOk (hR.owner_lt hs) this)
       ·rw[hs,hraw]
        have hv':=hv
        simp only[VR]at hv'
        obtain⟨B,of,sp,cap,cs,e1,_,_,_,e4,_⟩:=hv'
        refine OpOk.pure hm ⟨_,run1 hu e1 (run_append_none hu i1 e4 hxe),?_⟩
        rw[←e1];exact hv
      ·cases hap
     ·rename_i xs hnil hxs
      have hne:xs≠[]:=fun e=>hnil (by rw[←e])
      split at hap
      ·rename_i hraw
       split at hap
       ·rename_i hc
        cases hap
        obtain⟨cap,cs,rest,r1,r2,r3,r4⟩:=grow_nil (ty:=ty) hT hm hu hte hx hxs hne hc.2
        exact OpOk.ownNew hm hun (run1 hu (hlit hraw).1 r1) r2 r3 r4
       ·cases hap
      ·rename_i sz k els hraw
       split at hap
       ·rename_i hc
        obtain⟨c1,c2,c3,c4⟩:=hc
        subst c2
        cases hap
        have hpos:0<xs.length:=List.length_pos_iff.2 hne
        rcases hS hraw with⟨hk,s,hs,hv⟩ | ⟨hk,hs,hv⟩
        ·obtain⟨B,cap0,olds,e1,e2,e3,e4,e5,e6,ccs,e,e7,e8⟩:=hv
         rcases Nat.lt_or_ge cap0 (els.length+xs.length) with hg | hg
         ·obtain⟨cap,cs,rest,r1,r2,r3,r4⟩:=grow_some (ty:=ty) hT hm hu hte hx hxs hne (cap0:=cap0) e3 (seg_read hm (sp:=none) (cap:=0) (.inr rfl) (Or.inr rfl) e3 e4) hg c4
          exact OpOk.ownNew hm hun (run1 hu e1 r1) r2 r3 r4
         ·
          obtain⟨A,capx,cs,hxv,h2',h3',h4'⟩:=items_news hm hx hxs hne
          have hroom:els.length*i.size+cs.length≤ccs.size:=by
           rw[e8,h3',i3,←Nat.add_mul];exact Nat.mul_le_mul_right _ hg
          have hr:=run_append_room_cells (P:=P) w t ty _ i hu i1 B 0 els.length cap0 A xs.length capx cs (by rw[i3];exact h3') h4' (fun u hu=>h2'.ones u hu) hg
           (fun j hj=>cell_lt e7 (by omega)) (fun j hj=>frozen_of_cells e7 _)
          rw[←hxv]at hr
          have hrun:=run1 hu e1 hr
          simp only[Nat.zero_add,i3]at hrun
          have hol:=e3.length
          have k:Keeps g w { g with imm:=fun B' of=>if B'=B then (olds++cs)[of]? else g.imm B' of,ow:=fun B'=>if B'=B then some (.slot (o.dst.getD 0)) else g.ow B' } (w.setCells B (els.length*te.size) cs) (fun B'=>B'=B):=by
           refine⟨fun B' of v hv=>?_,.refl _ _,Nat.le_of_eq (size_setCells B _ _ _).symm,fun B' _ hB'=>⟨by simp[hB'],fun _=>by simp[hB'],heap_setCells_ne B _ _ _ (Ne.symm hB')⟩,out_setCells B 0 _ _ _⟩
           by_cases eB:B'=B
           ·subst eB
            simp only[if_true]
            rcases Nat.lt_or_ge of olds.length with hlt | hge
            ·rw[List.getElem?_append_left hlt]
             have hh:=e4 of _ (List.getElem?_eq_getElem hlt)
             rw[Nat.zero_add,hv]at hh
             rw[List.getElem?_eq_getElem hlt];exact hh.symm
            ·rw[e6 of (by omega)]at hv;cases hv
           ·simp[eB,hv]
          have hnm:∀b' B' s',g.mu b'=some (B',s')→B'≠B:=by
           intro b' B' s' hb' e
           subst e
           rcases Nat.lt_or_ge b' ro with hro | hro
           ·have:=hm.prot b' B' s' hro hb';rw[e5]at this;cases this
           ·have:=hm.free b' B' s' hro hb';rw[e5]at this;cases this
          have hcells:∀y,(w.setCells B (els.length*te.size) cs).cell? ⟨B,y,none⟩=if els.length*te.size≤y∧y<els.length*te.size+cs.length then cs[y-els.length*te.size]? else w.cell? ⟨B,y,none⟩ :=
           fun y=>cell_setCells e7 (by rw[←i3];exact hroom) y
          obtain⟨ccs',hcc',hsz'⟩:=heap_setCells_cells B cs (els.length*te.size) w e7
          refine⟨⟨_,_,_,_,_,hrun,.inl rfl,k,?_,?_,?_,?_,?_⟩,hun⟩
          ·refine hm.change k H.length ?_ rfl ?_ ?_ (fun _ _=>rfl) rfl ?_ ?_ ?_
           ·intro B' of v hv
            by_cases eB:B'=B
            ·subst eB
             simp only[if_true]at hv
             rw[hcells]
             rw[List.getElem?_append]at hv
             split at hv
             ·rename_i hlt
              rw[if_neg (by omega)]
              have hh:=e4 of v hv
              rw[Nat.zero_add]at hh
              exact hm.imm _ _ _ hh
             ·rename_i hge
              have hlt:=(List.getElem?_eq_some_iff.1 hv).1
              rw[if_pos (by omega),←hol];exact hv
            ·simp only[eB,if_false]at hv
             rw[cell_of_heap (heap_setCells_ne B _ _ _ (Ne.symm eB))]
             exact hm.imm B' of v hv
           ·intro B' l hl
            rw[size_setCells]
            by_cases eB:B'=B
            ·rw[eB];exact hm.owlt B _ e5
            ·simp only[eB,if_false]at hl;exact hm.owlt B' l hl
           ·intro b' B' s' hb';simp[hnm b' B' s' hb']
           ·intro b' B' s' _ hb' e;exact hnm b' B' s' hb' e
           ·intro b' B' i' j' _ hB' e;subst e;rw[e5]at hB';cases hB'
           ·intro blk hblk
            have hblk:H[H.length]?=some blk:=hblk
            simp at hblk
          ·intro t' B' hB' e;subst e;rw[e5]at hB';cases hB';exact hs
          ·intro B' l hB' hl e;subst e;rw[e5]at hB';cases hB';exact hl
          ·intro L lr e hl;subst e;rw[e7]at hl;cases hl
          ·refine⟨B,cap0,olds++cs,by simp,by simpa using hg,VRels.mono k.imm _ (Mu.le_refl _) (e3.append h2'),?_,by simp,?_,ccs',_,hcc',by rw[hsz'];exact e8⟩
           ·intro y v hv;simp only[Nat.zero_add,if_true];exact hv
           ·intro of hof
            simp only[if_true]
            rw[List.getElem?_eq_none]
            simp only[List.length_append,Nat.add_mul]at hof ⊢
            omega
        ·have hv':=hv
         simp only[VR]at hv'
         obtain⟨B,of,sp,cap0,olds,e1,e0,_,e3,e4,e5,e6⟩:=hv'
         have hkx:k=.exact:=by cases k<;>simp_all
         have hcap:=e3 hkx
         have hrd:=seg_read hm e0 (.inl (Nat.le_of_eq hcap.symm)) e5 e6
         obtain⟨cap,cs,rest,r1,r2,r3,r4⟩:=grow_some (ty:=ty) hT hm hu hte hx hxs hne (cap0:=cap0) e5 hrd (by omega) c4
         exact OpOk.ownNew hm hun (run1 hu e1 r1) r2 r3 r4
       ·cases hap
      ·cases hap
     ·cases hap
    ·cases hap
   ·cases hap
 unfold lAppend at h
 split at h
 ·
  split at h
  ·rename_i els sz e hap
   split at h
   ·cases h
   ·rename_i hf
    cases h
    unfold aappendB at hap
    split at hap
    ·rename_i e _ ht
     have hu:=hT.slice ht rfl
     split at hap
     ·rename_i te hte
      split at hap
      ·rename_i xs hxs
       split at hap
       ·rename_i hraw
        split at hap
        ·rename_i hc
         obtain⟨c1,c2,c3,c4⟩:=hc
         cases hap
         have hne:els≠[]:=by intro e;subst e;simp at c1
         obtain⟨cap,cs,rest,r1,r2,r3,r4⟩:=grow_nil (ty:=ty) hT hm hu hte hx hxs hne c4
         have:=run1 hu (hlit hraw).1 r1
         exact OpOk.laidB (ccs:=cs) (ti:=te) hm (not_false_true hf) w.drew (.inr rfl) cap r3 rest.toList (by rw[this,arr_app]) (VRels.mono (Imm.le_refl _) _ (noMu_le _) r2) (fun el hel=>List.all_eq_true.1 c2 el hel) rfl
        ·cases hap
       ·rename_i els0 hraw
        split at hap
        ·rename_i hc
         obtain⟨c1,c2,c3,c4,c5⟩:=hc
         cases hap
         have hne:xs≠[]:=by intro e;subst e;simp at c1
         rcases hS hraw with⟨hk,_⟩ | ⟨_,_,hv⟩
         ·cases hk
         ·simp only[VR]at hv
          obtain⟨B,of,sp,cap0,olds,e1,e0,_,e3,e4,e5,e6⟩:=hv
          have hrd:=seg_read hm e0 (.inl e4) e5 e6
          have hpos:0<xs.length:=List.length_pos_iff.2 hne
          have hcap:=e3 trivial
          rw[c3]at e5
          obtain⟨cap,cs,rest,r1,r2,r3,r4⟩:=grow_some (ty:=ty) hT hm hu hte hx hxs hne (cap0:=cap0) e5 hrd (by omega) c5
          have:=run1 hu e1 r1
          exact OpOk.laidB (ccs:=cs) (ti:=te) hm (not_false_true hf) w.drew (.inr rfl) cap r3 rest.toList (by rw[this,arr_app]) (VRels.mono (Imm.le_refl _) _ (noMu_le _) r2) (fun el hel=>List.all_eq_true.1 c2 el hel) rfl
        ·cases hap
       ·cases hap
      ·cases hap
     ·cases hap
    ·cases hap
  ·exact value h
 ·exact value h
variable {P:Program} {T:TypeId→Option TI} {imm:Imm} {mu:Mu}
theorem VRels.flat{te:TI}:∀ {l:List AV} {cs:List Value},VRels imm mu te.size l cs→(∀el∈l,fit te el=true)→VRs imm mu (l.flatMap cellsOf) cs
 | [],cs,h,_=>by simp[VRels]at h;subst h;simp[VRs]
 | a::as,cs,h,hf=>by
  simp only[VRels]at h
  obtain⟨c,cs',rfl,h2,h3,h4,h5⟩:=h
  rw[List.flatMap_cons]
  exact(VR_cellsOf (hf a (by simp)) h4).append (VRels.flat h5 fun el hel=>hf el (by simp[hel]))
theorem lCopy_ok(hT:TOk P T){ro:Nat}{g:Gh}{H:Hp}{w:World}{o:Oper}{a:Act}{t:TypeId}{x y:AV}{X Y:Value}{tys:Array TypeId}{ty:TypeId}{args:Array Value}{ef:Eff}(hm:MR g ro H w)
  (ho:(execOp a.eval o).run P w=((do pure (.value (←Builtin.copy_ tys ty args)):Sem Next)).run P w)
  (h1:tys[0]?=some t) (h3:args[0]?=some X) (h4:args[1]?=some Y) (hx:VR g.imm g.mu x X) (hy:VR g.imm g.mu y Y) (h:lCopy T ro H t x y=some ef):OpOk P ro g H w o a ef:=by
 unfold lCopy at h
 split at h
 ·rename_i n b blk hc
  split at h
  ·cases h
  ·rename_i hn
   have hro:ro≤b:=Nat.le_of_not_lt fun e=>hn (.inl e)
   cases h
   unfold acopy at hc
   split at hc
   ·rename_i e _ b0 i j esz len ht
    have hu:=hT.slice ht rfl
    split at hc
    ·rename_i te hte
     split at hc
     ·rename_i hsz
      split at hc
      ·rename_i xs sz el els hxs hb
       split at hc
       ·rename_i l hel
        simp only at hc
        split at hc
        ·rename_i hcond
         obtain⟨hlen,hall⟩:=hcond
         cases hc
         have hall':∀el∈xs,fit te el=true:=List.all_eq_true.1 hall
         simp only[VR]at hx
         obtain⟨B,sz0,hmu,rfl⟩:=hx
         subst hsz
         have hsrc:∃cs:List Value,VRels g.imm g.mu te.size xs cs∧(Builtin.lenOf Y).run P w=.ok xs.length w∧(Builtin.firstCells te.size (min xs.length len) Y).run P w=.ok (cs.take (min xs.length len*te.size)).toArray w:=by
          rcases items_ok hm hy hxs with⟨cap,rfl,rfl⟩ | ⟨Bs,os,sp,cap,cs,rfl,h0,h5,h6⟩
          ·exact⟨[],by simp[VRels],rfl,by simp[Builtin.firstCells]⟩
          ·refine⟨cs,VRels.mono (Imm.le_refl _) _ (noMu_le _) h5,rfl,?_⟩
           refine run_firstCells_some w te.size _ _ _ _ (cs.take (min xs.length len*te.size)) ?_ fun k v hk=>?_
           ·rw[List.length_take,h5.length]
            exact Nat.min_eq_left (Nat.mul_le_mul_right _ (Nat.min_le_left _ _))
           ·rw[List.getElem?_take]at hk
            split at hk
            ·have hl:xs.length≠0:=fun h=>by
              have:=(List.getElem?_eq_some_iff.1 hk).1
              rw[h5.length,h]at this;omega
             obtain rfl:sp=none:=h0.resolve_left hl
             rw[addr_add];exact h6 k v hk
            ·cases hk
         obtain⟨cs,s1,s2,s3⟩:=hsrc
         have s4:=(s1.take (min xs.length len)).flat (te:=te) fun el hel=>hall' el (List.mem_of_mem_take hel)
         have s5:(cs.take (min xs.length len*te.size)).length=min xs.length len*te.size:=by
          rw[List.length_take,s1.length]
          exact Nat.min_eq_left (Nat.mul_le_mul_right _ (Nat.min_le_left _ _))
         have s6:((xs.take (min xs.length len)).flatMap cellsOf).length=min xs.length len*te.size:=by rw[←s4.length,s5]
         have hset:elSet { size:=min xs.length len*te.size,bytes:=0,zero:=[],agg:=true,d:=.other,eqp:=none } (.agg l) j (.agg ((xs.take (min xs.length len)).flatMap cellsOf)) =
           some (.agg (l.take j++(xs.take (min xs.length len)).flatMap cellsOf++l.drop (j+min xs.length len*te.size))):=by
          simp[elSet,fit,s6,hlen,cellsOf]
         have hsr:SR g w (.cell b i j) (.agg ((xs.take (min xs.length len)).flatMap cellsOf)) (.agg (cs.take (min xs.length len*te.size)).toArray):=by
          refine VR.sr ?_
          simp only[VR]
          exact⟨_,rfl,s4,fun y hy=>s1.ones y (List.mem_of_mem_take hy)⟩
         obtain⟨B',w',k1,k2,k3,k4,k5,k6,k7⟩:=write_ok (P:=P) hm hro hb hel hset hsr
         rw[hmu]at k1;cases k1
         refine⟨⟨goInt ((min xs.length len:Nat):Int),_,w',g,fun B'=>B'=B,?_,.inl rfl,k3,?_,?_,?_,?_,?_⟩,fun t ht=>by cases ht⟩
         ·rw[ho]
          have hs:=hT.run_size hte w
          have hmin:Nat.min xs.length len=min xs.length len:=rfl
          simp only[Builtin.copy_,h1,h3,h4,Sem.run_bind,run_underlying_of hu,Result.andThen,s2,hs,hmin,s3,Sem.run_pure]
          have:(storeCells ⟨B,i*sz+j,none⟩ (cs.take (min xs.length len*te.size))).run P w=.ok () w':=by simpa [Value.cells] using k2
          simp only[this,Sem.run_bind,Result.andThen,Sem.run_pure]
         ·have hpb:∀blk,putB H (some (b,blk))=H.set b blk:=fun blk=>by simp only[putB];rw[if_neg (by have:=lt_of_get hb;omega)]
          show MR g ro (putB H (some (b,_))) w'
          rw[hpb];exact k4
         ·intro t B' hB' e;subst e;rw[k5]at hB';cases hB'
         ·intro B' l hB' hl e;subst e;rw[k5]at hB';cases hB'
         ·intro L lr e hl;subst e;obtain⟨ccs,e,hc⟩:=k6;rw[hc]at hl;cases hl
         ·exact VR.sr (by simp[VR,goInt])
        ·cases hc
       ·cases hc
      ·cases hc
     ·cases hc
    ·cases hc
   ·cases hc
 ·cases h
theorem forIn_all{α:Type}{w:World}:∀(l:List α)(f:α→PUnit→Sem (ForInStep PUnit)),(∀x∈l,(f x ⟨⟩).run P w=.ok (.yield ⟨⟩) w)→(forIn l (⟨⟩:PUnit) f).run P w=.ok ⟨⟩ w
 | [],f,h=>rfl
 | x::l,f,h=>by
  rw[List.forIn_cons]
  simp only[Sem.run_bind,h x (by simp),Result.andThen]
  exact forIn_all l f fun y hy=>h y (by simp[hy])
theorem forIn_all'{α:Type}{w:World}(l:List α)(f:α→PUnit→Sem (ForInStep PUnit))(h:∀x∈l,(f x ⟨⟩).run P w=.ok (.yield ⟨⟩) w):
  Result.andThen ((forIn l (⟨⟩:PUnit) f).run P w) (fun a w=>(pure ():Sem Unit).run P w)=.ok () w:=by
 rw[forIn_all l f h];rfl
def ChOk(P:Program)(n:Nat)(t:TypeId)(len:Nat):Prop :=
 ∃u,P.underlying t=some u∧(isAggD u=true∨len=1)∧∀(w:World)(em:Bool)(d:Nat),n≤d→∀xs:List Value,xs.length=len→(Instr.checkKey em d t (partV (isAggD u) xs)).run P w=.ok () w
theorem chFields(n:Nat)(hrec:∀t ks,plainKinds P n t=some ks→ChOk P n t ks.length)(xs:List Value)(em:Bool)(d:Nat)(hd:n≤d)(w:World):∀(fs:List Field)(acc ks:List Bool),
  plainKinds.plainFields P (plainKinds P n) fs acc=some ks→ks.length=xs.length→acc.length≤ks.length∧∀f∈fs,f.name ≠ "_" ∧ ∃v,(part f.type xs.toArray f.offset).run P w=.ok v w∧(Instr.checkKey em d f.type v).run P w=.ok () w
 | [],acc,ks,h,hl=>by
  simp only[plainKinds.plainFields,Option.some.injEq]at h
  subst h
  exact⟨Nat.le_refl _,by simp⟩
 | f::fs,acc,ks,h,hl=>by
  simp only[plainKinds.plainFields]at h
  split at h
  ·rename_i kf hkf
   split at h
   ·rename_i hc
    obtain⟨hc1,hc2,hc3⟩:=hc
    obtain⟨u,hu,hagg,hok⟩:=hrec _ _ hkf
    obtain⟨h1,h2⟩:=chFields n hrec xs em d hd w fs (acc++kf) ks h hl
    simp only[List.length_append]at h1
    refine⟨by omega,fun g hg=>?_⟩
    rcases List.mem_cons.1 hg with rfl | hg
    ·refine⟨hc1,_,run_part (w:=w) hu hc3 hagg xs.toArray g.offset (by simp;omega),?_⟩
     refine hok w em d hd _ ?_
     simp;omega
    ·exact h2 g hg
   ·cases h
  ·cases h
theorem checkKey_ok:∀(n:Nat)(t:TypeId)(ks:List Bool),plainKinds P n t=some ks→ChOk P n t ks.length
 | 0,t,ks,h=>by simp[plainKinds]at h
 | n+1,t,ks,h=>by
  simp only[plainKinds]at h
  split at h
  ·rename_i hu
   simp only[Option.some.injEq]at h;subst h
   refine⟨_,hu,.inr rfl,fun w em d hd xs hx=>?_⟩
   obtain⟨d,rfl⟩:∃m,d=m+1:=⟨d-1,by omega⟩
   simp only[Instr.checkKey,Sem.run_bind,run_underlying_of hu,Result.andThen]
   rfl
  ·rename_i k hu
   simp only[Option.some.injEq]at h;subst h
   refine⟨_,hu,.inr rfl,fun w em d hd xs hx=>?_⟩
   obtain⟨d,rfl⟩:∃m,d=m+1:=⟨d-1,by omega⟩
   simp only[Instr.checkKey,Sem.run_bind,run_underlying_of hu,Result.andThen]
   rfl
  ·rename_i fs hu
   split at h
   ·cases h
   ·rename_i hst
    refine⟨_,hu,.inl rfl,fun w em d hd xs hx=>?_⟩
    obtain⟨d,rfl⟩:∃m,d=m+1:=⟨d-1,by omega⟩
    obtain⟨_,h2⟩:=chFields n (checkKey_ok n) xs em d (by omega) w fs.toList [] ks h hx.symm
    simp only[isAggD,partV,if_true,Instr.checkKey,Sem.run_bind,run_underlying_of hu,Result.andThen]
    rw[←Array.forIn_toList]
    refine forIn_all' fs.toList _ fun f hf=>?_
    obtain⟨h3,v,h4,h5⟩:=h2 f hf
    simp only[ne_eq,h3,not_false_eq_true,if_true,Sem.run_bind,h4,Result.andThen,h5,Sem.run_pure]
  ·rename_i len e hu
   split at h
   ·rename_i kf hkf
    split at h
    ·rename_i hc
     simp only[Option.some.injEq]at h;subst h
     obtain⟨u,hue,hagg,hok⟩:=checkKey_ok n e kf hkf
     refine⟨_,hu,.inl rfl,fun w em d hd xs hx=>?_⟩
     obtain⟨d,rfl⟩:∃m,d=m+1:=⟨d-1,by omega⟩
     have hi:∃i,P.info? e=some i:=by
      have:=hue
      unfold Program.underlying at this
      split at this
      ·exact⟨_,by assumption⟩
      ·exact⟨_,by assumption⟩
      ·cases this
     obtain⟨i,hi⟩:=hi
     have hsz:i.size=kf.length:=by rw[←hc];simp[Program.cellsOf,hi]
     simp only[List.length_flatten,List.map_replicate,List.sum_replicate_nat]at hx
     simp only[isAggD,partV,if_true,Instr.checkKey,Sem.run_bind,run_underlying_of hu,Result.andThen]
     rw[Std.Legacy.Range.forIn_eq_forIn_range',show List.range' ([:len]:Std.Legacy.Range).start ([:len]:Std.Legacy.Range).size ([:len]:Std.Legacy.Range).step=List.range' 0 len 1 from by simp[Std.Legacy.Range.size]]
     refine forIn_all' _ _ fun k hk=>?_
     have hk':k<len:=by simpa using hk
     have hmul:(k+1)*kf.length≤len*kf.length:=Nat.mul_le_mul_right _ hk'
     rw[Nat.add_mul]at hmul
     have hp:=run_part (w:=w) hue hc hagg xs.toArray (k*kf.length) (by simp;omega)
     have hck:=hok w em d (by omega) ((xs.toArray.toList.drop (k*kf.length)).take kf.length) (by simp;omega)
     simp only[Sem.run_bind,sizeOf,typeInfo,run_program,hi,hsz,Sem.run_pure,Result.andThen,hp,hck]
    ·cases h
   ·cases h
  ·cases h
def MFR(g:Gh):Option (Nat×AV)→Option (Nat×Value)→Prop
 | none,r=>r=none
 | some (i,v),r=>∃u,r=some (i,u)∧VR g.imm noMu v u
theorem findA{kd:IntKind}{kt:TypeId}{g:Gh}{c:Value}:∀ {es:List (AV×AV)} {mes:List MapEntry} {i:Nat} {r:Option (Nat×AV)},MapR g es mes→mfind T kt (.lit c) es i=some r→
  (es≠[]→∃n m,c=.int n m)∧∃r',Instr.findNow (.int kd) c mes i=some r'∧MFR g r r'∧∀j u,r'=some (j,u)→i≤j∧∃e,mes[j-i]?=some e∧e.key=c
 | [],mes,i,r,hm,h=>by
  simp only[MapR]at hm;subst hm
  simp only[mfind,Option.some.injEq]at h;subst h
  exact⟨fun h=>absurd rfl h,none,rfl,rfl,fun j u h=>by cases h⟩
 | (k',v)::es,mes,i,r,hm,h=>by
  simp only[MapR]at hm
  obtain⟨e,mes',rfl,h1,h2,h3⟩:=hm
  unfold mfind at h
  have hk:∀b,keyEq T kt (.lit c) k'=some b→∃k n m,c=.int k n∧e.key=.int k m∧b=(n == m):=by
   intro b hb
   cases k' with
   | lit b' =>
    simp only[keyEq]at hb
    split at hb
    ·rcases cellEq_spec hb with⟨_,k,n,m,rfl,rfl,rfl⟩ | ⟨h,_⟩
     ·exact⟨k,n,m,rfl,VR_lit h1,rfl⟩
     ·cases h
    ·cases hb
   | _=>simp[keyEq]at hb
  split at h
  ·rename_i hb
   cases h
   obtain⟨k,n,m,rfl,he,hnm⟩:=hk _ hb
   have hnm:n=m:=by simpa using hnm.symm
   subst hnm
   refine⟨fun _=>⟨_,_,rfl⟩,some (i,e.val),?_,⟨_,rfl,h2⟩,fun j u hj=>?_⟩
   ·simp[Instr.findNow,Instr.sameNow,he]
   ·cases hj;exact⟨Nat.le_refl _,e,by simp,he⟩
  ·rename_i hb
   obtain⟨k,n,m,rfl,he,hnm⟩:=hk _ hb
   obtain⟨_,r',h4,h5,h6⟩:=findA (kd:=kd) h3 h
   refine⟨fun _=>⟨_,_,rfl⟩,r',?_,h5,fun j u hj=>?_⟩
   ·simp[Instr.findNow,Instr.sameNow,he,←hnm,h4]
   ·obtain⟨a1,e',a2,a3⟩:=h6 j u hj
    exact⟨by omega,e',by rw[show j-i=(j-(i+1))+1 by omega];simpa using a2,a3⟩
  ·cases h
theorem cellsEqV_true:∀ {ks:List Bool} {as bs:List Value},cellsEqV ks as bs=some true→as=bs∧∀x∈as,(∃k m,x=.int k m)∨∃b,x=.bool b
 | [],[],[],_=>⟨rfl,by simp⟩
 | t::ks,a::as,b::bs,h=>by
  simp only[cellsEqV]at h
  split at h
  ·rename_i x y hx hy
   simp only[Option.some.injEq,Bool.and_eq_true]at h
   obtain⟨rfl,rfl⟩:=h
   obtain⟨rfl,h2⟩:=cellsEqV_true hy
   rcases cellEq_spec hx with⟨_,k,n,m,rfl,rfl,h3⟩ | ⟨_,n,m,rfl,rfl,h3⟩
   ·have h3:n=m:=by simpa using h3.symm
    subst h3
    exact⟨rfl,fun x hx=>by
     rcases List.mem_cons.1 hx with rfl | hx
     ·exact .inl ⟨_,_,rfl⟩
     ·exact h2 x hx⟩
   ·have h3:n=m:=by simpa using h3.symm
    subst h3
    exact⟨rfl,fun x hx=>by
     rcases List.mem_cons.1 hx with rfl | hx
     ·exact .inr ⟨_,rfl⟩
     ·exact h2 x hx⟩
  ·cases h
 | [],_::_,_,h=>by simp[cellsEqV]at h
 | [],[],_::_,h=>by simp[cellsEqV]at h
 | _::_,[],_,h=>by simp[cellsEqV]at h
 | _::_,_::_,[],h=>by simp[cellsEqV]at h
theorem findB(hT:TOk P T){w:World}{kt:TypeId}{ti:TI}{ks:List Bool}(ht:T kt=some ti)(hq:ti.eqp=some ks){g:Gh}{l:List AV}{cs:List Value}(hl:VRs g.imm g.mu l cs):
  ∀ {es:List (AV×AV)} {mes:List MapEntry} {i:Nat} {r:Option (Nat×AV)},MapR g es mes→mfind T kt (.agg l) es i=some r→
  ∃r',(Instr.findAsking kt (.agg cs.toArray) mes i).run P w=.ok r' w∧MFR g r r'∧(∀e∈mes.head?,∃cs',e.key=.agg cs')∧∀j u,r'=some (j,u)→i≤j∧∃e,mes[j-i]?=some e∧e.key=.agg cs.toArray∧∀x∈cs,(∃k m,x=.int k m)∨∃b,x=.bool b
 | [],mes,i,r,hm,h=>by
  simp only[MapR]at hm;subst hm
  simp only[mfind,Option.some.injEq]at h;subst h
  exact⟨none,rfl,rfl,by simp,fun j u h=>by cases h⟩
 | (k',v)::es,mes,i,r,hm,h=>by
  simp only[MapR]at hm
  obtain⟨e,mes',rfl,h1,h2,h3⟩:=hm
  unfold mfind at h
  have hk:∀b,keyEq T kt (.agg l) k'=some b→∃cs',e.key=.agg cs'.toArray∧cellsEqV ks cs cs'=some b:=by
   intro b hb
   cases k' with
   | agg b' =>
    simp only[keyEq]at hb
    rw[ht]at hb
    have:cellsEq ks l b'=some b:=by
     split at hb
     ·rename_i ks' heq2
      cases heq2
      simp only[Option.some.injEq]at hq
      subst hq;exact hb
     ·cases hb
    have h1:=VR.mono (Imm.le_refl _) _ (noMu_le g.mu) h1
    simp only[VR]at h1
    obtain⟨cs',h4,h5,_⟩:=h1
    exact⟨cs',h4,cellsEq_V hl h5 this⟩
   | _=>simp[keyEq]at hb
  split at h
  ·rename_i hb
   cases h
   obtain⟨cs',he,hc⟩:=hk _ hb
   have hr:=(run_equal_agg hT ht hq hc w).1
   obtain⟨rfl,h5⟩:=cellsEqV_true hc
   refine⟨some (i,e.val),?_,⟨_,rfl,h2⟩,by simp[he],fun j u hj=>?_⟩
   ·simp[Instr.findAsking,he,hr,Result.andThen]
   ·cases hj;exact⟨Nat.le_refl _,e,by simp,he,h5⟩
  ·rename_i hb
   obtain⟨cs',he,hc⟩:=hk _ hb
   have hr:=(run_equal_agg hT ht hq hc w).1
   obtain⟨r',h4,h5,_,h6⟩:=findB hT ht hq hl h3 h
   refine⟨r',?_,h5,by simp[he],fun j u hj=>?_⟩
   ·simp[Instr.findAsking,he,hr,Result.andThen];exact h4
   ·obtain⟨a1,e',a2,a3⟩:=h6 j u hj
    exact⟨by omega,e',by rw[show j-i=(j-(i+1))+1 by omega];simpa using a2,a3⟩
  ·cases h
theorem sameBits_self{x:Value}(h:(∃k m,x=.int k m)∨∃b,x=.bool b)(n:Nat):Instr.sameBits n x x=true:=by
 rcases h with⟨k,m,rfl⟩ | ⟨b,rfl⟩<;>simp[Instr.sameBits]
theorem checkKey_int{w:World}{kt:TypeId}{kd:IntKind}(hu:P.underlying kt=some (.int kd))(em:Bool)(d:Nat)(n:IntKind)(m:Int):(Instr.checkKey em (d+1) kt (.int n m)).run P w=.ok () w:=by
 simp only[Instr.checkKey,Sem.run_bind,run_underlying_of hu,Result.andThen];rfl
theorem find_ok(hT:TOk P T){w:World}{kt:TypeId}{g:Gh}{k:AV}{c:Value}{es:List (AV×AV)}{mes:Array MapEntry}{r:Option (Nat×AV)}(em:Bool)(hk:VR g.imm g.mu k c)(hok:keyOk T kt k=true)(hm:MapR g es mes.toList)(h:mfind T kt k es 0=some r):
  (Instr.checkKey em 10000 kt c).run P w=.ok () w∧∃r',(Instr.findKey kt c mes.toList).run P w=.ok r' w∧MFR g r r'∧∀j u,r'=some (j,u)→(Instr.keyThatStays (((mes[j]?).map (·.key)).getD c) c).run P w=.ok c w:=by
 unfold keyOk at hok
 split at hok
 ·rename_i n m
  split at hok
  ·rename_i kd _ ht
   have hu:=hT.int ht rfl
   have hc:=VR_lit hk
   subst hc
   obtain⟨_,r',h1,h2,h3⟩:=findA (kd:=kd) hm h
   refine⟨checkKey_int hu em 9999 n m,r',MapKept.run_findKey hu h1,h2,fun j u hj=>?_⟩
   obtain⟨_,e,h4,h5⟩:=h3 j u hj
   have h4:mes[j]?=some e:=by simpa using h4
   simp only[h4,Option.map_some,Option.getD_some,h5,Instr.keyThatStays,sameBits_self (.inl ⟨n,m,rfl⟩),if_true,Sem.run_pure]
  ·cases hok
 ·rename_i l
  split at hok
  ·rename_i ks ht
   simp only[beq_iff_eq]at hok
   simp only[VR]at hk
   obtain⟨cs,rfl,h1,_⟩:=hk
   obtain⟨i0,z0,u,_,_,hu,_,_,_,_,_,hq,_⟩:=hT.info ht
   simp only at hq
   split at hq
   ·rename_i hag
    simp only[Bool.and_eq_true]at hag
    obtain⟨u',hu',_,hck⟩:=checkKey_ok 20 kt ks hq.symm
    rw[hu]at hu';cases hu'
    have hck:=hck w em 10000 (by omega) cs (by rw[hok];exact h1.length)
    rw[show partV (isAggD u) cs=.agg cs.toArray by simp[partV,hag.1]]at hck
    obtain⟨r',h2,h3,h4,h5⟩:=findB (w:=w) hT ht rfl h1 hm h
    refine⟨hck,r',?_,h3,fun j u hj=>?_⟩
    ·cases hmes:mes.toList with
     | nil =>
      rw[hmes]at h2
      simp only[Instr.findAsking,Sem.run_pure,Result.ok.injEq,and_true]at h2
      simp[Instr.findKey,run_underlying_of hu,Result.andThen,Instr.findNow,←h2]
     | cons e es' =>
      rw[hmes]at h2
      obtain⟨cs',he⟩:=h4 e (by simp[hmes])
      have:Instr.findNow u (.agg cs.toArray) (e::es') 0=none:=by
       simp only[Instr.findNow,he]
       cases u<;>simp[Instr.sameNow]
      simp only[Instr.findKey,Sem.run_bind,run_underlying_of hu,Result.andThen,this,h2]
    ·obtain⟨_,e,h6,h7,h8⟩:=h5 j u hj
     have h6:mes[j]?=some e:=by simpa using h6
     have hsb:Instr.sameBits 10000 (.agg cs.toArray) (.agg cs.toArray)=true:=by
      have aux:∀(l:List Value),(∀x∈l,(∃k m,x=.int k m)∨∃b,x=.bool b)→((l.zip l).all fun (x,y)=>Instr.sameBits 9999 x y)=true:=by
       intro l
       induction l with
       | nil=>intro _;rfl
       | cons x l ih =>
        intro hl
        simp only[List.zip_cons_cons,List.all_cons,Bool.and_eq_true]
        exact⟨sameBits_self (hl x (by simp)) _,ih fun y hy=>hl y (by simp[hy])⟩
      have:=aux cs h8
      show (cs.toArray.size == cs.toArray.size&&(cs.toArray.toList.zip cs.toArray.toList).all fun (x,y)=>Instr.sameBits 9999 x y)=true
      simpa using this
     simp only[h6,Option.map_some,Option.getD_some,h7,Instr.keyThatStays,hsb,if_true,Sem.run_pure]
   ·cases hq
  ·cases hok
 ·cases hok
end Go.Abs
