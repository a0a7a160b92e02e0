/- Classes: class.Of, a table's classes laid. -/
import Derived.Test.YtiinagmombigpaaWkB
import Derived.Test.YtiinagmombigpaaFnB
import Derived.Test.YtiinagmombigpaaWkA
set_option linter.unnecessarySimpa false
set_option linter.unusedSimpArgs false
set_option linter.unusedVariables false
namespace Go.Abs.Tab
open Go.Gr
structure Cl where
 kd:Int
 du:Int
 ch:Bool
 py:Int×Int
 nx:List (Int×Int)
 w:AV
abbrev clW(x:Cl):AV:=clsV x.kd x.du x.ch x.py x.w
def ClOk(x:Cl):Prop:=Sl 2 x.w (x.nx.map ed)
def clZ:Cl:=⟨0,0,false,(0,0),[],.lit (.slice none 0 0)⟩
theorem clZ_ok:ClOk clZ:=.inr (.inr ⟨rfl,rfl⟩)
structure IsCl(T:List Nd)(ats:List (Int×Int))(ofs:List Nat)(n:Nat)(z:Cl)(j:Nat):Prop where
 kd:z.kd=(nodeAt T ats j).kind
 du:z.du=(ofs.getD ((j+n) % T.length) 0:Int)
 ch:z.ch=(nodeAt T ats j).chan
 py:z.py=payE T ats ofs (nodeAt T ats j)
 nx:z.nx=nxL T ats ofs (nodeAt T ats j)
def prE(y:Nd)(o:Int):Int:=if y.kind=0 then 0 else wrapK .i64 (y.prio+o)
def prI(T:List Nd)(ats:List (Int×Int))(i:Nat):Int:=prE (nodeAt T ats i) (ats.getD i (0,0)).2
structure ClsI(T:List Nd)(ats:List (Int×Int))(ofs:List Nat)(n M i:Nat)(cls:List Cl):Prop where
 len:cls.length=M
 ok:∀x∈cls,ClOk x
 at':∀j,j<i→∃z j',j'<i∧ofs.getD j' 0=ofs.getD j 0∧cls[ofs.getD j 0]?=some z∧IsCl T ats ofs n z j'
theorem ClsI.set{T:List Nd}{ats:List (Int×Int)}{ofs:List Nat}{n M i:Nat}{cls:List Cl}(h:ClsI T ats ofs n M i cls)(hM:ofs.getD i 0<M){z:Cl}(hz:ClOk z)(hi:IsCl T ats ofs n z i):ClsI T ats ofs n M (i+1) (cls.set (ofs.getD i 0) z):=by
 refine⟨by rw[List.length_set,h.len],fun x hx=>?_,fun j hj=>?_⟩
 ·rcases List.mem_or_eq_of_mem_set hx with hx | rfl
  ·exact h.ok x hx
  ·exact hz
 ·by_cases e:ofs.getD j 0=ofs.getD i 0
  ·exact⟨z,i,by omega,e.symm,by rw[e,List.getElem?_set_self (by rw[h.len];exact hM)],hi⟩
  ·have hji:j<i:=by
    by_cases h':j=i
    ·subst h';exact absurd rfl e
    ·omega
   obtain⟨z',j',h1,h2,h3,h4⟩:=h.at' j hji
   exact⟨z',j',by omega,h2,by rw[List.getElem?_set_ne (fun h=>e h.symm)];exact h3,h4⟩
abbrev tB(cv ov pv:AV):ABlock:=.cells 3 95 [.agg [cv,ov,pv]]
structure LaH(G:Hp)(m c M:Nat)(tv av ov pv:AV)(T:List Nd)(ats:List (Int×Int))(ofs:List Nat)(cls:List Cl)(prs:List Int):Prop where
 len:G.length=m
 t:G[0]?=some (tB (.sl c 6 0 M M) ov pv)
 P:PtOk G 1 tv av ov T ats ofs
 c:G[c]?=some (.cells 6 111 (cls.map clW))
 p:Grow 1 pv (prs.map iv)
structure LaF(fr:PT)(a av:AV)(N i:Nat):Prop where
 f0:fr.get 0=a
 f2:fr.get 2=.ptr 0 0 0
 f4:fr.get 4=.ptr 1 0 0
 f77:fr.get 77=shr av
 f78:fr.get 78=iv N
 f79:fr.get 79=iv i
theorem LaF.of{fr fr':PT}{a av:AV}{N i:Nat}(F:LaF fr a av N i)(h:∀t,(t=0∨t=2∨t=4∨t=77∨t=78∨t=79)→fr'.get t=fr.get t):LaF fr' a av N i :=
 ⟨by rw[h 0 (by simp),F.f0],by rw[h 2 (by simp),F.f2],by rw[h 4 (by simp),F.f4],by rw[h 77 (by simp),F.f77],by rw[h 78 (by simp),F.f78],by rw[h 79 (by simp),F.f79]⟩
theorem clW_kill{cls:List Cl}(h:∀x∈cls,ClOk x)(m:Nat):killB m (.cells 6 111 (cls.map clW))=.cells 6 111 (cls.map clW):=by
 show ABlock.cells 6 111 ((cls.map clW).map (kill1 m))=_
 rw[List.map_map]
 congr 1
 refine List.map_congr_left fun x hx=>?_
 have hw:=h x hx
 show AV.agg [iv x.kd,iv x.du,bv x.ch,iv x.py.1,iv x.py.2,kill0 m x.w]=_
 rw[kill0_Sl hw]
theorem grow1_kill0{v:AV}{sz:Nat}{L:List AV}(h:Grow sz v L)(m:Nat):kill0 m v=v:=by
 rcases h with rfl | ⟨rfl,_⟩<;>rfl
theorem tB_kill{c M m:Nat}(hc:c<m){ov pv:AV}{L L':List AV}(ho:Sl 1 ov L)(hp:Grow 1 pv L'):killB m (tB (.sl c 6 0 M M) ov pv)=tB (.sl c 6 0 M M) ov pv:=by
 show ABlock.cells 3 95 [.agg [(if c<m then AV.sl c 6 0 M M else .dead),kill0 m ov,kill0 m pv]]=_
 rw[if_pos hc,kill0_Sl ho,grow1_kill0 hp]
theorem adr93{c M k:Nat}(h:k<M):aindexAddr cx.T 93 (.sl c 6 0 M M) (iv k)=some (.ptr c k 0):=by rw[aindexAddr_blk sl93 rfl h,Nat.zero_add]
theorem cls_at{cls:List Cl}{k:Nat}(h:k<cls.length):∃z,cls[k]?=some z∧(cls.map clW)[k]?=some (clW z):=by
 obtain⟨z,hz⟩:∃z,cls[k]?=some z:=⟨_,List.getElem?_eq_getElem h⟩
 exact⟨z,hz,by rw[List.getElem?_map,hz];rfl⟩
theorem elS_cls(x:Cl)(k d:Int)(c:Bool)(p:Int×Int)(w:AV):elS true 6 (clW x) 0 (clsV k d c p w)=some (clsV k d c p w):=elS_whole rfl rfl
theorem lay_round{a:AV}{ns:List Nd}(hns:NsOk ns a){m c M:Nat}(hc:2≤c)(hcm:c<m){tv av ov pv:AV}{T:List Nd}{ats:List (Int×Int)}{ofs:List Nat}(W:PtWf T ats ofs)(hT:T.length≤200)(hn:ns.length≤100)(hM:∀j,j<T.length→ofs.getD j 0<M){i:Nat}(hi:i<T.length){cls:List Cl}{prs:List Int}(hpl:prs.length=i)
  {fr:PT} {G:Hp} (H:LaH G m c M tv av ov pv T ats ofs cls prs) (K:ClsI T ats ofs ns.length M i cls) (F:LaF fr a av T.length i):
  ∃fr' G' pv' cls',ex cx D 0 73 137 (.block 6 (.seq (.region 19 g73_19 false) (.seq (.region 20 g73_20 true) (.seq (.seq (.region 21 g73_21 false) (.cond (.tmp 94) (.region 22 g73_22 false) .skip)) (.seq (.region 23 g73_23 false) (.region 24 g73_24 true)))))) fr G=some (.normal,fr',G')∧LaF fr' a av T.length i∧
   m≤G'.length∧G'[0]?=some (tB (.sl c 6 0 M M) ov pv')∧PtOk G' 1 tv av ov T ats ofs∧G'[c]?=some (.cells 6 111 (cls'.map clW))∧Grow 1 pv' ((prs++[prI T ats i]).map iv)∧ClsI T ats ofs ns.length M (i+1) cls':=by
 obtain⟨q,o,hq,hx,hmx⟩:=at_node W hi
 have hok:=H.P.n.ok _ hmx
 have hpr:prI T ats i=prE (nodeAt T ats i) o:=by unfold prI;rw[hq]
 rw[hpr]
 generalize hX:nodeAt T ats i=x at *
 have sx:Sl 2 x.nx (x.es.map ed):=hok
 have hlen:=H.len
 have hss:shr (shr av)=shr av:=H.P.a.shr
 have a1:aindexAddr cx.T 114 (shr av) (iv i)=some (.vp (tyV ((q:Int),o)) 0):=by rw[aindexAddr_sl H.P.a sl114 (by rw[List.length_map,W.la];exact hi) rfl,get_ty (by rw[W.la];exact hi),hq]
 have a2:=H.P.n.at hx
 have d0:¬0=m:=by omega
 have d1:¬1=m:=by omega
 have d2:∀j,¬1=m+j:=fun j=>by omega
 have d3:∀j,¬0=m+j:=fun j=>by omega
 have t0:∀L,(G++L)[0]?=some (tB (.sl c 6 0 M M) ov pv):=fun L=>by rw[hp_get_l (lt_of_get H.t),H.t]
 have t1:∀L,(G++L)[1]?=some (pB tv av ov):=fun L=>by rw[hp_get_l (lt_of_get H.P.b),H.P.b]
 obtain⟨fr1,p1,F1,k8,k9⟩:∃fr1:PT,ex cx D 0 73 137 (.region 19 g73_19 false) fr G=some (.normal,fr1,G++[tyC ((q:Int),o)])∧LaF fr1 a av T.length i∧fr1.get 8=iv i∧fr1.get 9=.ptr m 0 0:=by
  simp -implicitDefEqProofs (maxDischargeDepth:=4) only[go_sem,hlen,F.f77,F.f79,hss,H.P.a.notOwn,a1,Nat.zero_le,Nat.not_lt_zero,List.set_cons_zero]
  exact⟨_,rfl,F.of fun t ht=>by rcases ht with rfl | rfl | rfl | rfl | rfl | rfl<;>simp only[go_sem],by simp only[go_sem],by simp only[go_sem]⟩
 obtain⟨fr2,p2,F2,m8,m9,m10,m11⟩:∃fr2:PT,ex cx D 0 73 137 (.region 20 g73_20 true) fr1 (G++[tyC ((q:Int),o)])=some (.normal,fr2,G++[tyC ((q:Int),o),nX x])∧LaF fr2 a av T.length i∧fr2.get 8=iv i∧fr2.get 9=.ptr m 0 0∧fr2.get 10=.ptr (m+1) 0 0∧fr2.get 11=iv 0:=by
  simp -implicitDefEqProofs (maxDischargeDepth:=4) only[go_sem,hlen,F1.f4,k9,t1,H.P.n.sl.shr,H.P.n.sl.notOwn,a2,sx.shr,sx.notOwn,sx.drp,sx.fitA,d0,d1,d2,d3,layB_res,nbeq,Nat.left_eq_add,Nat.add_eq_left,Nat.add_left_cancel_iff,Nat.zero_le,Nat.le_refl,Nat.not_lt_zero,List.set_cons_zero]
  exact⟨_,rfl,F1.of fun t ht=>by rcases ht with rfl | rfl | rfl | rfl | rfl | rfl<;>simp only[go_sem],by simp only[go_sem,k8],by simp only[go_sem,k9],by simp only[go_sem],by simp only[go_sem]⟩
 obtain⟨fr3,p3,F3,n8,n11⟩:∃fr3:PT,ex cx D 0 73 137 (.seq (.region 21 g73_21 false) (.cond (.tmp 94) (.region 22 g73_22 false) .skip)) fr2 (G++[tyC ((q:Int),o),nX x])=some (.normal,fr3,G++[tyC ((q:Int),o),nX x])∧LaF fr3 a av T.length i∧fr3.get 8=iv i∧fr3.get 11=iv (prE x o):=by
  unfold prE
  by_cases hk:x.kind=0
  ·rw[if_pos hk]
   simp -implicitDefEqProofs (maxDischargeDepth:=4) only[go_sem,hlen,m10,hk]
   exact⟨_,rfl,F2.of fun t ht=>by rcases ht with rfl | rfl | rfl | rfl | rfl | rfl<;>simp only[go_sem],by simp only[go_sem,m8],by simp only[go_sem,m11]⟩
  ·rw[if_neg hk]
   simp -implicitDefEqProofs (maxDischargeDepth:=4) only[go_sem,hlen,m9,m10,hk]
   exact⟨_,rfl,F2.of fun t ht=>by rcases ht with rfl | rfl | rfl | rfl | rfl | rfl<;>simp only[go_sem],by simp only[go_sem,m8],by simp only[go_sem]⟩
 have hap:=grow_ap (by':=8) (y:=iv (prE x o)) H.p (show 0<1 by decide) (by rw[List.length_map,hpl];omega)
 have hnew:prs.map iv++[iv (prE x o)]=(prs++[prE x o]).map iv:=by rw[List.map_append];rfl
 rw[hnew]at hap
 have hg':Grow 1 (.vec 1 .own ((prs++[prE x o]).map iv)) ((prs++[prE x o]).map iv):=.inl rfl
 generalize prE x o=pr at *
 have hset0:∀(L:Hp) y,(G++L).set 0 y=G.set 0 y++L:=fun L y=>hp_set_l (lt_of_get H.t)
 obtain⟨fr4,p4,F4,o8⟩:∃fr4:PT,ex cx D 0 73 137 (.region 23 g73_23 false) fr3 (G++[tyC ((q:Int),o),nX x])=some (.normal,fr4,G.set 0 (tB (.sl c 6 0 M M) ov (.vec 1 .own ((prs++[pr]).map iv)))++[tyC ((q:Int),o),nX x])∧LaF fr4 a av T.length i∧fr4.get 8=iv i:=by
  have hg0:=lt_of_get H.t
  have hone:∀(B:ABlock)(L:Hp),(G.set 0 B++L)[0]?=some B:=fun B L=>by rw[hp_get_l (by rw[List.length_set];exact hg0),hp_one hg0]
  have hset2:∀(B C:ABlock)(L:Hp),(G.set 0 B++L).set 0 C=G.set 0 C++L:=fun B C L=>by rw[hp_set_l (by rw[List.length_set];exact hg0),List.set_set]
  rcases H.p with e | ⟨e,he⟩
  ·rw[e]at t0 hap
   simp -implicitDefEqProofs (maxDischargeDepth:=4) only[go_sem,hlen,F3.f2,n11,t0,hset0,hset2,hone,hap,Nat.not_lt_zero,List.set_cons_zero,List.set_cons_succ]
   exact⟨_,rfl,F3.of fun t ht=>by rcases ht with rfl | rfl | rfl | rfl | rfl | rfl<;>simp only[go_sem],by simp only[go_sem,n8]⟩
  ·rw[e]at t0 hap
   simp -implicitDefEqProofs (maxDischargeDepth:=4) only[go_sem,hlen,F3.f2,n11,t0,hset0,hset2,hone,hap,Nat.not_lt_zero,List.set_cons_zero,List.set_cons_succ]
   exact⟨_,rfl,F3.of fun t ht=>by rcases ht with rfl | rfl | rfl | rfl | rfl | rfl<;>simp only[go_sem],by simp only[go_sem,n8]⟩
 obtain⟨G4,hG4⟩:∃G4,G.set 0 (tB (.sl c 6 0 M M) ov (.vec 1 .own ((prs++[pr]).map iv)))++[tyC ((q:Int),o),nX x]=G4:=⟨_,rfl⟩
 have hl4:G4.length=m+2:=by rw[←hG4,List.length_append,List.length_set,hlen];rfl
 have s0:G4[0]?=some (tB (.sl c 6 0 M M) ov (.vec 1 .own ((prs++[pr]).map iv))):=by
  rw[←hG4,hp_get_l (by rw[List.length_set];exact lt_of_get H.t),hp_one (lt_of_get H.t)]
 have P4:PtOk G4 1 tv av ov T ats ofs:=H.P.at (by rw[←hG4,hp_get_l (by rw[List.length_set];exact lt_of_get H.P.b),hp_ne (by decide),H.P.b])
 have sc:G4[c]?=some (.cells 6 111 (cls.map clW)):=by rw[←hG4,hp_get_l (by rw[List.length_set];exact lt_of_get H.c),hp_ne (by omega),H.c]
 have hoi:=hM i hi
 have hlt2:(i+ns.length) % T.length<T.length:=Nat.mod_lt _ (by omega)
 have a3:aindexAddr cx.T 31 ov (iv i)=some (.vp (nv (ofs.getD i 0)) 0):=by rw[aindexAddr_sl H.P.o sl31 (by rw[List.length_map,W.lo];exact hi) rfl,get_nv (by rw[W.lo];exact hi)]
 have a4:aindexAddr cx.T 31 ov (iv ((i+ns.length) % T.length:Nat))=some (.vp (nv (ofs.getD ((i+ns.length) % T.length) 0)) 0):=by rw[aindexAddr_sl H.P.o sl31 (by rw[List.length_map,W.lo];exact hlt2) rfl,get_nv (by rw[W.lo];exact hlt2)]
 have a5:=adr93 (c:=c) hoi
 have wi:wrapK .i64 ((i:Int)+(ns.length:Int))=((i+ns.length:Nat):Int):=by rw[wrapK_i64 (by omega) (by omega)];omega
 have wt:(((i+ns.length:Nat):Int)).tmod (T.length:Int)=(((i+ns.length) % T.length:Nat):Int):=by
  rw[Int.tmod_eq_emod_of_nonneg (by omega)]
  rfl
 have hN0:¬(T.length:Int)=0:=by omega
 obtain⟨w,hcx,hw⟩:=class_x P4 W hi hq hx (ofs.getD ((i+ns.length) % T.length) 0:Int) 0
 obtain⟨z,hz1,hz2⟩:=cls_at (cls:=cls) (k:=ofs.getD i 0) (by rw[K.len];exact hoi)
 have hel:=elS_cls z x.kind (ofs.getD ((i+ns.length) % T.length) 0:Int) x.chan (payE T ats ofs x) w
 have hnc:=lt_of_get sc
 have e1:¬0=c:=by omega
 have e2:¬1=c:=by omega
 have e3:¬c<0:=by omega
 have fmq:∀ {H H':Hp} {vs:List AV},fmCall cx H H' (.fn 131 []) vs=.rdAll:=fun {H H' vs}=>fmc_quiet pu131 qu131
 obtain⟨fr5,p5,F5⟩:∃fr5:PT,ex cx D 0 73 137 (.region 24 g73_24 true) fr4 G4=some (.normal,fr5,G4.set c (.cells 6 111 ((cls.map clW).set (ofs.getD i 0) (clsV x.kind (ofs.getD ((i+ns.length) % T.length) 0:Int) x.chan (payE T ats ofs x) w))))∧LaF fr5 a av T.length i:=by
  simp -implicitDefEqProofs (maxDischargeDepth:=4) only[go_sem,hl4,F4.f0,F4.f2,F4.f4,o8,s0,P4.b,sc,H.P.o.shr,H.P.o.notOwn,H.P.n.sl.shr,H.P.n.sl.notOwn,H.P.n.sl.lenRd,alen_sl H.P.n.sl,hns.sl.shr,hns.sl.notOwn,hns.sl.lenRd,alen_sl hns.sl,List.length_map,a3,a4,a5,wi,wt,hN0,hcx,hw.drp,hw.shr,hz2,hel,fmq,e1,e2,e3,nbeq,Nat.zero_le,Nat.le_refl,Nat.not_lt_zero]
  exact⟨_,rfl,F4.of fun t ht=>by rcases ht with rfl | rfl | rfl | rfl | rfl | rfl<;>simp only[go_sem]⟩
 have hzc:∃z:Cl,clW z=clsV x.kind (ofs.getD ((i+ns.length) % T.length) 0:Int) x.chan (payE T ats ofs x) w∧ClOk z∧IsCl T ats ofs ns.length z i :=
  ⟨⟨x.kind,(ofs.getD ((i+ns.length) % T.length) 0:Int),x.chan,payE T ats ofs x,nxL T ats ofs x,w⟩,rfl,hw,by rw[hX],rfl,by rw[hX],by rw[hX],by rw[hX]⟩
 obtain⟨z',hz3,hz4,hz5⟩:=hzc
 rw[←hz3,←List.map_set]at p5
 obtain⟨_,_,u1,u2⟩:=x_split p3
 refine⟨fr5,_,_,_,?_,F5,?_,?_,P4.at ?_,hp_one hnc,hg',K.set hoi hz4 hz5⟩
 ·rw[hG4]at p4
  rw[x_block,x_cont1 p1,x_cont1 p2,x_cont1 p3,x_cont1 p4,p5]
  rfl
 ·rw[List.length_set,hl4];omega
 ·rw[hp_ne (by omega),s0]
 ·rw[hp_ne (by omega),P4.b]
theorem lay_loop{a:AV}{ns:List Nd}(hns:NsOk ns a){m c M:Nat}(hc:2≤c)(hcm:c<m){tv av ov:AV}{T:List Nd}{ats:List (Int×Int)}{ofs:List Nat}(W:PtWf T ats ofs)(hT:T.length≤200)(hn:ns.length≤100)(hM:∀j,j<T.length→ofs.getD j 0<M):
  ∀(d i:Nat)(fr:PT)(G:Hp)(pv:AV)(cls:List Cl),T.length-i=d→i≤T.length→LaH G m c M tv av ov pv T ats ofs cls ((List.range i).map (prI T ats))→ClsI T ats ofs ns.length M i cls→LaF fr a av T.length i→
  ∃fr' G' pv' cls',D.loop 0 73 137 l73_2 fr G=some (.exit 5,fr',G')∧LaF fr' a av T.length T.length∧LaH G' m c M tv av ov pv' T ats ofs cls' ((List.range T.length).map (prI T ats))∧ClsI T ats ofs ns.length M T.length cls'
 | 0,i,fr,G,pv,cls,hd,hi,H,K,F=>by
  have hlt:=lp1 hd hi
  have e:i=T.length:=by omega
  subst e
  rw[dl73_2]
  simp -implicitDefEqProofs (maxDischargeDepth:=4) only[go_sem,F.f78,F.f79,hlt]
  exact⟨_,G,pv,cls,rfl,F.of fun t ht=>by rcases ht with rfl | rfl | rfl | rfl | rfl | rfl<;>simp only[go_sem],H,K⟩
 | d+1,i,fr,G,pv,cls,hd,hi,H,K,F=>by
  have hlt:((i:Int)<(T.length:Int)):=by omega
  have w3:=wrap_succ (show i≤1000 by omega)
  obtain⟨fr1,p1,F1⟩:∃fr1:PT,ex cx D 0 73 137 (.seq (.region 18 g73_18 false) (.cond (.tmp 80) .skip (.exit 5))) fr G=some (.normal,fr1,G)∧LaF fr1 a av T.length i:=by
   simp -implicitDefEqProofs (maxDischargeDepth:=4) only[go_sem,F.f78,F.f79,hlt]
   exact⟨_,rfl,F.of fun t ht=>by rcases ht with rfl | rfl | rfl | rfl | rfl | rfl<;>simp only[go_sem]⟩
  obtain⟨fr2,G2,pv2,cls2,p2,F2,hl2,t2,P2,c2,g2,K2⟩:=lay_round hns hc hcm W hT hn hM (by omega) (by rw[List.length_map,List.length_range]) H K F1
  obtain⟨fr3,p3,F3⟩:∃fr3:PT,ex cx D 0 73 137 (.region 25 g73_25 false) fr2 G2=some (.normal,fr3,G2)∧LaF fr3 a av T.length (i+1):=by
   simp -implicitDefEqProofs (maxDischargeDepth:=4) only[go_sem,F2.f79,w3]
   exact⟨_,rfl,by simp only[go_sem,F2.f0],by simp only[go_sem,F2.f2],by simp only[go_sem,F2.f4],by simp only[go_sem,F2.f77],by simp only[go_sem,F2.f78],by simp only[go_sem]⟩
  have hpr:(List.range i).map (prI T ats)++[prI T ats i]=(List.range (i+1)).map (prI T ats):=by rw[List.range_succ,List.map_append];rfl
  rw[hpr]at g2
  obtain⟨_,_,r1,r2⟩:=x_split p1
  rw[dl73_2,x_cont1 r1,x_cont1 r2,x_cont1 p2,p3,xbind_some,contR_normal,H.len]
  refine trim_gen (P:=fun z=>∃fr' G' pv' cls',z=some (.exit 5,fr',G')∧LaF fr' a av T.length T.length∧LaH G' m c M tv av ov pv' T ats ofs cls' ((List.range T.length).map (prI T ats))∧ClsI T ats ofs ns.length M T.length cls') [0,2,4,77,78,79] hl2 (fun t ht=>?_) fun fr' G' hG' hf hk'=>?_
  ·simp only[List.mem_cons,List.not_mem_nil,or_false]at ht
   rcases ht with rfl | rfl | rfl | rfl | rfl | rfl
   ·rw[F3.f0,kill_Sl hns.sl]
   ·rw[F3.f2,kill_ptr (by omega)]
   ·rw[F3.f4,kill_ptr (by omega)]
   ·rw[F3.f77,kill_Sl H.P.a]
   ·rw[F3.f78];rfl
   ·rw[F3.f79];rfl
  ·exact lay_loop hns hc hcm W hT hn hM d (i+1) fr' G' pv2 cls2 (nd1 hd) (nd2 hd) ⟨hG',hk' 0 _ (by omega) t2 (tB_kill hcm P2.o g2),P2.at (hk' 1 _ (by omega) P2.b (P2.kill _)),hk' c _ hcm c2 (clW_kill K2.ok m),g2⟩ K2 ⟨by rw[hf 0 (by simp),F3.f0],by rw[hf 2 (by simp),F3.f2],by rw[hf 4 (by simp),F3.f4],by rw[hf 77 (by simp),F3.f77],by rw[hf 78 (by simp),F3.f78],by rw[hf 79 (by simp),F3.f79]⟩
theorem build220{v:AV}{L:List AV}(h:Sl 6 v L):abuild cx.T 220 [(0,v)]=some (.agg [v,.lit (.slice none 0 0),.lit (.slice none 0 0)]):=by
 rcases h with rfl | rfl | ⟨rfl,_⟩<;>exact nk
theorem rep_nv(n:Nat):(List.replicate n (iv 0)).map cl1=(List.replicate n 0).map nv:=by
 rw[List.map_replicate,List.map_replicate]
 rfl
theorem len_small65{n:Nat}(h:n≤200):n*(64+1)≤1099511627776:=by omega
structure TbOk(cv ov pv:AV)(cls:List Cl)(ofs:List Nat)(prs:List Int):Prop where
 c:Sl 6 cv (cls.map clW)
 k:∀x∈cls,ClOk x
 o:Sl 1 ov (ofs.map nv)
 p:Sl 1 pv (prs.map iv)
structure OfOk(ns T:List Nd)(cls:List Cl)(ofs:List Nat)(prs:List Int):Prop where
 h:Half2 ns T
 o:ofs=clsO T (atsOf T)
 p:prs=(List.range T.length).map (prI T (atsOf T))
 c:ClsI T (atsOf T) ofs ns.length (clsN T (atsOf T)) T.length cls
theorem clsO_len(T:List Nd)(ats:List (Int×Int)):(clsO T ats).length=T.length:=cn_len _ _
theorem clsO_lt{T:List Nd}{ats:List (Int×Int)}{j:Nat}(hj:j<T.length):(clsO T ats).getD j 0<clsN T ats:=by
 unfold clsO clsN
 rw[cn_num _ _ hj]
 exact(num_ok (eiR_eqv T.length) T.length (Nat.le_refl _)).lt j hj
theorem of_bad{ns:List Nd}{a:AV}(hns:NsOk ns a)(h0:(ordC ns).2≠0):pcall D 73 [a]=some (.tup [.agg [.lit (.slice none 0 0),.lit (.slice none 0 0),.lit (.slice none 0 0)],iv (ordC ns).2]):=by
 have h67:=ord_ok hns
 unfold errV at h67
 generalize (ordC ns).1=p at h67
 generalize (ordC ns).2=e at h67 h0
 have run:∃H',callB cx D 0 73 [a] []=some (.tup [.agg [.lit (.slice none 0 0),.lit (.slice none 0 0),.lit (.slice none 0 0)],iv e],H'):=by
  rw[c73]
  simp -implicitDefEqProofs (maxDischargeDepth:=4) only[go_sem,hns.sl.shr,hns.sl.notOwn,hns.sl.drp,hns.sl.shut1,h67,h0,List.set_cons_zero,Nat.zero_le,Nat.le_refl,Nat.not_lt_zero]
  exact⟨_,rfl⟩
 obtain⟨H',h⟩:=run
 rw[pcall_eq (v:=.tup [.agg [.lit (.slice none 0 0),.lit (.slice none 0 0),.lit (.slice none 0 0)],iv e]) (H':=H') (by rw[List.map_cons,List.map_nil,hns.sl.cl2];exact h)]
 rfl
theorem of_pre{ns:List Nd}{a:AV}(hns:NsOk ns a)(h0:(ordC ns).2=0):
  ∃tv T fr av ov,ex cx D 0 73 137 (.seq (.region 0 g73_0 false) (.seq (.seq (.region 1 g73_1 false) (.seq (.region 2 g73_2 false) (.cond (.tmp 18) (.seq (.region 3 g73_3 false) .ret) .skip))) (.seq (.region 4 g73_4 false) (.seq (.region 5 g73_5 false) (.region 6 g73_6 false))))) (PT.nil.set 0 (drp a)) []=some (.normal,fr,[tZ,pB tv av ov])∧NsOk T tv∧Half2 ns T∧AtF fr a T.length 0∧av=.lit (.slice none 0 0)∧Sl 1 ov ((List.replicate T.length 0).map nv):=by
 have h67:=ord_ok hns
 have hg:=ord_good h0
 have hchk:=good_chk hg.toGood
 obtain⟨tv,n1,n2,h54,hd⟩:=table_ok hns hchk
 have hT:=hd.nsOk hg.le
 have H:=hd.half2
 generalize n1++n2=T at hT H
 have hle:=hg.le
 have hln:=H.ln
 have h9:=len_small200 (n:=T.length) (by omega)
 have hb:=build220 hT.sl
 unfold errV at h67
 rw[h0]at h67
 generalize (ordC ns).1=p at h67
 have hmk:∀ {nt nm:Nat} {ops:Array Oper} {fr:PT} {H:Hp} (t:TypeId) (l c:Operand),xop cx D 0 73 nt ops nm fr H (some 31) (.makeSlice t l c)=xbind (mkT cx.T t) fun p=>if p.1=0 then none else xbind (mkL p.2.2.1 (ev fr l) (ev fr c)) fun n=>setO nt (some 31) fr H (.vec p.1 .exact ((List.replicate n p.2.2.2).map cl1)):=fun t l c=>xo_makeSlice_v (dd:=some 31) (by simp only[go_sem]) t l c
 refine⟨tv,T,?_⟩
 have run:∃fr,ex cx D 0 73 137 (.seq (.region 0 g73_0 false) (.seq (.seq (.region 1 g73_1 false) (.seq (.region 2 g73_2 false) (.cond (.tmp 18) (.seq (.region 3 g73_3 false) .ret) .skip))) (.seq (.region 4 g73_4 false) (.seq (.region 5 g73_5 false) (.region 6 g73_6 false))))) (PT.nil.set 0 (drp a)) []=some (.normal,fr,[tZ,pB tv (.lit (.slice none 0 0)) (.vec 1 .exact ((List.replicate T.length 0).map nv))])∧AtF fr a T.length 0:=by
  rw[←rep_nv]
  simp -implicitDefEqProofs (maxDischargeDepth:=4) only[go_sem,hns.sl.shr,hns.sl.notOwn,hns.sl.drp,hns.sl.shut1,h67,h54,hb,hT.sl.shr,hT.sl.notOwn,hT.sl.drp,hT.sl.fitA,alen_sl hT.sl,List.length_map,hmk,h9,List.set_cons_zero,List.set_cons_succ,Nat.zero_le,Nat.le_refl,Nat.not_lt_zero]
  exact⟨_,rfl,by simp only[go_sem],by simp only[go_sem],by simp only[go_sem],by simp only[go_sem],by simp only[go_sem];rfl⟩
 obtain⟨fr,h,F⟩:=run
 exact⟨fr,_,_,h,hT,H,F,rfl,.inl rfl⟩
theorem clW_cl1{cls:List Cl}(h:∀x∈cls,ClOk x):(cls.map clW).map cl1=cls.map clW:=by
 rw[List.map_map]
 refine List.map_congr_left fun x hx=>?_
 have hw:Sl 2 x.w (x.nx.map ed):=h x hx
 show AV.agg [iv x.kd,iv x.du,bv x.ch,iv x.py.1,iv x.py.2,cl0 x.w]=_
 rw[hw.cl0]
theorem of_ok{ns:List Nd}{a:AV}(hns:NsOk ns a)(h0:(ordC ns).2=0):
  ∃cv ov pv T cls ofs prs,pcall D 73 [a]=some (.tup [.agg [cv,ov,pv],iv 0])∧TbOk cv ov pv cls ofs prs∧OfOk ns T cls ofs prs:=by
 have hg:=ord_good h0
 have hle:=hg.le
 obtain⟨tv,T,fr1,av0,ov0,p1,hT,H,F1,rfl,ho0⟩:=of_pre hns h0
 have hln:=H.ln
 have hpos:=hg.pos
 have hT200:T.length≤200:=by omega
 have W0:PtWf T (atsOf T) (List.replicate T.length 0):=wf_half hg.toGood H List.length_replicate
 obtain⟨fr2,av,p2,F2,hav⟩:=at_loop (ov:=ov0) hT hT200 T.length 0 fr1 _ (Nat.sub_zero _) (Nat.zero_le _) F1 (.inr ⟨rfl,rfl⟩)
 obtain⟨fr3,p3,F3⟩:∃fr3:PT,ex cx D 0 73 137 (.region 11 g73_11 false) fr2 [tZ,pB tv av ov0]=some (.normal,fr3,[tZ,pB tv av ov0])∧OfF fr3 a 0:=by
  simp -implicitDefEqProofs (maxDischargeDepth:=4) only[go_sem]
  exact⟨_,rfl,by simp only[go_sem,F2.f0],by simp only[go_sem,F2.f2],by simp only[go_sem,F2.f4],by simp only[go_sem];rfl⟩
 have P3:PtOk [tZ,pB tv av ov0] 1 tv av ov0 T (atsOf T) (it (labI T (atsOf T)) (sucJ T (atsOf T)) T.length 0) :=
  ⟨rfl,hT,hav.sl,ho0,fun m=>grow1_kill0 hav m⟩
 obtain⟨fr4,G4,ov,p4,F4,hl4,z4,P4⟩:=parts_loop hns.sl W0 hT200 (by omega) T.length 0 fr3 _ ov0 (Nat.sub_le _ _) F3 rfl rfl P3
 have hN200:clsN T (atsOf T)≤200:=by
  have:=cnt_bound (clsR T (atsOf T)) T.length
  have h2:clsN T (atsOf T)=cnt (clsR T (atsOf T)) T.length:=rfl
  omega
 have h65:=len_small65 hN200
 obtain⟨c,hc⟩:∃c,G4.length=c:=⟨_,rfl⟩
 rw[hc]at hl4
 have hlt0:=lt_of_get z4
 have hlt1:=lt_of_get P4.b
 generalize hM:clsN T (atsOf T)=M at *
 generalize hO:clsO T (atsOf T)=ofs at *
 obtain⟨fr5,p5,F5⟩:∃fr5:PT,ex cx D 0 73 137 (.seq (.region 15 g73_15 false) (.seq (.region 16 g73_16 false) (.region 17 g73_17 false))) fr4 G4=some (.normal,fr5,G4.set 0 (tB (.sl c 6 0 M M) ov (.lit (.slice none 0 0)))++[.cells 6 111 (List.replicate M (clW clZ))])∧LaF fr5 a av T.length 0:=by
  have hone:∀(B:ABlock),(G4.set 0 B)[0]?=some B:=fun B=>hp_one hlt0
  have hone':∀(B:ABlock)(L:Hp),(G4.set 0 B++L)[0]?=some B:=fun B L=>by rw[hp_get_l (by rw[List.length_set];exact hlt0),hp_one hlt0]
  have hp1:∀(B:ABlock)(L:Hp),(G4.set 0 B++L)[1]?=some (pB tv av ov):=fun B L=>by rw[hp_get_l (by rw[List.length_set];exact hlt1),hp_ne (by decide),P4.b]
  have hset2:∀(B C:ABlock)(L:Hp),(G4.set 0 B++L).set 0 C=G4.set 0 C++L:=fun B C L=>by rw[hp_set_l (by rw[List.length_set];exact hlt0),List.set_set]
  have hss:shr (shr av)=shr av:=hav.sl.shr
  have hlen0:∀(B:ABlock),(G4.set 0 B).length=c:=fun B=>by rw[List.length_set,hc]
  simp -implicitDefEqProofs (maxDischargeDepth:=4) only[go_sem,hc,F4.f2,F4.f4,F4.f6,z4,P4.b,P4.o.shr,P4.o.notOwn,P4.o.drp,P4.o.fitA,hone,hone',hp1,hset2,hlen0,hss,hav.sl.notOwn,alen_sl hav.sl,List.length_map,atsOf_len,h65,List.set_cons_zero,List.set_cons_succ,List.length_set,Nat.zero_le,Nat.le_refl,Nat.not_lt_zero]
  exact⟨_,rfl,by simp only[go_sem,F4.f0],by simp only[go_sem,F4.f2],by simp only[go_sem,F4.f4],by simp only[go_sem],by simp only[go_sem],by simp only[go_sem];rfl⟩
 have W4:PtWf T (atsOf T) ofs:=W0.re (by rw[←hO,clsO_len])
 have hcls0:List.replicate M (clW clZ)=(List.replicate M clZ).map clW:=by rw[List.map_replicate]
 have H5:LaH (G4.set 0 (tB (.sl c 6 0 M M) ov (.lit (.slice none 0 0)))++[.cells 6 111 (List.replicate M (clW clZ))]) (c+1) c M tv av ov (.lit (.slice none 0 0)) T (atsOf T) ofs (List.replicate M clZ) ((List.range 0).map (prI T (atsOf T))):=by
  refine⟨by rw[List.length_append,List.length_set,hc];rfl,?_,P4.at ?_,?_,.inr ⟨rfl,rfl⟩⟩
  ·rw[hp_get_l (by rw[List.length_set];exact hlt0),hp_one hlt0]
  ·rw[hp_get_l (by rw[List.length_set];exact hlt1),hp_ne (by decide),P4.b]
  ·rw[hp_get_r0 (by rw[List.length_set,hc]),hcls0];rfl
 have K5:ClsI T (atsOf T) ofs ns.length M 0 (List.replicate M clZ):=⟨List.length_replicate,fun x hx=>by rw[List.eq_of_mem_replicate hx];exact clZ_ok,fun j hj=>by omega⟩
 have hMl:∀j,j<T.length→ofs.getD j 0<M:=fun j hj=>by rw[←hO,←hM];exact clsO_lt hj
 obtain⟨fr6,G6,pv,cls,p6,F6,H6,K6⟩:=lay_loop hns (m:=c+1) (c:=c) (by omega) (by omega) W4 hT200 (by omega) hMl T.length 0 fr5 _ _ _ (Nat.sub_zero _) (Nat.zero_le _) H5 K5 F5
 have hspv:Sl 1 (shr pv) (((List.range T.length).map (prI T (atsOf T))).map iv):=H6.p.sl
 have hlt6:=lt_of_get H6.t
 have run:∃G',callB cx D 0 73 [a] []=some (.tup [.agg [.sl c 6 0 M M,ov,shr pv],iv 0],G')∧G'[c]?=some (.cells 6 111 (cls.map clW)):=by
  refine⟨G6.set 0 (tB (.sl c 6 0 M M) ov (shr pv)),?_,by rw[hp_ne (by omega),H6.c]⟩
  obtain⟨_,_,r0,t⟩:=x_split p1
  obtain⟨_,_,r1,t⟩:=x_split t
  obtain⟨_,_,r4,t⟩:=x_split t
  obtain⟨_,_,r5,r6⟩:=x_split t
  obtain⟨_,_,s0,t⟩:=x_split p5
  obtain⟨_,_,s1,s2⟩:=x_split t
  have e1:ex cx D 0 73 137 (.block 0 (.loop l73_0)) fr1 [tZ,pB tv (.lit (.slice none 0 0)) ov0]=some (.normal,fr2,[tZ,pB tv av ov0]):=by rw[x_block,x_loop,p2];rfl
  have e2:ex cx D 0 73 137 (.block 2 (.loop l73_1)) fr3 [tZ,pB tv av ov0]=some (.normal,fr4,G4):=by rw[x_block,x_loop,p4];rfl
  have e3:ex cx D 0 73 137 (.block 5 (.loop l73_2)) fr5 (G4.set 0 (tB (.sl c 6 0 M M) ov (.lit (.slice none 0 0)))++[.cells 6 111 (List.replicate M (clW clZ))])=some (.normal,fr6,G6):=by rw[x_block,x_loop,p6];rfl
  have hlab:∀Z,ex cx D 0 73 137 (.seq (.label 0) Z) fr3 [tZ,pB tv av ov0]=ex cx D 0 73 137 Z fr3 [tZ,pB tv av ov0]:=fun Z=>x_cont1 rfl
  rw[c73,x_cont1 r0,x_scope,x_cont1 r1,x_cont1 r4,x_cont1 r5,x_assoc,x_cont1 r6,x_cont1 e1,x_cont1 p3,hlab,x_cont1 e2,x_cont1 s0,x_cont1 s1,x_assoc,x_cont1 s2,x_cont1 e3]
  have hss:shr (shr pv)=shr pv:=hspv.shr
  have hone:∀(B:ABlock),(G6.set 0 B)[0]?=some B:=fun B=>hp_one hlt6
  simp -implicitDefEqProofs (maxDischargeDepth:=4) only[go_sem,F6.f2,H6.t,H6.P.o.shr,H6.P.o.drp,hss,hspv.drp,hone,List.set_cons_zero,Nat.zero_le,Nat.le_refl,Nat.not_lt_zero]
 obtain⟨G',hrun,hG'⟩:=run
 refine⟨.vec 6 .shared (cls.map clW),ov,shr pv,T,cls,ofs,(List.range T.length).map (prI T (atsOf T)),?_,⟨.inr (.inl rfl),K6.ok,H6.P.o,hspv⟩,⟨H,hO.symm,rfl,by rw[hM];exact K6⟩⟩
 rw[pcall_eq (v:=.tup [.agg [.sl c 6 0 M M,ov,shr pv],iv 0]) (H':=G') (by rw[List.map_cons,List.map_nil,hns.sl.cl2];exact hrun)]
 have hlen:(cls.map clW).length=M:=by rw[List.length_map,K6.len]
 have hf:frz0 0 G' (.sl c 6 0 M M)=.vec 6 .shared (cls.map clW):=by
  show (if c<0 then AV.dead else match G'[c]? with
   | some (.cells sz _ els)=>if 0+M≤els.length∧M≤M then .vec sz .shared (((els.drop 0).take M).map cl1) else .dead
   | _=>.dead)=_
  rw[if_neg (by omega),hG']
  dsimp only
  rw[if_pos ⟨by omega,Nat.le_refl _⟩,List.drop_zero,List.take_of_length_le (by omega),clW_cl1 K6.ok]
 show some (AV.tup [.agg [frz0 0 G' (.sl c 6 0 M M),frz0 0 G' ov,frz0 0 G' (shr pv)],iv 0])=_
 rw[hf,H6.P.o.fr0,hspv.fr0]
structure NdEq(x y:Nd):Prop where
 kd:y.kind=x.kind
 pr:y.prio=x.prio
 ch:y.chan=x.chan
 pt:y.pt=x.pt
 ps:y.ps=x.ps
 es:y.es=x.es
theorem half_eq{ks:List Int}{far:Int}{x y z:Nd}(h:half ks far x y)(h':half ks far x z):NdEq y z:=by
 obtain⟨a1,a2,a3,a4,a5,a6,a7⟩:=h
 obtain⟨b1,b2,b3,b4,b5,b6,b7⟩:=h'
 rw[a1]at b1
 exact⟨(Option.some.inj b1).symm,by rw[a2,b2],by rw[a3,b3],by rw[a4,b4],by rw[a5,b5],by rw[a6,b6]⟩
theorem half2_eq{ns T T':List Nd}(H:Half2 ns T)(H':Half2 ns T'):Rel NdEq T T':=by
 refine⟨by rw[H.ln,H'.ln],fun i x y hx hy=>?_⟩
 have hil:=(List.getElem?_eq_some_iff.1 hx).1
 rw[H.ln]at hil
 by_cases h:i<ns.length
 ·obtain⟨z,hz⟩:=ex_nd h
  obtain⟨x',h1,h2⟩:=H.h1 i z hz
  obtain⟨y',h3,h4⟩:=H'.h1 i z hz
  rw[hx]at h1;rw[hy]at h3
  cases h1;cases h3
  exact half_eq h2 h4
 ·obtain⟨j,rfl⟩:∃j,i=ns.length+j:=⟨i-ns.length,by omega⟩
  obtain⟨z,hz⟩:=ex_nd (ns:=ns) (i:=j) (by omega)
  obtain⟨x',h1,h2⟩:=H.h2 j z hz
  obtain⟨y',h3,h4⟩:=H'.h2 j z hz
  rw[hx]at h1;rw[hy]at h3
  cases h1;cases h3
  exact half_eq h2 h4
theorem wlk_eq{xs ys:List Nd}(h:Rel NdEq xs ys):∀(d:Nat)(n o:Int),wlk ys d n o=wlk xs d n o
 | 0,n,o=>rfl
 | d+1,n,o=>by
  obtain⟨h1,h2⟩:=h.none (n:=n)
  rcases ha:atN xs n with _ | x
  ·rw[wlk_out ha,wlk_out (h1 ha)]
  ·obtain⟨y,hy,hp⟩:=h2 x ha
   by_cases h5:x.kind=5
   ·have h5':y.kind=5:=by rw[hp.kd,h5]
    by_cases hl:x.es.length=1
    ·obtain⟨e,he⟩:=List.length_eq_one_iff.1 hl
     rw[wlk_one ha h5 he,wlk_one hy h5' (by rw[hp.es,he]),wlk_eq h d]
    ·rw[wlk_bad ha h5 hl,wlk_bad hy h5' (by rw[hp.es];exact hl)]
   ·rw[wlk_ne ha h5,wlk_ne hy (by rw[hp.kd];exact h5)]
theorem atsOf_eq{xs ys:List Nd}(h:Rel NdEq xs ys):atsOf ys=atsOf xs:=by
 unfold atsOf
 rw[←h.len]
 exact List.map_congr_left fun i _=>wlk_eq h _ _ _
theorem getD_eq{xs ys:List Nd}(h:Rel NdEq xs ys)(k:Nat):NdEq (xs.getD k ndZ) (ys.getD k ndZ):=by
 rw[List.getD_eq_getElem?_getD,List.getD_eq_getElem?_getD]
 rcases hx:xs[k]? with _ | x
 ·have:ys[k]?=none:=by rw[List.getElem?_eq_none_iff]at hx ⊢;rw[←h.len];exact hx
  rw[this]
  exact⟨rfl,rfl,rfl,rfl,rfl,rfl⟩
 ·obtain⟨y,hy,hp⟩:=h.get hx
  rw[hy]
  exact hp
theorem nodeAt_eq{xs ys:List Nd}(h:Rel NdEq xs ys)(ats:List (Int×Int))(i:Nat):NdEq (nodeAt xs ats i) (nodeAt ys ats i):=getD_eq h _
theorem lkE_same{xs ys:List Nd}(h:Rel NdEq xs ys)(ats:List (Int×Int))(ofs:List Nat)(p:Int)(e:Int×Int):lkE ys ats ofs p e=lkE xs ats ofs p e:=by
 unfold lkE lk
 have:=getD_eq h (ats.getD e.1.toNat (0,0)).1.toNat
 rw[this.kd,this.pr]
theorem oE_eq{x y:Nd}(h:NdEq x y):oE y=oE x:=by unfold oE;rw[h.es,h.ch,h.pt,h.ps]
theorem labI_eq{xs ys:List Nd}(h:Rel NdEq xs ys)(ats:List (Int×Int)):labI ys ats=labI xs ats:=by
 funext i
 have hn:=nodeAt_eq h ats i
 unfold labI labN
 rw[hn.kd,hn.ch,hn.es,hn.pr,oE_eq hn]
 congr 3
 exact List.map_congr_left fun e _=>by unfold jmpE;rw[lkE_same h]
theorem sucJ_eq{xs ys:List Nd}(h:Rel NdEq xs ys)(ats:List (Int×Int)):sucJ ys ats=sucJ xs ats:=by
 funext i
 have hn:=nodeAt_eq h ats i
 unfold sucJ sucI sucN
 rw[oE_eq hn,h.len]
theorem clsR_eq{xs ys:List Nd}(h:Rel NdEq xs ys):clsR ys (atsOf ys)=clsR xs (atsOf xs):=by
 unfold clsR
 rw[atsOf_eq h,labI_eq h,sucJ_eq h]
theorem clsO_eq{xs ys:List Nd}(h:Rel NdEq xs ys):clsO ys (atsOf ys)=clsO xs (atsOf xs):=by unfold clsO;rw[clsR_eq h,h.len]
theorem clsN_eq{xs ys:List Nd}(h:Rel NdEq xs ys):clsN ys (atsOf ys)=clsN xs (atsOf xs):=by unfold clsN;rw[clsR_eq h,h.len]
theorem prI_eq{xs ys:List Nd}(h:Rel NdEq xs ys):prI ys (atsOf ys)=prI xs (atsOf xs):=by
 funext i
 rw[atsOf_eq h]
 have hn:=nodeAt_eq h (atsOf xs) i
 unfold prI prE
 rw[hn.kd,hn.pr]
def duK(ks:List Int)(far:Int)(x:Nd):Nd:={ x with kind:=ks.getD x.kind.toNat 0,es:=x.es.map (mv far),nx:=.vec 2 .exact ((x.es.map (mv far)).map ed) }
def duT(ns:List Nd):List Nd:=ns.map (duK ks1 0)++ns.map (duK ks2 ns.length)
theorem duK_half{ks:List Int}{far:Int}{x:Nd}(h:x.kind.toNat<ks.length):half ks far x (duK ks far x):=by
 refine⟨?_,rfl,rfl,rfl,rfl,rfl,.inl rfl⟩
 show ks[x.kind.toNat]?=some (ks.getD x.kind.toNat 0)
 rw[List.getD_eq_getElem?_getD,List.getElem?_eq_getElem h]
 rfl
theorem duT_half{ns:List Nd}(hg:Good ns):Half2 ns (duT ns):=by
 unfold duT
 refine⟨by rw[List.length_append,List.length_map,List.length_map],fun i x hx=>?_,fun i x hx=>?_⟩
 ·have hk:=shp_kind (hg.sh x (List.mem_of_getElem? hx))
  have hi:=(List.getElem?_eq_some_iff.1 hx).1
  exact⟨duK ks1 0 x,by rw[List.getElem?_append_left (by rw[List.length_map];exact hi),List.getElem?_map,hx];rfl,duK_half (by show x.kind.toNat<6;omega)⟩
 ·have hk:=shp_kind (hg.sh x (List.mem_of_getElem? hx))
  exact⟨duK ks2 ns.length x,by rw[List.getElem?_append_right (by rw[List.length_map];omega),List.length_map,Nat.add_sub_cancel_left,List.getElem?_map,hx];rfl,duK_half (by show x.kind.toNat<6;omega)⟩
theorem cls_reckon{T:List Nd}{ofs:List Nat}(W:PtWf T (atsOf T) ofs){k:Nat}(h:ck (labI T (atsOf T)) (sucJ T (atsOf T)) T.length k=ck (labI T (atsOf T)) (sucJ T (atsOf T)) T.length (k+1)):
  clsO T (atsOf T)=it (labI T (atsOf T)) (sucJ T (atsOf T)) T.length (k+2)∧clsN T (atsOf T)=ck (labI T (atsOf T)) (sucJ T (atsOf T)) T.length (k+1):=by
 have:=it_stop (L:=labI T (atsOf T)) (S:=sucJ T (atsOf T)) (N:=T.length) (sucJ_lt W) h
 unfold clsO clsN clsR
 rw[←this]
 exact⟨rfl,rfl⟩
theorem word7_ok(k p t s:Int):pcall D 84 [iv k,iv p,iv t,iv s]=some (.agg [iv k,iv p,bv false,iv 0,iv 0,.vec 2 .exact [.agg [iv t,iv s]]]):=by
 have h:∃H',callB cx D 0 84 [iv k,iv p,iv t,iv s] []=some (.agg [iv k,iv p,bv false,iv 0,iv 0,.vec 2 .exact [.agg [iv t,iv s]]],H'):=by
  rw[c84]
  simp -implicitDefEqProofs (maxDischargeDepth:=4) only[go_sem,build63',build66_w3,Nat.zero_le,Nat.le_refl,Nat.not_lt_zero]
  exact⟨_,rfl⟩
 obtain⟨H',h⟩:=h
 rw[pcall_eq (vs:=[iv k,iv p,iv t,iv s]) (v:=.agg [iv k,iv p,bv false,iv 0,iv 0,.vec 2 .exact [.agg [iv t,iv s]]]) (H':=H') h]
 rfl
structure IsF(fr:PT)(w:AV)(i:Nat):Prop where
 f1:fr.get 1=w
 f2:fr.get 2=.ptr 0 0 0
 f5:fr.get 5=iv i
theorem is_loop{cv ov pv w:AV}{ofs:List Nat}(ho:Sl 1 ov (ofs.map nv))(hw:Sl 1 w (ofs.map nv))(hl:ofs.length≤1000):∀(d i:Nat)(fr:PT),ofs.length-i=d→i≤ofs.length→IsF fr w i→
  ∃fr',D.loop 0 136 28 l136_0 fr [tB cv ov pv]=some (.exit 0,fr',[tB cv ov pv])
 | 0,i,fr,hd,hi,F=>by
  have hlt:=lp1 hd hi
  rw[dl136_0]
  simp -implicitDefEqProofs (maxDischargeDepth:=4) only[go_sem,F.f1,F.f5,hw.shr,hw.notOwn,alen_sl hw,List.length_map,hlt]
  exact⟨_,rfl⟩
 | d+1,i,fr,hd,hi,F=>by
  have hlt:((i:Int)<(ofs.length:Int)):=by omega
  have w3:=wrap_succ (show i≤1000 by omega)
  have a1:aindexAddr cx.T 31 ov (iv i)=some (.vp (nv (ofs.getD i 0)) 0):=by rw[aindexAddr_sl ho sl31 (by rw[List.length_map];omega) rfl,get_nv (by omega)]
  have a2:aindexAddr cx.T 31 w (iv i)=some (.vp (nv (ofs.getD i 0)) 0):=by rw[aindexAddr_sl hw sl31 (by rw[List.length_map];omega) rfl,get_nv (by omega)]
  rw[dl136_0]
  simp -implicitDefEqProofs (maxDischargeDepth:=4) only[go_sem,F.f1,F.f2,F.f5,ho.shr,ho.notOwn,hw.shr,hw.notOwn,alen_sl hw,List.length_map,hlt,a1,a2,w3,nbeq]
  exact is_loop ho hw hl d (i+1) _ (nd1 hd) (nd2 hd) ⟨by simp only[go_sem,F.f1],by simp only[go_sem,F.f2],by simp only[go_sem]⟩
theorem is_ok{cv ov pv w:AV}{ofs:List Nat}{L L':List AV}{sz:Nat}(hc:Sl sz cv L)(ho:Sl 1 ov (ofs.map nv))(hp:Sl 1 pv L')(hw:Sl 1 w (ofs.map nv))(hl:ofs.length≤1000):pcall D 136 [.agg [cv,ov,pv],w]=some (bv true):=by
 have run:∃H',callB cx D 0 136 [.agg [cv,ov,pv],w] []=some (bv true,H'):=by
  obtain⟨fr1,p1,F1⟩:∃fr1:PT,ex cx D 0 136 28 (.seq (.region 0 g136_0 false) (.seq (.seq (.region 1 g136_1 false) (.cond (.tmp 11) (.seq (.region 2 g136_2 false) .ret) .skip)) (.region 3 g136_3 false))) ((PT.nil.set 0 (drp (.agg [cv,ov,pv]))).set 1 (drp w)) []=some (.normal,fr1,[tB cv ov pv])∧IsF fr1 w 0:=by
   simp -implicitDefEqProofs (maxDischargeDepth:=4) only[go_sem,hc.shr,ho.shr,ho.notOwn,hp.shr,hw.shr,hw.notOwn,hw.drp,alen_sl ho,alen_sl hw,List.length_map,Nat.zero_le,Nat.le_refl]
   exact⟨_,rfl,by simp only[go_sem],by simp only[go_sem],by simp only[go_sem];rfl⟩
  obtain⟨fr2,p2⟩:=is_loop (cv:=cv) (pv:=pv) ho hw hl ofs.length 0 fr1 (Nat.sub_zero _) (Nat.zero_le _) F1
  obtain⟨_,_,r0,t⟩:=x_split p1
  obtain⟨_,_,r1,r2⟩:=x_split t
  have el:ex cx D 0 136 28 (.block 0 (.loop l136_0)) fr1 [tB cv ov pv]=some (.normal,fr2,[tB cv ov pv]):=by rw[x_block,x_loop,p2];rfl
  rw[c136,x_cont1 r0,x_cont1 r1,x_assoc,x_cont1 r2,x_cont1 el]
  simp -implicitDefEqProofs (maxDischargeDepth:=4) only[go_sem]
  exact⟨_,rfl⟩
 obtain⟨H',h⟩:=run
 rw[pcall_eq (v:=bv true) (H':=H') (by
  show callB cx D 0 136 [.agg [cl0 cv,cl0 ov,cl0 pv],cl2 w] []=_
  rw[hc.cl0,ho.cl0,hp.cl0,hw.cl2]
  exact h)]
 rfl
theorem OfOk.rel{ns T:List Nd}{cls:List Cl}{ofs:List Nat}{prs:List Int}(h:OfOk ns T cls ofs prs)(hg:Good ns):Rel NdEq (duT ns) T:=half2_eq (duT_half hg) h.h
theorem OfOk.re{ns T:List Nd}{cls:List Cl}{ofs:List Nat}{prs:List Int}(h:OfOk ns T cls ofs prs)(hg:Good ns):ofs=clsO (duT ns) (atsOf (duT ns))∧prs=(List.range (duT ns).length).map (prI (duT ns) (atsOf (duT ns)))∧cls.length=clsN (duT ns) (atsOf (duT ns))∧T.length=(duT ns).length:=by
 have r:=h.rel hg
 exact⟨by rw[h.o,clsO_eq r],by rw[h.p,prI_eq r,r.len],by rw[h.c.len,clsN_eq r],r.len.symm⟩
theorem OfOk.one{ns T:List Nd}{cls:List Cl}{ofs:List Nat}{prs:List Int}(h:OfOk ns T cls ofs prs){c:Nat}(hc:c<cls.length):∃z j,cls[c]?=some z∧j<T.length∧ofs.getD j 0=c∧IsCl T (atsOf T) ofs ns.length z j:=by
 have hM:=h.c.len
 have on:=(num_ok (eiR_eqv (L:=labI T (atsOf T)) (S:=sucJ T (atsOf T)) T.length) T.length (Nat.le_refl _)).on c (by rw[hM]at hc;exact hc)
 obtain⟨j,hj,e⟩:=on
 have ej:ofs.getD j 0=c:=by
  rw[h.o]
  unfold clsO clsR
  rw[cn_num _ _ hj,e]
 obtain⟨z,j',h1,h2,h3,h4⟩:=h.c.at' j hj
 exact⟨z,j',by rw[←ej];exact h3,h1,by rw[h2,ej],h4⟩
theorem reck{ns:List Nd}(hg:Good ns){k:Nat}{l:List Nat}{M:Nat}(h:ck (labI (duT ns) (atsOf (duT ns))) (sucJ (duT ns) (atsOf (duT ns))) (duT ns).length k=ck (labI (duT ns) (atsOf (duT ns))) (sucJ (duT ns) (atsOf (duT ns))) (duT ns).length (k+1))
  (hl:it (labI (duT ns) (atsOf (duT ns))) (sucJ (duT ns) (atsOf (duT ns))) (duT ns).length (k+2)=l) (hM:ck (labI (duT ns) (atsOf (duT ns))) (sucJ (duT ns) (atsOf (duT ns))) (duT ns).length (k+1)=M):clsO (duT ns) (atsOf (duT ns))=l∧clsN (duT ns) (atsOf (duT ns))=M:=by
 have W:PtWf (duT ns) (atsOf (duT ns)) (List.replicate (duT ns).length 0):=wf_half hg (duT_half hg) List.length_replicate
 obtain⟨h1,h2⟩:=cls_reckon W h
 rw[h1,h2]
 exact⟨hl,hM⟩
def wA:List Nd:=[mkNd 1 0 false 0 0 [(1,0)],niN 0 0 false 0 0]
def wB:List Nd:=[mkNd 1 0 false 0 0 [(1,0)],mkNd 2 1 false 0 0 [(0,3)],mkNd 1 5 false 0 0 [(3,0)],mkNd 2 6 false 0 0 [(2,3)]]
def wD:List Nd:=[mkNd 1 0 false 0 0 [(1,0)],mkNd 2 1 false 0 0 [(0,2)]]
def wC:List Nd:=[mkNd 1 0 false 0 0 [(0,1)],mkNd 1 0 false 0 0 [(0,2)],niN 0 0 false 0 0]
theorem wA_g:Good wA:=chk_good (by decide)
theorem wB_g:Good wB:=chk_good (by decide)
theorem wC_g:Good wC:=chk_good (by decide)
theorem wD_g:Good wD:=chk_good (by decide)
theorem wA_r:clsO (duT wA) (atsOf (duT wA))=[0,1,2,1]∧clsN (duT wA) (atsOf (duT wA))=3:=reck wA_g (k:=0) (by decide) (by decide) (by decide)
theorem wB_r:clsO (duT wB) (atsOf (duT wB))=[0,1,0,1,2,3,2,3]∧clsN (duT wB) (atsOf (duT wB))=4:=reck wB_g (k:=0) (by decide) (by decide) (by decide)
theorem wD_r:clsO (duT wD) (atsOf (duT wD))=[0,1,1,0]∧clsN (duT wD) (atsOf (duT wD))=2:=reck wD_g (k:=0) (by decide) (by decide) (by decide)
theorem wC_r:∃l M,clsO (duT wC) (atsOf (duT wC))=0::1::l∧l.length=4∧clsN (duT wC) (atsOf (duT wC))=M:=by
 obtain⟨h1,h2⟩:=reck wC_g (k:=0) (l:=(it (labI (duT wC) (atsOf (duT wC))) (sucJ (duT wC) (atsOf (duT wC))) (duT wC).length 2)) (by decide) rfl rfl
 exact⟨_,_,h1.trans (show _=0::1::((it (labI (duT wC) (atsOf (duT wC))) (sucJ (duT wC) (atsOf (duT wC))) (duT wC).length 2).drop 2) by decide),by decide,rfl⟩
theorem tb_at{cv ov pv:AV}{cls:List Cl}{ofs:List Nat}{prs:List Int}(t:TbOk cv ov pv cls ofs prs){k:Nat}{z:Cl}(h:cls[k]?=some z):aindexAddr cx.T 93 cv (iv k)=some (.vp (clW z) 0):=by
 have hk:=(List.getElem?_eq_some_iff.1 h).1
 rw[aindexAddr_sl t.c sl93 (by rw[List.length_map];exact hk) rfl]
 simp[List.getD_eq_getElem?_getD,h]
theorem tb_of{cv ov pv:AV}{cls:List Cl}{ofs:List Nat}{prs:List Int}(t:TbOk cv ov pv cls ofs prs){k:Nat}(h:k<ofs.length):aindexAddr cx.T 31 ov (iv k)=some (.vp (nv (ofs.getD k 0)) 0):=by
 rw[aindexAddr_sl t.o sl31 (by rw[List.length_map];exact h) rfl,get_nv h]
theorem tb_pr{cv ov pv:AV}{cls:List Cl}{ofs:List Nat}{prs:List Int}(t:TbOk cv ov pv cls ofs prs){k:Nat}(h:k<prs.length):aindexAddr cx.T 31 pv (iv k)=some (.vp (iv (prs.getD k 0)) 0):=by
 rw[aindexAddr_sl t.p sl31 (by rw[List.length_map];exact h) rfl]
 simp[List.getD_eq_getElem?_getD,List.getElem?_eq_getElem h]
theorem kd_of{ns T:List Nd}{cls:List Cl}{ofs:List Nat}{prs:List Int}(h:OfOk ns T cls ofs prs)(hg:Good ns){z:Cl}{j:Nat}(i:IsCl T (atsOf T) ofs ns.length z j):z.kd=(nodeAt (duT ns) (atsOf (duT ns)) j).kind:=by
 have r:=h.rel hg
 rw[i.kd,atsOf_eq r,(nodeAt_eq r (atsOf (duT ns)) j).kd]
theorem of_fine{ns:List Nd}{a:AV}(hns:NsOk ns a)(hg:Good ns)(h0:(ordC ns).2=0):∃cv ov pv T cls ofs prs,pcall D 73 [a]=some (.tup [.agg [cv,ov,pv],iv 0])∧TbOk cv ov pv cls ofs prs∧OfOk ns T cls ofs prs∧
  ofs=clsO (duT ns) (atsOf (duT ns))∧prs=(List.range (duT ns).length).map (prI (duT ns) (atsOf (duT ns)))∧cls.length=clsN (duT ns) (atsOf (duT ns)):=by
 obtain⟨cv,ov,pv,T,cls,ofs,prs,h1,h2,h3⟩:=of_ok hns h0
 obtain⟨e1,e2,e3,e4⟩:=h3.re hg
 exact⟨cv,ov,pv,T,cls,ofs,prs,h1,h2,h3,e1,e2,e3⟩
abbrev vWA:AV:=.vec 6 .exact [.agg [iv 1,iv 0,bv false,iv 0,iv 0,.vec 2 .exact [.agg [iv 1,iv 0]]],.agg [iv 0,iv 0,bv false,iv 0,iv 0,.lit (.slice none 0 0)]]
abbrev vWB:AV:=.vec 6 .exact [.agg [iv 1,iv 0,bv false,iv 0,iv 0,.vec 2 .exact [.agg [iv 1,iv 0]]],.agg [iv 2,iv 1,bv false,iv 0,iv 0,.vec 2 .exact [.agg [iv 0,iv 3]]],.agg [iv 1,iv 5,bv false,iv 0,iv 0,.vec 2 .exact [.agg [iv 3,iv 0]]],.agg [iv 2,iv 6,bv false,iv 0,iv 0,.vec 2 .exact [.agg [iv 2,iv 3]]]]
abbrev vWD:AV:=.vec 6 .exact [.agg [iv 1,iv 0,bv false,iv 0,iv 0,.vec 2 .exact [.agg [iv 1,iv 0]]],.agg [iv 2,iv 1,bv false,iv 0,iv 0,.vec 2 .exact [.agg [iv 0,iv 2]]]]
abbrev vWC:AV:=.vec 6 .exact [.agg [iv 1,iv 0,bv false,iv 0,iv 0,.vec 2 .exact [.agg [iv 0,iv 1]]],.agg [iv 1,iv 0,bv false,iv 0,iv 0,.vec 2 .exact [.agg [iv 0,iv 2]]],.agg [iv 0,iv 0,bv false,iv 0,iv 0,.lit (.slice none 0 0)]]
theorem nds_ok{ns:List Nd}(h:∀x∈ns,NdOk x)(hl:ns.length<2 ^ 30):NsOk ns (.vec 6 .exact (ns.map nodeV)):=⟨.inl rfl,h,hl⟩
theorem wA_ok:NsOk wA vWA:=nds_ok (by
 intro x hx
 simp only[wA,List.mem_cons,List.not_mem_nil,or_false]at hx
 rcases hx with rfl | rfl
 ·exact mkNd_ok ..
 ·exact niN_ok ..) (show 2<2 ^ 30 by decide)
theorem wB_ok:NsOk wB vWB:=nds_ok (by
 intro x hx
 simp only[wB,List.mem_cons,List.not_mem_nil,or_false]at hx
 rcases hx with rfl | rfl | rfl | rfl<;>exact mkNd_ok ..) (show 4<2 ^ 30 by decide)
theorem wD_ok:NsOk wD vWD:=nds_ok (by
 intro x hx
 simp only[wD,List.mem_cons,List.not_mem_nil,or_false]at hx
 rcases hx with rfl | rfl<;>exact mkNd_ok ..) (show 2<2 ^ 30 by decide)
theorem wC_ok:NsOk wC vWC:=nds_ok (by
 intro x hx
 simp only[wC,List.mem_cons,List.not_mem_nil,or_false]at hx
 rcases hx with rfl | rfl | rfl
 ·exact mkNd_ok ..
 ·exact mkNd_ok ..
 ·exact niN_ok ..) (show 3<2 ^ 30 by decide)
theorem prB:((List.range (duT wB).length).map (prI (duT wB) (atsOf (duT wB)))).length=8∧((List.range (duT wB).length).map (prI (duT wB) (atsOf (duT wB)))).getD 0 0=0∧((List.range (duT wB).length).map (prI (duT wB) (atsOf (duT wB)))).getD 2 0=5:=by decide
theorem works7_call:∃H',callB cx D 0 76 [] []=some (bv true,H'):=by
 obtain⟨c1,o1,p1,T1,cl1',of1,pr1,k1,t1,ok1,e1,_,m1⟩:=of_fine wA_ok wA_g (by decide)
 obtain⟨c2,o2,p2,T2,cl2',of2,pr2,k2,t2,ok2,e2,q2,_⟩:=of_fine wB_ok wB_g (by decide)
 obtain⟨c3,o3,p3,T3,cl3',of3,pr3,k3,t3,ok3,e3,_,_⟩:=of_fine wD_ok wD_g (by decide)
 obtain⟨c4,o4,p4,T4,cl4',of4,pr4,k4,t4,ok4,e4,_,_⟩:=of_fine wC_ok wC_g (by decide)
 rw[wA_r.2]at m1
 rw[wA_r.1]at e1
 rw[wB_r.1]at e2
 rw[wD_r.1]at e3
 obtain⟨l,M,h4,l4,_⟩:=wC_r
 rw[h4]at e4
 obtain⟨z0,j0,a0,b0,d0,i0⟩:=ok1.one (c:=0) (by omega)
 obtain⟨z1,j1,a1,b1,d1,i1⟩:=ok1.one (c:=1) (by omega)
 obtain⟨z2,j2,a2,b2,d2,i2⟩:=ok1.one (c:=2) (by omega)
 have hT1:T1.length=4:=ok1.h.ln
 have n0:z0.kd=1:=by
  rw[kd_of ok1 wA_g i0]
  rw[e1]at d0
  have:j0=0∨j0=1∨j0=2∨j0=3:=by omega
  rcases this with rfl | rfl | rfl | rfl
  ·decide
  ·cases d0
  ·cases d0
  ·cases d0
 have n1:z1.kd=0:=by
  rw[kd_of ok1 wA_g i1]
  rw[e1]at d1
  have:j1=0∨j1=1∨j1=2∨j1=3:=by omega
  rcases this with rfl | rfl | rfl | rfl
  ·cases d1
  ·decide
  ·cases d1
  ·decide
 have n2:z2.kd=2:=by
  rw[kd_of ok1 wA_g i2]
  rw[e1]at d2
  have:j2=0∨j2=1∨j2=2∨j2=3:=by omega
  rcases this with rfl | rfl | rfl | rfl
  ·cases d2
  ·cases d2
  ·decide
  ·cases d2
 have hp2:=prB
 rw[←q2]at hp2
 subst e1 e2 e3 e4
 have i1':=is_ok t1.c t1.o t1.p (w:=.vec 1 .exact [iv 0,iv 1,iv 2,iv 1]) (.inl rfl) (by decide)
 have i2':=is_ok t2.c t2.o t2.p (w:=.vec 1 .exact [iv 0,iv 1,iv 0,iv 1,iv 2,iv 3,iv 2,iv 3]) (.inl rfl) (by decide)
 have i3':=is_ok t3.c t3.o t3.p (w:=.vec 1 .exact [iv 0,iv 1,iv 1,iv 0]) (.inl rfl) (by decide)
 have x0:aindexAddr cx.T 93 c1 (iv 0)=some (.vp (clW z0) 0):=tb_at t1 a0
 have x1:aindexAddr cx.T 93 c1 (iv 1)=some (.vp (clW z1) 0):=tb_at t1 a1
 have x2:aindexAddr cx.T 93 c1 (iv 2)=some (.vp (clW z2) 0):=tb_at t1 a2
 have y0:aindexAddr cx.T 31 p2 (iv 0)=some (.vp (iv 0) 0):=by
  have:=tb_pr t2 (k:=0) (by omega)
  rw[hp2.2.1]at this
  exact this
 have y2:aindexAddr cx.T 31 p2 (iv 2)=some (.vp (iv 5) 0):=by
  have:=tb_pr t2 (k:=2) (by omega)
  rw[hp2.2.2]at this
  exact this
 have u0:aindexAddr cx.T 31 o4 (iv 0)=some (.vp (iv 0) 0):=tb_of t4 (k:=0) (Nat.succ_pos _)
 have u1:aindexAddr cx.T 31 o4 (iv 1)=some (.vp (iv 1) 0):=tb_of t4 (k:=1) (Nat.succ_lt_succ (Nat.succ_pos _))
 have l1:((cl1'.length:Nat):Int)=3:=by omega
 have l2:((pr2.length:Nat):Int)=8:=by omega
 have l4':(((0::1::l).length:Nat):Int)=6:=by rw[List.length_cons,List.length_cons,l4];rfl
 have al1:∀H,alen cx.T 93 H c1=some (iv 3):=fun H=>by rw[alen_sl t1.c (by rw[sl93];rfl),List.length_map,l1]
 have al2:∀H,alen cx.T 31 H p2=some (iv 8):=fun H=>by rw[alen_sl t2.p (by rw[sl31];rfl),List.length_map,l2]
 have al4:∀H,alen cx.T 31 H o4=some (iv 6):=fun H=>by rw[alen_sl t4.o (by rw[sl31];rfl),List.length_map,l4']
 obtain⟨fr1,q1,F1⟩:∃fr1:PT,ex cx D 0 76 134 (.seq (.region 0 g76_0 false) (.seq (.region 1 g76_1 false) (.seq (.region 2 g76_2 false) (.seq (.region 3 g76_3 false) (.region 4 g76_4 false))))) PT.nil []=some (.normal,fr1,[tB c1 o1 p1,tB c2 o2 p2,tB c3 o3 p3,tB c4 o4 p4])∧
   (fr1.get 1=.ptr 0 0 0∧fr1.get 2=iv 0∧fr1.get 3=.ptr 1 0 0∧fr1.get 4=iv 0∧fr1.get 5=.ptr 2 0 0∧fr1.get 6=iv 0∧fr1.get 7=.ptr 3 0 0∧fr1.get 8=iv 0):=by
  simp -implicitDefEqProofs (maxDischargeDepth:=4) only[go_sem,word7_ok,build66_0,k1,k2,k3,k4,t1.c.shr,t1.o.shr,t1.p.shr,t2.c.shr,t2.o.shr,t2.p.shr,t3.c.shr,t3.o.shr,t3.p.shr,t4.c.shr,t4.o.shr,t4.p.shr,t1.c.drp,t1.o.drp,t1.p.drp,t2.c.drp,t2.o.drp,t2.p.drp,t3.c.drp,t3.o.drp,t3.p.drp,t4.c.drp,t4.o.drp,t4.p.drp,List.set_cons_zero,Nat.zero_le,Nat.le_refl,Nat.not_lt_zero]
  exact⟨_,rfl,by simp only[go_sem],by simp only[go_sem],by simp only[go_sem],by simp only[go_sem],by simp only[go_sem],by simp only[go_sem],by simp only[go_sem],by simp only[go_sem]⟩
 obtain⟨f1,f2,f3,f4,f5,f6,f7,f8⟩:=F1
 obtain⟨fr2,q2,F2⟩:∃fr2:PT,ex cx D 0 76 134 (.seq (.region 5 g76_5 false) (.cond (.tmp 65) (.seq (.region 6 g76_6 false) .ret) .skip)) fr1 [tB c1 o1 p1,tB c2 o2 p2,tB c3 o3 p3,tB c4 o4 p4]=some (.normal,fr2,[tB c1 o1 p1,tB c2 o2 p2,tB c3 o3 p3,tB c4 o4 p4])∧
   (fr2.get 1=.ptr 0 0 0∧fr2.get 3=.ptr 1 0 0∧fr2.get 5=.ptr 2 0 0∧fr2.get 7=.ptr 3 0 0):=by
  simp -implicitDefEqProofs (maxDischargeDepth:=4) only[go_sem,f1,f2,f3,f4,f6,f8,t1.c.shr,t2.p.shr,al1,al2]
  exact⟨_,rfl,by simp only[go_sem,f1],by simp only[go_sem,f3],by simp only[go_sem,f5],by simp only[go_sem,f7]⟩
 obtain⟨g1,g3,g5,g7⟩:=F2
 obtain⟨_,_,r0,t⟩:=x_split q1
 obtain⟨_,_,r1,t⟩:=x_split t
 obtain⟨_,_,r2,t⟩:=x_split t
 obtain⟨_,_,r3,r4⟩:=x_split t
 rw[c76,x_cont1 r0,x_cont1 r1,x_cont1 r2,x_cont1 r3,x_cont1 r4,x_cont1 q2]
 simp -implicitDefEqProofs (maxDischargeDepth:=4) only[go_sem,g1,g3,g5,g7,t1.c.shr,t1.o.shr,t1.p.shr,t2.c.shr,t2.o.shr,t2.p.shr,t3.c.shr,t3.o.shr,t3.p.shr,t4.o.shr,t1.c.shut0,t1.o.shut0,t1.p.shut0,t2.c.shut0,t2.o.shut0,t2.p.shut0,t3.c.shut0,t3.o.shut0,t3.p.shut0,t4.o.notOwn,t4.o.lenRd,t1.c.notOwn,t2.p.notOwn,i1',i2',i3',x0,x1,x2,n0,n1,n2,y0,y2,u0,u1,al4,nbeq]
 exact⟨_,rfl⟩
theorem works7_ok:pcall D 76 []=some (bv true):=by
 obtain⟨H',h⟩:=works7_call
 rw[pcall_eq (vs:=[]) (v:=bv true) (H':=H') (by rw[List.map_nil];exact h)]
 rfl
structure Du(ns T:List Nd)(tv:AV):Prop where
 g:OrdOk ns
 h:Half2 ns T
 n:NsOk T tv
theorem Du.len{ns T:List Nd}{tv:AV}(d:Du ns T tv):T.length≤128:=by have:=d.g.le;have:=d.h.ln;omega
theorem Du.from{ns T:List Nd}{tv:AV}(d:Du ns T tv):∀y∈T,∃x∈ns,∃ks far,half ks far x y:=fun y hy=>by
 obtain⟨i,hi⟩:=List.getElem?_of_mem hy
 have hil:=(List.getElem?_eq_some_iff.1 hi).1
 have hln:=d.h.ln
 by_cases h:i<ns.length
 ·obtain⟨x,hx⟩:=ex_nd (ns:=ns) h
  obtain⟨y',hy',hh⟩:=d.h.h1 i x hx
  rw[hi]at hy'
  cases hy'
  exact⟨x,List.mem_of_getElem? hx,_,_,hh⟩
 ·obtain⟨j,rfl⟩:∃j,i=ns.length+j:=⟨i-ns.length,by omega⟩
  obtain⟨x,hx⟩:=ex_nd (ns:=ns) (i:=j) (by omega)
  obtain⟨y',hy',hh⟩:=d.h.h2 j x hx
  rw[hi]at hy'
  cases hy'
  exact⟨x,List.mem_of_getElem? hx,_,_,hh⟩
theorem Du.wide{ns T:List Nd}{tv:AV}(d:Du ns T tv){y:Nd}(hy:y∈T){e:Int×Int}(he:e∈oE y):0≤e.2∧e.2≤1000:=by
 obtain⟨x,hx,ks,far,hh⟩:=d.from y hy
 rcases half_oE hh he with⟨e0,h0,rfl⟩ | ⟨hc,rfl⟩
 ·exact oE_wide (d.g.sh x hx) e0 (by unfold oE;exact List.mem_append_left _ h0)
 ·exact oE_wide (d.g.sh x hx) (x.pt,x.ps) (by unfold oE;rw[if_pos hc];exact List.mem_append_right _ (List.mem_singleton.2 rfl))
theorem Du.small{ns T:List Nd}{tv:AV}(d:Du ns T tv):Small T:=fun y hy e he=>d.wide hy (by unfold oE;exact List.mem_append_left _ he)
theorem Du.prio{ns T:List Nd}{tv:AV}(d:Du ns T tv){y:Nd}(hy:y∈T):0≤y.prio∧y.prio≤1000:=by
 obtain⟨x,hx,ks,far,hh⟩:=d.from y hy
 rw[hh.2.1]
 exact shp_prio (d.g.sh x hx)
theorem Du.wf{ns T:List Nd}{tv:AV}(d:Du ns T tv){ofs:List Nat}(h:ofs.length=T.length):PtWf T (atsOf T) ofs:=wf_half d.g.toGood d.h h
def tgt(T:List Nd)(i:Nat):Nat:=((atsOf T).getD i (0,0)).1.toNat
theorem Du.at'{ns T:List Nd}{tv:AV}(d:Du ns T tv){i:Nat}(hi:i<T.length):∃(o:Int)(y:Nd),wlk T T.length i 0=((tgt T i:Int),o)∧T[tgt T i]?=some y∧nodeAt T (atsOf T) i=y∧0≤o∧o≤800000∧(atsOf T).getD i (0,0)=((tgt T i:Int),o):=by
 have hl:=d.len
 obtain⟨q,o,hq,hx,hm⟩:=at_node (d.wf (ofs:=List.replicate T.length 0) List.length_replicate) hi
 have hw:=atsOf_at hi
 rw[hq]at hw
 have ht:tgt T i=q:=by unfold tgt;rw[hq];exact Int.toNat_natCast q
 have h0:=wlk_add2 d.small (d:=0) (by omega) hw.symm (by omega) (Int.le_refl _) (by omega)
 rw[ht]
 exact⟨o,_,hw.symm,hx,rfl,h0.2.1,h0.2.2,hq⟩
theorem place_ok{ns T:List Nd}{tv:AV}(d:Du ns T tv){a:Nat}{x:Nd}(hx:T[a]?=some x){e:Int×Int}(he:e∈oE x):pcall D 162 [tv,iv a,ed e]=some (.tup [iv (tgt T e.1.toNat),iv (jmpE T (atsOf T) x.prio e)]):=by
 have hmx:=List.mem_of_getElem? hx
 have hcl:=(d.wf (ofs:=List.replicate T.length 0) List.length_replicate).cl x hmx e he
 have hwd:=d.wide hmx he
 have hl:=d.len
 obtain⟨t,ht⟩:∃t:Nat,e.1=t:=⟨e.1.toNat,by omega⟩
 obtain⟨o,y,h1,h2,h3,h4,h5,h6⟩:=d.at' (i:=t) (by omega)
 have hy:=List.mem_of_getElem? h2
 have p1:=d.prio hmx
 have p2:=d.prio hy
 have hw:=(wlk_add2 d.small (d:=e.2) (by omega) h1 (by omega) (Int.le_refl _) (by omega)).1
 rw[Int.zero_add]at hw
 have r52:=rres_ok d.n e.1 e.2
 rw[ht,hw]at r52
 have hj:jmpE T (atsOf T) x.prio e=if y.kind=0 then 0 else y.prio+o+e.2-x.prio:=by
  have hn:T.getD (((atsOf T).getD t (0,0)).1).toNat ndZ=y:=by rw[h6,Int.toNat_natCast,List.getD_eq_getElem?_getD,h2];rfl
  unfold jmpE lkE lk
  rw[ht,Int.toNat_natCast,hn,h6]
  dsimp only
  split
  ·rfl
  ·rw[wrapK_i64 (n:=y.prio+o) (by omega) (by omega),wrapK_i64 (n:=y.prio+o+e.2) (by omega) (by omega),wrapK_i64 (by omega) (by omega)]
 have sx:Sl 2 x.nx (x.es.map ed):=d.n.ok x hmx
 have sy:Sl 2 y.nx (y.es.map ed):=d.n.ok y hy
 have a1:=d.n.at h2
 have a2:=d.n.at hx
 rw[hj,ht,Int.toNat_natCast]
 obtain⟨e1,e2⟩:=e
 dsimp only at ht hw r52 hwd p1 p2 ⊢
 subst ht
 have run:∃H',callB cx D 0 162 [tv,iv a,ed ((t:Int),e2)] []=some (.tup [iv (tgt T t),iv (if y.kind=0 then 0 else y.prio+o+e2-x.prio)],H'):=by
  rw[c162]
  by_cases hk:y.kind=0
  ·rw[if_pos hk]
   simp -implicitDefEqProofs (maxDischargeDepth:=4) only[go_sem,d.n.sl.shr,d.n.sl.notOwn,d.n.sl.drp,d.n.sl.shut1,build61,r52,a1,hk,Nat.zero_le,Nat.le_refl,Nat.not_lt_zero,List.set_cons_zero,List.set_cons_succ]
   exact⟨_,rfl⟩
  ·rw[if_neg hk]
   have w1:wrapK .i64 (y.prio+(o+e2))=y.prio+o+e2:=by rw[wrapK_i64 (by omega) (by omega)];omega
   have w2:wrapK .i64 (y.prio+o+e2-x.prio)=y.prio+o+e2-x.prio:=wrapK_i64 (by omega) (by omega)
   simp -implicitDefEqProofs (maxDischargeDepth:=4) only[go_sem,d.n.sl.shr,d.n.sl.notOwn,d.n.sl.drp,d.n.sl.shut1,build61,r52,a1,a2,hk,w1,w2,nbeq,Nat.zero_le,Nat.le_refl,Nat.not_lt_zero,List.set_cons_zero,List.set_cons_succ]
   exact⟨_,rfl⟩
 obtain⟨H',h⟩:=run
 rw[pcall_eq (v:=.tup [iv (tgt T t),iv (if y.kind=0 then 0 else y.prio+o+e2-x.prio)]) (H':=H') (by
  show callB cx D 0 162 [cl2 tv,iv a,ed ((t:Int),e2)] []=_
  rw[d.n.sl.cl2]
  exact h)]
 rfl
end Go.Abs.Tab
namespace Go.Abs
end Go.Abs
namespace Go.Abs.Tab
open Go.Gr
def un1(T:List Nd)(A:Nat→Nat→Bool)(p q:Int)(e f:Int×Int):Bool:=A (tgt T e.1.toNat) (tgt T f.1.toNat)||!decide (jmpE T (atsOf T) p e=jmpE T (atsOf T) q f)
def unl(T:List Nd)(A:Nat→Nat→Bool)(x y:Nd):Bool :=
 !(decide (x.kind=y.kind)&&decide (x.chan=y.chan)&&decide (x.es.length=y.es.length))||(x.chan&&un1 T A x.prio y.prio (x.pt,x.ps) (y.pt,y.ps))||(List.range x.es.length).any (fun k=>un1 T A x.prio y.prio (x.es.getD k (0,0)) (y.es.getD k (0,0)))
abbrev rowV(N:Nat)(i:Nat):AV:=.sl (2+i) 1 0 N N
abbrev rowB(N:Nat)(f:Nat→Bool):ABlock:=.cells 1 4 ((List.range N).map fun j=>bv (f j))
structure ApH(H:Hp)(N:Nat)(A:Nat→Nat→Bool):Prop where
 a:H[1]?=some (.cells 1 26 ((List.range N).map (rowV N)))
 r:∀i,i<N→H[2+i]?=some (rowB N (A i))
theorem ApH.grow{H:Hp}{N:Nat}{A:Nat→Nat→Bool}(h:ApH H N A)(L:Hp):ApH (H++L) N A :=
 ⟨by rw[hp_get_l (lt_of_get h.a),h.a],fun i hi=>by rw[hp_get_l (lt_of_get (h.r i hi)),h.r i hi]⟩
theorem rng_get{α:Type}{f:Nat→α}{N i:Nat}(h:i<N):((List.range N).map f)[i]?=some (f i):=by
 rw[List.getElem?_map,List.getElem?_range h]
 rfl
theorem Du.tgt_lt{ns T:List Nd}{tv:AV}(d:Du ns T tv){i:Nat}(hi:i<T.length):tgt T i<T.length:=by
 obtain⟨o,y,_,h2,_⟩:=d.at' hi
 exact(List.getElem?_eq_some_iff.1 h2).1
theorem Du.to_lt{ns T:List Nd}{tv:AV}(d:Du ns T tv){x:Nd}(hx:x∈T){e:Int×Int}(he:e∈oE x):e.1.toNat<T.length:=by
 have:=(d.wf (ofs:=List.replicate T.length 0) List.length_replicate).cl x hx e he
 omega
theorem oE_len{x y:Nd}(h:x.es.length=y.es.length)(hc:x.chan=y.chan):(oE x).length=(oE y).length:=by
 unfold oE
 rw[List.length_append,List.length_append,h,hc]
 split<;>rfl
theorem oE_at{x:Nd}{p:Nat}{e:Int×Int}:(oE x)[p]?=some e↔(p<x.es.length∧x.es.getD p (0,0)=e)∨(p=x.es.length∧x.chan=true∧e=(x.pt,x.ps)):=by
 unfold oE
 by_cases h:p<x.es.length
 ·rw[List.getElem?_append_left h,List.getElem?_eq_getElem h,List.getD_eq_getElem?_getD,List.getElem?_eq_getElem h]
  constructor
  ·intro h1;exact .inl ⟨h,Option.some.inj h1⟩
  ·rintro (⟨_,h1⟩ | ⟨h1,_⟩)
   ·exact congrArg some h1
   ·omega
 ·rw[List.getElem?_append_right (by omega)]
  cases hc:x.chan with
  | false =>
   constructor
   ·intro h1;simp at h1
   ·rintro (⟨h1,_⟩ | ⟨_,h1,_⟩)
    ·omega
    ·cases h1
  | true =>
   rw[if_pos rfl]
   constructor
   ·intro h1
    cases hk:p-x.es.length with
    | zero =>
     rw[hk]at h1
     cases h1
     exact .inr ⟨by omega,rfl,rfl⟩
    | succ k=>rw[hk]at h1;simp at h1
   ·rintro (⟨h1,_⟩ | ⟨h1,_,rfl⟩)
    ·omega
    ·rw[h1,Nat.sub_self];rfl
theorem lab_iff{T:List Nd}{x y:Nd}:labN T (atsOf T) x=labN T (atsOf T) y↔x.kind=y.kind∧x.chan=y.chan∧x.es.length=y.es.length∧(oE x).map (jmpE T (atsOf T) x.prio)=(oE y).map (jmpE T (atsOf T) y.prio):=by
 unfold labN
 simp only[Prod.mk.injEq]
 constructor
 ·rintro ⟨a,b,c,d⟩;exact⟨a,b,by omega,d⟩
 ·rintro ⟨a,b,c,d⟩;exact⟨a,b,by omega,d⟩
theorem map2_eq{α β γ:Type}{f:α→γ}{g:β→γ}{a:List α}{b:List β}(hl:a.length=b.length):a.map f=b.map g↔∀(p:Nat)(x:α)(y:β),a[p]?=some x→b[p]?=some y→f x=g y:=by
 constructor
 ·intro h p x y hx hy
  have h1:(a.map f)[p]?=(b.map g)[p]?:=by rw[h]
  rw[List.getElem?_map,List.getElem?_map,hx,hy]at h1
  exact Option.some.inj h1
 ·intro h
  refine List.ext_getElem (by rw[List.length_map,List.length_map,hl]) fun p h1 h2=>?_
  rw[List.length_map]at h1 h2
  rw[List.getElem_map,List.getElem_map]
  exact h p _ _ (List.getElem?_eq_getElem h1) (List.getElem?_eq_getElem h2)
def upd2(A:Nat→Nat→Bool)(a b:Nat)(i j:Nat):Bool:=if i=a∧j=b then true else A i j
structure Sw(T:List Nd)(P:Nat→Nat→Prop)(A:Nat→Nat→Bool)(m:Bool)(A':Nat→Nat→Bool)(m':Bool):Prop where
 le:∀i j,A i j=true→A' i j=true
 snd:∀(E:Nat→Nat→Prop),(∀(B:Nat→Nat→Bool)(i j:Nat)(x y:Nd),T[i]?=some x→T[j]?=some y→x.kind≠5→y.kind≠5→(∀u v,B u v=true→¬E u v)→unl T B x y=true→¬E i j)→(∀u v,A u v=true→¬E u v)→∀u v,A' u v=true→¬E u v
 chg:m'=true→m=true∨∃i j,i<T.length∧j<T.length∧A i j=false∧A' i j=true
 kp:m=true→m'=true
 un:m'=false→A'=A∧∀(i j:Nat)(x y:Nd),P i j→T[i]?=some x→T[j]?=some y→x.kind≠5→y.kind≠5→A i j=false→unl T A x y=false
theorem Sw.refl(T:List Nd)(A:Nat→Nat→Bool)(m:Bool):Sw T (fun _ _=>False) A m A m :=
 ⟨fun _ _ h=>h,fun E _ h=>h,fun h=>.inl h,fun h=>h,fun _=>⟨rfl,fun i j x y h=>h.elim⟩⟩
theorem Sw.trans{T:List Nd}{P Q:Nat→Nat→Prop}{A B C:Nat→Nat→Bool}{a b c:Bool}(h:Sw T P A a B b)(k:Sw T Q B b C c):Sw T (fun i j=>P i j∨Q i j) A a C c:=by
 refine⟨fun i j h1=>k.le i j (h.le i j h1),fun E hE hA=>k.snd E hE (h.snd E hE hA),fun hc=>?_,fun ha=>k.kp (h.kp ha),fun hc=>?_⟩
 ·rcases k.chg hc with hb | ⟨i,j,h1,h2,h3,h4⟩
  ·rcases h.chg hb with ha | ⟨i,j,h1,h2,h3,h4⟩
   ·exact .inl ha
   ·exact .inr ⟨i,j,h1,h2,h3,k.le i j h4⟩
  ·refine .inr ⟨i,j,h1,h2,?_,h4⟩
   cases hA:A i j with
   | false=>rfl
   | true=>rw[h.le i j hA]at h3;cases h3
 ·have hb:b=false:=by
   cases hb:b with
   | false=>rfl
   | true=>rw[k.kp hb]at hc;cases hc
  obtain⟨e1,h1⟩:=k.un hc
  obtain⟨e2,h2⟩:=h.un hb
  subst e1 e2
  refine⟨rfl,fun i j x y hp=>?_⟩
  rcases hp with hp | hp
  ·exact h2 i j x y hp
  ·exact h1 i j x y hp
theorem Sw.mono{T:List Nd}{P Q:Nat→Nat→Prop}{A B:Nat→Nat→Bool}{a b:Bool}(h:Sw T P A a B b)(hPQ:∀i j,Q i j→P i j):Sw T Q A a B b :=
 ⟨h.le,h.snd,h.chg,h.kp,fun hb=>⟨(h.un hb).1,fun i j x y hq=>(h.un hb).2 i j x y (hPQ i j hq)⟩⟩
structure FFr(fr:PT)(a tv:AV)(N:Nat):Prop where
 f0:fr.get 0=a
 f2:fr.get 2=.ptr 0 0 0
 f6:fr.get 6=tv
 f7:fr.get 7=.sl 1 1 0 N N
theorem FFr.of{fr fr':PT}{a tv:AV}{N:Nat}(F:FFr fr a tv N)(h:∀t,(t=0∨t=2∨t=6∨t=7)→fr'.get t=fr.get t):FFr fr' a tv N :=
 ⟨by rw[h 0 (by simp),F.f0],by rw[h 2 (by simp),F.f2],by rw[h 6 (by simp),F.f6],by rw[h 7 (by simp),F.f7]⟩
structure MkH(G:Hp)(N:Nat)(A:Nat→Nat→Bool):Prop extends ApH G N A where
 t:G[0]?=some tZ
theorem upd2_row{A:Nat→Nat→Bool}{N a b:Nat}(ha:a<N)(hb:b<N):((List.range N).map fun j=>bv (A a j)).set b (bv true)=(List.range N).map fun j=>bv (upd2 A a b a j):=by
 refine List.ext_getElem (by simp) fun k h1 h2=>?_
 rw[List.getElem_set]
 simp only[List.getElem_map,List.getElem_range,upd2]
 split
 ·rename_i e
  subst e
  simp
 ·rename_i e
  rw[if_neg (fun h=>e h.2.symm)]
theorem MkH.st{G:Hp}{N:Nat}{A:Nat→Nat→Bool}(h:MkH G N A){a b:Nat}(ha:a<N)(hb:b<N):stV 0 G false 1 (.ptr (2+a) b 0) (bv true)=some (G.set (2+a) (rowB N (upd2 A a b a))):=by
 have hg:((List.range N).map fun j=>bv (A a j))[b]?=some (bv (A a b)):=rng_get hb
 rw[stV_eq,if_neg (Nat.not_lt_zero _),h.r a ha,cellsB_cells,xbind_some]
 dsimp only
 rw[hg,xbind_some,elS_one (by rfl),xbind_some,upd2_row ha hb]
structure MFr74(fr:PT)(a tv:AV)(N:Nat)(m:Bool)(i j:Nat):Prop extends FFr fr a tv N where
 f9:fr.get 9=bv m
 f10:fr.get 10=iv i
 f11:fr.get 11=iv j
theorem MFr74.of{fr fr':PT}{a tv:AV}{N i j:Nat}{m:Bool}(F:MFr74 fr a tv N m i j)(h:∀t,(t=0∨t=2∨t=6∨t=7∨t=9∨t=10∨t=11)→fr'.get t=fr.get t):MFr74 fr' a tv N m i j :=
 ⟨F.toFFr.of fun t ht=>h t (by rcases ht with rfl | rfl | rfl | rfl<;>simp),by rw[h 9 (by simp),F.f9],by rw[h 10 (by simp),F.f10],by rw[h 11 (by simp),F.f11]⟩
theorem Du.no5{ns T:List Nd}{tv:AV}(d:Du ns T tv){i:Nat}(hi:i<T.length):∃(y:Nd),T[tgt T i]?=some y∧nodeAt T (atsOf T) i=y∧y.kind≠5∧tgt T (tgt T i)=tgt T i∧nodeAt T (atsOf T) (tgt T i)=y:=by
 obtain⟨o,y,h1,h2,h3,_⟩:=d.at' hi
 have ht:=d.tgt_lt hi
 have hk:y.kind≠5:=by
  rcases wlk_cases (ns:=T) T.length (i:Int) 0 with h | ⟨m,x,o',w,hx,ha,hk⟩
  ·rw[h1]at h
   have:=congrArg Prod.fst h
   dsimp only at this
   omega
  ·rw[h1]at w
   have:=congrArg Prod.fst w
   dsimp only at this
   have e:tgt T i=m:=by omega
   rw[e,hx]at h2
   cases h2
   exact hk
 obtain⟨o',y',g1,g2,g3,_⟩:=d.at' ht
 have e:tgt T (tgt T i)=tgt T i:=by
  obtain⟨N,hN⟩:∃N,T.length=N+1:=⟨T.length-1,by omega⟩
  rw[hN,wlk_ne (atN_nat h2) hk]at g1
  have:=congrArg Prod.fst g1
  dsimp only at this
  omega
 rw[e,h2]at g2
 cases g2
 exact⟨y,h2,h3,hk,e,g3⟩
section
variable {ns T:List Nd} {tv:AV}
theorem sucN_len(x:Nd):(sucN x).length=(oE x).length:=by unfold sucN;rw[List.length_map]
end
open Go.Gr
structure NuF(fr:PT)(a tv:AV)(N:Nat)(g:AV)(c p i:Nat):Prop extends FFr fr a tv N where
 f12:fr.get 12=.ptr c 0 0
 f13:fr.get 13=g
 f14:fr.get 14=iv i
 f15:fr.get 15=.ptr p 0 0
theorem NuF.of{fr fr':PT}{a tv g:AV}{N c p i:Nat}(F:NuF fr a tv N g c p i)(h:∀t,(t=0∨t=2∨t=6∨t=7∨t=12∨t=13∨t=14∨t=15)→fr'.get t=fr.get t):NuF fr' a tv N g c p i :=
 ⟨F.toFFr.of fun t ht=>h t (by rcases ht with rfl | rfl | rfl | rfl<;>simp),by rw[h 12 (by simp),F.f12],by rw[h 13 (by simp),F.f13],by rw[h 14 (by simp),F.f14],by rw[h 15 (by simp),F.f15]⟩
structure FsI(T:List Nd)(R:Nat→Nat→Bool)(i:Nat)(fs:List Nat):Prop where
 len:fs.length=cnt R i
 at':∀c,c<cnt R i→∃j,j<i∧num R j=c∧fs.getD c 0=tgt T j
theorem FsI.zero(T:List Nd)(R:Nat→Nat→Bool):FsI T R 0 []:=⟨rfl,fun c hc=>absurd (show c<0 from hc) (Nat.not_lt_zero _)⟩
section
variable {T:List Nd} {R A:Nat→Nat→Bool} {N i:Nat} {fs:List Nat}
theorem FsI.new(h:FsI T R i fs)(E:Eqv R N)(hi:i<N)(hA:∀j,j<N→A (tgt T j) (tgt T i) = !R j i)(hs:∀m,m<fs.length→A (fs.getD m 0) (tgt T i)=true):
  num R i=fs.length∧FsI T R (i+1) (fs++[tgt T i]):=by
 have ok:=num_ok E i (by omega)
 cases hf:(List.range i).find? (fun j=>R j i) with
 | some j =>
  exfalso
  obtain⟨hj,hr⟩:=find_lt hf
  have hm:=ok.lt j hj
  obtain⟨j',h1,h2,h3⟩:=h.at' _ hm
  have h4:=hs _ (by rw[h.len];exact hm)
  rw[h3,hA j' (by omega)]at h4
  have h5:=(ok.eq j' j h1 hj).1 h2
  rw[E.t j' j i (by omega) (by omega) hi h5 hr]at h4
  cases h4
 | none =>
  obtain⟨h1,h2⟩:=num_none hf
  refine⟨by rw[h1,h.len],by rw[List.length_append,h.len,h2];rfl,fun c hc=>?_⟩
  rw[h2]at hc
  by_cases e:c=cnt R i
  ·exact⟨i,by omega,by rw[h1,e],by rw[getD_last (by rw[h.len,e])]⟩
  ·obtain⟨j,k1,k2,k3⟩:=h.at' c (by omega)
   exact⟨j,by omega,k2,by rw[getD_snoc (by rw[h.len];omega),k3]⟩
end
open Go.Gr
abbrev outB74(ov pv:AV):ABlock:=tB (.lit (.slice none 0 0)) ov pv
structure NuH(G:Hp)(T:List Nd)(A:Nat→Nat→Bool)(R:Nat→Nat→Bool)(c i:Nat)(ov pv:AV):Prop extends MkH G T.length A where
 hc:2+T.length≤c
 c:G[c]?=some (outB74 ov pv)
 o:Grow 1 ov ((cn R i).1.map nv)
 p:Grow 1 pv (((List.range i).map (prI T (atsOf T))).map iv)
theorem NuH.len{G:Hp}{T:List Nd}{A R:Nat→Nat→Bool}{c i:Nat}{ov pv:AV}(h:NuH G T A R c i ov pv):c<G.length:=lt_of_get h.c
theorem MkH.grow{G:Hp}{N:Nat}{A:Nat→Nat→Bool}(h:MkH G N A)(L:Hp):MkH (G++L) N A:=⟨h.toApH.grow L,by rw[hp_get_l (lt_of_get h.t),h.t]⟩
theorem MkH.put{G:Hp}{N:Nat}{A:Nat→Nat→Bool}(h:MkH G N A){c:Nat}(hc:2+N≤c)(B:ABlock):MkH (G.set c B) N A :=
 ⟨⟨by rw[hp_ne (by omega),h.a],fun i hi=>by rw[hp_ne (by omega),h.r i hi]⟩,by rw[hp_ne (by omega),h.t]⟩
structure EdF(fr:PT)(a tv:AV)(N:Nat)(g:AV)(c n k:Nat):Prop extends FFr fr a tv N where
 f12:fr.get 12=.ptr c 0 0
 f13:fr.get 13=g
 f19:fr.get 19=iv k
 f20:fr.get 20=.ptr n 0 0
 f21:fr.get 21=.ptr (n+1) 0 0
theorem EdF.of{fr fr':PT}{a tv g:AV}{N c n k:Nat}(F:EdF fr a tv N g c n k)(h:∀t,(t=0∨t=2∨t=6∨t=7∨t=12∨t=13∨t=19∨t=20∨t=21)→fr'.get t=fr.get t):EdF fr' a tv N g c n k :=
 ⟨F.toFFr.of fun t ht=>h t (by rcases ht with rfl | rfl | rfl | rfl<;>simp),by rw[h 12 (by simp),F.f12],by rw[h 13 (by simp),F.f13],by rw[h 19 (by simp),F.f19],by rw[h 20 (by simp),F.f20],by rw[h 21 (by simp),F.f21]⟩
abbrev dsB(ds:List Nd):ABlock:=.cells 6 66 (ds.map nodeV)
structure RFr(fr:PT)(a:AV)(n L i:Nat):Prop where
 f0:fr.get 0=a
 f5:fr.get 5=iv n
 f6:fr.get 6=.sl 0 6 0 L L
 f7:fr.get 7=iv i
theorem RFr.of{fr fr':PT}{a:AV}{n L i:Nat}(F:RFr fr a n L i)(h:∀t,(t=0∨t=5∨t=6∨t=7)→fr'.get t=fr.get t):RFr fr' a n L i :=
 ⟨by rw[h 0 (by simp),F.f0],by rw[h 5 (by simp),F.f5],by rw[h 6 (by simp),F.f6],by rw[h 7 (by simp),F.f7]⟩
structure R5(fr:PT)(a:AV)(n L i:Nat)(w8 w9:AV):Prop extends RFr fr a n L i where
 f8:fr.get 8=w8
 f9:fr.get 9=w9
theorem R5.of{fr fr':PT}{a w8 w9:AV}{n L i:Nat}(F:R5 fr a n L i w8 w9)(h:∀t,(t=0∨t=5∨t=6∨t=7∨t=8∨t=9)→fr'.get t=fr.get t):R5 fr' a n L i w8 w9 :=
 ⟨⟨by rw[h 0 (by simp),F.f0],by rw[h 5 (by simp),F.f5],by rw[h 6 (by simp),F.f6],by rw[h 7 (by simp),F.f7]⟩,by rw[h 8 (by simp),F.f8],by rw[h 9 (by simp),F.f9]⟩
structure H55(ns ds:List Nd)(i:Nat):Prop where
 ln:ds.length=ns.length+ns.length
 ok:∀y∈ds,NdOk y
 h1:∀(j:Nat)(x y:Nd),j<i→ns[j]?=some x→ds[j]?=some y→half ks1 0 x y
 h2:∀(j:Nat)(x y:Nd),j<i→ns[j]?=some x→ds[ns.length+j]?=some y→half ks2 ns.length x y
theorem H55.step{ns ds:List Nd}{i:Nat}(h:H55 ns ds i){x y1 y2:Nd}(hx:ns[i]?=some x)(hy1:half ks1 0 x y1)(hy2:half ks2 ns.length x y2):H55 ns ((ds.set i y1).set (ns.length+i) y2) (i+1):=by
 have hi:=(List.getElem?_eq_some_iff.1 hx).1
 have hl:=h.ln
 refine⟨by simp only[List.length_set];exact hl,fun y hy=>?_,fun j x' y hj hx' hy=>?_,fun j x' y hj hx' hy=>?_⟩
 ·rcases List.mem_or_eq_of_mem_set hy with hy | rfl
  ·rcases List.mem_or_eq_of_mem_set hy with hy | rfl
   ·exact h.ok y hy
   ·exact hy1.2.2.2.2.2.2
  ·exact hy2.2.2.2.2.2.2
 ·rw[List.getElem?_set_ne (by omega)]at hy
  by_cases e:j=i
  ·subst e
   rw[hx]at hx'
   cases hx'
   rw[List.getElem?_set_self (by omega)]at hy
   cases hy
   exact hy1
  ·rw[List.getElem?_set_ne (by omega)]at hy
   exact h.h1 j x' y (by omega) hx' hy
 ·by_cases e:j=i
  ·subst e
   rw[hx]at hx'
   cases hx'
   rw[List.getElem?_set_self (by rw[List.length_set];omega)]at hy
   cases hy
   exact hy2
  ·rw[List.getElem?_set_ne (by omega),List.getElem?_set_ne (by omega)]at hy
   exact h.h2 j x' y (by omega) hx' hy
theorem cl1_nodes{ds:List Nd}(h:∀y∈ds,NdOk y):(ds.map nodeV).map Abs.cl1=ds.map nodeV:=by
 rw[List.map_map]
 refine List.map_congr_left fun y hy=>?_
 have hs:Sl 2 y.nx (y.es.map ed):=h y hy
 show AV.agg ((nodeC y).map Abs.cl0)=_
 simp only[List.map_cons,List.map_nil,cl0_lit,hs.cl0]
theorem H55.frz{ns ds:List Nd}(h:H55 ns ds ns.length):Abs.frz 0 [dsB ds] (.sl 0 6 0 (ns.length+ns.length) (ns.length+ns.length))=.vec 6 .shared (ds.map nodeV):=by
 show (if (0:Nat)<0 then AV.dead else if 0+(ns.length+ns.length)≤(ds.map nodeV).length∧(ns.length+ns.length)≤(ns.length+ns.length) then AV.vec 6 .shared ((((ds.map nodeV).drop 0).take (ns.length+ns.length)).map cl1) else .dead)=_
 rw[if_neg (Nat.lt_irrefl 0)]
 show (if 0+(ns.length+ns.length)≤(ds.map nodeV).length∧(ns.length+ns.length)≤(ns.length+ns.length) then AV.vec 6 .shared ((((ds.map nodeV).drop 0).take (ns.length+ns.length)).map cl1) else .dead)=_
 rw[if_pos (by rw[List.length_map,h.ln];omega),List.drop_zero,List.take_of_length_le (by rw[List.length_map,h.ln];omega),cl1_nodes h.ok]
theorem H55.nsOk{ns ds:List Nd}{i:Nat}(h:H55 ns ds i)(hl:ns.length≤64):NsOk ds (.vec 6 .shared (ds.map nodeV)):=by
 refine⟨.inr (.inl rfl),h.ok,?_⟩
 rw[h.ln]
 exact Nat.lt_of_le_of_lt (show ns.length+ns.length≤128 by omega) (by decide)
structure RCl(T:List Nd)(n:Nat)(fs:List Nat)(k:Nat)(cls:List Cl):Prop where
 len:cls.length=k
 ok:∀z∈cls,ClOk z
 at':∀m,m<k→∃z,cls[m]?=some z∧IsCl T (atsOf T) (clsO T (atsOf T)) n z (fs.getD m 0)
theorem RCl.step{T:List Nd}{n k:Nat}{fs:List Nat}{cls:List Cl}(h:RCl T n fs k cls){z:Cl}(hz:ClOk z)(hi:IsCl T (atsOf T) (clsO T (atsOf T)) n z (fs.getD k 0)):RCl T n fs (k+1) (cls++[z]):=by
 refine⟨by rw[List.length_append,h.len];rfl,fun y hy=>?_,fun m hm=>?_⟩
 ·rw[List.mem_append,List.mem_singleton]at hy
  rcases hy with hy | rfl
  ·exact h.ok y hy
  ·exact hz
 ·by_cases e:m=k
  ·subst e
   exact⟨z,by rw[List.getElem?_append_right (by rw[h.len];exact Nat.le_refl _),h.len,Nat.sub_self];rfl,hi⟩
  ·obtain⟨y,h1,h2⟩:=h.at' m (by omega)
   exact⟨y,by rw[List.getElem?_append_left (by rw[h.len];omega)];exact h1,h2⟩
theorem H55.half2{ns ds:List Nd}(h:H55 ns ds ns.length):Half2 ns ds:=by
 have hl:=h.ln
 refine⟨hl,fun i x hx=>?_,fun i x hx=>?_⟩
 ·have hi:=(List.getElem?_eq_some_iff.1 hx).1
  obtain⟨y,hy⟩:=ex_nd (ns:=ds) (i:=i) (by omega)
  exact⟨y,hy,h.h1 i x y hi hx hy⟩
 ·have hi:=(List.getElem?_eq_some_iff.1 hx).1
  obtain⟨y,hy⟩:=ex_nd (ns:=ds) (i:=ns.length+i) (by omega)
  exact⟨y,hy,h.h2 i x y hi hx hy⟩
theorem opp_dk'{a b:Int}(h:opp a b=true):b=dk a:=by
 unfold opp at h
 unfold dk
 split
 ·rename_i h1;rw[if_pos h1,decide_eq_true_eq]at h;exact h
 ·rename_i h1
  rw[if_neg h1]at h
  split
  ·rename_i h2;rw[if_pos h2,decide_eq_true_eq]at h;exact h
  ·rename_i h2
   rw[if_neg h2]at h
   split
   ·rename_i h3;rw[if_pos h3,decide_eq_true_eq]at h;exact h
   ·rename_i h3
    rw[if_neg h3]at h
    split
    ·rename_i h4;rw[if_pos h4,decide_eq_true_eq]at h;exact h
    ·rename_i h4;rw[if_neg h4,decide_eq_true_eq]at h;exact h.symm
theorem dk_zero{k:Int}:dk k=0↔k=0:=by
 unfold dk
 split
 ·omega
 ·split
  ·omega
  ·split
   ·omega
   ·split<;>omega
section
variable {ns T:List Nd} {tv:AV}
theorem Du.pair(d:Du ns T tv){i j:Nat}(hp:Pr ns.length i j):∃(m m':Nat)(o:Int)(u v:Nd),(atsOf T).getD i (0,0)=((m:Int),o)∧(atsOf T).getD j (0,0)=((m':Int),o)∧Pr ns.length m m'∧nodeAt T (atsOf T) i=u∧nodeAt T (atsOf T) j=v∧T[m]?=some u∧T[m']?=some v∧Opp ns.length u v:=by
 have hln:=d.h.ln
 have hin:=hp.in'
 obtain⟨m,m',o,h1,h2,h3⟩:=walk_pair d.g.toGood d.h hp 0
 obtain⟨u,v,hu,hv,ho⟩:=pair_nodes d.g.toGood d.h h3
 have a1:=atsOf_at (T:=T) (i:=i) (by omega)
 have a2:=atsOf_at (T:=T) (i:=j) (by omega)
 rw[h1]at a1
 rw[h2]at a2
 refine⟨m,m',o,u,v,a1,a2,h3,?_,?_,hu,hv,ho⟩
 ·unfold nodeAt;rw[a1,Int.toNat_natCast,List.getD_eq_getElem?_getD,hu];rfl
 ·unfold nodeAt;rw[a2,Int.toNat_natCast,List.getD_eq_getElem?_getD,hv];rfl
theorem Du.jmp_pair(d:Du ns T tv){s t:Nat}(hp:Pr ns.length s t)(p z:Int):jmpE T (atsOf T) p ((t:Int),z)=jmpE T (atsOf T) p ((s:Int),z):=by
 obtain⟨m,m',o,u,v,a1,a2,h3,n1,n2,hu,hv,ho⟩:=d.pair hp
 have e1:T.getD m ndZ=u:=by rw[List.getD_eq_getElem?_getD,hu];rfl
 have e2:T.getD m' ndZ=v:=by rw[List.getD_eq_getElem?_getD,hv];rfl
 have hk:=opp_dk' ho.k
 unfold jmpE lkE lk
 dsimp only
 rw[Int.toNat_natCast,Int.toNat_natCast,a1,a2]
 dsimp only
 rw[Int.toNat_natCast,Int.toNat_natCast,e1,e2,ho.p,hk]
 by_cases h0:u.kind=0
 ·rw[if_pos h0,if_pos (dk_zero.2 h0)]
 ·rw[if_neg h0,if_neg (fun h=>h0 (dk_zero.1 h))]
theorem Du.mate_lab(d:Du ns T tv){i j:Nat}(hp:Pr ns.length i j):labI T (atsOf T) j=(dk (labI T (atsOf T) i).1,(labI T (atsOf T) i).2.1,(labI T (atsOf T) i).2.2.1,(labI T (atsOf T) i).2.2.2)∧
  (sucJ T (atsOf T) j).length=(sucJ T (atsOf T) i).length∧∀(p s t:Nat),(sucJ T (atsOf T) i)[p]?=some s→(sucJ T (atsOf T) j)[p]?=some t→if (p:Int)<(labI T (atsOf T) i).2.2.1 then Pr ns.length s t else s=t:=by
 have hln:=d.h.ln
 have hin:=hp.in'
 obtain⟨m,m',o,u,v,a1,a2,h3,n1,n2,hu,hv,ho⟩:=d.pair hp
 have hk:=opp_dk' ho.k
 have hol:=oE_len (x:=v) (y:=u) ho.l ho.c
 unfold labI sucJ sucI labN
 rw[n1,n2,if_pos (show i<T.length by omega),if_pos (show j<T.length by omega),ho.c,ho.l,ho.p,hk]
 refine⟨?_,by rw[sucN_len,sucN_len,hol],fun p s t hs ht=>?_⟩
 ·congr 3
  refine(map2_eq hol).2 fun p e f he hf=>?_
  rcases oE_at.1 he with⟨b1,b2⟩ | ⟨b1,b2,b3⟩<;>rcases oE_at.1 hf with⟨c1,c2⟩ | ⟨c1,c2,c3⟩
  ·obtain⟨s,t,z,x1,x2,x3⟩:=ho.e p c1
   rw[←b2,←c2,x1,x2]
   exact d.jmp_pair x3 _ _
  ·have:=ho.l;omega
  ·have:=ho.l;omega
  ·rw[b3,c3,ho.t,ho.s]
 ·unfold sucN at hs ht
  rw[List.getElem?_map]at hs ht
  obtain⟨e,he,rfl⟩:=Option.map_eq_some_iff.1 hs
  obtain⟨f,hf,rfl⟩:=Option.map_eq_some_iff.1 ht
  rcases oE_at.1 he with⟨b1,b2⟩ | ⟨b1,b2,b3⟩<;>rcases oE_at.1 hf with⟨c1,c2⟩ | ⟨c1,c2,c3⟩
  ·obtain⟨s,t,z,x1,x2,x3⟩:=ho.e p b1
   rw[←b2,←c2,x1,x2]
   dsimp only
   rw[Int.toNat_natCast,Int.toNat_natCast]
   rw[if_pos (by omega)]
   exact x3
  ·have:=ho.l;omega
  ·have:=ho.l;omega
  ·rw[if_neg (by dsimp only;omega),b3,c3,ho.t]
theorem Du.EI_mate(d:Du ns T tv){i j i' j':Nat}(hi:Pr ns.length i i')(hj:Pr ns.length j j')(h:EI (labI T (atsOf T)) (sucJ T (atsOf T)) i j):EI (labI T (atsOf T)) (sucJ T (atsOf T)) i' j':=by
 refine EI_of (R:=fun u v=>EI (labI T (atsOf T)) (sucJ T (atsOf T)) u v∨∃i j,Pr ns.length i u∧Pr ns.length j v∧EI (labI T (atsOf T)) (sucJ T (atsOf T)) i j) (fun u v huv=>?_) (.inr ⟨i,j,hi,hj,h⟩)
 rcases huv with h | ⟨i,j,hi,hj,h⟩
 ·obtain⟨h1,h2,h3⟩:=EI_down h
  exact⟨h1,h2,fun p x y hx hy=>.inl (h3 p x y hx hy)⟩
 ·obtain⟨h1,h2,h3⟩:=EI_down h
  obtain⟨a1,a2,a3⟩:=d.mate_lab hi
  obtain⟨b1,b2,b3⟩:=d.mate_lab hj
  refine⟨by rw[a1,b1,h1],by rw[a2,b2,h2],fun p x y hx hy=>?_⟩
  have lx:=(List.getElem?_eq_some_iff.1 hx).1
  obtain⟨s,hs⟩:∃s,(sucJ T (atsOf T) i)[p]?=some s:=⟨_,List.getElem?_eq_getElem (by omega)⟩
  obtain⟨t,ht⟩:∃t,(sucJ T (atsOf T) j)[p]?=some t:=⟨_,List.getElem?_eq_getElem (by omega)⟩
  have hst:=h3 p s t hs ht
  have ax:=a3 p s x hs hx
  have by':=b3 p t y ht hy
  rw[←h1]at by'
  by_cases hlt:(p:Int)<(labI T (atsOf T) i).2.2.1
  ·rw[if_pos hlt]at ax by'
   exact .inr ⟨s,t,ax,by',hst⟩
  ·rw[if_neg hlt]at ax by'
   subst ax by'
   exact .inl hst
theorem clsO_eq_iff{i j:Nat}(hi:i<T.length)(hj:j<T.length):(clsO T (atsOf T)).getD i 0=(clsO T (atsOf T)).getD j 0↔EI (labI T (atsOf T)) (sucJ T (atsOf T)) i j:=by
 unfold clsO clsR
 rw[cn_num _ _ hi,cn_num _ _ hj,(num_ok (eiR_eqv T.length) T.length (Nat.le_refl _)).eq i j hi hj]
 exact eiR_iff
theorem mod_pr{n i:Nat}(hi:i<n+n):Pr n i ((i+n) % (n+n)):=by
 by_cases h:i<n
 ·rw[Nat.mod_eq_of_lt (by omega)]
  exact .inl ⟨h,by omega⟩
 ·rw[Nat.mod_eq_sub_mod (by omega),Nat.mod_eq_of_lt (by omega)]
  exact .inr ⟨by omega,by omega⟩
theorem Du.isCl(d:Du ns T tv){i j:Nat}(hi:i<T.length)(hj:j<T.length)(he:(clsO T (atsOf T)).getD i 0=(clsO T (atsOf T)).getD j 0){z:Cl}(h:IsCl T (atsOf T) (clsO T (atsOf T)) ns.length z i):IsCl T (atsOf T) (clsO T (atsOf T)) ns.length z j:=by
 have hE:=(clsO_eq_iff hi hj).1 he
 obtain⟨h1,h2,h3⟩:=EI_down hE
 have hln:=d.h.ln
 have hlab:labN T (atsOf T) (nodeAt T (atsOf T) i)=labN T (atsOf T) (nodeAt T (atsOf T) j):=h1
 obtain⟨l1,l2,l3,l4⟩:=lab_iff.1 hlab
 obtain⟨x,x1,x2,x3,x4,x5⟩:=d.no5 hi
 obtain⟨y,y1,y2,y3,y4,y5⟩:=d.no5 hj
 have hsuc:(sucN x).map (fun t=>(clsO T (atsOf T)).getD t 0)=(sucN y).map (fun t=>(clsO T (atsOf T)).getD t 0):=by
  unfold sucJ sucI at h2 h3
  rw[if_pos hi,if_pos hj,x2,y2]at h2 h3
  refine(map2_eq h2).2 fun p s t hs ht=>?_
  have hs':s<T.length:=by
   obtain⟨e,he,rfl⟩:=List.mem_map.1 (List.mem_of_getElem? hs)
   exact d.to_lt (List.mem_of_getElem? x1) he
  have ht':t<T.length:=by
   obtain⟨e,he,rfl⟩:=List.mem_map.1 (List.mem_of_getElem? ht)
   exact d.to_lt (List.mem_of_getElem? y1) he
  exact(clsO_eq_iff hs' ht').2 (h3 p s t hs ht)
 rw[x2,y2]at l1 l2 l3 l4
 have hlk:(oE x).map (lkE T (atsOf T) (clsO T (atsOf T)) x.prio)=(oE y).map (lkE T (atsOf T) (clsO T (atsOf T)) y.prio):=lkAll_iff.2 ⟨l4,hsuc⟩
 have hol:=oE_len l3 l2
 have hnx:nxL T (atsOf T) (clsO T (atsOf T)) x=nxL T (atsOf T) (clsO T (atsOf T)) y:=by
  refine(map2_eq l3).2 fun p e f he hf=>?_
  have e1:=(List.getElem?_eq_some_iff.1 he).1
  have f1:=(List.getElem?_eq_some_iff.1 hf).1
  exact(map2_eq hol).1 hlk p e f (by unfold oE;rw[List.getElem?_append_left e1,he]) (by unfold oE;rw[List.getElem?_append_left f1,hf])
 have hpy:payE T (atsOf T) (clsO T (atsOf T)) x=payE T (atsOf T) (clsO T (atsOf T)) y:=by
  unfold payE
  cases hc:x.chan with
  | false=>rw[if_neg (by decide),if_neg (by rw[←l2,hc];decide)]
  | true =>
   rw[if_pos rfl,if_pos (by rw[←l2,hc])]
   exact(map2_eq hol).1 hlk x.es.length _ _ (oE_at.2 (.inr ⟨rfl,hc,rfl⟩)) (oE_at.2 (.inr ⟨l3,by rw[←l2];exact hc,rfl⟩))
 have pi:=mod_pr (n:=ns.length) (i:=i) (by omega)
 have pj:=mod_pr (n:=ns.length) (i:=j) (by omega)
 have hdu:(clsO T (atsOf T)).getD ((i+ns.length) % T.length) 0=(clsO T (atsOf T)).getD ((j+ns.length) % T.length) 0:=by
  rw[hln]
  refine(clsO_eq_iff (by rw[hln];exact pi.in'.2) (by rw[hln];exact pj.in'.2)).2 (d.EI_mate pi pj hE)
 obtain⟨k1,k2,k3,k4,k5⟩:=h
 rw[x2]at k1 k3 k4 k5
 exact⟨by rw[k1,y2,l1],by rw[k2,hdu],by rw[k3,y2,l2],by rw[k4,y2,hpy],by rw[k5,y2,hnx]⟩
end
open Go.Gr
section
variable {cv ov pv cv2 ov2 pv2:AV} {cls cls2:List Cl} {ofs:List Nat} {prs:List Int}
end
open Go.Gr
theorem isCl_eq{xs ys:List Nd}(h:Rel NdEq xs ys){ofs:List Nat}{n j:Nat}{z:Cl}(hz:IsCl xs (atsOf xs) ofs n z j):IsCl ys (atsOf ys) ofs n z j:=by
 rw[atsOf_eq h]
 obtain⟨k1,k2,k3,k4,k5⟩:=hz
 have hn:=nodeAt_eq h (atsOf xs) j
 have hl:=fun p e=>lkE_same h (atsOf xs) ofs p e
 refine⟨by rw[k1,hn.kd],by rw[k2,h.len],by rw[k3,hn.ch],?_,?_⟩
 ·rw[k4]
  unfold payE
  rw[hn.ch,hn.pr,hn.pt,hn.ps,hl]
 ·rw[k5]
  unfold nxL
  rw[hn.es,hn.pr]
  exact List.map_congr_left fun e _=>(hl _ e).symm
def priced(cls:List Cl)(c:Nat)(p:Int):Int×Int:=((c:Int),if (cls.getD c clZ).kd=0 then 0 else p)
section
variable {cv ov pv:AV} {cls:List Cl} {ofs:List Nat} {prs:List Int}
end
open Go.Gr
def tyF(cls:List Cl)(ofs:List Nat)(prs:List Int)(n o:Int):Int×Int:=if 0≤n∧n<(ofs.length:Int) then priced cls (ofs.getD n.toNat 0) (wrapK .i64 (prs.getD n.toNat 0+o)) else (-1,0)
section
variable {cv ov pv:AV} {cls:List Cl} {ofs:List Nat} {prs:List Int}
end
open Go.Gr
section
variable {cv ov pv:AV} {cls:List Cl} {ofs:List Nat} {prs:List Int}
end
open Go.Gr
section
variable {cv ov pv:AV} {cls:List Cl} {ofs:List Nat} {prs:List Int}
end
open Go.Gr
structure LkT(ns T:List Nd)(cls:List Cl)(ofs:List Nat)(prs:List Int):Prop where
 o:ofs=clsO T (atsOf T)
 p:prs=(List.range T.length).map (prI T (atsOf T))
 m:cls.length=clsN T (atsOf T)
 at':∀i,i<T.length→∃z,cls[(clsO T (atsOf T)).getD i 0]?=some z∧IsCl T (atsOf T) (clsO T (atsOf T)) ns.length z i
theorem lk_of{ns T1 T:List Nd}{tv:AV}{cls:List Cl}{ofs:List Nat}{prs:List Int}(h1:OfOk ns T1 cls ofs prs)(d:Du ns T tv):LkT ns T cls ofs prs:=by
 have R:=half2_eq h1.h d.h
 have hlen:=R.len
 have ho:ofs=clsO T (atsOf T):=by rw[h1.o,clsO_eq R]
 have hp:prs=(List.range T.length).map (prI T (atsOf T)):=by rw[h1.p,prI_eq R,hlen]
 have hM:clsN T1 (atsOf T1)=clsN T (atsOf T):=(clsN_eq R).symm
 refine⟨ho,hp,by rw[h1.c.len,hM],fun i hi=>?_⟩
 obtain⟨z,j,g1,g2,g3,g4⟩:=h1.c.at' i (by rw[hlen];exact hi)
 have hz:=isCl_eq R g4
 rw[ho]at hz g2 g3
 have hj:j<T.length:=by rw[←hlen];exact g1
 exact⟨z,g3,d.isCl hj hi g2 hz⟩
section
variable {ns T:List Nd} {tv:AV} {cls:List Cl} {ofs:List Nat} {prs:List Int}
structure TyAt(T:List Nd)(cls:List Cl)(i:Nat)(off:Int)(q:Nat)(o:Int)(x:Nd)(z:Cl):Prop where
 hw:wlk T T.length i off=((q:Int),o+off)
 hx:T[q]?=some x
 hn:nodeAt T (atsOf T) i=x
 hk:x.kind≠5
 o0:0≤o
 o1:o≤800000
 ha:(atsOf T).getD i (0,0)=((q:Int),o)
 hz:cls[(clsO T (atsOf T)).getD i 0]?=some z
theorem LkT.ty(h:LkT ns T cls ofs prs)(d:Du ns T tv){i:Nat}(hi:i<T.length){off:Int}(h0:0≤off)(h1:off≤1000000):∃q o x z,TyAt T cls i off q o x z∧IsCl T (atsOf T) (clsO T (atsOf T)) ns.length z i∧
  tyF cls ofs prs i off=(((clsO T (atsOf T)).getD i 0:Int),if x.kind=0 then 0 else x.prio+o+off):=by
 have hN:=d.len
 obtain⟨o,x,w1,w2,w3,w4,w5,w6⟩:=d.at' hi
 obtain⟨x',y1,y2,y3,_⟩:=d.no5 hi
 rw[y2]at w3
 subst w3
 have hw:=(wlk_add2 d.small (d:=off) (by omega) w1 (by omega) (Int.le_refl _) (by omega)).1
 rw[Int.zero_add]at hw
 obtain⟨z,hz,hI⟩:=h.at' i hi
 have px:=d.prio (List.mem_of_getElem? w2)
 refine⟨tgt T i,o,_,z,⟨hw,w2,y2,y3,w4,w5,w6,hz⟩,hI,?_⟩
 have hg:cls.getD ((clsO T (atsOf T)).getD i 0) clZ=z:=by rw[List.getD_eq_getElem?_getD,hz];rfl
 have hpi:prs.getD i 0=prE x' o:=by
  rw[h.p,List.getD_eq_getElem?_getD,List.getElem?_map,List.getElem?_range hi]
  show prI T (atsOf T) i=_
  unfold prI
  rw[y2,w6]
 unfold tyF
 rw[h.o,if_pos ⟨by omega,by rw[clsO_len];omega⟩,Int.toNat_natCast,hpi]
 unfold priced
 rw[hg,hI.kd,y2]
 unfold prE
 by_cases hk:x'.kind=0
 ·rw[if_pos hk,if_pos hk]
 ·rw[if_neg hk,if_neg hk,if_neg hk,wrapK_i64 (n:=x'.prio+o) (by omega) (by omega),wrapK_i64 (by omega) (by omega)]
end
open Go.Gr
section
variable {ns T:List Nd} {tv:AV} {cls:List Cl} {ofs:List Nat} {prs:List Int}
theorem LkT.link(h:LkT ns T cls ofs prs)(d:Du ns T tv){x:Nd}(hx:x∈T)(hk:x.kind≠0){e:Int×Int}(he:e∈oE x){o:Int}(h0:0≤o)(h1:o≤900000):
  priced cls (lkE T (atsOf T) (clsO T (atsOf T)) x.prio e).1.toNat (wrapK .i64 (x.prio+o+(lkE T (atsOf T) (clsO T (atsOf T)) x.prio e).2))=tyF cls ofs prs e.1 (o+e.2):=by
 have hto:=d.to_lt hx he
 have hcl:=(d.wf (ofs:=List.replicate T.length 0) List.length_replicate).cl x hx e he
 have hwd:=d.wide hx he
 obtain⟨t,ht⟩:∃t:Nat,e.1=t:=⟨e.1.toNat,by omega⟩
 rw[ht,Int.toNat_natCast]at hto
 obtain⟨q,ot,y,z,A,hI,hty⟩:=h.ty d hto (off:=o+e.2) (by omega) (by omega)
 have px:=d.prio hx
 have py:=d.prio (List.mem_of_getElem? A.hx)
 have o0:=A.o0
 have o1:=A.o1
 have hg:cls.getD ((clsO T (atsOf T)).getD t 0) clZ=z:=by rw[List.getD_eq_getElem?_getD,A.hz];rfl
 have hj:jmpE T (atsOf T) x.prio e=if y.kind=0 then 0 else y.prio+ot+e.2-x.prio:=by
  have hn:T.getD (((atsOf T).getD t (0,0)).1).toNat ndZ=y:=by rw[A.ha,Int.toNat_natCast,List.getD_eq_getElem?_getD,A.hx];rfl
  unfold jmpE lkE lk
  rw[ht,Int.toNat_natCast,hn,A.ha]
  dsimp only
  split
  ·rfl
  ·rw[wrapK_i64 (n:=y.prio+ot) (by omega) (by omega),wrapK_i64 (n:=y.prio+ot+e.2) (by omega) (by omega),wrapK_i64 (by omega) (by omega)]
 rw[lkE_eq,hj,ht,hty]
 dsimp only
 rw[Int.toNat_natCast,Int.toNat_natCast]
 unfold priced
 rw[hg,hI.kd,A.hn]
 by_cases hy:y.kind=0
 ·rw[if_pos hy,if_pos hy]
 ·rw[if_neg hy,if_neg hy,if_neg hy,wrapK_i64 (by omega) (by omega)]
  congr 1
  omega
end
open Go.Gr
structure LFr(fr:PT)(a u tv:AV)(nx i:Nat)(c prio:Int):Prop where
 f0:fr.get 0=a
 f1:fr.get 1=u
 f5:fr.get 5=.ptr 0 0 0
 f9:fr.get 9=tv
 f10:fr.get 10=iv nx
 f11:fr.get 11=iv i
 f12:fr.get 12=.ptr 1 0 0
 f13:fr.get 13=.ptr 2 0 0
 f14:fr.get 14=iv c
 f15:fr.get 15=iv prio
 f16:fr.get 16=.ptr 3 0 0
theorem LFr.of{fr fr':PT}{a u tv:AV}{nx i:Nat}{c prio:Int}(F:LFr fr a u tv nx i c prio)(h:∀t,(t=0∨t=1∨t=5∨t=9∨t=10∨t=11∨t=12∨t=13∨t=14∨t=15∨t=16)→fr'.get t=fr.get t):LFr fr' a u tv nx i c prio :=
 ⟨by rw[h 0 (by simp),F.f0],by rw[h 1 (by simp),F.f1],by rw[h 5 (by simp),F.f5],by rw[h 9 (by simp),F.f9],by rw[h 10 (by simp),F.f10],by rw[h 11 (by simp),F.f11],by rw[h 12 (by simp),F.f12],by rw[h 13 (by simp),F.f13],by rw[h 14 (by simp),F.f14],by rw[h 15 (by simp),F.f15],by rw[h 16 (by simp),F.f16]⟩
section
variable {cv ov pv:AV} {cls:List Cl} {ofs:List Nat} {prs:List Int}
end
open Go.Gr
section
variable {cv ov pv:AV} {cls:List Cl} {ofs:List Nat} {prs:List Int}
end
open Go.Gr
structure PFr24(fr:PT)(a u tv:AV)(nx i:Nat):Prop where
 f0:fr.get 0=a
 f1:fr.get 1=u
 f5:fr.get 5=.ptr 0 0 0
 f9:fr.get 9=tv
 f10:fr.get 10=iv nx
 f11:fr.get 11=iv i
theorem LFr.pre{fr:PT}{a u tv:AV}{nx i:Nat}{c prio:Int}(F:LFr fr a u tv nx i c prio):PFr24 fr a u tv nx i:=⟨F.f0,F.f1,F.f5,F.f9,F.f10,F.f11⟩
section
variable {cv ov pv:AV} {cls:List Cl} {ofs:List Nat} {prs:List Int}
end
open Go.Gr
section
variable {cv ov pv:AV} {cls:List Cl} {ofs:List Nat} {prs:List Int}
end
open Go.Gr
section
variable {cv ov pv:AV} {cls:List Cl} {ofs:List Nat} {prs:List Int}
end
open Go.Gr
section
variable {ns T:List Nd} {a tv cv ov pv:AV} {cls:List Cl} {ofs:List Nat} {prs:List Int}
end
open Go.Gr
section
variable {ns T:List Nd} {a tv cv ov pv:AV} {cls:List Cl} {ofs:List Nat} {prs:List Int}
end
open Go.Gr
section
variable {ns T:List Nd} {a tv cv ov pv:AV} {cls:List Cl} {ofs:List Nat} {prs:List Int}
end
open Go.Gr
theorem frm_dk{k:Int}(h:0≤k∧k≤5):frm (dk k)=frm k∧inB (dk k) 5=inB k 5:=by
 rcases k6 h with rfl | rfl | rfl | rfl | rfl | rfl<;>exact⟨rfl,rfl⟩
theorem shp_half{ks:List Int}{far:Int}{x y:Nd}(hk:ks[x.kind.toNat]?=some x.kind∨ks[x.kind.toNat]?=some (dk x.kind))(hh:half ks far x y)(h:shp x=true):shp y=true:=by
 have hx:=shp_kind h
 obtain⟨a1,a2,a3,a4,a5,a6,a7⟩:=hh
 have hy:frm y.kind=frm x.kind∧inB y.kind 5=inB x.kind 5:=by
  rcases hk with hk | hk<;>rw[a1]at hk<;>rw[Option.some.inj hk]
  ·exact⟨rfl,rfl⟩
  ·exact frm_dk hx
 have he:(edg y).any wide=(edg x).any wide:=by
  unfold edg
  rw[a6,a3,a4,a5,List.any_append,List.any_append,List.any_map]
  rfl
 unfold shp at h ⊢
 rw[hy.1,hy.2,he,a2,a3,a4,a5,a6,List.length_map]
 exact h
section
variable {ns T:List Nd} {tv:AV}
theorem Du.shp(d:Du ns T tv){y:Nd}(hy:y∈T):shp y=true:=by
 obtain⟨i,hi⟩:=List.getElem?_of_mem hy
 have hil:=(List.getElem?_eq_some_iff.1 hi).1
 have hln:=d.h.ln
 by_cases h:i<ns.length
 ·obtain⟨x,hx⟩:=ex_nd (ns:=ns) h
  obtain⟨y',hy',hh⟩:=d.h.h1 i x hx
  rw[hi]at hy'
  cases hy'
  have hs:=d.g.sh x (List.mem_of_getElem? hx)
  exact shp_half (.inl (ks1_at (shp_kind hs))) hh hs
 ·obtain⟨j,rfl⟩:∃j,i=ns.length+j:=⟨i-ns.length,by omega⟩
  obtain⟨x,hx⟩:=ex_nd (ns:=ns) (i:=j) (by omega)
  obtain⟨y',hy',hh⟩:=d.h.h2 j x hx
  rw[hi]at hy'
  cases hy'
  have hs:=d.g.sh x (List.mem_of_getElem? hx)
  exact shp_half (.inr (ks2_at (shp_kind hs))) hh hs
theorem opn_of{n:Nat}{x:Nd}(h:∀e∈oE x,0≤e.1∧e.1<(n:Int)):opn n x=false:=by
 unfold opn
 rw[Bool.or_eq_false_iff,List.any_eq_false]
 refine⟨fun e he=>?_,?_⟩
 ·have:=h e (by unfold oE;exact List.mem_append_left _ he)
  simp only[outE,Bool.or_eq_true,decide_eq_true_eq,not_or]
  omega
 ·cases hc:x.chan with
  | false=>rfl
  | true =>
   have:=h (x.pt,x.ps) (by unfold oE;rw[if_pos hc];exact List.mem_append_right _ (List.mem_singleton.2 rfl))
   simp only[outE,Bool.true_and,Bool.or_eq_false_iff,decide_eq_false_iff_not]
   dsimp only at this
   omega
theorem Du.good(d:Du ns T tv)(hN:T.length≤64):Good T:=by
 have hln:=d.h.ln
 have hpos:=d.g.pos
 refine⟨by omega,hN,fun y hy=>d.shp hy,fun y hy=>opn_of ((d.wf (ofs:=List.replicate T.length 0) List.length_replicate).cl y hy),chkB_none _ _ fun j _ hj=>?_⟩
 obtain⟨o,y,h1,_⟩:=d.at' (i:=j) (by omega)
 unfold bad
 rw[h1]
 simp
def jT(T:List Nd)(p:Int)(e:Int×Int):Int×Bool:=(jmpE T (atsOf T) p e,!decide ((nodeAt T (atsOf T) e.1.toNat).kind=0))
theorem Du.jmp(d:Du ns T tv)(hN:T.length≤64){q:Nat}{x:Nd}(hx:T[q]?=some x){e:Int×Int}(he:e∈oE x):jmp T (q:Int) e=jT T x.prio e:=by
 have hmx:=List.mem_of_getElem? hx
 have hq:=(List.getElem?_eq_some_iff.1 hx).1
 have hcl:=(d.wf (ofs:=List.replicate T.length 0) List.length_replicate).cl x hmx e he
 have hwd:=d.wide hmx he
 have hl:=d.len
 obtain⟨t,ht⟩:∃t:Nat,e.1=t:=⟨e.1.toNat,by omega⟩
 obtain⟨o,y,h1,h2,h3,h4,h5,h6⟩:=d.at' (i:=t) (by omega)
 obtain⟨y',g1,_,g3,_⟩:=d.no5 (i:=t) (by omega)
 rw[h2]at g1
 cases g1
 have hy:=List.mem_of_getElem? h2
 have p1:=d.prio hmx
 have p2:=d.prio hy
 have hk:=shp_kind (d.shp hy)
 have hw:=(wlk_add2 d.small (d:=e.2) (by omega) h1 (by omega) (Int.le_refl _) (by omega)).1
 rw[Int.zero_add]at hw
 have hn:T.getD (((atsOf T).getD t (0,0)).1).toNat ndZ=y:=by rw[h6,Int.toNat_natCast,List.getD_eq_getElem?_getD,h2];rfl
 have hchk:=good_chk (d.good hN)
 have hin:inn T.length q=true∧inn T.length e.1=true:=by
  unfold inn
  rw[ht]
  simp only[Bool.and_eq_true,decide_eq_true_eq]
  omega
 unfold Tab.jmp jT jmpE lkE lk rise1
 rw[if_pos ⟨hin.1,hin.2,hchk⟩,Int.toNat_natCast,hx,ht,Int.toNat_natCast,h3,hn,hw,h6]
 dsimp only
 rw[atN_nat h2]
 dsimp only
 unfold actK
 by_cases hz:y.kind=0
 ·rw[hz,if_neg (by decide),if_pos rfl]
  rfl
 ·rw[if_pos (by simp only[Bool.and_eq_true,decide_eq_true_eq];omega),if_neg hz]
  dsimp only
  rw[wrapK_i64 (n:=y.prio+o) (by omega) (by omega),wrapK_i64 (n:=y.prio+o+e.2) (by omega) (by omega),wrapK_i64 (n:=y.prio+(o+e.2)) (by omega) (by omega)]
  rw[show y.prio+(o+e.2)=y.prio+o+e.2 by omega,decide_eq_false hz]
  rfl
def hd2(x y:Nd):Bool:=decide (x.kind=y.kind)&&decide (x.chan=y.chan)&&decide (x.es.length=y.es.length)
def eg2(T:List Nd)(r:Nat→Nat→Bool)(p q:Int)(e f:Int×Int):Bool:=!decide (jT T p e=jT T q f)||r e.1.toNat f.1.toNat
def apw(T:List Nd)(r:Nat→Nat→Bool)(i j:Nat):Bool :=
 !hd2 (nodeAt T (atsOf T) i) (nodeAt T (atsOf T) j)||(List.range (oE (nodeAt T (atsOf T) i)).length).any fun p=>eg2 T r (nodeAt T (atsOf T) i).prio (nodeAt T (atsOf T) j).prio ((oE (nodeAt T (atsOf T) i)).getD p (0,0)) ((oE (nodeAt T (atsOf T) j)).getD p (0,0))
def ap(T:List Nd):Nat→Nat→Nat→Bool
 | 0=>apw T fun _ _=>false
 | s+1=>apw T (ap T s)
theorem hd2_iff{x y:Nd}:hd2 x y=true↔x.kind=y.kind∧x.chan=y.chan∧x.es.length=y.es.length:=by
 unfold hd2
 rw[Bool.and_eq_true,Bool.and_eq_true,decide_eq_true_eq,decide_eq_true_eq,decide_eq_true_eq,and_assoc]
theorem eg2_false{r:Nat→Nat→Bool}{p q:Int}{e f:Int×Int}:eg2 T r p q e f=false↔jT T p e=jT T q f∧r e.1.toNat f.1.toNat=false:=by
 unfold eg2
 rw[Bool.or_eq_false_iff,Bool.not_eq_false',decide_eq_true_eq]
theorem getD_of{l:List (Int×Int)}{p:Nat}{e:Int×Int}(h:l[p]?=some e):l.getD p (0,0)=e:=by rw[List.getD_eq_getElem?_getD,h];rfl
theorem apw_false{r:Nat→Nat→Bool}{i j:Nat}:apw T r i j=false↔hd2 (nodeAt T (atsOf T) i) (nodeAt T (atsOf T) j)=true∧∀(p:Nat)(e f:Int×Int),(oE (nodeAt T (atsOf T) i))[p]?=some e→(oE (nodeAt T (atsOf T) j))[p]?=some f→jT T (nodeAt T (atsOf T) i).prio e=jT T (nodeAt T (atsOf T) j).prio f∧r e.1.toNat f.1.toNat=false:=by
 unfold apw
 generalize nodeAt T (atsOf T) i=x
 generalize nodeAt T (atsOf T) j=y
 rw[Bool.or_eq_false_iff,Bool.not_eq_false',List.any_eq_false]
 constructor
 ·rintro ⟨h1,h2⟩
  refine⟨h1,fun p e f he hf=>?_⟩
  have hp:=(List.getElem?_eq_some_iff.1 he).1
  have:=h2 p (List.mem_range.2 hp)
  rw[getD_of he,getD_of hf,Bool.not_eq_true]at this
  exact eg2_false.1 this
 ·rintro ⟨h1,h2⟩
  refine⟨h1,fun p hp=>?_⟩
  have hp:=List.mem_range.1 hp
  obtain⟨k1,k2,k3⟩:=hd2_iff.1 h1
  have hl:=oE_len k3 k2
  obtain⟨e,he⟩:∃e,(oE x)[p]?=some e:=⟨_,List.getElem?_eq_getElem hp⟩
  obtain⟨f,hf⟩:∃f,(oE y)[p]?=some f:=⟨_,List.getElem?_eq_getElem (by omega)⟩
  rw[getD_of he,getD_of hf,Bool.not_eq_true]
  exact eg2_false.2 (h2 p e f he hf)
theorem Du.nodeIn(d:Du ns T tv){i:Nat}(hi:i<T.length):nodeAt T (atsOf T) i∈T:=by
 obtain⟨y,h1,h2,_⟩:=d.no5 hi
 rw[h2]
 exact List.mem_of_getElem? h1
theorem Du.apw_EK(d:Du ns T tv){r:Nat→Nat→Bool}{k i j:Nat}(hi:i<T.length)(hj:j<T.length)(hr:∀s t,s<T.length→t<T.length→r s t=false→EK (labI T (atsOf T)) (sucJ T (atsOf T)) k s t)(h:apw T r i j=false):EK (labI T (atsOf T)) (sucJ T (atsOf T)) (k+1) i j:=by
 obtain⟨h1,h2⟩:=apw_false.1 h
 obtain⟨k1,k2,k3⟩:=hd2_iff.1 h1
 have hl:=oE_len k3 k2
 have mi:=d.nodeIn hi
 have mj:=d.nodeIn hj
 unfold EK labI sucJ sucI
 rw[if_pos hi,if_pos hj]
 refine⟨lab_iff.2 ⟨k1,k2,k3,(map2_eq hl).2 fun p e f he hf=>congrArg Prod.fst (h2 p e f he hf).1⟩,by rw[sucN_len,sucN_len];exact hl,fun p s t hs ht=>?_⟩
 unfold sucN at hs ht
 rw[List.getElem?_map]at hs ht
 obtain⟨e,he,rfl⟩:=Option.map_eq_some_iff.1 hs
 obtain⟨f,hf,rfl⟩:=Option.map_eq_some_iff.1 ht
 exact hr _ _ (d.to_lt mi (List.mem_of_getElem? he)) (d.to_lt mj (List.mem_of_getElem? hf)) (h2 p e f he hf).2
theorem Du.ap_EK(d:Du ns T tv):∀s i j,i<T.length→j<T.length→ap T s i j=false→EK (labI T (atsOf T)) (sucJ T (atsOf T)) (s+1) i j
 | 0,i,j,hi,hj,h=>d.apw_EK (k:=0) hi hj (fun _ _ _ _ _=>trivial) h
 | s+1,i,j,hi,hj,h=>d.apw_EK hi hj (fun u v hu hv=>d.ap_EK s u v hu hv) h
theorem Du.EI_apw(d:Du ns T tv){r:Nat→Nat→Bool}{i j:Nat}(hi:i<T.length)(hj:j<T.length)(hr:∀s t,s<T.length→t<T.length→EI (labI T (atsOf T)) (sucJ T (atsOf T)) s t→r s t=false)(h:EI (labI T (atsOf T)) (sucJ T (atsOf T)) i j):apw T r i j=false:=by
 obtain⟨h1,h2,h3⟩:=EI_down h
 have mi:=d.nodeIn hi
 have mj:=d.nodeIn hj
 unfold labI at h1
 unfold sucJ sucI at h2 h3
 rw[if_pos hi,if_pos hj]at h2 h3
 obtain⟨k1,k2,k3,k4⟩:=lab_iff.1 h1
 have hl:=oE_len k3 k2
 refine apw_false.2 ⟨hd2_iff.2 ⟨k1,k2,k3⟩,fun p e f he hf=>?_⟩
 have hE:=h3 p e.1.toNat f.1.toNat (by unfold sucN;rw[List.getElem?_map,he];rfl) (by unfold sucN;rw[List.getElem?_map,hf];rfl)
 have he':=d.to_lt mi (List.mem_of_getElem? he)
 have hf':=d.to_lt mj (List.mem_of_getElem? hf)
 obtain⟨g1,_⟩:=EI_down hE
 unfold labI at g1
 obtain⟨g2,_⟩:=lab_iff.1 g1
 refine⟨?_,hr _ _ he' hf' hE⟩
 unfold jT
 rw[(map2_eq hl).1 k4 p e f he hf,g2]
theorem Du.EI_ap(d:Du ns T tv):∀s i j,i<T.length→j<T.length→EI (labI T (atsOf T)) (sucJ T (atsOf T)) i j→ap T s i j=false
 | 0,i,j,hi,hj,h=>d.EI_apw hi hj (fun _ _ _ _ _=>rfl) h
 | s+1,i,j,hi,hj,h=>d.EI_apw hi hj (fun u v hu hv=>d.EI_ap s u v hu hv) h
theorem EK_downs{σ:Type}{L:Nat→σ}{S:Nat→List Nat}:∀d m i j,EK L S (m+d) i j→EK L S m i j
 | 0,m,i,j,h=>h
 | d+1,m,i,j,h=>EK_downs d m i j (EK_down _ i j h)
theorem up9{f:Nat→Nat}(h0:1≤f 0)(h1:f 10≤10)(hm:∀k,f k≤f (k+1)):∃k,k≤9∧f k=f (k+1):=by
 by_cases h:∃k,k≤9∧f k=f (k+1)
 ·exact h
 ·have key:∀k,k≤9→f k+1≤f (k+1):=fun k hk=>by
   have a:=hm k
   have b:f k≠f (k+1):=fun e=>h ⟨k,hk,e⟩
   omega
  have k0:f 0+1≤f 1:=key 0 (by omega)
  have k1:f 1+1≤f 2:=key 1 (by omega)
  have h2:f 2+1≤f 3:=key 2 (by omega)
  have h3:f 3+1≤f 4:=key 3 (by omega)
  have h4:f 4+1≤f 5:=key 4 (by omega)
  have h5:f 5+1≤f 6:=key 5 (by omega)
  have h6:f 6+1≤f 7:=key 6 (by omega)
  have h7:f 7+1≤f 8:=key 7 (by omega)
  have h8:f 8+1≤f 9:=key 8 (by omega)
  have h9:f 9+1≤f 10:=key 9 (by omega)
  omega
theorem Du.ap9(d:Du ns T tv)(hN:T.length≤10){i j:Nat}(hi:i<T.length)(hj:j<T.length):ap T 9 i j = !decide ((clsO T (atsOf T)).getD i 0=(clsO T (atsOf T)).getD j 0):=by
 have hS:=sucJ_lt (d.wf (ofs:=List.replicate T.length 0) List.length_replicate)
 cases h:ap T 9 i j with
 | true =>
  by_cases he:(clsO T (atsOf T)).getD i 0=(clsO T (atsOf T)).getD j 0
  ·have:=d.EI_ap 9 i j hi hj ((clsO_eq_iff hi hj).1 he)
   rw[this]at h
   cases h
  ·rw[decide_eq_false he]
   rfl
 | false =>
  have h10:=d.ap_EK 9 i j hi hj h
  obtain⟨k,hk,e⟩:=up9 (f:=ck (labI T (atsOf T)) (sucJ T (atsOf T)) T.length) (by
   obtain⟨n,hn⟩:∃n,T.length=n+1:=⟨T.length-1,by omega⟩
   unfold ck
   rw[hn]
   exact cnt_pos _ _) (Nat.le_trans (cnt_bound _ _) hN) (ck_mono hS)
  obtain⟨m,hm⟩:∃m,9+1=k+1+m:=⟨9-k,by omega⟩
  rw[hm]at h10
  have hE:=(ck_stop hS e i j hi hj).1 (EK_downs m _ i j h10)
  rw[decide_eq_true ((clsO_eq_iff hi hj).2 hE)]
  rfl
end
open Go.Gr
abbrev apH(q1 q2 o1 o2:Int)(x y:Nd):Hp:=[tyC (q1,o1),tyC (q2,o2),.cells 6 66 [nodeV x],.cells 6 66 [nodeV y]]
structure AFr(fr:PT)(tv:AV)(s:Nat)(P Q:AV)(i:Nat):Prop where
 f0:fr.get 0=tv
 f3:fr.get 3=iv s
 f9:fr.get 9=.ptr 0 0 0
 f10:fr.get 10=.ptr 1 0 0
 f13:fr.get 13=P
 f14:fr.get 14=Q
 f15:fr.get 15=iv i
section
variable {ns T:List Nd} {tv:AV}
def anyF(T:List Nd)(r:Nat→Nat→Bool)(x y:Nd)(i k:Nat):Bool:=(List.range' i k).any fun p=>eg2 T r x.prio y.prio ((oE x).getD p (0,0)) ((oE y).getD p (0,0))
theorem anyF_succ{r:Nat→Nat→Bool}{x y:Nd}{i k:Nat}:anyF T r x y i (k+1)=(eg2 T r x.prio y.prio ((oE x).getD i (0,0)) ((oE y).getD i (0,0))||anyF T r x y (i+1) k):=by
 unfold anyF
 rw[List.range'_succ,List.any_cons]
noncomputable abbrev bo77:Code:=(.seq (.seq (.region 12 g77_12 false) (.cond (.tmp 82) .skip (.exit 0))) (.seq (.block 1 (.seq (.region 14 g77_13 true) (.seq (.region 15 g77_14 true) (.seq (.region 16 g77_15 true) (.cond (.tmp 134) (.seq (.region 17 g77_16 false) .ret) .skip))))) (.region 13 g77_17 false)))
structure JFr(fr:PT)(tv:AV)(s:Nat)(P Q:AV)(i:Nat)(z1 z2:Int)(b1 b2:Bool):Prop extends AFr fr tv s P Q i where
 f16:fr.get 16=iv z1
 f17:fr.get 17=bv b1
 f18:fr.get 18=iv z2
 f19:fr.get 19=bv b2
theorem ap_jumps(d:Du ns T tv){s:Nat}{q1 q2:Int}{x y:Nd}{o1 o2:Int}{P Q:AV}{L M:List (Int×Int)}(hP:Sl 2 (shr P) (L.map ed))(hQ:Sl 2 (shr Q) (M.map ed)){i:Nat}{fr:PT}(F:AFr fr tv s P Q i){e f:Int×Int}(a1:aindexAddr cx.T 64 (shr P) (iv i)=some (.vp (ed e) 0))(a2:aindexAddr cx.T 64 (shr Q) (iv i)=some (.vp (ed f) 0))
  {z1 z2:Int} {b1 b2:Bool} (j1:pcall D 69 [tv,iv q1,ed e]=some (jmpV (z1,b1))) (j2:pcall D 69 [tv,iv q2,ed f]=some (jmpV (z2,b2))):
  ∃fr',ex cx D 0 77 135 (.seq (.region 14 g77_13 true) (.region 15 g77_14 true)) fr (apH q1 q2 o1 o2 x y)=some (.normal,fr',apH q1 q2 o1 o2 x y)∧JFr fr' tv s P Q i z1 z2 b1 b2:=by
 obtain⟨fr1,p1,F1,k16,k17⟩:∃fr1,ex cx D 0 77 135 (.region 14 g77_13 true) fr (apH q1 q2 o1 o2 x y)=some (.normal,fr1,apH q1 q2 o1 o2 x y)∧AFr fr1 tv s P Q i∧fr1.get 16=iv z1∧fr1.get 17=bv b1:=by
  simp -implicitDefEqProofs (maxDischargeDepth:=4) only[go_sem,F.f0,F.f3,F.f9,F.f10,F.f13,F.f14,F.f15,mvV_false,hP.shr,hP.notOwn,alen_sl hP,hQ.shr,hQ.notOwn,alen_sl hQ,List.length_map,d.n.sl.shr,d.n.sl.notOwn,d.n.sl.shut1,a1,j1,nbeq,Nat.zero_le,Nat.le_refl,Nat.not_lt_zero]
  exact⟨_,rfl,⟨by simp only[go_sem,F.f0],by simp only[go_sem,F.f3],by simp only[go_sem,F.f9],by simp only[go_sem,F.f10],by simp only[go_sem,F.f13],by simp only[go_sem,F.f14],by simp only[go_sem,F.f15]⟩,by simp only[go_sem],by simp only[go_sem]⟩
 obtain⟨fr2,p2,F2,k18,k19,m16,m17⟩:∃fr2,ex cx D 0 77 135 (.region 15 g77_14 true) fr1 (apH q1 q2 o1 o2 x y)=some (.normal,fr2,apH q1 q2 o1 o2 x y)∧AFr fr2 tv s P Q i∧fr2.get 18=iv z2∧fr2.get 19=bv b2∧fr2.get 16=iv z1∧fr2.get 17=bv b1:=by
  simp -implicitDefEqProofs (maxDischargeDepth:=4) only[go_sem,F1.f0,F1.f3,F1.f9,F1.f10,F1.f13,F1.f14,F1.f15,mvV_false,hP.shr,hP.notOwn,alen_sl hP,hQ.shr,hQ.notOwn,alen_sl hQ,List.length_map,d.n.sl.shr,d.n.sl.notOwn,d.n.sl.shut1,a2,j2,nbeq,Nat.zero_le,Nat.le_refl,Nat.not_lt_zero]
  exact⟨_,rfl,⟨by simp only[go_sem,F1.f0],by simp only[go_sem,F1.f3],by simp only[go_sem,F1.f9],by simp only[go_sem,F1.f10],by simp only[go_sem,F1.f13],by simp only[go_sem,F1.f14],by simp only[go_sem,F1.f15]⟩,by simp only[go_sem],by simp only[go_sem],by simp only[go_sem,k16],by simp only[go_sem,k17]⟩
 exact⟨fr2,by rw[x_cont1 p1,p2],F2,m16,m17,k18,k19⟩
theorem ap_neq(d:Du ns T tv){s:Nat}{q1 q2:Int}{x y:Nd}{o1 o2:Int}{P Q:AV}{L M:List (Int×Int)}(hP:Sl 2 (shr P) (L.map ed))(hQ:Sl 2 (shr Q) (M.map ed)){i:Nat}{fr:PT}{z1 z2:Int}{b1 b2:Bool}(J:JFr fr tv s P Q i z1 z2 b1 b2)(hne:(z1,b1)≠(z2,b2)):
  ∃fr',ex cx D 0 77 135 (.region 16 g77_15 true) fr (apH q1 q2 o1 o2 x y)=some (.normal,fr',apH q1 q2 o1 o2 x y)∧AFr fr' tv s P Q i∧fr'.get 134=bv true:=by
 by_cases hz:z1=z2
 rotate_left
 ·simp -implicitDefEqProofs (maxDischargeDepth:=4) only[go_sem,J.f0,J.f3,J.f9,J.f10,J.f13,J.f14,J.f15,mvV_false,hP.shr,hP.notOwn,alen_sl hP,hQ.shr,hQ.notOwn,alen_sl hQ,List.length_map,d.n.sl.shr,d.n.sl.notOwn,d.n.sl.shut1,J.f16,J.f17,J.f18,J.f19,hz,nbeq,Nat.zero_le,Nat.le_refl,Nat.not_lt_zero]
  exact⟨_,rfl,⟨by simp only[go_sem,J.f0],by simp only[go_sem,J.f3],by simp only[go_sem,J.f9],by simp only[go_sem,J.f10],by simp only[go_sem,J.f13],by simp only[go_sem,J.f14],by simp only[go_sem,J.f15]⟩,by simp only[go_sem]⟩
 subst hz
 cases b1<;>cases b2
 ·exact absurd rfl hne
 ·simp -implicitDefEqProofs (maxDischargeDepth:=4) only[go_sem,J.f0,J.f3,J.f9,J.f10,J.f13,J.f14,J.f15,mvV_false,hP.shr,hP.notOwn,alen_sl hP,hQ.shr,hQ.notOwn,alen_sl hQ,List.length_map,d.n.sl.shr,d.n.sl.notOwn,d.n.sl.shut1,J.f16,J.f17,J.f18,J.f19,nbeq,Nat.zero_le,Nat.le_refl,Nat.not_lt_zero]
  exact⟨_,rfl,⟨by simp only[go_sem,J.f0],by simp only[go_sem,J.f3],by simp only[go_sem,J.f9],by simp only[go_sem,J.f10],by simp only[go_sem,J.f13],by simp only[go_sem,J.f14],by simp only[go_sem,J.f15]⟩,by simp only[go_sem]⟩
 ·simp -implicitDefEqProofs (maxDischargeDepth:=4) only[go_sem,J.f0,J.f3,J.f9,J.f10,J.f13,J.f14,J.f15,mvV_false,hP.shr,hP.notOwn,alen_sl hP,hQ.shr,hQ.notOwn,alen_sl hQ,List.length_map,d.n.sl.shr,d.n.sl.notOwn,d.n.sl.shut1,J.f16,J.f17,J.f18,J.f19,nbeq,Nat.zero_le,Nat.le_refl,Nat.not_lt_zero]
  exact⟨_,rfl,⟨by simp only[go_sem,J.f0],by simp only[go_sem,J.f3],by simp only[go_sem,J.f9],by simp only[go_sem,J.f10],by simp only[go_sem,J.f13],by simp only[go_sem,J.f14],by simp only[go_sem,J.f15]⟩,by simp only[go_sem]⟩
 ·exact absurd rfl hne
theorem ap_eq0(d:Du ns T tv){s:Nat}(h0:¬(0:Int)<(s:Int)){q1 q2:Int}{x y:Nd}{o1 o2:Int}{P Q:AV}{L M:List (Int×Int)}(hP:Sl 2 (shr P) (L.map ed))(hQ:Sl 2 (shr Q) (M.map ed)){i:Nat}{fr:PT}{z1:Int}{b1:Bool}(J:JFr fr tv s P Q i z1 z1 b1 b1):
  ∃fr',ex cx D 0 77 135 (.region 16 g77_15 true) fr (apH q1 q2 o1 o2 x y)=some (.normal,fr',apH q1 q2 o1 o2 x y)∧AFr fr' tv s P Q i∧fr'.get 134=bv false:=by
 cases b1
 ·simp -implicitDefEqProofs (maxDischargeDepth:=4) only[go_sem,J.f0,J.f3,J.f9,J.f10,J.f13,J.f14,J.f15,mvV_false,hP.shr,hP.notOwn,alen_sl hP,hQ.shr,hQ.notOwn,alen_sl hQ,List.length_map,d.n.sl.shr,d.n.sl.notOwn,d.n.sl.shut1,J.f16,J.f17,J.f18,J.f19,h0,nbeq,Nat.zero_le,Nat.le_refl,Nat.not_lt_zero]
  exact⟨_,rfl,⟨by simp only[go_sem,J.f0],by simp only[go_sem,J.f3],by simp only[go_sem,J.f9],by simp only[go_sem,J.f10],by simp only[go_sem,J.f13],by simp only[go_sem,J.f14],by simp only[go_sem,J.f15]⟩,by simp only[go_sem]⟩
 ·simp -implicitDefEqProofs (maxDischargeDepth:=4) only[go_sem,J.f0,J.f3,J.f9,J.f10,J.f13,J.f14,J.f15,mvV_false,hP.shr,hP.notOwn,alen_sl hP,hQ.shr,hQ.notOwn,alen_sl hQ,List.length_map,d.n.sl.shr,d.n.sl.notOwn,d.n.sl.shut1,J.f16,J.f17,J.f18,J.f19,h0,nbeq,Nat.zero_le,Nat.le_refl,Nat.not_lt_zero]
  exact⟨_,rfl,⟨by simp only[go_sem,J.f0],by simp only[go_sem,J.f3],by simp only[go_sem,J.f9],by simp only[go_sem,J.f10],by simp only[go_sem,J.f13],by simp only[go_sem,J.f14],by simp only[go_sem,J.f15]⟩,by simp only[go_sem]⟩
theorem ap_eqs(d:Du ns T tv){s m:Nat}(h0:(0:Int)<(s:Int))(ws:wrapK .i64 ((s:Int)-1)=(m:Int)){q1 q2:Int}{x y:Nd}{o1 o2:Int}{P Q:AV}{L M:List (Int×Int)}(hP:Sl 2 (shr P) (L.map ed))(hQ:Sl 2 (shr Q) (M.map ed)){i:Nat}{fr:PT}{z1:Int}{b1:Bool}(J:JFr fr tv s P Q i z1 z1 b1 b1)
  {u v:Nat} {e2 f2:Int} (a1:aindexAddr cx.T 64 (shr P) (iv i)=some (.vp (ed ((u:Int),e2)) 0)) (a2:aindexAddr cx.T 64 (shr Q) (iv i)=some (.vp (ed ((v:Int),f2)) 0)) {w:Bool} (hp:pcall D 77 [tv,iv u,iv v,iv m]=some (bv w)):
  ∃fr',ex cx D 0 77 135 (.region 16 g77_15 true) fr (apH q1 q2 o1 o2 x y)=some (.normal,fr',apH q1 q2 o1 o2 x y)∧AFr fr' tv s P Q i∧fr'.get 134=bv w:=by
 cases b1
 ·simp -implicitDefEqProofs (maxDischargeDepth:=4) only[go_sem,J.f0,J.f3,J.f9,J.f10,J.f13,J.f14,J.f15,mvV_false,hP.shr,hP.notOwn,alen_sl hP,hQ.shr,hQ.notOwn,alen_sl hQ,List.length_map,d.n.sl.shr,d.n.sl.notOwn,d.n.sl.shut1,J.f16,J.f17,J.f18,J.f19,a1,a2,hp,h0,ws,nbeq,Nat.zero_le,Nat.le_refl,Nat.not_lt_zero]
  exact⟨_,rfl,⟨by simp only[go_sem,J.f0],by simp only[go_sem,J.f3],by simp only[go_sem,J.f9],by simp only[go_sem,J.f10],by simp only[go_sem,J.f13],by simp only[go_sem,J.f14],by simp only[go_sem,J.f15]⟩,by simp only[go_sem]⟩
 ·simp -implicitDefEqProofs (maxDischargeDepth:=4) only[go_sem,J.f0,J.f3,J.f9,J.f10,J.f13,J.f14,J.f15,mvV_false,hP.shr,hP.notOwn,alen_sl hP,hQ.shr,hQ.notOwn,alen_sl hQ,List.length_map,d.n.sl.shr,d.n.sl.notOwn,d.n.sl.shut1,J.f16,J.f17,J.f18,J.f19,a1,a2,hp,h0,ws,nbeq,Nat.zero_le,Nat.le_refl,Nat.not_lt_zero]
  exact⟨_,rfl,⟨by simp only[go_sem,J.f0],by simp only[go_sem,J.f3],by simp only[go_sem,J.f9],by simp only[go_sem,J.f10],by simp only[go_sem,J.f13],by simp only[go_sem,J.f14],by simp only[go_sem,J.f15]⟩,by simp only[go_sem]⟩
theorem ap_step(d:Du ns T tv){s:Nat}(hs:s≤1000){r:Nat→Nat→Bool}(hr:∀m,s=m+1→∀a b,a<T.length→b<T.length→pcall D 77 [tv,iv a,iv b,iv m]=some (bv (r a b)))(hr0:s=0→r=fun _ _=>false)
  {q1 q2:Int} {x y:Nd} {o1 o2:Int} {P Q:AV} {L M:List (Int×Int)} (hP:Sl 2 (shr P) (L.map ed)) (hQ:Sl 2 (shr Q) (M.map ed)) (hlm:M.length=L.length) (hl:L.length≤9) {i:Nat} (hi:i<L.length) {fr:PT} (F:AFr fr tv s P Q i) {u v:Nat} {e2 f2:Int} (he:L.getD i (0,0)=((u:Int),e2)) (hf:M.getD i (0,0)=((v:Int),f2)) (t1:u<T.length) (t2:v<T.length)
  {z1 z2:Int} {b1 b2:Bool} (j1:pcall D 69 [tv,iv q1,ed ((u:Int),e2)]=some (jmpV (z1,b1))) (j2:pcall D 69 [tv,iv q2,ed ((v:Int),f2)]=some (jmpV (z2,b2))):
  ∃fr',ex cx D 0 77 135 bo77 fr (apH q1 q2 o1 o2 x y)=some (if (!decide ((z1,b1)=(z2,b2))||r u v)=true then .ret else .normal,fr',apH q1 q2 o1 o2 x y)∧(if (!decide ((z1,b1)=(z2,b2))||r u v)=true then fr'.get 8=bv true else AFr fr' tv s P Q (i+1)):=by
 have hlt:(i:Int)<(L.length:Int):=by omega
 have w3:wrapK .i64 ((i:Int)+1)=((i+1:Nat):Int):=by rw[wrapK_i64 (by omega) (by omega)];rfl
 have a1:=at_ed hP hi
 have a2:=at_ed hQ (show i<M.length by omega)
 rw[he]at a1
 rw[hf]at a2
 obtain⟨fr1,p1,F1⟩:∃fr1,ex cx D 0 77 135 (.seq (.region 12 g77_12 false) (.cond (.tmp 82) .skip (.exit 0))) fr (apH q1 q2 o1 o2 x y)=some (.normal,fr1,apH q1 q2 o1 o2 x y)∧AFr fr1 tv s P Q i:=by
  simp -implicitDefEqProofs (maxDischargeDepth:=4) only[go_sem,F.f13,F.f15,mvV_false,hP.shr,hP.notOwn,alen_sl hP,List.length_map,hlt]
  exact⟨_,rfl,by simp only[go_sem,F.f0],by simp only[go_sem,F.f3],by simp only[go_sem,F.f9],by simp only[go_sem,F.f10],by simp only[go_sem,F.f13],by simp only[go_sem,F.f14],by simp only[go_sem,F.f15]⟩
 obtain⟨fr2,p2,F2⟩:=ap_jumps d hP hQ F1 a1 a2 j1 j2 (o1:=o1) (o2:=o2) (x:=x) (y:=y)
 obtain⟨_,_,p2a,p2b⟩:=x_split p2
 obtain⟨fr3,p3,F3,k3⟩:∃fr',ex cx D 0 77 135 (.region 16 g77_15 true) fr2 (apH q1 q2 o1 o2 x y)=some (.normal,fr',apH q1 q2 o1 o2 x y)∧AFr fr' tv s P Q i∧fr'.get 134=bv (!decide ((z1,b1)=(z2,b2))||r u v):=by
  by_cases hne:(z1,b1)=(z2,b2)
  rotate_left
  ·rw[decide_eq_false hne,Bool.not_false,Bool.true_or]
   exact ap_neq d hP hQ F2 hne
  ·rw[decide_eq_true hne,Bool.not_true,Bool.false_or]
   cases hne
   rcases Nat.eq_zero_or_pos s with h0 | h0
   ·rw[hr0 h0]
    exact ap_eq0 d (by omega) hP hQ F2
   ·obtain⟨m,hm⟩:∃m,s=m+1:=⟨s-1,by omega⟩
    exact ap_eqs d (show (0:Int)<(s:Int) by omega) (show wrapK .i64 ((s:Int)-1)=(m:Int) by rw[wrapK_i64 (by omega) (by omega)];omega) hP hQ F2 a1 a2 (hr m hm u v t1 t2)
 unfold bo77
 rw[x_cont1 p1]
 generalize (!decide ((z1,b1)=(z2,b2))||r u v)=w at *
 cases w with
 | true =>
  have eb:ex cx D 0 77 135 (.block 1 (.seq (.region 14 g77_13 true) (.seq (.region 15 g77_14 true) (.seq (.region 16 g77_15 true) (.cond (.tmp 134) (.seq (.region 17 g77_16 false) .ret) .skip))))) fr1 (apH q1 q2 o1 o2 x y)=some (.ret,fr3.set 8 (bv true),apH q1 q2 o1 o2 x y):=by
   rw[x_block,x_cont1 p2a,x_cont1 p2b,x_cont1 p3]
   simp -implicitDefEqProofs (maxDischargeDepth:=4) only[go_sem,k3]
  simp only[if_true]
  rw[x_seq,eb]
  exact⟨_,rfl,by simp only[go_sem]⟩
 | false =>
  have eb:ex cx D 0 77 135 (.block 1 (.seq (.region 14 g77_13 true) (.seq (.region 15 g77_14 true) (.seq (.region 16 g77_15 true) (.cond (.tmp 134) (.seq (.region 17 g77_16 false) .ret) .skip))))) fr1 (apH q1 q2 o1 o2 x y)=some (.normal,fr3,apH q1 q2 o1 o2 x y):=by
   rw[x_block,x_cont1 p2a,x_cont1 p2b,x_cont1 p3]
   simp -implicitDefEqProofs (maxDischargeDepth:=4) only[go_sem,k3]
  simp only[Bool.false_eq_true,if_false]
  rw[x_cont1 eb]
  simp -implicitDefEqProofs (maxDischargeDepth:=4) only[go_sem,F3.f15,w3]
  exact⟨_,rfl,by simp only[go_sem,F3.f0],by simp only[go_sem,F3.f3],by simp only[go_sem,F3.f9],by simp only[go_sem,F3.f10],by simp only[go_sem,F3.f13],by simp only[go_sem,F3.f14],by simp only[go_sem]⟩
theorem ap_loop(d:Du ns T tv)(hN:T.length≤64){s:Nat}(hs:s≤1000){r:Nat→Nat→Bool}(hr:∀m,s=m+1→∀a b,a<T.length→b<T.length→pcall D 77 [tv,iv a,iv b,iv m]=some (bv (r a b)))(hr0:s=0→r=fun _ _=>false)
  {q1 q2:Nat} {x y:Nd} (hx:T[q1]?=some x) (hy:T[q2]?=some y) (hxy:hd2 x y=true) {o1 o2:Int} {P Q:AV} (hP:Sl 2 (shr P) ((oE x).map ed)) (hQ:Sl 2 (shr Q) ((oE y).map ed)):
  ∀(k i:Nat)(fr:PT),(oE x).length-i=k→i≤(oE x).length→AFr fr tv s P Q i→
  ∃fr',D.loop 0 77 135 l77_0 fr (apH q1 q2 o1 o2 x y)=some (if anyF T r x y i k=true then .ret else .exit 0,fr',apH q1 q2 o1 o2 x y)∧(anyF T r x y i k=true→fr'.get 8=bv true)
 | 0,i,fr,hk,hi,F=>by
  have hlt:=lp1 hk hi
  have h0:anyF T r x y i 0=false:=rfl
  rw[dl77_0,h0]
  simp -implicitDefEqProofs (maxDischargeDepth:=4) only[go_sem,F.f13,F.f15,mvV_false,hP.shr,hP.notOwn,alen_sl hP,List.length_map,hlt]
  exact⟨_,rfl,fun h=>h.elim⟩
 | k+1,i,fr,hk,hi,F=>by
  have hlx:i<(oE x).length:=by omega
  obtain⟨k1,k2,k3⟩:=hd2_iff.1 hxy
  have hl:=oE_len k3 k2
  have h9:(oE x).length≤9:=by
   have h8:=(d.wf (ofs:=List.replicate T.length 0) List.length_replicate).l8 x (List.mem_of_getElem? hx)
   unfold oE
   split<;>simp<;>omega
  have m1:(oE x).getD i (0,0)∈oE x:=mem_getD hlx
  have m2:(oE y).getD i (0,0)∈oE y:=mem_getD (show i<(oE y).length by omega)
  have j1:=jump_ok d.n (q1:Int) ((oE x).getD i (0,0))
  have j2:=jump_ok d.n (q2:Int) ((oE y).getD i (0,0))
  rw[d.jmp hN hx m1]at j1
  rw[d.jmp hN hy m2]at j2
  have t1:=d.to_lt (List.mem_of_getElem? hx) m1
  have t2:=d.to_lt (List.mem_of_getElem? hy) m2
  have c1:=(d.wf (ofs:=List.replicate T.length 0) List.length_replicate).cl x (List.mem_of_getElem? hx) _ m1
  have c2:=(d.wf (ofs:=List.replicate T.length 0) List.length_replicate).cl y (List.mem_of_getElem? hy) _ m2
  obtain⟨u,e2,he⟩:∃(u:Nat)(e2:Int),(oE x).getD i (0,0)=((u:Int),e2):=⟨((oE x).getD i (0,0)).1.toNat,((oE x).getD i (0,0)).2,Prod.ext (by dsimp only;omega) rfl⟩
  obtain⟨v,f2,hf⟩:∃(u:Nat)(e2:Int),(oE y).getD i (0,0)=((u:Int),e2):=⟨((oE y).getD i (0,0)).1.toNat,((oE y).getD i (0,0)).2,Prod.ext (by dsimp only;omega) rfl⟩
  rw[he]at j1 t1
  rw[hf]at j2 t2
  rw[Int.toNat_natCast]at t1 t2
  have hF:eg2 T r x.prio y.prio ((oE x).getD i (0,0)) ((oE y).getD i (0,0))=(!decide (jT T x.prio ((u:Int),e2)=jT T y.prio ((v:Int),f2))||r u v):=by
   rw[he,hf];rfl
  rw[anyF_succ,hF]
  generalize jT T x.prio ((u:Int),e2)=w1 at *
  generalize jT T y.prio ((v:Int),f2)=w2 at *
  obtain⟨z1,b1⟩:=w1
  obtain⟨z2,b2⟩:=w2
  obtain⟨fr1,p1,p2⟩:=ap_step d hs hr hr0 hP hQ hl.symm h9 hlx F he hf t1 t2 (o1:=o1) (o2:=o2) (x:=x) (y:=y) j1 j2
  generalize (!decide ((z1,b1)=(z2,b2))||r u v)=w at *
  rw[dl77_0]
  cases w with
  | true =>
   rw[if_pos rfl]at p1 p2
   refine⟨fr1,?_,fun _=>p2⟩
   rw[show ex cx (den cx) 0 77 135 bo77 fr (apH q1 q2 o1 o2 x y)=_ from p1,Bool.true_or,if_pos rfl]
   rfl
  | false =>
   rw[if_neg (by decide)]at p1 p2
   rw[show ex cx (den cx) 0 77 135 bo77 fr (apH q1 q2 o1 o2 x y)=_ from p1,xbind_some,contR_normal,trimmed_l (n:=(apH q1 q2 o1 o2 x y).length) (H:=apH q1 q2 o1 o2 x y) rfl,Bool.false_or]
   exact ap_loop d hN hs hr hr0 hx hy hxy hP hQ k (i+1) fr1 (nd1 hk) (nd2 hk) p2
end
open Go.Gr
theorem pay_ap{x:Nd}{v:AV}(hl8:x.es.length≤8)(hG:Grow 2 v (x.es.map ed)):∃u,(x.chan=true→apV 2 16 [ed (x.pt,x.ps)] v=some u∧∃l,u=.vec 2 .own l)∧(x.chan=false→u=v)∧Grow 2 u ((oE x).map ed):=by
 cases hc:x.chan with
 | false=>exact⟨v,fun h=>(by cases h),fun _=>rfl,by unfold oE;rw[hc,if_neg (by decide),List.append_nil];exact hG⟩
 | true =>
  have hE:(oE x).map ed=x.es.map ed++[ed (x.pt,x.ps)]:=by unfold oE;rw[hc,if_pos rfl,List.map_append];rfl
  refine⟨.vec 2 .own (x.es.map ed++[ed (x.pt,x.ps)]),fun _=>⟨?_,_,rfl⟩,fun h=>(by cases h),.inl (by rw[hE])⟩
  rcases hG with rfl | ⟨rfl,he⟩
  ·exact apV_own (by rw[List.length_map];exact ap_small' hl8) (by decide)
  ·rw[he];exact apV_none (show (0+1)*(16+1)≤1099511627776 by decide) (by decide)
structure B77(fr:PT)(tv:AV)(s:Nat):Prop where
 f0:fr.get 0=tv
 f3:fr.get 3=iv s
 f9:fr.get 9=.ptr 0 0 0
 f10:fr.get 10=.ptr 1 0 0
 f11:fr.get 11=.ptr 2 0 0
 f12:fr.get 12=.ptr 3 0 0
section
variable {ns T:List Nd} {tv:AV}
theorem ap_cmp{s:Nat}{q1 q2 o1 o2:Int}{x y:Nd}(sx:Sl 2 x.nx (x.es.map ed))(sy:Sl 2 y.nx (y.es.map ed)){fr:PT}(F:B77 fr tv s):
  ∃fr',ex cx D 0 77 135 (.seq (.region 3 g77_3 false) (.cond (.tmp 58) (.seq (.region 4 g77_4 false) .ret) .skip)) fr (apH q1 q2 o1 o2 x y)=some (if hd2 x y=true then .normal else .ret,fr',apH q1 q2 o1 o2 x y)∧(if hd2 x y=true then B77 fr' tv s else fr'.get 8=bv true):=by
 unfold hd2
 by_cases h1:x.kind=y.kind
 rotate_left
 ·rw[decide_eq_false h1,Bool.false_and,Bool.false_and]
  simp -implicitDefEqProofs (maxDischargeDepth:=4) only[go_sem,F.f11,F.f12,h1,sx.shr,sy.shr,sx.notOwn,sy.notOwn,alen_sl sx,alen_sl sy,List.length_map]
  exact⟨_,rfl,by simp only[go_sem]⟩
 by_cases h2:x.chan=y.chan
 rotate_left
 ·rw[decide_eq_false h2,Bool.and_false,Bool.false_and]
  have h2':(x.chan=true∧y.chan=false)∨(x.chan=false∧y.chan=true):=by
   cases hx:x.chan<;>cases hy:y.chan<;>simp_all
  rcases h2' with⟨h3,h4⟩ | ⟨h3,h4⟩
  ·simp -implicitDefEqProofs (maxDischargeDepth:=4) only[go_sem,F.f11,F.f12,h1,h3,h4,sx.shr,sy.shr,sx.notOwn,sy.notOwn,alen_sl sx,alen_sl sy,List.length_map]
   exact⟨_,rfl,by simp only[go_sem]⟩
  ·simp -implicitDefEqProofs (maxDischargeDepth:=4) only[go_sem,F.f11,F.f12,h1,h3,h4,sx.shr,sy.shr,sx.notOwn,sy.notOwn,alen_sl sx,alen_sl sy,List.length_map]
   exact⟨_,rfl,by simp only[go_sem]⟩
 rw[decide_eq_true h1,decide_eq_true h2,Bool.and_true,Bool.true_and]
 by_cases h3:x.es.length=y.es.length
 ·have h3':(x.es.length:Int)=(y.es.length:Int):=by omega
  rw[decide_eq_true h3]
  simp -implicitDefEqProofs (maxDischargeDepth:=4) only[go_sem,F.f11,F.f12,h1,h2,h3',sx.shr,sy.shr,sx.notOwn,sy.notOwn,alen_sl sx,alen_sl sy,List.length_map]
  exact⟨_,rfl,by simp only[go_sem,F.f0],by simp only[go_sem,F.f3],by simp only[go_sem,F.f9],by simp only[go_sem,F.f10],by simp only[go_sem,F.f11],by simp only[go_sem,F.f12]⟩
 ·have h3':¬(x.es.length:Int)=(y.es.length:Int):=by omega
  rw[decide_eq_false h3]
  simp -implicitDefEqProofs (maxDischargeDepth:=4) only[go_sem,F.f11,F.f12,h1,h2,h3',sx.shr,sy.shr,sx.notOwn,sy.notOwn,alen_sl sx,alen_sl sy,List.length_map]
  exact⟨_,rfl,by simp only[go_sem]⟩
theorem ap_build{s:Nat}{q1 q2 o1 o2:Int}{x y:Nd}(sx:Sl 2 x.nx (x.es.map ed))(sy:Sl 2 y.nx (y.es.map ed))(l1:x.es.length≤8)(l2:y.es.length≤8)(hc:x.chan=y.chan){fr:PT}(F:B77 fr tv s):
  ∃fr' P Q,ex cx D 0 77 135 (.seq (.region 5 g77_5 false) (.seq (.region 6 g77_6 false) (.seq (.region 7 g77_7 false) (.seq (.seq (.region 8 g77_8 false) (.cond (.tmp 68) (.seq (.region 9 g77_9 false) (.region 10 g77_10 false)) .skip)) (.region 11 g77_11 false))))) fr (apH q1 q2 o1 o2 x y)=some (.normal,fr',apH q1 q2 o1 o2 x y)∧AFr fr' tv s P Q 0∧Sl 2 (shr P) ((oE x).map ed)∧Sl 2 (shr Q) ((oE y).map ed):=by
 obtain⟨v1,hv1,hG1⟩:=app_all l1
 obtain⟨v2,hv2,hG2⟩:=app_all l2
 have i1:=fun H=>items_Sl sx H
 have i2:=fun H=>items_Sl sy H
 obtain⟨u1,a1,b1,g1⟩:=pay_ap l1 hG1
 obtain⟨u2,a2,b2,g2⟩:=pay_ap l2 hG2
 obtain⟨fr1,p1,F1,f13,f14⟩:∃fr1,ex cx D 0 77 135 (.seq (.region 5 g77_5 false) (.region 6 g77_6 false)) fr (apH q1 q2 o1 o2 x y)=some (.normal,fr1,apH q1 q2 o1 o2 x y)∧B77 fr1 tv s∧fr1.get 13=v1∧fr1.get 14=.lit (.slice none 0 0):=by
  rcases hG1 with rfl | ⟨rfl,he⟩
  ·simp -implicitDefEqProofs (maxDischargeDepth:=4) only[go_sem,F.f11,F.f12,sx.shr,sx.notOwn,sy.shr,sy.notOwn,i1,hv1]
   exact⟨_,rfl,⟨by simp only[go_sem,F.f0],by simp only[go_sem,F.f3],by simp only[go_sem,F.f9],by simp only[go_sem,F.f10],by simp only[go_sem,F.f11],by simp only[go_sem,F.f12]⟩,by simp only[go_sem],by simp only[go_sem]⟩
  ·simp -implicitDefEqProofs (maxDischargeDepth:=4) only[go_sem,F.f11,F.f12,sx.shr,sx.notOwn,sy.shr,sy.notOwn,i1,hv1]
   exact⟨_,rfl,⟨by simp only[go_sem,F.f0],by simp only[go_sem,F.f3],by simp only[go_sem,F.f9],by simp only[go_sem,F.f10],by simp only[go_sem,F.f11],by simp only[go_sem,F.f12]⟩,by simp only[go_sem],by simp only[go_sem]⟩
 obtain⟨fr2,p2,F2,k13,k14⟩:∃fr2,ex cx D 0 77 135 (.region 7 g77_7 false) fr1 (apH q1 q2 o1 o2 x y)=some (.normal,fr2,apH q1 q2 o1 o2 x y)∧B77 fr2 tv s∧fr2.get 13=v1∧fr2.get 14=v2:=by
  rcases hG2 with rfl | ⟨rfl,he⟩
  ·simp -implicitDefEqProofs (maxDischargeDepth:=4) only[go_sem,F1.f11,F1.f12,f13,f14,sx.shr,sx.notOwn,sy.shr,sy.notOwn,i2,hv2]
   exact⟨_,rfl,⟨by simp only[go_sem,F1.f0],by simp only[go_sem,F1.f3],by simp only[go_sem,F1.f9],by simp only[go_sem,F1.f10],by simp only[go_sem,F1.f11],by simp only[go_sem,F1.f12]⟩,by simp only[go_sem,f13],by simp only[go_sem]⟩
  ·simp -implicitDefEqProofs (maxDischargeDepth:=4) only[go_sem,F1.f11,F1.f12,f13,f14,sx.shr,sx.notOwn,sy.shr,sy.notOwn,i2,hv2]
   exact⟨_,rfl,⟨by simp only[go_sem,F1.f0],by simp only[go_sem,F1.f3],by simp only[go_sem,F1.f9],by simp only[go_sem,F1.f10],by simp only[go_sem,F1.f11],by simp only[go_sem,F1.f12]⟩,by simp only[go_sem,f13],by simp only[go_sem]⟩
 obtain⟨fr3,p3,F3,m13,m14⟩:∃fr3,ex cx D 0 77 135 (.seq (.region 8 g77_8 false) (.cond (.tmp 68) (.seq (.region 9 g77_9 false) (.region 10 g77_10 false)) .skip)) fr2 (apH q1 q2 o1 o2 x y)=some (.normal,fr3,apH q1 q2 o1 o2 x y)∧B77 fr3 tv s∧fr3.get 13=u1∧fr3.get 14=u2:=by
  cases hx:x.chan with
  | false =>
   have e1:=b1 hx
   have e2:=b2 (by rw[←hc];exact hx)
   subst e1 e2
   simp -implicitDefEqProofs (maxDischargeDepth:=4) only[go_sem,F2.f11,F2.f12,hx]
   exact⟨_,rfl,⟨by simp only[go_sem,F2.f0],by simp only[go_sem,F2.f3],by simp only[go_sem,F2.f9],by simp only[go_sem,F2.f10],by simp only[go_sem,F2.f11],by simp only[go_sem,F2.f12]⟩,by simp only[go_sem,k13],by simp only[go_sem,k14]⟩
  | true =>
   obtain⟨e1,w1,rfl⟩:=a1 hx
   obtain⟨e2,w2,rfl⟩:=a2 (by rw[←hc];exact hx)
   rcases hG1 with rfl | ⟨rfl,he1⟩<;>rcases hG2 with rfl | ⟨rfl,he2⟩
   ·simp -implicitDefEqProofs (maxDischargeDepth:=4) only[go_sem,F2.f11,F2.f12,hx,k13,k14,e1,e2]
    exact⟨_,rfl,⟨by simp only[go_sem,F2.f0],by simp only[go_sem,F2.f3],by simp only[go_sem,F2.f9],by simp only[go_sem,F2.f10],by simp only[go_sem,F2.f11],by simp only[go_sem,F2.f12]⟩,by simp only[go_sem],by simp only[go_sem]⟩
   ·simp -implicitDefEqProofs (maxDischargeDepth:=4) only[go_sem,F2.f11,F2.f12,hx,k13,k14,e1,e2]
    exact⟨_,rfl,⟨by simp only[go_sem,F2.f0],by simp only[go_sem,F2.f3],by simp only[go_sem,F2.f9],by simp only[go_sem,F2.f10],by simp only[go_sem,F2.f11],by simp only[go_sem,F2.f12]⟩,by simp only[go_sem],by simp only[go_sem]⟩
   ·simp -implicitDefEqProofs (maxDischargeDepth:=4) only[go_sem,F2.f11,F2.f12,hx,k13,k14,e1,e2]
    exact⟨_,rfl,⟨by simp only[go_sem,F2.f0],by simp only[go_sem,F2.f3],by simp only[go_sem,F2.f9],by simp only[go_sem,F2.f10],by simp only[go_sem,F2.f11],by simp only[go_sem,F2.f12]⟩,by simp only[go_sem],by simp only[go_sem]⟩
   ·simp -implicitDefEqProofs (maxDischargeDepth:=4) only[go_sem,F2.f11,F2.f12,hx,k13,k14,e1,e2]
    exact⟨_,rfl,⟨by simp only[go_sem,F2.f0],by simp only[go_sem,F2.f3],by simp only[go_sem,F2.f9],by simp only[go_sem,F2.f10],by simp only[go_sem,F2.f11],by simp only[go_sem,F2.f12]⟩,by simp only[go_sem],by simp only[go_sem]⟩
 obtain⟨fr4,p4,F4⟩:∃fr4,ex cx D 0 77 135 (.region 11 g77_11 false) fr3 (apH q1 q2 o1 o2 x y)=some (.normal,fr4,apH q1 q2 o1 o2 x y)∧AFr fr4 tv s u1 u2 0:=by
  simp -implicitDefEqProofs (maxDischargeDepth:=4) only[go_sem]
  exact⟨_,rfl,by simp only[go_sem,F3.f0],by simp only[go_sem,F3.f3],by simp only[go_sem,F3.f9],by simp only[go_sem,F3.f10],by simp only[go_sem,m13],by simp only[go_sem,m14],by simp only[go_sem];rfl⟩
 obtain⟨_,_,r1,r2⟩:=x_split p1
 exact⟨fr4,u1,u2,by rw[x_cont1 r1,x_cont1 r2,x_cont1 p2,x_cont1 p3,p4],F4,g1.sl,g2.sl⟩
theorem apart_call(d:Du ns T tv)(hN:T.length≤64){s:Nat}(hs:s≤1000){r:Nat→Nat→Bool}(hr:∀m,s=m+1→∀a b,a<T.length→b<T.length→pcall D 77 [tv,iv a,iv b,iv m]=some (bv (r a b)))(hr0:s=0→r=fun _ _=>false)
  {i j:Nat} (hi:i<T.length) (hj:j<T.length):∃H',callB cx D 0 77 [tv,iv i,iv j,iv s] []=some (bv (apw T r i j),H'):=by
 obtain⟨o1,x,w1,hx,n1,_⟩:=d.at' hi
 obtain⟨o2,y,w2,hy,n2,_⟩:=d.at' hj
 have r1:=res51_ok d.n i 0
 have r2:=res51_ok d.n j 0
 rw[w1]at r1
 rw[w2]at r2
 have sx:Sl 2 x.nx (x.es.map ed):=d.n.ok x (List.mem_of_getElem? hx)
 have sy:Sl 2 y.nx (y.es.map ed):=d.n.ok y (List.mem_of_getElem? hy)
 have a1:=d.n.at hx
 have a2:=d.n.at hy
 obtain⟨fr1,p1,F1⟩:∃fr1,ex cx D 0 77 135 (.seq (.region 0 g77_0 false) (.seq (.region 1 g77_1 false) (.region 2 g77_2 true))) ((((PT.nil.set 0 (drp tv)).set 1 (drp (iv i))).set 2 (drp (iv j))).set 3 (drp (iv s))) []=some (.normal,fr1,apH (tgt T i) (tgt T j) o1 o2 x y)∧B77 fr1 tv s:=by
  simp -implicitDefEqProofs (maxDischargeDepth:=4) only[go_sem,d.n.sl.shr,d.n.sl.notOwn,d.n.sl.drp,d.n.sl.shut1,build61a,build61,r1,r2,a1,a2,layB_res,sx.shr,sy.shr,sx.notOwn,sy.notOwn,sx.drp,sy.drp,sx.fitA,sy.fitA,nbeq,Nat.zero_le,Nat.le_refl,Nat.not_lt_zero,List.set_cons_zero,List.set_cons_succ]
  exact⟨_,rfl,by simp only[go_sem],by simp only[go_sem],by simp only[go_sem],by simp only[go_sem],by simp only[go_sem],by simp only[go_sem]⟩
 obtain⟨_,_,e0,rr⟩:=x_split p1
 obtain⟨_,_,e1,e2⟩:=x_split rr
 obtain⟨fr2,p2,F2⟩:=ap_cmp (q1:=tgt T i) (q2:=tgt T j) (o1:=o1) (o2:=o2) sx sy F1
 rw[c77,x_cont1 e0,x_cont1 e1,x_cont1 e2]
 cases hxy:hd2 x y with
 | false =>
  have ha:apw T r i j=true:=by unfold apw;rw[n1,n2,hxy];rfl
  rw[hxy,if_neg (by decide)]at p2
  rw[hxy,if_neg (by decide)]at F2
  rw[x_seq,p2,ha]
  simp -implicitDefEqProofs (maxDischargeDepth:=4) only[go_sem,F2]
  exact⟨_,rfl⟩
 | true =>
  rw[hxy,if_pos rfl]at p2
  rw[hxy,if_pos rfl]at F2
  obtain⟨k1,kc,k3⟩:=hd2_iff.1 hxy
  have l8:=(d.wf (ofs:=List.replicate T.length 0) List.length_replicate).l8
  obtain⟨fr3,P,Q,p3,F3,hP,hQ⟩:=ap_build (q1:=tgt T i) (q2:=tgt T j) (o1:=o1) (o2:=o2) sx sy (l8 x (List.mem_of_getElem? hx)) (l8 y (List.mem_of_getElem? hy)) kc F2
  obtain⟨_,_,m1,rr⟩:=x_split p3
  obtain⟨_,_,m2,rr⟩:=x_split rr
  obtain⟨_,_,m3,rr⟩:=x_split rr
  obtain⟨_,_,m4,m5⟩:=x_split rr
  obtain⟨fr4,p4,k4⟩:=ap_loop d hN hs hr hr0 hx hy hxy (o1:=o1) (o2:=o2) hP hQ (oE x).length 0 fr3 (Nat.sub_zero _) (Nat.zero_le _) F3
  have ha:apw T r i j=anyF T r x y 0 (oE x).length:=by
   unfold apw anyF
   rw[n1,n2,hxy,List.range_eq_range']
   rfl
  rw[x_cont1 p2,x_cont1 m1,x_cont1 m2,x_cont1 m3,x_cont1 m4,x_assoc,x_cont1 m5,ha]
  cases hany:anyF T r x y 0 (oE x).length with
  | true =>
   rw[hany,if_pos rfl]at p4
   have eb:ex cx D 0 77 135 (.block 0 (.loop l77_0)) fr3 (apH (tgt T i) (tgt T j) o1 o2 x y)=some (.ret,fr4,apH (tgt T i) (tgt T j) o1 o2 x y):=by
    rw[x_block,x_loop,p4];rfl
   rw[x_seq,eb]
   simp -implicitDefEqProofs (maxDischargeDepth:=4) only[go_sem,k4 hany]
   exact⟨_,rfl⟩
  | false =>
   rw[hany,if_neg (by decide)]at p4
   have eb:ex cx D 0 77 135 (.block 0 (.loop l77_0)) fr3 (apH (tgt T i) (tgt T j) o1 o2 x y)=some (.normal,fr4,apH (tgt T i) (tgt T j) o1 o2 x y):=by
    rw[x_block,x_loop,p4];rfl
   rw[x_cont1 eb]
   simp -implicitDefEqProofs (maxDischargeDepth:=4) only[go_sem]
   exact⟨_,rfl⟩
theorem apart_p(d:Du ns T tv)(hN:T.length≤64){s:Nat}(hs:s≤1000){r:Nat→Nat→Bool}(hr:∀m,s=m+1→∀a b,a<T.length→b<T.length→pcall D 77 [tv,iv a,iv b,iv m]=some (bv (r a b)))(hr0:s=0→r=fun _ _=>false)
  {i j:Nat} (hi:i<T.length) (hj:j<T.length):pcall D 77 [tv,iv i,iv j,iv s]=some (bv (apw T r i j)):=by
 obtain⟨H',h⟩:=apart_call d hN hs hr hr0 hi hj
 rw[pcall_eq (v:=bv (apw T r i j)) (H':=H') (by rw[List.map_cons,List.map_cons,List.map_cons,List.map_cons,List.map_nil,d.n.sl.cl2];exact h)]
 rfl
theorem apart_ok(d:Du ns T tv)(hN:T.length≤64):∀(s:Nat),s≤1000→∀i j,i<T.length→j<T.length→pcall D 77 [tv,iv i,iv j,iv s]=some (bv (ap T s i j))
 | 0,hs,i,j,hi,hj=>apart_p d hN hs (fun m hm=>by omega) (fun _=>rfl) hi hj
 | s+1,hs,i,j,hi,hj=>apart_p d hN hs (fun m hm a b ha hb=>by
   have e:m=s:=by omega
   subst e
   exact apart_ok d hN m (by omega) a b ha hb) (fun h=>by omega) hi hj
end
open Go.Gr
abbrev u8V(n:Int):AV:=.lit (.int .u8 n)
structure N22Fr(fr:PT)(a g:AV)(va vb:Int)(i:Nat):Prop where
 f0:fr.get 0=a
 f1:fr.get 1=u8V va
 f2:fr.get 2=u8V vb
 f7:fr.get 7=g
 f8:fr.get 8=iv i
theorem nx_cut2{x:Nd}(hx:NdOk x):∃b,aslice cx.T 64 x.nx none (some (iv ((min x.es.length 2:Nat):Int))) none=some b∧Sl 2 b ((x.es.take 2).map ed):=by
 have hs:Sl 2 x.nx (x.es.map ed):=hx
 obtain⟨b,h1,h2⟩:=aslice_take (n:=min x.es.length 2) hs sl64 (by rw[List.length_map];omega)
 refine⟨b,h1,?_⟩
 rw[←List.map_take,List.take_eq_take_iff.2 (show min (min x.es.length 2) x.es.length=min 2 x.es.length by omega)]at h2
 exact h2
def cut2(x:Nd)(b:AV):Nd:={ x with es:=x.es.take 2,nx:=b }
theorem own_loop{ns:List Nd}{a:AV}(ha:Sl 6 a (ns.map nodeV))(hok:∀x∈ns,NdOk x){va vb:Int}:
  ∀(d i:Nat)(fr:PT)(g:AV)(os:List Nd),5-i=d→i≤5→N22Fr fr a g va vb i→Grow 6 g (os.map nodeV)→os.length=i→(∀x∈os,NdOk x)→
  ∃(fr':PT)(g':AV)(os':List Nd)(j:Nat),D.loop 0 22 104 l22_0 fr []=some (.exit 0,fr',[])∧N22Fr fr' a g' va vb j∧Grow 6 g' (os'.map nodeV)∧os'.length≤5∧∀x∈os',NdOk x
 | 0,i,fr,g,os,hd,hi,F,hg,hl,ho=>by
  have h10:¬((i:Int)<5):=by omega
  by_cases hlt:(i:Int)<(ns.length:Int)
  ·rw[dl22_0]
   simp -implicitDefEqProofs (maxDischargeDepth:=4) only[go_sem,F.f0,F.f8,ha.shr,ha.notOwn,alen_sl ha,List.length_map,hlt,h10]
   exact⟨_,g,os,i,rfl,⟨by simp only[go_sem,F.f0],by simp only[go_sem,F.f1],by simp only[go_sem,F.f2],by simp only[go_sem,F.f7],by simp only[go_sem,F.f8]⟩,hg,by omega,ho⟩
  ·rw[dl22_0]
   simp -implicitDefEqProofs (maxDischargeDepth:=4) only[go_sem,F.f0,F.f8,ha.shr,ha.notOwn,alen_sl ha,List.length_map,hlt,h10]
   exact⟨_,g,os,i,rfl,⟨by simp only[go_sem,F.f0],by simp only[go_sem,F.f1],by simp only[go_sem,F.f2],by simp only[go_sem,F.f7],by simp only[go_sem,F.f8]⟩,hg,by omega,ho⟩
 | d+1,i,fr,g,os,hd,hi,F,hg,hl,ho=>by
  by_cases hlt:(i:Int)<(ns.length:Int)
  rotate_left
  ·rw[dl22_0]
   simp -implicitDefEqProofs (maxDischargeDepth:=4) only[go_sem,F.f0,F.f8,ha.shr,ha.notOwn,alen_sl ha,List.length_map,hlt]
   exact⟨_,g,os,i,rfl,⟨by simp only[go_sem,F.f0],by simp only[go_sem,F.f1],by simp only[go_sem,F.f2],by simp only[go_sem,F.f7],by simp only[go_sem,F.f8]⟩,hg,by omega,ho⟩
  have h10:((i:Int)<5):=by omega
  have w3:=wrap_succ (show i≤1000 by omega)
  obtain⟨x,hx⟩:=ex_nd (ns:=ns) (i:=i) (by omega)
  have hxo:=hok x (List.mem_of_getElem? hx)
  have hs:Sl 2 x.nx (x.es.map ed):=hxo
  have hat:aindexAddr cx.T 56 a (iv i)=some (.vp (nodeV x) 0):=by
   rw[aindexAddr_sl ha sl56 (by rw[List.length_map];omega) rfl]
   simp[List.getD_eq_getElem?_getD,hx]
  have hm:aminmax false [iv x.es.length,iv 2]=some (iv ((min x.es.length 2:Nat):Int)):=min_lit x.es.length 2
  obtain⟨b,hb1,hb2⟩:=nx_cut2 hxo
  have hle:os.length<2 ^ 20:=Nat.lt_of_le_of_lt (show os.length≤10 by omega) (by decide)
  have hap:apV 6 64 [nodeV (cut2 x b)] g=some (.vec 6 .own (os.map nodeV++[nodeV (cut2 x b)])):=by
   rcases hg with rfl | ⟨rfl,he⟩
   ·exact apV_own (ap_small6 (by rw[List.length_map];exact hle)) (by decide)
   ·rw[he];exact apV_none (show (0+1)*(64+1)≤1099511627776 by decide) (by decide)
  have hnew:os.map nodeV++[nodeV (cut2 x b)]=(os++[cut2 x b]).map nodeV:=by rw[List.map_append];rfl
  have hcx:NdOk (cut2 x b):=hb2
  have sc:Sl 2 (cut2 x b).nx ((cut2 x b).es.map ed):=hcx
  obtain⟨fr1,e1,F1⟩:∃fr1:PT,ex cx D 0 22 104 (.seq (.region 5 g22_5 false) (.cond (.tmp 24) .skip (.exit 0))) fr []=some (.normal,fr1,[])∧N22Fr fr1 a g va vb i:=by
   simp -implicitDefEqProofs (maxDischargeDepth:=4) only[go_sem,F.f0,F.f8,ha.shr,ha.notOwn,alen_sl ha,List.length_map,hlt,h10]
   exact⟨_,rfl,by simp only[go_sem,F.f0],by simp only[go_sem,F.f1],by simp only[go_sem,F.f2],by simp only[go_sem,F.f7],by simp only[go_sem,F.f8]⟩
  obtain⟨fr2,e2,F2,k5⟩:∃fr2:PT,ex cx D 0 22 104 (.region 7 g22_6 false) fr1 []=some (.normal,fr2,[.cells 6 66 [nodeV x]])∧N22Fr fr2 a g va vb i∧fr2.get 9=.ptr 0 0 0:=by
   simp -implicitDefEqProofs (maxDischargeDepth:=4) only[go_sem,F1.f0,F1.f8,ha.shr,ha.notOwn,hat,hs.shr,hs.notOwn,hs.drp,hs.fitA,Nat.zero_le,Nat.le_refl,Nat.not_lt_zero]
   exact⟨_,rfl,⟨by simp only[go_sem,F1.f0],by simp only[go_sem,F1.f1],by simp only[go_sem,F1.f2],by simp only[go_sem,F1.f7],by simp only[go_sem,F1.f8]⟩,by simp only[go_sem]⟩
  obtain⟨fr3,e3,F3,l5⟩:∃fr3:PT,ex cx D 0 22 104 (.region 8 g22_7 false) fr2 [.cells 6 66 [nodeV x]]=some (.normal,fr3,[.cells 6 66 [nodeV (cut2 x b)]])∧N22Fr fr3 a g va vb i∧fr3.get 9=.ptr 0 0 0:=by
   simp -implicitDefEqProofs (maxDischargeDepth:=4) only[go_sem,k5,hs.shr,hs.notOwn,hs.drp,elP_Sl hs,alen_sl hs,List.length_map,hm,hb1,hb2.shr,hb2.notOwn,hb2.drp,hb2.fitA,Nat.not_lt_zero]
   exact⟨_,rfl,⟨by simp only[go_sem,F2.f0],by simp only[go_sem,F2.f1],by simp only[go_sem,F2.f2],by simp only[go_sem,F2.f7],by simp only[go_sem,F2.f8]⟩,by simp only[go_sem,k5]⟩
  obtain⟨fr4,e4,F4⟩:∃fr4:PT,ex cx D 0 22 104 (.region 9 g22_8 false) fr3 [.cells 6 66 [nodeV (cut2 x b)]]=some (.normal,fr4,[.cells 6 66 [nodeV (cut2 x b)]])∧N22Fr fr4 a (.vec 6 .own ((os++[cut2 x b]).map nodeV)) va vb i:=by
   rw[←hnew]
   rcases hg with rfl | ⟨rfl,he⟩
   ·simp -implicitDefEqProofs (maxDischargeDepth:=4) only[go_sem,F3.f7,l5,sc.shr,sc.notOwn,sc.drp,sc.cl0,hap]
    exact⟨_,rfl,⟨by simp only[go_sem,F3.f0],by simp only[go_sem,F3.f1],by simp only[go_sem,F3.f2],by simp only[go_sem],by simp only[go_sem,F3.f8]⟩⟩
   ·simp -implicitDefEqProofs (maxDischargeDepth:=4) only[go_sem,F3.f7,l5,sc.shr,sc.notOwn,sc.drp,sc.cl0,hap]
    exact⟨_,rfl,⟨by simp only[go_sem,F3.f0],by simp only[go_sem,F3.f1],by simp only[go_sem,F3.f2],by simp only[go_sem],by simp only[go_sem,F3.f8]⟩⟩
  obtain⟨fr5,e5,F5⟩:∃fr5:PT,ex cx D 0 22 104 (.region 6 g22_9 false) fr4 [.cells 6 66 [nodeV (cut2 x b)]]=some (.normal,fr5,[.cells 6 66 [nodeV (cut2 x b)]])∧N22Fr fr5 a (.vec 6 .own ((os++[cut2 x b]).map nodeV)) va vb (i+1):=by
   simp -implicitDefEqProofs (maxDischargeDepth:=4) only[go_sem,F4.f8,w3]
   exact⟨_,rfl,⟨by simp only[go_sem,F4.f0],by simp only[go_sem,F4.f1],by simp only[go_sem,F4.f2],by simp only[go_sem,F4.f7],by simp only[go_sem]⟩⟩
  have eb:ex cx D 0 22 104 (.block 1 (.seq (.region 7 g22_6 false) (.seq (.region 8 g22_7 false) (.region 9 g22_8 false)))) fr1 []=some (.normal,fr4,[.cells 6 66 [nodeV (cut2 x b)]]):=by
   rw[x_block,x_cont1 e2,x_cont1 e3,e4];rfl
  rw[dl22_0,x_cont1 e1,x_cont1 eb,e5,xbind_some,contR_normal]
  refine trim_gen (P:=fun z=>∃(fr':PT)(g':AV)(os':List Nd)(j:Nat),z=some (.exit 0,fr',[])∧N22Fr fr' a g' va vb j∧Grow 6 g' (os'.map nodeV)∧os'.length≤5∧∀x∈os',NdOk x) [0,1,2,7,8] (Nat.zero_le _) (fun t ht=>?_) fun fr' G' hG' hf hk'=>?_
  ·simp only[List.mem_cons,List.not_mem_nil,or_false]at ht
   rcases ht with rfl | rfl | rfl | rfl | rfl
   ·rw[F5.f0,kill_Sl ha]
   ·rw[F5.f1];rfl
   ·rw[F5.f2];rfl
   ·rw[F5.f7];rfl
   ·rw[F5.f8];rfl
  ·have hGB:G'=[]:=List.length_eq_zero_iff.1 hG'
   subst hGB
   refine own_loop ha hok d (i+1) fr' _ (os++[cut2 x b]) (nd1 hd) (nd2 hd) ⟨by rw[hf 0 (by simp),F5.f0],by rw[hf 1 (by simp),F5.f1],by rw[hf 2 (by simp),F5.f2],by rw[hf 7 (by simp),F5.f7],by rw[hf 8 (by simp),F5.f8]⟩ (.inl rfl) (by rw[List.length_append,hl];rfl) fun y hy=>?_
   rw[List.mem_append,List.mem_singleton]at hy
   rcases hy with hy | rfl
   ·exact ho y hy
   ·exact hcx
section
variable {g:AV} {os:List Nd} (hw:NsOk os (shr g))
include hw
theorem ca_bad(he:(ordC os).2≠0){fr2:PT}(f7:fr2.get 7=g):∃fr' H',ex cx D 0 22 104 (.seq (.region 10 g22_10 false) (.seq (.region 11 g22_11 false) (.cond (.tmp 54) (.seq (.region 12 g22_12 false) .ret) .skip))) fr2 []=some (.ret,fr',H')∧fr'.get 6=bv true:=by
 have p73:=of_bad hw he
 generalize (ordC os).2=e at *
 obtain⟨fr3,p3,k10,k11⟩:∃fr3,ex cx D 0 22 104 (.region 10 g22_10 false) fr2 []=some (.normal,fr3,[tZ])∧fr3.get 10=.ptr 0 0 0∧fr3.get 11=iv e:=by
  simp -implicitDefEqProofs (maxDischargeDepth:=4) only[go_sem,f7,mvV_false,hw.sl.shr,hw.sl.notOwn,hw.sl.drp,hw.sl.shut1,p73,Nat.zero_le,Nat.le_refl,Nat.not_lt_zero,List.set_cons_zero]
  exact⟨_,rfl,by simp only[go_sem],by simp only[go_sem]⟩
 obtain⟨fr4,p4,m10,m54⟩:∃fr3',ex cx D 0 22 104 (.region 11 g22_11 false) fr3 [tZ]=some (.normal,fr3',[tZ])∧fr3'.get 10=.ptr 0 0 0∧fr3'.get 54=bv true:=by
  simp -implicitDefEqProofs (maxDischargeDepth:=4) only[go_sem,k11,he]
  exact⟨_,rfl,by simp only[go_sem,k10],by simp only[go_sem]⟩
 have sN:Sl 1 (.lit (.slice none 0 0)) []:=.inr (.inr ⟨rfl,rfl⟩)
 have z0:((0:Nat):Int)=0:=rfl
 rw[x_cont1 p3,x_cont1 p4]
 simp -implicitDefEqProofs (maxDischargeDepth:=4) only[go_sem,m54,m10,alen_sl sN,List.length_nil,z0]
 exact⟨_,_,rfl,by simp only[go_sem]⟩
structure O22(fr:PT)(va vb:Int)(g:AV):Prop where
 f1:fr.get 1=u8V va
 f2:fr.get 2=u8V vb
 f7:fr.get 7=g
 f10:fr.get 10=.ptr 0 0 0
theorem ca_a(hos:¬(os.length:Int)=0){cv ov pv:AV}{cls:List Cl}{ofs:List Nat}{prs:List Int}(p73:pcall D 73 [shr g]=some (.tup [.agg [cv,ov,pv],iv 0]))(t:TbOk cv ov pv cls ofs prs){va vb:Int}{fr2:PT}(f1:fr2.get 1=u8V va)(f2:fr2.get 2=u8V vb)(f7:fr2.get 7=g):
  ∃fr',ex cx D 0 22 104 (.seq (.region 10 g22_10 false) (.seq (.region 11 g22_11 false) (.cond (.tmp 54) (.seq (.region 12 g22_12 false) .ret) .skip))) fr2 []=some (.normal,fr',[tB cv ov pv])∧O22 fr' va vb g:=by
 simp -implicitDefEqProofs (maxDischargeDepth:=4) only[go_sem,f7,mvV_false,hw.sl.shr,hw.sl.notOwn,hw.sl.drp,hw.sl.shut1,alen_sl hw.sl,p73,t.c.shr,t.c.notOwn,t.c.drp,t.c.fitA,t.c.shut0,t.o.shr,t.o.notOwn,t.o.drp,t.o.fitA,t.o.shut0,t.p.shr,t.p.notOwn,t.p.drp,t.p.fitA,t.p.shut0,List.length_map,hos,nbeq,Nat.zero_le,Nat.le_refl,Nat.not_lt_zero,List.set_cons_zero,List.set_cons_succ]
 exact⟨_,rfl,by simp only[go_sem,f1],by simp only[go_sem,f2],by simp only[go_sem,f7],by simp only[go_sem]⟩
theorem ca_b{T:List Nd}{tv cv ov pv:AV}(n:NsOk T tv)(h54:pcall D 54 [shr g]=some tv){cls:List Cl}{ofs:List Nat}{prs:List Int}(t:TbOk cv ov pv cls ofs prs)(hol:ofs.length=T.length)(hTz:¬(T.length:Int)=0){va vb:Int}{fr2:PT}(F:O22 fr2 va vb g):
  ∃fr',ex cx D 0 22 104 (.seq (.region 13 g22_13 false) (.seq (.region 14 g22_14 false) (.cond (.tmp 77) (.seq (.region 15 g22_15 false) .ret) .skip))) fr2 [tB cv ov pv]=some (.normal,fr',[tB cv ov pv])∧O22 fr' va vb g∧fr'.get 12=tv:=by
 simp -implicitDefEqProofs (maxDischargeDepth:=4) only[go_sem,F.f7,F.f10,mvV_false,hw.sl.shr,hw.sl.notOwn,hw.sl.drp,hw.sl.shut1,alen_sl hw.sl,h54,t.c.shr,t.c.notOwn,t.c.drp,t.o.shr,t.o.notOwn,t.o.drp,alen_sl t.o,t.p.shr,t.p.notOwn,t.p.drp,List.length_map,n.sl.shr,n.sl.notOwn,n.sl.drp,alen_sl n.sl,hol,hTz,nbeq,Nat.zero_le,Nat.le_refl,Nat.not_lt_zero]
 exact⟨_,rfl,⟨by simp only[go_sem,F.f1],by simp only[go_sem,F.f2],by simp only[go_sem,F.f7],by simp only[go_sem,F.f10]⟩,by simp only[go_sem]⟩
end
theorem ca_c{T:List Nd}{g tv cv ov pv:AV}(n:NsOk T tv)(hTz:¬(T.length:Int)=0){va vb:Int}{x y:Nat}(hx:va.tmod T.length=x)(hy:vb.tmod T.length=y)(h0:0≤va∧va≤255)(h1:0≤vb∧vb≤255){fr2:PT}(F:O22 fr2 va vb g)(f12:fr2.get 12=tv):
  ∃fr',ex cx D 0 22 104 (.region 16 g22_16 true) fr2 [tB cv ov pv]=some (.normal,fr',[tB cv ov pv])∧fr'.get 10=.ptr 0 0 0∧fr'.get 12=tv∧fr'.get 13=iv x∧fr'.get 14=iv y:=by
 have w1:wrapK .i64 va=va:=wrapK_i64 (by omega) (by omega)
 have w2:wrapK .i64 vb=vb:=wrapK_i64 (by omega) (by omega)
 simp -implicitDefEqProofs (maxDischargeDepth:=4) only[go_sem,w1,w2,n.sl.lenRd,F.f1,F.f2,F.f10,f12,n.sl.shr,n.sl.notOwn,n.sl.drp,alen_sl n.sl,List.length_map,hTz,hx,hy,nbeq,Nat.zero_le,Nat.le_refl,Nat.not_lt_zero]
 exact⟨_,rfl,by simp only[go_sem,F.f10],by simp only[go_sem,f12],by simp only[go_sem],by simp only[go_sem]⟩
theorem ca_d{T:List Nd}{tv cv ov pv:AV}(n:NsOk T tv){cls:List Cl}{ofs:List Nat}{prs:List Int}(t:TbOk cv ov pv cls ofs prs){x y m k:Nat}(b1:aindexAddr cx.T 31 ov (iv x)=some (.vp (nv m) 0))(b2:aindexAddr cx.T 31 ov (iv y)=some (.vp (nv k) 0))(h77:pcall D 77 [tv,iv x,iv y,iv 9]=some (bv (!decide (m=k)))){fr2:PT}(f10:fr2.get 10=.ptr 0 0 0)(f12:fr2.get 12=tv)(f13:fr2.get 13=iv x)(f14:fr2.get 14=iv y):
  ∃fr',ex cx D 0 22 104 (.region 17 g22_17 true) fr2 [tB cv ov pv]=some (.normal,fr',[tB cv ov pv])∧fr'.get 6=bv true:=by
 by_cases hmk:m=k
 ·subst hmk
  rw[decide_eq_true rfl]at h77
  simp -implicitDefEqProofs (maxDischargeDepth:=4) only[go_sem,f10,f12,f13,f14,t.c.shr,t.c.notOwn,t.c.drp,t.o.shr,t.o.notOwn,t.o.drp,t.p.shr,t.p.notOwn,t.p.drp,n.sl.shr,n.sl.notOwn,n.sl.drp,n.sl.shut1,b1,b2,h77,nbeq,Nat.zero_le,Nat.le_refl,Nat.not_lt_zero]
  exact⟨_,rfl,by simp only[go_sem]⟩
 ·have hmk':¬(m:Int)=(k:Int):=by omega
  rw[decide_eq_false hmk]at h77
  simp -implicitDefEqProofs (maxDischargeDepth:=4) only[go_sem,f10,f12,f13,f14,t.c.shr,t.c.notOwn,t.c.drp,t.o.shr,t.o.notOwn,t.o.drp,t.p.shr,t.p.notOwn,t.p.drp,n.sl.shr,n.sl.notOwn,n.sl.drp,n.sl.shut1,b1,b2,h77,hmk',nbeq,Nat.zero_le,Nat.le_refl,Nat.not_lt_zero]
  exact⟨_,rfl,by simp only[go_sem]⟩
theorem classa_call{ns:List Nd}{a:AV}(ha:Sl 6 a (ns.map nodeV))(hok:∀x∈ns,NdOk x){va vb:Int}(h0:0≤va∧va≤255)(h1:0≤vb∧vb≤255):∃H',callB cx D 0 22 [a,u8V va,u8V vb] []=some (bv true,H'):=by
 have hwk:=works7_ok
 obtain⟨fr1,p1,F1⟩:∃fr1,ex cx D 0 22 104 (.seq (.region 0 g22_0 false) (.seq (.seq (.region 1 g22_1 false) (.cond (.tmp 16) (.seq (.region 2 g22_2 false) .ret) .skip)) (.seq (.region 3 g22_3 false) (.region 4 g22_4 false)))) (((PT.nil.set 0 (drp a)).set 1 (drp (u8V va))).set 2 (drp (u8V vb))) []=some (.normal,fr1,[])∧N22Fr fr1 a (.lit (.slice none 0 0)) va vb 0:=by
  simp -implicitDefEqProofs (maxDischargeDepth:=4) only[go_sem,ha.shr,ha.notOwn,ha.drp,hwk]
  exact⟨_,rfl,by simp only[go_sem,ha.drp],by simp only[go_sem],by simp only[go_sem],by simp only[go_sem],by simp only[go_sem];rfl⟩
 obtain⟨fr2,g,os,j,p2,F2,hg,hl,ho⟩:=own_loop ha hok 5 0 fr1 _ [] rfl (Nat.zero_le _) F1 (.inr ⟨rfl,rfl⟩) rfl (fun x hx=>by cases hx)
 have hw:NsOk os (shr g):=⟨hg.sl,ho,Nat.lt_of_le_of_lt hl (by decide)⟩
 obtain⟨_,_,q0,s⟩:=x_split p1
 obtain⟨_,_,q1,s⟩:=x_split s
 obtain⟨_,_,q2,q3⟩:=x_split s
 have eb:ex cx D 0 22 104 (.block 0 (.loop l22_0)) fr1 []=some (.normal,fr2,[]):=by rw[x_block,x_loop,p2];rfl
 rw[c22,x_cont1 q0,x_cont1 q1,x_cont1 q2,x_assoc,x_cont1 q3,x_cont1 eb,←x_assoc]
 by_cases he:(ordC os).2=0
 rotate_left
 ·obtain⟨fr3,H3,p3,f6⟩:=ca_bad hw he F2.f7
  rw[x_seq,p3]
  simp -implicitDefEqProofs (maxDischargeDepth:=4) only[go_sem,f6]
  exact⟨_,rfl⟩
 have hgd:=ord_good he
 obtain⟨cv,ov,pv,T1,cls,ofs,prs,p73,t,o1⟩:=of_ok hw he
 obtain⟨tv,n1,n2,h54,hd⟩:=table_ok hw (good_chk hgd.toGood)
 have d:Du os (n1++n2) tv:=⟨hgd,hd.half2,hd.nsOk hgd.le⟩
 generalize n1++n2=T at d
 have h:=lk_of o1 d
 have hol:ofs.length=T.length:=by rw[h.o,clsO_len]
 have hln:=d.h.ln
 have hpos:=hgd.pos
 have hTz:¬(T.length:Int)=0:=by omega
 have hoz:¬(os.length:Int)=0:=by omega
 obtain⟨x,hx,hxl⟩:=tmod_nat h0.1 (l:=T.length) (by omega)
 obtain⟨y,hy,hyl⟩:=tmod_nat h1.1 (l:=T.length) (by omega)
 have h77:pcall D 77 [tv,iv x,iv y,iv 9]=some (bv (ap T 9 x y)):=apart_ok d (by omega) 9 (by decide) x y hxl hyl
 rw[d.ap9 (by omega) hxl hyl,←h.o]at h77
 have b1:aindexAddr cx.T 31 ov (iv x)=some (.vp (nv (ofs.getD x 0)) 0):=by rw[aindexAddr_sl t.o sl31 (by rw[List.length_map];omega) rfl,get_nv (by omega)]
 have b2:aindexAddr cx.T 31 ov (iv y)=some (.vp (nv (ofs.getD y 0)) 0):=by rw[aindexAddr_sl t.o sl31 (by rw[List.length_map];omega) rfl,get_nv (by omega)]
 obtain⟨fr3,p3,F3⟩:=ca_a hw hoz p73 t F2.f1 F2.f2 F2.f7
 obtain⟨fr4,p4,F4,f12⟩:=ca_b hw d.n h54 t hol hTz F3
 obtain⟨fr5,p5,g10,g12,g13,g14⟩:=ca_c (cv:=cv) (ov:=ov) (pv:=pv) d.n hTz hx hy h0 h1 F4 f12
 obtain⟨fr6,p6,f6⟩:=ca_d d.n t b1 b2 h77 g10 g12 g13 g14
 rw[x_cont1 p3,←x_assoc,x_cont1 p4,x_cont1 p5,x_cont1 p6]
 simp -implicitDefEqProofs (maxDischargeDepth:=4) only[go_sem,f6]
 exact⟨_,rfl⟩
theorem classa_row{v0 v1 v2:AV}(h0:Rdd Go.Proofs.Try.prog 20 56 [v0])(h1:Rdd Go.Proofs.Try.prog 20 5 [v1])(h2:Rdd Go.Proofs.Try.prog 20 5 [v2]):∃H',callB cx D 0 22 [v0,v1,v2] []=some (bv true,H'):=by
 obtain⟨ns,hs,hok⟩:=nodes_read (d:=5) h0
 obtain⟨a,w1,e⟩:=rd_int Go.Proofs.Try.underlying5 h1
 cases e
 obtain⟨b,w2,e⟩:=rd_int Go.Proofs.Try.underlying5 h2
 cases e
 exact classa_call hs hok (Go.bounds_u8 w1) (Go.bounds_u8 w2)
end Go.Abs.Tab
