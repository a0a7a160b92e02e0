/- Classes: class.Of, a table's classes laid. -/
import Derived.Test.YtiinagmombigpaaWkB
import Derived.Test.YtiinagmombigpaaFnB
import Derived.Test.YtiinagmombigpaaWkA
set_option linter.unnecessarySimpa false
set_option linter.unusedSimpArgs false
set_option linter.unusedVariables false
namespace Go.Abs.Tab
open Go.Gr
structure Cl where
 kd:Int
 du:Int
 ch:Bool
 py:Int×Int
 nx:List (Int×Int)
 w:AV
abbrev clW(x:Cl):AV:=clsV x.kd x.du x.ch x.py x.w
def ClOk(x:Cl):Prop:=Sl 2 x.w (x.nx.map ed)
def clZ:Cl:=⟨0,0,false,(0,0),[],.lit (.slice none 0 0)⟩
theorem clZ_ok:ClOk clZ:=.inr (.inr ⟨rfl,rfl⟩)
structure IsCl(T:List Nd)(ats:List (Int×Int))(ofs:List Nat)(n:Nat)(z:Cl)(j:Nat):Prop where
 kd:z.kd=(nodeAt T ats j).kind
 du:z.du=(ofs.getD ((j+n) % T.length) 0:Int)
 ch:z.ch=(nodeAt T ats j).chan
 py:z.py=payE T ats ofs (nodeAt T ats j)
 nx:z.nx=nxL T ats ofs (nodeAt T ats j)
def prE(y:Nd)(o:Int):Int:=if y.kind=0 then 0 else wrapK .i64 (y.prio+o)
def prI(T:List Nd)(ats:List (Int×Int))(i:Nat):Int:=prE (nodeAt T ats i) (ats.getD i (0,0)).2
structure ClsI(T:List Nd)(ats:List (Int×Int))(ofs:List Nat)(n M i:Nat)(cls:List Cl):Prop where
 len:cls.length=M
 ok:∀x∈cls,ClOk x
 at':∀j,j<i→∃z j',j'<i∧ofs.getD j' 0=ofs.getD j 0∧cls[ofs.getD j 0]?=some z∧IsCl T ats ofs n z j'
theorem ClsI.set{T:List Nd}{ats:List (Int×Int)}{ofs:List Nat}{n M i:Nat}{cls:List Cl}(h:ClsI T ats ofs n M i cls)(hM:ofs.getD i 0<M){z:Cl}(hz:ClOk z)(hi:IsCl T ats ofs n z i):ClsI T ats ofs n M (i+1) (cls.set (ofs.getD i 0) z):=by
 refine⟨by rw[List.length_set,h.len],fun x hx=>?_,fun j hj=>?_⟩
 ·rcases List.mem_or_eq_of_mem_set hx with hx | rfl
  ·exact h.ok x hx
  ·exact hz
 ·by_cases e:ofs.getD j 0=ofs.getD i 0
  ·exact⟨z,i,by omega,e.symm,by rw[e,List.getElem?_set_self (by rw[h.len];exact hM)],hi⟩
  ·have hji:j<i:=by
    by_cases h':j=i
    ·subst h';exact absurd rfl e
    ·omega
   obtain⟨z',j',h1,h2,h3,h4⟩:=h.at' j hji
   exact⟨z',j',by omega,h2,by rw[List.getElem?_set_ne (fun h=>e h.symm)];exact h3,h4⟩
abbrev tB(cv ov pv:AV):ABlock:=.cells 3 95 [.agg [cv,ov,pv]]
structure LaH(G:Hp)(m c M:Nat)(tv av ov pv:AV)(T:List Nd)(ats:List (Int×Int))(ofs:List Nat)(cls:List Cl)(prs:List Int):Prop where
 len:G.length=m
 t:G[0]?=some (tB (.sl c 6 0 M M) ov pv)
 P:PtOk G 1 tv av ov T ats ofs
 c:G[c]?=some (.cells 6 111 (cls.map clW))
 p:Grow 1 pv (prs.map iv)
structure LaF(fr:PT)(a av:AV)(N i:Nat):Prop where
 f0:fr.get 0=a
 f2:fr.get 2=.ptr 0 0 0
 f4:fr.get 4=.ptr 1 0 0
 f77:fr.get 77=shr av
 f78:fr.get 78=iv N
 f79:fr.get 79=iv i
theorem LaF.of{fr fr':PT}{a av:AV}{N i:Nat}(F:LaF fr a av N i)(h:∀t,(t=0∨t=2∨t=4∨t=77∨t=78∨t=79)→fr'.get t=fr.get t):LaF fr' a av N i :=
 ⟨by rw[h 0 (by simp),F.f0],by rw[h 2 (by simp),F.f2],by rw[h 4 (by simp),F.f4],by rw[h 77 (by simp),F.f77],by rw[h 78 (by simp),F.f78],by rw[h 79 (by simp),F.f79]⟩
theorem clW_kill{cls:List Cl}(h:∀x∈cls,ClOk x)(m:Nat):killB m (.cells 6 111 (cls.map clW))=.cells 6 111 (cls.map clW):=by
 show ABlock.cells 6 111 ((cls.map clW).map (kill1 m))=_
 rw[List.map_map]
 congr 1
 refine List.map_congr_left fun x hx=>?_
 have hw:=h x hx
 show AV.agg [iv x.kd,iv x.du,bv x.ch,iv x.py.1,iv x.py.2,kill0 m x.w]=_
 rw[kill0_Sl hw]
theorem grow1_kill0{v:AV}{sz:Nat}{L:List AV}(h:Grow sz v L)(m:Nat):kill0 m v=v:=by
 rcases h with rfl | ⟨rfl,_⟩<;>rfl
theorem tB_kill{c M m:Nat}(hc:c<m){ov pv:AV}{L L':List AV}(ho:Sl 1 ov L)(hp:Grow 1 pv L'):killB m (tB (.sl c 6 0 M M) ov pv)=tB (.sl c 6 0 M M) ov pv:=by
 show ABlock.cells 3 95 [.agg [(if c<m then AV.sl c 6 0 M M else .dead),kill0 m ov,kill0 m pv]]=_
 rw[if_pos hc,kill0_Sl ho,grow1_kill0 hp]
theorem adr93{c M k:Nat}(h:k<M):aindexAddr cx.T 93 (.sl c 6 0 M M) (iv k)=some (.ptr c k 0):=by rw[aindexAddr_blk sl93 rfl h,Nat.zero_add]
theorem cls_at{cls:List Cl}{k:Nat}(h:k<cls.length):∃z,cls[k]?=some z∧(cls.map clW)[k]?=some (clW z):=by
 obtain⟨z,hz⟩:∃z,cls[k]?=some z:=⟨_,List.getElem?_eq_getElem h⟩
 exact⟨z,hz,by rw[List.getElem?_map,hz];rfl⟩
theorem elS_cls(x:Cl)(k d:Int)(c:Bool)(p:Int×Int)(w:AV):elS true 6 (clW x) 0 (clsV k d c p w)=some (clsV k d c p w):=elS_whole rfl rfl
theorem lay_round{a:AV}{ns:List Nd}(hns:NsOk ns a){m c M:Nat}(hc:2≤c)(hcm:c<m){tv av ov pv:AV}{T:List Nd}{ats:List (Int×Int)}{ofs:List Nat}(W:PtWf T ats ofs)(hT:T.length≤200)(hn:ns.length≤100)(hM:∀j,j<T.length→ofs.getD j 0<M){i:Nat}(hi:i<T.length){cls:List Cl}{prs:List Int}(hpl:prs.length=i)
  {fr:PT} {G:Hp} (H:LaH G m c M tv av ov pv T ats ofs cls prs) (K:ClsI T ats ofs ns.length M i cls) (F:LaF fr a av T.length i):
  ∃fr' G' pv' cls',ex cx D 0 73 137 (.block 6 (.seq (.region 19 g73_19 false) (.seq (.region 20 g73_20 true) (.seq (.seq (.region 21 g73_21 false) (.cond (.tmp 94) (.region 22 g73_22 false) .skip)) (.seq (.region 23 g73_23 false) (.region 24 g73_24 true)))))) fr G=some (.normal,fr',G')∧LaF fr' a av T.length i∧
   m≤G'.length∧G'[0]?=some (tB (.sl c 6 0 M M) ov pv')∧PtOk G' 1 tv av ov T ats ofs∧G'[c]?=some (.cells 6 111 (cls'.map clW))∧Grow 1 pv' ((prs++[prI T ats i]).map iv)∧ClsI T ats ofs ns.length M (i+1) cls':=by
 obtain⟨q,o,hq,hx,hmx⟩:=at_node W hi
 have hok:=H.P.n.ok _ hmx
 have hpr:prI T ats i=prE (nodeAt T ats i) o:=by unfold prI;rw[hq]
 rw[hpr]
 generalize hX:nodeAt T ats i=x at *
 have sx:Sl 2 x.nx (x.es.map ed):=hok
 have hlen:=H.len
 have hss:shr (shr av)=shr av:=H.P.a.shr
 have a1:aindexAddr cx.T 114 (shr av) (iv i)=some (.vp (tyV ((q:Int),o)) 0):=by rw[aindexAddr_sl H.P.a sl114 (by rw[List.length_map,W.la];exact hi) rfl,get_ty (by rw[W.la];exact hi),hq]
 have a2:=H.P.n.at hx
 have d0:¬0=m:=by omega
 have d1:¬1=m:=by omega
 have d2:∀j,¬1=m+j:=fun j=>by omega
 have d3:∀j,¬0=m+j:=fun j=>by omega
 have t0:∀L,(G++L)[0]?=some (tB (.sl c 6 0 M M) ov pv):=fun L=>by rw[hp_get_l (lt_of_get H.t),H.t]
 have t1:∀L,(G++L)[1]?=some (pB tv av ov):=fun L=>by rw[hp_get_l (lt_of_get H.P.b),H.P.b]
 obtain⟨fr1,p1,F1,k8,k9⟩:∃fr1:PT,ex cx D 0 73 137 (.region 19 g73_19 false) fr G=some (.normal,fr1,G++[tyC ((q:Int),o)])∧LaF fr1 a av T.length i∧fr1.get 8=iv i∧fr1.get 9=.ptr m 0 0:=by
  simp -implicitDefEqProofs (maxDischargeDepth:=4) only[go_sem,hlen,F.f77,F.f79,hss,H.P.a.notOwn,a1,Nat.zero_le,Nat.not_lt_zero,List.set_cons_zero]
  exact⟨_,rfl,F.of fun t ht=>by rcases ht with rfl | rfl | rfl | rfl | rfl | rfl<;>simp only[go_sem],by simp only[go_sem],by simp only[go_sem]⟩
 obtain⟨fr2,p2,F2,m8,m9,m10,m11⟩:∃fr2:PT,ex cx D 0 73 137 (.region 20 g73_20 true) fr1 (G++[tyC ((q:Int),o)])=some (.normal,fr2,G++[tyC ((q:Int),o),nX x])∧LaF fr2 a av T.length i∧fr2.get 8=iv i∧fr2.get 9=.ptr m 0 0∧fr2.get 10=.ptr (m+1) 0 0∧fr2.get 11=iv 0:=by
  simp -implicitDefEqProofs (maxDischargeDepth:=4) only[go_sem,hlen,F1.f4,k9,t1,H.P.n.sl.shr,H.P.n.sl.notOwn,a2,sx.shr,sx.notOwn,sx.drp,sx.fitA,d0,d1,d2,d3,layB_res,nbeq,Nat.left_eq_add,Nat.add_eq_left,Nat.add_left_cancel_iff,Nat.zero_le,Nat.le_refl,Nat.not_lt_zero,List.set_cons_zero]
  exact⟨_,rfl,F1.of fun t ht=>by rcases ht with rfl | rfl | rfl | rfl | rfl | rfl<;>simp only[go_sem],by simp only[go_sem,k8],by simp only[go_sem,k9],by simp only[go_sem],by simp only[go_sem]⟩
 obtain⟨fr3,p3,F3,n8,n11⟩:∃fr3:PT,ex cx D 0 73 137 (.seq (.region 21 g73_21 false) (.cond (.tmp 94) (.region 22 g73_22 false) .skip)) fr2 (G++[tyC ((q:Int),o),nX x])=some (.normal,fr3,G++[tyC ((q:Int),o),nX x])∧LaF fr3 a av T.length i∧fr3.get 8=iv i∧fr3.get 11=iv (prE x o):=by
  unfold prE
  by_cases hk:x.kind=0
  ·rw[if_pos hk]
   simp -implicitDefEqProofs (maxDischargeDepth:=4) only[go_sem,hlen,m10,hk]
   exact⟨_,rfl,F2.of fun t ht=>by rcases ht with rfl | rfl | rfl | rfl | rfl | rfl<;>simp only[go_sem],by simp only[go_sem,m8],by simp only[go_sem,m11]⟩
  ·rw[if_neg hk]
   simp -implicitDefEqProofs (maxDischargeDepth:=4) only[go_sem,hlen,m9,m10,hk]
   exact⟨_,rfl,F2.of fun t ht=>by rcases ht with rfl | rfl | rfl | rfl | rfl | rfl<;>simp only[go_sem],by simp only[go_sem,m8],by simp only[go_sem]⟩
 have hap:=grow_ap (by':=8) (y:=iv (prE x o)) H.p (show 0<1 by decide) (by rw[List.length_map,hpl];omega)
 have hnew:prs.map iv++[iv (prE x o)]=(prs++[prE x o]).map iv:=by rw[List.map_append];rfl
 rw[hnew]at hap
 have hg':Grow 1 (.vec 1 .own ((prs++[prE x o]).map iv)) ((prs++[prE x o]).map iv):=.inl rfl
 generalize prE x o=pr at *
 have hset0:∀(L:Hp) y,(G++L).set 0 y=G.set 0 y++L:=fun L y=>hp_set_l (lt_of_get H.t)
 obtain⟨fr4,p4,F4,o8⟩:∃fr4:PT,ex cx D 0 73 137 (.region 23 g73_23 false) fr3 (G++[tyC ((q:Int),o),nX x])=some (.normal,fr4,G.set 0 (tB (.sl c 6 0 M M) ov (.vec 1 .own ((prs++[pr]).map iv)))++[tyC ((q:Int),o),nX x])∧LaF fr4 a av T.length i∧fr4.get 8=iv i:=by
  have hg0:=lt_of_get H.t
  have hone:∀(B:ABlock)(L:Hp),(G.set 0 B++L)[0]?=some B:=fun B L=>by rw[hp_get_l (by rw[List.length_set];exact hg0),hp_one hg0]
  have hset2:∀(B C:ABlock)(L:Hp),(G.set 0 B++L).set 0 C=G.set 0 C++L:=fun B C L=>by rw[hp_set_l (by rw[List.length_set];exact hg0),List.set_set]
  rcases H.p with e | ⟨e,he⟩
  ·rw[e]at t0 hap
   simp -implicitDefEqProofs (maxDischargeDepth:=4) only[go_sem,hlen,F3.f2,n11,t0,hset0,hset2,hone,hap,Nat.not_lt_zero,List.set_cons_zero,List.set_cons_succ]
   exact⟨_,rfl,F3.of fun t ht=>by rcases ht with rfl | rfl | rfl | rfl | rfl | rfl<;>simp only[go_sem],by simp only[go_sem,n8]⟩
  ·rw[e]at t0 hap
   simp -implicitDefEqProofs (maxDischargeDepth:=4) only[go_sem,hlen,F3.f2,n11,t0,hset0,hset2,hone,hap,Nat.not_lt_zero,List.set_cons_zero,List.set_cons_succ]
   exact⟨_,rfl,F3.of fun t ht=>by rcases ht with rfl | rfl | rfl | rfl | rfl | rfl<;>simp only[go_sem],by simp only[go_sem,n8]⟩
 obtain⟨G4,hG4⟩:∃G4,G.set 0 (tB (.sl c 6 0 M M) ov (.vec 1 .own ((prs++[pr]).map iv)))++[tyC ((q:Int),o),nX x]=G4:=⟨_,rfl⟩
 have hl4:G4.length=m+2:=by rw[←hG4,List.length_append,List.length_set,hlen];rfl
 have s0:G4[0]?=some (tB (.sl c 6 0 M M) ov (.vec 1 .own ((prs++[pr]).map iv))):=by
  rw[←hG4,hp_get_l (by rw[List.length_set];exact lt_of_get H.t),hp_one (lt_of_get H.t)]
 have P4:PtOk G4 1 tv av ov T ats ofs:=H.P.at (by rw[←hG4,hp_get_l (by rw[List.length_set];exact lt_of_get H.P.b),hp_ne (by decide),H.P.b])
 have sc:G4[c]?=some (.cells 6 111 (cls.map clW)):=by rw[←hG4,hp_get_l (by rw[List.length_set];exact lt_of_get H.c),hp_ne (by omega),H.c]
 have hoi:=hM i hi
 have hlt2:(i+ns.length) % T.length<T.length:=Nat.mod_lt _ (by omega)
 have a3:aindexAddr cx.T 31 ov (iv i)=some (.vp (nv (ofs.getD i 0)) 0):=by rw[aindexAddr_sl H.P.o sl31 (by rw[List.length_map,W.lo];exact hi) rfl,get_nv (by rw[W.lo];exact hi)]
 have a4:aindexAddr cx.T 31 ov (iv ((i+ns.length) % T.length:Nat))=some (.vp (nv (ofs.getD ((i+ns.length) % T.length) 0)) 0):=by rw[aindexAddr_sl H.P.o sl31 (by rw[List.length_map,W.lo];exact hlt2) rfl,get_nv (by rw[W.lo];exact hlt2)]
 have a5:=adr93 (c:=c) hoi
 have wi:wrapK .i64 ((i:Int)+(ns.length:Int))=((i+ns.length:Nat):Int):=by rw[wrapK_i64 (by omega) (by omega)];omega
 have wt:(((i+ns.length:Nat):Int)).tmod (T.length:Int)=(((i+ns.length) % T.length:Nat):Int):=by
  rw[Int.tmod_eq_emod_of_nonneg (by omega)]
  rfl
 have hN0:¬(T.length:Int)=0:=by omega
 obtain⟨w,hcx,hw⟩:=class_x P4 W hi hq hx (ofs.getD ((i+ns.length) % T.length) 0:Int) 0
 obtain⟨z,hz1,hz2⟩:=cls_at (cls:=cls) (k:=ofs.getD i 0) (by rw[K.len];exact hoi)
 have hel:=elS_cls z x.kind (ofs.getD ((i+ns.length) % T.length) 0:Int) x.chan (payE T ats ofs x) w
 have hnc:=lt_of_get sc
 have e1:¬0=c:=by omega
 have e2:¬1=c:=by omega
 have e3:¬c<0:=by omega
 have fmq:∀ {H H':Hp} {vs:List AV},fmCall cx H H' (.fn 131 []) vs=.rdAll:=fun {H H' vs}=>fmc_quiet pu131 qu131
 obtain⟨fr5,p5,F5⟩:∃fr5:PT,ex cx D 0 73 137 (.region 24 g73_24 true) fr4 G4=some (.normal,fr5,G4.set c (.cells 6 111 ((cls.map clW).set (ofs.getD i 0) (clsV x.kind (ofs.getD ((i+ns.length) % T.length) 0:Int) x.chan (payE T ats ofs x) w))))∧LaF fr5 a av T.length i:=by
  simp -implicitDefEqProofs (maxDischargeDepth:=4) only[go_sem,hl4,F4.f0,F4.f2,F4.f4,o8,s0,P4.b,sc,H.P.o.shr,H.P.o.notOwn,H.P.n.sl.shr,H.P.n.sl.notOwn,H.P.n.sl.lenRd,alen_sl H.P.n.sl,hns.sl.shr,hns.sl.notOwn,hns.sl.lenRd,alen_sl hns.sl,List.length_map,a3,a4,a5,wi,wt,hN0,hcx,hw.drp,hw.shr,hz2,hel,fmq,e1,e2,e3,nbeq,Nat.zero_le,Nat.le_refl,Nat.not_lt_zero]
  exact⟨_,rfl,F4.of fun t ht=>by rcases ht with rfl | rfl | rfl | rfl | rfl | rfl<;>simp only[go_sem]⟩
 have hzc:∃z:Cl,clW z=clsV x.kind (ofs.getD ((i+ns.length) % T.length) 0:Int) x.chan (payE T ats ofs x) w∧ClOk z∧IsCl T ats ofs ns.length z i :=
  ⟨⟨x.kind,(ofs.getD ((i+ns.length) % T.length) 0:Int),x.chan,payE T ats ofs x,nxL T ats ofs x,w⟩,rfl,hw,by rw[hX],rfl,by rw[hX],by rw[hX],by rw[hX]⟩
 obtain⟨z',hz3,hz4,hz5⟩:=hzc
 rw[←hz3,←List.map_set]at p5
 obtain⟨_,_,u1,u2⟩:=x_split p3
 refine⟨fr5,_,_,_,?_,F5,?_,?_,P4.at ?_,hp_one hnc,hg',K.set hoi hz4 hz5⟩
 ·rw[hG4]at p4
  rw[x_block,x_cont1 p1,x_cont1 p2,x_cont1 p3,x_cont1 p4,p5]
  rfl
 ·rw[List.length_set,hl4];omega
 ·rw[hp_ne (by omega),s0]
 ·rw[hp_ne (by omega),P4.b]
theorem lay_loop{a:AV}{ns:List Nd}(hns:NsOk ns a){m c M:Nat}(hc:2≤c)(hcm:c<m){tv av ov:AV}{T:List Nd}{ats:List (Int×Int)}{ofs:List Nat}(W:PtWf T ats ofs)(hT:T.length≤200)(hn:ns.length≤100)(hM:∀j,j<T.length→ofs.getD j 0<M):
  ∀(d i:Nat)(fr:PT)(G:Hp)(pv:AV)(cls:List Cl),T.length-i=d→i≤T.length→LaH G m c M tv av ov pv T ats ofs cls ((List.range i).map (prI T ats))→ClsI T ats ofs ns.length M i cls→LaF fr a av T.length i→
  ∃fr' G' pv' cls',D.loop 0 73 137 l73_2 fr G=some (.exit 5,fr',G')∧LaF fr' a av T.length T.length∧LaH G' m c M tv av ov pv' T ats ofs cls' ((List.range T.length).map (prI T ats))∧ClsI T ats ofs ns.length M T.length cls'
 | 0,i,fr,G,pv,cls,hd,hi,H,K,F=>by
  have hlt:=lp1 hd hi
  have e:i=T.length:=by omega
  subst e
  rw[dl73_2]
  simp -implicitDefEqProofs (maxDischargeDepth:=4) only[go_sem,F.f78,F.f79,hlt]
  exact⟨_,G,pv,cls,rfl,F.of fun t ht=>by rcases ht with rfl | rfl | rfl | rfl | rfl | rfl<;>simp only[go_sem],H,K⟩
 | d+1,i,fr,G,pv,cls,hd,hi,H,K,F=>by
  have hlt:((i:Int)<(T.length:Int)):=by omega
  have w3:=wrap_succ (show i≤1000 by omega)
  obtain⟨fr1,p1,F1⟩:∃fr1:PT,ex cx D 0 73 137 (.seq (.region 18 g73_18 false) (.cond (.tmp 80) .skip (.exit 5))) fr G=some (.normal,fr1,G)∧LaF fr1 a av T.length i:=by
   simp -implicitDefEqProofs (maxDischargeDepth:=4) only[go_sem,F.f78,F.f79,hlt]
   exact⟨_,rfl,F.of fun t ht=>by rcases ht with rfl | rfl | rfl | rfl | rfl | rfl<;>simp only[go_sem]⟩
  obtain⟨fr2,G2,pv2,cls2,p2,F2,hl2,t2,P2,c2,g2,K2⟩:=lay_round hns hc hcm W hT hn hM (by omega) (by rw[List.length_map,List.length_range]) H K F1
  obtain⟨fr3,p3,F3⟩:∃fr3:PT,ex cx D 0 73 137 (.region 25 g73_25 false) fr2 G2=some (.normal,fr3,G2)∧LaF fr3 a av T.length (i+1):=by
   simp -implicitDefEqProofs (maxDischargeDepth:=4) only[go_sem,F2.f79,w3]
   exact⟨_,rfl,by simp only[go_sem,F2.f0],by simp only[go_sem,F2.f2],by simp only[go_sem,F2.f4],by simp only[go_sem,F2.f77],by simp only[go_sem,F2.f78],by simp only[go_sem]⟩
  have hpr:(List.range i).map (prI T ats)++[prI T ats i]=(List.range (i+1)).map (prI T ats):=by rw[List.range_succ,List.map_append];rfl
  rw[hpr]at g2
  obtain⟨_,_,r1,r2⟩:=x_split p1
  rw[dl73_2,x_cont1 r1,x_cont1 r2,x_cont1 p2,p3,xbind_some,contR_normal,H.len]
  refine trim_gen (P:=fun z=>∃fr' G' pv' cls',z=some (.exit 5,fr',G')∧LaF fr' a av T.length T.length∧LaH G' m c M tv av ov pv' T ats ofs cls' ((List.range T.length).map (prI T ats))∧ClsI T ats ofs ns.length M T.length cls') [0,2,4,77,78,79] hl2 (fun t ht=>?_) fun fr' G' hG' hf hk'=>?_
  ·simp only[List.mem_cons,List.not_mem_nil,or_false]at ht
   rcases ht with rfl | rfl | rfl | rfl | rfl | rfl
   ·rw[F3.f0,kill_Sl hns.sl]
   ·rw[F3.f2,kill_ptr (by omega)]
   ·rw[F3.f4,kill_ptr (by omega)]
   ·rw[F3.f77,kill_Sl H.P.a]
   ·rw[F3.f78];rfl
   ·rw[F3.f79];rfl
  ·exact lay_loop hns hc hcm W hT hn hM d (i+1) fr' G' pv2 cls2 (nd1 hd) (nd2 hd) ⟨hG',hk' 0 _ (by omega) t2 (tB_kill hcm P2.o g2),P2.at (hk' 1 _ (by omega) P2.b (P2.kill _)),hk' c _ hcm c2 (clW_kill K2.ok m),g2⟩ K2 ⟨by rw[hf 0 (by simp),F3.f0],by rw[hf 2 (by simp),F3.f2],by rw[hf 4 (by simp),F3.f4],by rw[hf 77 (by simp),F3.f77],by rw[hf 78 (by simp),F3.f78],by rw[hf 79 (by simp),F3.f79]⟩
theorem build220{v:AV}{L:List AV}(h:Sl 6 v L):abuild cx.T 220 [(0,v)]=some (.agg [v,.lit (.slice none 0 0),.lit (.slice none 0 0)]):=by
 rcases h with rfl | rfl | ⟨rfl,_⟩<;>exact nk
theorem rep_nv(n:Nat):(List.replicate n (iv 0)).map cl1=(List.replicate n 0).map nv:=by
 rw[List.map_replicate,List.map_replicate]
 rfl
theorem len_small65{n:Nat}(h:n≤200):n*(64+1)≤1099511627776:=by omega
structure TbOk(cv ov pv:AV)(cls:List Cl)(ofs:List Nat)(prs:List Int):Prop where
 c:Sl 6 cv (cls.map clW)
 k:∀x∈cls,ClOk x
 o:Sl 1 ov (ofs.map nv)
 p:Sl 1 pv (prs.map iv)
structure OfOk(ns T:List Nd)(cls:List Cl)(ofs:List Nat)(prs:List Int):Prop where
 h:Half2 ns T
 o:ofs=clsO T (atsOf T)
 p:prs=(List.range T.length).map (prI T (atsOf T))
 c:ClsI T (atsOf T) ofs ns.length (clsN T (atsOf T)) T.length cls
theorem clsO_len(T:List Nd)(ats:List (Int×Int)):(clsO T ats).length=T.length:=cn_len _ _
theorem clsO_lt{T:List Nd}{ats:List (Int×Int)}{j:Nat}(hj:j<T.length):(clsO T ats).getD j 0<clsN T ats:=by
 unfold clsO clsN
 rw[cn_num _ _ hj]
 exact(num_ok (eiR_eqv T.length) T.length (Nat.le_refl _)).lt j hj
theorem of_bad{ns:List Nd}{a:AV}(hns:NsOk ns a)(h0:(ordC ns).2≠0):pcall D 73 [a]=some (.tup [.agg [.lit (.slice none 0 0),.lit (.slice none 0 0),.lit (.slice none 0 0)],iv (ordC ns).2]):=by
 have h67:=ord_ok hns
 unfold errV at h67
 generalize (ordC ns).1=p at h67
 generalize (ordC ns).2=e at h67 h0
 have run:∃H',callB cx D 0 73 [a] []=some (.tup [.agg [.lit (.slice none 0 0),.lit (.slice none 0 0),.lit (.slice none 0 0)],iv e],H'):=by
  rw[c73]
  simp -implicitDefEqProofs (maxDischargeDepth:=4) only[go_sem,hns.sl.shr,hns.sl.notOwn,hns.sl.drp,hns.sl.shut1,h67,h0,List.set_cons_zero,Nat.zero_le,Nat.le_refl,Nat.not_lt_zero]
  exact⟨_,rfl⟩
 obtain⟨H',h⟩:=run
 rw[pcall_eq (v:=.tup [.agg [.lit (.slice none 0 0),.lit (.slice none 0 0),.lit (.slice none 0 0)],iv e]) (H':=H') (by rw[List.map_cons,List.map_nil,hns.sl.cl2];exact h)]
 rfl
theorem of_pre{ns:List Nd}{a:AV}(hns:NsOk ns a)(h0:(ordC ns).2=0):
  ∃tv T fr av ov,ex cx D 0 73 137 (.seq (.region 0 g73_0 false) (.seq (.seq (.region 1 g73_1 false) (.seq (.region 2 g73_2 false) (.cond (.tmp 18) (.seq (.region 3 g73_3 false) .ret) .skip))) (.seq (.region 4 g73_4 false) (.seq (.region 5 g73_5 false) (.region 6 g73_6 false))))) (PT.nil.set 0 (drp a)) []=some (.normal,fr,[tZ,pB tv av ov])∧NsOk T tv∧Half2 ns T∧AtF fr a T.length 0∧av=.lit (.slice none 0 0)∧Sl 1 ov ((List.replicate T.length 0).map nv):=by
 have h67:=ord_ok hns
 have hg:=ord_good h0
 have hchk:=good_chk hg.toGood
 obtain⟨tv,n1,n2,h54,hd⟩:=table_ok hns hchk
 have hT:=hd.nsOk hg.le
 have H:=hd.half2
 generalize n1++n2=T at hT H
 have hle:=hg.le
 have hln:=H.ln
 have h9:=len_small200 (n:=T.length) (by omega)
 have hb:=build220 hT.sl
 unfold errV at h67
 rw[h0]at h67
 generalize (ordC ns).1=p at h67
 have hmk:∀ {nt nm:Nat} {ops:Array Oper} {fr:PT} {H:Hp} (t:TypeId) (l c:Operand),xop cx D 0 73 nt ops nm fr H (some 31) (.makeSlice t l c)=xbind (mkT cx.T t) fun p=>if p.1=0 then none else xbind (mkL p.2.2.1 (ev fr l) (ev fr c)) fun n=>setO nt (some 31) fr H (.vec p.1 .exact ((List.replicate n p.2.2.2).map cl1)):=fun t l c=>xo_makeSlice_v (dd:=some 31) (by simp only[go_sem]) t l c
 refine⟨tv,T,?_⟩
 have run:∃fr,ex cx D 0 73 137 (.seq (.region 0 g73_0 false) (.seq (.seq (.region 1 g73_1 false) (.seq (.region 2 g73_2 false) (.cond (.tmp 18) (.seq (.region 3 g73_3 false) .ret) .skip))) (.seq (.region 4 g73_4 false) (.seq (.region 5 g73_5 false) (.region 6 g73_6 false))))) (PT.nil.set 0 (drp a)) []=some (.normal,fr,[tZ,pB tv (.lit (.slice none 0 0)) (.vec 1 .exact ((List.replicate T.length 0).map nv))])∧AtF fr a T.length 0:=by
  rw[←rep_nv]
  simp -implicitDefEqProofs (maxDischargeDepth:=4) only[go_sem,hns.sl.shr,hns.sl.notOwn,hns.sl.drp,hns.sl.shut1,h67,h54,hb,hT.sl.shr,hT.sl.notOwn,hT.sl.drp,hT.sl.fitA,alen_sl hT.sl,List.length_map,hmk,h9,List.set_cons_zero,List.set_cons_succ,Nat.zero_le,Nat.le_refl,Nat.not_lt_zero]
  exact⟨_,rfl,by simp only[go_sem],by simp only[go_sem],by simp only[go_sem],by simp only[go_sem],by simp only[go_sem];rfl⟩
 obtain⟨fr,h,F⟩:=run
 exact⟨fr,_,_,h,hT,H,F,rfl,.inl rfl⟩
theorem clW_cl1{cls:List Cl}(h:∀x∈cls,ClOk x):(cls.map clW).map cl1=cls.map clW:=by
 rw[List.map_map]
 refine List.map_congr_left fun x hx=>?_
 have hw:Sl 2 x.w (x.nx.map ed):=h x hx
 show AV.agg [iv x.kd,iv x.du,bv x.ch,iv x.py.1,iv x.py.2,cl0 x.w]=_
 rw[hw.cl0]
theorem of_ok{ns:List Nd}{a:AV}(hns:NsOk ns a)(h0:(ordC ns).2=0):
  ∃cv ov pv T cls ofs prs,pcall D 73 [a]=some (.tup [.agg [cv,ov,pv],iv 0])∧TbOk cv ov pv cls ofs prs∧OfOk ns T cls ofs prs:=by
 have hg:=ord_good h0
 have hle:=hg.le
 obtain⟨tv,T,fr1,av0,ov0,p1,hT,H,F1,rfl,ho0⟩:=of_pre hns h0
 have hln:=H.ln
 have hpos:=hg.pos
 have hT200:T.length≤200:=by omega
 have W0:PtWf T (atsOf T) (List.replicate T.length 0):=wf_half hg.toGood H List.length_replicate
 obtain⟨fr2,av,p2,F2,hav⟩:=at_loop (ov:=ov0) hT hT200 T.length 0 fr1 _ (Nat.sub_zero _) (Nat.zero_le _) F1 (.inr ⟨rfl,rfl⟩)
 obtain⟨fr3,p3,F3⟩:∃fr3:PT,ex cx D 0 73 137 (.region 11 g73_11 false) fr2 [tZ,pB tv av ov0]=some (.normal,fr3,[tZ,pB tv av ov0])∧OfF fr3 a 0:=by
  simp -implicitDefEqProofs (maxDischargeDepth:=4) only[go_sem]
  exact⟨_,rfl,by simp only[go_sem,F2.f0],by simp only[go_sem,F2.f2],by simp only[go_sem,F2.f4],by simp only[go_sem];rfl⟩
 have P3:PtOk [tZ,pB tv av ov0] 1 tv av ov0 T (atsOf T) (it (labI T (atsOf T)) (sucJ T (atsOf T)) T.length 0) :=
  ⟨rfl,hT,hav.sl,ho0,fun m=>grow1_kill0 hav m⟩
 obtain⟨fr4,G4,ov,p4,F4,hl4,z4,P4⟩:=parts_loop hns.sl W0 hT200 (by omega) T.length 0 fr3 _ ov0 (Nat.sub_le _ _) F3 rfl rfl P3
 have hN200:clsN T (atsOf T)≤200:=by
  have:=cnt_bound (clsR T (atsOf T)) T.length
  have h2:clsN T (atsOf T)=cnt (clsR T (atsOf T)) T.length:=rfl
  omega
 have h65:=len_small65 hN200
 obtain⟨c,hc⟩:∃c,G4.length=c:=⟨_,rfl⟩
 rw[hc]at hl4
 have hlt0:=lt_of_get z4
 have hlt1:=lt_of_get P4.b
 generalize hM:clsN T (atsOf T)=M at *
 generalize hO:clsO T (atsOf T)=ofs at *
 obtain⟨fr5,p5,F5⟩:∃fr5:PT,ex cx D 0 73 137 (.seq (.region 15 g73_15 false) (.seq (.region 16 g73_16 false) (.region 17 g73_17 false))) fr4 G4=some (.normal,fr5,G4.set 0 (tB (.sl c 6 0 M M) ov (.lit (.slice none 0 0)))++[.cells 6 111 (List.replicate M (clW clZ))])∧LaF fr5 a av T.length 0:=by
  have hone:∀(B:ABlock),(G4.set 0 B)[0]?=some B:=fun B=>hp_one hlt0
  have hone':∀(B:ABlock)(L:Hp),(G4.set 0 B++L)[0]?=some B:=fun B L=>by rw[hp_get_l (by rw[List.length_set];exact hlt0),hp_one hlt0]
  have hp1:∀(B:ABlock)(L:Hp),(G4.set 0 B++L)[1]?=some (pB tv av ov):=fun B L=>by rw[hp_get_l (by rw[List.length_set];exact hlt1),hp_ne (by decide),P4.b]
  have hset2:∀(B C:ABlock)(L:Hp),(G4.set 0 B++L).set 0 C=G4.set 0 C++L:=fun B C L=>by rw[hp_set_l (by rw[List.length_set];exact hlt0),List.set_set]
  have hss:shr (shr av)=shr av:=hav.sl.shr
  have hlen0:∀(B:ABlock),(G4.set 0 B).length=c:=fun B=>by rw[List.length_set,hc]
  simp -implicitDefEqProofs (maxDischargeDepth:=4) only[go_sem,hc,F4.f2,F4.f4,F4.f6,z4,P4.b,P4.o.shr,P4.o.notOwn,P4.o.drp,P4.o.fitA,hone,hone',hp1,hset2,hlen0,hss,hav.sl.notOwn,alen_sl hav.sl,List.length_map,atsOf_len,h65,List.set_cons_zero,List.set_cons_succ,List.length_set,Nat.zero_le,Nat.le_refl,Nat.not_lt_zero]
  exact⟨_,rfl,by simp only[go_sem,F4.f0],by simp only[go_sem,F4.f2],by simp only[go_sem,F4.f4],by simp only[go_sem],by simp only[go_sem],by simp only[go_sem];rfl⟩
 have W4:PtWf T (atsOf T) ofs:=W0.re (by rw[←hO,clsO_len])
 have hcls0:List.replicate M (clW clZ)=(List.replicate M clZ).map clW:=by rw[List.map_replicate]
 have H5:LaH (G4.set 0 (tB (.sl c 6 0 M M) ov (.lit (.slice none 0 0)))++[.cells 6 111 (List.replicate M (clW clZ))]) (c+1) c M tv av ov (.lit (.slice none 0 0)) T (atsOf T) ofs (List.replicate M clZ) ((List.range 0).map (prI T (atsOf T))):=by
  refine⟨by rw[List.length_append,List.length_set,hc];rfl,?_,P4.at ?_,?_,.inr ⟨rfl,rfl⟩⟩
  ·rw[hp_get_l (by rw[List.length_set];exact hlt0),hp_one hlt0]
  ·rw[hp_get_l (by rw[List.length_set];exact hlt1),hp_ne (by decide),P4.b]
  ·rw[hp_get_r0 (by rw[List.length_set,hc]),hcls0];rfl
 have K5:ClsI T (atsOf T) ofs ns.length M 0 (List.replicate M clZ):=⟨List.length_replicate,fun x hx=>by rw[List.eq_of_mem_replicate hx];exact clZ_ok,fun j hj=>by omega⟩
 have hMl:∀j,j<T.length→ofs.getD j 0<M:=fun j hj=>by rw[←hO,←hM];exact clsO_lt hj
 obtain⟨fr6,G6,pv,cls,p6,F6,H6,K6⟩:=lay_loop hns (m:=c+1) (c:=c) (by omega) (by omega) W4 hT200 (by omega) hMl T.length 0 fr5 _ _ _ (Nat.sub_zero _) (Nat.zero_le _) H5 K5 F5
 have hspv:Sl 1 (shr pv) (((List.range T.length).map (prI T (atsOf T))).map iv):=H6.p.sl
 have hlt6:=lt_of_get H6.t
 have run:∃G',callB cx D 0 73 [a] []=some (.tup [.agg [.sl c 6 0 M M,ov,shr pv],iv 0],G')∧G'[c]?=some (.cells 6 111 (cls.map clW)):=by
  refine⟨G6.set 0 (tB (.sl c 6 0 M M) ov (shr pv)),?_,by rw[hp_ne (by omega),H6.c]⟩
  obtain⟨_,_,r0,t⟩:=x_split p1
  obtain⟨_,_,r1,t⟩:=x_split t
  obtain⟨_,_,r4,t⟩:=x_split t
  obtain⟨_,_,r5,r6⟩:=x_split t
  obtain⟨_,_,s0,t⟩:=x_split p5
  obtain⟨_,_,s1,s2⟩:=x_split t
  have e1:ex cx D 0 73 137 (.block 0 (.loop l73_0)) fr1 [tZ,pB tv (.lit (.slice none 0 0)) ov0]=some (.normal,fr2,[tZ,pB tv av ov0]):=by rw[x_block,x_loop,p2];rfl
  have e2:ex cx D 0 73 137 (.block 2 (.loop l73_1)) fr3 [tZ,pB tv av ov0]=some (.normal,fr4,G4):=by rw[x_block,x_loop,p4];rfl
  have e3:ex cx D 0 73 137 (.block 5 (.loop l73_2)) fr5 (G4.set 0 (tB (.sl c 6 0 M M) ov (.lit (.slice none 0 0)))++[.cells 6 111 (List.replicate M (clW clZ))])=some (.normal,fr6,G6):=by rw[x_block,x_loop,p6];rfl
  have hlab:∀Z,ex cx D 0 73 137 (.seq (.label 0) Z) fr3 [tZ,pB tv av ov0]=ex cx D 0 73 137 Z fr3 [tZ,pB tv av ov0]:=fun Z=>x_cont1 rfl
  rw[c73,x_cont1 r0,x_scope,x_cont1 r1,x_cont1 r4,x_cont1 r5,x_assoc,x_cont1 r6,x_cont1 e1,x_cont1 p3,hlab,x_cont1 e2,x_cont1 s0,x_cont1 s1,x_assoc,x_cont1 s2,x_cont1 e3]
  have hss:shr (shr pv)=shr pv:=hspv.shr
  have hone:∀(B:ABlock),(G6.set 0 B)[0]?=some B:=fun B=>hp_one hlt6
  simp -implicitDefEqProofs (maxDischargeDepth:=4) only[go_sem,F6.f2,H6.t,H6.P.o.shr,H6.P.o.drp,hss,hspv.drp,hone,List.set_cons_zero,Nat.zero_le,Nat.le_refl,Nat.not_lt_zero]
 obtain⟨G',hrun,hG'⟩:=run
 refine⟨.vec 6 .shared (cls.map clW),ov,shr pv,T,cls,ofs,(List.range T.length).map (prI T (atsOf T)),?_,⟨.inr (.inl rfl),K6.ok,H6.P.o,hspv⟩,⟨H,hO.symm,rfl,by rw[hM];exact K6⟩⟩
 rw[pcall_eq (v:=.tup [.agg [.sl c 6 0 M M,ov,shr pv],iv 0]) (H':=G') (by rw[List.map_cons,List.map_nil,hns.sl.cl2];exact hrun)]
 have hlen:(cls.map clW).length=M:=by rw[List.length_map,K6.len]
 have hf:frz0 0 G' (.sl c 6 0 M M)=.vec 6 .shared (cls.map clW):=by
  show (if c<0 then AV.dead else match G'[c]? with
   | some (.cells sz _ els)=>if 0+M≤els.length∧M≤M then .vec sz .shared (((els.drop 0).take M).map cl1) else .dead
   | _=>.dead)=_
  rw[if_neg (by omega),hG']
  dsimp only
  rw[if_pos ⟨by omega,Nat.le_refl _⟩,List.drop_zero,List.take_of_length_le (by omega),clW_cl1 K6.ok]
 show some (AV.tup [.agg [frz0 0 G' (.sl c 6 0 M M),frz0 0 G' ov,frz0 0 G' (shr pv)],iv 0])=_
 rw[hf,H6.P.o.fr0,hspv.fr0]
structure NdEq(x y:Nd):Prop where
 kd:y.kind=x.kind
 pr:y.prio=x.prio
 ch:y.chan=x.chan
 pt:y.pt=x.pt
 ps:y.ps=x.ps
 es:y.es=x.es
theorem half_eq{ks:List Int}{far:Int}{x y z:Nd}(h:half ks far x y)(h':half ks far x z):NdEq y z:=by
 obtain⟨a1,a2,a3,a4,a5,a6,a7⟩:=h
 obtain⟨b1,b2,b3,b4,b5,b6,b7⟩:=h'
 rw[a1]at b1
 exact⟨(Option.some.inj b1).symm,by rw[a2,b2],by rw[a3,b3],by rw[a4,b4],by rw[a5,b5],by rw[a6,b6]⟩
theorem half2_eq{ns T T':List Nd}(H:Half2 ns T)(H':Half2 ns T'):Rel NdEq T T':=by
 refine⟨by rw[H.ln,H'.ln],fun i x y hx hy=>?_⟩
 have hil:=(List.getElem?_eq_some_iff.1 hx).1
 rw[H.ln]at hil
 by_cases h:i<ns.length
 ·obtain⟨z,hz⟩:=ex_nd h
  obtain⟨x',h1,h2⟩:=H.h1 i z hz
  obtain⟨y',h3,h4⟩:=H'.h1 i z hz
  rw[hx]at h1;rw[hy]at h3
  cases h1;cases h3
  exact half_eq h2 h4
 ·obtain⟨j,rfl⟩:∃j,i=ns.length+j:=⟨i-ns.length,by omega⟩
  obtain⟨z,hz⟩:=ex_nd (ns:=ns) (i:=j) (by omega)
  obtain⟨x',h1,h2⟩:=H.h2 j z hz
  obtain⟨y',h3,h4⟩:=H'.h2 j z hz
  rw[hx]at h1;rw[hy]at h3
  cases h1;cases h3
  exact half_eq h2 h4
theorem wlk_eq{xs ys:List Nd}(h:Rel NdEq xs ys):∀(d:Nat)(n o:Int),wlk ys d n o=wlk xs d n o
 | 0,n,o=>rfl
 | d+1,n,o=>by
  obtain⟨h1,h2⟩:=h.none (n:=n)
  rcases ha:atN xs n with _ | x
  ·rw[wlk_out ha,wlk_out (h1 ha)]
  ·obtain⟨y,hy,hp⟩:=h2 x ha
   by_cases h5:x.kind=5
   ·have h5':y.kind=5:=by rw[hp.kd,h5]
    by_cases hl:x.es.length=1
    ·obtain⟨e,he⟩:=List.length_eq_one_iff.1 hl
     rw[wlk_one ha h5 he,wlk_one hy h5' (by rw[hp.es,he]),wlk_eq h d]
    ·rw[wlk_bad ha h5 hl,wlk_bad hy h5' (by rw[hp.es];exact hl)]
   ·rw[wlk_ne ha h5,wlk_ne hy (by rw[hp.kd];exact h5)]
theorem atsOf_eq{xs ys:List Nd}(h:Rel NdEq xs ys):atsOf ys=atsOf xs:=by
 unfold atsOf
 rw[←h.len]
 exact List.map_congr_left fun i _=>wlk_eq h _ _ _
theorem getD_eq{xs ys:List Nd}(h:Rel NdEq xs ys)(k:Nat):NdEq (xs.getD k ndZ) (ys.getD k ndZ):=by
 rw[List.getD_eq_getElem?_getD,List.getD_eq_getElem?_getD]
 rcases hx:xs[k]? with _ | x
 ·have:ys[k]?=none:=by rw[List.getElem?_eq_none_iff]at hx ⊢;rw[←h.len];exact hx
  rw[this]
  exact⟨rfl,rfl,rfl,rfl,rfl,rfl⟩
 ·obtain⟨y,hy,hp⟩:=h.get hx
  rw[hy]
  exact hp
theorem nodeAt_eq{xs ys:List Nd}(h:Rel NdEq xs ys)(ats:List (Int×Int))(i:Nat):NdEq (nodeAt xs ats i) (nodeAt ys ats i):=getD_eq h _
theorem lkE_same{xs ys:List Nd}(h:Rel NdEq xs ys)(ats:List (Int×Int))(ofs:List Nat)(p:Int)(e:Int×Int):lkE ys ats ofs p e=lkE xs ats ofs p e:=by
 unfold lkE lk
 have:=getD_eq h (ats.getD e.1.toNat (0,0)).1.toNat
 rw[this.kd,this.pr]
theorem oE_eq{x y:Nd}(h:NdEq x y):oE y=oE x:=by unfold oE;rw[h.es,h.ch,h.pt,h.ps]
theorem labI_eq{xs ys:List Nd}(h:Rel NdEq xs ys)(ats:List (Int×Int)):labI ys ats=labI xs ats:=by
 funext i
 have hn:=nodeAt_eq h ats i
 unfold labI labN
 rw[hn.kd,hn.ch,hn.es,hn.pr,oE_eq hn]
 congr 3
 exact List.map_congr_left fun e _=>by unfold jmpE;rw[lkE_same h]
theorem sucJ_eq{xs ys:List Nd}(h:Rel NdEq xs ys)(ats:List (Int×Int)):sucJ ys ats=sucJ xs ats:=by
 funext i
 have hn:=nodeAt_eq h ats i
 unfold sucJ sucI sucN
 rw[oE_eq hn,h.len]
theorem clsR_eq{xs ys:List Nd}(h:Rel NdEq xs ys):clsR ys (atsOf ys)=clsR xs (atsOf xs):=by
 unfold clsR
 rw[atsOf_eq h,labI_eq h,sucJ_eq h]
theorem clsO_eq{xs ys:List Nd}(h:Rel NdEq xs ys):clsO ys (atsOf ys)=clsO xs (atsOf xs):=by unfold clsO;rw[clsR_eq h,h.len]
theorem clsN_eq{xs ys:List Nd}(h:Rel NdEq xs ys):clsN ys (atsOf ys)=clsN xs (atsOf xs):=by unfold clsN;rw[clsR_eq h,h.len]
theorem prI_eq{xs ys:List Nd}(h:Rel NdEq xs ys):prI ys (atsOf ys)=prI xs (atsOf xs):=by
 funext i
 rw[atsOf_eq h]
 have hn:=nodeAt_eq h (atsOf xs) i
 unfold prI prE
 rw[hn.kd,hn.pr]
def duK(ks:List Int)(far:Int)(x:Nd):Nd:={ x with kind:=ks.getD x.kind.toNat 0,es:=x.es.map (mv far),nx:=.vec 2 .exact ((x.es.map (mv far)).map ed) }
def duT(ns:List Nd):List Nd:=ns.map (duK ks1 0)++ns.map (duK ks2 ns.length)
theorem duK_half{ks:List Int}{far:Int}{x:Nd}(h:x.kind.toNat<ks.length):half ks far x (duK ks far x):=by
 refine⟨?_,rfl,rfl,rfl,rfl,rfl,.inl rfl⟩
 show ks[x.kind.toNat]?=some (ks.getD x.kind.toNat 0)
 rw[List.getD_eq_getElem?_getD,List.getElem?_eq_getElem h]
 rfl
theorem duT_half{ns:List Nd}(hg:Good ns):Half2 ns (duT ns):=by
 unfold duT
 refine⟨by rw[List.length_append,List.length_map,List.length_map],fun i x hx=>?_,fun i x hx=>?_⟩
 ·have hk:=shp_kind (hg.sh x (List.mem_of_getElem? hx))
  have hi:=(List.getElem?_eq_some_iff.1 hx).1
  exact⟨duK ks1 0 x,by rw[List.getElem?_append_left (by rw[List.length_map];exact hi),List.getElem?_map,hx];rfl,duK_half (by show x.kind.toNat<6;omega)⟩
 ·have hk:=shp_kind (hg.sh x (List.mem_of_getElem? hx))
  exact⟨duK ks2 ns.length x,by rw[List.getElem?_append_right (by rw[List.length_map];omega),List.length_map,Nat.add_sub_cancel_left,List.getElem?_map,hx];rfl,duK_half (by show x.kind.toNat<6;omega)⟩
theorem OfOk.rel{ns T:List Nd}{cls:List Cl}{ofs:List Nat}{prs:List Int}(h:OfOk ns T cls ofs prs)(hg:Good ns):Rel NdEq (duT ns) T:=half2_eq (duT_half hg) h.h
theorem OfOk.re{ns T:List Nd}{cls:List Cl}{ofs:List Nat}{prs:List Int}(h:OfOk ns T cls ofs prs)(hg:Good ns):ofs=clsO (duT ns) (atsOf (duT ns))∧prs=(List.range (duT ns).length).map (prI (duT ns) (atsOf (duT ns)))∧cls.length=clsN (duT ns) (atsOf (duT ns))∧T.length=(duT ns).length:=by
 have r:=h.rel hg
 exact⟨by rw[h.o,clsO_eq r],by rw[h.p,prI_eq r,r.len],by rw[h.c.len,clsN_eq r],r.len.symm⟩
theorem OfOk.one{ns T:List Nd}{cls:List Cl}{ofs:List Nat}{prs:List Int}(h:OfOk ns T cls ofs prs){c:Nat}(hc:c<cls.length):∃z j,cls[c]?=some z∧j<T.length∧ofs.getD j 0=c∧IsCl T (atsOf T) ofs ns.length z j:=by
 have hM:=h.c.len
 have on:=(num_ok (eiR_eqv (L:=labI T (atsOf T)) (S:=sucJ T (atsOf T)) T.length) T.length (Nat.le_refl _)).on c (by rw[hM]at hc;exact hc)
 obtain⟨j,hj,e⟩:=on
 have ej:ofs.getD j 0=c:=by
  rw[h.o]
  unfold clsO clsR
  rw[cn_num _ _ hj,e]
 obtain⟨z,j',h1,h2,h3,h4⟩:=h.c.at' j hj
 exact⟨z,j',by rw[←ej];exact h3,h1,by rw[h2,ej],h4⟩
def wA:List Nd:=[mkNd 1 0 false 0 0 [(1,0)],niN 0 0 false 0 0]
structure Du(ns T:List Nd)(tv:AV):Prop where
 g:OrdOk ns
 h:Half2 ns T
 n:NsOk T tv
theorem Du.len{ns T:List Nd}{tv:AV}(d:Du ns T tv):T.length≤128:=by have:=d.g.le;have:=d.h.ln;omega
theorem Du.from{ns T:List Nd}{tv:AV}(d:Du ns T tv):∀y∈T,∃x∈ns,∃ks far,half ks far x y:=fun y hy=>by
 obtain⟨i,hi⟩:=List.getElem?_of_mem hy
 have hil:=(List.getElem?_eq_some_iff.1 hi).1
 have hln:=d.h.ln
 by_cases h:i<ns.length
 ·obtain⟨x,hx⟩:=ex_nd (ns:=ns) h
  obtain⟨y',hy',hh⟩:=d.h.h1 i x hx
  rw[hi]at hy'
  cases hy'
  exact⟨x,List.mem_of_getElem? hx,_,_,hh⟩
 ·obtain⟨j,rfl⟩:∃j,i=ns.length+j:=⟨i-ns.length,by omega⟩
  obtain⟨x,hx⟩:=ex_nd (ns:=ns) (i:=j) (by omega)
  obtain⟨y',hy',hh⟩:=d.h.h2 j x hx
  rw[hi]at hy'
  cases hy'
  exact⟨x,List.mem_of_getElem? hx,_,_,hh⟩
theorem Du.wide{ns T:List Nd}{tv:AV}(d:Du ns T tv){y:Nd}(hy:y∈T){e:Int×Int}(he:e∈oE y):0≤e.2∧e.2≤1000:=by
 obtain⟨x,hx,ks,far,hh⟩:=d.from y hy
 rcases half_oE hh he with⟨e0,h0,rfl⟩ | ⟨hc,rfl⟩
 ·exact oE_wide (d.g.sh x hx) e0 (by unfold oE;exact List.mem_append_left _ h0)
 ·exact oE_wide (d.g.sh x hx) (x.pt,x.ps) (by unfold oE;rw[if_pos hc];exact List.mem_append_right _ (List.mem_singleton.2 rfl))
theorem Du.small{ns T:List Nd}{tv:AV}(d:Du ns T tv):Small T:=fun y hy e he=>d.wide hy (by unfold oE;exact List.mem_append_left _ he)
theorem Du.prio{ns T:List Nd}{tv:AV}(d:Du ns T tv){y:Nd}(hy:y∈T):0≤y.prio∧y.prio≤1000:=by
 obtain⟨x,hx,ks,far,hh⟩:=d.from y hy
 rw[hh.2.1]
 exact shp_prio (d.g.sh x hx)
theorem Du.wf{ns T:List Nd}{tv:AV}(d:Du ns T tv){ofs:List Nat}(h:ofs.length=T.length):PtWf T (atsOf T) ofs:=wf_half d.g.toGood d.h h
def tgt(T:List Nd)(i:Nat):Nat:=((atsOf T).getD i (0,0)).1.toNat
theorem Du.at'{ns T:List Nd}{tv:AV}(d:Du ns T tv){i:Nat}(hi:i<T.length):∃(o:Int)(y:Nd),wlk T T.length i 0=((tgt T i:Int),o)∧T[tgt T i]?=some y∧nodeAt T (atsOf T) i=y∧0≤o∧o≤800000∧(atsOf T).getD i (0,0)=((tgt T i:Int),o):=by
 have hl:=d.len
 obtain⟨q,o,hq,hx,hm⟩:=at_node (d.wf (ofs:=List.replicate T.length 0) List.length_replicate) hi
 have hw:=atsOf_at hi
 rw[hq]at hw
 have ht:tgt T i=q:=by unfold tgt;rw[hq];exact Int.toNat_natCast q
 have h0:=wlk_add2 d.small (d:=0) (by omega) hw.symm (by omega) (Int.le_refl _) (by omega)
 rw[ht]
 exact⟨o,_,hw.symm,hx,rfl,h0.2.1,h0.2.2,hq⟩
theorem place_ok{ns T:List Nd}{tv:AV}(d:Du ns T tv){a:Nat}{x:Nd}(hx:T[a]?=some x){e:Int×Int}(he:e∈oE x):pcall D 162 [tv,iv a,ed e]=some (.tup [iv (tgt T e.1.toNat),iv (jmpE T (atsOf T) x.prio e)]):=by
 have hmx:=List.mem_of_getElem? hx
 have hcl:=(d.wf (ofs:=List.replicate T.length 0) List.length_replicate).cl x hmx e he
 have hwd:=d.wide hmx he
 have hl:=d.len
 obtain⟨t,ht⟩:∃t:Nat,e.1=t:=⟨e.1.toNat,by omega⟩
 obtain⟨o,y,h1,h2,h3,h4,h5,h6⟩:=d.at' (i:=t) (by omega)
 have hy:=List.mem_of_getElem? h2
 have p1:=d.prio hmx
 have p2:=d.prio hy
 have hw:=(wlk_add2 d.small (d:=e.2) (by omega) h1 (by omega) (Int.le_refl _) (by omega)).1
 rw[Int.zero_add]at hw
 have r52:=rres_ok d.n e.1 e.2
 rw[ht,hw]at r52
 have hj:jmpE T (atsOf T) x.prio e=if y.kind=0 then 0 else y.prio+o+e.2-x.prio:=by
  have hn:T.getD (((atsOf T).getD t (0,0)).1).toNat ndZ=y:=by rw[h6,Int.toNat_natCast,List.getD_eq_getElem?_getD,h2];rfl
  unfold jmpE lkE lk
  rw[ht,Int.toNat_natCast,hn,h6]
  dsimp only
  split
  ·rfl
  ·rw[wrapK_i64 (n:=y.prio+o) (by omega) (by omega),wrapK_i64 (n:=y.prio+o+e.2) (by omega) (by omega),wrapK_i64 (by omega) (by omega)]
 have sx:Sl 2 x.nx (x.es.map ed):=d.n.ok x hmx
 have sy:Sl 2 y.nx (y.es.map ed):=d.n.ok y hy
 have a1:=d.n.at h2
 have a2:=d.n.at hx
 rw[hj,ht,Int.toNat_natCast]
 obtain⟨e1,e2⟩:=e
 dsimp only at ht hw r52 hwd p1 p2 ⊢
 subst ht
 have run:∃H',callB cx D 0 162 [tv,iv a,ed ((t:Int),e2)] []=some (.tup [iv (tgt T t),iv (if y.kind=0 then 0 else y.prio+o+e2-x.prio)],H'):=by
  rw[c162]
  by_cases hk:y.kind=0
  ·rw[if_pos hk]
   simp -implicitDefEqProofs (maxDischargeDepth:=4) only[go_sem,d.n.sl.shr,d.n.sl.notOwn,d.n.sl.drp,d.n.sl.shut1,build61,r52,a1,hk,Nat.zero_le,Nat.le_refl,Nat.not_lt_zero,List.set_cons_zero,List.set_cons_succ]
   exact⟨_,rfl⟩
  ·rw[if_neg hk]
   have w1:wrapK .i64 (y.prio+(o+e2))=y.prio+o+e2:=by rw[wrapK_i64 (by omega) (by omega)];omega
   have w2:wrapK .i64 (y.prio+o+e2-x.prio)=y.prio+o+e2-x.prio:=wrapK_i64 (by omega) (by omega)
   simp -implicitDefEqProofs (maxDischargeDepth:=4) only[go_sem,d.n.sl.shr,d.n.sl.notOwn,d.n.sl.drp,d.n.sl.shut1,build61,r52,a1,a2,hk,w1,w2,nbeq,Nat.zero_le,Nat.le_refl,Nat.not_lt_zero,List.set_cons_zero,List.set_cons_succ]
   exact⟨_,rfl⟩
 obtain⟨H',h⟩:=run
 rw[pcall_eq (v:=.tup [iv (tgt T t),iv (if y.kind=0 then 0 else y.prio+o+e2-x.prio)]) (H':=H') (by
  show callB cx D 0 162 [cl2 tv,iv a,ed ((t:Int),e2)] []=_
  rw[d.n.sl.cl2]
  exact h)]
 rfl
end Go.Abs.Tab
namespace Go.Abs
end Go.Abs
namespace Go.Abs.Tab
open Go.Gr
def un1(T:List Nd)(A:Nat→Nat→Bool)(p q:Int)(e f:Int×Int):Bool:=A (tgt T e.1.toNat) (tgt T f.1.toNat)||!decide (jmpE T (atsOf T) p e=jmpE T (atsOf T) q f)
def unl(T:List Nd)(A:Nat→Nat→Bool)(x y:Nd):Bool :=
 !(decide (x.kind=y.kind)&&decide (x.chan=y.chan)&&decide (x.es.length=y.es.length))||(x.chan&&un1 T A x.prio y.prio (x.pt,x.ps) (y.pt,y.ps))||(List.range x.es.length).any (fun k=>un1 T A x.prio y.prio (x.es.getD k (0,0)) (y.es.getD k (0,0)))
abbrev rowV(N:Nat)(i:Nat):AV:=.sl (2+i) 1 0 N N
abbrev rowB(N:Nat)(f:Nat→Bool):ABlock:=.cells 1 4 ((List.range N).map fun j=>bv (f j))
structure ApH(H:Hp)(N:Nat)(A:Nat→Nat→Bool):Prop where
 a:H[1]?=some (.cells 1 26 ((List.range N).map (rowV N)))
 r:∀i,i<N→H[2+i]?=some (rowB N (A i))
theorem ApH.grow{H:Hp}{N:Nat}{A:Nat→Nat→Bool}(h:ApH H N A)(L:Hp):ApH (H++L) N A :=
 ⟨by rw[hp_get_l (lt_of_get h.a),h.a],fun i hi=>by rw[hp_get_l (lt_of_get (h.r i hi)),h.r i hi]⟩
theorem rng_get{α:Type}{f:Nat→α}{N i:Nat}(h:i<N):((List.range N).map f)[i]?=some (f i):=by
 rw[List.getElem?_map,List.getElem?_range h]
 rfl
theorem Du.tgt_lt{ns T:List Nd}{tv:AV}(d:Du ns T tv){i:Nat}(hi:i<T.length):tgt T i<T.length:=by
 obtain⟨o,y,_,h2,_⟩:=d.at' hi
 exact(List.getElem?_eq_some_iff.1 h2).1
theorem Du.to_lt{ns T:List Nd}{tv:AV}(d:Du ns T tv){x:Nd}(hx:x∈T){e:Int×Int}(he:e∈oE x):e.1.toNat<T.length:=by
 have:=(d.wf (ofs:=List.replicate T.length 0) List.length_replicate).cl x hx e he
 omega
def upd2(A:Nat→Nat→Bool)(a b:Nat)(i j:Nat):Bool:=if i=a∧j=b then true else A i j
structure Sw(T:List Nd)(P:Nat→Nat→Prop)(A:Nat→Nat→Bool)(m:Bool)(A':Nat→Nat→Bool)(m':Bool):Prop where
 le:∀i j,A i j=true→A' i j=true
 snd:∀(E:Nat→Nat→Prop),(∀(B:Nat→Nat→Bool)(i j:Nat)(x y:Nd),T[i]?=some x→T[j]?=some y→x.kind≠5→y.kind≠5→(∀u v,B u v=true→¬E u v)→unl T B x y=true→¬E i j)→(∀u v,A u v=true→¬E u v)→∀u v,A' u v=true→¬E u v
 chg:m'=true→m=true∨∃i j,i<T.length∧j<T.length∧A i j=false∧A' i j=true
 kp:m=true→m'=true
 un:m'=false→A'=A∧∀(i j:Nat)(x y:Nd),P i j→T[i]?=some x→T[j]?=some y→x.kind≠5→y.kind≠5→A i j=false→unl T A x y=false
theorem Sw.refl(T:List Nd)(A:Nat→Nat→Bool)(m:Bool):Sw T (fun _ _=>False) A m A m :=
 ⟨fun _ _ h=>h,fun E _ h=>h,fun h=>.inl h,fun h=>h,fun _=>⟨rfl,fun i j x y h=>h.elim⟩⟩
theorem Sw.trans{T:List Nd}{P Q:Nat→Nat→Prop}{A B C:Nat→Nat→Bool}{a b c:Bool}(h:Sw T P A a B b)(k:Sw T Q B b C c):Sw T (fun i j=>P i j∨Q i j) A a C c:=by
 refine⟨fun i j h1=>k.le i j (h.le i j h1),fun E hE hA=>k.snd E hE (h.snd E hE hA),fun hc=>?_,fun ha=>k.kp (h.kp ha),fun hc=>?_⟩
 ·rcases k.chg hc with hb | ⟨i,j,h1,h2,h3,h4⟩
  ·rcases h.chg hb with ha | ⟨i,j,h1,h2,h3,h4⟩
   ·exact .inl ha
   ·exact .inr ⟨i,j,h1,h2,h3,k.le i j h4⟩
  ·refine .inr ⟨i,j,h1,h2,?_,h4⟩
   cases hA:A i j with
   | false=>rfl
   | true=>rw[h.le i j hA]at h3;cases h3
 ·have hb:b=false:=by
   cases hb:b with
   | false=>rfl
   | true=>rw[k.kp hb]at hc;cases hc
  obtain⟨e1,h1⟩:=k.un hc
  obtain⟨e2,h2⟩:=h.un hb
  subst e1 e2
  refine⟨rfl,fun i j x y hp=>?_⟩
  rcases hp with hp | hp
  ·exact h2 i j x y hp
  ·exact h1 i j x y hp
theorem Sw.mono{T:List Nd}{P Q:Nat→Nat→Prop}{A B:Nat→Nat→Bool}{a b:Bool}(h:Sw T P A a B b)(hPQ:∀i j,Q i j→P i j):Sw T Q A a B b :=
 ⟨h.le,h.snd,h.chg,h.kp,fun hb=>⟨(h.un hb).1,fun i j x y hq=>(h.un hb).2 i j x y (hPQ i j hq)⟩⟩
structure FFr(fr:PT)(a tv:AV)(N:Nat):Prop where
 f0:fr.get 0=a
 f2:fr.get 2=.ptr 0 0 0
 f6:fr.get 6=tv
 f7:fr.get 7=.sl 1 1 0 N N
theorem FFr.of{fr fr':PT}{a tv:AV}{N:Nat}(F:FFr fr a tv N)(h:∀t,(t=0∨t=2∨t=6∨t=7)→fr'.get t=fr.get t):FFr fr' a tv N :=
 ⟨by rw[h 0 (by simp),F.f0],by rw[h 2 (by simp),F.f2],by rw[h 6 (by simp),F.f6],by rw[h 7 (by simp),F.f7]⟩
structure MkH(G:Hp)(N:Nat)(A:Nat→Nat→Bool):Prop extends ApH G N A where
 t:G[0]?=some tZ
theorem upd2_row{A:Nat→Nat→Bool}{N a b:Nat}(ha:a<N)(hb:b<N):((List.range N).map fun j=>bv (A a j)).set b (bv true)=(List.range N).map fun j=>bv (upd2 A a b a j):=by
 refine List.ext_getElem (by simp) fun k h1 h2=>?_
 rw[List.getElem_set]
 simp only[List.getElem_map,List.getElem_range,upd2]
 split
 ·rename_i e
  subst e
  simp
 ·rename_i e
  rw[if_neg (fun h=>e h.2.symm)]
theorem MkH.st{G:Hp}{N:Nat}{A:Nat→Nat→Bool}(h:MkH G N A){a b:Nat}(ha:a<N)(hb:b<N):stV 0 G false 1 (.ptr (2+a) b 0) (bv true)=some (G.set (2+a) (rowB N (upd2 A a b a))):=by
 have hg:((List.range N).map fun j=>bv (A a j))[b]?=some (bv (A a b)):=rng_get hb
 rw[stV_eq,if_neg (Nat.not_lt_zero _),h.r a ha,cellsB_cells,xbind_some]
 dsimp only
 rw[hg,xbind_some,elS_one (by rfl),xbind_some,upd2_row ha hb]
structure MFr74(fr:PT)(a tv:AV)(N:Nat)(m:Bool)(i j:Nat):Prop extends FFr fr a tv N where
 f9:fr.get 9=bv m
 f10:fr.get 10=iv i
 f11:fr.get 11=iv j
theorem MFr74.of{fr fr':PT}{a tv:AV}{N i j:Nat}{m:Bool}(F:MFr74 fr a tv N m i j)(h:∀t,(t=0∨t=2∨t=6∨t=7∨t=9∨t=10∨t=11)→fr'.get t=fr.get t):MFr74 fr' a tv N m i j :=
 ⟨F.toFFr.of fun t ht=>h t (by rcases ht with rfl | rfl | rfl | rfl<;>simp),by rw[h 9 (by simp),F.f9],by rw[h 10 (by simp),F.f10],by rw[h 11 (by simp),F.f11]⟩
theorem Du.no5{ns T:List Nd}{tv:AV}(d:Du ns T tv){i:Nat}(hi:i<T.length):∃(y:Nd),T[tgt T i]?=some y∧nodeAt T (atsOf T) i=y∧y.kind≠5∧tgt T (tgt T i)=tgt T i∧nodeAt T (atsOf T) (tgt T i)=y:=by
 obtain⟨o,y,h1,h2,h3,_⟩:=d.at' hi
 have ht:=d.tgt_lt hi
 have hk:y.kind≠5:=by
  rcases wlk_cases (ns:=T) T.length (i:Int) 0 with h | ⟨m,x,o',w,hx,ha,hk⟩
  ·rw[h1]at h
   have:=congrArg Prod.fst h
   dsimp only at this
   omega
  ·rw[h1]at w
   have:=congrArg Prod.fst w
   dsimp only at this
   have e:tgt T i=m:=by omega
   rw[e,hx]at h2
   cases h2
   exact hk
 obtain⟨o',y',g1,g2,g3,_⟩:=d.at' ht
 have e:tgt T (tgt T i)=tgt T i:=by
  obtain⟨N,hN⟩:∃N,T.length=N+1:=⟨T.length-1,by omega⟩
  rw[hN,wlk_ne (atN_nat h2) hk]at g1
  have:=congrArg Prod.fst g1
  dsimp only at this
  omega
 rw[e,h2]at g2
 cases g2
 exact⟨y,h2,h3,hk,e,g3⟩
section
variable {ns T:List Nd} {tv:AV}
end
open Go.Gr
structure NuF(fr:PT)(a tv:AV)(N:Nat)(g:AV)(c p i:Nat):Prop extends FFr fr a tv N where
 f12:fr.get 12=.ptr c 0 0
 f13:fr.get 13=g
 f14:fr.get 14=iv i
 f15:fr.get 15=.ptr p 0 0
theorem NuF.of{fr fr':PT}{a tv g:AV}{N c p i:Nat}(F:NuF fr a tv N g c p i)(h:∀t,(t=0∨t=2∨t=6∨t=7∨t=12∨t=13∨t=14∨t=15)→fr'.get t=fr.get t):NuF fr' a tv N g c p i :=
 ⟨F.toFFr.of fun t ht=>h t (by rcases ht with rfl | rfl | rfl | rfl<;>simp),by rw[h 12 (by simp),F.f12],by rw[h 13 (by simp),F.f13],by rw[h 14 (by simp),F.f14],by rw[h 15 (by simp),F.f15]⟩
structure FsI(T:List Nd)(R:Nat→Nat→Bool)(i:Nat)(fs:List Nat):Prop where
 len:fs.length=cnt R i
 at':∀c,c<cnt R i→∃j,j<i∧num R j=c∧fs.getD c 0=tgt T j
theorem FsI.zero(T:List Nd)(R:Nat→Nat→Bool):FsI T R 0 []:=⟨rfl,fun c hc=>absurd (show c<0 from hc) (Nat.not_lt_zero _)⟩
section
variable {T:List Nd} {R A:Nat→Nat→Bool} {N i:Nat} {fs:List Nat}
theorem FsI.new(h:FsI T R i fs)(E:Eqv R N)(hi:i<N)(hA:∀j,j<N→A (tgt T j) (tgt T i) = !R j i)(hs:∀m,m<fs.length→A (fs.getD m 0) (tgt T i)=true):
  num R i=fs.length∧FsI T R (i+1) (fs++[tgt T i]):=by
 have ok:=num_ok E i (by omega)
 cases hf:(List.range i).find? (fun j=>R j i) with
 | some j =>
  exfalso
  obtain⟨hj,hr⟩:=find_lt hf
  have hm:=ok.lt j hj
  obtain⟨j',h1,h2,h3⟩:=h.at' _ hm
  have h4:=hs _ (by rw[h.len];exact hm)
  rw[h3,hA j' (by omega)]at h4
  have h5:=(ok.eq j' j h1 hj).1 h2
  rw[E.t j' j i (by omega) (by omega) hi h5 hr]at h4
  cases h4
 | none =>
  obtain⟨h1,h2⟩:=num_none hf
  refine⟨by rw[h1,h.len],by rw[List.length_append,h.len,h2];rfl,fun c hc=>?_⟩
  rw[h2]at hc
  by_cases e:c=cnt R i
  ·exact⟨i,by omega,by rw[h1,e],by rw[getD_last (by rw[h.len,e])]⟩
  ·obtain⟨j,k1,k2,k3⟩:=h.at' c (by omega)
   exact⟨j,by omega,k2,by rw[getD_snoc (by rw[h.len];omega),k3]⟩
end
open Go.Gr
abbrev outB74(ov pv:AV):ABlock:=tB (.lit (.slice none 0 0)) ov pv
structure NuH(G:Hp)(T:List Nd)(A:Nat→Nat→Bool)(R:Nat→Nat→Bool)(c i:Nat)(ov pv:AV):Prop extends MkH G T.length A where
 hc:2+T.length≤c
 c:G[c]?=some (outB74 ov pv)
 o:Grow 1 ov ((cn R i).1.map nv)
 p:Grow 1 pv (((List.range i).map (prI T (atsOf T))).map iv)
theorem NuH.len{G:Hp}{T:List Nd}{A R:Nat→Nat→Bool}{c i:Nat}{ov pv:AV}(h:NuH G T A R c i ov pv):c<G.length:=lt_of_get h.c
theorem MkH.grow{G:Hp}{N:Nat}{A:Nat→Nat→Bool}(h:MkH G N A)(L:Hp):MkH (G++L) N A:=⟨h.toApH.grow L,by rw[hp_get_l (lt_of_get h.t),h.t]⟩
theorem MkH.put{G:Hp}{N:Nat}{A:Nat→Nat→Bool}(h:MkH G N A){c:Nat}(hc:2+N≤c)(B:ABlock):MkH (G.set c B) N A :=
 ⟨⟨by rw[hp_ne (by omega),h.a],fun i hi=>by rw[hp_ne (by omega),h.r i hi]⟩,by rw[hp_ne (by omega),h.t]⟩
structure EdF(fr:PT)(a tv:AV)(N:Nat)(g:AV)(c n k:Nat):Prop extends FFr fr a tv N where
 f12:fr.get 12=.ptr c 0 0
 f13:fr.get 13=g
 f19:fr.get 19=iv k
 f20:fr.get 20=.ptr n 0 0
 f21:fr.get 21=.ptr (n+1) 0 0
theorem EdF.of{fr fr':PT}{a tv g:AV}{N c n k:Nat}(F:EdF fr a tv N g c n k)(h:∀t,(t=0∨t=2∨t=6∨t=7∨t=12∨t=13∨t=19∨t=20∨t=21)→fr'.get t=fr.get t):EdF fr' a tv N g c n k :=
 ⟨F.toFFr.of fun t ht=>h t (by rcases ht with rfl | rfl | rfl | rfl<;>simp),by rw[h 12 (by simp),F.f12],by rw[h 13 (by simp),F.f13],by rw[h 19 (by simp),F.f19],by rw[h 20 (by simp),F.f20],by rw[h 21 (by simp),F.f21]⟩
abbrev dsB(ds:List Nd):ABlock:=.cells 6 66 (ds.map nodeV)
structure RFr(fr:PT)(a:AV)(n L i:Nat):Prop where
 f0:fr.get 0=a
 f5:fr.get 5=iv n
 f6:fr.get 6=.sl 0 6 0 L L
 f7:fr.get 7=iv i
theorem RFr.of{fr fr':PT}{a:AV}{n L i:Nat}(F:RFr fr a n L i)(h:∀t,(t=0∨t=5∨t=6∨t=7)→fr'.get t=fr.get t):RFr fr' a n L i :=
 ⟨by rw[h 0 (by simp),F.f0],by rw[h 5 (by simp),F.f5],by rw[h 6 (by simp),F.f6],by rw[h 7 (by simp),F.f7]⟩
structure R5(fr:PT)(a:AV)(n L i:Nat)(w8 w9:AV):Prop extends RFr fr a n L i where
 f8:fr.get 8=w8
 f9:fr.get 9=w9
theorem R5.of{fr fr':PT}{a w8 w9:AV}{n L i:Nat}(F:R5 fr a n L i w8 w9)(h:∀t,(t=0∨t=5∨t=6∨t=7∨t=8∨t=9)→fr'.get t=fr.get t):R5 fr' a n L i w8 w9 :=
 ⟨⟨by rw[h 0 (by simp),F.f0],by rw[h 5 (by simp),F.f5],by rw[h 6 (by simp),F.f6],by rw[h 7 (by simp),F.f7]⟩,by rw[h 8 (by simp),F.f8],by rw[h 9 (by simp),F.f9]⟩
structure H55(ns ds:List Nd)(i:Nat):Prop where
 ln:ds.length=ns.length+ns.length
 ok:∀y∈ds,NdOk y
 h1:∀(j:Nat)(x y:Nd),j<i→ns[j]?=some x→ds[j]?=some y→half ks1 0 x y
 h2:∀(j:Nat)(x y:Nd),j<i→ns[j]?=some x→ds[ns.length+j]?=some y→half ks2 ns.length x y
theorem H55.step{ns ds:List Nd}{i:Nat}(h:H55 ns ds i){x y1 y2:Nd}(hx:ns[i]?=some x)(hy1:half ks1 0 x y1)(hy2:half ks2 ns.length x y2):H55 ns ((ds.set i y1).set (ns.length+i) y2) (i+1):=by
 have hi:=(List.getElem?_eq_some_iff.1 hx).1
 have hl:=h.ln
 refine⟨by simp only[List.length_set];exact hl,fun y hy=>?_,fun j x' y hj hx' hy=>?_,fun j x' y hj hx' hy=>?_⟩
 ·rcases List.mem_or_eq_of_mem_set hy with hy | rfl
  ·rcases List.mem_or_eq_of_mem_set hy with hy | rfl
   ·exact h.ok y hy
   ·exact hy1.2.2.2.2.2.2
  ·exact hy2.2.2.2.2.2.2
 ·rw[List.getElem?_set_ne (by omega)]at hy
  by_cases e:j=i
  ·subst e
   rw[hx]at hx'
   cases hx'
   rw[List.getElem?_set_self (by omega)]at hy
   cases hy
   exact hy1
  ·rw[List.getElem?_set_ne (by omega)]at hy
   exact h.h1 j x' y (by omega) hx' hy
 ·by_cases e:j=i
  ·subst e
   rw[hx]at hx'
   cases hx'
   rw[List.getElem?_set_self (by rw[List.length_set];omega)]at hy
   cases hy
   exact hy2
  ·rw[List.getElem?_set_ne (by omega),List.getElem?_set_ne (by omega)]at hy
   exact h.h2 j x' y (by omega) hx' hy
theorem cl1_nodes{ds:List Nd}(h:∀y∈ds,NdOk y):(ds.map nodeV).map Abs.cl1=ds.map nodeV:=by
 rw[List.map_map]
 refine List.map_congr_left fun y hy=>?_
 have hs:Sl 2 y.nx (y.es.map ed):=h y hy
 show AV.agg ((nodeC y).map Abs.cl0)=_
 simp only[List.map_cons,List.map_nil,cl0_lit,hs.cl0]
theorem H55.frz{ns ds:List Nd}(h:H55 ns ds ns.length):Abs.frz 0 [dsB ds] (.sl 0 6 0 (ns.length+ns.length) (ns.length+ns.length))=.vec 6 .shared (ds.map nodeV):=by
 show (if (0:Nat)<0 then AV.dead else if 0+(ns.length+ns.length)≤(ds.map nodeV).length∧(ns.length+ns.length)≤(ns.length+ns.length) then AV.vec 6 .shared ((((ds.map nodeV).drop 0).take (ns.length+ns.length)).map cl1) else .dead)=_
 rw[if_neg (Nat.lt_irrefl 0)]
 show (if 0+(ns.length+ns.length)≤(ds.map nodeV).length∧(ns.length+ns.length)≤(ns.length+ns.length) then AV.vec 6 .shared ((((ds.map nodeV).drop 0).take (ns.length+ns.length)).map cl1) else .dead)=_
 rw[if_pos (by rw[List.length_map,h.ln];omega),List.drop_zero,List.take_of_length_le (by rw[List.length_map,h.ln];omega),cl1_nodes h.ok]
theorem H55.nsOk{ns ds:List Nd}{i:Nat}(h:H55 ns ds i)(hl:ns.length≤64):NsOk ds (.vec 6 .shared (ds.map nodeV)):=by
 refine⟨.inr (.inl rfl),h.ok,?_⟩
 rw[h.ln]
 exact Nat.lt_of_le_of_lt (show ns.length+ns.length≤128 by omega) (by decide)
structure RCl(T:List Nd)(n:Nat)(fs:List Nat)(k:Nat)(cls:List Cl):Prop where
 len:cls.length=k
 ok:∀z∈cls,ClOk z
 at':∀m,m<k→∃z,cls[m]?=some z∧IsCl T (atsOf T) (clsO T (atsOf T)) n z (fs.getD m 0)
theorem RCl.step{T:List Nd}{n k:Nat}{fs:List Nat}{cls:List Cl}(h:RCl T n fs k cls){z:Cl}(hz:ClOk z)(hi:IsCl T (atsOf T) (clsO T (atsOf T)) n z (fs.getD k 0)):RCl T n fs (k+1) (cls++[z]):=by
 refine⟨by rw[List.length_append,h.len];rfl,fun y hy=>?_,fun m hm=>?_⟩
 ·rw[List.mem_append,List.mem_singleton]at hy
  rcases hy with hy | rfl
  ·exact h.ok y hy
  ·exact hz
 ·by_cases e:m=k
  ·subst e
   exact⟨z,by rw[List.getElem?_append_right (by rw[h.len];exact Nat.le_refl _),h.len,Nat.sub_self];rfl,hi⟩
  ·obtain⟨y,h1,h2⟩:=h.at' m (by omega)
   exact⟨y,by rw[List.getElem?_append_left (by rw[h.len];omega)];exact h1,h2⟩
theorem H55.half2{ns ds:List Nd}(h:H55 ns ds ns.length):Half2 ns ds:=by
 have hl:=h.ln
 refine⟨hl,fun i x hx=>?_,fun i x hx=>?_⟩
 ·have hi:=(List.getElem?_eq_some_iff.1 hx).1
  obtain⟨y,hy⟩:=ex_nd (ns:=ds) (i:=i) (by omega)
  exact⟨y,hy,h.h1 i x y hi hx hy⟩
 ·have hi:=(List.getElem?_eq_some_iff.1 hx).1
  obtain⟨y,hy⟩:=ex_nd (ns:=ds) (i:=ns.length+i) (by omega)
  exact⟨y,hy,h.h2 i x y hi hx hy⟩
section
variable {ns T:List Nd} {tv:AV}
end
open Go.Gr
theorem int_at{u:AV}{l:List Int}(hu:Sl 1 u (l.map iv)){i:Nat}(hi:i<l.length):aindexAddr cx.T 31 u (iv i)=some (.vp (iv (l.getD i 0)) 0):=by
 rw[aindexAddr_sl hu sl31 (by rw[List.length_map];exact hi) rfl,getD_map iv l i 0 _ hi]
theorem cl_at{cv:AV}{cls:List Cl}(h:Sl 6 cv (cls.map clW)){k:Nat}{z:Cl}(hz:cls[k]?=some z):aindexAddr cx.T 93 cv (iv k)=some (.vp (clW z) 0):=by
 have hk:=(List.getElem?_eq_some_iff.1 hz).1
 rw[aindexAddr_sl h sl93 (by rw[List.length_map];exact hk) rfl,getD_map clW cls k clZ _ hk,List.getD_eq_getElem?_getD,hz]
 rfl
section
variable {cv ov pv cv2 ov2 pv2:AV} {cls cls2:List Cl} {ofs:List Nat} {prs:List Int}
end
open Go.Gr
def priced(cls:List Cl)(c:Nat)(p:Int):Int×Int:=((c:Int),if (cls.getD c clZ).kd=0 then 0 else p)
abbrev ppV(r:Int×Int):AV:=.tup [iv r.1,iv r.2]
section
variable {cv ov pv:AV} {cls:List Cl} {ofs:List Nat} {prs:List Int}
theorem tb_args{cv ov pv:AV}{cls:List Cl}{ofs:List Nat}{prs:List Int}(t:TbOk cv ov pv cls ofs prs):cl2 (.agg [cv,ov,pv])=.agg [cv,ov,pv]:=by
 show AV.agg [cl0 cv,cl0 ov,cl0 pv]=_
 rw[t.c.cl0,t.o.cl0,t.p.cl0]
theorem priced_ok(t:TbOk cv ov pv cls ofs prs){k:Nat}(hk:k<cls.length)(p:Int):pcall D 137 [.agg [cv,ov,pv],iv k,iv p]=some (ppV (priced cls k p)):=by
 obtain⟨z,hz⟩:∃z,cls[k]?=some z:=⟨_,List.getElem?_eq_getElem hk⟩
 have hg:cls.getD k clZ=z:=by rw[List.getD_eq_getElem?_getD,hz];rfl
 have a1:=cl_at t.c hz
 have run:∃H',callB cx D 0 137 [.agg [cv,ov,pv],iv k,iv p] []=some (ppV (priced cls k p),H'):=by
  unfold priced
  rw[hg,c137]
  by_cases h0:z.kd=0
  ·rw[if_pos h0]
   simp -implicitDefEqProofs (maxDischargeDepth:=4) only[go_sem,t.c.shr,t.c.notOwn,t.c.drp,t.c.fitA,t.o.shr,t.o.drp,t.o.fitA,t.p.shr,t.p.drp,t.p.fitA,a1,h0,Nat.zero_le,Nat.le_refl,Nat.not_lt_zero]
   exact⟨_,rfl⟩
  ·rw[if_neg h0]
   simp -implicitDefEqProofs (maxDischargeDepth:=4) only[go_sem,t.c.shr,t.c.notOwn,t.c.drp,t.c.fitA,t.o.shr,t.o.drp,t.o.fitA,t.p.shr,t.p.drp,t.p.fitA,a1,h0,Nat.zero_le,Nat.le_refl,Nat.not_lt_zero]
   exact⟨_,rfl⟩
 obtain⟨H',h⟩:=run
 rw[pcall_eq (v:=ppV (priced cls k p)) (H':=H') (by rw[List.map_cons,tb_args t];exact h)]
 rfl
end
open Go.Gr
structure TbIn(cls:List Cl)(ofs:List Nat)(prs:List Int):Prop where
 l:prs.length=ofs.length
 o:∀i,i<ofs.length→ofs.getD i 0<cls.length
 x:∀z∈cls,∀e∈z.nx,∃k:Nat,e.1=k∧k<cls.length
 p:∀z∈cls,z.ch=true→∃k:Nat,z.py.1=k∧k<cls.length
def tyF(cls:List Cl)(ofs:List Nat)(prs:List Int)(n o:Int):Int×Int:=if 0≤n∧n<(ofs.length:Int) then priced cls (ofs.getD n.toNat 0) (wrapK .i64 (prs.getD n.toNat 0+o)) else (-1,0)
section
variable {cv ov pv:AV} {cls:List Cl} {ofs:List Nat} {prs:List Int}
theorem type_ok(t:TbOk cv ov pv cls ofs prs)(I:TbIn cls ofs prs)(n o:Int):pcall D 78 [.agg [cv,ov,pv],tyV (n,o)]=some (ppV (tyF cls ofs prs n o))∧pcall D 79 [.agg [cv,ov,pv],tyV (n,o)]=some (ppV (tyF cls ofs prs n o)):=by
 have run:(∃H',callB cx D 0 78 [.agg [cv,ov,pv],tyV (n,o)] []=some (ppV (tyF cls ofs prs n o),H'))∧∃H',callB cx D 0 79 [.agg [cv,ov,pv],tyV (n,o)] []=some (ppV (tyF cls ofs prs n o),H'):=by
  unfold tyF
  rw[c78,c79]
  by_cases h0:n<0
  ·rw[if_neg (by omega)]
   constructor
   ·simp -implicitDefEqProofs (maxDischargeDepth:=4) only[go_sem,t.c.shr,t.c.notOwn,t.c.drp,t.c.fitA,t.o.shr,t.o.notOwn,t.o.drp,t.o.fitA,t.p.shr,t.p.notOwn,t.p.drp,t.p.fitA,h0,Nat.zero_le,Nat.le_refl,Nat.not_lt_zero]
    exact⟨_,rfl⟩
   ·simp -implicitDefEqProofs (maxDischargeDepth:=4) only[go_sem,t.c.shr,t.c.notOwn,t.c.drp,t.c.fitA,t.o.shr,t.o.notOwn,t.o.drp,t.o.fitA,t.p.shr,t.p.notOwn,t.p.drp,t.p.fitA,h0,Nat.zero_le,Nat.le_refl,Nat.not_lt_zero]
    exact⟨_,rfl⟩
  ·obtain⟨k,rfl⟩:∃k:Nat,n=k:=⟨n.toNat,by omega⟩
   by_cases h1:k<ofs.length
   ·rw[if_pos (by omega),Int.toNat_natCast]
    have h2:¬((ofs.length:Int)≤(k:Int)):=by omega
    have a1:aindexAddr cx.T 31 ov (iv k)=some (.vp (nv (ofs.getD k 0)) 0):=by rw[aindexAddr_sl t.o sl31 (by rw[List.length_map];exact h1) rfl,get_nv h1]
    have a2:=int_at t.p (i:=k) (by rw[I.l];exact h1)
    have hck:=I.o k h1
    obtain⟨z,hz⟩:∃z,cls[ofs.getD k 0]?=some z:=⟨_,List.getElem?_eq_getElem hck⟩
    have hg:cls.getD (ofs.getD k 0) clZ=z:=by rw[List.getD_eq_getElem?_getD,hz];rfl
    have a3:=cl_at t.c hz
    have h137:=priced_ok t hck (wrapK .i64 (prs.getD k 0+o))
    have hpr:priced cls (ofs.getD k 0) (wrapK .i64 (prs.getD k 0+o))=((ofs.getD k 0:Int),if z.kd=0 then 0 else wrapK .i64 (prs.getD k 0+o)):=by unfold priced;rw[hg]
    generalize ofs.getD k 0=c at *
    generalize prs.getD k 0=q at *
    rw[hpr]at h137 ⊢
    constructor
    ·simp -implicitDefEqProofs (maxDischargeDepth:=4) only[go_sem,t.c.shr,t.c.notOwn,t.c.drp,t.c.fitA,t.c.shut0,t.o.shr,t.o.notOwn,t.o.drp,t.o.fitA,t.o.shut0,alen_sl t.o,t.p.shr,t.p.notOwn,t.p.drp,t.p.fitA,t.p.shut0,List.length_map,h0,h2,a1,a2,h137,nbeq,Nat.zero_le,Nat.le_refl,Nat.not_lt_zero]
     exact⟨_,rfl⟩
    ·by_cases hk0:z.kd=0
     ·rw[if_pos hk0]
      simp -implicitDefEqProofs (maxDischargeDepth:=4) only[go_sem,t.c.shr,t.c.notOwn,t.c.drp,t.c.fitA,t.c.shut0,t.o.shr,t.o.notOwn,t.o.drp,t.o.fitA,t.o.shut0,alen_sl t.o,t.p.shr,t.p.notOwn,t.p.drp,t.p.fitA,t.p.shut0,List.length_map,h0,h2,a1,a2,a3,hk0,nbeq,Nat.zero_le,Nat.le_refl,Nat.not_lt_zero]
      exact⟨_,rfl⟩
     ·rw[if_neg hk0]
      simp -implicitDefEqProofs (maxDischargeDepth:=4) only[go_sem,t.c.shr,t.c.notOwn,t.c.drp,t.c.fitA,t.c.shut0,t.o.shr,t.o.notOwn,t.o.drp,t.o.fitA,t.o.shut0,alen_sl t.o,t.p.shr,t.p.notOwn,t.p.drp,t.p.fitA,t.p.shut0,List.length_map,h0,h2,a1,a2,a3,hk0,nbeq,Nat.zero_le,Nat.le_refl,Nat.not_lt_zero]
      exact⟨_,rfl⟩
   ·rw[if_neg (by omega)]
    have h2:(ofs.length:Int)≤(k:Int):=by omega
    constructor
    ·simp -implicitDefEqProofs (maxDischargeDepth:=4) only[go_sem,t.c.shr,t.c.notOwn,t.c.drp,t.c.fitA,t.o.shr,t.o.notOwn,t.o.drp,t.o.fitA,alen_sl t.o,t.p.shr,t.p.notOwn,t.p.drp,t.p.fitA,List.length_map,h0,h2,Nat.zero_le,Nat.le_refl,Nat.not_lt_zero]
     exact⟨_,rfl⟩
    ·simp -implicitDefEqProofs (maxDischargeDepth:=4) only[go_sem,t.c.shr,t.c.notOwn,t.c.drp,t.c.fitA,t.o.shr,t.o.notOwn,t.o.drp,t.o.fitA,alen_sl t.o,t.p.shr,t.p.notOwn,t.p.drp,t.p.fitA,List.length_map,h0,h2,Nat.zero_le,Nat.le_refl,Nat.not_lt_zero]
     exact⟨_,rfl⟩
 obtain⟨⟨H1,h1⟩,⟨H2,h2⟩⟩:=run
 constructor
 ·rw[pcall_eq (v:=ppV (tyF cls ofs prs n o)) (H':=H1) (by rw[List.map_cons,tb_args t];exact h1)]
  rfl
 ·rw[pcall_eq (v:=ppV (tyF cls ofs prs n o)) (H':=H2) (by rw[List.map_cons,tb_args t];exact h2)]
  rfl
end
open Go.Gr
section
variable {cv ov pv:AV} {cls:List Cl} {ofs:List Nat} {prs:List Int}
end
open Go.Gr
section
variable {cv ov pv:AV} {cls:List Cl} {ofs:List Nat} {prs:List Int}
end
open Go.Gr
structure LkT(ns T:List Nd)(cls:List Cl)(ofs:List Nat)(prs:List Int):Prop where
 o:ofs=clsO T (atsOf T)
 p:prs=(List.range T.length).map (prI T (atsOf T))
 m:cls.length=clsN T (atsOf T)
 at':∀i,i<T.length→∃z,cls[(clsO T (atsOf T)).getD i 0]?=some z∧IsCl T (atsOf T) (clsO T (atsOf T)) ns.length z i
section
variable {ns T:List Nd} {tv:AV} {cls:List Cl} {ofs:List Nat} {prs:List Int}
structure TyAt(T:List Nd)(cls:List Cl)(i:Nat)(off:Int)(q:Nat)(o:Int)(x:Nd)(z:Cl):Prop where
 hw:wlk T T.length i off=((q:Int),o+off)
 hx:T[q]?=some x
 hn:nodeAt T (atsOf T) i=x
 hk:x.kind≠5
 o0:0≤o
 o1:o≤800000
 ha:(atsOf T).getD i (0,0)=((q:Int),o)
 hz:cls[(clsO T (atsOf T)).getD i 0]?=some z
theorem LkT.ty(h:LkT ns T cls ofs prs)(d:Du ns T tv){i:Nat}(hi:i<T.length){off:Int}(h0:0≤off)(h1:off≤1000000):∃q o x z,TyAt T cls i off q o x z∧IsCl T (atsOf T) (clsO T (atsOf T)) ns.length z i∧
  tyF cls ofs prs i off=(((clsO T (atsOf T)).getD i 0:Int),if x.kind=0 then 0 else x.prio+o+off):=by
 have hN:=d.len
 obtain⟨o,x,w1,w2,w3,w4,w5,w6⟩:=d.at' hi
 obtain⟨x',y1,y2,y3,_⟩:=d.no5 hi
 rw[y2]at w3
 subst w3
 have hw:=(wlk_add2 d.small (d:=off) (by omega) w1 (by omega) (Int.le_refl _) (by omega)).1
 rw[Int.zero_add]at hw
 obtain⟨z,hz,hI⟩:=h.at' i hi
 have px:=d.prio (List.mem_of_getElem? w2)
 refine⟨tgt T i,o,_,z,⟨hw,w2,y2,y3,w4,w5,w6,hz⟩,hI,?_⟩
 have hg:cls.getD ((clsO T (atsOf T)).getD i 0) clZ=z:=by rw[List.getD_eq_getElem?_getD,hz];rfl
 have hpi:prs.getD i 0=prE x' o:=by
  rw[h.p,List.getD_eq_getElem?_getD,List.getElem?_map,List.getElem?_range hi]
  show prI T (atsOf T) i=_
  unfold prI
  rw[y2,w6]
 unfold tyF
 rw[h.o,if_pos ⟨by omega,by rw[clsO_len];omega⟩,Int.toNat_natCast,hpi]
 unfold priced
 rw[hg,hI.kd,y2]
 unfold prE
 by_cases hk:x'.kind=0
 ·rw[if_pos hk,if_pos hk]
 ·rw[if_neg hk,if_neg hk,if_neg hk,wrapK_i64 (n:=x'.prio+o) (by omega) (by omega),wrapK_i64 (by omega) (by omega)]
end
open Go.Gr
abbrev Slo:=Int×Int×Int
def slC(r:Slo):List AV:=[iv r.1,iv r.2.1,iv r.2.2]
def rgC:List Slo→List AV
 | []=>[]
 | r::R=>iv r.1::iv r.2.1::iv r.2.2::rgC R
def stC(lv dp:Int)(R:List Slo):List AV:=iv lv::iv dp::rgC R
theorem rgC_len:∀R:List Slo,(rgC R).length=R.length*3
 | []=>rfl
 | r::R=>by
  show (rgC R).length+1+1+1=(R.length+1)*3
  rw[rgC_len R];omega
theorem stC_len{lv dp:Int}{R:List Slo}(h:R.length=16):(stC lv dp R).length=50:=by
 show (rgC R).length+1+1=50
 rw[rgC_len,h]
theorem rgC_at:∀ {R:List Slo} {i:Nat} {r:Slo},R[i]?=some r→((rgC R).drop (i*3)).take 3=slC r
 | [],i,r,h=>by cases h
 | x::R,0,r,h=>by cases h;rfl
 | x::R,i+1,r,h=>by
  rw[show (i+1)*3=i*3+1+1+1 by omega]
  exact rgC_at (R:=R) h
theorem rgC_put(r:Slo):∀ {R:List Slo} {i:Nat},i<R.length→(rgC R).take (i*3)++slC r++(rgC R).drop (i*3+3)=rgC (R.set i r)
 | [],i,h=>by cases h
 | x::R,0,h=>rfl
 | x::R,i+1,h=>by
  rw[show (i+1)*3=i*3+1+1+1 by omega,show i*3+1+1+1+3=i*3+3+1+1+1 by omega]
  show iv x.1::iv x.2.1::iv x.2.2::((rgC R).take (i*3)++slC r++(rgC R).drop (i*3+3))=iv x.1::iv x.2.1::iv x.2.2::rgC (R.set i r)
  rw[rgC_put r (R:=R) (i:=i) (by simpa using h)]
theorem rgC_prio:∀ {R:List Slo} {i:Nat} {r:Slo},R[i]?=some r→(rgC R)[i*3+2]?=some (iv r.2.2)
 | [],i,r,h=>by cases h
 | x::R,0,r,h=>by cases h;rfl
 | x::R,i+1,r,h=>by
  rw[show (i+1)*3+2=i*3+2+1+1+1 by omega]
  exact rgC_prio (R:=R) h
theorem rgC_setp(c:Int):∀ {R:List Slo} {i:Nat} {r:Slo},R[i]?=some r→(rgC R).set (i*3+2) (iv c)=rgC (R.set i (r.1,r.2.1,c))
 | [],i,r,h=>by cases h
 | x::R,0,r,h=>by cases h;rfl
 | x::R,i+1,r,h=>by
  rw[show (i+1)*3+2=i*3+2+1+1+1 by omega]
  show iv x.1::iv x.2.1::iv x.2.2::(rgC R).set (i*3+2) (iv c)=iv x.1::iv x.2.1::iv x.2.2::rgC (R.set i (r.1,r.2.1,c))
  rw[rgC_setp c (R:=R) h]
theorem rgC_shr:∀(R:List Slo),(rgC R).map Abs.shr=rgC R
 | []=>rfl
 | r::R=>by
  show iv r.1::iv r.2.1::iv r.2.2::(rgC R).map Abs.shr=_
  rw[rgC_shr R];rfl
theorem stC_shr(lv dp:Int)(R:List Slo):(stC lv dp R).map Abs.shr=stC lv dp R:=by
 show iv lv::iv dp::(rgC R).map Abs.shr=_
 rw[rgC_shr];rfl
theorem rgC_cl0:∀(R:List Slo),(rgC R).map Abs.cl0=rgC R
 | []=>rfl
 | r::R=>by
  show iv r.1::iv r.2.1::iv r.2.2::(rgC R).map Abs.cl0=_
  rw[rgC_cl0 R];rfl
theorem stC_cl0(lv dp:Int)(R:List Slo):(stC lv dp R).map Abs.cl0=stC lv dp R:=by
 show iv lv::iv dp::(rgC R).map Abs.cl0=_
 rw[rgC_cl0];rfl
theorem rgC_shut:∀(R:List Slo),(rgC R).all shut0=true
 | []=>rfl
 | r::R=>by
  show (true&&(true&&(true&&(rgC R).all shut0)))=true
  rw[rgC_shut R];rfl
theorem stC_shut(lv dp:Int)(R:List Slo):(stC lv dp R).all shut0=true:=by
 show (true&&(true&&(rgC R).all shut0))=true
 rw[rgC_shut];rfl
theorem stC_at{lv dp:Int}{R:List Slo}{i:Nat}{r:Slo}(h:R[i]?=some r):((stC lv dp R).drop (2+i*3)).take 3=slC r:=by
 rw[show 2+i*3=i*3+1+1 by omega]
 exact rgC_at h
theorem stC_put{lv dp:Int}{R:List Slo}{i:Nat}(r:Slo)(h:i<R.length):(stC lv dp R).take (2+i*3)++slC r++(stC lv dp R).drop (2+i*3+3)=stC lv dp (R.set i r):=by
 rw[show 2+i*3=i*3+1+1 by omega,show i*3+1+1+3=i*3+3+1+1 by omega]
 show iv lv::iv dp::((rgC R).take (i*3)++slC r++(rgC R).drop (i*3+3))=iv lv::iv dp::rgC (R.set i r)
 rw[rgC_put r h]
theorem stC_prio{lv dp:Int}{R:List Slo}{i:Nat}{r:Slo}(h:R[i]?=some r):(stC lv dp R)[2+i*3+2]?=some (iv r.2.2):=by
 rw[show 2+i*3+2=i*3+2+1+1 by omega]
 exact rgC_prio h
theorem stC_setp{lv dp:Int}{R:List Slo}{i:Nat}{r:Slo}(h:R[i]?=some r)(c:Int):(stC lv dp R).set (2+i*3+2) (iv c)=stC lv dp (R.set i (r.1,r.2.1,c)):=by
 rw[show 2+i*3+2=i*3+2+1+1 by omega]
 show iv lv::iv dp::(rgC R).set (i*3+2) (iv c)=iv lv::iv dp::rgC (R.set i (r.1,r.2.1,c))
 rw[rgC_setp c h]
def bz(cls:List Cl)(r:Slo):Bool:=decide (r.1=2)&&(decide (0≤r.2.1)&&decide (r.2.1<(cls.length:Int)))&&!decide ((cls.getD r.2.1.toNat clZ).kd=0)
structure FtOk(cv ov pv qv:AV)(cls:List Cl):Prop where
 c:Sl 6 cv (cls.map clW)
 o:∃l,Sl 1 ov l
 p:∃l,Sl 1 pv l
 q:∃l,Sl 1 qv l
 n:cls.length≤1000
abbrev ftC(cv ov pv qv:AV):List AV:=[cv,ov,pv,qv]
section
variable {cv ov pv qv:AV} {cls:List Cl}
theorem FtOk.shr(t:FtOk cv ov pv qv cls):(ftC cv ov pv qv).map Abs.shr=ftC cv ov pv qv:=by
 obtain⟨_,h1⟩:=t.o;obtain⟨_,h2⟩:=t.p;obtain⟨_,h3⟩:=t.q
 simp only[List.map_cons,List.map_nil,t.c.shr,h1.shr,h2.shr,h3.shr]
theorem FtOk.cl(t:FtOk cv ov pv qv cls):(ftC cv ov pv qv).map Abs.cl0=ftC cv ov pv qv:=by
 obtain⟨_,h1⟩:=t.o;obtain⟨_,h2⟩:=t.p;obtain⟨_,h3⟩:=t.q
 simp only[List.map_cons,List.map_nil,t.c.cl0,h1.cl0,h2.cl0,h3.cl0]
theorem FtOk.shut(t:FtOk cv ov pv qv cls):(ftC cv ov pv qv).all shut0=true:=by
 obtain⟨_,h1⟩:=t.o;obtain⟨_,h2⟩:=t.p;obtain⟨_,h3⟩:=t.q
 simp only[List.all_cons,List.all_nil,t.c.shut0,h1.shut0,h2.shut0,h3.shut0,Bool.and_self]
theorem busy_call(t:FtOk cv ov pv qv cls)(r:Slo){ro:Nat}{H:Hp}(hro:ro≤H.length):∃L,callB cx D ro 91 [.agg (ftC cv ov pv qv),.agg (slC r)] H=some (bv (bz cls r),H++L):=by
 obtain⟨_,h1⟩:=t.o
 obtain⟨_,h2⟩:=t.p
 obtain⟨_,h3⟩:=t.q
 obtain⟨kd,c,p⟩:=r
 obtain⟨n,hn⟩:∃n,H.length=n:=⟨_,rfl⟩
 rw[hn]at hro
 have c1:∀j,ro≤n+j:=fun j=>by omega
 have c2:∀j,¬n+j<ro:=fun j=>by omega
 have c3:¬n<ro:=by omega
 unfold bz
 dsimp only
 rw[c91]
 by_cases h0:0≤c
 rotate_left
 ·rw[decide_eq_false h0,Bool.false_and,Bool.and_false,Bool.false_and]
  by_cases hk:kd=2
  ·simp -implicitDefEqProofs (maxDischargeDepth:=4) only[go_sem,hn,hro,c1,c2,c3,t.c.shr,h1.shr,h2.shr,h3.shr,h0,hk,slC]
   exact⟨_,rfl⟩
  ·simp -implicitDefEqProofs (maxDischargeDepth:=4) only[go_sem,hn,hro,c1,c2,c3,t.c.shr,h1.shr,h2.shr,h3.shr,h0,hk,slC]
   exact⟨_,rfl⟩
 by_cases h9:c<(cls.length:Int)
 rotate_left
 ·rw[decide_eq_false h9,Bool.and_false,Bool.and_false,Bool.false_and]
  by_cases hk:kd=2
  ·simp -implicitDefEqProofs (maxDischargeDepth:=4) only[go_sem,hn,hro,c1,c2,c3,t.c.shr,t.c.notOwn,alen_sl t.c,List.length_map,h1.shr,h2.shr,h3.shr,h0,h9,hk,slC]
   exact⟨_,rfl⟩
  ·simp -implicitDefEqProofs (maxDischargeDepth:=4) only[go_sem,hn,hro,c1,c2,c3,t.c.shr,t.c.notOwn,alen_sl t.c,List.length_map,h1.shr,h2.shr,h3.shr,h0,h9,hk,slC]
   exact⟨_,rfl⟩
 rw[decide_eq_true h0,decide_eq_true h9,Bool.and_self,Bool.and_true]
 by_cases hk:kd=2
 rotate_left
 ·rw[decide_eq_false hk,Bool.false_and]
  simp -implicitDefEqProofs (maxDischargeDepth:=4) only[go_sem,hn,hro,c1,c2,c3,t.c.shr,t.c.notOwn,alen_sl t.c,List.length_map,h1.shr,h2.shr,h3.shr,h0,h9,hk,slC]
  exact⟨_,rfl⟩
 obtain⟨m,rfl⟩:∃m:Nat,c=m:=⟨c.toNat,by omega⟩
 obtain⟨z,hz⟩:∃z,cls[m]?=some z:=⟨_,List.getElem?_eq_getElem (by omega)⟩
 have hg:cls.getD m clZ=z:=by rw[List.getD_eq_getElem?_getD,hz];rfl
 have a1:aindexAddr cx.T 93 cv (iv m)=some (.vp (clW z) 0):=by
  rw[aindexAddr_sl t.c sl93 (by rw[List.length_map];omega) rfl,List.getD_eq_getElem?_getD,List.getElem?_map,hz];rfl
 rw[Int.toNat_natCast,hg,decide_eq_true hk,Bool.true_and]
 obtain⟨zk,zd,zc,zp,zn,zw⟩:=z
 by_cases hz0:zk=0
 ·simp -implicitDefEqProofs (maxDischargeDepth:=4) only[go_sem,hn,hro,c1,c2,c3,t.c.shr,t.c.notOwn,alen_sl t.c,List.length_map,h1.shr,h2.shr,h3.shr,h0,h9,hk,slC,a1,hz0]
  exact⟨_,rfl⟩
 ·simp -implicitDefEqProofs (maxDischargeDepth:=4) only[go_sem,hn,hro,c1,c2,c3,t.c.shr,t.c.notOwn,alen_sl t.c,List.length_map,h1.shr,h2.shr,h3.shr,h0,h9,hk,slC,a1,hz0]
  exact⟨_,rfl⟩
theorem busy_ok(t:FtOk cv ov pv qv cls)(r:Slo):pcall D 91 [.agg (ftC cv ov pv qv),.agg (slC r)]=some (bv (bz cls r)):=by
 obtain⟨L,h⟩:=busy_call t r (ro:=0) (H:=[]) (Nat.zero_le _)
 have hc:[AV.agg (ftC cv ov pv qv),.agg (slC r)].map cl2=[.agg (ftC cv ov pv qv),.agg (slC r)]:=by
  show [AV.agg ((ftC cv ov pv qv).map Abs.cl0),.agg ((slC r).map Abs.cl0)]=_
  rw[t.cl];rfl
 rw[pcall_eq (v:=bv (bz cls r)) (H':=[]++L) (by rw[hc];exact h)]
 rfl
end
open Go.Gr
abbrev fctB(cv ov pv qv:AV):ABlock:=.cells 4 126 [.agg (ftC cv ov pv qv)]
abbrev staB(lv dp:Int)(R:List Slo):ABlock:=.cells 50 122 [.agg (stC lv dp R)]
theorem at120{b i:Nat}(h:i<16):aindexAddr cx.T 120 (.ptr b 0 2) (iv i)=some (.ptr b 0 (2+i*3)):=by
 rw[aindexAddr_arr (n:=i) (k:=.i64) ar120 (.ptr b 0 2),if_pos h]
theorem put_lv{G:Hp}{b:Nat}{lv dp:Int}{R:List Slo}(h:G[b]?=some (staB lv dp R))(m:Int):stV 0 G false 1 (.ptr b 0 0) (iv m)=some (G.set b (staB m dp R)):=by
 rw[stV_eq,if_neg (Nat.not_lt_zero _),h]
 simp only[cellsB_cells,xbind_some,List.getElem?_cons_zero]
 rw[elS_cell (fitA_int _ _) (show 0<(stC lv dp R).length from Nat.succ_pos _),xbind_some]
 rfl
theorem put_pr{G:Hp}{b i:Nat}{lv dp:Int}{R:List Slo}{r:Slo}(h:G[b]?=some (staB lv dp R))(hl:R.length=16)(hr:R[i]?=some r)(m:Int):stV 0 G false 1 (.ptr b 0 (2+i*3+2)) (iv m)=some (G.set b (staB lv dp (R.set i (r.1,r.2.1,m)))):=by
 have hi:=(List.getElem?_eq_some_iff.1 hr).1
 rw[stV_eq,if_neg (Nat.not_lt_zero _),h]
 simp only[cellsB_cells,xbind_some,List.getElem?_cons_zero]
 rw[elS_cell (fitA_int _ _) (by rw[stC_len hl];omega),xbind_some,stC_setp hr,List.set_cons_zero]
theorem put_sl{G:Hp}{b i:Nat}{lv dp:Int}{R:List Slo}(h:G[b]?=some (staB lv dp R))(hl:R.length=16)(hi:i<16)(r:Slo):stV 0 G true 3 (.ptr b 0 (2+i*3)) (.agg (slC r))=some (G.set b (staB lv dp (R.set i r))):=by
 rw[stV_eq,if_neg (Nat.not_lt_zero _),h]
 simp only[cellsB_cells,xbind_some,List.getElem?_cons_zero]
 have:elS true 3 (.agg (stC lv dp R)) (2+i*3) (.agg (slC r))=some (.agg (stC lv dp (R.set i r))):=by
  unfold elS
  rw[if_neg (by simp[fitA,slC])]
  simp only
  rw[if_pos (by rw[stC_len hl];omega)]
  rw[show cellsOf (.agg (slC r))=slC r from rfl,stC_put r (by omega)]
 rw[this,xbind_some,List.set_cons_zero]
def fz(cls:List Cl)(t:Int)(r:Slo):Slo:=if bz cls r=true then (r.1,r.2.1,r.2.2+t) else r
structure FuF(fr:PT)(t:Int)(i:Nat):Prop where
 f2:fr.get 2=iv t
 f3:fr.get 3=.ptr 0 0 0
 f4:fr.get 4=.ptr 1 0 0
 f6:fr.get 6=.ptr 2 0 0
 f7:fr.get 7=iv i
theorem FuF.of{fr fr':PT}{t:Int}{i:Nat}(F:FuF fr t i)(h:∀d,(d=2∨d=3∨d=4∨d=6∨d=7)→fr'.get d=fr.get d):FuF fr' t i :=
 ⟨by rw[h 2 (by simp),F.f2],by rw[h 3 (by simp),F.f3],by rw[h 4 (by simp),F.f4],by rw[h 6 (by simp),F.f6],by rw[h 7 (by simp),F.f7]⟩
def Sm(B:Int)(R:List Slo):Prop:=∀r∈R,-B≤r.2.2∧r.2.2≤B
section
variable {cv ov pv qv:AV} {cls:List Cl} {lv dp t:Int}
noncomputable abbrev bo93:Code:=(.seq (.seq (.region 3 g93_3 false) (.cond (.tmp 14) .skip (.exit 0))) (.seq (.block 1 (.seq (.region 5 g93_4 true) (.cond (.tmp 22) (.region 6 g93_5 false) .skip))) (.region 4 g93_6 false)))
theorem fu_step(h:FtOk cv ov pv qv cls){R:List Slo}(hl:R.length=16){i:Nat}(hi:i<16){r:Slo}(hr:R[i]?=some r)(hb:-100000≤r.2.2∧r.2.2≤100000)(ht:-1000≤t∧t≤1000){Z:ABlock}{fr:PT}(F:FuF fr t i):
  ∃fr',ex cx D 0 93 35 bo93 fr [fctB cv ov pv qv,staB lv dp R,Z]=some (.normal,fr',[fctB cv ov pv qv,staB lv dp (R.set i (fz cls t r)),Z])∧FuF fr' t (i+1):=by
 obtain⟨_,h1⟩:=h.o
 obtain⟨_,h2⟩:=h.p
 obtain⟨_,h3⟩:=h.q
 have hlt:(i:Int)<16:=by omega
 have w3:=wrap_succ (show i≤1000 by omega)
 have a1:=at120 (b:=1) hi
 have hlen:=stC_len (lv:=lv) (dp:=dp) hl
 have hle:2+i*3+3≤50:=by omega
 have hat:=stC_at (lv:=lv) (dp:=dp) hr
 have hpr:=stC_prio (lv:=lv) (dp:=dp) hr
 have hbz:=busy_ok h r
 have ws:wrapK .i64 (r.2.2+t)=r.2.2+t:=wrapK_i64 (by omega) (by omega)
 have hput:=put_pr (G:=[fctB cv ov pv qv,staB lv dp R,Z]) (b:=1) rfl hl hr (r.2.2+t)
 obtain⟨fr1,p1,F1⟩:∃fr1,ex cx D 0 93 35 (.seq (.region 3 g93_3 false) (.cond (.tmp 14) .skip (.exit 0))) fr [fctB cv ov pv qv,staB lv dp R,Z]=some (.normal,fr1,[fctB cv ov pv qv,staB lv dp R,Z])∧FuF fr1 t i:=by
  simp -implicitDefEqProofs (maxDischargeDepth:=4) only[go_sem,F.f7,hlt]
  exact⟨_,rfl,F.of fun d hd=>by rcases hd with rfl | rfl | rfl | rfl | rfl<;>simp only[go_sem]⟩
 obtain⟨S,hS⟩:∃S,stC lv dp R=S:=⟨_,rfl⟩
 obtain⟨fr2,p2,F2,k22⟩:∃fr2,ex cx D 0 93 35 (.region 5 g93_4 true) fr1 [fctB cv ov pv qv,staB lv dp R,Z]=some (.normal,fr2,[fctB cv ov pv qv,staB lv dp R,Z])∧FuF fr2 t i∧fr2.get 22=bv (bz cls r):=by
  unfold staB
  rw[hS]at hlen hat ⊢
  unfold slC at hat hbz
  simp -implicitDefEqProofs (maxDischargeDepth:=4) only[go_sem,F1.f3,F1.f4,F1.f7,h.c.shr,h1.shr,h2.shr,h3.shr,h.c.shut0,h1.shut0,h2.shut0,h3.shut0,a1,hlen,hle,hat,hbz,nbeq,Nat.zero_le,Nat.le_refl,Nat.not_lt_zero]
  exact⟨_,rfl,F1.of fun d hd=>by rcases hd with rfl | rfl | rfl | rfl | rfl<;>simp only[go_sem],by simp only[go_sem]⟩
 obtain⟨fr3,p3,F3⟩:∃fr3,ex cx D 0 93 35 (.cond (.tmp 22) (.region 6 g93_5 false) .skip) fr2 [fctB cv ov pv qv,staB lv dp R,Z]=some (.normal,fr3,[fctB cv ov pv qv,staB lv dp (R.set i (fz cls t r)),Z])∧FuF fr3 t i:=by
  unfold fz
  cases hz:bz cls r with
  | true =>
   rw[hz]at k22
   rw[if_pos rfl]
   rw[List.set_cons_succ,List.set_cons_zero]at hput
   obtain⟨G1,hG1⟩:∃G1,[fctB cv ov pv qv,staB lv dp (R.set i (r.1,r.2.1,r.2.2+t)),Z]=G1:=⟨_,rfl⟩
   rw[hG1]at hput ⊢
   unfold staB at hput ⊢
   rw[hS]at hpr hput ⊢
   simp -implicitDefEqProofs (maxDischargeDepth:=4) only[go_sem,k22,F2.f2,F2.f4,F2.f7,a1,hpr,ws,hput]
   exact⟨_,rfl,F2.of fun d hd=>by rcases hd with rfl | rfl | rfl | rfl | rfl<;>simp only[go_sem]⟩
  | false =>
   rw[hz]at k22
   rw[if_neg (by decide)]
   have hs:R.set i r=R:=by
    refine List.ext_getElem? fun j=>?_
    by_cases e:i=j
    ·subst e;rw[List.getElem?_set_self (by omega),hr]
    ·rw[List.getElem?_set_ne e]
   rw[hs]
   simp -implicitDefEqProofs (maxDischargeDepth:=4) only[go_sem,k22]
   exact⟨_,rfl,F2⟩
 obtain⟨fr4,p4,F4⟩:∃fr4,ex cx D 0 93 35 (.region 4 g93_6 false) fr3 [fctB cv ov pv qv,staB lv dp (R.set i (fz cls t r)),Z]=some (.normal,fr4,[fctB cv ov pv qv,staB lv dp (R.set i (fz cls t r)),Z])∧FuF fr4 t (i+1):=by
  simp -implicitDefEqProofs (maxDischargeDepth:=4) only[go_sem,F3.f7,w3]
  exact⟨_,rfl,by simp only[go_sem,F3.f2],by simp only[go_sem,F3.f3],by simp only[go_sem,F3.f4],by simp only[go_sem,F3.f6],by simp only[go_sem]⟩
 have eb:ex cx D 0 93 35 (.block 1 (.seq (.region 5 g93_4 true) (.cond (.tmp 22) (.region 6 g93_5 false) .skip))) fr1 [fctB cv ov pv qv,staB lv dp R,Z]=some (.normal,fr3,[fctB cv ov pv qv,staB lv dp (R.set i (fz cls t r)),Z]):=by
  rw[x_block,x_cont1 p2,p3];rfl
 exact⟨fr4,by unfold bo93;rw[x_cont1 p1,x_cont1 eb,p4],F4⟩
end
open Go.Gr
theorem set_take{α:Type}{l:List α}{i:Nat}(h:i<l.length)(y:α):(l.set i y).take (i+1)=l.take i++[y]:=by
 rw[List.take_add_one,List.take_set_of_le (Nat.le_refl i),List.getElem?_set_self h]
 rfl
theorem set_drop{α:Type}{l:List α}{i:Nat}(y:α):(l.set i y).drop (i+1)=l.drop (i+1):=by
 rw[List.drop_set_of_lt (by omega)]
theorem map_from{α:Type}{l:List α}{i:Nat}{r:α}(f:α→α)(h:l[i]?=some r):(l.set i (f r)).take (i+1)++((l.set i (f r)).drop (i+1)).map f=l.take i++(l.drop i).map f:=by
 have hi:=(List.getElem?_eq_some_iff.1 h).1
 have hd:l.drop i=r::l.drop (i+1):=by
  rw[List.drop_eq_getElem_cons hi]
  rw[List.getElem?_eq_getElem hi]at h
  rw[Option.some.inj h]
 rw[set_take hi,set_drop,hd,List.map_cons,List.append_assoc]
 rfl
def zR:List Slo:=List.replicate 16 (0,0,0)
theorem ze122:zeroT cx.T 122=some (50,.agg (stC 0 0 zR)):=nk
section
variable {cv ov pv qv:AV} {cls:List Cl} {lv dp t:Int}
theorem fu_loop(h:FtOk cv ov pv qv cls)(ht:-1000≤t∧t≤1000){Z:ABlock}:∀(m i:Nat)(fr:PT)(R:List Slo),16-i=m→i≤16→R.length=16→(∀j r,i≤j→R[j]?=some r→-100000≤r.2.2∧r.2.2≤100000)→FuF fr t i→
  ∃fr',D.loop 0 93 35 l93_0 fr [fctB cv ov pv qv,staB lv dp R,Z]=some (.exit 0,fr',[fctB cv ov pv qv,staB lv dp (R.take i++(R.drop i).map (fz cls t)),Z])∧FuF fr' t 16
 | 0,i,fr,R,hm,hi,hl,hb,F=>by
  have hlt:¬((i:Int)<16):=by omega
  have e:i=16:=by omega
  subst e
  have hR:R.take 16++(R.drop 16).map (fz cls t)=R:=by
   rw[List.take_of_length_le (by omega),List.drop_of_length_le (by omega),List.map_nil,List.append_nil]
  rw[hR]
  obtain⟨fr1,p1,F1⟩:∃fr1,D.loop 0 93 35 l93_0 fr [fctB cv ov pv qv,staB lv dp R,Z]=some (.exit 0,fr1,[fctB cv ov pv qv,staB lv dp R,Z])∧FuF fr1 t 16:=by
   rw[dl93_0]
   simp -implicitDefEqProofs (maxDischargeDepth:=4) only[go_sem,F.f7,hlt]
   exact⟨_,rfl,F.of fun d hd=>by rcases hd with rfl | rfl | rfl | rfl | rfl<;>simp only[go_sem]⟩
  exact⟨fr1,p1,F1⟩
 | m+1,i,fr,R,hm,hi,hl,hb,F=>by
  obtain⟨r,hr⟩:∃r,R[i]?=some r:=⟨_,List.getElem?_eq_getElem (by omega)⟩
  obtain⟨fr1,p1,F1⟩:=fu_step (lv:=lv) (dp:=dp) h hl (show i<16 by omega) hr (hb i r (Nat.le_refl _) hr) ht (Z:=Z) F
  obtain⟨fr2,p2,F2⟩:=fu_loop h ht m (i+1) fr1 (R.set i (fz cls t r)) (by omega) (by omega) (by rw[List.length_set,hl]) (fun j r' hj hr'=>by
   rw[List.getElem?_set_ne (by omega)]at hr'
   exact hb j r' (by omega) hr') F1
  rw[map_from (fz cls t) hr]at p2
  refine⟨fr2,?_,F2⟩
  rw[dl93_0,show ex cx (den cx) 0 93 35 bo93 fr [fctB cv ov pv qv,staB lv dp R,Z]=_ from p1,xbind_some,contR_normal,trimmed_l (n:=[fctB cv ov pv qv,staB lv dp R,Z].length) (H:=[fctB cv ov pv qv,staB lv dp (R.set i (fz cls t r)),Z]) rfl]
  exact p2
theorem further_ok(h:FtOk cv ov pv qv cls){R:List Slo}(hl:R.length=16)(hlv:-100000≤lv∧lv≤100000)(hb:Sm 100000 R)(ht:-1000≤t∧t≤1000):
  pcall D 93 [.agg (ftC cv ov pv qv),.agg (stC lv dp R),iv t]=some (.agg (stC (lv+t) dp (R.map (fz cls t)))):=by
 obtain⟨_,h1⟩:=h.o
 obtain⟨_,h2⟩:=h.p
 obtain⟨_,h3⟩:=h.q
 have hlen:=stC_len (lv:=lv) (dp:=dp) hl
 have hsh:=stC_shr lv dp R
 have hta:(stC lv dp R).take 50=stC lv dp R:=List.take_of_length_le (by omega)
 have wl:wrapK .i64 (lv+t)=lv+t:=wrapK_i64 (by omega) (by omega)
 have h0:(stC lv dp R)[0]?=some (iv lv):=rfl
 have hput:=put_lv (G:=[fctB cv ov pv qv,staB lv dp R,staB 0 0 zR]) (b:=1) rfl (lv+t)
 rw[List.set_cons_succ,List.set_cons_zero]at hput
 obtain⟨fr1,p1,F1⟩:∃fr1,ex cx D 0 93 35 (.seq (.region 0 g93_0 false) (.seq (.region 1 g93_1 false) (.region 2 g93_2 false))) (((PT.nil.set 0 (drp (.agg (ftC cv ov pv qv)))).set 1 (drp (.agg (stC lv dp R)))).set 2 (drp (iv t))) []=some (.normal,fr1,[fctB cv ov pv qv,staB (lv+t) dp R,staB 0 0 zR])∧FuF fr1 t 0:=by
  obtain⟨fr0,p0,k2,k3,k4,k6⟩:∃fr0,ex cx D 0 93 35 (.region 0 g93_0 false) (((PT.nil.set 0 (drp (.agg (ftC cv ov pv qv)))).set 1 (drp (.agg (stC lv dp R)))).set 2 (drp (iv t))) []=some (.normal,fr0,[fctB cv ov pv qv,staB lv dp R,staB 0 0 zR])∧fr0.get 2=iv t∧fr0.get 3=.ptr 0 0 0∧fr0.get 4=.ptr 1 0 0∧fr0.get 6=.ptr 2 0 0:=by
   simp -implicitDefEqProofs (maxDischargeDepth:=4) only[go_sem,h.c.shr,h1.shr,h2.shr,h3.shr,hlen,hsh,ze122,Nat.zero_le,Nat.le_refl,Nat.not_lt_zero]
   exact⟨_,rfl,by simp only[go_sem],by simp only[go_sem],by simp only[go_sem],by simp only[go_sem]⟩
  obtain⟨fr1,p1,m2,m3,m4,m6⟩:∃fr1,ex cx D 0 93 35 (.region 1 g93_1 false) fr0 [fctB cv ov pv qv,staB lv dp R,staB 0 0 zR]=some (.normal,fr1,[fctB cv ov pv qv,staB (lv+t) dp R,staB 0 0 zR])∧fr1.get 2=iv t∧fr1.get 3=.ptr 0 0 0∧fr1.get 4=.ptr 1 0 0∧fr1.get 6=.ptr 2 0 0:=by
   obtain⟨G1,hG1⟩:∃G1,[fctB cv ov pv qv,staB (lv+t) dp R,staB 0 0 zR]=G1:=⟨_,rfl⟩
   rw[hG1]at hput ⊢
   simp -implicitDefEqProofs (maxDischargeDepth:=4) only[go_sem,k2,k3,k4,k6,h0,wl,hput]
   exact⟨_,rfl,by simp only[go_sem,k2],by simp only[go_sem,k3],by simp only[go_sem,k4],by simp only[go_sem,k6]⟩
  obtain⟨fr2,p2,F2⟩:∃fr2,ex cx D 0 93 35 (.region 2 g93_2 false) fr1 [fctB cv ov pv qv,staB (lv+t) dp R,staB 0 0 zR]=some (.normal,fr2,[fctB cv ov pv qv,staB (lv+t) dp R,staB 0 0 zR])∧FuF fr2 t 0:=by
   simp -implicitDefEqProofs (maxDischargeDepth:=4) only[go_sem]
   exact⟨_,rfl,by simp only[go_sem,m2],by simp only[go_sem,m3],by simp only[go_sem,m4],by simp only[go_sem,m6],by simp only[go_sem];rfl⟩
  exact⟨fr2,by rw[x_cont1 p0,x_cont1 p1,p2],F2⟩
 obtain⟨fr2,p2,F2⟩:=fu_loop (lv:=lv+t) (dp:=dp) h ht (Z:=staB 0 0 zR) 16 0 fr1 R rfl (Nat.zero_le _) hl (fun j r _ hr=>hb r (List.mem_of_getElem? hr)) F1
 rw[List.take_zero,List.nil_append,List.drop_zero]at p2
 obtain⟨_,_,q0,s⟩:=x_split p1
 obtain⟨_,_,q1,q2⟩:=x_split s
 have eb:ex cx D 0 93 35 (.block 0 (.loop l93_0)) fr1 [fctB cv ov pv qv,staB (lv+t) dp R,staB 0 0 zR]=some (.normal,fr2,[fctB cv ov pv qv,staB (lv+t) dp (R.map (fz cls t)),staB 0 0 zR]):=by rw[x_block,x_loop,p2];rfl
 have hl2:(R.map (fz cls t)).length=16:=by rw[List.length_map,hl]
 have hlen2:=stC_len (lv:=lv+t) (dp:=dp) hl2
 have hsh2:=stC_shr (lv+t) dp (R.map (fz cls t))
 have hta2:(stC (lv+t) dp (R.map (fz cls t))).take 50=stC (lv+t) dp (R.map (fz cls t)):=List.take_of_length_le (by omega)
 have hz:(stC 0 0 zR).length=50:=stC_len rfl
 have run:∃H',callB cx D 0 93 [.agg (ftC cv ov pv qv),.agg (stC lv dp R),iv t] []=some (.agg (stC (lv+t) dp (R.map (fz cls t))),H'):=by
  rw[c93,x_cont1 q0,x_cont1 q1,x_assoc,x_cont1 q2,x_cont1 eb]
  unfold staB
  generalize stC (lv+t) dp (R.map (fz cls t))=S at *
  generalize stC 0 0 zR=Z at *
  simp -implicitDefEqProofs (maxDischargeDepth:=4) only[go_sem,F2.f4,F2.f6,hlen2,hsh2,hta2,hz]
  exact⟨_,rfl⟩
 obtain⟨H',run⟩:=run
 have hc:[AV.agg (ftC cv ov pv qv),.agg (stC lv dp R),iv t].map cl2=[.agg (ftC cv ov pv qv),.agg (stC lv dp R),iv t]:=by
  show [AV.agg ((ftC cv ov pv qv).map Abs.cl0),.agg ((stC lv dp R).map Abs.cl0),iv t]=_
  rw[h.cl,stC_cl0]
 rw[pcall_eq (v:=.agg (stC (lv+t) dp (R.map (fz cls t)))) (H':=H') (by rw[hc];exact run)]
 show some (AV.agg ((stC (lv+t) dp (R.map (fz cls t))).map (frz0 0 H')))=_
 have:∀R:List Slo,(rgC R).map (frz0 0 H')=rgC R:=fun R=>by
  induction R with
  | nil=>rfl
  | cons r R ih =>
   show iv r.1::iv r.2.1::iv r.2.2::(rgC R).map (frz0 0 H')=_
   rw[ih];rfl
 show some (AV.agg (iv (lv+t)::iv dp::(rgC (R.map (fz cls t))).map (frz0 0 H')))=_
 rw[this]
 rfl
end
open Go.Gr
theorem T120_eq:cx.T 120=some Tab.T120:=nk
theorem T119_eq:cx.T 119=some Tab.T119:=nk
theorem aidx120{R:List Slo}(hl:R.length=16){i:Nat}(hi:i<16){r:Slo}(hr:R[i]?=some r):aindex cx.T 120 (.agg (rgC R)) (iv i)=some (.agg (slC r)):=by
 have hn:natOf (iv i)=some i:=by simp[natOf]
 unfold aindex
 rw[hn,T120_eq]
 simp only[Tab.T120,T119_eq,Tab.T119]
 rw[if_pos hi]
 have h1:=rgC_at hr
 have h2:=rgC_len R
 unfold Abs.apart
 simp only[h1]
 simp[h2,hl,slC]
 omega
structure BRnd(cls:List Cl)(R:List Slo)(fB:ABlock)(m l fb:Nat)(J:Nat→Hp→Prop):Prop where
 grow:∀ {i G L},J i G→J i (G++L)
 trim:∀ {i G},J i G→m≤G.length→J i ((G.take m).map (killB m))
 box:∀ {i G},J i G→G[fb]?=some fB
 skip:∀ {i G r},J i G→R[i]?=some r→bz cls r=false→J (i+1) G
 yes:∀ {i G r},J i G→m≤G.length→R[i]?=some r→bz cls r=true→∃G',round D 0 l [iv i] G=some (bv true,G')∧J (i+1) G'∧m≤G'.length
structure BzF(fr:PT)(l fb:Nat)(R:List Slo)(i:Nat):Prop where
 f0:fr.get 0=.yld l
 f2:fr.get 2=.ptr fb 0 0
 f9:fr.get 9=.agg (rgC R)
 f10:fr.get 10=iv i
theorem BzF.of{fr fr':PT}{l fb:Nat}{R:List Slo}{i:Nat}(F:BzF fr l fb R i)(h:∀t,(t=0∨t=2∨t=9∨t=10)→fr'.get t=fr.get t):BzF fr' l fb R i :=
 ⟨by rw[h 0 (by simp),F.f0],by rw[h 2 (by simp),F.f2],by rw[h 9 (by simp),F.f9],by rw[h 10 (by simp),F.f10]⟩
theorem rgC_kill(m:Nat)(R:List Slo):kill m (.agg (rgC R))=.agg (rgC R):=by
 have:∀R:List Slo,(rgC R).map (kill0 m)=rgC R:=fun R=>by
  induction R with
  | nil=>rfl
  | cons r R ih =>
   show iv r.1::iv r.2.1::iv r.2.2::(rgC R).map (kill0 m)=_
   rw[ih];rfl
 show AV.agg ((rgC R).map (kill0 m))=_
 rw[this]
section
variable {cv ov pv qv:AV} {cls:List Cl} {R:List Slo} {m l fb:Nat} {J:Nat→Hp→Prop}
theorem bz_one(h:FtOk cv ov pv qv cls)(hR:BRnd cls R (fctB cv ov pv qv) m l fb J)(hl:R.length=16){i:Nat}(hi:i<16){fr:PT}{G:Hp}(hm:G.length=m)(hJ:J i G)(F:BzF fr l fb R i):
  ∃fr' G',ex cx D 0 163 24 (.seq (.region 2 g163_2 false) (.seq (.region 3 g163_3 false) (.cond (.tmp 22) .ret .skip))) fr G=some (.normal,fr',G')∧BzF fr' l fb R i∧J (i+1) G'∧m≤G'.length:=by
 obtain⟨_,h1⟩:=h.o
 obtain⟨_,h2⟩:=h.p
 obtain⟨_,h3⟩:=h.q
 obtain⟨r,hr⟩:∃r,R[i]?=some r:=⟨_,List.getElem?_eq_getElem (by omega)⟩
 have a1:=aidx120 hl hi hr
 have hsh:=rgC_shr R
 have hbz:=busy_ok h r
 obtain⟨fr1,p1,F1,k4,k5⟩:∃fr1,ex cx D 0 163 24 (.region 2 g163_2 false) fr G=some (.normal,fr1,G++[.cells 3 119 [.agg (slC r)]])∧BzF fr1 l fb R i∧fr1.get 4=iv i∧fr1.get 5=.ptr m 0 0:=by
  unfold slC at a1 ⊢
  simp -implicitDefEqProofs (maxDischargeDepth:=4) only[go_sem,F.f9,F.f10,hm,hsh,a1,Nat.zero_le,Nat.not_lt_zero]
  exact⟨_,rfl,F.of fun t ht=>by rcases ht with rfl | rfl | rfl | rfl<;>simp only[go_sem],by simp only[go_sem],by simp only[go_sem]⟩
 have hJ2:=hR.grow (L:=[.cells 3 119 [.agg (slC r)]]) hJ
 have hbx:=hR.box hJ2
 have hslot:(G++[ABlock.cells 3 119 [.agg (slC r)]])[m]?=some (.cells 3 119 [.agg (slC r)]):=by rw[hp_get_r0 hm];rfl
 have hm2:m≤(G++[ABlock.cells 3 119 [.agg (slC r)]]).length:=by rw[List.length_append,hm];exact Nat.le_add_right _ _
 generalize G++[ABlock.cells 3 119 [.agg (slC r)]]=G2 at *
 cases hz:bz cls r with
 | false =>
  rw[hz]at hbz
  obtain⟨fr2,p2,F2⟩:∃fr2,ex cx D 0 163 24 (.seq (.region 3 g163_3 false) (.cond (.tmp 22) .ret .skip)) fr1 G2=some (.normal,fr2,G2)∧BzF fr2 l fb R i:=by
   unfold slC at hbz hslot
   simp -implicitDefEqProofs (maxDischargeDepth:=4) only[go_sem,F1.f0,F1.f2,k4,k5,hbx,hslot,h.c.shr,h1.shr,h2.shr,h3.shr,h.c.shut0,h1.shut0,h2.shut0,h3.shut0,hbz]
   exact⟨_,rfl,F1.of fun t ht=>by rcases ht with rfl | rfl | rfl | rfl<;>simp only[go_sem]⟩
  exact⟨fr2,G2,by rw[x_cont1 p1,p2],F2,hR.skip hJ2 hr hz,hm2⟩
 | true =>
  rw[hz]at hbz
  obtain⟨G3,hq,hJ3,hm3⟩:=hR.yes hJ2 hm2 hr hz
  obtain⟨fr2,p2,F2⟩:∃fr2,ex cx D 0 163 24 (.seq (.region 3 g163_3 false) (.cond (.tmp 22) .ret .skip)) fr1 G2=some (.normal,fr2,G3)∧BzF fr2 l fb R i:=by
   unfold slC at hbz hslot
   simp -implicitDefEqProofs (maxDischargeDepth:=4) only[go_sem,F1.f0,F1.f2,k4,k5,hbx,hslot,h.c.shr,h1.shr,h2.shr,h3.shr,h.c.shut0,h1.shut0,h2.shut0,h3.shut0,hbz,hq,u_not]
   exact⟨_,rfl,F1.of fun t ht=>by rcases ht with rfl | rfl | rfl | rfl<;>simp only[go_sem]⟩
  exact⟨fr2,G3,by rw[x_cont1 p1,p2],F2,hJ3,hm3⟩
theorem bz_loop(h:FtOk cv ov pv qv cls)(hR:BRnd cls R (fctB cv ov pv qv) m l fb J)(hl:R.length=16)(hlm:l<m)(hfm:fb<m):∀(d i:Nat)(fr:PT)(G:Hp),16-i=d→i≤16→G.length=m→J i G→BzF fr l fb R i→
  ∃fr' G',D.loop 0 163 24 l163_0 fr G=some (.exit 0,fr',G')∧J 16 G'
 | 0,i,fr,G,hd,hi,hm,hJ,F=>by
  have hlt:¬((i:Int)<16):=by omega
  have e:i=16:=by omega
  subst e
  obtain⟨fr1,p1⟩:∃fr1,D.loop 0 163 24 l163_0 fr G=some (.exit 0,fr1,G):=by
   rw[dl163_0]
   simp -implicitDefEqProofs (maxDischargeDepth:=4) only[go_sem,F.f10,hlt]
   exact⟨_,rfl⟩
  exact⟨fr1,G,p1,hJ⟩
 | d+1,i,fr,G,hd,hi,hm,hJ,F=>by
  have hlt:(i:Int)<16:=by omega
  have w3:=wrap_succ (show i≤1000 by omega)
  obtain⟨fr1,p1,F1⟩:∃fr1,ex cx D 0 163 24 (.seq (.region 1 g163_1 false) (.cond (.tmp 11) .skip (.exit 0))) fr G=some (.normal,fr1,G)∧BzF fr1 l fb R i:=by
   simp -implicitDefEqProofs (maxDischargeDepth:=4) only[go_sem,F.f10,hlt]
   exact⟨_,rfl,F.of fun t ht=>by rcases ht with rfl | rfl | rfl | rfl<;>simp only[go_sem]⟩
  obtain⟨fr2,G2,p2,F2,J2,hm2⟩:=bz_one h hR hl (show i<16 by omega) hm hJ F1
  obtain⟨fr3,p3,F3⟩:∃fr3,ex cx D 0 163 24 (.region 4 g163_4 false) fr2 G2=some (.normal,fr3,G2)∧BzF fr3 l fb R (i+1):=by
   simp -implicitDefEqProofs (maxDischargeDepth:=4) only[go_sem,F2.f10,w3]
   exact⟨_,rfl,by simp only[go_sem,F2.f0],by simp only[go_sem,F2.f2],by simp only[go_sem,F2.f9],by simp only[go_sem]⟩
  have eb:ex cx D 0 163 24 (.block 1 (.seq (.region 2 g163_2 false) (.seq (.region 3 g163_3 false) (.cond (.tmp 22) .ret .skip)))) fr1 G=some (.normal,fr2,G2):=by rw[x_block,p2];rfl
  obtain⟨_,_,q1,q2⟩:=x_split p1
  rw[dl163_0,x_cont1 q1,x_cont1 q2,x_cont1 eb,p3,xbind_some,contR_normal,hm]
  refine trim_I (P:=fun z=>∃fr' G',z=some (.exit 0,fr',G')∧J 16 G') (I:=J (i+1)) hR.trim J2 [0,2,9,10] hm2 (fun t ht=>?_) fun fr' G' hG' hJ' hf hk'=>?_
  ·simp only[List.mem_cons,List.not_mem_nil,or_false]at ht
   rcases ht with rfl | rfl | rfl | rfl
   ·rw[F3.f0,kill_yld hlm]
   ·rw[F3.f2,kill_ptr hfm]
   ·rw[F3.f9,rgC_kill]
   ·rw[F3.f10];rfl
  ·exact bz_loop h hR hl hlm hfm d (i+1) fr' G' (nd1 hd) (nd2 hd) hG' hJ' ⟨by rw[hf 0 (by simp),F3.f0],by rw[hf 2 (by simp),F3.f2],by rw[hf 9 (by simp),F3.f9],by rw[hf 10 (by simp),F3.f10]⟩
theorem bz_call(h:FtOk cv ov pv qv cls)(hR:BRnd cls R (fctB cv ov pv qv) m l fb J)(hl:R.length=16)(hlm:l<m)(hfm:fb<m){G:Hp}(hm:G.length=m)(hJ:J 0 G){pb sb:Nat}{lv dp:Int}(hp:G[pb]?=some (.cells 1 232 [.ptr sb 0 0]))(hs:G[sb]?=some (staB lv dp R)):
  ∃G',callB cx D 0 163 [.yld l,.ptr pb 0 0,.ptr fb 0 0] G=some (.tup [],G')∧J 16 G':=by
 have hlen:=stC_len (lv:=lv) (dp:=dp) hl
 have hd:((stC lv dp R).drop 2).take 48=rgC R:=by
  show (rgC R).take 48=_
  exact List.take_of_length_le (by rw[rgC_len,hl];decide)
 have hsh:=rgC_shr R
 obtain⟨fr1,p1,F1⟩:∃fr1,ex cx D 0 163 24 (.region 0 g163_0 false) (((PT.nil.set 0 (drp (.yld l))).set 1 (drp (.ptr pb 0 0))).set 2 (drp (.ptr fb 0 0))) G=some (.normal,fr1,G)∧BzF fr1 l fb R 0:=by
  unfold staB at hs
  generalize stC lv dp R=S at *
  simp -implicitDefEqProofs (maxDischargeDepth:=4) only[go_sem,hp,hs,hlen,hd,hsh]
  exact⟨_,rfl,by simp only[go_sem],by simp only[go_sem],by simp only[go_sem],by simp only[go_sem];rfl⟩
 obtain⟨fr2,G2,p2,J2⟩:=bz_loop h hR hl hlm hfm 16 0 fr1 G rfl (Nat.zero_le _) hm hJ F1
 refine⟨G2,?_,J2⟩
 rw[c163,x_cont1 p1,x_block,x_loop,p2]
 rfl
end
open Go.Gr
theorem min_iv(a b:Int):aminmax false [iv a,iv b]=some (iv (min a b)):=by
 simp only[aminmax,aminmax.go,Bool.false_eq_true,if_false]
 by_cases h:b<a
 ·rw[if_pos h,Int.min_eq_right (by omega)]
 ·rw[if_neg h,Int.min_eq_left (by omega)]
theorem max_iv(a b:Int):aminmax true [iv a,iv b]=some (iv (max a b)):=by
 simp only[aminmax,aminmax.go,if_true]
 by_cases h:a<b
 ·rw[if_pos h,Int.max_eq_right (by omega)]
 ·rw[if_neg h,Int.max_eq_left (by omega)]
def mn1:Option Int→Int→Int
 | none,p=>p
 | some m,p=>min m p
def ls1(cls:List Cl)(o:Option Int)(r:Slo):Option Int:=if bz cls r=true then some (mn1 o r.2.2) else o
def lst(cls:List Cl)(R:List Slo):Option Int:=R.foldl (ls1 cls) none
theorem lst_take(cls:List Cl){R:List Slo}{i:Nat}{r:Slo}(h:R[i]?=some r):lst cls (R.take (i+1))=ls1 cls (lst cls (R.take i)) r:=by
 unfold lst
 rw[List.take_add_one,h,Option.toList_some,List.foldl_append]
 rfl
theorem stC_kill(m:Nat)(lv dp:Int)(R:List Slo):kill m (.agg (stC lv dp R))=.agg (stC lv dp R):=by
 have:∀R:List Slo,(rgC R).map (kill0 m)=rgC R:=fun R=>by
  induction R with
  | nil=>rfl
  | cons r R ih =>
   show iv r.1::iv r.2.1::iv r.2.2::(rgC R).map (kill0 m)=_
   rw[ih];rfl
 show AV.agg (iv lv::iv dp::(rgC R).map (kill0 m))=_
 rw[this];rfl
theorem staB_kill(m:Nat)(lv dp:Int)(R:List Slo):killB m (staB lv dp R)=staB lv dp R:=by
 show ABlock.cells 50 122 [kill m (.agg (stC lv dp R))]=_
 rw[stC_kill]
section
variable {cv ov pv qv:AV} {cls:List Cl} {lv dp t:Int}
theorem FtOk.kl(h:FtOk cv ov pv qv cls)(m:Nat):killB m (fctB cv ov pv qv)=fctB cv ov pv qv:=by
 obtain⟨_,h1⟩:=h.o
 obtain⟨_,h2⟩:=h.p
 obtain⟨_,h3⟩:=h.q
 have e:∀ {sz:Nat} {a:AV} {els:List AV},Sl sz a els→kill0 m a=a:=fun s=>by
  rcases s with rfl | rfl | ⟨rfl,_⟩<;>rfl
 show ABlock.cells 4 126 [.agg [kill0 m cv,kill0 m ov,kill0 m pv,kill0 m qv]]=_
 rw[e h.c,e h1,e h2,e h3]
noncomputable def lp90(rfr:PT):ALoop:={ fn:=90,nt:=24,fr:=rfr,params:=[10],assign:=q90_0,body:=r90_0,state:=.ready,pending:=none }
structure J90(cls:List Cl)(fB:ABlock)(lv dp:Int)(R:List Slo)(i:Nat)(G:Hp):Prop where
 b1:G[1]?=some (staB lv dp R)
 b2:G[2]?=some (c3 ((lst cls (R.take i)).getD 0))
 b3:G[3]?=some (c4 (lst cls (R.take i)).isSome)
 b4:G[4]?=some fB
 lp:∃rfr,G[6]?=some (.loop (lp90 rfr))∧rfr.get 3=.ptr 1 0 0∧rfr.get 4=.ptr 2 0 0∧rfr.get 5=.ptr 3 0 0
theorem rnd90(h:FtOk cv ov pv qv cls){R:List Slo}(hl:R.length=16):BRnd cls R (fctB cv ov pv qv) 7 6 4 (J90 cls (fctB cv ov pv qv) lv dp R):=by
 refine⟨?_,?_,?_,?_,?_⟩
 ·rintro i G L ⟨h1,h2,h3,h4,rfr,h5,h6⟩
  exact⟨by rw[hp_get_l (lt_of_get h1),h1],by rw[hp_get_l (lt_of_get h2),h2],by rw[hp_get_l (lt_of_get h3),h3],by rw[hp_get_l (lt_of_get h4),h4],rfr,by rw[hp_get_l (lt_of_get h5),h5],h6⟩
 ·rintro i G ⟨h1,h2,h3,h4,rfr,h5,h6,h7,h8⟩ hG
  refine⟨?_,?_,?_,?_,rfr.map (kill 7),?_,?_,?_,?_⟩
  ·rw[List.getElem?_map,List.getElem?_take_of_lt (by decide),h1,Option.map_some,staB_kill]
  ·rw[List.getElem?_map,List.getElem?_take_of_lt (by decide),h2];rfl
  ·rw[List.getElem?_map,List.getElem?_take_of_lt (by decide),h3];rfl
  ·rw[List.getElem?_map,List.getElem?_take_of_lt (by decide),h4,Option.map_some,h.kl]
  ·rw[List.getElem?_map,List.getElem?_take_of_lt (by decide),h5];rfl
  ·rw[get_mapkill,h6,kill_ptr (by decide)]
  ·rw[get_mapkill,h7,kill_ptr (by decide)]
  ·rw[get_mapkill,h8,kill_ptr (by decide)]
 ·rintro i G ⟨_,_,_,h4,_⟩
  exact h4
 ·rintro i G r ⟨h1,h2,h3,h4,hp⟩ hr hz
  have e:=lst_take cls hr
  unfold ls1 at e
  rw[if_neg (by rw[hz];decide)]at e
  exact⟨h1,by rw[e];exact h2,by rw[e];exact h3,h4,hp⟩
 ·rintro i G r ⟨h1,h2,h3,h4,rfr,h5,h6,h7,h8⟩ hm hr hz
  have hi:=(List.getElem?_eq_some_iff.1 hr).1
  have e:=lst_take cls hr
  unfold ls1 at e
  rw[if_pos hz]at e
  obtain⟨o,ho⟩:∃o,lst cls (R.take i)=o:=⟨_,rfl⟩
  rw[ho]at e h2 h3
  obtain⟨fr1,e1,f6,f3,f4,f5⟩:∃fr1,ex cx D 0 90 24 q90_0 (setArgs [(10,iv i)] rfr) G=some (.normal,fr1,G)∧fr1.get 6=iv i∧fr1.get 3=.ptr 1 0 0∧fr1.get 4=.ptr 2 0 0∧fr1.get 5=.ptr 3 0 0:=by
   unfold q90_0
   simp -implicitDefEqProofs (maxDischargeDepth:=4) only[go_sem]
   exact⟨_,rfl,by simp only[go_sem],by simp only[go_sem,h6],by simp only[go_sem,h7],by simp only[go_sem,h8]⟩
  obtain⟨G1,hG1⟩:∃G1,G.set 6 (.loop { lp90 rfr with state:=.busy })=G1:=⟨_,rfl⟩
  have hl1:G1.length=G.length:=by rw[←hG1,List.length_set]
  have g1:G1[1]?=some (staB lv dp R):=by rw[←hG1,hp_ne (by decide),h1]
  have g2:G1[2]?=some (c3 (o.getD 0)):=by rw[←hG1,hp_ne (by decide),h2]
  have g3:G1[3]?=some (c4 o.isSome):=by rw[←hG1,hp_ne (by decide),h3]
  have g4:G1[4]?=some (fctB cv ov pv qv):=by rw[←hG1,hp_ne (by decide),h4]
  have g6:G1[6]?=some (.loop { lp90 rfr with state:=.busy }):=by rw[←hG1,hp_one (by omega)]
  rw[round_eq h5 (Nat.zero_le _) rfl rfl rfl,show setArgs ((lp90 rfr).params.zip [iv i]) (lp90 rfr).fr=setArgs [(10,iv i)] rfr from rfl,
   show ex cx (den cx) 0 (lp90 rfr).fn (lp90 rfr).nt (lp90 rfr).assign=ex cx D 0 90 24 q90_0 from rfl,e1,bodyRound_eq h5 rfl,show ex cx (den cx) 0 (lp90 rfr).fn (lp90 rfr).nt (lp90 rfr).body=ex cx D 0 90 24 r90_0 from rfl,hG1]
  have a1:=at120 (b:=1) (show i<16 by omega)
  have hpr:=stC_prio (lv:=lv) (dp:=dp) hr
  have hm1:∀x y:Int,aminmax false [iv x,iv y]=some (iv (min x y)):=min_iv
  obtain⟨G2,k1,k2,k3,k4,k6,k7,fr2,e2⟩:∃G2,G2[1]?=some (staB lv dp R)∧G2[2]?=some (c3 (mn1 o r.2.2))∧G2[3]?=some (c4 true)∧G2[4]?=some (fctB cv ov pv qv)∧G2[6]?=some (.loop { lp90 rfr with state:=.busy })∧G2.length=G1.length∧∃fr2,ex cx D 0 90 24 r90_0 fr1 G1=some (.normal,fr2,G2):=by
   unfold r90_0
   cases o with
   | none =>
    have n1:(G1.set 2 (c3 r.2.2))[3]?=some (c4 false):=by rw[hp_ne (by decide),g3];rfl
    have n2:((G1.set 2 (c3 r.2.2)).set 3 (c4 true))[2]?=some (c3 r.2.2):=by rw[hp_ne (by decide),hp_one (by omega)]
    refine⟨((G1.set 2 (c3 r.2.2)).set 3 (c4 true)).set 2 (c3 r.2.2),?_,?_,?_,?_,?_,?_,?_⟩
    ·rw[hp_ne (by decide),hp_ne (by decide),hp_ne (by decide),g1]
    ·rw[hp_one (by rw[List.length_set,List.length_set];omega)];rfl
    ·rw[hp_ne (by decide),hp_one (by rw[List.length_set];omega)]
    ·rw[hp_ne (by decide),hp_ne (by decide),hp_ne (by decide),g4]
    ·rw[hp_ne (by decide),hp_ne (by decide),hp_ne (by decide),g6]
    ·rw[List.length_set,List.length_set,List.length_set]
    unfold staB at g1
    generalize stC lv dp R=S at *
    simp -implicitDefEqProofs (maxDischargeDepth:=4) only[go_sem,f6,f3,f4,f5,g1,g2,g3,a1,hpr,n1,n2,hm1,u_not,Option.isSome_none,Bool.not_false,Int.min_self,Nat.not_lt_zero]
    exact⟨_,rfl⟩
   | some m =>
    refine⟨G1.set 2 (c3 (min m r.2.2)),?_,?_,?_,?_,?_,?_,?_⟩
    ·rw[hp_ne (by decide),g1]
    ·rw[hp_one (by omega)];rfl
    ·rw[hp_ne (by decide),g3];rfl
    ·rw[hp_ne (by decide),g4]
    ·rw[hp_ne (by decide),g6]
    ·rw[List.length_set]
    unfold staB at g1
    generalize stC lv dp R=S at *
    simp -implicitDefEqProofs (maxDischargeDepth:=4) only[go_sem,f6,f3,f4,f5,g1,g2,g3,a1,hpr,hm1,u_not,Option.isSome_some,Bool.not_true,Option.getD_some,Nat.not_lt_zero]
    exact⟨_,rfl⟩
  rw[e2,endRound_normal k6]
  refine⟨_,rfl,⟨?_,?_,?_,?_,rfr,?_,h6,h7,h8⟩,by rw[List.length_set];omega⟩
  ·rw[hp_ne (by decide),k1]
  ·rw[hp_ne (by decide),k2,e];rfl
  ·rw[hp_ne (by decide),k3,e];rfl
  ·rw[hp_ne (by decide),k4]
  ·rw[hp_one (by omega)];rfl
theorem busy_mk{ro:Nat}{H:Hp}{n pb:Nat}(hn:H.length=n)(h:FtOk cv ov pv qv cls)(hro:ro≤n):callB cx D ro 141 [.agg (ftC cv ov pv qv),.ptr pb 0 0] H=some (.fn 163 [.ptr (n+1) 0 0,.ptr n 0 0],H++[fctB cv ov pv qv,.cells 1 232 [.ptr pb 0 0]]):=by
 obtain⟨_,h1⟩:=h.o
 obtain⟨_,h2⟩:=h.p
 obtain⟨_,h3⟩:=h.q
 have c1:∀j,ro≤n+j:=fun j=>by omega
 have c2:∀j,¬n+j<ro:=fun j=>by omega
 rw[c141]
 simp -implicitDefEqProofs (maxDischargeDepth:=4) only[go_sem,hn,hro,c1,c2,h.c.shr,h1.shr,h2.shr,h3.shr]
end
open Go.Gr
section
variable {cv ov pv qv:AV} {cls:List Cl} {lv dp t:Int}
theorem FtOk.cl22(h:FtOk cv ov pv qv cls)(lv dp:Int)(R:List Slo):[AV.agg (ftC cv ov pv qv),.agg (stC lv dp R)].map cl2=[.agg (ftC cv ov pv qv),.agg (stC lv dp R)]:=by
 show [AV.agg ((ftC cv ov pv qv).map Abs.cl0),.agg ((stC lv dp R).map Abs.cl0)]=_
 rw[h.cl,stC_cl0]
theorem least_call(h:FtOk cv ov pv qv cls){R:List Slo}(hl:R.length=16):∃H',callB cx D 0 90 [.agg (ftC cv ov pv qv),.agg (stC lv dp R)] []=some (.tup [iv ((lst cls R).getD 0),bv (lst cls R).isSome],H'):=by
 obtain⟨_,h1⟩:=h.o
 obtain⟨_,h2⟩:=h.p
 obtain⟨_,h3⟩:=h.q
 have hlen:=stC_len (lv:=lv) (dp:=dp) hl
 have hsh:=stC_shr lv dp R
 obtain⟨S,hS⟩:∃S,stC lv dp R=S:=⟨_,rfl⟩
 obtain⟨fr1,e1,f2,f3,f4,f5⟩:∃fr1,ex cx D 0 90 24 (.region 0 g90_0 false) ((PT.nil.set 0 (drp (.agg (ftC cv ov pv qv)))).set 1 (drp (.agg (stC lv dp R)))) []=some (.normal,fr1,[fctB cv ov pv qv,staB lv dp R,c3 0,c4 false])∧fr1.get 2=.ptr 0 0 0∧fr1.get 3=.ptr 1 0 0∧fr1.get 4=.ptr 2 0 0∧fr1.get 5=.ptr 3 0 0:=by
  unfold staB
  rw[hS]at hlen hsh ⊢
  simp -implicitDefEqProofs (maxDischargeDepth:=4) only[go_sem,h.c.shr,h1.shr,h2.shr,h3.shr,hlen,hsh,Nat.zero_le,Nat.le_refl,Nat.not_lt_zero]
  exact⟨_,rfl,by simp only[go_sem],by simp only[go_sem],by simp only[go_sem],by simp only[go_sem]⟩
 have hmk:=busy_mk (ro:=0) (H:=[fctB cv ov pv qv,staB lv dp R,c3 0,c4 false]) (n:=4) (pb:=1) rfl h (Nat.zero_le _)
 obtain⟨fr2,e2,k3,k4,k5,k9⟩:∃fr2,ex cx D 0 90 24 (.region 1 g90_1 false) fr1 [fctB cv ov pv qv,staB lv dp R,c3 0,c4 false]=some (.normal,fr2,[fctB cv ov pv qv,staB lv dp R,c3 0,c4 false,fctB cv ov pv qv,.cells 1 232 [.ptr 1 0 0]])∧fr2.get 3=.ptr 1 0 0∧fr2.get 4=.ptr 2 0 0∧fr2.get 5=.ptr 3 0 0∧fr2.get 9=.fn 163 [.ptr 5 0 0,.ptr 4 0 0]:=by
  unfold staB at hmk ⊢
  rw[hS]at hmk ⊢
  rw[List.cons_append,List.cons_append,List.cons_append,List.cons_append,List.nil_append]at hmk
  simp -implicitDefEqProofs (maxDischargeDepth:=4) only[go_sem,f2,f3,h.c.shr,h1.shr,h2.shr,h3.shr,h.c.shut0,h1.shut0,h2.shut0,h3.shut0,hmk]
  exact⟨_,rfl,by simp only[go_sem,f3],by simp only[go_sem,f4],by simp only[go_sem,f5],by simp only[go_sem]⟩
 obtain⟨G',q1,j1,j2,j3,j4,rfr,j6,_⟩:=bz_call h (rnd90 (lv:=lv) (dp:=dp) h hl) hl (by decide) (by decide) (G:=[fctB cv ov pv qv,staB lv dp R,c3 0,c4 false,fctB cv ov pv qv,.cells 1 232 [.ptr 1 0 0],.loop (lp90 (fr2.map drp))]) rfl
  ⟨rfl,rfl,rfl,rfl,fr2.map drp,rfl,by rw[get_mapdrp,k3];rfl,by rw[get_mapdrp,k4];rfl,by rw[get_mapdrp,k5];rfl⟩ (pb:=5) (sb:=1) (lv:=lv) (dp:=dp) rfl rfl
 have q1':D.call 0 163 [.yld 6,.ptr 5 0 0,.ptr 4 0 0] [fctB cv ov pv qv,staB lv dp R,c3 0,c4 false,fctB cv ov pv qv,.cells 1 232 [.ptr 1 0 0],.loop (lp90 (fr2.map drp))]=some (.tup [],G'):=by rw[den_call_eq];exact q1
 have q3:ex cx D 0 90 24 (.rangeFunc (.tmp 9) #[10] q90_0 r90_0) fr2 [fctB cv ov pv qv,staB lv dp R,c3 0,c4 false,fctB cv ov pv qv,.cells 1 232 [.ptr 1 0 0]]=endLoop 6 fr2 (some (.tup [],G')):=by
  rw[x_range,ev_tmp,k9,shr_fn,ranged_fn,←q1'];rfl
 rw[endLoop_eq j6 (show LS.ready≠LS.busy by decide)]at q3
 have eb:ex cx D 0 90 24 (.block 0 (.rangeFunc (.tmp 9) #[10] q90_0 r90_0)) fr2 [fctB cv ov pv qv,staB lv dp R,c3 0,c4 false,fctB cv ov pv qv,.cells 1 232 [.ptr 1 0 0]]=some (.normal,fr2,G'.set 6 (.loop { lp90 rfr with state:=.exhausted })):=by
  rw[x_block,q3];rfl
 rw[List.take_of_length_le (by omega)]at j2 j3
 have m2:(G'.set 6 (.loop { lp90 rfr with state:=.exhausted }))[2]?=some (c3 ((lst cls R).getD 0)):=by rw[hp_ne (by decide),j2]
 have m3:(G'.set 6 (.loop { lp90 rfr with state:=.exhausted }))[3]?=some (c4 (lst cls R).isSome):=by rw[hp_ne (by decide),j3]
 rw[c90,x_cont1 e1,x_assoc,x_cont1 e2,x_cont1 eb]
 generalize G'.set 6 (.loop { lp90 rfr with state:=.exhausted })=G2 at m2 m3
 generalize (lst cls R).getD 0=v at *
 generalize (lst cls R).isSome=w at *
 have n1:(G2.set 2 (c3 v))[3]?=some (c4 w):=by rw[hp_ne (by decide),m3]
 have hl2:=lt_of_get m2
 have hl3:=lt_of_get m3
 have n2:((G2.set 2 (c3 v)).set 3 (c4 w))[2]?=some (c3 v):=by rw[hp_ne (by decide),hp_one hl2]
 have n3:((G2.set 2 (c3 v)).set 3 (c4 w))[3]?=some (c4 w):=by rw[hp_one (by rw[List.length_set];exact hl3)]
 simp -implicitDefEqProofs (maxDischargeDepth:=4) only[go_sem,k4,k5,m2,m3,n1,n2,n3,nbeq,Nat.not_lt_zero]
 exact⟨_,rfl⟩
theorem least_ok(h:FtOk cv ov pv qv cls){R:List Slo}(hl:R.length=16):pcall D 90 [.agg (ftC cv ov pv qv),.agg (stC lv dp R)]=some (.tup [iv ((lst cls R).getD 0),bv (lst cls R).isSome]):=by
 obtain⟨H',e⟩:=least_call (lv:=lv) (dp:=dp) h hl
 rw[pcall_eq (H':=H') (by rw[h.cl22];exact e)]
 rfl
theorem rgC_frz(H:Hp):∀R:List Slo,(rgC R).map (frz0 0 H)=rgC R
 | []=>rfl
 | r::R=>by
  show iv r.1::iv r.2.1::iv r.2.2::(rgC R).map (frz0 0 H)=_
  rw[rgC_frz H R];rfl
def rlv(cls:List Cl)(lv:Int)(R:List Slo):Int:=(lst cls R).getD lv
theorem raise_call(h:FtOk cv ov pv qv cls){R:List Slo}(hl:R.length=16):∃H',callB cx D 0 89 [.agg (ftC cv ov pv qv),.agg (stC lv dp R)] []=some (.agg (stC (rlv cls lv R) dp R),H'):=by
 obtain⟨_,h1⟩:=h.o
 obtain⟨_,h2⟩:=h.p
 obtain⟨_,h3⟩:=h.q
 have hlen:=stC_len (lv:=lv) (dp:=dp) hl
 have hsh:=stC_shr lv dp R
 have hls:=least_ok (lv:=lv) (dp:=dp) h hl
 obtain⟨o,ho⟩:∃o,lst cls R=o:=⟨_,rfl⟩
 unfold rlv
 rw[ho]at hls ⊢
 obtain⟨fr1,e1,f2,f3,f4⟩:∃fr1,ex cx D 0 89 17 (.region 0 g89_0 false) ((PT.nil.set 0 (drp (.agg (ftC cv ov pv qv)))).set 1 (drp (.agg (stC lv dp R)))) []=some (.normal,fr1,[fctB cv ov pv qv,staB lv dp R,staB 0 0 zR])∧fr1.get 2=.ptr 0 0 0∧fr1.get 3=.ptr 1 0 0∧fr1.get 4=.ptr 2 0 0:=by
  simp -implicitDefEqProofs (maxDischargeDepth:=4) only[go_sem,h.c.shr,h1.shr,h2.shr,h3.shr,hlen,hsh,ze122,Nat.zero_le,Nat.le_refl,Nat.not_lt_zero]
  exact⟨_,rfl,by simp only[go_sem],by simp only[go_sem],by simp only[go_sem]⟩
 obtain⟨fr2,e2,k3,k4,k5,k6⟩:∃fr2,ex cx D 0 89 17 (.region 1 g89_1 false) fr1 [fctB cv ov pv qv,staB lv dp R,staB 0 0 zR]=some (.normal,fr2,[fctB cv ov pv qv,staB lv dp R,staB 0 0 zR])∧fr2.get 3=.ptr 1 0 0∧fr2.get 4=.ptr 2 0 0∧fr2.get 5=iv (o.getD 0)∧fr2.get 6=bv o.isSome:=by
  generalize o.getD 0=v at *
  generalize o.isSome=w at *
  obtain⟨S,hS⟩:∃S,stC lv dp R=S:=⟨_,rfl⟩
  have hus:S.all shut0=true:=by rw[←hS];exact stC_shut lv dp R
  unfold staB
  rw[hS]at hlen hsh hls ⊢
  have hta:S.take 50=S:=List.take_of_length_le (by omega)
  simp -implicitDefEqProofs (maxDischargeDepth:=4) only[go_sem,f2,f3,h.c.shr,h1.shr,h2.shr,h3.shr,h.c.shut0,h1.shut0,h2.shut0,h3.shut0,hlen,hsh,hta,hls,hus]
  exact⟨_,rfl,by simp only[go_sem,f3],by simp only[go_sem,f4],by simp only[go_sem],by simp only[go_sem]⟩
 obtain⟨fr3,e3,m3,m4⟩:∃fr3,ex cx D 0 89 17 (.seq (.region 2 g89_2 false) (.cond (.tmp 13) (.region 3 g89_3 false) .skip)) fr2 [fctB cv ov pv qv,staB lv dp R,staB 0 0 zR]=some (.normal,fr3,[fctB cv ov pv qv,staB (o.getD lv) dp R,staB 0 0 zR])∧fr3.get 3=.ptr 1 0 0∧fr3.get 4=.ptr 2 0 0:=by
  cases o with
  | none =>
   simp -implicitDefEqProofs (maxDischargeDepth:=4) only[go_sem,k3,k4,k5,k6,Option.isSome_none]
   exact⟨_,rfl,by simp only[go_sem,k3],by simp only[go_sem,k4]⟩
  | some v =>
   have hput:=put_lv (G:=[fctB cv ov pv qv,staB lv dp R,staB 0 0 zR]) (b:=1) rfl v
   rw[List.set_cons_succ,List.set_cons_zero]at hput
   rw[Option.getD_some]at k5 ⊢
   simp -implicitDefEqProofs (maxDischargeDepth:=4) only[go_sem,k3,k4,k5,k6,Option.isSome_some,hput]
   exact⟨_,rfl,by simp only[go_sem,k3],by simp only[go_sem,k4]⟩
 have hlen2:=stC_len (lv:=o.getD lv) (dp:=dp) hl
 have hsh2:=stC_shr (o.getD lv) dp R
 have hta2:(stC (o.getD lv) dp R).take 50=stC (o.getD lv) dp R:=List.take_of_length_le (by omega)
 have hz:(stC 0 0 zR).length=50:=stC_len rfl
 rw[c89,x_cont1 e1,x_assoc,x_cont1 e2,x_cont1 e3]
 unfold staB
 generalize stC (o.getD lv) dp R=S at *
 generalize stC 0 0 zR=Z at *
 simp -implicitDefEqProofs (maxDischargeDepth:=4) only[go_sem,m3,m4,hlen2,hsh2,hta2,hz]
 exact⟨_,rfl⟩
theorem raise_ok(h:FtOk cv ov pv qv cls){R:List Slo}(hl:R.length=16):pcall D 89 [.agg (ftC cv ov pv qv),.agg (stC lv dp R)]=some (.agg (stC (rlv cls lv R) dp R)):=by
 obtain⟨H',e⟩:=raise_call (lv:=lv) (dp:=dp) h hl
 rw[pcall_eq (H':=H') (by rw[h.cl22];exact e)]
 show some (AV.agg (iv (rlv cls lv R)::iv dp::(rgC R).map (frz0 0 H')))=_
 rw[rgC_frz]
 rfl
end
open Go.Gr
theorem eqt119:eqT cx.T 119=some (List.replicate 3 false):=nk
theorem eqt120:eqT cx.T 120=some (List.replicate 48 false):=nk
theorem eqt122:eqT cx.T 122=some (List.replicate 50 false):=nk
theorem cells_rg:∀A B:List Slo,A.length=B.length→cellsEq (List.replicate (A.length*3) false) (rgC A) (rgC B)=some (decide (A=B))
 | [],[],_=>rfl
 | [],_::_,h=>by cases h
 | _::_,[],h=>by cases h
 | x::A,y::B,h=>by
  have ih:=cells_rg A B (by simpa using h)
  rw[List.length_cons,show (A.length+1)*3=A.length*3+1+1+1 by omega]
  show cellsEq (false::false::false::List.replicate (A.length*3) false) (iv x.1::iv x.2.1::iv x.2.2::rgC A) (iv y.1::iv y.2.1::iv y.2.2::rgC B)=_
  simp only[cellsEq,cellEq_iv,ih]
  obtain⟨x1,x2,x3⟩:=x
  obtain⟨y1,y2,y3⟩:=y
  congr 1
  rw[Bool.eq_iff_iff]
  simp only[Bool.and_eq_true,decide_eq_true_eq,List.cons.injEq,Prod.mk.injEq]
  constructor
  ·rintro ⟨a,b,c,d⟩;exact⟨⟨a,b,c⟩,d⟩
  ·rintro ⟨⟨a,b,c⟩,d⟩;exact⟨a,b,c,d⟩
theorem cells_st{lv lv' dp dp':Int}{A B:List Slo}(ha:A.length=16)(hb:B.length=16):cellsEq (List.replicate 50 false) (stC lv dp A) (stC lv' dp' B)=some (decide (lv=lv'∧dp=dp'∧A=B)):=by
 have ih:=cells_rg A B (by omega)
 rw[ha]at ih
 show cellsEq (false::false::List.replicate 48 false) (iv lv::iv dp::rgC A) (iv lv'::iv dp'::rgC B)=_
 simp only[cellsEq,cellEq_iv,ih]
 congr 1
 rw[Bool.eq_iff_iff]
 simp only[Bool.and_eq_true,decide_eq_true_eq]
theorem sl_neq(x y:Slo):abin cx.T .neq 119 (.agg (slC x)) (.agg (slC y))=some (bv (!decide (x=y))) :=
 b_aneq eqt119 (by
  have:=cells_rg [x] [y] rfl
  rw[show rgC [x]=slC x from rfl,show rgC [y]=slC y from rfl]at this
  rw[show List.replicate 3 false=List.replicate ([x].length*3) false from rfl,this]
  congr 1
  rw[Bool.eq_iff_iff]
  simp only[decide_eq_true_eq,List.cons.injEq,and_true])
theorem rg_neq{A B:List Slo}(ha:A.length=16)(hb:B.length=16):abin cx.T .neq 120 (.agg (rgC A)) (.agg (rgC B))=some (bv (!decide (A=B))) :=
 b_aneq eqt120 (by have:=cells_rg A B (by omega);rw[ha]at this;exact this)
theorem st_eql{lv lv' dp dp':Int}{A B:List Slo}(ha:A.length=16)(hb:B.length=16):abin cx.T .eql 122 (.agg (stC lv dp A)) (.agg (stC lv' dp' B))=some (bv (decide (lv=lv'∧dp=dp'∧A=B))) :=
 b_aeql eqt122 (cells_st ha hb)
theorem st_neq{lv lv' dp dp':Int}{A B:List Slo}(ha:A.length=16)(hb:B.length=16):abin cx.T .neq 122 (.agg (stC lv dp A)) (.agg (stC lv' dp' B))=some (bv (!decide (lv=lv'∧dp=dp'∧A=B))) :=
 b_aneq eqt122 (cells_st ha hb)
theorem ssame_call{lv lv' dp dp':Int}{A B:List Slo}(ha:A.length=16)(hb:B.length=16):∃H',callB cx D 0 92 [.agg (stC lv dp A),.agg (stC lv' dp' B)] []=some (bv (decide (lv=lv'∧dp=dp'∧A=B)),H'):=by
 have l1:=stC_len (lv:=lv) (dp:=dp) ha
 have l2:=stC_len (lv:=lv') (dp:=dp') hb
 have s1:=stC_shr lv dp A
 have s2:=stC_shr lv' dp' B
 have e:=st_eql (lv:=lv) (lv':=lv') (dp:=dp) (dp':=dp') ha hb
 generalize decide (lv=lv'∧dp=dp'∧A=B)=w at *
 generalize stC lv dp A=S at *
 generalize stC lv' dp' B=S' at *
 have t1:S.take 50=S:=List.take_of_length_le (by omega)
 have t2:S'.take 50=S':=List.take_of_length_le (by omega)
 rw[c92]
 simp -implicitDefEqProofs (maxDischargeDepth:=4) only[go_sem,l1,l2,s1,s2,e,t1,t2,Nat.zero_le,Nat.le_refl,Nat.not_lt_zero]
 exact⟨_,rfl⟩
theorem ssame_ok{lv lv' dp dp':Int}{A B:List Slo}(ha:A.length=16)(hb:B.length=16):pcall D 92 [.agg (stC lv dp A),.agg (stC lv' dp' B)]=some (bv (decide (lv=lv'∧dp=dp'∧A=B))):=by
 obtain⟨H',e⟩:=ssame_call (lv:=lv) (lv':=lv') (dp:=dp) (dp':=dp') ha hb
 rw[pcall_eq (H':=H') (by
  rw[show [AV.agg (stC lv dp A),.agg (stC lv' dp' B)].map cl2=[AV.agg ((stC lv dp A).map Abs.cl0),.agg ((stC lv' dp' B).map Abs.cl0)] from rfl,stC_cl0,stC_cl0]
  exact e)]
 rfl
def mpt(f:Slo→Slo)(R:List Slo)(i:Nat):List Slo:=(R.take i).map f++R.drop i
theorem mpt_len(f:Slo→Slo)(R:List Slo)(i:Nat):(mpt f R i).length=R.length:=by
 unfold mpt
 rw[List.length_append,List.length_map,List.length_take,List.length_drop];omega
theorem mpt_at(f:Slo→Slo){R:List Slo}{i:Nat}{r:Slo}(h:R[i]?=some r):(mpt f R i)[i]?=some r:=by
 have hi:=(List.getElem?_eq_some_iff.1 h).1
 unfold mpt
 rw[List.getElem?_append_right (by rw[List.length_map,List.length_take];omega),List.length_map,List.length_take,List.getElem?_drop,←h]
 congr 1;omega
theorem mpt_set(f:Slo→Slo){R:List Slo}{i:Nat}{r:Slo}(h:R[i]?=some r):(mpt f R i).set i (f r)=mpt f R (i+1):=by
 have hi:=(List.getElem?_eq_some_iff.1 h).1
 have hd:R.drop i=r::R.drop (i+1):=by
  rw[List.drop_eq_getElem_cons hi]
  congr 1
  have:=List.getElem?_eq_some_iff.1 h
  exact this.2
 unfold mpt
 rw[List.set_append_right _ _ (by rw[List.length_map,List.length_take];omega),List.length_map,List.length_take,Nat.min_eq_left (by omega),Nat.sub_self,hd,List.set_cons_zero,List.take_add_one,h,Option.toList_some,List.map_append,List.append_assoc]
 rfl
theorem mpt_all(f:Slo→Slo){R:List Slo}{i:Nat}(h:R.length≤i):mpt f R i=R.map f:=by
 unfold mpt
 rw[List.take_of_length_le h,List.drop_of_length_le h,List.append_nil]
theorem mpt_zero(f:Slo→Slo)(R:List Slo):mpt f R 0=R:=rfl
section
variable {cv ov pv qv:AV} {cls:List Cl} {lv dp d lv' dp':Int}
noncomputable def lp94(rfr:PT):ALoop:={ fn:=94,nt:=46,fr:=rfr,params:=[24],assign:=q94_0,body:=r94_0,state:=.ready,pending:=none }
structure J94(cls:List Cl)(fB:ABlock)(tB:ABlock)(lv dp d:Int)(R:List Slo)(i:Nat)(G:Hp):Prop where
 b2:G[2]?=some tB
 b3:G[3]?=some (c3 d)
 b4:G[4]?=some (staB lv dp (mpt (fz cls d) R i))
 b5:G[5]?=some fB
 lp:∃rfr,G[7]?=some (.loop (lp94 rfr))∧rfr.get 8=.ptr 3 0 0∧rfr.get 9=.ptr 4 0 0
theorem rnd94(h:FtOk cv ov pv qv cls){R R':List Slo}(hl:R.length=16)(hb:Sm 100000 R)(hd:-300000≤d∧d≤300000):BRnd cls R (fctB cv ov pv qv) 8 7 5 (J94 cls (fctB cv ov pv qv) (staB lv' dp' R') lv dp d R):=by
 refine⟨?_,?_,?_,?_,?_⟩
 ·rintro i G L ⟨h2,h3,h4,h5,rfr,h6,h7⟩
  exact⟨by rw[hp_get_l (lt_of_get h2),h2],by rw[hp_get_l (lt_of_get h3),h3],by rw[hp_get_l (lt_of_get h4),h4],by rw[hp_get_l (lt_of_get h5),h5],rfr,by rw[hp_get_l (lt_of_get h6),h6],h7⟩
 ·rintro i G ⟨h2,h3,h4,h5,rfr,h6,h7,h8⟩ hG
  refine⟨?_,?_,?_,?_,rfr.map (kill 8),?_,?_,?_⟩
  ·rw[List.getElem?_map,List.getElem?_take_of_lt (by decide),h2,Option.map_some,staB_kill]
  ·rw[List.getElem?_map,List.getElem?_take_of_lt (by decide),h3];rfl
  ·rw[List.getElem?_map,List.getElem?_take_of_lt (by decide),h4,Option.map_some,staB_kill]
  ·rw[List.getElem?_map,List.getElem?_take_of_lt (by decide),h5,Option.map_some,h.kl]
  ·rw[List.getElem?_map,List.getElem?_take_of_lt (by decide),h6];rfl
  ·rw[get_mapkill,h7,kill_ptr (by decide)]
  ·rw[get_mapkill,h8,kill_ptr (by decide)]
 ·rintro i G ⟨_,_,_,h5,_⟩
  exact h5
 ·rintro i G r ⟨h2,h3,h4,h5,hp⟩ hr hz
  refine⟨h2,h3,?_,h5,hp⟩
  have e:=mpt_set (fz cls d) hr
  rw[show fz cls d r=r by unfold fz;rw[if_neg (by rw[hz];decide)]]at e
  rw[h4,←e]
  congr 2
  apply List.ext_getElem?
  intro j
  by_cases hj:i=j
  ·subst hj
   rw[List.getElem?_set_self (by rw[mpt_len];exact(List.getElem?_eq_some_iff.1 hr).1),mpt_at _ hr]
  ·rw[List.getElem?_set_ne hj]
 ·rintro i G r ⟨h2,h3,h4,h5,rfr,h6,h7,h8⟩ hm hr hz
  have hi:=(List.getElem?_eq_some_iff.1 hr).1
  have hbr:=hb r (List.mem_of_getElem? hr)
  have e:=mpt_set (fz cls d) hr
  have ea:=mpt_at (fz cls d) hr
  have hlm:(mpt (fz cls d) R i).length=16:=by rw[mpt_len,hl]
  rw[show fz cls d r=(r.1,r.2.1,r.2.2+d) by unfold fz;rw[if_pos hz]]at e
  obtain⟨fr1,e1,f10,f8,f9⟩:∃fr1,ex cx D 0 94 46 q94_0 (setArgs [(24,iv i)] rfr) G=some (.normal,fr1,G)∧fr1.get 10=iv i∧fr1.get 8=.ptr 3 0 0∧fr1.get 9=.ptr 4 0 0:=by
   unfold q94_0
   simp -implicitDefEqProofs (maxDischargeDepth:=4) only[go_sem]
   exact⟨_,rfl,by simp only[go_sem],by simp only[go_sem,h7],by simp only[go_sem,h8]⟩
  obtain⟨G1,hG1⟩:∃G1,G.set 7 (.loop { lp94 rfr with state:=.busy })=G1:=⟨_,rfl⟩
  have hl1:G1.length=G.length:=by rw[←hG1,List.length_set]
  have g2:G1[2]?=some (staB lv' dp' R'):=by rw[←hG1,hp_ne (by decide),h2]
  have g3:G1[3]?=some (c3 d):=by rw[←hG1,hp_ne (by decide),h3]
  have g4:G1[4]?=some (staB lv dp (mpt (fz cls d) R i)):=by rw[←hG1,hp_ne (by decide),h4]
  have g5:G1[5]?=some (fctB cv ov pv qv):=by rw[←hG1,hp_ne (by decide),h5]
  have g7:G1[7]?=some (.loop { lp94 rfr with state:=.busy }):=by rw[←hG1,hp_one (by omega)]
  rw[round_eq h6 (Nat.zero_le _) rfl rfl rfl,show setArgs ((lp94 rfr).params.zip [iv i]) (lp94 rfr).fr=setArgs [(24,iv i)] rfr from rfl,
   show ex cx (den cx) 0 (lp94 rfr).fn (lp94 rfr).nt (lp94 rfr).assign=ex cx D 0 94 46 q94_0 from rfl,e1,bodyRound_eq h6 rfl,show ex cx (den cx) 0 (lp94 rfr).fn (lp94 rfr).nt (lp94 rfr).body=ex cx D 0 94 46 r94_0 from rfl,hG1]
  have a1:=at120 (b:=4) (show i<16 by omega)
  have hpr:=stC_prio (lv:=lv) (dp:=dp) ea
  have hput:=put_pr g4 hlm ea (r.2.2+d)
  rw[e]at hput
  have ws:wrapK .i64 (r.2.2+d)=r.2.2+d:=wrapK_i64 (by omega) (by omega)
  obtain⟨fr2,e2⟩:∃fr2,ex cx D 0 94 46 r94_0 fr1 G1=some (.normal,fr2,G1.set 4 (staB lv dp (mpt (fz cls d) R (i+1)))):=by
   unfold r94_0
   obtain⟨G2,hG2⟩:∃G2,G1.set 4 (staB lv dp (mpt (fz cls d) R (i+1)))=G2:=⟨_,rfl⟩
   rw[hG2]at hput ⊢
   unfold staB at g4
   generalize stC lv dp (mpt (fz cls d) R i)=S at *
   simp -implicitDefEqProofs (maxDischargeDepth:=4) only[go_sem,f10,f8,f9,g3,g4,a1,hpr,ws,hput,nbeq,Nat.zero_le,Nat.le_refl,Nat.not_lt_zero]
   exact⟨_,rfl⟩
  have k7:(G1.set 4 (staB lv dp (mpt (fz cls d) R (i+1))))[7]?=some (.loop { lp94 rfr with state:=.busy }):=by rw[hp_ne (by decide),g7]
  rw[e2,endRound_normal k7]
  refine⟨_,rfl,⟨?_,?_,?_,?_,rfr,?_,h7,h8⟩,by rw[List.length_set,List.length_set];omega⟩
  ·rw[hp_ne (by decide),hp_ne (by decide),g2]
  ·rw[hp_ne (by decide),hp_ne (by decide),g3]
  ·rw[hp_ne (by decide),hp_one (by omega)]
  ·rw[hp_ne (by decide),hp_ne (by decide),g5]
  ·rw[hp_one (by rw[List.length_set];omega)];rfl
end
open Go.Gr
def shOk(cls:List Cl)(lv dp:Int)(R:List Slo)(lv' dp':Int)(R':List Slo):Bool:=decide (R.map (fz cls (lv'-lv))=R')&&decide (dp=dp')
def shN(cls:List Cl)(lv dp:Int)(R:List Slo)(lv' dp':Int)(R':List Slo):Int:=if shOk cls lv dp R lv' dp' R'=true then lv'-lv else 0
section
variable {cv ov pv qv:AV} {cls:List Cl} {lv dp d lv' dp':Int}
theorem sh_start(h:FtOk cv ov pv qv cls){R R':List Slo}(hl:R.length=16)(hl':R'.length=16)(hv:-100000≤lv∧lv≤100000)(hv':-100000≤lv'∧lv'≤100000):
  ∃fr1,ex cx D 0 94 46 (.seq (.region 0 g94_0 false) (.seq (.region 1 g94_1 false) (.seq (.region 2 g94_2 false) (.region 3 g94_3 false)))) (((PT.nil.set 0 (drp (.agg (ftC cv ov pv qv)))).set 1 (drp (.agg (stC lv dp R)))).set 2 (drp (.agg (stC lv' dp' R')))) []=some (.normal,fr1,[fctB cv ov pv qv,staB lv dp R,staB lv' dp' R',c3 (lv'-lv),staB lv' dp R])∧fr1.get 3=.ptr 0 0 0∧fr1.get 4=.ptr 1 0 0∧fr1.get 5=.ptr 2 0 0∧fr1.get 8=.ptr 3 0 0∧fr1.get 9=.ptr 4 0 0:=by
 obtain⟨_,h1⟩:=h.o
 obtain⟨_,h2⟩:=h.p
 obtain⟨_,h3⟩:=h.q
 have l1:=stC_len (lv:=lv) (dp:=dp) hl
 have l2:=stC_len (lv:=lv') (dp:=dp') hl'
 have s1:=stC_shr lv dp R
 have s2:=stC_shr lv' dp' R'
 have t1:(stC lv dp R).take 50=stC lv dp R:=List.take_of_length_le (by omega)
 have hz:(stC 0 0 zR).length=50:=stC_len rfl
 have z1:(stC lv dp R)[0]?=some (iv lv):=rfl
 have z2:(stC lv' dp' R')[0]?=some (iv lv'):=rfl
 have w1:wrapK .i64 (lv'-lv)=lv'-lv:=wrapK_i64 (by omega) (by omega)
 have w2:wrapK .i64 (lv+(lv'-lv))=lv':=by rw[show lv+(lv'-lv)=lv' by omega];exact wrapK_i64 (by omega) (by omega)
 have hput:=put_lv (G:=[fctB cv ov pv qv,staB lv dp R,staB lv' dp' R',c3 (lv'-lv),staB lv dp R]) (b:=4) rfl lv'
 simp only[List.set_cons_succ,List.set_cons_zero]at hput
 obtain⟨fr0,p0,m3,m4,m5,m8⟩:∃fr0,ex cx D 0 94 46 (.seq (.region 0 g94_0 false) (.region 1 g94_1 false)) (((PT.nil.set 0 (drp (.agg (ftC cv ov pv qv)))).set 1 (drp (.agg (stC lv dp R)))).set 2 (drp (.agg (stC lv' dp' R')))) []=some (.normal,fr0,[fctB cv ov pv qv,staB lv dp R,staB lv' dp' R',c3 (lv'-lv)])∧fr0.get 3=.ptr 0 0 0∧fr0.get 4=.ptr 1 0 0∧fr0.get 5=.ptr 2 0 0∧fr0.get 8=.ptr 3 0 0:=by
  unfold staB
  generalize stC lv dp R=S at *
  generalize stC lv' dp' R'=S' at *
  simp -implicitDefEqProofs (maxDischargeDepth:=4) only[go_sem,h.c.shr,h1.shr,h2.shr,h3.shr,l1,l2,s1,s2,z1,z2,w1,Nat.zero_le,Nat.le_refl,Nat.not_lt_zero]
  exact⟨_,rfl,by simp only[go_sem],by simp only[go_sem],by simp only[go_sem],by simp only[go_sem]⟩
 obtain⟨fr1,p1,n3,n4,n5,n8,n9⟩:∃fr1,ex cx D 0 94 46 (.region 2 g94_2 false) fr0 [fctB cv ov pv qv,staB lv dp R,staB lv' dp' R',c3 (lv'-lv)]=some (.normal,fr1,[fctB cv ov pv qv,staB lv dp R,staB lv' dp' R',c3 (lv'-lv),staB lv dp R])∧fr1.get 3=.ptr 0 0 0∧fr1.get 4=.ptr 1 0 0∧fr1.get 5=.ptr 2 0 0∧fr1.get 8=.ptr 3 0 0∧fr1.get 9=.ptr 4 0 0:=by
  unfold staB
  generalize stC lv dp R=S at *
  generalize stC lv' dp' R'=S' at *
  simp -implicitDefEqProofs (maxDischargeDepth:=4) only[go_sem,m4,l1,s1,t1,ze122,hz,Nat.zero_le,Nat.le_refl,Nat.not_lt_zero]
  exact⟨_,rfl,by simp only[go_sem,m3],by simp only[go_sem,m4],by simp only[go_sem,m5],by simp only[go_sem,m8],by simp only[go_sem]⟩
 obtain⟨fr2,p2,k3,k4,k5,k8,k9⟩:∃fr2,ex cx D 0 94 46 (.region 3 g94_3 false) fr1 [fctB cv ov pv qv,staB lv dp R,staB lv' dp' R',c3 (lv'-lv),staB lv dp R]=some (.normal,fr2,[fctB cv ov pv qv,staB lv dp R,staB lv' dp' R',c3 (lv'-lv),staB lv' dp R])∧fr2.get 3=.ptr 0 0 0∧fr2.get 4=.ptr 1 0 0∧fr2.get 5=.ptr 2 0 0∧fr2.get 8=.ptr 3 0 0∧fr2.get 9=.ptr 4 0 0:=by
  obtain⟨G2,hG2⟩:∃G2,[fctB cv ov pv qv,staB lv dp R,staB lv' dp' R',c3 (lv'-lv),staB lv' dp R]=G2:=⟨_,rfl⟩
  rw[hG2]at hput ⊢
  unfold staB at hput ⊢
  generalize stC lv dp R=S at *
  generalize stC lv' dp' R'=S' at *
  simp -implicitDefEqProofs (maxDischargeDepth:=4) only[go_sem,n8,n9,z1,w2,hput,Nat.zero_le,Nat.le_refl,Nat.not_lt_zero]
  exact⟨_,rfl,by simp only[go_sem,n3],by simp only[go_sem,n4],by simp only[go_sem,n5],by simp only[go_sem,n8],by simp only[go_sem,n9]⟩
 obtain⟨_,_,q0,q1⟩:=x_split p0
 exact⟨fr2,by rw[x_cont1 q0,x_cont1 q1,x_cont1 p1,p2],k3,k4,k5,k8,k9⟩
theorem shift_call(h:FtOk cv ov pv qv cls){R R':List Slo}(hl:R.length=16)(hl':R'.length=16)(hv:-100000≤lv∧lv≤100000)(hv':-100000≤lv'∧lv'≤100000)(hb:Sm 100000 R):
  ∃H',callB cx D 0 94 [.agg (ftC cv ov pv qv),.agg (stC lv dp R),.agg (stC lv' dp' R')] []=some (.tup [iv (shN cls lv dp R lv' dp' R'),bv (shOk cls lv dp R lv' dp' R')],H'):=by
 obtain⟨_,h1⟩:=h.o
 obtain⟨_,h2⟩:=h.p
 obtain⟨_,h3⟩:=h.q
 obtain⟨fr1,p1,f3,f4,f5,f8,f9⟩:=sh_start (dp:=dp) (dp':=dp') h hl hl' hv hv'
 have hmk:=busy_mk (ro:=0) (H:=[fctB cv ov pv qv,staB lv dp R,staB lv' dp' R',c3 (lv'-lv),staB lv' dp R]) (n:=5) (pb:=1) rfl h (Nat.zero_le _)
 obtain⟨fr2,e2,k5,k8,k9,k23⟩:∃fr2,ex cx D 0 94 46 (.region 4 g94_4 false) fr1 [fctB cv ov pv qv,staB lv dp R,staB lv' dp' R',c3 (lv'-lv),staB lv' dp R]=some (.normal,fr2,[fctB cv ov pv qv,staB lv dp R,staB lv' dp' R',c3 (lv'-lv),staB lv' dp R,fctB cv ov pv qv,.cells 1 232 [.ptr 1 0 0]])∧fr2.get 5=.ptr 2 0 0∧fr2.get 8=.ptr 3 0 0∧fr2.get 9=.ptr 4 0 0∧fr2.get 23=.fn 163 [.ptr 6 0 0,.ptr 5 0 0]:=by
  unfold staB at hmk ⊢
  generalize stC lv dp R=S at *
  generalize stC lv' dp' R'=S' at *
  generalize stC lv' dp R=S2 at *
  rw[List.cons_append,List.cons_append,List.cons_append,List.cons_append,List.cons_append,List.nil_append]at hmk
  simp -implicitDefEqProofs (maxDischargeDepth:=4) only[go_sem,f3,f4,h.c.shr,h1.shr,h2.shr,h3.shr,h.c.shut0,h1.shut0,h2.shut0,h3.shut0,hmk]
  exact⟨_,rfl,by simp only[go_sem,f5],by simp only[go_sem,f8],by simp only[go_sem,f9],by simp only[go_sem]⟩
 obtain⟨G',q1,j2,j3,j4,j5,rfr,j6,_⟩:=bz_call h (rnd94 (lv:=lv') (dp:=dp) (lv':=lv') (dp':=dp') (d:=lv'-lv) (R':=R') h hl hb (by omega)) hl (by decide) (by decide) (G:=[fctB cv ov pv qv,staB lv dp R,staB lv' dp' R',c3 (lv'-lv),staB lv' dp R,fctB cv ov pv qv,.cells 1 232 [.ptr 1 0 0],.loop (lp94 (fr2.map drp))]) rfl
  ⟨rfl,rfl,rfl,rfl,fr2.map drp,rfl,by rw[get_mapdrp,k8];rfl,by rw[get_mapdrp,k9];rfl⟩ (pb:=6) (sb:=1) (lv:=lv) (dp:=dp) rfl rfl
 have q1':D.call 0 163 [.yld 7,.ptr 6 0 0,.ptr 5 0 0] [fctB cv ov pv qv,staB lv dp R,staB lv' dp' R',c3 (lv'-lv),staB lv' dp R,fctB cv ov pv qv,.cells 1 232 [.ptr 1 0 0],.loop (lp94 (fr2.map drp))]=some (.tup [],G'):=by rw[den_call_eq];exact q1
 have q3:ex cx D 0 94 46 (.rangeFunc (.tmp 23) #[24] q94_0 r94_0) fr2 [fctB cv ov pv qv,staB lv dp R,staB lv' dp' R',c3 (lv'-lv),staB lv' dp R,fctB cv ov pv qv,.cells 1 232 [.ptr 1 0 0]]=endLoop 7 fr2 (some (.tup [],G')):=by
  rw[x_range,ev_tmp,k23,shr_fn,ranged_fn,←q1'];rfl
 rw[endLoop_eq j6 (show LS.ready≠LS.busy by decide)]at q3
 have eb:ex cx D 0 94 46 (.block 0 (.rangeFunc (.tmp 23) #[24] q94_0 r94_0)) fr2 [fctB cv ov pv qv,staB lv dp R,staB lv' dp' R',c3 (lv'-lv),staB lv' dp R,fctB cv ov pv qv,.cells 1 232 [.ptr 1 0 0]]=some (.normal,fr2,G'.set 7 (.loop { lp94 rfr with state:=.exhausted })):=by
  rw[x_block,q3];rfl
 rw[mpt_all _ (by omega)]at j4
 have m2:(G'.set 7 (.loop { lp94 rfr with state:=.exhausted }))[2]?=some (staB lv' dp' R'):=by rw[hp_ne (by decide),j2]
 have m3:(G'.set 7 (.loop { lp94 rfr with state:=.exhausted }))[3]?=some (c3 (lv'-lv)):=by rw[hp_ne (by decide),j3]
 have m4:(G'.set 7 (.loop { lp94 rfr with state:=.exhausted }))[4]?=some (staB lv' dp (R.map (fz cls (lv'-lv)))):=by rw[hp_ne (by decide),j4]
 obtain⟨_,_,s0,s⟩:=x_split p1
 obtain⟨_,_,s1,s⟩:=x_split s
 obtain⟨_,_,s2,s3⟩:=x_split s
 rw[c94,x_cont1 s0,x_cont1 s1,x_cont1 s2,x_cont1 s3,x_assoc,x_cont1 e2,x_cont1 eb]
 generalize G'.set 7 (.loop { lp94 rfr with state:=.exhausted })=G2 at m2 m3 m4
 have hlm:(R.map (fz cls (lv'-lv))).length=16:=by rw[List.length_map,hl]
 unfold shN shOk
 generalize R.map (fz cls (lv'-lv))=Q at *
 have d1:(stC lv' dp Q).drop 2=rgC Q:=rfl
 have d2:(stC lv' dp' R').drop 2=rgC R':=rfl
 have g1:(rgC Q).take 48=rgC Q:=List.take_of_length_le (by rw[rgC_len,hlm];decide)
 have g2:(rgC R').take 48=rgC R':=List.take_of_length_le (by rw[rgC_len,hl'];decide)
 have l1:=stC_len (lv:=lv') (dp:=dp) hlm
 have l2:=stC_len (lv:=lv') (dp:=dp') hl'
 have t1:(stC lv' dp Q).take 50=stC lv' dp Q:=List.take_of_length_le (by omega)
 have t2:(stC lv' dp' R').take 50=stC lv' dp' R':=List.take_of_length_le (by omega)
 have u1:=stC_shr lv' dp Q
 have u2:=stC_shr lv' dp' R'
 have u3:=rgC_shr Q
 have u4:=rgC_shr R'
 have ne1:=rg_neq hlm hl'
 have ne2:=st_neq (lv:=lv') (lv':=lv') (dp:=dp) (dp':=dp') hlm hl'
 have sh1:=stC_shut lv' dp Q
 have sh2:=stC_shut lv' dp' R'
 have sh3:=rgC_shut Q
 have sh4:=rgC_shut R'
 unfold staB at m2 m4
 generalize hS:stC lv' dp Q=S at *
 generalize hS':stC lv' dp' R'=S' at *
 generalize hA:rgC Q=A at *
 generalize hA':rgC R'=A' at *
 by_cases hq:Q=R'
 ·rw[decide_eq_true hq]at ne1 ⊢
  by_cases hp:dp=dp'
  ·rw[decide_eq_true ⟨rfl,hp,hq⟩]at ne2
   rw[decide_eq_true hp]
   simp -implicitDefEqProofs (maxDischargeDepth:=4) only[go_sem,k5,k8,k9,m2,m3,m4,d1,d2,g1,g2,l1,l2,t1,t2,u1,u2,u3,u4,ne1,ne2,sh1,sh2,sh3,sh4,Bool.not_true,Nat.zero_le,Nat.le_refl,Nat.not_lt_zero]
   exact⟨_,rfl⟩
  ·rw[decide_eq_false (fun e=>hp e.2.1)]at ne2
   rw[decide_eq_false hp]
   simp -implicitDefEqProofs (maxDischargeDepth:=4) only[go_sem,k5,k8,k9,m2,m3,m4,d1,d2,g1,g2,l1,l2,t1,t2,u1,u2,u3,u4,ne1,ne2,sh1,sh2,sh3,sh4,Bool.not_true,Bool.not_false,Nat.zero_le,Nat.le_refl,Nat.not_lt_zero]
   exact⟨_,rfl⟩
 ·rw[decide_eq_false hq]at ne1 ⊢
  rw[Bool.false_and]
  simp -implicitDefEqProofs (maxDischargeDepth:=4) only[go_sem,k5,k8,k9,m2,m3,m4,d1,d2,g1,g2,l1,l2,t1,t2,u1,u2,u3,u4,ne1,sh1,sh2,sh3,sh4,Bool.not_true,Bool.not_false,Nat.zero_le,Nat.le_refl,Nat.not_lt_zero]
  exact⟨_,rfl⟩
theorem shift_ok(h:FtOk cv ov pv qv cls){R R':List Slo}(hl:R.length=16)(hl':R'.length=16)(hv:-100000≤lv∧lv≤100000)(hv':-100000≤lv'∧lv'≤100000)(hb:Sm 100000 R):
  pcall D 94 [.agg (ftC cv ov pv qv),.agg (stC lv dp R),.agg (stC lv' dp' R')]=some (.tup [iv (shN cls lv dp R lv' dp' R'),bv (shOk cls lv dp R lv' dp' R')]):=by
 obtain⟨H',e⟩:=shift_call (dp:=dp) (dp':=dp') h hl hl' hv hv' hb
 rw[pcall_eq (H':=H') (by
  rw[show [AV.agg (ftC cv ov pv qv),.agg (stC lv dp R),.agg (stC lv' dp' R')].map cl2=[AV.agg ((ftC cv ov pv qv).map Abs.cl0),.agg ((stC lv dp R).map Abs.cl0),.agg ((stC lv' dp' R').map Abs.cl0)] from rfl,stC_cl0,stC_cl0,h.cl]
  exact e)]
 rfl
end
open Go.Gr
def smS(n:Nat)(r:Slo):Slo:=((max r.1 0).tmod 3,(max r.2.1 0).tmod ((n+1:Nat):Int),r.2.2.tmod 1000)
abbrev sloB(r:Slo):ABlock:=.cells 3 119 [.agg [iv r.1,iv r.2.1,iv r.2.2]]
structure SmF(fr:PT)(i:Nat):Prop where
 f2:fr.get 2=.ptr 0 0 0
 f3:fr.get 3=.ptr 1 0 0
 f4:fr.get 4=.ptr 2 0 0
 f5:fr.get 5=iv i
theorem SmF.of{fr fr':PT}{i:Nat}(F:SmF fr i)(h:∀d,(d=2∨d=3∨d=4∨d=5)→fr'.get d=fr.get d):SmF fr' i :=
 ⟨by rw[h 2 (by simp),F.f2],by rw[h 3 (by simp),F.f3],by rw[h 4 (by simp),F.f4],by rw[h 5 (by simp),F.f5]⟩
section
variable {cv ov pv qv:AV} {cls:List Cl} {lv dp:Int}
noncomputable abbrev bo88:Code:=(.seq (.seq (.region 3 g88_3 false) (.cond (.tmp 12) .skip (.exit 0))) (.seq (.block 1 (.seq (.region 5 g88_4 false) (.seq (.region 6 g88_5 false) (.seq (.region 7 g88_6 false) (.seq (.region 8 g88_7 false) (.region 9 g88_8 false)))))) (.region 4 g88_9 false)))
theorem sm_a(h:FtOk cv ov pv qv cls){i:Nat}(hi:i<16){R:List Slo}(hl:R.length=16){r:Slo}(hr:R[i]?=some r){Z:ABlock}{fr:PT}(F:SmF fr i):
  ∃fr',ex cx D 0 88 43 (.region 5 g88_4 false) fr [fctB cv ov pv qv,staB lv dp R,Z]=some (.normal,fr',[fctB cv ov pv qv,staB lv dp R,Z,sloB r])∧SmF fr' i∧fr'.get 6=.ptr 3 0 0:=by
 have a1:=at120 (b:=1) hi
 have hlen:=stC_len (lv:=lv) (dp:=dp) hl
 have hle:2+i*3+3≤50:=by omega
 have hat:=stC_at (lv:=lv) (dp:=dp) hr
 unfold slC at hat
 unfold staB
 generalize stC lv dp R=S at *
 simp -implicitDefEqProofs (maxDischargeDepth:=4) only[go_sem,F.f3,F.f5,a1,hlen,hle,hat,Nat.zero_le,Nat.le_refl,Nat.not_lt_zero]
 exact⟨_,rfl,F.of fun d hd=>by rcases hd with rfl | rfl | rfl | rfl<;>simp only[go_sem],by simp only[go_sem]⟩
theorem sm_b(h:FtOk cv ov pv qv cls){i:Nat}{B Z:ABlock}{a b c:Int}{fr:PT}(F:SmF fr i)(k6:fr.get 6=.ptr 3 0 0):
  ∃fr',ex cx D 0 88 43 (.region 6 g88_5 false) fr [fctB cv ov pv qv,B,Z,sloB (a,b,c)]=some (.normal,fr',[fctB cv ov pv qv,B,Z,sloB ((max a 0).tmod 3,b,c)])∧SmF fr' i∧fr'.get 6=.ptr 3 0 0:=by
 have hm:=max_iv a 0
 simp -implicitDefEqProofs (maxDischargeDepth:=4) only[go_sem,k6,hm,Nat.zero_le,Nat.le_refl,Nat.not_lt_zero]
 exact⟨_,rfl,F.of fun d hd=>by rcases hd with rfl | rfl | rfl | rfl<;>simp only[go_sem],by simp only[go_sem,k6]⟩
theorem sm_c(h:FtOk cv ov pv qv cls){i:Nat}{B Z:ABlock}{a b c:Int}{fr:PT}(F:SmF fr i)(k6:fr.get 6=.ptr 3 0 0):
  ∃fr',ex cx D 0 88 43 (.region 7 g88_6 false) fr [fctB cv ov pv qv,B,Z,sloB (a,b,c)]=some (.normal,fr',[fctB cv ov pv qv,B,Z,sloB (a,(max b 0).tmod ((cls.length+1:Nat):Int),c)])∧SmF fr' i∧fr'.get 6=.ptr 3 0 0:=by
 have hn:=h.n
 have hm:=max_iv b 0
 have w1:=wrap_succ hn
 have w2:¬((cls.length+1:Nat):Int)=0:=by omega
 simp -implicitDefEqProofs (maxDischargeDepth:=4) only[go_sem,k6,F.f2,hm,w1,w2,h.c.shr,h.c.notOwn,alen_sl h.c,List.length_map,Nat.zero_le,Nat.le_refl,Nat.not_lt_zero]
 exact⟨_,rfl,F.of fun d hd=>by rcases hd with rfl | rfl | rfl | rfl<;>simp only[go_sem],by simp only[go_sem,k6]⟩
theorem sm_d(h:FtOk cv ov pv qv cls){i:Nat}{B Z:ABlock}{a b c:Int}{fr:PT}(F:SmF fr i)(k6:fr.get 6=.ptr 3 0 0):
  ∃fr',ex cx D 0 88 43 (.region 8 g88_7 false) fr [fctB cv ov pv qv,B,Z,sloB (a,b,c)]=some (.normal,fr',[fctB cv ov pv qv,B,Z,sloB (a,b,c.tmod 1000)])∧SmF fr' i∧fr'.get 6=.ptr 3 0 0:=by
 simp -implicitDefEqProofs (maxDischargeDepth:=4) only[go_sem,k6,Nat.zero_le,Nat.le_refl,Nat.not_lt_zero]
 exact⟨_,rfl,F.of fun d hd=>by rcases hd with rfl | rfl | rfl | rfl<;>simp only[go_sem],by simp only[go_sem,k6]⟩
theorem sm_e(h:FtOk cv ov pv qv cls){i:Nat}(hi:i<16){R:List Slo}(hl:R.length=16){r:Slo}{Z:ABlock}{fr:PT}(F:SmF fr i)(k6:fr.get 6=.ptr 3 0 0):
  ∃fr',ex cx D 0 88 43 (.region 9 g88_8 false) fr [fctB cv ov pv qv,staB lv dp R,Z,sloB r]=some (.normal,fr',[fctB cv ov pv qv,staB lv dp (R.set i r),Z,sloB r])∧SmF fr' i∧fr'.get 6=.ptr 3 0 0:=by
 have a1:=at120 (b:=1) hi
 have hput:=put_sl (G:=[fctB cv ov pv qv,staB lv dp R,Z,sloB r]) (b:=1) rfl hl hi r
 rw[List.set_cons_succ,List.set_cons_zero]at hput
 obtain⟨G2,hG2⟩:∃G2,[fctB cv ov pv qv,staB lv dp (R.set i r),Z,sloB r]=G2:=⟨_,rfl⟩
 rw[hG2]at hput ⊢
 unfold staB at *
 unfold slC at hput
 generalize stC lv dp R=S at *
 simp -implicitDefEqProofs (maxDischargeDepth:=4) only[go_sem,F.f3,F.f5,k6,a1,hput,Nat.zero_le,Nat.le_refl,Nat.not_lt_zero]
 exact⟨_,rfl,F.of fun d hd=>by rcases hd with rfl | rfl | rfl | rfl<;>simp only[go_sem],by simp only[go_sem,k6]⟩
theorem sm_step(h:FtOk cv ov pv qv cls){i:Nat}(hi:i<16){R:List Slo}(hl:R.length=16){r:Slo}(hr:R[i]?=some r){Z:ABlock}{fr:PT}(F:SmF fr i):
  ∃fr',ex cx D 0 88 43 bo88 fr [fctB cv ov pv qv,staB lv dp R,Z]=some (.normal,fr',[fctB cv ov pv qv,staB lv dp (R.set i (smS cls.length r)),Z,sloB (smS cls.length r)])∧SmF fr' (i+1):=by
 have hlt:(i:Int)<16:=by omega
 have w3:=wrap_succ (show i≤1000 by omega)
 obtain⟨fr1,p1,F1⟩:∃fr1,ex cx D 0 88 43 (.seq (.region 3 g88_3 false) (.cond (.tmp 12) .skip (.exit 0))) fr [fctB cv ov pv qv,staB lv dp R,Z]=some (.normal,fr1,[fctB cv ov pv qv,staB lv dp R,Z])∧SmF fr1 i:=by
  simp -implicitDefEqProofs (maxDischargeDepth:=4) only[go_sem,F.f5,hlt]
  exact⟨_,rfl,F.of fun d hd=>by rcases hd with rfl | rfl | rfl | rfl<;>simp only[go_sem]⟩
 obtain⟨fr2,p2,F2,k2⟩:=sm_a (lv:=lv) (dp:=dp) h hi hl hr (Z:=Z) F1
 obtain⟨a,b,c⟩:=r
 obtain⟨fr3,p3,F3,k3⟩:=sm_b h (B:=staB lv dp R) (Z:=Z) (a:=a) (b:=b) (c:=c) F2 k2
 obtain⟨fr4,p4,F4,k4⟩:=sm_c h (B:=staB lv dp R) (Z:=Z) (a:=(max a 0).tmod 3) (b:=b) (c:=c) F3 k3
 obtain⟨fr5,p5,F5,k5⟩:=sm_d h (B:=staB lv dp R) (Z:=Z) (a:=(max a 0).tmod 3) (b:=(max b 0).tmod ((cls.length+1:Nat):Int)) (c:=c) F4 k4
 have p5':ex cx D 0 88 43 (.region 8 g88_7 false) fr4 [fctB cv ov pv qv,staB lv dp R,Z,sloB ((max a 0).tmod 3,(max b 0).tmod ((cls.length+1:Nat):Int),c)]=some (.normal,fr5,[fctB cv ov pv qv,staB lv dp R,Z,sloB (smS cls.length (a,b,c))]):=p5
 obtain⟨fr6,p6,F6,k6⟩:=sm_e (lv:=lv) (dp:=dp) h hi hl (r:=smS cls.length (a,b,c)) (Z:=Z) F5 k5
 obtain⟨fr7,p7,F7⟩:∃fr7,ex cx D 0 88 43 (.region 4 g88_9 false) fr6 [fctB cv ov pv qv,staB lv dp (R.set i (smS cls.length (a,b,c))),Z,sloB (smS cls.length (a,b,c))]=some (.normal,fr7,[fctB cv ov pv qv,staB lv dp (R.set i (smS cls.length (a,b,c))),Z,sloB (smS cls.length (a,b,c))])∧SmF fr7 (i+1):=by
  simp -implicitDefEqProofs (maxDischargeDepth:=4) only[go_sem,F6.f5,w3]
  exact⟨_,rfl,by simp only[go_sem,F6.f2],by simp only[go_sem,F6.f3],by simp only[go_sem,F6.f4],by simp only[go_sem]⟩
 have eb:ex cx D 0 88 43 (.block 1 (.seq (.region 5 g88_4 false) (.seq (.region 6 g88_5 false) (.seq (.region 7 g88_6 false) (.seq (.region 8 g88_7 false) (.region 9 g88_8 false)))))) fr1 [fctB cv ov pv qv,staB lv dp R,Z]=some (.normal,fr6,[fctB cv ov pv qv,staB lv dp (R.set i (smS cls.length (a,b,c))),Z,sloB (smS cls.length (a,b,c))]):=by
  rw[x_block,x_cont1 p2,x_cont1 p3,x_cont1 p4,x_cont1 p5',p6];rfl
 exact⟨fr7,by rw[x_cont1 p1,x_cont1 eb,p7],F7⟩
theorem trim43(k:PT→Hp→Option Res)(fr:PT)(A B Z S:ABlock):trimmed k 3 fr [A,B,Z,S]=k (fr.map (kill 3)) [killB 3 A,killB 3 B,killB 3 Z]:=by
 unfold trimmed
 rw[if_neg (show ¬ [A,B,Z,S].length=3 from by simp)]
 rfl
theorem SmF.kl{fr:PT}{i:Nat}(F:SmF fr i):SmF (fr.map (kill 3)) i :=
 ⟨by rw[get_mapkill,F.f2,kill_ptr (by decide)],by rw[get_mapkill,F.f3,kill_ptr (by decide)],by rw[get_mapkill,F.f4,kill_ptr (by decide)],by rw[get_mapkill,F.f5];rfl⟩
theorem sm_loop(h:FtOk cv ov pv qv cls){R:List Slo}(hl:R.length=16):∀(m i:Nat)(fr:PT),16-i=m→i≤16→SmF fr i→
  ∃fr',D.loop 0 88 43 l88_0 fr [fctB cv ov pv qv,staB lv dp (mpt (smS cls.length) R i),staB 0 0 zR]=some (.exit 0,fr',[fctB cv ov pv qv,staB lv dp (R.map (smS cls.length)),staB 0 0 zR])∧SmF fr' 16
 | 0,i,fr,hm,hi,F=>by
  have hlt:¬((i:Int)<16):=by omega
  have e:i=16:=by omega
  subst e
  rw[mpt_all _ (by omega)]
  obtain⟨fr1,p1,F1⟩:∃fr1,D.loop 0 88 43 l88_0 fr [fctB cv ov pv qv,staB lv dp (R.map (smS cls.length)),staB 0 0 zR]=some (.exit 0,fr1,[fctB cv ov pv qv,staB lv dp (R.map (smS cls.length)),staB 0 0 zR])∧SmF fr1 16:=by
   rw[dl88_0]
   simp -implicitDefEqProofs (maxDischargeDepth:=4) only[go_sem,F.f5,hlt]
   exact⟨_,rfl,F.of fun d hd=>by rcases hd with rfl | rfl | rfl | rfl<;>simp only[go_sem]⟩
  exact⟨fr1,p1,F1⟩
 | m+1,i,fr,hm,hi,F=>by
  obtain⟨r,hr⟩:∃r,R[i]?=some r:=⟨_,List.getElem?_eq_getElem (by omega)⟩
  have ea:=mpt_at (smS cls.length) hr
  have es:=mpt_set (smS cls.length) hr
  obtain⟨fr1,p1,F1⟩:=sm_step (lv:=lv) (dp:=dp) h (show i<16 by omega) (by rw[mpt_len,hl]) ea (Z:=staB 0 0 zR) F
  rw[es]at p1
  obtain⟨fr2,p2,F2⟩:=sm_loop h hl m (i+1) (fr1.map (kill 3)) (by omega) (by omega) F1.kl
  refine⟨fr2,?_,F2⟩
  rw[dl88_0,show ex cx (den cx) 0 88 43 bo88 fr [fctB cv ov pv qv,staB lv dp (mpt (smS cls.length) R i),staB 0 0 zR]=_ from p1,xbind_some,contR_normal]
  rw[show [fctB cv ov pv qv,staB lv dp (mpt (smS cls.length) R i),staB 0 0 zR].length=3 from rfl,trim43]
  rw[h.kl,staB_kill,staB_kill]
  exact p2
theorem small_call(h:FtOk cv ov pv qv cls){R:List Slo}(hl:R.length=16):∃H',callB cx D 0 88 [.agg (ftC cv ov pv qv),.agg (stC lv dp R)] []=some (.agg (stC (lv.tmod 1000) dp (R.map (smS cls.length))),H'):=by
 obtain⟨_,h1⟩:=h.o
 obtain⟨_,h2⟩:=h.p
 obtain⟨_,h3⟩:=h.q
 have hlen:=stC_len (lv:=lv) (dp:=dp) hl
 have hsh:=stC_shr lv dp R
 have h0:(stC lv dp R)[0]?=some (iv lv):=rfl
 have hput:=put_lv (G:=[fctB cv ov pv qv,staB lv dp R,staB 0 0 zR]) (b:=1) rfl (lv.tmod 1000)
 rw[List.set_cons_succ,List.set_cons_zero]at hput
 obtain⟨fr0,p0,k2,k3,k4⟩:∃fr0,ex cx D 0 88 43 (.region 0 g88_0 false) ((PT.nil.set 0 (drp (.agg (ftC cv ov pv qv)))).set 1 (drp (.agg (stC lv dp R)))) []=some (.normal,fr0,[fctB cv ov pv qv,staB lv dp R,staB 0 0 zR])∧fr0.get 2=.ptr 0 0 0∧fr0.get 3=.ptr 1 0 0∧fr0.get 4=.ptr 2 0 0:=by
  simp -implicitDefEqProofs (maxDischargeDepth:=4) only[go_sem,h.c.shr,h1.shr,h2.shr,h3.shr,hlen,hsh,ze122,Nat.zero_le,Nat.le_refl,Nat.not_lt_zero]
  exact⟨_,rfl,by simp only[go_sem],by simp only[go_sem],by simp only[go_sem]⟩
 obtain⟨fr1,p1,m2,m3,m4⟩:∃fr1,ex cx D 0 88 43 (.region 1 g88_1 false) fr0 [fctB cv ov pv qv,staB lv dp R,staB 0 0 zR]=some (.normal,fr1,[fctB cv ov pv qv,staB (lv.tmod 1000) dp R,staB 0 0 zR])∧fr1.get 2=.ptr 0 0 0∧fr1.get 3=.ptr 1 0 0∧fr1.get 4=.ptr 2 0 0:=by
  obtain⟨G1,hG1⟩:∃G1,[fctB cv ov pv qv,staB (lv.tmod 1000) dp R,staB 0 0 zR]=G1:=⟨_,rfl⟩
  rw[hG1]at hput ⊢
  simp -implicitDefEqProofs (maxDischargeDepth:=4) only[go_sem,k2,k3,k4,h0,hput]
  exact⟨_,rfl,by simp only[go_sem,k2],by simp only[go_sem,k3],by simp only[go_sem,k4]⟩
 obtain⟨fr2,p2,F2⟩:∃fr2,ex cx D 0 88 43 (.region 2 g88_2 false) fr1 [fctB cv ov pv qv,staB (lv.tmod 1000) dp R,staB 0 0 zR]=some (.normal,fr2,[fctB cv ov pv qv,staB (lv.tmod 1000) dp R,staB 0 0 zR])∧SmF fr2 0:=by
  simp -implicitDefEqProofs (maxDischargeDepth:=4) only[go_sem]
  exact⟨_,rfl,by simp only[go_sem,m2],by simp only[go_sem,m3],by simp only[go_sem,m4],by simp only[go_sem];rfl⟩
 obtain⟨fr3,p3,F3⟩:=sm_loop (lv:=lv.tmod 1000) (dp:=dp) h hl 16 0 fr2 rfl (Nat.zero_le _) F2
 rw[mpt_zero]at p3
 have eb:ex cx D 0 88 43 (.block 0 (.loop l88_0)) fr2 [fctB cv ov pv qv,staB (lv.tmod 1000) dp R,staB 0 0 zR]=some (.normal,fr3,[fctB cv ov pv qv,staB (lv.tmod 1000) dp (R.map (smS cls.length)),staB 0 0 zR]):=by rw[x_block,x_loop,p3];rfl
 have hl2:(R.map (smS cls.length)).length=16:=by rw[List.length_map,hl]
 have hlen2:=stC_len (lv:=lv.tmod 1000) (dp:=dp) hl2
 have hsh2:=stC_shr (lv.tmod 1000) dp (R.map (smS cls.length))
 have hta2:(stC (lv.tmod 1000) dp (R.map (smS cls.length))).take 50=stC (lv.tmod 1000) dp (R.map (smS cls.length)):=List.take_of_length_le (by omega)
 have hz:(stC 0 0 zR).length=50:=stC_len rfl
 rw[c88,x_cont1 p0,x_cont1 p1,x_assoc,x_cont1 p2,x_cont1 eb]
 unfold staB
 generalize stC (lv.tmod 1000) dp (R.map (smS cls.length))=S at *
 generalize stC 0 0 zR=Z at *
 simp -implicitDefEqProofs (maxDischargeDepth:=4) only[go_sem,F3.f3,F3.f4,hlen2,hsh2,hta2,hz]
 exact⟨_,rfl⟩
theorem small_ok(h:FtOk cv ov pv qv cls){R:List Slo}(hl:R.length=16):pcall D 88 [.agg (ftC cv ov pv qv),.agg (stC lv dp R)]=some (.agg (stC (lv.tmod 1000) dp (R.map (smS cls.length)))):=by
 obtain⟨H',e⟩:=small_call (lv:=lv) (dp:=dp) h hl
 rw[pcall_eq (H':=H') (by rw[h.cl22];exact e)]
 show some (AV.agg (iv (lv.tmod 1000)::iv dp::(rgC (R.map (smS cls.length))).map (frz0 0 H')))=_
 rw[rgC_frz]
 rfl
end
open Go.Gr
abbrev paV(b:Bool)(x:Int×Int):AV:=.agg [bv b,iv x.1,iv x.2]
theorem build119_1:abuild cx.T 119 [(0,.lit (.int .i64 1))]=some (.agg [iv 1,iv 0,iv 0]):=nk
theorem build119_0:abuild cx.T 119 []=some (.agg [iv 0,iv 0,iv 0]):=nk
theorem build119_2(a b:Int):abuild cx.T 119 [(0,.lit (.int .i64 2)),(1,.lit (.int .i64 a)),(2,.lit (.int .i64 b))]=some (.agg [iv 2,iv a,iv b]):=nk
section
variable {cv ov pv:AV} {cls:List Cl} {ofs:List Nat} {prs:List Int}
theorem slot_call(t:TbOk cv ov pv cls ofs prs)(I:TbIn cls ofs prs)(m:Int)(b:Bool)(x:Int×Int){H:Hp}{ro:Nat}(hro:ro≤H.length):∃H' r w,callB cx D ro 140 [.agg [cv,ov,pv],iv m,paV b x] H=some (.tup [.agg (slC r),bv w],H'):=by
 obtain⟨n,o⟩:=x
 obtain⟨k,hk⟩:∃k,H.length=k:=⟨_,rfl⟩
 rw[hk]at hro
 have c1:∀j,ro≤k+j:=fun j=>by omega
 have c2:∀j,¬k+j<ro:=fun j=>by omega
 have c3:¬k<ro:=by omega
 rw[c140]
 cases b with
 | false =>
  simp -implicitDefEqProofs (maxDischargeDepth:=4) only[go_sem,hk,hro,c1,c2,c3,t.c.shr,t.c.drp,t.c.fitA,t.o.shr,t.o.drp,t.o.fitA,t.p.shr,t.p.drp,t.p.fitA,build119_0,build119_1,build119_2]
  exact⟨_,(1,0,0),true,rfl⟩
 | true =>
  by_cases h0:n<0
  ·simp -implicitDefEqProofs (maxDischargeDepth:=4) only[go_sem,hk,hro,c1,c2,c3,h0,t.c.shr,t.c.drp,t.c.fitA,t.o.shr,t.o.drp,t.o.fitA,t.p.shr,t.p.drp,t.p.fitA,build119_0,build119_1,build119_2]
   exact⟨_,(0,0,0),false,rfl⟩
  by_cases h1:m≤n
  ·simp -implicitDefEqProofs (maxDischargeDepth:=4) only[go_sem,hk,hro,c1,c2,c3,h0,h1,t.c.shr,t.c.drp,t.c.fitA,t.o.shr,t.o.drp,t.o.fitA,t.p.shr,t.p.drp,t.p.fitA,build119_0,build119_1,build119_2]
   exact⟨_,(0,0,0),false,rfl⟩
  obtain⟨h78,_⟩:=type_ok t I n o
  generalize tyF cls ofs prs n o=u at h78
  obtain⟨u1,u2⟩:=u
  simp -implicitDefEqProofs (maxDischargeDepth:=4) only[go_sem,hk,hro,c1,c2,c3,h0,h1,h78,t.c.shr,t.c.drp,t.c.fitA,t.c.shut0,t.o.shr,t.o.drp,t.o.fitA,t.o.shut0,t.p.shr,t.p.drp,t.p.fitA,t.p.shut0,build119_2]
  exact⟨_,(2,u1,u2),true,rfl⟩
end
theorem of_in{ns T:List Nd}{cls:List Cl}{ofs:List Nat}{prs:List Int}(g:OrdOk ns)(d:OfOk ns T cls ofs prs):TbIn cls ofs prs:=by
 obtain⟨H,rfl,rfl,C⟩:=d
 have hfr:∀y∈T,NdOk y:=fun y hy=>by
  obtain⟨i,hi⟩:=List.getElem?_of_mem hy
  have hil:=(List.getElem?_eq_some_iff.1 hi).1
  have hln:=H.ln
  by_cases h:i<ns.length
  ·obtain⟨x,hx⟩:=ex_nd (ns:=ns) h
   obtain⟨y',hy',hh⟩:=H.h1 i x hx
   rw[hi]at hy'
   cases hy'
   exact hh.2.2.2.2.2.2
  ·obtain⟨j,rfl⟩:∃j,i=ns.length+j:=⟨i-ns.length,by omega⟩
   obtain⟨x,hx⟩:=ex_nd (ns:=ns) (i:=j) (by omega)
   obtain⟨y',hy',hh⟩:=H.h2 j x hx
   rw[hi]at hy'
   cases hy'
   exact hh.2.2.2.2.2.2
 have hle:=g.le
 have du:Du ns T (.vec 6 .exact (T.map nodeV)):=⟨g,H,⟨.inl rfl,hfr,by have:=H.ln;omega⟩⟩
 have hlt:∀j,j<T.length→(clsO T (atsOf T)).getD j 0<cls.length:=fun j hj=>by rw[C.len];exact clsO_lt hj
 have key:∀z∈cls,∃x∈T,z.ch=x.chan∧z.py=payE T (atsOf T) (clsO T (atsOf T)) x∧z.nx=nxL T (atsOf T) (clsO T (atsOf T)) x:=fun z hz=>by
  obtain⟨k,hk⟩:=List.getElem?_of_mem hz
  have hkl:=(List.getElem?_eq_some_iff.1 hk).1
  rw[C.len]at hkl
  obtain⟨j,hj,hjk⟩:=(num_ok (eiR_eqv T.length) T.length (Nat.le_refl _)).on k hkl
  have hjk':(clsO T (atsOf T)).getD j 0=k:=by
   unfold clsO
   rw[cn_num _ _ hj]
   exact hjk
  obtain⟨z',j',hj',_,hz',I⟩:=C.at' j hj
  rw[hjk',hk]at hz'
  cases hz'
  obtain⟨x,x1,x2,x3,x4,x5⟩:=du.no5 hj'
  exact⟨x,List.mem_of_getElem? x1,by rw[I.ch,x2],by rw[I.py,x2],by rw[I.nx,x2]⟩
 refine⟨by rw[List.length_map,List.length_range,clsO_len],fun i hi=>hlt i (by rw[clsO_len]at hi;exact hi),fun z hz e he=>?_,fun z hz hc=>?_⟩
 ·obtain⟨x,hx,_,_,h3⟩:=key z hz
  rw[h3]at he
  obtain⟨e0,h0,rfl⟩:=List.mem_map.1 he
  exact⟨_,rfl,hlt _ (du.to_lt hx (by unfold oE;exact List.mem_append_left _ h0))⟩
 ·obtain⟨x,hx,h1,h2,_⟩:=key z hz
  rw[h2]
  unfold payE
  rw[if_pos (by rw[←h1];exact hc)]
  exact⟨_,rfl,hlt _ (du.to_lt hx (by unfold oE;rw[if_pos (by rw[←h1];exact hc)];exact List.mem_append_right _ (List.mem_singleton.2 rfl)))⟩
open Go.Gr
abbrev nl:AV:=.lit (.slice none 0 0)
abbrev mdB(a p x2 x3 x4 x5 x6 x7:AV):ABlock:=.cells 8 117 [.agg [a,p,x2,x3,x4,x5,x6,x7]]
structure Oth(x2 x3 x4 x5 x6 x7:AV):Prop where
 h2:∃sz l,Sl sz x2 l
 h3:∃sz l,Sl sz x3 l
 h4:∃sz l,Sl sz x4 l
 h5:∃sz l,Sl sz x5 l
 h6:∃sz l,Sl sz x6 l
 h7:∃sz l,Sl sz x7 l
theorem Oth.nil:Oth nl nl nl nl nl nl:=by
 have h:∃sz l,Sl sz nl l:=⟨1,[],.inr (.inr ⟨rfl,rfl⟩)⟩
 exact⟨h,h,h,h,h,h⟩
structure F87(fr:PT):Prop where
 f1:fr.get 1=.ptr 0 0 0
 f2:fr.get 2=.ptr 1 0 0
 f3:fr.get 3=.ptr 2 0 0
theorem F87.of{fr fr':PT}(F:F87 fr)(h:∀d,(d=1∨d=2∨d=3)→fr'.get d=fr.get d):F87 fr' :=
 ⟨by rw[h 1 (by simp),F.f1],by rw[h 2 (by simp),F.f2],by rw[h 3 (by simp),F.f3]⟩
section
variable {a p x2 x3 x4 x5 x6 x7:AV} {ns:List Nd} {ts:List AV}
abbrev hp87(a p x2 x3 x4 x5 x6 x7 g q:AV):Hp:=[mdB a p x2 x3 x4 x5 x6 x7,mdB nl nl nl nl nl nl nl nl,mdB g q nl nl nl nl nl nl]
theorem few87_a(ha:Sl 6 a (ns.map nodeV))(hok:∀x∈ns,NdOk x){i:Nat}{x:Nd}(hx:ns[i]?=some x)(hi:i<10){fr:PT}(F:F87 fr)(f4:fr.get 4=iv i){g q:AV}{os:List Nd}(hg:Grow 6 g (os.map nodeV))(hle:os.length≤10):
  ∃fr' b Z,ex cx D 0 87 67 (.seq (.seq (.region 3 g87_3 false) (.cond (.tmp 16) .skip (.exit 0))) (.seq (.block 1 (.seq (.region 5 g87_4 false) (.seq (.region 6 g87_5 false) (.region 7 g87_6 false)))) (.region 4 g87_7 false))) fr (hp87 a p x2 x3 x4 x5 x6 x7 g q)=some (.normal,fr',hp87 a p x2 x3 x4 x5 x6 x7 (.vec 6 .own ((os++[cut9 x b]).map nodeV)) q++[Z])∧F87 fr'∧fr'.get 4=iv (i+1:Nat)∧NdOk (cut9 x b):=by
 have hlt:(i:Int)<(ns.length:Int):=by have:=(List.getElem?_eq_some_iff.1 hx).1;omega
 have h10:((i:Int)<10):=by omega
 have w3:=wrap_succ (show i≤1000 by omega)
 have hxo:=hok x (List.mem_of_getElem? hx)
 have hs:Sl 2 x.nx (x.es.map ed):=hxo
 have hat:aindexAddr cx.T 56 a (iv i)=some (.vp (nodeV x) 0):=by
  rw[aindexAddr_sl ha sl56 (by rw[List.length_map];omega) rfl]
  simp[List.getD_eq_getElem?_getD,hx]
 have hm:aminmax false [iv x.es.length,iv 9]=some (iv ((min x.es.length 9:Nat):Int)):=min_lit x.es.length 9
 obtain⟨b,hb1,hb2⟩:=nx_cut hxo
 have hap:apV 6 64 [nodeV (cut9 x b)] g=some (.vec 6 .own (os.map nodeV++[nodeV (cut9 x b)])):=by
  rcases hg with rfl | ⟨rfl,he⟩
  ·exact apV_own (ap_small6 (by rw[List.length_map];omega)) (by decide)
  ·rw[he];exact apV_none (show (0+1)*(64+1)≤1099511627776 by decide) (by decide)
 have hnew:os.map nodeV++[nodeV (cut9 x b)]=(os++[cut9 x b]).map nodeV:=by rw[List.map_append];rfl
 have hcx:NdOk (cut9 x b):=hb2
 have sc:Sl 2 (cut9 x b).nx ((cut9 x b).es.map ed):=hcx
 have ea:elP false 1 a 0=some a:=elP_Sl ha
 obtain⟨fr1,e1,F1,k4⟩:∃fr1:PT,ex cx D 0 87 67 (.seq (.region 3 g87_3 false) (.cond (.tmp 16) .skip (.exit 0))) fr (hp87 a p x2 x3 x4 x5 x6 x7 g q)=some (.normal,fr1,hp87 a p x2 x3 x4 x5 x6 x7 g q)∧F87 fr1∧fr1.get 4=iv i:=by
  simp -implicitDefEqProofs (maxDischargeDepth:=4) only[go_sem,F.f1,f4,ha.shr,ha.notOwn,alen_sl ha,List.length_map,hlt,h10]
  exact⟨_,rfl,F.of fun d hd=>by rcases hd with rfl | rfl | rfl<;>simp only[go_sem],by simp only[go_sem,f4]⟩
 obtain⟨fr2,e2,F2,m4,k5⟩:∃fr2:PT,ex cx D 0 87 67 (.region 5 g87_4 false) fr1 (hp87 a p x2 x3 x4 x5 x6 x7 g q)=some (.normal,fr2,hp87 a p x2 x3 x4 x5 x6 x7 g q++[.cells 6 66 [nodeV x]])∧F87 fr2∧fr2.get 4=iv i∧fr2.get 5=.ptr 3 0 0:=by
  simp -implicitDefEqProofs (maxDischargeDepth:=4) only[go_sem,F1.f1,k4,ha.shr,ha.notOwn,hat,hs.shr,hs.notOwn,hs.drp,hs.fitA,Nat.zero_le,Nat.le_refl,Nat.not_lt_zero]
  exact⟨_,rfl,F1.of fun d hd=>by rcases hd with rfl | rfl | rfl<;>simp only[go_sem],by simp only[go_sem,k4],by simp only[go_sem]⟩
 obtain⟨fr3,e3,F3,n4,l5⟩:∃fr3:PT,ex cx D 0 87 67 (.region 6 g87_5 false) fr2 (hp87 a p x2 x3 x4 x5 x6 x7 g q++[.cells 6 66 [nodeV x]])=some (.normal,fr3,hp87 a p x2 x3 x4 x5 x6 x7 g q++[.cells 6 66 [nodeV (cut9 x b)]])∧F87 fr3∧fr3.get 4=iv i∧fr3.get 5=.ptr 3 0 0:=by
  simp -implicitDefEqProofs (maxDischargeDepth:=4) only[go_sem,k5,hs.shr,hs.notOwn,hs.drp,elP_Sl hs,alen_sl hs,List.length_map,hm,hb1,hb2.shr,hb2.notOwn,hb2.drp,hb2.fitA,Nat.not_lt_zero]
  exact⟨_,rfl,F2.of fun d hd=>by rcases hd with rfl | rfl | rfl<;>simp only[go_sem],by simp only[go_sem,m4],by simp only[go_sem,k5]⟩
 obtain⟨fr4,e4,F4,o4⟩:∃fr4:PT,ex cx D 0 87 67 (.region 7 g87_6 false) fr3 (hp87 a p x2 x3 x4 x5 x6 x7 g q++[.cells 6 66 [nodeV (cut9 x b)]])=some (.normal,fr4,hp87 a p x2 x3 x4 x5 x6 x7 (.vec 6 .own ((os++[cut9 x b]).map nodeV)) q++[.cells 6 66 [nodeV (cut9 x b)]])∧F87 fr4∧fr4.get 4=iv i:=by
  rw[←hnew]
  rcases hg with rfl | ⟨rfl,he⟩
  ·simp -implicitDefEqProofs (maxDischargeDepth:=4) only[go_sem,F3.f3,l5,sc.shr,sc.notOwn,sc.drp,sc.cl0,hap,Nat.zero_le,Nat.le_refl,Nat.not_lt_zero]
   exact⟨_,rfl,F3.of fun d hd=>by rcases hd with rfl | rfl | rfl<;>simp only[go_sem],by simp only[go_sem,n4]⟩
  ·simp -implicitDefEqProofs (maxDischargeDepth:=4) only[go_sem,F3.f3,l5,sc.shr,sc.notOwn,sc.drp,sc.cl0,hap,Nat.zero_le,Nat.le_refl,Nat.not_lt_zero]
   exact⟨_,rfl,F3.of fun d hd=>by rcases hd with rfl | rfl | rfl<;>simp only[go_sem],by simp only[go_sem,n4]⟩
 obtain⟨fr5,e5,F5,p4⟩:∃fr5:PT,ex cx D 0 87 67 (.region 4 g87_7 false) fr4 (hp87 a p x2 x3 x4 x5 x6 x7 (.vec 6 .own ((os++[cut9 x b]).map nodeV)) q++[.cells 6 66 [nodeV (cut9 x b)]])=some (.normal,fr5,hp87 a p x2 x3 x4 x5 x6 x7 (.vec 6 .own ((os++[cut9 x b]).map nodeV)) q++[.cells 6 66 [nodeV (cut9 x b)]])∧F87 fr5∧fr5.get 4=iv (i+1:Nat):=by
  simp -implicitDefEqProofs (maxDischargeDepth:=4) only[go_sem,o4,w3]
  exact⟨_,rfl,F4.of fun d hd=>by rcases hd with rfl | rfl | rfl<;>simp only[go_sem],by simp only[go_sem]⟩
 have eb:ex cx D 0 87 67 (.block 1 (.seq (.region 5 g87_4 false) (.seq (.region 6 g87_5 false) (.region 7 g87_6 false)))) fr1 (hp87 a p x2 x3 x4 x5 x6 x7 g q)=some (.normal,fr4,hp87 a p x2 x3 x4 x5 x6 x7 (.vec 6 .own ((os++[cut9 x b]).map nodeV)) q++[.cells 6 66 [nodeV (cut9 x b)]]):=by
  rw[x_block,x_cont1 e2,x_cont1 e3,e4];rfl
 exact⟨fr5,b,_,by rw[x_cont1 e1,x_cont1 eb,e5],F5,p4,hcx⟩
end
open Go.Gr
theorem sl_k0{sz:Nat}{a:AV}{els:List AV}(s:Sl sz a els)(m:Nat):kill0 m a=a:=by
 rcases s with rfl | rfl | ⟨rfl,_⟩<;>rfl
abbrev paW(x:Bool×Int×Int):AV:=paV x.1 x.2
def TmOk(x:AV):Prop:=∃(p y z:AV)(l:List (Bool×Int×Int)),x=.agg [p,y,z]∧Sl 3 p (l.map paW)
def TmN(x:AV):Prop:=∃(p:AV)(l:List (Bool×Int×Int)),x=.agg [p,nl,nl]∧Sl 3 p (l.map paW)∧l.length≤10
theorem build143{b:AV}{l:List AV}(h:Sl 3 b l):abuild cx.T 143 [(0,b)]=some (.agg [b,nl,nl]):=by
 rcases h with rfl | rfl | ⟨rfl,_⟩
 ·exact nk
 ·exact nk
 ·exact nk
section
variable {a p x2 x3 x4 x5 x6 x7:AV} {ns:List Nd} {ts:List AV}
theorem mdB_k{sz1 sz2:Nat}{l1 l2:List AV}(ha:Sl sz1 a l1)(hp:Sl sz2 p l2)(o:Oth x2 x3 x4 x5 x6 x7)(m:Nat):killB m (mdB a p x2 x3 x4 x5 x6 x7)=mdB a p x2 x3 x4 x5 x6 x7:=by
 obtain⟨⟨_,_,h2⟩,⟨_,_,h3⟩,⟨_,_,h4⟩,⟨_,_,h5⟩,⟨_,_,h6⟩,⟨_,_,h7⟩⟩:=o
 show ABlock.cells 8 117 [.agg [kill0 m a,kill0 m p,kill0 m x2,kill0 m x3,kill0 m x4,kill0 m x5,kill0 m x6,kill0 m x7]]=_
 rw[sl_k0 ha,sl_k0 hp,sl_k0 h2,sl_k0 h3,sl_k0 h4,sl_k0 h5,sl_k0 h6,sl_k0 h7]
theorem F87.kl{fr:PT}(F:F87 fr):F87 (fr.map (kill 3)) :=
 ⟨by rw[get_mapkill,F.f1,kill_ptr (by decide)],by rw[get_mapkill,F.f2,kill_ptr (by decide)],by rw[get_mapkill,F.f3,kill_ptr (by decide)]⟩
theorem few87_l0{szp:Nat}(ha:Sl 6 a (ns.map nodeV))(hok:∀x∈ns,NdOk x)(hp:Sl szp p ts)(o:Oth x2 x3 x4 x5 x6 x7):
  ∀(d i:Nat)(fr:PT)(g:AV)(os:List Nd),10-i=d→i≤10→F87 fr→fr.get 4=iv i→Grow 6 g (os.map nodeV)→os.length=i→(∀x∈os,NdOk x)→
  ∃(fr':PT)(g':AV)(os':List Nd),D.loop 0 87 67 l87_0 fr (hp87 a p x2 x3 x4 x5 x6 x7 g nl)=some (.exit 0,fr',hp87 a p x2 x3 x4 x5 x6 x7 g' nl)∧F87 fr'∧Grow 6 g' (os'.map nodeV)∧os'.length≤10∧∀x∈os',NdOk x
 | 0,i,fr,g,os,hd,hi,F,f4,hg,hl,ho=>by
  have h10:¬((i:Int)<10):=by omega
  by_cases hlt:(i:Int)<(ns.length:Int)
  ·rw[dl87_0]
   simp -implicitDefEqProofs (maxDischargeDepth:=4) only[go_sem,F.f1,f4,ha.shr,ha.notOwn,alen_sl ha,List.length_map,hlt,h10]
   exact⟨_,g,os,rfl,F.of fun d hd=>by rcases hd with rfl | rfl | rfl<;>simp only[go_sem],hg,by omega,ho⟩
  ·rw[dl87_0]
   simp -implicitDefEqProofs (maxDischargeDepth:=4) only[go_sem,F.f1,f4,ha.shr,ha.notOwn,alen_sl ha,List.length_map,hlt,h10]
   exact⟨_,g,os,rfl,F.of fun d hd=>by rcases hd with rfl | rfl | rfl<;>simp only[go_sem],hg,by omega,ho⟩
 | d+1,i,fr,g,os,hd,hi,F,f4,hg,hl,ho=>by
  by_cases hlt:(i:Int)<(ns.length:Int)
  rotate_left
  ·rw[dl87_0]
   simp -implicitDefEqProofs (maxDischargeDepth:=4) only[go_sem,F.f1,f4,ha.shr,ha.notOwn,alen_sl ha,List.length_map,hlt]
   exact⟨_,g,os,rfl,F.of fun d hd=>by rcases hd with rfl | rfl | rfl<;>simp only[go_sem],hg,by omega,ho⟩
  obtain⟨x,hx⟩:=ex_nd (ns:=ns) (i:=i) (by omega)
  obtain⟨fr1,b,Z,e1,F1,k4,hcx⟩:=few87_a (p:=p) (x2:=x2) (x3:=x3) (x4:=x4) (x5:=x5) (x6:=x6) (x7:=x7) (q:=nl) ha hok hx (show i<10 by omega) F f4 hg (by omega)
  have hg':Grow 6 (.vec 6 .own ((os++[cut9 x b]).map nodeV)) ((os++[cut9 x b]).map nodeV):=.inl rfl
  obtain⟨fr2,g2,os2,e2,F2,r⟩:=few87_l0 ha hok hp o d (i+1) (fr1.map (kill 3)) _ (os++[cut9 x b]) (nd1 hd) (nd2 hd) F1.kl (by rw[get_mapkill,k4];rfl) hg' (by rw[List.length_append,hl];rfl) (fun y hy=>by
   rw[List.mem_append,List.mem_singleton]at hy
   rcases hy with hy | rfl
   ·exact ho y hy
   ·exact hcx)
  refine⟨fr2,g2,os2,?_,F2,r⟩
  rw[dl87_0,e1,xbind_some,contR_normal]
  rw[show (hp87 a p x2 x3 x4 x5 x6 x7 g nl).length=3 from rfl,show hp87 a p x2 x3 x4 x5 x6 x7 (.vec 6 .own ((os++[cut9 x b]).map nodeV)) nl++[Z]=[mdB a p x2 x3 x4 x5 x6 x7,mdB nl nl nl nl nl nl nl nl,mdB (.vec 6 .own ((os++[cut9 x b]).map nodeV)) nl nl nl nl nl nl nl,Z] from rfl,trim43,mdB_k ha hp o,
   show killB 3 (mdB nl nl nl nl nl nl nl nl)=mdB nl nl nl nl nl nl nl nl from rfl,show killB 3 (mdB (.vec 6 .own ((os++[cut9 x b]).map nodeV)) nl nl nl nl nl nl nl)=mdB (.vec 6 .own ((os++[cut9 x b]).map nodeV)) nl nl nl nl nl nl nl from rfl]
  exact e2
theorem few87_l1{g:AV}{szg:Nat}{lg:List AV}(hg:Grow szg g lg)(hp:Sl 3 p ts)(ht:∀x∈ts,TmOk x)(o:Oth x2 x3 x4 x5 x6 x7):
  ∀(d i:Nat)(fr:PT)(q:AV)(us:List AV),4-i=d→i≤4→F87 fr→fr.get 6=iv i→Grow 3 q us→us.length=i→(∀x∈us,TmN x)→
  ∃(fr':PT)(q':AV)(us':List AV),D.loop 0 87 67 l87_1 fr (hp87 a p x2 x3 x4 x5 x6 x7 g q)=some (.exit 2,fr',hp87 a p x2 x3 x4 x5 x6 x7 g q')∧F87 fr'∧Grow 3 q' us'∧us'.length≤4∧∀x∈us',TmN x
 | 0,i,fr,q,us,hd,hi,F,f6,hq,hl,ho=>by
  have h4:¬((i:Int)<4):=by omega
  by_cases hlt:(i:Int)<(ts.length:Int)
  ·rw[dl87_1]
   simp -implicitDefEqProofs (maxDischargeDepth:=4) only[go_sem,F.f1,f6,hp.shr,hp.notOwn,alen_sl hp,hlt,h4]
   exact⟨_,q,us,rfl,F.of fun d hd=>by rcases hd with rfl | rfl | rfl<;>simp only[go_sem],hq,by omega,ho⟩
  ·rw[dl87_1]
   simp -implicitDefEqProofs (maxDischargeDepth:=4) only[go_sem,F.f1,f6,hp.shr,hp.notOwn,alen_sl hp,hlt,h4]
   exact⟨_,q,us,rfl,F.of fun d hd=>by rcases hd with rfl | rfl | rfl<;>simp only[go_sem],hq,by omega,ho⟩
 | d+1,i,fr,q,us,hd,hi,F,f6,hq,hl,ho=>by
  by_cases hlt:(i:Int)<(ts.length:Int)
  rotate_left
  ·rw[dl87_1]
   simp -implicitDefEqProofs (maxDischargeDepth:=4) only[go_sem,F.f1,f6,hp.shr,hp.notOwn,alen_sl hp,hlt]
   exact⟨_,q,us,rfl,F.of fun d hd=>by rcases hd with rfl | rfl | rfl<;>simp only[go_sem],hq,by omega,ho⟩
  have h4:((i:Int)<4):=by omega
  have w3:=wrap_succ (show i≤1000 by omega)
  obtain⟨x,hx⟩:∃x,ts[i]?=some x:=⟨_,List.getElem?_eq_getElem (by omega)⟩
  obtain⟨pp,y,z,l,rfl,hs⟩:=ht x (List.mem_of_getElem? hx)
  have hat:aindexAddr cx.T 113 p (iv i)=some (.vp (.agg [pp,y,z]) 0):=by
   rw[aindexAddr_sl hp sl113 (by omega) rfl]
   simp[List.getD_eq_getElem?_getD,hx]
  have hm:aminmax false [iv l.length,iv 10]=some (iv ((min l.length 10:Nat):Int)):=min_lit l.length 10
  obtain⟨b,hb1,hb2⟩:=aslice_take (n:=min l.length 10) hs sl140 (by rw[List.length_map];omega)
  have hbd:=build143 hb2
  have hnew:TmN (.agg [b,nl,nl]):=⟨b,l.take (min l.length 10),rfl,by rw[List.map_take];exact hb2,by rw[List.length_take];omega⟩
  obtain⟨fr1,e1,F1,k6⟩:∃fr1:PT,ex cx D 0 87 67 (.seq (.region 9 g87_9 false) (.cond (.tmp 46) .skip (.exit 2))) fr (hp87 a p x2 x3 x4 x5 x6 x7 g q)=some (.normal,fr1,hp87 a p x2 x3 x4 x5 x6 x7 g q)∧F87 fr1∧fr1.get 6=iv i:=by
   simp -implicitDefEqProofs (maxDischargeDepth:=4) only[go_sem,F.f1,f6,hp.shr,hp.notOwn,alen_sl hp,hlt,h4]
   exact⟨_,rfl,F.of fun d hd=>by rcases hd with rfl | rfl | rfl<;>simp only[go_sem],by simp only[go_sem,f6]⟩
  obtain⟨fr2,e2,F2,m6,k7⟩:∃fr2:PT,ex cx D 0 87 67 (.region 11 g87_10 false) fr1 (hp87 a p x2 x3 x4 x5 x6 x7 g q)=some (.normal,fr2,hp87 a p x2 x3 x4 x5 x6 x7 g q)∧F87 fr2∧fr2.get 6=iv i∧fr2.get 7=pp:=by
   simp -implicitDefEqProofs (maxDischargeDepth:=4) only[go_sem,F1.f1,k6,hp.shr,hp.notOwn,hat,hs.shr,hs.notOwn,hs.drp,hs.fitA,Nat.zero_le,Nat.le_refl,Nat.not_lt_zero]
   exact⟨_,rfl,F1.of fun d hd=>by rcases hd with rfl | rfl | rfl<;>simp only[go_sem],by simp only[go_sem,k6],by simp only[go_sem]⟩
  have hap:apV 3 72 [.agg [b,nl,nl]] q=some (.vec 3 .own (us++[.agg [b,nl,nl]])):=by
   rcases hq with rfl | ⟨rfl,he⟩
   ·exact apV_own (show (us.length+(0+1))*(72+1)≤1099511627776 by omega) (by decide)
   ·rw[he];exact apV_none (show (0+1)*(72+1)≤1099511627776 by decide) (by decide)
  obtain⟨fr3,e3,F3,n6⟩:∃fr3:PT,ex cx D 0 87 67 (.region 12 g87_11 true) fr2 (hp87 a p x2 x3 x4 x5 x6 x7 g q)=some (.normal,fr3,hp87 a p x2 x3 x4 x5 x6 x7 g (.vec 3 .own (us++[.agg [b,nl,nl]])))∧F87 fr3∧fr3.get 6=iv i:=by
   rcases hq with rfl | ⟨rfl,he⟩
   ·simp -implicitDefEqProofs (maxDischargeDepth:=4) only[go_sem,F2.f3,k7,hs.shr,hs.notOwn,hs.drp,hs.shut1,hs.lenRd,alen_sl hs,List.length_map,hm,hb1,hb2.shr,hb2.notOwn,hb2.drp,hb2.fitA,hb2.cl0,hbd,hap,nbeq,Nat.zero_le,Nat.le_refl,Nat.not_lt_zero]
    exact⟨_,rfl,F2.of fun d hd=>by rcases hd with rfl | rfl | rfl<;>simp only[go_sem],by simp only[go_sem,m6]⟩
   ·simp -implicitDefEqProofs (maxDischargeDepth:=4) only[go_sem,F2.f3,k7,hs.shr,hs.notOwn,hs.drp,hs.shut1,hs.lenRd,alen_sl hs,List.length_map,hm,hb1,hb2.shr,hb2.notOwn,hb2.drp,hb2.fitA,hb2.cl0,hbd,hap,nbeq,Nat.zero_le,Nat.le_refl,Nat.not_lt_zero]
    exact⟨_,rfl,F2.of fun d hd=>by rcases hd with rfl | rfl | rfl<;>simp only[go_sem],by simp only[go_sem,m6]⟩
  obtain⟨fr4,e4,F4,o6⟩:∃fr4:PT,ex cx D 0 87 67 (.region 10 g87_12 false) fr3 (hp87 a p x2 x3 x4 x5 x6 x7 g (.vec 3 .own (us++[.agg [b,nl,nl]])))=some (.normal,fr4,hp87 a p x2 x3 x4 x5 x6 x7 g (.vec 3 .own (us++[.agg [b,nl,nl]])))∧F87 fr4∧fr4.get 6=iv (i+1:Nat):=by
   simp -implicitDefEqProofs (maxDischargeDepth:=4) only[go_sem,n6,w3]
   exact⟨_,rfl,F3.of fun d hd=>by rcases hd with rfl | rfl | rfl<;>simp only[go_sem],by simp only[go_sem]⟩
  have eb:ex cx D 0 87 67 (.block 3 (.seq (.region 11 g87_10 false) (.region 12 g87_11 true))) fr1 (hp87 a p x2 x3 x4 x5 x6 x7 g q)=some (.normal,fr3,hp87 a p x2 x3 x4 x5 x6 x7 g (.vec 3 .own (us++[.agg [b,nl,nl]]))):=by
   rw[x_block,x_cont1 e2,e3];rfl
  obtain⟨fr5,q5,us5,e5,r⟩:=few87_l1 hg hp ht o d (i+1) fr4 _ (us++[.agg [b,nl,nl]]) (nd1 hd) (nd2 hd) F4 o6 (.inl rfl) (by rw[List.length_append,hl];rfl) (fun w hw=>by
   rw[List.mem_append,List.mem_singleton]at hw
   rcases hw with hw | rfl
   ·exact ho w hw
   ·exact hnew)
  refine⟨fr5,q5,us5,?_,r⟩
  rw[dl87_1,x_cont1 e1,x_cont1 eb,e4,xbind_some,contR_normal,trimmed_l (n:=(hp87 a p x2 x3 x4 x5 x6 x7 g q).length) (H:=hp87 a p x2 x3 x4 x5 x6 x7 g (.vec 3 .own (us++[AV.agg [b,nl,nl]]))) rfl]
  exact e5
end
end Go.Abs.Tab
