/- Classes: the document's links. -/
import Derived.Test.YtiinagmombigpaaWkC
import Derived.Test.YtiinagmombigpaaWkA
import Derived.Test.YtiinagmombigpaaFnB
set_option linter.unnecessarySimpa false
set_option linter.unusedSimpArgs false
set_option linter.unusedVariables false
namespace Go.Abs.Tab
open Go.Gr
theorem Du.cls_tgt{ns T:List Nd}{tv:AV}(d:Du ns T tv){i:Nat}(hi:i<T.length):(clsO T (atsOf T)).getD (tgt T i) 0=(clsO T (atsOf T)).getD i 0:=by
 have ht:=d.tgt_lt hi
 unfold clsO
 rw[cn_num _ _ ht,cn_num _ _ hi]
 refine((num_ok (eiR_eqv (L:=labI T (atsOf T)) (S:=sucJ T (atsOf T)) T.length) T.length (Nat.le_refl _)).eq _ _ ht hi).2 (eiR_iff.2 fun k=>?_)
 obtain⟨a1,a2⟩:=d.lab_tgt hi
 cases k with
 | zero=>trivial
 | succ k =>
  have:=EK_refl (L:=labI T (atsOf T)) (S:=sucJ T (atsOf T)) (k+1) i
  show _∧_∧_
  rw[a1,a2]
  exact this
theorem link133{ns T:List Nd}{tv:AV}(d:Du ns T tv){q:Nat}{x:Nd}(hx:T[q]?=some x){e:Int×Int}(he:e∈oE x){cv ov pv:AV}{L L':List AV}{N:Nat}(hc:Sl N cv L)(ho:Sl 1 ov ((clsO T (atsOf T)).map nv))(hp:Sl 1 pv L'):
  pcall D 133 [tv,.agg [cv,ov,pv],iv q,ed e]=some (ed (lkE T (atsOf T) (clsO T (atsOf T)) x.prio e)):=by
 have hto:=d.to_lt (List.mem_of_getElem? hx) he
 have pl:=place_ok d hx he
 have hv:lkE T (atsOf T) (clsO T (atsOf T)) x.prio e=(((clsO T (atsOf T)).getD (tgt T e.1.toNat) 0:Int),jmpE T (atsOf T) x.prio e):=by
  rw[d.cls_tgt hto]
  rfl
 rw[hv]
 have htl:=d.tgt_lt hto
 have a1:aindexAddr cx.T 31 ov (iv (tgt T e.1.toNat))=some (.vp (nv ((clsO T (atsOf T)).getD (tgt T e.1.toNat) 0)) 0):=by rw[aindexAddr_sl ho sl31 (by rw[List.length_map,clsO_len];exact htl) rfl,get_nv (by rw[clsO_len];exact htl)]
 generalize tgt T e.1.toNat=t at *
 generalize jmpE T (atsOf T) x.prio e=j at *
 generalize (clsO T (atsOf T)).getD t 0=z at *
 have run:∃H',callB cx D 0 133 [tv,.agg [cv,ov,pv],iv q,ed e] []=some (ed ((z:Int),j),H'):=by
  rw[c133]
  obtain⟨e1,e2⟩:=e
  simp -implicitDefEqProofs (maxDischargeDepth:=4) only[go_sem,d.n.sl.shr,d.n.sl.notOwn,d.n.sl.drp,d.n.sl.shut1,hc.shr,hc.notOwn,hc.drp,hc.fitA,ho.shr,ho.notOwn,ho.drp,ho.fitA,hp.shr,hp.notOwn,hp.drp,hp.fitA,pl,a1,build108,Nat.zero_le,Nat.le_refl,Nat.not_lt_zero,List.set_cons_zero,List.set_cons_succ]
  exact⟨_,rfl⟩
 obtain⟨H',h⟩:=run
 rw[pcall_eq (v:=ed ((z:Int),j)) (H':=H') (by
  show callB cx D 0 133 [cl2 tv,.agg [cl0 cv,cl0 ov,cl0 pv],iv q,ed e] []=_
  rw[d.n.sl.cl2,hc.cl0,ho.cl0,hp.cl0]
  exact h)]
 rfl
theorem build111b(k d:Int)(c:Bool):abuild cx.T 111 [(0,iv k),(1,iv d),(2,bv c)]=some (.agg [iv k,iv d,bv c,iv 0,iv 0,.lit (.slice none 0 0)]):=nk
structure EdF(fr:PT)(a tv:AV)(N:Nat)(g:AV)(c n k:Nat):Prop extends FFr fr a tv N where
 f12:fr.get 12=.ptr c 0 0
 f13:fr.get 13=g
 f19:fr.get 19=iv k
 f20:fr.get 20=.ptr n 0 0
 f21:fr.get 21=.ptr (n+1) 0 0
theorem EdF.of{fr fr':PT}{a tv g:AV}{N c n k:Nat}(F:EdF fr a tv N g c n k)(h:∀t,(t=0∨t=2∨t=6∨t=7∨t=12∨t=13∨t=19∨t=20∨t=21)→fr'.get t=fr.get t):EdF fr' a tv N g c n k :=
 ⟨F.toFFr.of fun t ht=>h t (by rcases ht with rfl | rfl | rfl | rfl<;>simp),by rw[h 12 (by simp),F.f12],by rw[h 13 (by simp),F.f13],by rw[h 19 (by simp),F.f19],by rw[h 20 (by simp),F.f20],by rw[h 21 (by simp),F.f21]⟩
structure EdH(G:Hp)(c n:Nat)(cv ov pv:AV)(x:Nd)(B:ABlock):Prop where
 t:G[0]?=some tZ
 c:G[c]?=some (tB cv ov pv)
 x:G[n]?=some (nX x)
 b:G[n+1]?=some B
structure TbV(T:List Nd)(cv ov pv:AV)(cls:List Cl)(prs:List Int):Prop where
 c:Grow 6 cv (cls.map clW)
 o:Grow 1 ov ((clsO T (atsOf T)).map nv)
 p:Grow 1 pv (prs.map iv)
theorem ed_loop{ns T:List Nd}{a tv g:AV}(d:Du ns T tv){fs:List Nat}(hg:Grow 1 g (fs.map nv)){c n k:Nat}(hkf:k<fs.length){x:Nd}(hx:T[fs.getD k 0]?=some x)(hc:1≤c)(hcn:c<n){cv ov pv:AV}{cls:List Cl}{prs:List Int}(V:TbV T cv ov pv cls prs){kd du:Int}{ch:Bool}{py:Int×Int}:
  ∀(m i:Nat)(fr:PT)(G:Hp)(v:AV),x.es.length-i=m→i≤x.es.length→EdF fr a tv T.length g c n k→fr.get 22=iv i→EdH G c n cv ov pv x (clsB kd du ch py v)→Grow 2 v (((nxL T (atsOf T) (clsO T (atsOf T)) x).take i).map ed)→
  ∃fr' G' v',D.loop 0 74 240 l74_6 fr G=some (.exit 14,fr',G')∧EdF fr' a tv T.length g c n k∧EdH G' c n cv ov pv x (clsB kd du ch py v')∧Grow 2 v' ((nxL T (atsOf T) (clsO T (atsOf T)) x).map ed)
 | 0,i,fr,G,v,hm,hi,F,f22,H,hv=>by
  have hlt:=lp1 hm hi
  have sx:Sl 2 x.nx (x.es.map ed):=d.n.ok x (List.mem_of_getElem? hx)
  rw[List.take_of_length_le (by unfold nxL;rw[List.length_map];omega)]at hv
  rw[dl74_6]
  simp -implicitDefEqProofs (maxDischargeDepth:=4) only[go_sem,F.f20,f22,H.x,sx.shr,sx.notOwn,alen_sl sx,List.length_map,hlt]
  exact⟨_,G,v,rfl,F.of fun t ht=>by rcases ht with rfl | rfl | rfl | rfl | rfl | rfl | rfl | rfl | rfl<;>simp only[go_sem],H,hv⟩
 | m+1,i,fr,G,v,hm,hi,F,f22,H,hv=>by
  have hlt:=lp2 hm
  have hxk:=hx
  have hil:i<x.es.length:=by omega
  have hmx:=List.mem_of_getElem? hx
  have h8:=(d.wf (ofs:=List.replicate T.length 0) List.length_replicate).l8 x hmx
  have w3:=wrap_succ (show i≤1000 by omega)
  have sx:Sl 2 x.nx (x.es.map ed):=d.n.ok x hmx
  have sg:=hg.sl
  have a1:aindexAddr cx.T 31 (shr g) (iv k)=some (.vp (nv (fs.getD k 0)) 0):=by rw[aindexAddr_sl sg sl31 (by rw[List.length_map];exact hkf) rfl,get_nv hkf]
  have e1:=at_ed sx hil
  have hlk:=link133 d hx (es_mem hil) V.c.sl V.o.sl V.p.sl
  have htk:=nxL_take (T:=T) (ats:=atsOf T) (ofs:=clsO T (atsOf T)) hil
  have hgd:(nxL T (atsOf T) (clsO T (atsOf T)) x).getD i (0,0)=lkE T (atsOf T) (clsO T (atsOf T)) x.prio (x.es.getD i (0,0)):=by
   unfold nxL
   rw[List.getD_eq_getElem?_getD,List.getElem?_map,List.getD_eq_getElem?_getD,List.getElem?_eq_getElem hil]
   rfl
  rw[←hgd]at hlk
  generalize (nxL T (atsOf T) (clsO T (atsOf T)) x).getD i (0,0)=p at *
  generalize x.es.getD i (0,0)=e at *
  obtain⟨q,hq⟩:∃q,fs.getD k 0=q:=⟨_,rfl⟩
  rw[hq]at a1 hlk
  have hnl:(((nxL T (atsOf T) (clsO T (atsOf T)) x).take i).map ed).length≤9:=by rw[List.length_map,List.length_take];omega
  have hap:=grow_ap (by':=16) (y:=ed p) hv (show 0<2 by decide) (ap_small9 hnl)
  have hnew:((nxL T (atsOf T) (clsO T (atsOf T)) x).take i).map ed++[ed p]=((nxL T (atsOf T) (clsO T (atsOf T)) x).take (i+1)).map ed:=by rw[htk,List.map_append];rfl
  rw[hnew]at hap
  have hss:shr (shr g)=shr g:=sg.shr
  have scv:=V.c.sl
  have sov:=V.o.sl
  have spv:=V.p.sl
  have hcc:shr (shr cv)=shr cv:=scv.shr
  have hoo:shr (shr ov)=shr ov:=sov.shr
  have hpp:shr (shr pv)=shr pv:=spv.shr
  have hlb:=lt_of_get H.b
  have n1:¬c=n+1:=by omega
  have n2:¬n+1=c:=by omega
  have n3:¬n=c:=by omega
  have n4:¬c=n:=by omega
  obtain⟨fr1,p1,F1,g22⟩:∃fr1,ex cx D 0 74 240 (.seq (.region 50 g74_49 false) (.cond (.tmp 213) .skip (.exit 14))) fr G=some (.normal,fr1,G)∧EdF fr1 a tv T.length g c n k∧fr1.get 22=iv i:=by
   simp -implicitDefEqProofs (maxDischargeDepth:=4) only[go_sem,F.f20,f22,H.x,sx.shr,sx.notOwn,alen_sl sx,List.length_map,hlt]
   exact⟨_,rfl,F.of fun t ht=>by rcases ht with rfl | rfl | rfl | rfl | rfl | rfl | rfl | rfl | rfl<;>simp only[go_sem],by simp only[go_sem,f22]⟩
  have hset2:∀(B C:ABlock),(G.set (n+1) B).set (n+1) C=G.set (n+1) C:=fun B C=>List.set_set ..
  have hone:∀(B:ABlock),(G.set (n+1) B)[n+1]?=some B:=fun B=>hp_one hlb
  have hne0:∀(B:ABlock),(G.set (n+1) B)[n]?=some (nX x):=fun B=>by rw[hp_ne (by omega),H.x]
  have hne1:∀(B:ABlock),(G.set (n+1) B)[c]?=some (tB cv ov pv):=fun B=>by rw[hp_ne (by omega),H.c]
  obtain⟨fr2,p2,F2,h22⟩:∃fr2,ex cx D 0 74 240 (.block 15 (.region 52 g74_50 true)) fr1 G=some (.normal,fr2,G.set (n+1) (clsB kd du ch py (.vec 2 .own (((nxL T (atsOf T) (clsO T (atsOf T)) x).take (i+1)).map ed))))∧EdF fr2 a tv T.length g c n k∧fr2.get 22=iv i:=by
   have hB:=H.b
   rcases hv with e' | ⟨e',he⟩
   ·rw[e']at hap hB
    simp -implicitDefEqProofs (maxDischargeDepth:=4) only[go_sem,F1.f6,F1.f12,F1.f13,F1.f19,F1.f20,F1.f21,g22,mvV_false,H.x,H.c,hB,hone,hset2,hne0,hne1,hlb,a1,e1,hlk,hap,hss,sg.shr,sg.notOwn,hcc,hoo,hpp,scv.shr,scv.notOwn,scv.drp,scv.shut0,sov.shr,sov.notOwn,sov.drp,sov.shut0,spv.shr,spv.notOwn,spv.drp,spv.shut0,d.n.sl.shr,d.n.sl.notOwn,d.n.sl.shut1,sx.shr,sx.notOwn,sx.drp,nbeq,n1,n2,n3,n4,Nat.left_eq_add,Nat.add_eq_left,Nat.add_left_cancel_iff,Nat.zero_le,Nat.le_refl,Nat.not_lt_zero,List.set_cons_zero,List.set_cons_succ]
    exact⟨_,rfl,F1.of fun t ht=>by rcases ht with rfl | rfl | rfl | rfl | rfl | rfl | rfl | rfl | rfl<;>simp only[go_sem],by simp only[go_sem,g22]⟩
   ·rw[e']at hap hB
    simp -implicitDefEqProofs (maxDischargeDepth:=4) only[go_sem,F1.f6,F1.f12,F1.f13,F1.f19,F1.f20,F1.f21,g22,mvV_false,H.x,H.c,hB,hone,hset2,hne0,hne1,hlb,a1,e1,hlk,hap,hss,sg.shr,sg.notOwn,hcc,hoo,hpp,scv.shr,scv.notOwn,scv.drp,scv.shut0,sov.shr,sov.notOwn,sov.drp,sov.shut0,spv.shr,spv.notOwn,spv.drp,spv.shut0,d.n.sl.shr,d.n.sl.notOwn,d.n.sl.shut1,sx.shr,sx.notOwn,sx.drp,nbeq,n1,n2,n3,n4,Nat.left_eq_add,Nat.add_eq_left,Nat.add_left_cancel_iff,Nat.zero_le,Nat.le_refl,Nat.not_lt_zero,List.set_cons_zero,List.set_cons_succ]
    exact⟨_,rfl,F1.of fun t ht=>by rcases ht with rfl | rfl | rfl | rfl | rfl | rfl | rfl | rfl | rfl<;>simp only[go_sem],by simp only[go_sem,g22]⟩
  have H2:EdH (G.set (n+1) (clsB kd du ch py (.vec 2 .own (((nxL T (atsOf T) (clsO T (atsOf T)) x).take (i+1)).map ed)))) c n cv ov pv x (clsB kd du ch py (.vec 2 .own (((nxL T (atsOf T) (clsO T (atsOf T)) x).take (i+1)).map ed))) :=
   ⟨by rw[hp_ne (by omega),H.t],hne1 _,hne0 _,hone _⟩
  generalize G.set (n+1) (clsB kd du ch py (.vec 2 .own (((nxL T (atsOf T) (clsO T (atsOf T)) x).take (i+1)).map ed)))=G2 at *
  obtain⟨fr3,p3,F3,k22⟩:∃fr3,ex cx D 0 74 240 (.region 51 g74_51 false) fr2 G2=some (.normal,fr3,G2)∧EdF fr3 a tv T.length g c n k∧fr3.get 22=iv (i+1:Nat):=by
   simp -implicitDefEqProofs (maxDischargeDepth:=4) only[go_sem,h22,w3]
   exact⟨_,rfl,F2.of fun t ht=>by rcases ht with rfl | rfl | rfl | rfl | rfl | rfl | rfl | rfl | rfl<;>simp only[go_sem],by simp only[go_sem]⟩
  have hxq:T[fs.getD k 0]?=some x:=hxk
  obtain⟨fr4,G4,v4,p4,F4,H4,hv4⟩:=ed_loop d hg hkf hxq hc hcn V m (i+1) fr3 G2 _ (nd1 hm) (nd2 hm) F3 k22 H2 (.inl rfl)
  refine⟨fr4,G4,v4,?_,F4,H4,hv4⟩
  rw[dl74_6,x_cont1 p1,x_cont1 p2,p3,xbind_some,contR_normal,p4]
theorem cl_round{ns T:List Nd}{a tv g:AV}(hns:NsOk ns a)(d:Du ns T tv){fs:List Nat}(hg:Grow 1 g (fs.map nv)){c k:Nat}(hkf:k<fs.length){x:Nd}(hx:T[fs.getD k 0]?=some x)(hnode:nodeAt T (atsOf T) (fs.getD k 0)=x)(hc:1≤c){cv ov pv:AV}{cls:List Cl}{prs:List Int}(V:TbV T cv ov pv cls prs)(hcl:cls.length=k)(hk200:k≤200)
  {fr:PT} {G:Hp} (F:FFr fr a tv T.length) (f12:fr.get 12=.ptr c 0 0) (f13:fr.get 13=g) (f19:fr.get 19=iv k) (h0:G[0]?=some tZ) (h1:G[c]?=some (tB cv ov pv)):
  ∃fr' G' cv' z,ex cx D 0 74 240 (.block 13 (.seq (.region 45 g74_44 false) (.seq (.region 46 g74_45 true) (.seq (.seq (.region 47 g74_46 false) (.cond (.tmp 198) (.region 48 g74_47 true) .skip)) (.seq (.seq (.region 49 g74_48 false) (.block 14 (.loop l74_6))) (.region 53 g74_52 false)))))) fr G=some (.normal,fr',G')∧
   FFr fr' a tv T.length∧fr'.get 12=.ptr c 0 0∧fr'.get 13=g∧fr'.get 19=iv k∧G'[0]?=some tZ∧G'[c]?=some (tB cv' ov pv)∧TbV T cv' ov pv (cls++[z]) prs∧ClOk z∧IsCl T (atsOf T) (clsO T (atsOf T)) ns.length z (fs.getD k 0):=by
 obtain⟨n,hn⟩:∃n,G.length=n:=⟨_,rfl⟩
 have hcn:c<n:=by rw[←hn];exact lt_of_get h1
 have hmx:=List.mem_of_getElem? hx
 have sx:Sl 2 x.nx (x.es.map ed):=d.n.ok x hmx
 have sg:=hg.sl
 have a1:aindexAddr cx.T 31 (shr g) (iv k)=some (.vp (nv (fs.getD k 0)) 0):=by rw[aindexAddr_sl sg sl31 (by rw[List.length_map];exact hkf) rfl,get_nv hkf]
 have a2:=d.n.at hx
 have hq:=(List.getElem?_eq_some_iff.1 hx).1
 obtain⟨q,hqe⟩:∃q,fs.getD k 0=q:=⟨_,rfl⟩
 have hx0:=hx
 rw[hqe]at a1 a2 hq hx
 have hss:shr (shr g)=shr g:=sg.shr
 have scv:=V.c.sl
 have sov:=V.o.sl
 have spv:=V.p.sl
 have hcc:shr (shr cv)=shr cv:=scv.shr
 have hoo:shr (shr ov)=shr ov:=sov.shr
 have hpp:shr (shr pv)=shr pv:=spv.shr
 have hN:=d.len
 have hln:=d.h.ln
 have hlt2:(q+ns.length) % T.length<T.length:=Nat.mod_lt _ (by omega)
 have a4:aindexAddr cx.T 31 (shr ov) (iv ((q+ns.length) % T.length:Nat))=some (.vp (nv ((clsO T (atsOf T)).getD ((q+ns.length) % T.length) 0)) 0):=by rw[aindexAddr_sl sov sl31 (by rw[List.length_map,clsO_len];exact hlt2) rfl,get_nv (by rw[clsO_len];exact hlt2)]
 have wi:wrapK .i64 ((q:Int)+(ns.length:Int))=((q+ns.length:Nat):Int):=by rw[wrapK_i64 (by omega) (by omega)];omega
 have wt:(((q+ns.length:Nat):Int)).tmod (T.length:Int)=(((q+ns.length) % T.length:Nat):Int):=by
  rw[Int.tmod_eq_emod_of_nonneg (by omega)]
  rfl
 have hN0:¬(T.length:Int)=0:=by omega
 have hg0:∀L,(G++L)[0]?=some tZ:=fun L=>by rw[hp_get_l (lt_of_get h0),h0]
 have hgc:∀L,(G++L)[c]?=some (tB cv ov pv):=fun L=>by rw[hp_get_l (lt_of_get h1),h1]
 have e1:¬c=n:=by omega
 have e2:∀j,¬c=n+j:=fun j=>by omega
 have e3:¬n=c:=by omega
 have e4:∀j,¬n+j=c:=fun j=>by omega
 obtain⟨fr1,p1,F1⟩:∃fr1,ex cx D 0 74 240 (.seq (.region 45 g74_44 false) (.region 46 g74_45 true)) fr G=some (.normal,fr1,G++[nX x,clsB x.kind ((clsO T (atsOf T)).getD ((q+ns.length) % T.length) 0:Int) x.chan (0,0) (.lit (.slice none 0 0))])∧EdF fr1 a tv T.length g c n k:=by
  simp -implicitDefEqProofs (maxDischargeDepth:=4) only[go_sem,hn,F.f0,F.f6,f12,f13,f19,mvV_false,hgc,a1,a2,a4,wi,wt,hN0,hss,sg.shr,sg.notOwn,hoo,sov.shr,sov.notOwn,sov.drp,d.n.sl.shr,d.n.sl.notOwn,d.n.sl.lenRd,alen_sl d.n.sl,hns.sl.shr,hns.sl.notOwn,hns.sl.lenRd,alen_sl hns.sl,List.length_map,sx.shr,sx.notOwn,sx.drp,sx.fitA,build111b,layB_res,nbeq,e1,e2,e3,e4,Nat.left_eq_add,Nat.add_eq_left,Nat.add_left_cancel_iff,Nat.zero_le,Nat.le_refl,Nat.not_lt_zero,List.set_cons_zero,List.set_cons_succ]
  exact⟨_,rfl,⟨F.of fun t ht=>by rcases ht with rfl | rfl | rfl | rfl<;>simp only[go_sem],by simp only[go_sem,f12],by simp only[go_sem,f13],by simp only[go_sem,f19],by simp only[go_sem],by simp only[go_sem]⟩⟩
 have H1:EdH (G++[nX x,clsB x.kind ((clsO T (atsOf T)).getD ((q+ns.length) % T.length) 0:Int) x.chan (0,0) (.lit (.slice none 0 0))]) c n cv ov pv x (clsB x.kind ((clsO T (atsOf T)).getD ((q+ns.length) % T.length) 0:Int) x.chan (0,0) (.lit (.slice none 0 0))) :=
  ⟨hg0 _,hgc _,by rw[hp_get_r0 hn];rfl,by rw[hp_get_r hn];rfl⟩
 generalize hdu:((clsO T (atsOf T)).getD ((q+ns.length) % T.length) 0:Int)=du at *
 generalize G++[nX x,clsB x.kind du x.chan (0,0) (.lit (.slice none 0 0))]=G1 at *
 obtain⟨fr2,G2,p2,F2,H2⟩:∃fr2 G2,ex cx D 0 74 240 (.seq (.region 47 g74_46 false) (.cond (.tmp 198) (.region 48 g74_47 true) .skip)) fr1 G1=some (.normal,fr2,G2)∧EdF fr2 a tv T.length g c n k∧EdH G2 c n cv ov pv x (clsB x.kind du x.chan (payE T (atsOf T) (clsO T (atsOf T)) x) (.lit (.slice none 0 0))):=by
  unfold payE
  cases hch:x.chan with
  | false =>
   rw[if_neg (by decide)]
   rw[hch]at H1
   refine⟨?w,G1,?_,?_,H1⟩
   rotate_left
   ·simp -implicitDefEqProofs (maxDischargeDepth:=4) only[go_sem,F1.f20,H1.x,hch]
    exact rfl
   ·exact F1.of fun t ht=>by rcases ht with rfl | rfl | rfl | rfl | rfl | rfl | rfl | rfl | rfl<;>simp only[go_sem]
  | true =>
   rw[if_pos rfl]
   rw[hch]at H1
   have hmp:(x.pt,x.ps)∈oE x:=by unfold oE;rw[if_pos hch];exact List.mem_append_right _ (List.mem_singleton.2 rfl)
   have hlk:=link133 d hx hmp scv sov spv
   generalize lkE T (atsOf T) (clsO T (atsOf T)) x.prio (x.pt,x.ps)=p at *
   have hlb:=lt_of_get H1.b
   refine⟨?w2,G1.set (n+1) (clsB x.kind du true p (.lit (.slice none 0 0))),?_,?_,⟨by rw[hp_ne (by omega),H1.t],by rw[hp_ne (by omega),H1.c],by rw[hp_ne (by omega),H1.x],hp_one hlb⟩⟩
   rotate_left
   ·simp -implicitDefEqProofs (maxDischargeDepth:=4) only[go_sem,F1.f6,F1.f12,F1.f13,F1.f19,F1.f20,F1.f21,mvV_false,H1.x,H1.c,H1.b,hlb,a1,hch,hlk,hss,sg.shr,sg.notOwn,hcc,hoo,hpp,scv.shr,scv.notOwn,scv.drp,scv.shut0,sov.shr,sov.notOwn,sov.drp,sov.shut0,spv.shr,spv.notOwn,spv.drp,spv.shut0,d.n.sl.shr,d.n.sl.notOwn,d.n.sl.shut1,sx.shr,sx.notOwn,sx.drp,nbeq,e1,e2,e3,e4,Nat.left_eq_add,Nat.add_eq_left,Nat.add_left_cancel_iff,Nat.zero_le,Nat.le_refl,Nat.not_lt_zero,List.set_cons_zero,List.set_cons_succ]
    exact rfl
   ·exact F1.of fun t ht=>by rcases ht with rfl | rfl | rfl | rfl | rfl | rfl | rfl | rfl | rfl<;>simp only[go_sem]
 obtain⟨fr3,p3,F3,f22⟩:∃fr3,ex cx D 0 74 240 (.region 49 g74_48 false) fr2 G2=some (.normal,fr3,G2)∧EdF fr3 a tv T.length g c n k∧fr3.get 22=iv (0:Nat):=by
  simp -implicitDefEqProofs (maxDischargeDepth:=4) only[go_sem]
  exact⟨_,rfl,F2.of fun t ht=>by rcases ht with rfl | rfl | rfl | rfl | rfl | rfl | rfl | rfl | rfl<;>simp only[go_sem],by simp only[go_sem];rfl⟩
 obtain⟨fr4,G4,w,p4,F4,H4,hw⟩:=ed_loop d hg hkf hx0 hc hcn V x.es.length 0 fr3 G2 _ (Nat.sub_zero _) (Nat.zero_le _) F3 f22 H2 (.inr ⟨rfl,rfl⟩)
 have hsv:=shr_cls hw x.kind du x.chan (payE T (atsOf T) (clsO T (atsOf T)) x)
 have sw:=hw.sl
 have hsw:shr (shr w)=shr w:=sw.shr
 obtain⟨z,hz⟩:∃z:Cl,z=⟨x.kind,du,x.chan,payE T (atsOf T) (clsO T (atsOf T)) x,nxL T (atsOf T) (clsO T (atsOf T)) x,shr w⟩:=⟨_,rfl⟩
 have hzw:clW z=clsV x.kind du x.chan (payE T (atsOf T) (clsO T (atsOf T)) x) (shr w):=by rw[hz]
 have hap:=grow_ap (by':=64) (y:=clW z) V.c (show 0<6 by decide) (by rw[List.length_map];omega)
 have hnew:cls.map clW++[clW z]=(cls++[z]).map clW:=by rw[List.map_append];rfl
 rw[hnew,hzw]at hap
 have hlc:=lt_of_get H4.c
 have hone:∀(B:ABlock),(G4.set c B)[c]?=some B:=fun B=>hp_one hlc
 have hset2:∀(B C:ABlock),(G4.set c B).set c C=G4.set c C:=fun B C=>List.set_set ..
 have hnb:∀(B:ABlock),(G4.set c B)[n+1]?=some (clsB x.kind du x.chan (payE T (atsOf T) (clsO T (atsOf T)) x) w):=fun B=>by rw[hp_ne (by omega),H4.b]
 obtain⟨fr5,p5,F5⟩:∃fr5,ex cx D 0 74 240 (.region 53 g74_52 false) fr4 G4=some (.normal,fr5,G4.set c (tB (.vec 6 .own ((cls++[z]).map clW)) ov pv))∧EdF fr5 a tv T.length g c n k:=by
  have hC:=H4.c
  have hdv:drp (clsV x.kind du x.chan (payE T (atsOf T) (clsO T (atsOf T)) x) (shr w))=clsV x.kind du x.chan (payE T (atsOf T) (clsO T (atsOf T)) x) (shr w):=by
   show AV.agg [_,_,_,_,_,shr (shr w)]=_
   rw[hsw]
   rfl
  have hc0:=sw.cl0
  rcases V.c with e' | ⟨e',he⟩
  ·rw[e']at hap hC
   simp -implicitDefEqProofs (maxDischargeDepth:=4) only[go_sem,F4.f12,F4.f21,hC,H4.b,hone,hset2,hnb,hsv,hsw,sw.shr,sw.notOwn,sw.drp,hdv,hc0,hap,e1,e2,e3,e4,Nat.not_lt_zero,List.set_cons_zero,List.set_cons_succ]
   exact⟨_,rfl,F4.of fun t ht=>by rcases ht with rfl | rfl | rfl | rfl | rfl | rfl | rfl | rfl | rfl<;>simp only[go_sem]⟩
  ·rw[e']at hap hC
   simp -implicitDefEqProofs (maxDischargeDepth:=4) only[go_sem,F4.f12,F4.f21,hC,H4.b,hone,hset2,hnb,hsv,hsw,sw.shr,sw.notOwn,sw.drp,hdv,hc0,hap,e1,e2,e3,e4,Nat.not_lt_zero,List.set_cons_zero,List.set_cons_succ]
   exact⟨_,rfl,F4.of fun t ht=>by rcases ht with rfl | rfl | rfl | rfl | rfl | rfl | rfl | rfl | rfl<;>simp only[go_sem]⟩
 refine⟨fr5,_,_,z,?_,F5.toFFr,F5.f12,F5.f13,F5.f19,by rw[hp_ne (by omega),H4.t],hone _,⟨.inl rfl,V.o,V.p⟩,by rw[hz];exact sw,?_⟩
 ·obtain⟨_,_,u1,u2⟩:=x_split p1
  obtain⟨_,_,v1,v2⟩:=x_split p2
  have e5:ex cx D 0 74 240 (.block 14 (.loop l74_6)) fr3 G2=some (.normal,fr4,G4):=by rw[x_block,x_loop,p4];rfl
  have e6:ex cx D 0 74 240 (.seq (.region 49 g74_48 false) (.block 14 (.loop l74_6))) fr2 G2=some (.normal,fr4,G4):=by rw[x_cont1 p3,e5]
  rw[x_block,x_cont1 u1,x_cont1 u2,x_cont1 p2,x_cont1 e6,p5]
  rfl
 ·rw[hqe,hz]
  rw[hqe]at hnode
  exact⟨by rw[hnode],by rw[hdu],by rw[hnode],by rw[hnode],by rw[hnode]⟩
abbrev dsB(ds:List Nd):ABlock:=.cells 6 66 (ds.map nodeV)
theorem killB_ds{ds:List Nd}(h:∀y∈ds,NdOk y)(m:Nat):killB m (dsB ds)=dsB ds:=by
 have:(ds.map nodeV).map (kill1 m)=ds.map nodeV:=by
  rw[List.map_map]
  refine List.map_congr_left fun y hy=>?_
  have hs:Sl 2 y.nx (y.es.map ed):=h y hy
  have hk:kill0 m y.nx=y.nx:=by
   rcases hs with e | e | ⟨e,_⟩<;>rw[e]<;>rfl
  show AV.agg ((nodeC y).map (kill0 m))=_
  simp only[List.map_cons,List.map_nil,hk]
  rfl
 show ABlock.cells 6 66 ((ds.map nodeV).map (kill1 m))=_
 rw[this]
theorem set_ds(ds:List Nd)(i:Nat)(y:Nd):(ds.map nodeV).set i (nodeV y)=(ds.set i y).map nodeV:=by rw[List.map_set]
structure RFr(fr:PT)(a:AV)(n L i:Nat):Prop where
 f0:fr.get 0=a
 f5:fr.get 5=iv n
 f6:fr.get 6=.sl 0 6 0 L L
 f7:fr.get 7=iv i
theorem RFr.of{fr fr':PT}{a:AV}{n L i:Nat}(F:RFr fr a n L i)(h:∀t,(t=0∨t=5∨t=6∨t=7)→fr'.get t=fr.get t):RFr fr' a n L i :=
 ⟨by rw[h 0 (by simp),F.f0],by rw[h 5 (by simp),F.f5],by rw[h 6 (by simp),F.f6],by rw[h 7 (by simp),F.f7]⟩
theorem edges55{ns:List Nd}{a:AV}(hns:NsOk ns a){n L i:Nat}{x:Nd}(hx:ns[i]?=some x)(hl:x.es.length≤8){B:ABlock}(hB:killB 1 B=B){R8 R9:List AV}(hR8:x.es.map ed=R8)(hR9:(x.es.map (mv n)).map ed=R9):
  ∀(d k:Nat)(fr:PT)(v8 v9:AV)(L8 L9:List AV),x.es.length-k=d→k≤x.es.length→RFr fr a n L i→fr.get 8=v8→fr.get 9=v9→fr.get 10=iv k→(x.es.take k).map ed=L8→((x.es.take k).map (mv n)).map ed=L9→Grow 2 v8 L8→Grow 2 v9 L9→
  ∃(fr':PT)(w8 w9:AV),D.loop 0 55 102 l55_0 fr [B]=some (.exit 2,fr',[B])∧RFr fr' a n L i∧fr'.get 8=w8∧fr'.get 9=w9∧Grow 2 w8 R8∧Grow 2 w9 R9
 | 0,k,fr,v8,v9,L8,L9,hd,hk,F,f8,f9,f10,h8,h9,g8,g9=>by
  have hs:Sl 2 x.nx (x.es.map ed):=hns.ok x (List.mem_of_getElem? hx)
  have hat:=hns.at hx
  have hlt:¬((k:Int)<(x.es.length:Int)):=by omega
  rw[List.take_of_length_le (by omega)]at h8 h9
  rw[hR8]at h8
  rw[hR9]at h9
  subst h8 h9
  rw[dl55_0]
  simp -implicitDefEqProofs (maxDischargeDepth:=4) only[go_sem,F.f0,F.f7,f10,hns.sl.shr,hns.sl.notOwn,hat,hs.shr,hs.notOwn,elP_Sl hs,alen_sl hs,List.length_map,hlt]
  refine⟨_,v8,v9,rfl,F.of fun t ht=>?_,by simp only[go_sem,f8],by simp only[go_sem,f9],g8,g9⟩
  rcases ht with rfl | rfl | rfl | rfl<;>simp only[go_sem]
 | d+1,k,fr,v8,v9,L8,L9,hd,hk,F,f8,f9,f10,h8,h9,g8,g9=>by
  have hs:Sl 2 x.nx (x.es.map ed):=hns.ok x (List.mem_of_getElem? hx)
  have hat:=hns.at hx
  have hlt:((k:Int)<(x.es.length:Int)):=by omega
  have w3:=wrap_succ (show k≤1000 by omega)
  have e1:=at_ed hs (show k<x.es.length by omega)
  have l8:L8.length<2 ^ 20:=Nat.lt_of_le_of_lt (show L8.length≤8 by rw[←h8];simp;omega) (by decide)
  have l9:L9.length<2 ^ 20:=Nat.lt_of_le_of_lt (show L9.length≤8 by rw[←h9];simp;omega) (by decide)
  have t8:(x.es.take (k+1)).map ed=L8++[ed (x.es.getD k (0,0))]:=by
   rw[List.take_add_one,List.map_append,h8,List.getElem?_eq_getElem (by omega)]
   simp[List.getD_eq_getElem?_getD,List.getElem?_eq_getElem (show k<x.es.length by omega)]
  have t9:((x.es.take (k+1)).map (mv n)).map ed=L9++[ed (mv n (x.es.getD k (0,0)))]:=by
   rw[List.take_add_one,List.map_append,List.map_append,h9,List.getElem?_eq_getElem (by omega)]
   simp[List.getD_eq_getElem?_getD,List.getElem?_eq_getElem (show k<x.es.length by omega)]
  have next:∀(fr1:PT)(X:ABlock),RFr fr1 a n L i→fr1.get 8=.vec 2 .own (L8++[ed (x.es.getD k (0,0))])→fr1.get 9=.vec 2 .own (L9++[ed (mv n (x.es.getD k (0,0)))])→fr1.get 10=iv (k+1:Nat)→
    ∃(fr':PT)(w8 w9:AV),trimmed (D.loop 0 55 102 l55_0) 1 fr1 [B,X]=some (.exit 2,fr',[B])∧RFr fr' a n L i∧fr'.get 8=w8∧fr'.get 9=w9∧Grow 2 w8 R8∧Grow 2 w9 R9:=fun fr1 X F1 q8 q9 q10=>by
   refine trim_gen (P:=fun zz=>∃(fr':PT)(w8 w9:AV),zz=some (.exit 2,fr',[B])∧RFr fr' a n L i∧fr'.get 8=w8∧fr'.get 9=w9∧Grow 2 w8 R8∧Grow 2 w9 R9) [0,5,6,7,8,9,10] (by simp) (fun t ht=>?_) fun fr' G' hG' hf hk'=>?_
   ·simp only[List.mem_cons,List.not_mem_nil,or_false]at ht
    rcases ht with rfl | rfl | rfl | rfl | rfl | rfl | rfl
    ·rw[F1.f0,kill_Sl hns.sl]
    ·rw[F1.f5];rfl
    ·rw[F1.f6];rfl
    ·rw[F1.f7];rfl
    ·rw[q8];rfl
    ·rw[q9];rfl
    ·rw[q10];rfl
   ·have hGB:G'=[B]:=by
     match G',hG' with
     | [y],_ =>
      have:=hk' 0 B (by decide) rfl hB
      cases this;rfl
    subst hGB
    exact edges55 hns hx hl hB hR8 hR9 d (k+1) fr' _ _ _ _ (nd1 hd) (nd2 hd) ⟨by rw[hf 0 (by simp),F1.f0],by rw[hf 5 (by simp),F1.f5],by rw[hf 6 (by simp),F1.f6],by rw[hf 7 (by simp),F1.f7]⟩ (by rw[hf 8 (by simp),q8]) (by rw[hf 9 (by simp),q9]) (by rw[hf 10 (by simp),q10]) t8 t9 (.inl rfl) (.inl rfl)
  have hap8:∀y:AV,apV 2 16 [y] v8=some (.vec 2 .own (L8++[y])):=fun y=>by
   rcases g8 with rfl | ⟨rfl,he⟩
   ·exact apV_own (ap_small l8) (by decide)
   ·rw[he];exact apV_none (show (0+1)*(16+1)≤1099511627776 by decide) (by decide)
  have hap9:∀y:AV,apV 2 16 [y] v9=some (.vec 2 .own (L9++[y])):=fun y=>by
   rcases g9 with rfl | ⟨rfl,he⟩
   ·exact apV_own (ap_small l9) (by decide)
   ·rw[he];exact apV_none (show (0+1)*(16+1)≤1099511627776 by decide) (by decide)
  clear h8 h9 l8 l9
  rw[dl55_0]
  rcases g8 with rfl | ⟨rfl,rfl⟩<;>rcases g9 with rfl | ⟨rfl,rfl⟩
  ·simp -implicitDefEqProofs (maxDischargeDepth:=4) only[go_sem,F.f0,F.f5,F.f7,f8,f9,f10,hns.sl.shr,hns.sl.notOwn,hat,hs.shr,hs.notOwn,elP_Sl hs,alen_sl hs,List.length_map,hlt,e1,build63',hap8,hap9,w3,Nat.zero_le,Nat.not_lt_zero]
   refine next _ _ (F.of fun t ht=>?_) ?_ ?_ ?_
   ·rcases ht with rfl | rfl | rfl | rfl<;>simp only[go_sem]
   ·simp -implicitDefEqProofs (maxDischargeDepth:=4) only[go_sem]
    try rfl
   ·simp -implicitDefEqProofs (maxDischargeDepth:=4) only[go_sem]
    try rfl
   ·simp -implicitDefEqProofs (maxDischargeDepth:=4) only[go_sem]
  ·simp -implicitDefEqProofs (maxDischargeDepth:=4) only[go_sem,F.f0,F.f5,F.f7,f8,f9,f10,hns.sl.shr,hns.sl.notOwn,hat,hs.shr,hs.notOwn,elP_Sl hs,alen_sl hs,List.length_map,hlt,e1,build63',hap8,hap9,w3,Nat.zero_le,Nat.not_lt_zero]
   refine next _ _ (F.of fun t ht=>?_) ?_ ?_ ?_
   ·rcases ht with rfl | rfl | rfl | rfl<;>simp only[go_sem]
   ·simp -implicitDefEqProofs (maxDischargeDepth:=4) only[go_sem]
    try rfl
   ·simp -implicitDefEqProofs (maxDischargeDepth:=4) only[go_sem]
    try rfl
   ·simp -implicitDefEqProofs (maxDischargeDepth:=4) only[go_sem]
  ·simp -implicitDefEqProofs (maxDischargeDepth:=4) only[go_sem,F.f0,F.f5,F.f7,f8,f9,f10,hns.sl.shr,hns.sl.notOwn,hat,hs.shr,hs.notOwn,elP_Sl hs,alen_sl hs,List.length_map,hlt,e1,build63',hap8,hap9,w3,Nat.zero_le,Nat.not_lt_zero]
   refine next _ _ (F.of fun t ht=>?_) ?_ ?_ ?_
   ·rcases ht with rfl | rfl | rfl | rfl<;>simp only[go_sem]
   ·simp -implicitDefEqProofs (maxDischargeDepth:=4) only[go_sem]
    try rfl
   ·simp -implicitDefEqProofs (maxDischargeDepth:=4) only[go_sem]
    try rfl
   ·simp -implicitDefEqProofs (maxDischargeDepth:=4) only[go_sem]
  ·simp -implicitDefEqProofs (maxDischargeDepth:=4) only[go_sem,F.f0,F.f5,F.f7,f8,f9,f10,hns.sl.shr,hns.sl.notOwn,hat,hs.shr,hs.notOwn,elP_Sl hs,alen_sl hs,List.length_map,hlt,e1,build63',hap8,hap9,w3,Nat.zero_le,Nat.not_lt_zero]
   refine next _ _ (F.of fun t ht=>?_) ?_ ?_ ?_
   ·rcases ht with rfl | rfl | rfl | rfl<;>simp only[go_sem]
   ·simp -implicitDefEqProofs (maxDischargeDepth:=4) only[go_sem]
    try rfl
   ·simp -implicitDefEqProofs (maxDischargeDepth:=4) only[go_sem]
    try rfl
   ·simp -implicitDefEqProofs (maxDischargeDepth:=4) only[go_sem]
theorem get_ds{ds:List Nd}{j:Nat}{y:Nd}(h:ds[j]?=some y):(ds.map nodeV)[j]?=some (nodeV y):=by rw[List.getElem?_map,h];rfl
theorem at56{L j:Nat}(h:j<L){J:Int}(hJ:J=j):aindexAddr cx.T 56 (.sl 0 6 0 L L) (iv J)=some (.ptr 0 j 0):=by
 rw[aindexAddr_blk sl56 hJ h,Nat.zero_add]
theorem put_whole{ds:List Nd}{j:Nat}{z y:Nd}(hz:ds[j]?=some z):stV 0 [dsB ds] true 6 (.ptr 0 j 0) (nodeV y)=some [dsB (ds.set j y)]:=by
 rw[stV_eq,if_neg (by decide)]
 simp only[List.getElem?_cons_zero,cellsB_cells,xbind_some,get_ds hz]
 rw[elS_whole (sz:=6) (l:=nodeC z) (c:=nodeC y) rfl rfl,xbind_some,List.set_cons_zero,set_ds]
theorem put_kind{ds:List Nd}{j:Nat}{z:Nd}(hz:ds[j]?=some z)(k:Int):stV 0 [dsB ds] false 1 (.ptr 0 j 0) (iv k)=some [dsB (ds.set j { z with kind:=k })]:=by
 rw[stV_eq,if_neg (by decide)]
 simp only[List.getElem?_cons_zero,cellsB_cells,xbind_some,get_ds hz]
 rw[elS_cell (fitA_int _ _) (show 0<(nodeC z).length from Nat.succ_pos 5),xbind_some,List.set_cons_zero]
 show _=some [ABlock.cells 6 66 ((ds.set j { z with kind:=k }).map nodeV)]
 rw[←set_ds];rfl
theorem put_next{ds:List Nd}{j:Nat}{z:Nd}(hz:ds[j]?=some z){w:AV}{es:List (Int×Int)}(hw:Sl 2 w (es.map ed)):stV 0 [dsB ds] false 1 (.ptr 0 j 5) w=some [dsB (ds.set j { z with es:=es,nx:=w })]:=by
 rw[stV_eq,if_neg (by decide)]
 simp only[List.getElem?_cons_zero,cellsB_cells,xbind_some,get_ds hz]
 rw[elS_cell hw.fitA (show 5<(nodeC z).length from Nat.lt_succ_self 5),xbind_some,List.set_cons_zero]
 show _=some [ABlock.cells 6 66 ((ds.set j { z with es:=es,nx:=w }).map nodeV)]
 rw[←set_ds];rfl
structure R5(fr:PT)(a:AV)(n L i:Nat)(w8 w9:AV):Prop extends RFr fr a n L i where
 f8:fr.get 8=w8
 f9:fr.get 9=w9
theorem R5.of{fr fr':PT}{a w8 w9:AV}{n L i:Nat}(F:R5 fr a n L i w8 w9)(h:∀t,(t=0∨t=5∨t=6∨t=7∨t=8∨t=9)→fr'.get t=fr.get t):R5 fr' a n L i w8 w9 :=
 ⟨⟨by rw[h 0 (by simp),F.f0],by rw[h 5 (by simp),F.f5],by rw[h 6 (by simp),F.f6],by rw[h 7 (by simp),F.f7]⟩,by rw[h 8 (by simp),F.f8],by rw[h 9 (by simp),F.f9]⟩
theorem write55{ns:List Nd}{a w8 w9:AV}(hns:NsOk ns a){n L i:Nat}(hn:n≤64)(hi:i<n)(hL:n+i<L){x:Nd}(hx:ns[i]?=some x){es9:List (Int×Int)}(h8:Grow 2 w8 (x.es.map ed))(h9:Grow 2 w9 (es9.map ed)){ds:List Nd}(hds:ds.length=L){fr:PT}(F:R5 fr a n L i w8 w9):
  ∃fr':PT,ex cx D 0 55 102 (.seq (.region 16 g55_15 false) (.seq (.region 17 g55_16 false) (.seq (.region 18 g55_17 false) (.seq (.region 19 g55_18 false) (.region 20 g55_19 false))))) fr [dsB ds] =
   some (.normal,fr',[dsB ((ds.set i { x with nx:=shr w8 }).set (n+i) { x with kind:=dk x.kind,es:=es9,nx:=shr w9 })])∧R5 fr' a n L i w8 w9:=by
 have hs:Sl 2 x.nx (x.es.map ed):=hns.ok x (List.mem_of_getElem? hx)
 have hat:=hns.at hx
 have wni:wrapK .i64 ((n:Int)+i)=((n+i:Nat):Int):=by rw[wrapK_i64 (by omega) (by omega)];omega
 have a1:aindexAddr cx.T 56 (.sl 0 6 0 L L) (iv i)=some (.ptr 0 i 0):=at56 (by omega) rfl
 have a2:aindexAddr cx.T 56 (.sl 0 6 0 L L) (iv (n+i:Nat))=some (.ptr 0 (n+i) 0):=at56 hL rfl
 have s8:=h8.sl
 have s9:=h9.sl
 obtain⟨z,hz⟩:=ex_nd (ns:=ds) (i:=i) (by omega)
 obtain⟨fr1,e1,F1⟩:∃fr':PT,ex cx D 0 55 102 (.region 16 g55_15 false) fr [dsB (ds)]=some (.normal,fr',[dsB (ds.set i x)])∧R5 fr' a n L i w8 w9:=by
  have hp:=put_whole hz (y:=x)
  simp -implicitDefEqProofs (maxDischargeDepth:=4) only[go_sem,F.f0,F.f5,F.f6,F.f7,F.f8,F.f9,hns.sl.shr,hns.sl.notOwn,hat,hs.shr,hs.drp,wni,a1,a2,hp,ldA_vp,stW_not,s8.notOwn,s8.shr,s8.drp,s9.notOwn,s9.shr,s9.drp,List.drop_zero,List.take_succ_cons,List.take_zero,mvV_false]
  refine⟨_,rfl,F.of fun t ht=>?_⟩
  rcases ht with rfl | rfl | rfl | rfl | rfl | rfl<;>simp only[go_sem]
 have z1:(ds.set i x)[i]?=some x:=by rw[List.getElem?_set_self (by omega)]
 obtain⟨fr2,e2,F2⟩:∃fr':PT,ex cx D 0 55 102 (.region 17 g55_16 false) fr1 [dsB (ds.set i x)]=some (.normal,fr',[dsB ((ds.set i x).set i { x with es:=x.es,nx:=shr w8 })])∧R5 fr' a n L i w8 w9:=by
  have hp:=put_next z1 s8
  simp -implicitDefEqProofs (maxDischargeDepth:=4) only[go_sem,F1.f0,F1.f5,F1.f6,F1.f7,F1.f8,F1.f9,hns.sl.shr,hns.sl.notOwn,hat,hs.shr,hs.drp,wni,a1,a2,hp,ldA_vp,stW_not,s8.notOwn,s8.shr,s8.drp,s9.notOwn,s9.shr,s9.drp,List.drop_zero,List.take_succ_cons,List.take_zero,mvV_false]
  refine⟨_,rfl,F1.of fun t ht=>?_⟩
  rcases ht with rfl | rfl | rfl | rfl | rfl | rfl<;>simp only[go_sem]
 obtain⟨z2,hz2⟩:=ex_nd (ns:=(ds.set i x).set i { x with es:=x.es,nx:=shr w8 }) (i:=n+i) (by simp only[List.length_set];omega)
 obtain⟨fr3,e3,F3⟩:∃fr':PT,ex cx D 0 55 102 (.region 18 g55_17 false) fr2 [dsB ((ds.set i x).set i { x with es:=x.es,nx:=shr w8 })]=some (.normal,fr',[dsB (((ds.set i x).set i { x with es:=x.es,nx:=shr w8 }).set (n+i) x)])∧R5 fr' a n L i w8 w9:=by
  have hp:=put_whole hz2 (y:=x)
  simp -implicitDefEqProofs (maxDischargeDepth:=4) only[go_sem,F2.f0,F2.f5,F2.f6,F2.f7,F2.f8,F2.f9,hns.sl.shr,hns.sl.notOwn,hat,hs.shr,hs.drp,wni,a1,a2,hp,ldA_vp,stW_not,s8.notOwn,s8.shr,s8.drp,s9.notOwn,s9.shr,s9.drp,List.drop_zero,List.take_succ_cons,List.take_zero,mvV_false]
  refine⟨_,rfl,F2.of fun t ht=>?_⟩
  rcases ht with rfl | rfl | rfl | rfl | rfl | rfl<;>simp only[go_sem]
 have z3:(((ds.set i x).set i { x with es:=x.es,nx:=shr w8 }).set (n+i) x)[n+i]?=some x:=by rw[List.getElem?_set_self (by simp only[List.length_set];omega)]
 obtain⟨fr4,e4,F4⟩:∃fr':PT,ex cx D 0 55 102 (.region 19 g55_18 false) fr3 [dsB (((ds.set i x).set i { x with es:=x.es,nx:=shr w8 }).set (n+i) x)]=some (.normal,fr',[dsB ((((ds.set i x).set i { x with es:=x.es,nx:=shr w8 }).set (n+i) x).set (n+i) { x with kind:=dk x.kind })])∧R5 fr' a n L i w8 w9:=by
  have hp:=put_kind z3 (dk x.kind)
  simp -implicitDefEqProofs (maxDischargeDepth:=4) only[go_sem,F3.f0,F3.f5,F3.f6,F3.f7,F3.f8,F3.f9,hns.sl.shr,hns.sl.notOwn,hat,hs.shr,hs.drp,wni,a1,a2,hp,ldA_vp,stW_not,s8.notOwn,s8.shr,s8.drp,s9.notOwn,s9.shr,s9.drp,List.drop_zero,List.take_succ_cons,List.take_zero,mvV_false,kind_ok]
  refine⟨_,rfl,F3.of fun t ht=>?_⟩
  rcases ht with rfl | rfl | rfl | rfl | rfl | rfl<;>simp only[go_sem]
 have z4:((((ds.set i x).set i { x with es:=x.es,nx:=shr w8 }).set (n+i) x).set (n+i) { x with kind:=dk x.kind })[n+i]?=some { x with kind:=dk x.kind }:=by rw[List.getElem?_set_self (by simp only[List.length_set];omega)]
 obtain⟨fr5,e5,F5⟩:∃fr':PT,ex cx D 0 55 102 (.region 20 g55_19 false) fr4 [dsB ((((ds.set i x).set i { x with es:=x.es,nx:=shr w8 }).set (n+i) x).set (n+i) { x with kind:=dk x.kind })]=some (.normal,fr',[dsB (((((ds.set i x).set i { x with es:=x.es,nx:=shr w8 }).set (n+i) x).set (n+i) { x with kind:=dk x.kind }).set (n+i) { x with kind:=dk x.kind,es:=es9,nx:=shr w9 })])∧R5 fr' a n L i w8 w9:=by
  have hp:=put_next z4 s9
  simp -implicitDefEqProofs (maxDischargeDepth:=4) only[go_sem,F4.f0,F4.f5,F4.f6,F4.f7,F4.f8,F4.f9,hns.sl.shr,hns.sl.notOwn,hat,hs.shr,hs.drp,wni,a1,a2,hp,ldA_vp,stW_not,s8.notOwn,s8.shr,s8.drp,s9.notOwn,s9.shr,s9.drp,List.drop_zero,List.take_succ_cons,List.take_zero,mvV_false]
  refine⟨_,rfl,F4.of fun t ht=>?_⟩
  rcases ht with rfl | rfl | rfl | rfl | rfl | rfl<;>simp only[go_sem]
 refine⟨fr5,?_,F5⟩
 rw[x_cont1 e1,x_cont1 e2,x_cont1 e3,x_cont1 e4,e5]
 simp only[List.set_set]
structure H55(ns ds:List Nd)(i:Nat):Prop where
 ln:ds.length=ns.length+ns.length
 ok:∀y∈ds,NdOk y
 h1:∀(j:Nat)(x y:Nd),j<i→ns[j]?=some x→ds[j]?=some y→half ks1 0 x y
 h2:∀(j:Nat)(x y:Nd),j<i→ns[j]?=some x→ds[ns.length+j]?=some y→half ks2 ns.length x y
theorem H55.step{ns ds:List Nd}{i:Nat}(h:H55 ns ds i){x y1 y2:Nd}(hx:ns[i]?=some x)(hy1:half ks1 0 x y1)(hy2:half ks2 ns.length x y2):H55 ns ((ds.set i y1).set (ns.length+i) y2) (i+1):=by
 have hi:=(List.getElem?_eq_some_iff.1 hx).1
 have hl:=h.ln
 refine⟨by simp only[List.length_set];exact hl,fun y hy=>?_,fun j x' y hj hx' hy=>?_,fun j x' y hj hx' hy=>?_⟩
 ·rcases List.mem_or_eq_of_mem_set hy with hy | rfl
  ·rcases List.mem_or_eq_of_mem_set hy with hy | rfl
   ·exact h.ok y hy
   ·exact hy1.2.2.2.2.2.2
  ·exact hy2.2.2.2.2.2.2
 ·rw[List.getElem?_set_ne (by omega)]at hy
  by_cases e:j=i
  ·subst e
   rw[hx]at hx'
   cases hx'
   rw[List.getElem?_set_self (by omega)]at hy
   cases hy
   exact hy1
  ·rw[List.getElem?_set_ne (by omega)]at hy
   exact h.h1 j x' y (by omega) hx' hy
 ·by_cases e:j=i
  ·subst e
   rw[hx]at hx'
   cases hx'
   rw[List.getElem?_set_self (by rw[List.length_set];omega)]at hy
   cases hy
   exact hy2
  ·rw[List.getElem?_set_ne (by omega),List.getElem?_set_ne (by omega)]at hy
   exact h.h2 j x' y (by omega) hx' hy
structure Fit55(n:Nat)(x:Nd):Prop where
 k:0≤x.kind∧x.kind≤5
 l:x.es.length≤8
 z:x.es.map (mv 0)=x.es
theorem loop55{ns:List Nd}{a:AV}(hns:NsOk ns a)(hk:∀x∈ns,Fit55 ns.length x)(hl:ns.length≤64):
  ∀(d i:Nat)(fr:PT)(ds:List Nd),ns.length-i=d→i≤ns.length→H55 ns ds i→RFr fr a ns.length (ns.length+ns.length) i→
  ∃(fr':PT)(ds':List Nd),D.loop 0 55 102 l55_1 fr [dsB ds]=some (.exit 0,fr',[dsB ds'])∧H55 ns ds' ns.length∧RFr fr' a ns.length (ns.length+ns.length) ns.length
 | 0,i,fr,ds,hd,hi,h,F=>by
  have hlt:=lp1 hd hi
  have:=lp0 hd hi
  subst this
  rw[dl55_1]
  simp -implicitDefEqProofs (maxDischargeDepth:=4) only[go_sem,F.f5,F.f7,hlt]
  refine⟨_,ds,rfl,h,F.of fun t ht=>?_⟩
  rcases ht with rfl | rfl | rfl | rfl<;>simp only[go_sem]
 | d+1,i,fr,ds,hd,hi,h,F=>by
  have hlt:=lp2 hd
  have w3:=wrap_succ (lp5 hd hl)
  obtain⟨x,hx⟩:=ex_nd (lp3 hd)
  have hf:=hk x (List.mem_of_getElem? hx)
  obtain⟨fr1,e1,F1⟩:∃fr1:PT,ex cx D 0 55 102 (.seq (.region 7 g55_7 false) (.cond (.tmp 26) .skip (.exit 0))) fr [dsB ds]=some (.normal,fr1,[dsB ds])∧RFr fr1 a ns.length (ns.length+ns.length) i:=by
   simp -implicitDefEqProofs (maxDischargeDepth:=4) only[go_sem,F.f5,F.f7,hlt]
   refine⟨_,rfl,F.of fun t ht=>?_⟩
   rcases ht with rfl | rfl | rfl | rfl<;>simp only[go_sem]
  obtain⟨fr2,e2,F2,g8,g9⟩:∃fr2:PT,ex cx D 0 55 102 (.region 9 g55_8 false) fr1 [dsB ds]=some (.normal,fr2,[dsB ds])∧RFr fr2 a ns.length (ns.length+ns.length) i∧fr2.get 8=.lit (.slice none 0 0)∧fr2.get 9=.lit (.slice none 0 0):=by
   simp -implicitDefEqProofs (maxDischargeDepth:=4) only[go_sem]
   refine⟨_,rfl,F1.of fun t ht=>?_,by simp only[go_sem],by simp only[go_sem]⟩
   rcases ht with rfl | rfl | rfl | rfl<;>simp only[go_sem]
  obtain⟨fr3,e3,F3,h8,h9,h10⟩:∃fr3:PT,ex cx D 0 55 102 (.region 10 g55_9 false) fr2 [dsB ds]=some (.normal,fr3,[dsB ds])∧RFr fr3 a ns.length (ns.length+ns.length) i∧fr3.get 8=.lit (.slice none 0 0)∧fr3.get 9=.lit (.slice none 0 0)∧fr3.get 10=iv (0:Nat):=by
   simp -implicitDefEqProofs (maxDischargeDepth:=4) only[go_sem]
   refine⟨_,rfl,F2.of fun t ht=>?_,by simp only[go_sem,g8],by simp only[go_sem,g9],by simp only[go_sem];rfl⟩
   rcases ht with rfl | rfl | rfl | rfl<;>simp only[go_sem]
  obtain⟨fr4,w8,w9,e4,F4,q8,q9,G8,G9⟩:=edges55 hns hx hf.l (B:=dsB ds) (killB_ds h.ok 1) rfl rfl x.es.length 0 fr3 _ _ [] [] (Nat.sub_zero _) (Nat.zero_le _) F3 h8 h9 h10 rfl rfl (.inr ⟨rfl,rfl⟩) (.inr ⟨rfl,rfl⟩)
  obtain⟨fr5,e5,F5⟩:=write55 hns hl (lp3 hd) (lp4 hd) hx (w8:=w8) (w9:=w9) (es9:=x.es.map (mv ns.length)) G8 G9 h.ln (fr:=fr4) ⟨F4,q8,q9⟩
  have hstep:=h.step hx (y1:={ x with nx:=shr w8 }) (y2:={ x with kind:=dk x.kind,es:=x.es.map (mv ns.length),nx:=shr w9 })
   ⟨ks1_at hf.k,rfl,rfl,rfl,rfl,hf.z.symm,G8.sl⟩ ⟨ks2_at hf.k,rfl,rfl,rfl,rfl,rfl,G9.sl⟩
  generalize ((ds.set i { x with nx:=shr w8 }).set (ns.length+i) { x with kind:=dk x.kind,es:=x.es.map (mv ns.length),nx:=shr w9 })=ds5 at e5 hstep
  obtain⟨fr6,e6,F6⟩:∃fr6:PT,ex cx D 0 55 102 (.region 8 g55_20 false) fr5 [dsB ds5]=some (.normal,fr6,[dsB ds5])∧RFr fr6 a ns.length (ns.length+ns.length) (i+1):=by
   simp -implicitDefEqProofs (maxDischargeDepth:=4) only[go_sem,F5.f7,w3]
   exact⟨_,rfl,by simp only[go_sem,F5.f0],by simp only[go_sem,F5.f5],by simp only[go_sem,F5.f6],by simp only[go_sem]⟩
  rw[dl55_1,x_cont1 e1]
  have e34:ex cx D 0 55 102 (.seq (.region 10 g55_9 false) (.block 2 (.loop l55_0))) fr2 [dsB ds]=some (.normal,fr4,[dsB ds]):=by
   rw[x_cont1 e3,x_block,x_loop,e4]
   rfl
  have eb:ex cx D 0 55 102 (.block 1 (.seq (.region 9 g55_8 false) (.seq (.seq (.region 10 g55_9 false) (.block 2 (.loop l55_0))) (.seq (.region 16 g55_15 false) (.seq (.region 17 g55_16 false) (.seq (.region 18 g55_17 false) (.seq (.region 19 g55_18 false) (.region 20 g55_19 false)))))))) fr1 [dsB ds]=some (.normal,fr5,[dsB ds5]):=by
   rw[x_block,x_cont1 e2,x_cont1 e34,e5]
   rfl
  rw[x_cont1 eb,e6,xbind_some,contR_normal]
  refine trim_gen (P:=fun zz=>∃(fr':PT)(ds':List Nd),zz=some (.exit 0,fr',[dsB ds'])∧H55 ns ds' ns.length∧RFr fr' a ns.length (ns.length+ns.length) ns.length) [0,5,6,7] (by simp) (fun t ht=>?_) fun fr' G' hG' hf hk'=>?_
  ·simp only[List.mem_cons,List.not_mem_nil,or_false]at ht
   rcases ht with rfl | rfl | rfl | rfl
   ·rw[F6.f0,kill_Sl hns.sl]
   ·rw[F6.f5];rfl
   ·rw[F6.f6];rfl
   ·rw[F6.f7];rfl
  ·have hGB:G'=[dsB ds5]:=by
    match G',hG' with
    | [y],_ =>
     have:=hk' 0 (dsB ds5) Nat.zero_lt_one rfl (killB_ds hstep.ok 1)
     cases this;rfl
   subst hGB
   exact loop55 hns hk hl d (i+1) fr' ds5 (nd1 hd) (nd2 hd) hstep ⟨by rw[hf 0 (by simp),F6.f0],by rw[hf 5 (by simp),F6.f5],by rw[hf 6 (by simp),F6.f6],by rw[hf 7 (by simp),F6.f7]⟩
theorem twice{n:Nat}(h:n≤64):wrapK .i64 (2*(n:Int))=((n+n:Nat):Int):=by rw[wrapK_i64 (by omega) (by omega)];omega
theorem twice_le{n:Nat}(h:n≤64):(n+n)*(64+1)≤1099511627776:=by omega
theorem rtab_call{ns:List Nd}{a:AV}(hns:NsOk ns a)(h0:(chk ns).2=0):∃ds,callB cx D 0 55 [a] []=some (.sl 0 6 0 (ns.length+ns.length) (ns.length+ns.length),[dsB ds])∧H55 ns ds ns.length:=by
 have h49:=rchk_ok hns
 unfold errV at h49
 have ea:elP false 1 a 0=some a:=elP_Sl hns.sl
 have hg:=chk_good h0
 rw[h0]at h49
 have w2:=twice hg.le
 have w4:=twice_le hg.le
 have hL:∀H,alen cx.T 56 H a=some (iv ns.length):=fun H=>by rw[alen_sl hns.sl (by rw[sl56];rfl),List.length_map]
 have hrep:List.replicate (ns.length+ns.length) (AV.agg [iv 0,iv 0,bv false,iv 0,iv 0,.lit (.slice none 0 0)])=(List.replicate (ns.length+ns.length) (niN 0 0 false 0 0)).map nodeV:=by rw[List.map_replicate]
 have hk:∀x∈ns,Fit55 ns.length x:=fun x hx=>⟨shp_kind (hg.sh x hx),shp_len (hg.sh x hx),mv_zero (by have:=hg.le;omega) (hg.cl x hx)⟩
 have h00:H55 ns (List.replicate (ns.length+ns.length) (niN 0 0 false 0 0)) 0:=⟨List.length_replicate,fun y hy=>by rw[List.eq_of_mem_replicate hy];exact niN_ok _ _ _ _ _,fun j x y hj=>absurd hj (Nat.not_lt_zero _),fun j x y hj=>absurd hj (Nat.not_lt_zero _)⟩
 obtain⟨fr1,e1,F1⟩:∃fr1:PT,ex cx D 0 55 102 (.seq (.region 0 g55_0 false) (.seq (.region 1 g55_1 false) (.seq (.region 2 g55_2 false) (.cond (.tmp 18) (.seq (.region 3 g55_3 false) .ret) .skip)))) (PT.nil.set 0 (drp a)) []=some (.normal,fr1,[])∧fr1.get 0=a:=by
  simp -implicitDefEqProofs (maxDischargeDepth:=4) only[go_sem,hns.sl.shr,hns.sl.notOwn,hns.sl.drp,hns.sl.shut1,ea,h49]
  exact⟨_,rfl,by simp only[go_sem]⟩
 obtain⟨fr2,e2,F2,g2⟩:∃fr2:PT,ex cx D 0 55 102 (.region 4 g55_4 false) fr1 []=some (.normal,fr2,[])∧fr2.get 0=a∧fr2.get 5=iv ns.length:=by
  simp -implicitDefEqProofs (maxDischargeDepth:=4) only[go_sem,F1,hns.sl.shr,hns.sl.notOwn,hL,ea]
  exact⟨_,rfl,by simp only[go_sem,F1],by simp only[go_sem]⟩
 obtain⟨fr3,e3,F3⟩:∃fr3:PT,ex cx D 0 55 102 (.seq (.region 5 g55_5 false) (.region 6 g55_6 false)) fr2 []=some (.normal,fr3,[dsB (List.replicate (ns.length+ns.length) (niN 0 0 false 0 0))])∧RFr fr3 a ns.length (ns.length+ns.length) (0:Nat):=by
  simp -implicitDefEqProofs (maxDischargeDepth:=4) only[go_sem,F2,g2,w2,w4,hrep,Nat.le_refl,Nat.zero_le]
  exact⟨_,rfl,by simp only[go_sem,F2],by simp only[go_sem,g2],by simp only[go_sem],by simp only[go_sem];rfl⟩
 obtain⟨fr4,ds,e4,h4,F4⟩:=loop55 hns hk hg.le ns.length 0 fr3 _ (Nat.sub_zero _) (Nat.zero_le _) h00 F3
 refine⟨ds,?_,h4⟩
 obtain⟨_,_,p1,p2⟩:=x_split e1
 obtain⟨_,_,p3,p4⟩:=x_split p2
 obtain⟨_,_,p5,p6⟩:=x_split e3
 have q:∀Z,ex cx D 0 55 102 (.seq (.seq (.region 6 g55_6 false) (.block 0 (.loop l55_1))) Z) _ _=_:=fun Z=>by rw[x_assoc,x_cont1 p6]
 have q2:ex cx D 0 55 102 (.block 0 (.loop l55_1)) fr3 [dsB (List.replicate (ns.length+ns.length) (niN 0 0 false 0 0))]=some (.normal,fr4,[dsB ds]):=by
  rw[x_block,x_loop,e4]
  rfl
 rw[c55,x_cont1 p1,x_cont1 p3,x_cont1 p4,x_cont1 e2,x_cont1 p5,q,x_cont1 q2]
 simp -implicitDefEqProofs (maxDischargeDepth:=4) only[go_sem,F4.f6]
theorem cl1_nodes{ds:List Nd}(h:∀y∈ds,NdOk y):(ds.map nodeV).map Abs.cl1=ds.map nodeV:=by
 rw[List.map_map]
 refine List.map_congr_left fun y hy=>?_
 have hs:Sl 2 y.nx (y.es.map ed):=h y hy
 show AV.agg ((nodeC y).map Abs.cl0)=_
 simp only[List.map_cons,List.map_nil,cl0_lit,hs.cl0]
theorem H55.frz{ns ds:List Nd}(h:H55 ns ds ns.length):Abs.frz 0 [dsB ds] (.sl 0 6 0 (ns.length+ns.length) (ns.length+ns.length))=.vec 6 .shared (ds.map nodeV):=by
 show (if (0:Nat)<0 then AV.dead else if 0+(ns.length+ns.length)≤(ds.map nodeV).length∧(ns.length+ns.length)≤(ns.length+ns.length) then AV.vec 6 .shared ((((ds.map nodeV).drop 0).take (ns.length+ns.length)).map cl1) else .dead)=_
 rw[if_neg (Nat.lt_irrefl 0)]
 show (if 0+(ns.length+ns.length)≤(ds.map nodeV).length∧(ns.length+ns.length)≤(ns.length+ns.length) then AV.vec 6 .shared ((((ds.map nodeV).drop 0).take (ns.length+ns.length)).map cl1) else .dead)=_
 rw[if_pos (by rw[List.length_map,h.ln];omega),List.drop_zero,List.take_of_length_le (by rw[List.length_map,h.ln];omega),cl1_nodes h.ok]
theorem rtab_ok{ns:List Nd}{a:AV}(hns:NsOk ns a)(h0:(chk ns).2=0):∃ds,pcall D 55 [a]=some (.vec 6 .shared (ds.map nodeV))∧H55 ns ds ns.length:=by
 obtain⟨ds,h1,h2⟩:=rtab_call hns h0
 exact⟨ds,by rw[pcall_eq (v:=.sl 0 6 0 (ns.length+ns.length) (ns.length+ns.length)) (H':=[dsB ds]) (by rw[List.map_cons,List.map_nil,hns.sl.cl2];exact h1),h2.frz],h2⟩
theorem H55.nsOk{ns ds:List Nd}{i:Nat}(h:H55 ns ds i)(hl:ns.length≤64):NsOk ds (.vec 6 .shared (ds.map nodeV)):=by
 refine⟨.inr (.inl rfl),h.ok,?_⟩
 rw[h.ln]
 exact Nat.lt_of_le_of_lt (show ns.length+ns.length≤128 by omega) (by decide)
structure RCl(T:List Nd)(n:Nat)(fs:List Nat)(k:Nat)(cls:List Cl):Prop where
 len:cls.length=k
 ok:∀z∈cls,ClOk z
 at':∀m,m<k→∃z,cls[m]?=some z∧IsCl T (atsOf T) (clsO T (atsOf T)) n z (fs.getD m 0)
theorem RCl.step{T:List Nd}{n k:Nat}{fs:List Nat}{cls:List Cl}(h:RCl T n fs k cls){z:Cl}(hz:ClOk z)(hi:IsCl T (atsOf T) (clsO T (atsOf T)) n z (fs.getD k 0)):RCl T n fs (k+1) (cls++[z]):=by
 refine⟨by rw[List.length_append,h.len];rfl,fun y hy=>?_,fun m hm=>?_⟩
 ·rw[List.mem_append,List.mem_singleton]at hy
  rcases hy with hy | rfl
  ·exact h.ok y hy
  ·exact hz
 ·by_cases e:m=k
  ·subst e
   exact⟨z,by rw[List.getElem?_append_right (by rw[h.len];exact Nat.le_refl _),h.len,Nat.sub_self];rfl,hi⟩
  ·obtain⟨y,h1,h2⟩:=h.at' m (by omega)
   exact⟨y,by rw[List.getElem?_append_left (by rw[h.len];omega)];exact h1,h2⟩
theorem cl_loop{ns T:List Nd}{a tv g:AV}(hns:NsOk ns a)(d:Du ns T tv){fs:List Nat}(hg:Grow 1 g (fs.map nv))(hl:fs.length≤200)(hfs:∀m,m<fs.length→∃x,T[fs.getD m 0]?=some x∧nodeAt T (atsOf T) (fs.getD m 0)=x){c:Nat}(hc:1≤c){ov pv:AV}{prs:List Int}:
  ∀(m k:Nat)(fr:PT)(G:Hp)(cv:AV)(cls:List Cl),fs.length-k=m→k≤fs.length→FFr fr a tv T.length→fr.get 12=.ptr c 0 0→fr.get 13=g→fr.get 19=iv k→G[0]?=some tZ→G[c]?=some (tB cv ov pv)→TbV T cv ov pv cls prs→RCl T ns.length fs k cls→
  ∃fr' G' cv' cls',D.loop 0 74 240 l74_7 fr G=some (.exit 12,fr',G')∧FFr fr' a tv T.length∧fr'.get 12=.ptr c 0 0∧G'[0]?=some tZ∧G'[c]?=some (tB cv' ov pv)∧TbV T cv' ov pv cls' prs∧RCl T ns.length fs fs.length cls'
 | 0,k,fr,G,cv,cls,hm,hk,F,f12,f13,f19,h0,h1,V,K=>by
  have hlt:=lp1 hm hk
  have e:k=fs.length:=by omega
  subst e
  have sg:=hg.sl
  rw[dl74_7]
  simp -implicitDefEqProofs (maxDischargeDepth:=4) only[go_sem,f13,f19,mvV_false,sg.shr,sg.notOwn,alen_sl sg,List.length_map,hlt]
  exact⟨_,G,cv,cls,rfl,F.of fun t ht=>by rcases ht with rfl | rfl | rfl | rfl<;>simp only[go_sem],by simp only[go_sem,f12],h0,h1,V,K⟩
 | m+1,k,fr,G,cv,cls,hm,hk,F,f12,f13,f19,h0,h1,V,K=>by
  have hlt:=lp2 hm
  have w3:=wrap_succ (show k≤1000 by omega)
  have sg:=hg.sl
  obtain⟨x,hx,hn⟩:=hfs k (by omega)
  obtain⟨fr1,p1,F1,g12,g13,g19⟩:∃fr1,ex cx D 0 74 240 (.seq (.region 43 g74_43 false) (.cond (.tmp 168) .skip (.exit 12))) fr G=some (.normal,fr1,G)∧FFr fr1 a tv T.length∧fr1.get 12=.ptr c 0 0∧fr1.get 13=g∧fr1.get 19=iv k:=by
   simp -implicitDefEqProofs (maxDischargeDepth:=4) only[go_sem,f13,f19,mvV_false,sg.shr,sg.notOwn,alen_sl sg,List.length_map,hlt]
   exact⟨_,rfl,F.of fun t ht=>by rcases ht with rfl | rfl | rfl | rfl<;>simp only[go_sem],by simp only[go_sem,f12],by simp only[go_sem,f13],by simp only[go_sem,f19]⟩
  obtain⟨fr2,G2,cv2,z,p2,F2,h12,h13,h19,k0,k1,V2,hz,hi⟩:=cl_round hns d hg (by omega) hx hn hc V K.len (by omega) F1 g12 g13 g19 h0 h1
  obtain⟨fr3,p3,F3,l12,l13,l19⟩:∃fr3,ex cx D 0 74 240 (.region 44 g74_53 false) fr2 G2=some (.normal,fr3,G2)∧FFr fr3 a tv T.length∧fr3.get 12=.ptr c 0 0∧fr3.get 13=g∧fr3.get 19=iv (k+1:Nat):=by
   simp -implicitDefEqProofs (maxDischargeDepth:=4) only[go_sem,h19,w3]
   exact⟨_,rfl,F2.of fun t ht=>by rcases ht with rfl | rfl | rfl | rfl<;>simp only[go_sem],by simp only[go_sem,h12],by simp only[go_sem,h13],by simp only[go_sem]⟩
  obtain⟨fr4,G4,cv4,cls4,p4,r⟩:=cl_loop hns d hg hl hfs hc m (k+1) fr3 G2 cv2 _ (nd1 hm) (nd2 hm) F3 l12 l13 l19 k0 k1 V2 (K.step hz hi)
  refine⟨fr4,G4,cv4,cls4,?_,r⟩
  rw[dl74_7,x_cont1 p1,x_cont1 p2,p3,xbind_some,contR_normal,p4]
theorem rof_bad{ns:List Nd}{a:AV}(hns:NsOk ns a)(h0:(ordC ns).2≠0):pcall D 74 [a]=some (.tup [.agg [.lit (.slice none 0 0),.lit (.slice none 0 0),.lit (.slice none 0 0)],iv (ordC ns).2]):=by
 have h68:=rord_ok hns
 unfold errV at h68
 generalize (ordC ns).1=p at h68
 generalize (ordC ns).2=e at h68 h0
 have run:∃H',callB cx D 0 74 [a] []=some (.tup [.agg [.lit (.slice none 0 0),.lit (.slice none 0 0),.lit (.slice none 0 0)],iv e],H'):=by
  rw[c74]
  simp -implicitDefEqProofs (maxDischargeDepth:=4) only[go_sem,hns.sl.shr,hns.sl.notOwn,hns.sl.drp,hns.sl.shut1,h68,h0,List.set_cons_zero,Nat.zero_le,Nat.le_refl,Nat.not_lt_zero]
  exact⟨_,rfl⟩
 obtain⟨H',h⟩:=run
 rw[pcall_eq (v:=.tup [.agg [.lit (.slice none 0 0),.lit (.slice none 0 0),.lit (.slice none 0 0)],iv e]) (H':=H') (by rw[List.map_cons,List.map_nil,hns.sl.cl2];exact h)]
 rfl
theorem H55.half2{ns ds:List Nd}(h:H55 ns ds ns.length):Half2 ns ds:=by
 have hl:=h.ln
 refine⟨hl,fun i x hx=>?_,fun i x hx=>?_⟩
 ·have hi:=(List.getElem?_eq_some_iff.1 hx).1
  obtain⟨y,hy⟩:=ex_nd (ns:=ds) (i:=i) (by omega)
  exact⟨y,hy,h.h1 i x y hi hx hy⟩
 ·have hi:=(List.getElem?_eq_some_iff.1 hx).1
  obtain⟨y,hy⟩:=ex_nd (ns:=ds) (i:=ns.length+i) (by omega)
  exact⟨y,hy,h.h2 i x y hi hx hy⟩
theorem rof_pre{ns:List Nd}{a:AV}(hns:NsOk ns a)(h0:(ordC ns).2=0):
  ∃tv T fr,ex cx D 0 74 240 (.seq (.region 0 g74_0 false) (.seq (.region 1 g74_1 false) (.seq (.seq (.region 2 g74_2 false) (.cond (.tmp 29) (.seq (.region 3 g74_3 false) .ret) .skip)) (.seq (.region 4 g74_4 false) (.seq (.region 5 g74_5 false) (.region 6 g74_6 false)))))) (PT.nil.set 0 (drp a)) []=some (.normal,fr,[tZ,.cells 1 26 (row0 T.length 0)])∧Du ns T tv∧FFr fr a tv T.length∧fr.get 8=iv (0:Nat):=by
 have h68:=rord_ok hns
 have hg:=ord_good h0
 obtain⟨ds,h55,h5⟩:=rtab_ok hns (good_chk hg.toGood)
 have hT:=h5.nsOk hg.le
 have hle:=hg.le
 have hln:=h5.ln
 have h24:ds.length*(24+1)≤1099511627776:=by omega
 unfold errV at h68
 rw[h0]at h68
 generalize (ordC ns).1=p at h68
 refine⟨.vec 6 .shared (ds.map nodeV),ds,?_⟩
 have hT':=hT
 generalize hv:AV.vec 6 .shared (ds.map nodeV)=tv at *
 have run:∃fr,ex cx D 0 74 240 (.seq (.region 0 g74_0 false) (.seq (.region 1 g74_1 false) (.seq (.seq (.region 2 g74_2 false) (.cond (.tmp 29) (.seq (.region 3 g74_3 false) .ret) .skip)) (.seq (.region 4 g74_4 false) (.seq (.region 5 g74_5 false) (.region 6 g74_6 false)))))) (PT.nil.set 0 (drp a)) []=some (.normal,fr,[tZ,.cells 1 26 (row0 ds.length 0)])∧FFr fr a tv ds.length∧fr.get 8=iv (0:Nat):=by
  rw[row0_zero]
  simp -implicitDefEqProofs (maxDischargeDepth:=4) only[go_sem,hns.sl.shr,hns.sl.notOwn,hns.sl.drp,hns.sl.shut1,h68,h55,hT.sl.shr,hT.sl.notOwn,hT.sl.drp,hT.sl.fitA,alen_sl hT.sl,List.length_map,h24,List.set_cons_zero,List.set_cons_succ,Nat.zero_le,Nat.le_refl,Nat.not_lt_zero]
  exact⟨_,rfl,⟨by simp only[go_sem],by simp only[go_sem],by simp only[go_sem],by simp only[go_sem]⟩,by simp only[go_sem];rfl⟩
 obtain⟨fr,h,F,f8⟩:=run
 exact⟨fr,h,⟨hg,h5.half2,hT'⟩,F,f8⟩
theorem rof_ok{ns:List Nd}{a:AV}(hns:NsOk ns a)(h0:(ordC ns).2=0):
  ∃cv ov pv tv T cls fs prs,pcall D 74 [a]=some (.tup [.agg [cv,ov,pv],iv 0])∧TbOk cv ov pv cls (clsO T (atsOf T)) prs∧Du ns T tv∧prs=(List.range T.length).map (prI T (atsOf T))∧FsI T (clsR T (atsOf T)) T.length fs∧RCl T ns.length fs (clsN T (atsOf T)) cls:=by
 obtain⟨tv,T,fr1,p1,d,F1,f8⟩:=rof_pre hns h0
 have hN:=d.len
 have hpos:=d.g.pos
 have hln:=d.h.ln
 obtain⟨fr2,G2,p2,F2,H2⟩:=rows_loop d.n (by omega) T.length 0 fr1 [tZ,.cells 1 26 (row0 T.length 0)] (Nat.sub_zero _) (Nat.zero_le _) F1 f8 ⟨rfl,rfl,rfl,fun j hj=>absurd hj (Nat.not_lt_zero _)⟩
 have M2:MkH G2 T.length fun _ _=>false:=⟨⟨by rw[H2.a,row0_all],H2.r⟩,H2.t⟩
 obtain⟨fr3,p3,F3,f9⟩:∃fr3,ex cx D 0 74 240 (.region 10 g74_10 false) fr2 G2=some (.normal,fr3,G2)∧FFr fr3 a tv T.length∧fr3.get 9=bv true:=by
  simp -implicitDefEqProofs (maxDischargeDepth:=4) only[go_sem]
  exact⟨_,rfl,F2.of fun t ht=>by rcases ht with rfl | rfl | rfl | rfl<;>simp only[go_sem],by simp only[go_sem]⟩
 obtain⟨fr4,G4,A,p4,F4,M4,K4⟩:=mark_all d _ fr3 G2 _ true rfl F3 f9 M2 (fun E hE u v h=>by cases h) (fun h=>by cases h)
 have hA:=fun i j hi hj=>d.mk_EI K4 (i:=i) (j:=j) hi hj
 obtain⟨c,hc⟩:∃c,G4.length=c:=⟨_,rfl⟩
 have hc2:2+T.length≤c:=by
  have:=lt_of_get (M4.r (T.length-1) (by omega))
  omega
 obtain⟨fr5,p5,F5,f12,f13,f14⟩:∃fr5,ex cx D 0 74 240 (.seq (.region 22 g74_22 false) (.seq (.region 23 g74_23 false) (.region 24 g74_24 false))) fr4 G4=some (.normal,fr5,G4++[tZ])∧FFr fr5 a tv T.length∧fr5.get 12=.ptr c 0 0∧fr5.get 13=.lit (.slice none 0 0)∧fr5.get 14=iv (0:Nat):=by
  simp -implicitDefEqProofs (maxDischargeDepth:=4) only[go_sem,hc,Nat.zero_le]
  exact⟨_,rfl,F4.of fun t ht=>by rcases ht with rfl | rfl | rfl | rfl<;>simp only[go_sem],by simp only[go_sem],by simp only[go_sem],by simp only[go_sem];rfl⟩
 have H5:NuH (G4++[tZ]) T A (clsR T (atsOf T)) c 0 (.lit (.slice none 0 0)) (.lit (.slice none 0 0)):=⟨M4.grow _,hc2,by rw[hp_get_r0 hc];rfl,.inr ⟨rfl,rfl⟩,.inr ⟨rfl,rfl⟩⟩
 obtain⟨fr6,G6,g,ov,pv,fs,p6,F6,g12,g13,hg,K6,H6⟩:=nu_loop d hA T.length 0 fr5 _ _ _ _ [] (Nat.sub_zero _) (Nat.zero_le _) F5 f12 f13 f14 (.inr ⟨rfl,rfl⟩) (FsI.zero _ _) H5
 obtain⟨fr7,p7,F7,h12,h13,h19⟩:∃fr7,ex cx D 0 74 240 (.region 42 g74_42 false) fr6 G6=some (.normal,fr7,G6)∧FFr fr7 a tv T.length∧fr7.get 12=.ptr c 0 0∧fr7.get 13=g∧fr7.get 19=iv (0:Nat):=by
  simp -implicitDefEqProofs (maxDischargeDepth:=4) only[go_sem]
  exact⟨_,rfl,F6.of fun t ht=>by rcases ht with rfl | rfl | rfl | rfl<;>simp only[go_sem],by simp only[go_sem,g12],by simp only[go_sem,g13],by simp only[go_sem];rfl⟩
 have hcnt:=cnt_bound (clsR T (atsOf T)) T.length
 have hfl:fs.length≤200:=by rw[K6.len];omega
 have hfs:∀m,m<fs.length→∃x,T[fs.getD m 0]?=some x∧nodeAt T (atsOf T) (fs.getD m 0)=x:=fun m hm=>by
  rw[K6.len]at hm
  obtain⟨j,h1,h2,h3⟩:=K6.at' m hm
  obtain⟨x,x1,x2,x3,x4,x5⟩:=d.no5 h1
  rw[h3]
  exact⟨x,x1,x5⟩
 have V7:TbV T (.lit (.slice none 0 0)) ov pv [] ((List.range T.length).map (prI T (atsOf T))):=⟨.inr ⟨rfl,rfl⟩,H6.o,H6.p⟩
 obtain⟨fr8,G8,cv,cls,p8,F8,k12,k0,kc,V8,K8⟩:=cl_loop hns d hg hfl hfs (by omega) fs.length 0 fr7 G6 _ [] (Nat.sub_zero _) (Nat.zero_le _) F7 h12 h13 h19 H6.t H6.c V7 ⟨rfl,fun z hz=>(by cases hz),fun m hm=>absurd hm (Nat.not_lt_zero _)⟩
 have scv:=V8.c.sl
 have sov:=V8.o.sl
 have spv:=V8.p.sl
 have hcc:shr (shr cv)=shr cv:=scv.shr
 have hoo:shr (shr ov)=shr ov:=sov.shr
 have hpp:shr (shr pv)=shr pv:=spv.shr
 have run:∃G',callB cx D 0 74 [a] []=some (.tup [.agg [shr cv,shr ov,shr pv],iv 0],G'):=by
  obtain⟨_,_,q0,t⟩:=x_split p1
  obtain⟨_,_,q1,t⟩:=x_split t
  obtain⟨_,_,q2,t⟩:=x_split t
  obtain⟨_,_,q4,t⟩:=x_split t
  obtain⟨fra,Ga,q5,q6⟩:=x_split t
  obtain⟨_,_,u1,t⟩:=x_split p5
  obtain⟨frb,Gb,u2,u3⟩:=x_split t
  have e1:ex cx D 0 74 240 (.seq (.region 6 g74_6 false) (.block 0 (.loop l74_0))) fra Ga=some (.normal,fr2,G2):=by rw[x_cont1 q6,x_block,x_loop,p2];rfl
  have e2:ex cx D 0 74 240 (.block 2 (.loop l74_3)) fr3 G2=some (.normal,fr4,G4):=by rw[x_block,x_loop,p4];rfl
  have e3:ex cx D 0 74 240 (.seq (.region 24 g74_24 false) (.block 8 (.loop l74_5))) frb Gb=some (.normal,fr6,G6):=by rw[x_cont1 u3,x_block,x_loop,p6];rfl
  have e4:ex cx D 0 74 240 (.seq (.region 42 g74_42 false) (.block 12 (.loop l74_7))) fr6 G6=some (.normal,fr8,G8):=by rw[x_cont1 p7,x_block,x_loop,p8];rfl
  rw[c74,x_cont1 q0,x_cont1 q1,x_cont1 q2,x_cont1 q4,x_cont1 q5,x_cont1 e1,x_cont1 p3,x_cont1 e2,x_cont1 u1,x_cont1 u2,x_cont1 e3,x_cont1 e4]
  have hl0:=lt_of_get k0
  have hone:∀(B:ABlock),(G8.set 0 B)[0]?=some B:=fun B=>hp_one hl0
  simp -implicitDefEqProofs (maxDischargeDepth:=4) only[go_sem,F8.f2,k12,k0,kc,hone,hcc,hoo,hpp,scv.drp,sov.drp,spv.drp,scv.fitA,sov.fitA,spv.fitA,List.set_cons_zero,Nat.zero_le,Nat.le_refl,Nat.not_lt_zero]
  exact⟨_,rfl⟩
 obtain⟨G',hrun⟩:=run
 have hkl:fs.length=clsN T (atsOf T):=K6.len
 refine⟨shr cv,shr ov,shr pv,tv,T,cls,fs,_,?_,⟨scv,K8.ok,sov,spv⟩,d,rfl,K6,by rw[←hkl];exact K8⟩
 rw[pcall_eq (v:=.tup [.agg [shr cv,shr ov,shr pv],iv 0]) (H':=G') (by rw[List.map_cons,List.map_nil,hns.sl.cl2];exact hrun)]
 show some (AV.tup [.agg [frz0 0 G' (shr cv),frz0 0 G' (shr ov),frz0 0 G' (shr pv)],iv 0])=_
 rw[scv.fr0,sov.fr0,spv.fr0]
section
variable {ns T:List Nd} {tv:AV}
end
open Go.Gr
theorem int_at{u:AV}{l:List Int}(hu:Sl 1 u (l.map iv)){i:Nat}(hi:i<l.length):aindexAddr cx.T 31 u (iv i)=some (.vp (iv (l.getD i 0)) 0):=by
 rw[aindexAddr_sl hu sl31 (by rw[List.length_map];exact hi) rfl,getD_map iv l i 0 _ hi]
theorem lk_at{u:AV}{l:List (Int×Int)}(hu:Sl 2 u (l.map ed)){i:Nat}(hi:i<l.length):aindexAddr cx.T 109 u (iv i)=some (.vp (ed (l.getD i (0,0))) 0):=by
 rw[aindexAddr_sl hu sl109 (by rw[List.length_map];exact hi) rfl,getD_map ed l i (0,0) _ hi]
theorem cl_at{cv:AV}{cls:List Cl}(h:Sl 6 cv (cls.map clW)){k:Nat}{z:Cl}(hz:cls[k]?=some z):aindexAddr cx.T 93 cv (iv k)=some (.vp (clW z) 0):=by
 have hk:=(List.getElem?_eq_some_iff.1 hz).1
 rw[aindexAddr_sl h sl93 (by rw[List.length_map];exact hk) rfl,getD_map clW cls k clZ _ hk,List.getD_eq_getElem?_getD,hz]
 rfl
section
variable {cv ov pv cv2 ov2 pv2:AV} {cls cls2:List Cl} {ofs:List Nat} {prs:List Int}
end
open Go.Gr
def priced(cls:List Cl)(c:Nat)(p:Int):Int×Int:=((c:Int),if (cls.getD c clZ).kd=0 then 0 else p)
abbrev ppV(r:Int×Int):AV:=.tup [iv r.1,iv r.2]
section
variable {cv ov pv:AV} {cls:List Cl} {ofs:List Nat} {prs:List Int}
theorem tb_args{cv ov pv:AV}{cls:List Cl}{ofs:List Nat}{prs:List Int}(t:TbOk cv ov pv cls ofs prs):cl2 (.agg [cv,ov,pv])=.agg [cv,ov,pv]:=by
 show AV.agg [cl0 cv,cl0 ov,cl0 pv]=_
 rw[t.c.cl0,t.o.cl0,t.p.cl0]
theorem priced_ok(t:TbOk cv ov pv cls ofs prs){k:Nat}(hk:k<cls.length)(p:Int):pcall D 137 [.agg [cv,ov,pv],iv k,iv p]=some (ppV (priced cls k p)):=by
 obtain⟨z,hz⟩:∃z,cls[k]?=some z:=⟨_,List.getElem?_eq_getElem hk⟩
 have hg:cls.getD k clZ=z:=by rw[List.getD_eq_getElem?_getD,hz];rfl
 have a1:=cl_at t.c hz
 have run:∃H',callB cx D 0 137 [.agg [cv,ov,pv],iv k,iv p] []=some (ppV (priced cls k p),H'):=by
  unfold priced
  rw[hg,c137]
  by_cases h0:z.kd=0
  ·rw[if_pos h0]
   simp -implicitDefEqProofs (maxDischargeDepth:=4) only[go_sem,t.c.shr,t.c.notOwn,t.c.drp,t.c.fitA,t.o.shr,t.o.drp,t.o.fitA,t.p.shr,t.p.drp,t.p.fitA,a1,h0,Nat.zero_le,Nat.le_refl,Nat.not_lt_zero]
   exact⟨_,rfl⟩
  ·rw[if_neg h0]
   simp -implicitDefEqProofs (maxDischargeDepth:=4) only[go_sem,t.c.shr,t.c.notOwn,t.c.drp,t.c.fitA,t.o.shr,t.o.drp,t.o.fitA,t.p.shr,t.p.drp,t.p.fitA,a1,h0,Nat.zero_le,Nat.le_refl,Nat.not_lt_zero]
   exact⟨_,rfl⟩
 obtain⟨H',h⟩:=run
 rw[pcall_eq (v:=ppV (priced cls k p)) (H':=H') (by rw[List.map_cons,tb_args t];exact h)]
 rfl
theorem known_ok(t:TbOk cv ov pv cls ofs prs)(c:Int):pcall D 138 [.agg [cv,ov,pv],iv c]=some (bv (decide (0≤c)&&decide (c<cls.length))):=by
 have run:∃H',callB cx D 0 138 [.agg [cv,ov,pv],iv c] []=some (bv (decide (0≤c)&&decide (c<cls.length)),H'):=by
  rw[c138]
  by_cases h0:0≤c
  ·have h1:¬c<0:=by omega
   by_cases h2:c<(cls.length:Int)
   ·simp -implicitDefEqProofs (maxDischargeDepth:=4) only[go_sem,t.c.shr,t.c.notOwn,t.c.drp,t.c.fitA,t.o.shr,t.o.drp,t.o.fitA,t.p.shr,t.p.drp,t.p.fitA,alen_sl t.c,List.length_map,h0,h1,h2,Nat.zero_le,Nat.le_refl,Nat.not_lt_zero]
    exact⟨_,rfl⟩
   ·simp -implicitDefEqProofs (maxDischargeDepth:=4) only[go_sem,t.c.shr,t.c.notOwn,t.c.drp,t.c.fitA,t.o.shr,t.o.drp,t.o.fitA,t.p.shr,t.p.drp,t.p.fitA,alen_sl t.c,List.length_map,h0,h1,h2,Nat.zero_le,Nat.le_refl,Nat.not_lt_zero]
    exact⟨_,rfl⟩
  ·have h1:c<0:=by omega
   simp -implicitDefEqProofs (maxDischargeDepth:=4) only[go_sem,t.c.shr,t.c.notOwn,t.c.drp,t.c.fitA,t.o.shr,t.o.drp,t.o.fitA,t.p.shr,t.p.drp,t.p.fitA,alen_sl t.c,List.length_map,h0,h1,Nat.zero_le,Nat.le_refl,Nat.not_lt_zero]
   exact⟨_,rfl⟩
 obtain⟨H',h⟩:=run
 rw[pcall_eq (v:=bv (decide (0≤c)&&decide (c<cls.length))) (H':=H') (by rw[List.map_cons,tb_args t];exact h)]
 rfl
theorem along_ok(t:TbOk cv ov pv cls ofs prs){k:Nat}(hk:k<cls.length)(j p:Int):pcall D 139 [.agg [cv,ov,pv],ed ((k:Int),j),iv p]=some (ppV (priced cls k (wrapK .i64 (p+j)))):=by
 obtain⟨z,hz⟩:∃z,cls[k]?=some z:=⟨_,List.getElem?_eq_getElem hk⟩
 have hg:cls.getD k clZ=z:=by rw[List.getD_eq_getElem?_getD,hz];rfl
 have a1:=cl_at t.c hz
 have run:∃H',callB cx D 0 139 [.agg [cv,ov,pv],ed ((k:Int),j),iv p] []=some (ppV (priced cls k (wrapK .i64 (p+j))),H'):=by
  unfold priced
  rw[hg,c139]
  by_cases h0:z.kd=0
  ·rw[if_pos h0]
   simp -implicitDefEqProofs (maxDischargeDepth:=4) only[go_sem,t.c.shr,t.c.notOwn,t.c.drp,t.c.fitA,t.o.shr,t.o.drp,t.o.fitA,t.p.shr,t.p.drp,t.p.fitA,a1,h0,nbeq,Nat.zero_le,Nat.le_refl,Nat.not_lt_zero]
   exact⟨_,rfl⟩
  ·rw[if_neg h0]
   simp -implicitDefEqProofs (maxDischargeDepth:=4) only[go_sem,t.c.shr,t.c.notOwn,t.c.drp,t.c.fitA,t.o.shr,t.o.drp,t.o.fitA,t.p.shr,t.p.drp,t.p.fitA,a1,h0,nbeq,Nat.zero_le,Nat.le_refl,Nat.not_lt_zero]
   exact⟨_,rfl⟩
 obtain⟨H',h⟩:=run
 rw[pcall_eq (v:=ppV (priced cls k (wrapK .i64 (p+j)))) (H':=H') (by rw[List.map_cons,tb_args t];exact h)]
 rfl
end
open Go.Gr
structure TbIn(cls:List Cl)(ofs:List Nat)(prs:List Int):Prop where
 l:prs.length=ofs.length
 o:∀i,i<ofs.length→ofs.getD i 0<cls.length
 x:∀z∈cls,∀e∈z.nx,∃k:Nat,e.1=k∧k<cls.length
 p:∀z∈cls,z.ch=true→∃k:Nat,z.py.1=k∧k<cls.length
def tyF(cls:List Cl)(ofs:List Nat)(prs:List Int)(n o:Int):Int×Int:=if 0≤n∧n<(ofs.length:Int) then priced cls (ofs.getD n.toNat 0) (wrapK .i64 (prs.getD n.toNat 0+o)) else (-1,0)
def nxF(cls:List Cl)(c p i:Int):Int×Int:=if 0≤c∧c<(cls.length:Int)∧0≤i∧i<((cls.getD c.toNat clZ).nx.length:Int) then
  priced cls ((cls.getD c.toNat clZ).nx.getD i.toNat (0,0)).1.toNat (wrapK .i64 (p+((cls.getD c.toNat clZ).nx.getD i.toNat (0,0)).2)) else (-1,0)
def pyF(cls:List Cl)(c p:Int):Int×Int:=if 0≤c∧c<(cls.length:Int)∧(cls.getD c.toNat clZ).ch=true then
  priced cls (cls.getD c.toNat clZ).py.1.toNat (wrapK .i64 (p+(cls.getD c.toNat clZ).py.2)) else (-1,0)
section
variable {cv ov pv:AV} {cls:List Cl} {ofs:List Nat} {prs:List Int}
theorem type_ok(t:TbOk cv ov pv cls ofs prs)(I:TbIn cls ofs prs)(n o:Int):pcall D 78 [.agg [cv,ov,pv],tyV (n,o)]=some (ppV (tyF cls ofs prs n o))∧pcall D 79 [.agg [cv,ov,pv],tyV (n,o)]=some (ppV (tyF cls ofs prs n o)):=by
 have run:(∃H',callB cx D 0 78 [.agg [cv,ov,pv],tyV (n,o)] []=some (ppV (tyF cls ofs prs n o),H'))∧∃H',callB cx D 0 79 [.agg [cv,ov,pv],tyV (n,o)] []=some (ppV (tyF cls ofs prs n o),H'):=by
  unfold tyF
  rw[c78,c79]
  by_cases h0:n<0
  ·rw[if_neg (by omega)]
   constructor
   ·simp -implicitDefEqProofs (maxDischargeDepth:=4) only[go_sem,t.c.shr,t.c.notOwn,t.c.drp,t.c.fitA,t.o.shr,t.o.notOwn,t.o.drp,t.o.fitA,t.p.shr,t.p.notOwn,t.p.drp,t.p.fitA,h0,Nat.zero_le,Nat.le_refl,Nat.not_lt_zero]
    exact⟨_,rfl⟩
   ·simp -implicitDefEqProofs (maxDischargeDepth:=4) only[go_sem,t.c.shr,t.c.notOwn,t.c.drp,t.c.fitA,t.o.shr,t.o.notOwn,t.o.drp,t.o.fitA,t.p.shr,t.p.notOwn,t.p.drp,t.p.fitA,h0,Nat.zero_le,Nat.le_refl,Nat.not_lt_zero]
    exact⟨_,rfl⟩
  ·obtain⟨k,rfl⟩:∃k:Nat,n=k:=⟨n.toNat,by omega⟩
   by_cases h1:k<ofs.length
   ·rw[if_pos (by omega),Int.toNat_natCast]
    have h2:¬((ofs.length:Int)≤(k:Int)):=by omega
    have a1:aindexAddr cx.T 31 ov (iv k)=some (.vp (nv (ofs.getD k 0)) 0):=by rw[aindexAddr_sl t.o sl31 (by rw[List.length_map];exact h1) rfl,get_nv h1]
    have a2:=int_at t.p (i:=k) (by rw[I.l];exact h1)
    have hck:=I.o k h1
    obtain⟨z,hz⟩:∃z,cls[ofs.getD k 0]?=some z:=⟨_,List.getElem?_eq_getElem hck⟩
    have hg:cls.getD (ofs.getD k 0) clZ=z:=by rw[List.getD_eq_getElem?_getD,hz];rfl
    have a3:=cl_at t.c hz
    have h137:=priced_ok t hck (wrapK .i64 (prs.getD k 0+o))
    have hpr:priced cls (ofs.getD k 0) (wrapK .i64 (prs.getD k 0+o))=((ofs.getD k 0:Int),if z.kd=0 then 0 else wrapK .i64 (prs.getD k 0+o)):=by unfold priced;rw[hg]
    generalize ofs.getD k 0=c at *
    generalize prs.getD k 0=q at *
    rw[hpr]at h137 ⊢
    constructor
    ·simp -implicitDefEqProofs (maxDischargeDepth:=4) only[go_sem,t.c.shr,t.c.notOwn,t.c.drp,t.c.fitA,t.c.shut0,t.o.shr,t.o.notOwn,t.o.drp,t.o.fitA,t.o.shut0,alen_sl t.o,t.p.shr,t.p.notOwn,t.p.drp,t.p.fitA,t.p.shut0,List.length_map,h0,h2,a1,a2,h137,nbeq,Nat.zero_le,Nat.le_refl,Nat.not_lt_zero]
     exact⟨_,rfl⟩
    ·by_cases hk0:z.kd=0
     ·rw[if_pos hk0]
      simp -implicitDefEqProofs (maxDischargeDepth:=4) only[go_sem,t.c.shr,t.c.notOwn,t.c.drp,t.c.fitA,t.c.shut0,t.o.shr,t.o.notOwn,t.o.drp,t.o.fitA,t.o.shut0,alen_sl t.o,t.p.shr,t.p.notOwn,t.p.drp,t.p.fitA,t.p.shut0,List.length_map,h0,h2,a1,a2,a3,hk0,nbeq,Nat.zero_le,Nat.le_refl,Nat.not_lt_zero]
      exact⟨_,rfl⟩
     ·rw[if_neg hk0]
      simp -implicitDefEqProofs (maxDischargeDepth:=4) only[go_sem,t.c.shr,t.c.notOwn,t.c.drp,t.c.fitA,t.c.shut0,t.o.shr,t.o.notOwn,t.o.drp,t.o.fitA,t.o.shut0,alen_sl t.o,t.p.shr,t.p.notOwn,t.p.drp,t.p.fitA,t.p.shut0,List.length_map,h0,h2,a1,a2,a3,hk0,nbeq,Nat.zero_le,Nat.le_refl,Nat.not_lt_zero]
      exact⟨_,rfl⟩
   ·rw[if_neg (by omega)]
    have h2:(ofs.length:Int)≤(k:Int):=by omega
    constructor
    ·simp -implicitDefEqProofs (maxDischargeDepth:=4) only[go_sem,t.c.shr,t.c.notOwn,t.c.drp,t.c.fitA,t.o.shr,t.o.notOwn,t.o.drp,t.o.fitA,alen_sl t.o,t.p.shr,t.p.notOwn,t.p.drp,t.p.fitA,List.length_map,h0,h2,Nat.zero_le,Nat.le_refl,Nat.not_lt_zero]
     exact⟨_,rfl⟩
    ·simp -implicitDefEqProofs (maxDischargeDepth:=4) only[go_sem,t.c.shr,t.c.notOwn,t.c.drp,t.c.fitA,t.o.shr,t.o.notOwn,t.o.drp,t.o.fitA,alen_sl t.o,t.p.shr,t.p.notOwn,t.p.drp,t.p.fitA,List.length_map,h0,h2,Nat.zero_le,Nat.le_refl,Nat.not_lt_zero]
     exact⟨_,rfl⟩
 obtain⟨⟨H1,h1⟩,⟨H2,h2⟩⟩:=run
 constructor
 ·rw[pcall_eq (v:=ppV (tyF cls ofs prs n o)) (H':=H1) (by rw[List.map_cons,tb_args t];exact h1)]
  rfl
 ·rw[pcall_eq (v:=ppV (tyF cls ofs prs n o)) (H':=H2) (by rw[List.map_cons,tb_args t];exact h2)]
  rfl
end
open Go.Gr
section
variable {cv ov pv:AV} {cls:List Cl} {ofs:List Nat} {prs:List Int}
theorem next_ok(t:TbOk cv ov pv cls ofs prs)(I:TbIn cls ofs prs)(c p i:Int):pcall D 80 [.agg [cv,ov,pv],iv c,iv p,iv i]=some (ppV (nxF cls c p i))∧pcall D 81 [.agg [cv,ov,pv],iv c,iv p,iv i]=some (ppV (nxF cls c p i)):=by
 have run:(∃H',callB cx D 0 80 [.agg [cv,ov,pv],iv c,iv p,iv i] []=some (ppV (nxF cls c p i),H'))∧∃H',callB cx D 0 81 [.agg [cv,ov,pv],iv c,iv p,iv i] []=some (ppV (nxF cls c p i),H'):=by
  have hkn:=known_ok t c
  unfold nxF
  rw[c80,c81]
  by_cases h0:c<0
  ·rw[if_neg (by omega)]
   have g0:¬0≤c:=by omega
   constructor
   ·simp -implicitDefEqProofs (maxDischargeDepth:=4) only[go_sem,t.c.shr,t.c.notOwn,t.c.drp,t.c.fitA,t.c.shut0,alen_sl t.c,t.o.shr,t.o.notOwn,t.o.drp,t.o.fitA,t.o.shut0,t.p.shr,t.p.notOwn,t.p.drp,t.p.fitA,t.p.shut0,List.length_map,hkn,h0,g0,nbeq,Nat.zero_le,Nat.le_refl,Nat.not_lt_zero]
    exact⟨_,rfl⟩
   ·simp -implicitDefEqProofs (maxDischargeDepth:=4) only[go_sem,t.c.shr,t.c.notOwn,t.c.drp,t.c.fitA,t.c.shut0,alen_sl t.c,t.o.shr,t.o.notOwn,t.o.drp,t.o.fitA,t.o.shut0,t.p.shr,t.p.notOwn,t.p.drp,t.p.fitA,t.p.shut0,List.length_map,h0,nbeq,Nat.zero_le,Nat.le_refl,Nat.not_lt_zero]
    exact⟨_,rfl⟩
  obtain⟨k,rfl⟩:∃k:Nat,c=k:=⟨c.toNat,by omega⟩
  have g0:0≤(k:Int):=by omega
  by_cases h1:k<cls.length
  rotate_left
  ·rw[if_neg (by omega)]
   have g1:¬(k:Int)<(cls.length:Int):=by omega
   have g2:(cls.length:Int)≤(k:Int):=by omega
   constructor
   ·simp -implicitDefEqProofs (maxDischargeDepth:=4) only[go_sem,t.c.shr,t.c.notOwn,t.c.drp,t.c.fitA,t.c.shut0,alen_sl t.c,t.o.shr,t.o.notOwn,t.o.drp,t.o.fitA,t.o.shut0,t.p.shr,t.p.notOwn,t.p.drp,t.p.fitA,t.p.shut0,List.length_map,hkn,h0,g0,g1,g2,nbeq,Nat.zero_le,Nat.le_refl,Nat.not_lt_zero]
    exact⟨_,rfl⟩
   ·simp -implicitDefEqProofs (maxDischargeDepth:=4) only[go_sem,t.c.shr,t.c.notOwn,t.c.drp,t.c.fitA,t.c.shut0,alen_sl t.c,t.o.shr,t.o.notOwn,t.o.drp,t.o.fitA,t.o.shut0,t.p.shr,t.p.notOwn,t.p.drp,t.p.fitA,t.p.shut0,List.length_map,h0,g1,g2,nbeq,Nat.zero_le,Nat.le_refl,Nat.not_lt_zero]
    exact⟨_,rfl⟩
  have g1:(k:Int)<(cls.length:Int):=by omega
  have g2:¬(cls.length:Int)≤(k:Int):=by omega
  obtain⟨z,hz⟩:∃z,cls[k]?=some z:=⟨_,List.getElem?_eq_getElem h1⟩
  have hg:cls.getD k clZ=z:=by rw[List.getD_eq_getElem?_getD,hz];rfl
  have hzm:=List.mem_of_getElem? hz
  have sz:Sl 2 z.w (z.nx.map ed):=t.k z hzm
  have a3:=cl_at t.c hz
  rw[Int.toNat_natCast,hg]
  by_cases h2:i<0
  ·rw[if_neg (by omega)]
   constructor
   ·simp -implicitDefEqProofs (maxDischargeDepth:=4) only[go_sem,t.c.shr,t.c.notOwn,t.c.drp,t.c.fitA,t.c.shut0,alen_sl t.c,t.o.shr,t.o.notOwn,t.o.drp,t.o.fitA,t.o.shut0,t.p.shr,t.p.notOwn,t.p.drp,t.p.fitA,t.p.shut0,List.length_map,hkn,h0,h2,g0,g1,g2,a3,nbeq,Nat.zero_le,Nat.le_refl,Nat.not_lt_zero]
    exact⟨_,rfl⟩
   ·simp -implicitDefEqProofs (maxDischargeDepth:=4) only[go_sem,t.c.shr,t.c.notOwn,t.c.drp,t.c.fitA,t.c.shut0,alen_sl t.c,t.o.shr,t.o.notOwn,t.o.drp,t.o.fitA,t.o.shut0,t.p.shr,t.p.notOwn,t.p.drp,t.p.fitA,t.p.shut0,List.length_map,h0,h2,g1,g2,a3,nbeq,Nat.zero_le,Nat.le_refl,Nat.not_lt_zero]
    exact⟨_,rfl⟩
  obtain⟨m,rfl⟩:∃m:Nat,i=m:=⟨i.toNat,by omega⟩
  by_cases h3:m<z.nx.length
  rotate_left
  ·rw[if_neg (by omega)]
   have g3:(z.nx.length:Int)≤(m:Int):=by omega
   constructor
   ·simp -implicitDefEqProofs (maxDischargeDepth:=4) only[go_sem,t.c.shr,t.c.notOwn,t.c.drp,t.c.fitA,t.c.shut0,alen_sl t.c,t.o.shr,t.o.notOwn,t.o.drp,t.o.fitA,t.o.shut0,t.p.shr,t.p.notOwn,t.p.drp,t.p.fitA,t.p.shut0,List.length_map,hkn,h0,h2,g0,g1,g2,g3,a3,sz.shr,sz.notOwn,alen_sl sz,nbeq,Nat.zero_le,Nat.le_refl,Nat.not_lt_zero]
    exact⟨_,rfl⟩
   ·simp -implicitDefEqProofs (maxDischargeDepth:=4) only[go_sem,t.c.shr,t.c.notOwn,t.c.drp,t.c.fitA,t.c.shut0,alen_sl t.c,t.o.shr,t.o.notOwn,t.o.drp,t.o.fitA,t.o.shut0,t.p.shr,t.p.notOwn,t.p.drp,t.p.fitA,t.p.shut0,List.length_map,h0,h2,g1,g2,g3,a3,sz.shr,sz.notOwn,alen_sl sz,nbeq,Nat.zero_le,Nat.le_refl,Nat.not_lt_zero]
    exact⟨_,rfl⟩
  have g3:¬(z.nx.length:Int)≤(m:Int):=by omega
  rw[if_pos (by omega),Int.toNat_natCast]
  have a4:=lk_at sz (i:=m) h3
  obtain⟨q,hq1,hq2⟩:=I.x z hzm (z.nx.getD m (0,0)) (mem_getD h3)
  obtain⟨j,hj⟩:∃j,z.nx.getD m (0,0)=((q:Int),j):=⟨(z.nx.getD m (0,0)).2,by rw[←hq1]⟩
  rw[hj]at a4 ⊢
  dsimp only
  rw[Int.toNat_natCast]
  have h137:=priced_ok t hq2 (wrapK .i64 (p+j))
  have h139:=along_ok t hq2 j p
  constructor
  ·simp -implicitDefEqProofs (maxDischargeDepth:=4) only[go_sem,t.c.shr,t.c.notOwn,t.c.drp,t.c.fitA,t.c.shut0,alen_sl t.c,t.o.shr,t.o.notOwn,t.o.drp,t.o.fitA,t.o.shut0,t.p.shr,t.p.notOwn,t.p.drp,t.p.fitA,t.p.shut0,List.length_map,hkn,h0,h2,g0,g1,g2,g3,a3,a4,sz.shr,sz.notOwn,alen_sl sz,h137,nbeq,Nat.zero_le,Nat.le_refl,Nat.not_lt_zero]
   exact⟨_,rfl⟩
  ·simp -implicitDefEqProofs (maxDischargeDepth:=4) only[go_sem,t.c.shr,t.c.notOwn,t.c.drp,t.c.fitA,t.c.shut0,alen_sl t.c,t.o.shr,t.o.notOwn,t.o.drp,t.o.fitA,t.o.shut0,t.p.shr,t.p.notOwn,t.p.drp,t.p.fitA,t.p.shut0,List.length_map,h0,h2,g1,g2,g3,a3,a4,sz.shr,sz.notOwn,alen_sl sz,h139,nbeq,Nat.zero_le,Nat.le_refl,Nat.not_lt_zero]
   exact⟨_,rfl⟩
 obtain⟨⟨H1,h1⟩,⟨H2,h2⟩⟩:=run
 constructor
 ·rw[pcall_eq (v:=ppV (nxF cls c p i)) (H':=H1) (by rw[List.map_cons,tb_args t];exact h1)]
  rfl
 ·rw[pcall_eq (v:=ppV (nxF cls c p i)) (H':=H2) (by rw[List.map_cons,tb_args t];exact h2)]
  rfl
theorem pay_ok(t:TbOk cv ov pv cls ofs prs)(I:TbIn cls ofs prs)(c p:Int):pcall D 82 [.agg [cv,ov,pv],iv c,iv p]=some (ppV (pyF cls c p))∧pcall D 83 [.agg [cv,ov,pv],iv c,iv p]=some (ppV (pyF cls c p)):=by
 have run:(∃H',callB cx D 0 82 [.agg [cv,ov,pv],iv c,iv p] []=some (ppV (pyF cls c p),H'))∧∃H',callB cx D 0 83 [.agg [cv,ov,pv],iv c,iv p] []=some (ppV (pyF cls c p),H'):=by
  have hkn:=known_ok t c
  unfold pyF
  rw[c82,c83]
  by_cases h0:c<0
  ·rw[if_neg (by omega)]
   have g0:¬0≤c:=by omega
   constructor
   ·simp -implicitDefEqProofs (maxDischargeDepth:=4) only[go_sem,t.c.shr,t.c.notOwn,t.c.drp,t.c.fitA,t.c.shut0,alen_sl t.c,t.o.shr,t.o.notOwn,t.o.drp,t.o.fitA,t.o.shut0,t.p.shr,t.p.notOwn,t.p.drp,t.p.fitA,t.p.shut0,List.length_map,hkn,h0,g0,nbeq,Nat.zero_le,Nat.le_refl,Nat.not_lt_zero]
    exact⟨_,rfl⟩
   ·simp -implicitDefEqProofs (maxDischargeDepth:=4) only[go_sem,t.c.shr,t.c.notOwn,t.c.drp,t.c.fitA,t.c.shut0,alen_sl t.c,t.o.shr,t.o.notOwn,t.o.drp,t.o.fitA,t.o.shut0,t.p.shr,t.p.notOwn,t.p.drp,t.p.fitA,t.p.shut0,List.length_map,h0,nbeq,Nat.zero_le,Nat.le_refl,Nat.not_lt_zero]
    exact⟨_,rfl⟩
  obtain⟨k,rfl⟩:∃k:Nat,c=k:=⟨c.toNat,by omega⟩
  have g0:0≤(k:Int):=by omega
  by_cases h1:k<cls.length
  rotate_left
  ·rw[if_neg (by omega)]
   have g1:¬(k:Int)<(cls.length:Int):=by omega
   have g2:(cls.length:Int)≤(k:Int):=by omega
   constructor
   ·simp -implicitDefEqProofs (maxDischargeDepth:=4) only[go_sem,t.c.shr,t.c.notOwn,t.c.drp,t.c.fitA,t.c.shut0,alen_sl t.c,t.o.shr,t.o.notOwn,t.o.drp,t.o.fitA,t.o.shut0,t.p.shr,t.p.notOwn,t.p.drp,t.p.fitA,t.p.shut0,List.length_map,hkn,h0,g0,g1,g2,nbeq,Nat.zero_le,Nat.le_refl,Nat.not_lt_zero]
    exact⟨_,rfl⟩
   ·simp -implicitDefEqProofs (maxDischargeDepth:=4) only[go_sem,t.c.shr,t.c.notOwn,t.c.drp,t.c.fitA,t.c.shut0,alen_sl t.c,t.o.shr,t.o.notOwn,t.o.drp,t.o.fitA,t.o.shut0,t.p.shr,t.p.notOwn,t.p.drp,t.p.fitA,t.p.shut0,List.length_map,h0,g1,g2,nbeq,Nat.zero_le,Nat.le_refl,Nat.not_lt_zero]
    exact⟨_,rfl⟩
  have g1:(k:Int)<(cls.length:Int):=by omega
  have g2:¬(cls.length:Int)≤(k:Int):=by omega
  obtain⟨z,hz⟩:∃z,cls[k]?=some z:=⟨_,List.getElem?_eq_getElem h1⟩
  have hg:cls.getD k clZ=z:=by rw[List.getD_eq_getElem?_getD,hz];rfl
  have hzm:=List.mem_of_getElem? hz
  have sz:Sl 2 z.w (z.nx.map ed):=t.k z hzm
  have a3:=cl_at t.c hz
  rw[Int.toNat_natCast,hg]
  cases hch:z.ch with
  | false =>
   rw[if_neg (fun h=>by cases h.2.2)]
   constructor
   ·simp -implicitDefEqProofs (maxDischargeDepth:=4) only[go_sem,t.c.shr,t.c.notOwn,t.c.drp,t.c.fitA,t.c.shut0,alen_sl t.c,t.o.shr,t.o.notOwn,t.o.drp,t.o.fitA,t.o.shut0,t.p.shr,t.p.notOwn,t.p.drp,t.p.fitA,t.p.shut0,List.length_map,hkn,h0,hch,g0,g1,g2,a3,sz.shr,sz.notOwn,nbeq,Nat.zero_le,Nat.le_refl,Nat.not_lt_zero]
    exact⟨_,rfl⟩
   ·simp -implicitDefEqProofs (maxDischargeDepth:=4) only[go_sem,t.c.shr,t.c.notOwn,t.c.drp,t.c.fitA,t.c.shut0,alen_sl t.c,t.o.shr,t.o.notOwn,t.o.drp,t.o.fitA,t.o.shut0,t.p.shr,t.p.notOwn,t.p.drp,t.p.fitA,t.p.shut0,List.length_map,h0,hch,g1,g2,a3,sz.shr,sz.notOwn,nbeq,Nat.zero_le,Nat.le_refl,Nat.not_lt_zero]
    exact⟨_,rfl⟩
  | true =>
   rw[if_pos ⟨g0,g1,rfl⟩]
   obtain⟨q,hq1,hq2⟩:=I.p z hzm hch
   obtain⟨j,hj⟩:∃j,z.py=((q:Int),j):=⟨z.py.2,by rw[←hq1]⟩
   rw[hj]
   dsimp only
   rw[Int.toNat_natCast]
   have h137:=priced_ok t hq2 (wrapK .i64 (p+j))
   have h139:=along_ok t hq2 j p
   constructor
   ·simp -implicitDefEqProofs (maxDischargeDepth:=4) only[go_sem,t.c.shr,t.c.notOwn,t.c.drp,t.c.fitA,t.c.shut0,alen_sl t.c,t.o.shr,t.o.notOwn,t.o.drp,t.o.fitA,t.o.shut0,t.p.shr,t.p.notOwn,t.p.drp,t.p.fitA,t.p.shut0,List.length_map,hkn,h0,hch,hj,g0,g1,g2,a3,sz.shr,sz.notOwn,h137,nbeq,Nat.zero_le,Nat.le_refl,Nat.not_lt_zero]
    exact⟨_,rfl⟩
   ·simp -implicitDefEqProofs (maxDischargeDepth:=4) only[go_sem,t.c.shr,t.c.notOwn,t.c.drp,t.c.fitA,t.c.shut0,alen_sl t.c,t.o.shr,t.o.notOwn,t.o.drp,t.o.fitA,t.o.shut0,t.p.shr,t.p.notOwn,t.p.drp,t.p.fitA,t.p.shut0,List.length_map,h0,hch,hj,g1,g2,a3,sz.shr,sz.notOwn,h139,nbeq,Nat.zero_le,Nat.le_refl,Nat.not_lt_zero]
    exact⟨_,rfl⟩
 obtain⟨⟨H1,h1⟩,⟨H2,h2⟩⟩:=run
 constructor
 ·rw[pcall_eq (v:=ppV (pyF cls c p)) (H':=H1) (by rw[List.map_cons,tb_args t];exact h1)]
  rfl
 ·rw[pcall_eq (v:=ppV (pyF cls c p)) (H':=H2) (by rw[List.map_cons,tb_args t];exact h2)]
  rfl
end
open Go.Gr
abbrev ar3(a b c:Int):ABlock:=.cells 3 101 [.agg [iv a,iv b,iv c]]
abbrev go3(x:Int×Int)(a b c:Int)(cv ov pv:AV):Hp:=[tyC x,ar3 a b c,tB cv ov pv]
theorem at101{b j:Nat}{i:Nat}(h:i<3):aindexAddr cx.T 101 (.ptr b 0 0) (iv i)=some (.ptr b 0 i):=by
 rw[aindexAddr_arr (m:=3) (sz:=1) ar101,if_pos h]
 simp
structure GFr(fr:PT)(r:Int×Int):Prop where
 f4:fr.get 4=.ptr 0 0 0
 f5:fr.get 5=.ptr 1 0 0
 f7:fr.get 7=.ptr 2 0 0
 f9:fr.get 9=iv r.1
 f10:fr.get 10=iv r.2
section
variable {cv ov pv:AV} {cls:List Cl} {ofs:List Nat} {prs:List Int}
theorem goes_loop(t:TbOk cv ov pv cls ofs prs)(I:TbIn cls ofs prs)(x r:Int×Int)(c:Int):
  ∀(d k:Nat)(fr:PT)(a b:Int),2-k=d→k≤2→GFr fr r→fr.get 13=iv k→
  ∃fr' a' b',D.loop 0 23 118 l23_0 fr (go3 x a b c cv ov pv)=some (.exit 0,fr',go3 x a' b' c cv ov pv)
 | 0,k,fr,a,b,hd,hk,F,f13=>by
  have e:k=2:=by omega
  subst e
  rw[dl23_0]
  simp -implicitDefEqProofs (maxDischargeDepth:=4) only[go_sem,f13]
  exact⟨_,a,b,rfl⟩
 | d+1,k,fr,a,b,hd,hk,F,f13=>by
  have hlt:((k:Int)<2):=by omega
  have w3:=wrap_succ (show k≤1000 by omega)
  obtain⟨n1,n2⟩:=next_ok t I a b c
  obtain⟨y1,y2⟩:=pay_ok t I a b
  have i0:aindexAddr cx.T 101 (.ptr 1 0 0) (iv 0)=some (.ptr 1 0 0):=at101 (j:=0) (i:=0) (by decide)
  have i1:aindexAddr cx.T 101 (.ptr 1 0 0) (iv 1)=some (.ptr 1 0 1):=at101 (j:=0) (i:=1) (by decide)
  have i2:aindexAddr cx.T 101 (.ptr 1 0 0) (iv 2)=some (.ptr 1 0 2):=at101 (j:=0) (i:=2) (by decide)
  generalize nxF cls a b c=u at n1 n2
  generalize pyF cls a b=v at y1 y2
  obtain⟨u1,u2⟩:=u
  obtain⟨v1,v2⟩:=v
  obtain⟨fr1,p1,F1,g13⟩:∃fr1,ex cx D 0 23 118 (.seq (.seq (.region 9 g23_9 false) (.cond (.tmp 52) .skip (.exit 0))) (.seq (.block 1 (.seq (.region 11 g23_10 false) (.seq (.region 12 g23_11 false) (.seq (.region 13 g23_12 false) (.seq (.region 14 g23_13 false) (.seq (.seq (.region 15 g23_14 false) (.cond (.tmp 112) (.seq (.region 16 g23_15 false) .ret) .skip)) (.seq (.region 17 g23_16 false) (.region 18 g23_17 false)))))))) (.region 10 g23_18 false))) fr (go3 x a b c cv ov pv)=some (.normal,fr1,go3 x r.1 r.2 c cv ov pv)∧GFr fr1 r∧fr1.get 13=iv (k+1:Nat):=by
   simp -implicitDefEqProofs (maxDischargeDepth:=4) only[go_sem,F.f4,F.f5,F.f7,F.f9,F.f10,f13,hlt,w3,i0,i1,i2,n1,n2,y1,y2,t.c.shr,t.c.notOwn,t.c.drp,t.c.fitA,t.c.shut0,t.o.shr,t.o.notOwn,t.o.drp,t.o.fitA,t.o.shut0,t.p.shr,t.p.notOwn,t.p.drp,t.p.fitA,t.p.shut0,nbeq,Nat.zero_le,Nat.le_refl,Nat.not_lt_zero,List.set_cons_zero,List.set_cons_succ]
   exact⟨_,rfl,⟨by simp only[go_sem,F.f4],by simp only[go_sem,F.f5],by simp only[go_sem,F.f7],by simp only[go_sem,F.f9],by simp only[go_sem,F.f10]⟩,by simp only[go_sem]⟩
  obtain⟨fr2,a2,b2,p2⟩:=goes_loop t I x r c d (k+1) fr1 r.1 r.2 (by omega) (by omega) F1 g13
  refine⟨fr2,a2,b2,?_⟩
  rw[dl23_0,p1,xbind_some,contR_normal,trimmed_l (n:=(go3 x a b c cv ov pv).length) (H:=go3 x r.1 r.2 c cv ov pv) rfl]
  exact p2
end
theorem rcl_in{ns T:List Nd}{tv:AV}(d:Du ns T tv){fs:List Nat}{cls:List Cl}{prs:List Int}(hp:prs=(List.range T.length).map (prI T (atsOf T)))(hf:FsI T (clsR T (atsOf T)) T.length fs)(h:RCl T ns.length fs (clsN T (atsOf T)) cls):TbIn cls (clsO T (atsOf T)) prs:=by
 have hlt:∀j,j<T.length→(clsO T (atsOf T)).getD j 0<cls.length:=fun j hj=>by rw[h.len];exact clsO_lt hj
 have key:∀z∈cls,∃x∈T,z.ch=x.chan∧z.py=payE T (atsOf T) (clsO T (atsOf T)) x∧z.nx=nxL T (atsOf T) (clsO T (atsOf T)) x:=fun z hz=>by
  obtain⟨k,hk⟩:=List.getElem?_of_mem hz
  have hkl:=(List.getElem?_eq_some_iff.1 hk).1
  rw[h.len]at hkl
  obtain⟨z',hz',hI⟩:=h.at' k hkl
  rw[hk]at hz'
  cases hz'
  obtain⟨j,hj,_,hfs⟩:=hf.at' k hkl
  obtain⟨x,x1,x2,x3,x4,x5⟩:=d.no5 hj
  rw[hfs]at hI
  exact⟨x,List.mem_of_getElem? x1,by rw[hI.ch,x5],by rw[hI.py,x5],by rw[hI.nx,x5]⟩
 refine⟨by rw[hp,List.length_map,List.length_range,clsO_len],fun i hi=>hlt i (by rw[clsO_len]at hi;exact hi),fun z hz e he=>?_,fun z hz hc=>?_⟩
 ·obtain⟨x,hx,_,_,h3⟩:=key z hz
  rw[h3]at he
  obtain⟨e0,h0,rfl⟩:=List.mem_map.1 he
  exact⟨_,rfl,hlt _ (d.to_lt hx (by unfold oE;exact List.mem_append_left _ h0))⟩
 ·obtain⟨x,hx,h1,h2,_⟩:=key z hz
  rw[h2]
  unfold payE
  rw[if_pos (by rw[←h1];exact hc)]
  exact⟨_,rfl,hlt _ (d.to_lt hx (by unfold oE;rw[if_pos (by rw[←h1];exact hc)];exact List.mem_append_right _ (List.mem_singleton.2 rfl)))⟩
theorem classg_call{ns:List Nd}{a:AV}(ha:Sl 6 a (ns.map nodeV))(hok:∀x∈ns,NdOk x)(n o a0 a1 a2:Int):∃H',callB cx D 0 23 [a,tyV (n,o),.agg [iv a0,iv a1,iv a2]] []=some (bv true,H'):=by
 obtain⟨os,w,h72,hw,_⟩:=fewC_ok ha hok
 have hwk:=works7_ok
 by_cases h0:(ordC os).2=0
 rotate_left
 ·have p74:=rof_bad hw h0
  generalize (ordC os).2=e at *
  rw[c23]
  simp -implicitDefEqProofs (maxDischargeDepth:=4) only[go_sem,ha.shr,ha.notOwn,ha.drp,ha.shut1,h72,hw.sl.shr,hw.sl.notOwn,hw.sl.drp,hw.sl.shut1,p74,h0,hwk,nbeq,Nat.zero_le,Nat.le_refl,Nat.not_lt_zero,List.set_cons_zero,List.set_cons_succ]
  exact⟨_,rfl⟩
 obtain⟨cv,ov,pv,tv,T,cls,fs,prs,p74,t,d,e2,hf,h2⟩:=rof_ok hw h0
 have I:=rcl_in d e2 hf h2
 obtain⟨h78,h79⟩:=type_ok t I n o
 generalize tyF cls (clsO T (atsOf T)) prs n o=r at h78 h79
 obtain⟨r1,r2⟩:=r
 obtain⟨fr1,p1,F1,f13⟩:∃fr1,ex cx D 0 23 118 (.seq (.region 0 g23_0 false) (.seq (.region 1 g23_1 false) (.seq (.seq (.region 2 g23_2 false) (.cond (.tmp 29) (.seq (.region 3 g23_3 false) .ret) .skip)) (.seq (.region 4 g23_4 false) (.seq (.region 5 g23_5 false) (.seq (.seq (.region 6 g23_6 false) (.cond (.tmp 50) (.seq (.region 7 g23_7 false) .ret) .skip)) (.region 8 g23_8 false))))))) (((PT.nil.set 0 (drp a)).set 1 (drp (tyV (n,o)))).set 2 (drp (.agg [iv a0,iv a1,iv a2]))) []=some (.normal,fr1,go3 (n,o) a0 a1 a2 cv ov pv)∧GFr fr1 (r1,r2)∧fr1.get 13=iv (0:Nat):=by
  simp -implicitDefEqProofs (maxDischargeDepth:=4) only[go_sem,ha.shr,ha.notOwn,ha.drp,ha.shut1,h72,hw.sl.shr,hw.sl.notOwn,hw.sl.drp,hw.sl.shut1,p74,h78,h79,t.c.shr,t.c.notOwn,t.c.drp,t.c.fitA,t.c.shut0,t.o.shr,t.o.notOwn,t.o.drp,t.o.fitA,t.o.shut0,t.p.shr,t.p.notOwn,t.p.drp,t.p.fitA,t.p.shut0,nbeq,Nat.zero_le,Nat.le_refl,Nat.not_lt_zero,List.set_cons_zero,List.set_cons_succ]
  exact⟨_,rfl,⟨by simp only[go_sem],by simp only[go_sem],by simp only[go_sem],by simp only[go_sem],by simp only[go_sem]⟩,by simp only[go_sem];rfl⟩
 obtain⟨fr2,b0,b1,p2⟩:=goes_loop t I (n,o) (r1,r2) a2 2 0 fr1 a0 a1 rfl (by decide) F1 f13
 obtain⟨_,_,q0,s⟩:=x_split p1
 obtain⟨_,_,q1,s⟩:=x_split s
 obtain⟨_,_,q2,s⟩:=x_split s
 obtain⟨_,_,q3,s⟩:=x_split s
 obtain⟨_,_,q4,s⟩:=x_split s
 obtain⟨fra,Ga,q5,q6⟩:=x_split s
 have e1:ex cx D 0 23 118 (.seq (.region 8 g23_8 false) (.block 0 (.loop l23_0))) fra Ga=some (.normal,fr2,go3 (n,o) b0 b1 a2 cv ov pv):=by rw[x_cont1 q6,x_block,x_loop,p2];rfl
 rw[c23,x_cont1 q0,x_cont1 q1,x_cont1 q2,x_cont1 q3,x_cont1 q4,x_cont1 q5,x_cont1 e1]
 simp -implicitDefEqProofs (maxDischargeDepth:=4) only[go_sem,hwk]
 exact⟨_,rfl⟩
theorem three_read{d:Nat}{l:List AV}(h:Rdd Go.Proofs.Try.prog (d+6) 101 l):∃a b c:Int,l=[iv a,iv b,iv c]:=by
 obtain⟨zs,z1,z2,rfl⟩:=rd_array Go.Proofs.Try.underlying101 h
 have each:∀z∈zs,∃n:Int,z=[iv n]:=fun z hz=>by
  obtain⟨n,w,rfl⟩:=rd_int Go.Proofs.Try.underlying3 (z2 z hz)
  exact⟨n,rfl⟩
 match zs,z1,each with
 | [a,b,c],_,each =>
  obtain⟨n1,rfl⟩:=each a (by simp)
  obtain⟨n2,rfl⟩:=each b (by simp)
  obtain⟨n3,rfl⟩:=each c (by simp)
  exact⟨n1,n2,n3,rfl⟩
theorem classg_row{v0:AV}{l1 l2:List AV}(h0:Rdd Go.Proofs.Try.prog 20 56 [v0])(h1:Rdd Go.Proofs.Try.prog 20 61 l1)(h2:Rdd Go.Proofs.Try.prog 20 101 l2):∃H',callB cx D 0 23 [v0,.agg l1,.agg l2] []=some (bv true,H'):=by
 obtain⟨ns,hs,hok⟩:=nodes_read (d:=5) h0
 obtain⟨n,o,rfl⟩:=type_read (d:=14) h1
 obtain⟨a,b,c,rfl⟩:=three_read (d:=14) h2
 exact classg_call hs hok n o a b c
end Go.Abs.Tab
