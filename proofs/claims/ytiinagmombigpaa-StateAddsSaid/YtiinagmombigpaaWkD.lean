/- States: a module made small, called (87). -/
import Derived.Test.YtiinagmombigpaaWkC
set_option linter.unnecessarySimpa false
set_option linter.unusedSimpArgs false
set_option linter.unusedVariables false
namespace Go.Abs.Tab
open Go.Gr
section
variable {a p x2 x3 x4 x5 x6 x7:AV} {ns:List Nd} {ts:List AV}
theorem few87_call(ha:Sl 6 a (ns.map nodeV))(hok:∀x∈ns,NdOk x)(hp:Sl 3 p ts)(ht:∀x∈ts,TmOk x)(o:Oth x2 x3 x4 x5 x6 x7):
  ∃(g q:AV)(os:List Nd)(us:List AV)(H':Hp),callB cx D 0 87 [.agg [a,p,x2,x3,x4,x5,x6,x7]] []=some (.agg [shr g,shr q,nl,nl,nl,nl,nl,nl],H')∧Grow 6 g (os.map nodeV)∧Grow 3 q us∧os.length≤10∧us.length≤4∧(∀x∈os,NdOk x)∧∀x∈us,TmN x:=by
 obtain⟨⟨_,_,h2⟩,⟨_,_,h3⟩,⟨_,_,h4⟩,⟨_,_,h5⟩,⟨_,_,h6⟩,⟨_,_,h7⟩⟩:=id o
 obtain⟨fr0,p0,k1,k2⟩:∃fr0,ex cx D 0 87 67 (.region 0 g87_0 false) (PT.nil.set 0 (drp (.agg [a,p,x2,x3,x4,x5,x6,x7]))) []=some (.normal,fr0,[mdB a p x2 x3 x4 x5 x6 x7,mdB nl nl nl nl nl nl nl nl])∧fr0.get 1=.ptr 0 0 0∧fr0.get 2=.ptr 1 0 0:=by
  simp -implicitDefEqProofs (maxDischargeDepth:=4) only[go_sem,ha.shr,hp.shr,h2.shr,h3.shr,h4.shr,h5.shr,h6.shr,h7.shr,Nat.zero_le,Nat.le_refl,Nat.not_lt_zero]
  exact⟨_,rfl,by simp only[go_sem],by simp only[go_sem]⟩
 obtain⟨fr1,p1,F1⟩:∃fr1,ex cx D 0 87 67 (.region 1 g87_1 false) fr0 [mdB a p x2 x3 x4 x5 x6 x7,mdB nl nl nl nl nl nl nl nl]=some (.normal,fr1,hp87 a p x2 x3 x4 x5 x6 x7 nl nl)∧F87 fr1:=by
  simp -implicitDefEqProofs (maxDischargeDepth:=4) only[go_sem,Nat.zero_le,Nat.le_refl,Nat.not_lt_zero]
  exact⟨_,rfl,by simp only[go_sem,k1],by simp only[go_sem,k2],by simp only[go_sem]⟩
 obtain⟨fr2,p2,F2,m4⟩:∃fr2,ex cx D 0 87 67 (.region 2 g87_2 false) fr1 (hp87 a p x2 x3 x4 x5 x6 x7 nl nl)=some (.normal,fr2,hp87 a p x2 x3 x4 x5 x6 x7 nl nl)∧F87 fr2∧fr2.get 4=iv (0:Nat):=by
  simp -implicitDefEqProofs (maxDischargeDepth:=4) only[go_sem]
  exact⟨_,rfl,F1.of fun d hd=>by rcases hd with rfl | rfl | rfl<;>simp only[go_sem],by simp only[go_sem];rfl⟩
 obtain⟨fr3,g,os,p3,F3,hg,hl,ho⟩:=few87_l0 ha hok hp o 10 0 fr2 nl [] rfl (Nat.zero_le _) F2 m4 (.inr ⟨rfl,rfl⟩) rfl (fun x hx=>by cases hx)
 have b3:ex cx D 0 87 67 (.block 0 (.loop l87_0)) fr2 (hp87 a p x2 x3 x4 x5 x6 x7 nl nl)=some (.normal,fr3,hp87 a p x2 x3 x4 x5 x6 x7 g nl):=by rw[x_block,x_loop,p3];rfl
 obtain⟨fr4,p4,F4,m6⟩:∃fr4,ex cx D 0 87 67 (.region 8 g87_8 false) fr3 (hp87 a p x2 x3 x4 x5 x6 x7 g nl)=some (.normal,fr4,hp87 a p x2 x3 x4 x5 x6 x7 g nl)∧F87 fr4∧fr4.get 6=iv (0:Nat):=by
  simp -implicitDefEqProofs (maxDischargeDepth:=4) only[go_sem]
  exact⟨_,rfl,F3.of fun d hd=>by rcases hd with rfl | rfl | rfl<;>simp only[go_sem],by simp only[go_sem];rfl⟩
 obtain⟨fr5,q,us,p5,F5,hq,hl2,ho2⟩:=few87_l1 hg hp ht o 4 0 fr4 nl [] rfl (Nat.zero_le _) F4 m6 (.inr ⟨rfl,rfl⟩) rfl (fun x hx=>by cases hx) (a:=a)
 have b5:ex cx D 0 87 67 (.block 2 (.loop l87_1)) fr4 (hp87 a p x2 x3 x4 x5 x6 x7 g nl)=some (.normal,fr5,hp87 a p x2 x3 x4 x5 x6 x7 g q):=by rw[x_block,x_loop,p5];rfl
 refine⟨g,q,os,us,?_⟩
 suffices ∃H',callB cx D 0 87 [.agg [a,p,x2,x3,x4,x5,x6,x7]] []=some (.agg [shr g,shr q,nl,nl,nl,nl,nl,nl],H') by
  obtain⟨H',h⟩:=this
  exact⟨H',h,hg,hq,hl,hl2,ho,ho2⟩
 rw[c87,x_cont1 p0,x_cont1 p1,x_assoc,x_cont1 p2,x_cont1 b3,x_assoc,x_cont1 p4,x_cont1 b5]
 have sg:=hg.sl
 have sq:=hq.sl
 have e1:shr (shr g)=shr g:=sg.shr
 have e2:shr (shr q)=shr q:=sq.shr
 simp -implicitDefEqProofs (maxDischargeDepth:=4) only[go_sem,F5.f2,F5.f3,e1,e2,Nat.zero_le,Nat.le_refl,Nat.not_lt_zero]
 exact⟨_,rfl⟩
theorem few87_ok(ha:Sl 6 a (ns.map nodeV))(hok:∀x∈ns,NdOk x)(hp:Sl 3 p ts)(ht:∀x∈ts,TmOk x)(o:Oth x2 x3 x4 x5 x6 x7):
  ∃(w q:AV)(os:List Nd)(us:List AV),pcall D 87 [.agg [a,p,x2,x3,x4,x5,x6,x7]]=some (.agg [w,q,nl,nl,nl,nl,nl,nl])∧NsOk os w∧Sl 3 q us∧us.length≤4∧∀x∈us,TmN x:=by
 obtain⟨g,q,os,us,H',h,hg,hq,h1,h2,h3,h4⟩:=few87_call ha hok hp ht o
 obtain⟨⟨_,_,o2⟩,⟨_,_,o3⟩,⟨_,_,o4⟩,⟨_,_,o5⟩,⟨_,_,o6⟩,⟨_,_,o7⟩⟩:=o
 refine⟨shr g,shr q,os,us,?_,⟨hg.sl,h3,by omega⟩,hq.sl,h2,h4⟩
 rw[pcall_eq (H':=H') (by
  rw[show [AV.agg [a,p,x2,x3,x4,x5,x6,x7]].map cl2=[AV.agg [cl0 a,cl0 p,cl0 x2,cl0 x3,cl0 x4,cl0 x5,cl0 x6,cl0 x7]] from rfl,ha.cl0,hp.cl0,o2.cl0,o3.cl0,o4.cl0,o5.cl0,o6.cl0,o7.cl0]
  exact h)]
 rcases hg with rfl | ⟨rfl,_⟩<;>rcases hq with rfl | ⟨rfl,_⟩<;>rfl
end
open Go.Gr
theorem build126_0:abuild cx.T 126 []=some (.agg [nl,nl,nl,nl]):=nk
theorem build126_2(a b c:AV)(n m:Nat):abuild cx.T 126 [(0,.agg [a,b,c]),(1,.sl 3 1 0 n m)]=some (.agg [a,b,c,.sl 3 1 0 n m]):=nk
abbrev f86(w pw cv ov pv:AV)(qs:List AV)(L:Hp):Hp:=mdB w pw nl nl nl nl nl nl :: .cells 4 126 [.agg [nl,nl,nl,nl]]::tB cv ov pv :: .cells 1 167 qs::L
structure F86(fr:PT)(pw:AV)(n i:Nat):Prop where
 f1:fr.get 1=.ptr 0 0 0
 f2:fr.get 2=.ptr 1 0 0
 f4:fr.get 4=.ptr 2 0 0
 f6:fr.get 6=.sl 3 1 0 n n
 f28:fr.get 28=pw
 f29:fr.get 29=iv n
 f30:fr.get 30=iv i
theorem F86.of{fr fr':PT}{pw:AV}{n i:Nat}(F:F86 fr pw n i)(h:∀d,(d=1∨d=2∨d=4∨d=6∨d=28∨d=29∨d=30)→fr'.get d=fr.get d):F86 fr' pw n i :=
 ⟨by rw[h 1 (by simp),F.f1],by rw[h 2 (by simp),F.f2],by rw[h 4 (by simp),F.f4],by rw[h 6 (by simp),F.f6],by rw[h 28 (by simp),F.f28],by rw[h 29 (by simp),F.f29],by rw[h 30 (by simp),F.f30]⟩
structure I86(fr:PT)(p:AV)(l i j:Nat):Prop where
 f7:fr.get 7=iv i
 f41:fr.get 41=p
 f42:fr.get 42=iv l
 f43:fr.get 43=iv j
theorem I86.of{fr fr':PT}{p:AV}{l i j:Nat}(F:I86 fr p l i j)(h:∀d,(d=7∨d=41∨d=42∨d=43)→fr'.get d=fr.get d):I86 fr' p l i j :=
 ⟨by rw[h 7 (by simp),F.f7],by rw[h 41 (by simp),F.f41],by rw[h 42 (by simp),F.f42],by rw[h 43 (by simp),F.f43]⟩
def QOk(B:Nat)(qs:List AV):Prop:=∀q∈qs,∃L,Grow 3 q L∧L.length≤B
theorem QOk.at{B:Nat}{qs:List AV}(h:QOk B qs){i:Nat}(hi:i<qs.length):∃q L,qs[i]?=some q∧Grow 3 q L∧L.length≤B:=by
 obtain⟨L,h1,h2⟩:=h _ (List.getElem_mem hi)
 exact⟨_,L,List.getElem?_eq_getElem hi,h1,h2⟩
theorem QOk.set{B:Nat}{qs:List AV}(h:QOk B qs)(i:Nat){L:List AV}(hL:L.length≤B+1):QOk (B+1) (qs.set i (.vec 3 .own L)):=fun q hq=>by
 rcases List.mem_or_eq_of_mem_set hq with hq | rfl
 ·obtain⟨L,h1,h2⟩:=h q hq
  exact⟨L,h1,by omega⟩
 ·exact⟨L,.inl rfl,hL⟩
theorem QOk.kl{B:Nat}{qs:List AV}(h:QOk B qs)(m:Nat):killB m (.cells 1 167 qs)=.cells 1 167 qs:=by
 show ABlock.cells 1 167 (qs.map (kill1 m))=_
 have:qs.map (kill1 m)=qs.map id:=List.map_congr_left fun q hq=>by
  obtain⟨L,h1,_⟩:=h q hq
  rcases h1 with rfl | ⟨rfl,_⟩<;>rfl
 rw[this,List.map_id]
section
variable {w pw cv ov pv:AV} {cls:List Cl} {ofs:List Nat} {prs:List Int} {os:List Nd}
theorem slot_ok(t:TbOk cv ov pv cls ofs prs)(I:TbIn cls ofs prs)(m:Int)(b:Bool)(x:Int×Int):∃r u,pcall D 140 [.agg [cv,ov,pv],iv m,paV b x]=some (.tup [.agg (slC r),bv u]):=by
 obtain⟨H',r,u,h⟩:=slot_call t I m b x (H:=[]) (ro:=0) (Nat.zero_le _)
 refine⟨r,u,?_⟩
 rw[pcall_eq (H':=H') (by
  rw[show [AV.agg [cv,ov,pv],iv m,paV b x].map cl2=[AV.agg [cl0 cv,cl0 ov,cl0 pv],iv m,paV b x] from rfl,t.c.cl0,t.o.cl0,t.p.cl0]
  exact h)]
 rfl
noncomputable abbrev bo86:Code:=(.seq (.region 11 g86_11 false) (.seq (.cond (.tmp 44) .skip (.exit 2)) (.seq (.block 3 (.seq (.region 12 g86_12 false) (.seq (.region 13 g86_13 false) (.seq (.seq (.region 14 g86_14 false) (.cond (.tmp 57) (.seq (.region 15 g86_15 false) .ret) .skip)) (.region 16 g86_16 true))))) (.region 17 g86_17 false))))
theorem in86(t:TbOk cv ov pv cls ofs prs)(I:TbIn cls ofs prs)(hw:NsOk os w){szp:Nat}{us:List AV}(hpw:Sl szp pw us){p:AV}{l:List (Bool×Int×Int)}(hp:Sl 3 p (l.map paW)){qs:List AV}{n i j B:Nat}(hn:qs.length=n)(hi:i<n)(hj:j<l.length)(hl:l.length≤8)(hQ:QOk B qs)(hB:B≤1000){T:ABlock}{fr:PT}(F:F86 fr pw n i)(K:I86 fr p l.length i j):
  (∃fr' qs' X Y,ex cx D 0 86 74 bo86 fr (f86 w pw cv ov pv qs [T])=some (.normal,fr',f86 w pw cv ov pv qs' [T,X,Y])∧F86 fr' pw n i∧I86 fr' p l.length i (j+1)∧QOk (B+1) qs'∧qs'.length=n)∨
  (∃fr' L,ex cx D 0 86 74 bo86 fr (f86 w pw cv ov pv qs [T])=some (.ret,fr',f86 w pw cv ov pv qs L)∧fr'.get 2=.ptr 1 0 0∧fr'.get 3=iv 2):=by
 have hlt:(j:Int)<(l.length:Int):=by omega
 have w3:=wrap_succ (show j≤1000 by omega)
 obtain⟨x,hx⟩:∃x,l[j]?=some x:=⟨_,List.getElem?_eq_getElem hj⟩
 have hat:aindexAddr cx.T 140 p (iv j)=some (.vp (paW x) 0):=by
  rw[aindexAddr_sl hp sl140 (by rw[List.length_map];omega) rfl]
  simp[List.getD_eq_getElem?_getD,hx]
 obtain⟨b,x⟩:=x
 obtain⟨r,u,hsl⟩:=slot_ok t I os.length b x
 have ew:elP false 1 w 0=some w:=elP_Sl hw.sl
 obtain⟨fr1,p1,F1,K1⟩:∃fr1,ex cx D 0 86 74 (.seq (.region 11 g86_11 false) (.cond (.tmp 44) .skip (.exit 2))) fr (f86 w pw cv ov pv qs [T])=some (.normal,fr1,f86 w pw cv ov pv qs [T])∧F86 fr1 pw n i∧I86 fr1 p l.length i j:=by
  simp -implicitDefEqProofs (maxDischargeDepth:=4) only[go_sem,K.f42,K.f43,hlt]
  exact⟨_,rfl,F.of fun d hd=>by rcases hd with rfl | rfl | rfl | rfl | rfl | rfl | rfl<;>simp only[go_sem],K.of fun d hd=>by rcases hd with rfl | rfl | rfl | rfl<;>simp only[go_sem]⟩
 obtain⟨fr2,p2,F2,K2,k10⟩:∃fr2,ex cx D 0 86 74 (.region 12 g86_12 false) fr1 (f86 w pw cv ov pv qs [T])=some (.normal,fr2,f86 w pw cv ov pv qs [T,.cells 3 139 [paV b x]])∧F86 fr2 pw n i∧I86 fr2 p l.length i j∧fr2.get 10=.ptr 5 0 0:=by
  simp -implicitDefEqProofs (maxDischargeDepth:=4) only[go_sem,K1.f41,K1.f43,hp.shr,hp.notOwn,hat,Nat.zero_le,Nat.le_refl,Nat.not_lt_zero]
  exact⟨_,rfl,F1.of fun d hd=>by rcases hd with rfl | rfl | rfl | rfl | rfl | rfl | rfl<;>simp only[go_sem],K1.of fun d hd=>by rcases hd with rfl | rfl | rfl | rfl<;>simp only[go_sem],by simp only[go_sem]⟩
 obtain⟨fr3,p3,F3,K3,k11,k12⟩:∃fr3,ex cx D 0 86 74 (.region 13 g86_13 false) fr2 (f86 w pw cv ov pv qs [T,.cells 3 139 [paV b x]])=some (.normal,fr3,f86 w pw cv ov pv qs [T,.cells 3 139 [paV b x],.cells 3 119 [.agg (slC r)]])∧F86 fr3 pw n i∧I86 fr3 p l.length i j∧fr3.get 11=.ptr 6 0 0∧fr3.get 12=bv u:=by
  unfold slC at hsl ⊢
  simp -implicitDefEqProofs (maxDischargeDepth:=4) only[go_sem,F2.f1,F2.f4,k10,hw.sl.shr,hw.sl.notOwn,alen_sl hw.sl,List.length_map,t.c.shr,t.c.drp,t.c.fitA,t.c.shut0,t.o.shr,t.o.drp,t.o.fitA,t.o.shut0,t.p.shr,t.p.drp,t.p.fitA,t.p.shut0,hsl,Nat.zero_le,Nat.le_refl,Nat.not_lt_zero]
  exact⟨_,rfl,F2.of fun d hd=>by rcases hd with rfl | rfl | rfl | rfl | rfl | rfl | rfl<;>simp only[go_sem],K2.of fun d hd=>by rcases hd with rfl | rfl | rfl | rfl<;>simp only[go_sem],by simp only[go_sem],by simp only[go_sem]⟩
 obtain⟨_,_,q0,q1⟩:=x_split p1
 cases u with
 | false =>
  obtain⟨fr4,p4,k2,k3⟩:∃fr4,ex cx D 0 86 74 (.seq (.region 14 g86_14 false) (.cond (.tmp 57) (.seq (.region 15 g86_15 false) .ret) .skip)) fr3 (f86 w pw cv ov pv qs [T,.cells 3 139 [paV b x],.cells 3 119 [.agg (slC r)]])=some (.ret,fr4,f86 w pw cv ov pv qs [T,.cells 3 139 [paV b x],.cells 3 119 [.agg (slC r)]])∧fr4.get 2=.ptr 1 0 0∧fr4.get 3=iv 2:=by
   simp -implicitDefEqProofs (maxDischargeDepth:=4) only[go_sem,k12,F3.f2,u_not,build126_0,Nat.zero_le,Nat.le_refl,Nat.not_lt_zero]
   exact⟨_,rfl,by simp only[go_sem,F3.f2],by simp only[go_sem]⟩
  refine .inr ⟨fr4,[T,.cells 3 139 [paV b x],.cells 3 119 [.agg (slC r)]],?_,k2,k3⟩
  rw[x_cont1 q0,x_cont1 q1,x_seq,x_block,x_cont1 p2,x_cont1 p3,x_seq,p4]
  rfl
 | true =>
  obtain⟨q,L,hq,hg,hL⟩:=hQ.at (i:=i) (by omega)
  obtain⟨fr4,p4,F4,K4,k11⟩:∃fr4,ex cx D 0 86 74 (.seq (.region 14 g86_14 false) (.cond (.tmp 57) (.seq (.region 15 g86_15 false) .ret) .skip)) fr3 (f86 w pw cv ov pv qs [T,.cells 3 139 [paV b x],.cells 3 119 [.agg (slC r)]])=some (.normal,fr4,f86 w pw cv ov pv qs [T,.cells 3 139 [paV b x],.cells 3 119 [.agg (slC r)]])∧F86 fr4 pw n i∧I86 fr4 p l.length i j∧fr4.get 11=.ptr 6 0 0:=by
   simp -implicitDefEqProofs (maxDischargeDepth:=4) only[go_sem,k12,u_not,Nat.zero_le,Nat.le_refl,Nat.not_lt_zero]
   exact⟨_,rfl,F3.of fun d hd=>by rcases hd with rfl | rfl | rfl | rfl | rfl | rfl | rfl<;>simp only[go_sem],K3.of fun d hd=>by rcases hd with rfl | rfl | rfl | rfl<;>simp only[go_sem],by simp only[go_sem,k11]⟩
  have hia:aindexAddr cx.T 124 (.sl 3 1 0 n n) (iv i)=some (.ptr 3 i 0):=by rw[aindexAddr_blk sl124 rfl hi,Nat.zero_add]
  have hiq:i<qs.length:=by omega
  have hss:∀X,(qs.set i X)[i]?=some X:=fun X=>List.getElem?_set_self hiq
  have hap:apV 3 24 [.agg (slC r)] q=some (.vec 3 .own (L++[.agg (slC r)])):=by
   rcases hg with rfl | ⟨rfl,he⟩
   ·exact apV_own (show (L.length+(0+1))*(24+1)≤1099511627776 by omega) (by decide)
   ·rw[he];exact apV_none (show (0+1)*(24+1)≤1099511627776 by decide) (by decide)
  obtain⟨fr5,p5,F5,K5⟩:∃fr5,ex cx D 0 86 74 (.region 16 g86_16 true) fr4 (f86 w pw cv ov pv qs [T,.cells 3 139 [paV b x],.cells 3 119 [.agg (slC r)]])=some (.normal,fr5,f86 w pw cv ov pv (qs.set i (.vec 3 .own (L++[.agg (slC r)]))) [T,.cells 3 139 [paV b x],.cells 3 119 [.agg (slC r)]])∧F86 fr5 pw n i∧I86 fr5 p l.length i j:=by
   unfold slC at hap ⊢
   rcases hg with rfl | ⟨rfl,he⟩
   ·simp -implicitDefEqProofs (maxDischargeDepth:=4) only[go_sem,F4.f6,K4.f7,k11,hia,hq,hiq,hss,hap,List.set_set,nbeq,Nat.zero_le,Nat.le_refl,Nat.not_lt_zero]
    exact⟨_,rfl,F4.of fun d hd=>by rcases hd with rfl | rfl | rfl | rfl | rfl | rfl | rfl<;>simp only[go_sem],K4.of fun d hd=>by rcases hd with rfl | rfl | rfl | rfl<;>simp only[go_sem]⟩
   ·simp -implicitDefEqProofs (maxDischargeDepth:=4) only[go_sem,F4.f6,K4.f7,k11,hia,hq,hiq,hss,hap,List.set_set,nbeq,Nat.zero_le,Nat.le_refl,Nat.not_lt_zero]
    exact⟨_,rfl,F4.of fun d hd=>by rcases hd with rfl | rfl | rfl | rfl | rfl | rfl | rfl<;>simp only[go_sem],K4.of fun d hd=>by rcases hd with rfl | rfl | rfl | rfl<;>simp only[go_sem]⟩
  obtain⟨fr6,p6,F6,K6⟩:∃fr6,ex cx D 0 86 74 (.region 17 g86_17 false) fr5 (f86 w pw cv ov pv (qs.set i (.vec 3 .own (L++[.agg (slC r)]))) [T,.cells 3 139 [paV b x],.cells 3 119 [.agg (slC r)]])=some (.normal,fr6,f86 w pw cv ov pv (qs.set i (.vec 3 .own (L++[.agg (slC r)]))) [T,.cells 3 139 [paV b x],.cells 3 119 [.agg (slC r)]])∧F86 fr6 pw n i∧I86 fr6 p l.length i (j+1):=by
   simp -implicitDefEqProofs (maxDischargeDepth:=4) only[go_sem,K5.f43,w3]
   exact⟨_,rfl,F5.of fun d hd=>by rcases hd with rfl | rfl | rfl | rfl | rfl | rfl | rfl<;>simp only[go_sem],by simp only[go_sem,K5.f7],by simp only[go_sem,K5.f41],by simp only[go_sem,K5.f42],by simp only[go_sem]⟩
  have eb:ex cx D 0 86 74 (.block 3 (.seq (.region 12 g86_12 false) (.seq (.region 13 g86_13 false) (.seq (.seq (.region 14 g86_14 false) (.cond (.tmp 57) (.seq (.region 15 g86_15 false) .ret) .skip)) (.region 16 g86_16 true))))) fr1 (f86 w pw cv ov pv qs [T])=some (.normal,fr5,f86 w pw cv ov pv (qs.set i (.vec 3 .own (L++[.agg (slC r)]))) [T,.cells 3 139 [paV b x],.cells 3 119 [.agg (slC r)]]):=by
   rw[x_block,x_cont1 p2,x_cont1 p3,x_cont1 p4,p5];rfl
  refine .inl ⟨fr6,qs.set i (.vec 3 .own (L++[.agg (slC r)])),.cells 3 139 [paV b x],.cells 3 119 [.agg (slC r)],?_,F6,K6,hQ.set i (by rw[List.length_append];exact Nat.succ_le_succ hL),by rw[List.length_set,hn]⟩
  rw[x_cont1 q0,x_cont1 q1,x_cont1 eb,p6]
end
open Go.Gr
theorem trim75(k:PT→Hp→Option Res)(fr:PT)(A B C Q T X Y:ABlock):trimmed k 5 fr [A,B,C,Q,T,X,Y]=k (fr.map (kill 5)) [killB 5 A,killB 5 B,killB 5 C,killB 5 Q,killB 5 T]:=by
 unfold trimmed
 rw[if_neg (show ¬ [A,B,C,Q,T,X,Y].length=5 from by simp)]
 rfl
theorem trim54(k:PT→Hp→Option Res)(fr:PT)(A B C Q T:ABlock):trimmed k 4 fr [A,B,C,Q,T]=k (fr.map (kill 4)) [killB 4 A,killB 4 B,killB 4 C,killB 4 Q]:=by
 unfold trimmed
 rw[if_neg (show ¬ [A,B,C,Q,T].length=4 from by simp)]
 rfl
theorem kill_sl{b m z i l c:Nat}(h:b<m):kill m (.sl b z i l c)=.sl b z i l c:=by
 show (if b<m then AV.sl b z i l c else .dead)=_
 rw[if_pos h]
theorem F86.kl{fr:PT}{pw:AV}{n i:Nat}(F:F86 fr pw n i){szp:Nat}{us:List AV}(hpw:Sl szp pw us){m:Nat}(hm:3<m):F86 (fr.map (kill m)) pw n i :=
 ⟨by rw[get_mapkill,F.f1,kill_ptr (by omega)],by rw[get_mapkill,F.f2,kill_ptr (by omega)],by rw[get_mapkill,F.f4,kill_ptr (by omega)],by rw[get_mapkill,F.f6,kill_sl hm],by rw[get_mapkill,F.f28,kill_Sl hpw],by rw[get_mapkill,F.f29];rfl,by rw[get_mapkill,F.f30];rfl⟩
section
variable {w pw cv ov pv:AV} {cls:List Cl} {ofs:List Nat} {prs:List Int} {os:List Nd}
theorem tB_k(t:TbOk cv ov pv cls ofs prs)(m:Nat):killB m (tB cv ov pv)=tB cv ov pv:=by
 show ABlock.cells 3 95 [.agg [kill0 m cv,kill0 m ov,kill0 m pv]]=_
 rw[sl_k0 t.c,sl_k0 t.o,sl_k0 t.p]
theorem lo86(t:TbOk cv ov pv cls ofs prs)(I:TbIn cls ofs prs)(hw:NsOk os w){szp:Nat}{us:List AV}(hpw:Sl szp pw us){p:AV}{l:List (Bool×Int×Int)}(hp:Sl 3 p (l.map paW)){n i:Nat}(hi:i<n)(hl:l.length≤8):
  ∀(d j:Nat)(fr:PT)(qs:List AV)(B:Nat),l.length-j=d→j≤l.length→qs.length=n→QOk B qs→B+d≤1000→F86 fr pw n i→I86 fr p l.length i j→
  ∃e fr' qs' L,D.loop 0 86 74 l86_0 fr (f86 w pw cv ov pv qs [.cells 3 143 [.agg [p,nl,nl]]])=some (e,fr',f86 w pw cv ov pv qs' L)∧
   ((e=.exit 2∧L=[.cells 3 143 [.agg [p,nl,nl]]]∧F86 fr' pw n i∧QOk (B+d) qs'∧qs'.length=n)∨(e=.ret∧fr'.get 2=.ptr 1 0 0∧fr'.get 3=iv 2))
 | 0,j,fr,qs,B,hd,hj,hn,hQ,hB,F,K=>by
  have hlt:¬(j:Int)<(l.length:Int):=by omega
  obtain⟨fr1,p1,F1⟩:∃fr1,D.loop 0 86 74 l86_0 fr (f86 w pw cv ov pv qs [.cells 3 143 [.agg [p,nl,nl]]])=some (.exit 2,fr1,f86 w pw cv ov pv qs [.cells 3 143 [.agg [p,nl,nl]]])∧F86 fr1 pw n i:=by
   rw[dl86_0]
   simp -implicitDefEqProofs (maxDischargeDepth:=4) only[go_sem,K.f42,K.f43,hlt]
   exact⟨_,rfl,F.of fun d hd=>by rcases hd with rfl | rfl | rfl | rfl | rfl | rfl | rfl<;>simp only[go_sem]⟩
  exact⟨_,fr1,_,_,p1,.inl ⟨rfl,rfl,F1,hQ,hn⟩⟩
 | d+1,j,fr,qs,B,hd,hj,hn,hQ,hB,F,K=>by
  rcases in86 t I hw hpw hp hn hi (show j<l.length by omega) hl hQ (by omega) (T:=.cells 3 143 [.agg [p,nl,nl]]) F K with⟨fr1,qs1,X,Y,p1,F1,K1,hQ1,hn1⟩ | ⟨fr1,L,p1,k2,k3⟩
  ·have K1':I86 (fr1.map (kill 5)) p l.length i (j+1):=⟨by rw[get_mapkill,K1.f7];rfl,by rw[get_mapkill,K1.f41,kill_Sl hp],by rw[get_mapkill,K1.f42];rfl,by rw[get_mapkill,K1.f43];rfl⟩
   obtain⟨e,fr2,qs2,L2,p2,h⟩:=lo86 t I hw hpw hp hi hl d (j+1) (fr1.map (kill 5)) qs1 (B+1) (by omega) (by omega) hn1 hQ1 (by omega) (F1.kl hpw (by decide)) K1'
   refine⟨e,fr2,qs2,L2,?_,?_⟩
   ·rw[dl86_0,show ex cx (den cx) 0 86 74 bo86 fr (f86 w pw cv ov pv qs [.cells 3 143 [.agg [p,nl,nl]]])=_ from p1,xbind_some,contR_normal]
    rw[show (f86 w pw cv ov pv qs [.cells 3 143 [.agg [p,nl,nl]]]).length=5 from rfl,trim75,mdB_k hw.sl hpw Oth.nil,tB_k t,hQ1.kl,show killB 5 (.cells 4 126 [.agg [nl,nl,nl,nl]])=.cells 4 126 [.agg [nl,nl,nl,nl]] from rfl,
     show killB 5 (.cells 3 143 [.agg [p,nl,nl]])=.cells 3 143 [.agg [kill0 5 p,nl,nl]] from rfl,sl_k0 hp]
    exact p2
   ·rcases h with⟨h1,h2,h3,h4,h5⟩ | h
    ·exact .inl ⟨h1,h2,h3,by rw[show B+(d+1)=B+1+d by omega];exact h4,h5⟩
    ·exact .inr h
  ·refine⟨_,fr1,qs,L,?_,.inr ⟨rfl,k2,k3⟩⟩
   rw[dl86_0,show ex cx (den cx) 0 86 74 bo86 fr (f86 w pw cv ov pv qs [.cells 3 143 [.agg [p,nl,nl]]])=_ from p1]
   rfl
noncomputable abbrev bp86:Code:=(.seq (.region 6 g86_6 false) (.seq (.cond (.tmp 31) .skip (.exit 0)) (.seq (.block 1 (.seq (.region 7 g86_7 false) (.seq (.seq (.region 8 g86_8 false) (.cond (.tmp 38) (.seq (.region 9 g86_9 false) .ret) .skip)) (.seq (.region 10 g86_10 false) (.block 2 (.loop l86_0)))))) (.region 18 g86_18 false))))
theorem out86(t:TbOk cv ov pv cls ofs prs)(I:TbIn cls ofs prs)(hw:NsOk os w){us:List AV}(hpw:Sl 3 pw us)(hus:∀x∈us,TmN x){i B:Nat}(hi:i<us.length)(hi4:us.length≤4){qs:List AV}(hn:qs.length=us.length)(hQ:QOk B qs)(hB:B≤900){fr:PT}(F:F86 fr pw us.length i):
  ∃e fr' qs' L,ex cx D 0 86 74 bp86 fr (f86 w pw cv ov pv qs [])=some (e,fr',f86 w pw cv ov pv qs' L)∧
   ((e=.normal∧(∃T,L=[T])∧F86 fr' pw us.length (i+1)∧QOk (B+8) qs'∧qs'.length=us.length)∨(e=.ret∧fr'.get 2=.ptr 1 0 0∧fr'.get 3=iv 2)):=by
 have hlt:(i:Int)<(us.length:Int):=by omega
 have w3:=wrap_succ (show i≤1000 by omega)
 obtain⟨x,hx⟩:∃x,us[i]?=some x:=⟨_,List.getElem?_eq_getElem hi⟩
 obtain⟨p,l,rfl,hp,hl10⟩:=hus x (List.mem_of_getElem? hx)
 have hat:aindexAddr cx.T 113 pw (iv i)=some (.vp (.agg [p,nl,nl]) 0):=by
  rw[aindexAddr_sl hpw sl113 (by omega) rfl]
  simp[List.getD_eq_getElem?_getD,hx]
 have ep:elP false 1 p 0=some p:=elP_Sl hp
 obtain⟨fr1,p1,F1⟩:∃fr1,ex cx D 0 86 74 (.seq (.region 6 g86_6 false) (.cond (.tmp 31) .skip (.exit 0))) fr (f86 w pw cv ov pv qs [])=some (.normal,fr1,f86 w pw cv ov pv qs [])∧F86 fr1 pw us.length i:=by
  simp -implicitDefEqProofs (maxDischargeDepth:=4) only[go_sem,F.f29,F.f30,hlt]
  exact⟨_,rfl,F.of fun d hd=>by rcases hd with rfl | rfl | rfl | rfl | rfl | rfl | rfl<;>simp only[go_sem]⟩
 obtain⟨fr2,p2,F2,k7,k8⟩:∃fr2,ex cx D 0 86 74 (.region 7 g86_7 false) fr1 (f86 w pw cv ov pv qs [])=some (.normal,fr2,f86 w pw cv ov pv qs [.cells 3 143 [.agg [p,nl,nl]]])∧F86 fr2 pw us.length i∧fr2.get 7=iv i∧fr2.get 8=.ptr 4 0 0:=by
  simp -implicitDefEqProofs (maxDischargeDepth:=4) only[go_sem,F1.f28,F1.f30,hpw.shr,hpw.notOwn,hat,hp.shr,hp.notOwn,hp.drp,hp.fitA,Nat.zero_le,Nat.le_refl,Nat.not_lt_zero]
  exact⟨_,rfl,F1.of fun d hd=>by rcases hd with rfl | rfl | rfl | rfl | rfl | rfl | rfl<;>simp only[go_sem],by simp only[go_sem],by simp only[go_sem]⟩
 obtain⟨_,_,q0,q1⟩:=x_split p1
 by_cases h8:(8:Int)<(l.length:Int)
 ·obtain⟨fr3,p3,m2,m3⟩:∃fr3,ex cx D 0 86 74 (.seq (.region 8 g86_8 false) (.cond (.tmp 38) (.seq (.region 9 g86_9 false) .ret) .skip)) fr2 (f86 w pw cv ov pv qs [.cells 3 143 [.agg [p,nl,nl]]])=some (.ret,fr3,f86 w pw cv ov pv qs [.cells 3 143 [.agg [p,nl,nl]]])∧fr3.get 2=.ptr 1 0 0∧fr3.get 3=iv 2:=by
   simp -implicitDefEqProofs (maxDischargeDepth:=4) only[go_sem,k8,F2.f2,hp.shr,hp.notOwn,ep,alen_sl hp,List.length_map,h8,build126_0,Nat.zero_le,Nat.le_refl,Nat.not_lt_zero]
   exact⟨_,rfl,by simp only[go_sem,F2.f2],by simp only[go_sem]⟩
  refine⟨.ret,fr3,qs,[.cells 3 143 [.agg [p,nl,nl]]],?_,.inr ⟨rfl,m2,m3⟩⟩
  rw[x_cont1 q0,x_cont1 q1,x_seq,x_block,x_cont1 p2,x_seq,p3]
  rfl
 ·obtain⟨fr3,p3,F3,m7,m8⟩:∃fr3,ex cx D 0 86 74 (.seq (.region 8 g86_8 false) (.cond (.tmp 38) (.seq (.region 9 g86_9 false) .ret) .skip)) fr2 (f86 w pw cv ov pv qs [.cells 3 143 [.agg [p,nl,nl]]])=some (.normal,fr3,f86 w pw cv ov pv qs [.cells 3 143 [.agg [p,nl,nl]]])∧F86 fr3 pw us.length i∧fr3.get 7=iv i∧fr3.get 8=.ptr 4 0 0:=by
   simp -implicitDefEqProofs (maxDischargeDepth:=4) only[go_sem,k8,F2.f2,hp.shr,hp.notOwn,ep,alen_sl hp,List.length_map,h8,Nat.zero_le,Nat.le_refl,Nat.not_lt_zero]
   exact⟨_,rfl,F2.of fun d hd=>by rcases hd with rfl | rfl | rfl | rfl | rfl | rfl | rfl<;>simp only[go_sem],by simp only[go_sem,k7],by simp only[go_sem,k8]⟩
  obtain⟨fr4,p4,F4,K4⟩:∃fr4,ex cx D 0 86 74 (.region 10 g86_10 false) fr3 (f86 w pw cv ov pv qs [.cells 3 143 [.agg [p,nl,nl]]])=some (.normal,fr4,f86 w pw cv ov pv qs [.cells 3 143 [.agg [p,nl,nl]]])∧F86 fr4 pw us.length i∧I86 fr4 p l.length i 0:=by
   simp -implicitDefEqProofs (maxDischargeDepth:=4) only[go_sem,m8,hp.shr,hp.notOwn,ep,alen_sl hp,List.length_map,Nat.zero_le,Nat.le_refl,Nat.not_lt_zero]
   exact⟨_,rfl,F3.of fun d hd=>by rcases hd with rfl | rfl | rfl | rfl | rfl | rfl | rfl<;>simp only[go_sem],by simp only[go_sem,m7],by simp only[go_sem],by simp only[go_sem],by simp only[go_sem];rfl⟩
  obtain⟨e,fr5,qs5,L5,p5,h⟩:=lo86 t I hw hpw hp hi (by omega) l.length 0 fr4 qs B rfl (Nat.zero_le _) hn hQ (by omega) F4 K4
  rcases h with⟨rfl,rfl,F5,hQ5,hn5⟩ | ⟨rfl,m2,m3⟩
  ·obtain⟨fr6,p6,F6⟩:∃fr6,ex cx D 0 86 74 (.region 18 g86_18 false) fr5 (f86 w pw cv ov pv qs5 [.cells 3 143 [.agg [p,nl,nl]]])=some (.normal,fr6,f86 w pw cv ov pv qs5 [.cells 3 143 [.agg [p,nl,nl]]])∧F86 fr6 pw us.length (i+1):=by
    simp -implicitDefEqProofs (maxDischargeDepth:=4) only[go_sem,F5.f30,w3]
    exact⟨_,rfl,by simp only[go_sem,F5.f1],by simp only[go_sem,F5.f2],by simp only[go_sem,F5.f4],by simp only[go_sem,F5.f6],by simp only[go_sem,F5.f28],by simp only[go_sem,F5.f29],by simp only[go_sem]⟩
   have eb:ex cx D 0 86 74 (.block 1 (.seq (.region 7 g86_7 false) (.seq (.seq (.region 8 g86_8 false) (.cond (.tmp 38) (.seq (.region 9 g86_9 false) .ret) .skip)) (.seq (.region 10 g86_10 false) (.block 2 (.loop l86_0)))))) fr1 (f86 w pw cv ov pv qs [])=some (.normal,fr5,f86 w pw cv ov pv qs5 [.cells 3 143 [.agg [p,nl,nl]]]):=by
    rw[x_block,x_cont1 p2,x_cont1 p3,x_cont1 p4,x_block,x_loop,p5];rfl
   refine⟨.normal,fr6,qs5,[.cells 3 143 [.agg [p,nl,nl]]],?_,.inl ⟨rfl,⟨_,rfl⟩,F6,?_,hn5⟩⟩
   ·rw[x_cont1 q0,x_cont1 q1,x_cont1 eb,p6]
   ·intro q hq
    obtain⟨L,g1,g2⟩:=hQ5 q hq
    exact⟨L,g1,by omega⟩
  ·refine⟨.ret,fr5,qs5,L5,?_,.inr ⟨rfl,m2,m3⟩⟩
   rw[x_cont1 q0,x_cont1 q1,x_seq,x_block,x_cont1 p2,x_cont1 p3,x_cont1 p4,x_block,x_loop,p5]
   rfl
theorem lp86(t:TbOk cv ov pv cls ofs prs)(I:TbIn cls ofs prs)(hw:NsOk os w){us:List AV}(hpw:Sl 3 pw us)(hus:∀x∈us,TmN x)(hi4:us.length≤4):
  ∀(d i:Nat)(fr:PT)(qs:List AV),us.length-i=d→i≤us.length→qs.length=us.length→QOk (i*8) qs→F86 fr pw us.length i→
  ∃e fr' qs' L,D.loop 0 86 74 l86_1 fr (f86 w pw cv ov pv qs [])=some (e,fr',f86 w pw cv ov pv qs' L)∧
   ((e=.exit 0∧L=[]∧F86 fr' pw us.length us.length∧QOk 1000 qs'∧qs'.length=us.length)∨(e=.ret∧fr'.get 2=.ptr 1 0 0∧fr'.get 3=iv 2))
 | 0,i,fr,qs,hd,hi,hn,hQ,F=>by
  have hlt:¬(i:Int)<(us.length:Int):=by omega
  have e:i=us.length:=by omega
  obtain⟨fr1,p1,F1⟩:∃fr1,D.loop 0 86 74 l86_1 fr (f86 w pw cv ov pv qs [])=some (.exit 0,fr1,f86 w pw cv ov pv qs [])∧F86 fr1 pw us.length i:=by
   rw[dl86_1]
   simp -implicitDefEqProofs (maxDischargeDepth:=4) only[go_sem,F.f29,F.f30,hlt]
   exact⟨_,rfl,F.of fun d hd=>by rcases hd with rfl | rfl | rfl | rfl | rfl | rfl | rfl<;>simp only[go_sem]⟩
  rw[e]at F1
  refine⟨_,fr1,_,_,p1,.inl ⟨rfl,rfl,F1,fun q hq=>?_,hn⟩⟩
  obtain⟨L,g1,g2⟩:=hQ q hq
  exact⟨L,g1,by omega⟩
 | d+1,i,fr,qs,hd,hi,hn,hQ,F=>by
  obtain⟨e,fr1,qs1,L1,p1,h⟩:=out86 t I hw hpw hus (show i<us.length by omega) hi4 hn hQ (by omega) F
  rcases h with⟨rfl,⟨T,rfl⟩,F1,hQ1,hn1⟩ | ⟨rfl,m2,m3⟩
  ·obtain⟨e,fr2,qs2,L2,p2,h⟩:=lp86 t I hw hpw hus hi4 d (i+1) (fr1.map (kill 4)) qs1 (by omega) (by omega) hn1 (by rw[show (i+1)*8=i*8+8 by omega];exact hQ1) (F1.kl hpw (by decide))
   refine⟨e,fr2,qs2,L2,?_,h⟩
   rw[dl86_1,show ex cx (den cx) 0 86 74 bp86 fr (f86 w pw cv ov pv qs [])=_ from p1,xbind_some,contR_normal]
   rw[show (f86 w pw cv ov pv qs []).length=4 from rfl,trim54,mdB_k hw.sl hpw Oth.nil,tB_k t,hQ1.kl,show killB 4 (.cells 4 126 [.agg [nl,nl,nl,nl]])=.cells 4 126 [.agg [nl,nl,nl,nl]] from rfl]
   exact p2
  ·refine⟨.ret,fr1,qs1,L1,?_,.inr ⟨rfl,m2,m3⟩⟩
   rw[dl86_1,show ex cx (den cx) 0 86 74 bp86 fr (f86 w pw cv ov pv qs [])=_ from p1]
   rfl
end
open Go.Gr
theorem sl_f0{sz:Nat}{a:AV}{els:List AV}(s:Sl sz a els){n:Nat}{H:Hp}:frz0 n H a=a:=by
 rcases s with rfl | rfl | ⟨rfl,_⟩<;>rfl
section
variable {w pw:AV} {os:List Nd}
theorem facts_call(hw:NsOk os w){us:List AV}(hpw:Sl 3 pw us)(hus:∀x∈us,TmN x)(hi4:us.length≤4):
  (∃e H',callB cx D 0 86 [.agg [w,pw,nl,nl,nl,nl,nl,nl]] []=some (.tup [.agg [nl,nl,nl,nl],iv e],H')∧e≠0)∨
  (∃(cv ov pv:AV)(cls:List Cl)(qs:List AV)(A B C:ABlock),callB cx D 0 86 [.agg [w,pw,nl,nl,nl,nl,nl,nl]] []=some (.tup [.agg [cv,ov,pv,.sl 3 1 0 us.length us.length],iv 0],[A,B,C,.cells 1 167 qs])∧qs.length=us.length∧Sl 6 cv (cls.map clW)∧(∃l,Sl 1 ov l)∧(∃l,Sl 1 pv l)∧cls.length≤1000):=by
 have ew:elP false 1 w 0=some w:=elP_Sl hw.sl
 have epw:elP false 1 pw 0=some pw:=elP_Sl hpw
 by_cases h0:(ordC os).2=0
 rotate_left
 ·have h73:=of_bad hw h0
  generalize (ordC os).2=e at h73 h0
  refine .inl ⟨e,?_⟩
  suffices ∃H',callB cx D 0 86 [.agg [w,pw,nl,nl,nl,nl,nl,nl]] []=some (.tup [.agg [nl,nl,nl,nl],iv e],H') by
   obtain⟨H',h⟩:=this
   exact⟨H',h,h0⟩
  rw[c86]
  simp -implicitDefEqProofs (maxDischargeDepth:=4) only[go_sem,hw.sl.shr,hw.sl.notOwn,hw.sl.drp,hw.sl.fitA,hw.sl.shut1,hpw.shr,hpw.drp,hpw.fitA,ew,h73,h0,build126_0,Nat.zero_le,Nat.le_refl,Nat.not_lt_zero]
  exact⟨_,rfl⟩
 obtain⟨cv,ov,pv,T,cls,ofs,prs,h73,t,d⟩:=of_ok hw h0
 have g:=ord_good h0
 have I:=of_in g d
 have hcl:cls.length≤1000:=by
  have h1:=d.c.len
  have h2:clsN T (atsOf T)≤T.length:=cnt_bound _ _
  have h3:=d.h.ln
  have h4:=g.le
  omega
 obtain⟨fr1,p1,k1,k2,k4⟩:∃fr1,ex cx D 0 86 74 (.seq (.region 0 g86_0 false) (.seq (.region 1 g86_1 false) (.seq (.region 2 g86_2 false) (.cond (.tmp 20) (.seq (.region 3 g86_3 false) .ret) .skip)))) (PT.nil.set 0 (drp (.agg [w,pw,nl,nl,nl,nl,nl,nl]))) []=some (.normal,fr1,[mdB w pw nl nl nl nl nl nl,.cells 4 126 [.agg [nl,nl,nl,nl]],tB cv ov pv])∧fr1.get 1=.ptr 0 0 0∧fr1.get 2=.ptr 1 0 0∧fr1.get 4=.ptr 2 0 0:=by
  simp -implicitDefEqProofs (maxDischargeDepth:=4) only[go_sem,hw.sl.shr,hw.sl.notOwn,hw.sl.drp,hw.sl.fitA,hw.sl.shut1,hpw.shr,hpw.drp,hpw.fitA,ew,h73,t.c.shr,t.c.drp,t.c.fitA,t.o.shr,t.o.drp,t.o.fitA,t.p.shr,t.p.drp,t.p.fitA,Nat.zero_le,Nat.le_refl,Nat.not_lt_zero]
  exact⟨_,rfl,by simp only[go_sem],by simp only[go_sem],by simp only[go_sem]⟩
 obtain⟨fr2,p2,m1,m2,m4,m6⟩:∃fr2,ex cx D 0 86 74 (.region 4 g86_4 false) fr1 [mdB w pw nl nl nl nl nl nl,.cells 4 126 [.agg [nl,nl,nl,nl]],tB cv ov pv]=some (.normal,fr2,f86 w pw cv ov pv (List.replicate us.length nl) [])∧fr2.get 1=.ptr 0 0 0∧fr2.get 2=.ptr 1 0 0∧fr2.get 4=.ptr 2 0 0∧fr2.get 6=.sl 3 1 0 us.length us.length:=by
  have hle:us.length*(24+1)≤1099511627776:=by omega
  have hle2:us.length*1≤16777216:=by omega
  simp -implicitDefEqProofs (maxDischargeDepth:=4) only[go_sem,k1,hpw.shr,hpw.notOwn,epw,alen_sl hpw,hle,hle2,Nat.zero_le,Nat.le_refl,Nat.not_lt_zero]
  exact⟨_,rfl,by simp only[go_sem,k1],by simp only[go_sem,k2],by simp only[go_sem,k4],by simp only[go_sem]⟩
 obtain⟨fr3,p3,F3⟩:∃fr3,ex cx D 0 86 74 (.region 5 g86_5 false) fr2 (f86 w pw cv ov pv (List.replicate us.length nl) [])=some (.normal,fr3,f86 w pw cv ov pv (List.replicate us.length nl) [])∧F86 fr3 pw us.length 0:=by
  simp -implicitDefEqProofs (maxDischargeDepth:=4) only[go_sem,m1,hpw.shr,hpw.notOwn,epw,alen_sl hpw,Nat.zero_le,Nat.le_refl,Nat.not_lt_zero]
  exact⟨_,rfl,by simp only[go_sem,m1],by simp only[go_sem,m2],by simp only[go_sem,m4],by simp only[go_sem,m6],by simp only[go_sem],by simp only[go_sem],by simp only[go_sem];rfl⟩
 have hQ0:QOk (0*8) (List.replicate us.length nl):=fun q hq=>by
  rw[List.eq_of_mem_replicate hq]
  exact⟨[],.inr ⟨rfl,rfl⟩,Nat.zero_le _⟩
 obtain⟨e,fr4,qs,L,p4,h⟩:=lp86 t I hw hpw hus hi4 us.length 0 fr3 _ rfl (Nat.zero_le _) List.length_replicate hQ0 F3
 obtain⟨_,_,q0,s⟩:=x_split p1
 obtain⟨_,_,q1,q2⟩:=x_split s
 rcases h with⟨rfl,rfl,F4,hQ4,hn4⟩ | ⟨rfl,n2,n3⟩
 ·have eb:ex cx D 0 86 74 (.block 0 (.loop l86_1)) fr3 (f86 w pw cv ov pv (List.replicate us.length nl) [])=some (.normal,fr4,f86 w pw cv ov pv qs []):=by
   rw[x_block,x_loop,p4];rfl
  refine .inr ⟨cv,ov,pv,cls,qs,mdB w pw nl nl nl nl nl nl,.cells 4 126 [.agg [cv,ov,pv,.sl 3 1 0 us.length us.length]],tB cv ov pv,?_,hn4,t.c,⟨_,t.o⟩,⟨_,t.p⟩,hcl⟩
  rw[c86,x_cont1 q0,x_cont1 q1,x_cont1 q2,x_cont1 p2,x_assoc,x_cont1 p3,x_cont1 eb]
  simp -implicitDefEqProofs (maxDischargeDepth:=4) only[go_sem,F4.f2,F4.f4,F4.f6,build126_2,t.c.shr,t.c.drp,t.c.fitA,t.o.shr,t.o.drp,t.o.fitA,t.p.shr,t.p.drp,t.p.fitA,Nat.zero_le,Nat.le_refl,Nat.not_lt_zero]
 ·refine .inl ⟨2,f86 w pw cv ov pv qs L,?_,by decide⟩
  rw[c86,x_cont1 q0,x_cont1 q1,x_cont1 q2,x_cont1 p2,x_assoc,x_cont1 p3,x_seq,x_block,x_loop,p4]
  simp -implicitDefEqProofs (maxDischargeDepth:=4) only[go_sem,n2,n3,Nat.zero_le,Nat.le_refl,Nat.not_lt_zero]
theorem facts_ok(hw:NsOk os w){us:List AV}(hpw:Sl 3 pw us)(hus:∀x∈us,TmN x)(hi4:us.length≤4):
  (∃e,pcall D 86 [.agg [w,pw,nl,nl,nl,nl,nl,nl]]=some (.tup [.agg [nl,nl,nl,nl],iv e])∧e≠0)∨
  (∃(cv ov pv qv:AV)(cls:List Cl),pcall D 86 [.agg [w,pw,nl,nl,nl,nl,nl,nl]]=some (.tup [.agg (ftC cv ov pv qv),iv 0])∧FtOk cv ov pv qv cls):=by
 have hc:[AV.agg [w,pw,nl,nl,nl,nl,nl,nl]].map cl2=[AV.agg [w,pw,nl,nl,nl,nl,nl,nl]]:=by
  rw[show [AV.agg [w,pw,nl,nl,nl,nl,nl,nl]].map cl2=[AV.agg [cl0 w,cl0 pw,nl,nl,nl,nl,nl,nl]] from rfl,hw.sl.cl0,hpw.cl0]
 rcases facts_call hw hpw hus hi4 with⟨e,H',h,he⟩ | ⟨cv,ov,pv,cls,qs,A,B,C,h,hq,h1,⟨_,h2⟩,⟨_,h3⟩,h4⟩
 ·refine .inl ⟨e,?_,he⟩
  rw[pcall_eq (H':=H') (by rw[hc];exact h)]
  rfl
 ·refine .inr ⟨cv,ov,pv,.vec 1 .shared (((qs.drop 0).take us.length).map cl1),cls,?_,h1,⟨_,h2⟩,⟨_,h3⟩,⟨_,.inr (.inl rfl)⟩,h4⟩
  rw[pcall_eq (H':=[A,B,C,.cells 1 167 qs]) (by rw[hc];exact h)]
  show some (AV.tup [.agg [frz0 0 [A,B,C,.cells 1 167 qs] cv,frz0 0 [A,B,C,.cells 1 167 qs] ov,frz0 0 [A,B,C,.cells 1 167 qs] pv,if 3<0 then AV.dead else if 0+us.length≤qs.length∧us.length≤us.length then AV.vec 1 .shared (((qs.drop 0).take us.length).map cl1) else .dead],iv 0])=_
  rw[if_neg (by decide),if_pos ⟨by omega,Nat.le_refl _⟩,sl_f0 h1,sl_f0 h2,sl_f0 h3]
end
open Go.Gr
theorem works13_ok:pcall D 85 []=some (bv true):=by
 have h:isTrue ((lvl cx 3000).call 0 85 [] [])=true:=by kernel_rfl
 obtain⟨H,h⟩:=isTrue_spec h
 have hd:=den_call.2 ⟨3000,h⟩
 rw[den_call_eq]at hd
 rw[pcall_eq (vs:=[]) (v:=bv true) (H':=H) (by rw[List.map_nil];exact hd)]
 rfl
theorem bz_fz(cls:List Cl)(t:Int)(r:Slo):bz cls (fz cls t r)=bz cls r:=by
 unfold fz
 split
 ·rfl
 ·rfl
theorem fz_fz(cls:List Cl)(t u:Int)(r:Slo):fz cls u (fz cls t r)=fz cls (t+u) r:=by
 have h:=bz_fz cls t r
 unfold fz at h ⊢
 by_cases hb:bz cls r=true
 ·rw[if_pos hb]at h ⊢
  rw[if_pos hb,h,if_pos hb]
  show (r.1,r.2.1,r.2.2+t+u)=(r.1,r.2.1,r.2.2+(t+u))
  rw[Int.add_assoc]
 ·rw[if_neg hb]at h ⊢
  rw[if_neg hb,if_neg hb]
theorem fz_zero(cls:List Cl)(r:Slo):fz cls 0 r=r:=by
 unfold fz
 split
 ·rw[Int.add_zero]
 ·rfl
theorem map_fz_fz(cls:List Cl)(t u:Int)(R:List Slo):(R.map (fz cls t)).map (fz cls u)=R.map (fz cls (t+u)):=by
 rw[List.map_map]
 exact List.map_congr_left fun r _=>fz_fz cls t u r
theorem map_fz_zero(cls:List Cl)(R:List Slo):R.map (fz cls 0)=R:=by
 have:R.map (fz cls 0)=R.map id:=List.map_congr_left fun r _=>fz_zero cls r
 rw[this,List.map_id]
theorem mn1_add(o:Option Int)(p t:Int):mn1 (o.map (· + t)) (p+t)=mn1 o p+t:=by
 cases o with
 | none=>rfl
 | some m=>show min (m+t) (p+t)=min m p+t;omega
theorem lst_fz_go(cls:List Cl)(t:Int):∀(R:List Slo)(o:Option Int),(R.map (fz cls t)).foldl (ls1 cls) (o.map (· + t))=(R.foldl (ls1 cls) o).map (· + t)
 | [],o=>rfl
 | r::R,o=>by
  rw[List.map_cons,List.foldl_cons,List.foldl_cons,←lst_fz_go cls t R]
  congr 1
  have h:=bz_fz cls t r
  unfold ls1
  by_cases hb:bz cls r=true
  ·rw[if_pos (by rw[h,hb]),if_pos hb]
   have e:(fz cls t r).2.2=r.2.2+t:=by unfold fz;rw[if_pos hb]
   rw[e,mn1_add];rfl
  ·rw[if_neg (by rw[h];exact hb),if_neg hb]
theorem lst_fz(cls:List Cl)(t:Int)(R:List Slo):lst cls (R.map (fz cls t))=(lst cls R).map (· + t):=lst_fz_go cls t R none
theorem lst_le_go(cls:List Cl):∀(R:List Slo)(o:Option Int),(∀m,o=some m→∃m',R.foldl (ls1 cls) o=some m'∧m'≤m)∧∀r∈R,bz cls r=true→∃m',R.foldl (ls1 cls) o=some m'∧m'≤r.2.2
 | [],o=>⟨fun m h=>⟨m,h,Int.le_refl _⟩,fun r h=>by cases h⟩
 | r::R,o=>by
  obtain⟨h1,h2⟩:=lst_le_go cls R (ls1 cls o r)
  rw[List.foldl_cons]
  refine⟨fun m hm=>?_,fun q hq hb=>?_⟩
  ·by_cases hb:bz cls r=true
   ·obtain⟨m',h3,h4⟩:=h1 (mn1 o r.2.2) (by unfold ls1;rw[if_pos hb])
    refine⟨m',h3,?_⟩
    rw[hm]at h4
    have:mn1 (some m) r.2.2=min m r.2.2:=rfl
    omega
   ·exact h1 m (by unfold ls1;rw[if_neg hb,hm])
  ·rcases List.mem_cons.1 hq with rfl | hq
   ·obtain⟨m',h3,h4⟩:=h1 (mn1 o q.2.2) (by unfold ls1;rw[if_pos hb])
    refine⟨m',h3,?_⟩
    have:mn1 o q.2.2≤q.2.2:=by
     cases o with
     | none=>exact Int.le_refl _
     | some m=>show min m q.2.2≤q.2.2;omega
    omega
   ·exact h2 q hq hb
theorem lst_le(cls:List Cl){R:List Slo}{r:Slo}(h:r∈R)(hb:bz cls r=true):(lst cls R).isSome=true∧¬r.2.2<(lst cls R).getD 0:=by
 obtain⟨m,h1,h2⟩:=(lst_le_go cls R none).2 r h hb
 have h1':lst cls R=some m:=h1
 rw[h1']
 exact⟨rfl,by show ¬r.2.2<m;omega⟩
theorem rlv_idem(cls:List Cl)(lv:Int)(R:List Slo):rlv cls (rlv cls lv R) R=rlv cls lv R:=by
 unfold rlv
 cases lst cls R<;>rfl
theorem rlv_fz{cls:List Cl}{lv t:Int}{R:List Slo}(h:(lst cls R).isSome=true):rlv cls (lv+t) (R.map (fz cls t))=rlv cls lv R+t:=by
 unfold rlv
 rw[lst_fz]
 cases ho:lst cls R with
 | none=>rw[ho]at h;cases h
 | some m=>rfl
theorem rlv_some{cls:List Cl}{lv:Int}{R:List Slo}(h:(lst cls R).isSome=true):rlv cls lv R=(lst cls R).getD 0:=by
 unfold rlv
 cases ho:lst cls R with
 | none=>rw[ho]at h;cases h
 | some m=>rfl
theorem rlv_none{cls:List Cl}{lv:Int}{R:List Slo}(h:(lst cls R).isSome=false):rlv cls lv R=lv:=by
 unfold rlv
 cases ho:lst cls R with
 | none=>rfl
 | some m=>rw[ho]at h;cases h
theorem lst_mem(cls:List Cl){B:Int}:∀(R:List Slo)(o:Option Int),Sm B R→(∀m,o=some m→-B≤m∧m≤B)→∀m,R.foldl (ls1 cls) o=some m→-B≤m∧m≤B
 | [],o,_,ho,m,h=>ho m h
 | r::R,o,hR,ho,m,h=>by
  refine lst_mem cls R (ls1 cls o r) (fun q hq=>hR q (List.mem_cons_of_mem _ hq)) (fun k hk=>?_) m h
  have hr:=hR r (List.mem_cons_self)
  unfold ls1 at hk
  by_cases hb:bz cls r=true
  ·rw[if_pos hb]at hk
   cases hk
   cases o with
   | none=>exact hr
   | some m0 =>
    have:=ho m0 rfl
    show -B≤min m0 r.2.2∧min m0 r.2.2≤B
    omega
  ·rw[if_neg hb]at hk
   exact ho k hk
theorem rlv_b{cls:List Cl}{lv B:Int}{R:List Slo}(hl:-B≤lv∧lv≤B)(hR:Sm B R):-B≤rlv cls lv R∧rlv cls lv R≤B:=by
 unfold rlv
 cases ho:lst cls R with
 | none=>exact hl
 | some m=>exact lst_mem cls R none hR (fun _ h=>by cases h) m ho
theorem Sm.fz{cls:List Cl}{B t C:Int}{R:List Slo}(h:Sm B R)(ht:-C≤t∧t≤C):Sm (B+C) (R.map (fz cls t)):=fun q hq=>by
 obtain⟨r,hr,rfl⟩:=List.mem_map.1 hq
 have:=h r hr
 unfold Tab.fz
 split
 ·show -(B+C)≤r.2.2+t∧r.2.2+t≤B+C
  omega
 ·omega
theorem Sm.le{B C:Int}{R:List Slo}(h:Sm B R)(hBC:B≤C):Sm C R:=fun r hr=>by
 have:=h r hr
 omega
theorem Sm.small{n:Nat}(R:List Slo):Sm 1000 (R.map (smS n)):=fun q hq=>by
 obtain⟨r,hr,rfl⟩:=List.mem_map.1 hq
 show -1000≤r.2.2.tmod 1000∧r.2.2.tmod 1000≤1000
 have h1:=Int.tmod_lt_of_pos r.2.2 (show (0:Int)<1000 by decide)
 have h2:=Int.tmod_lt_of_pos (-r.2.2) (show (0:Int)<1000 by decide)
 rw[Int.neg_tmod]at h2
 omega
structure W26(fr:PT)(a b ls:Int)(is:Bool):Prop where
 f4:fr.get 4=.ptr 1 0 0
 f7:fr.get 7=.ptr 3 0 0
 f9:fr.get 9=iv a
 f10:fr.get 10=iv b
 f11:fr.get 11=.ptr 4 0 0
 f12:fr.get 12=iv ls
 f13:fr.get 13=bv is
theorem W26.of{fr fr':PT}{a b ls:Int}{is:Bool}(F:W26 fr a b ls is)(h:∀d,(d=4∨d=7∨d=9∨d=10∨d=11∨d=12∨d=13)→fr'.get d=fr.get d):W26 fr' a b ls is :=
 ⟨by rw[h 4 (by simp),F.f4],by rw[h 7 (by simp),F.f7],by rw[h 9 (by simp),F.f9],by rw[h 10 (by simp),F.f10],by rw[h 11 (by simp),F.f11],by rw[h 12 (by simp),F.f12],by rw[h 13 (by simp),F.f13]⟩
section
variable {cv ov pv qv:AV} {cls:List Cl} {lv lv1 dp a b:Int} {md ab:ABlock}
abbrev hp26(md ab:ABlock)(cv ov pv qv:AV)(lv lv1 dp:Int)(R:List Slo)(L:Hp):Hp:=md::staB lv dp R::ab::fctB cv ov pv qv::staB lv1 dp R::L
noncomputable abbrev bo26:Code:=(.seq (.seq (.region 11 g26_11 false) (.cond (.tmp 64) .skip (.exit 0))) (.seq (.block 1 (.seq (.region 13 g26_12 true) (.cond (.tmp 96) (.seq (.region 14 g26_13 false) .ret) .skip))) (.region 12 g26_14 false)))
theorem st26(h:FtOk cv ov pv qv cls){R:List Slo}(hl:R.length=16){i:Nat}(hi:i<16){fr:PT}(F:W26 fr a b ((lst cls R).getD 0) (lst cls R).isSome)(f14:fr.get 14=iv i):
  ∃fr',ex cx D 0 26 205 bo26 fr (hp26 md ab cv ov pv qv lv lv1 dp R [])=some (.normal,fr',hp26 md ab cv ov pv qv lv lv1 dp R [])∧W26 fr' a b ((lst cls R).getD 0) (lst cls R).isSome∧fr'.get 14=iv (i+1:Nat):=by
 obtain⟨_,h1⟩:=h.o
 obtain⟨_,h2⟩:=h.p
 obtain⟨_,h3⟩:=h.q
 have hlt:(i:Int)<16:=by omega
 have w3:=wrap_succ (show i≤1000 by omega)
 obtain⟨r,hr⟩:∃r,R[i]?=some r:=⟨_,List.getElem?_eq_getElem (by omega)⟩
 have b1:=at120 (b:=1) hi
 have b4:=at120 (b:=4) hi
 have hlen:=stC_len (lv:=lv) (dp:=dp) hl
 have hlen1:=stC_len (lv:=lv1) (dp:=dp) hl
 have hle:2+i*3+3≤50:=by omega
 have hat:=stC_at (lv:=lv) (dp:=dp) hr
 have hat1:=stC_at (lv:=lv1) (dp:=dp) hr
 have hpr:=stC_prio (lv:=lv) (dp:=dp) hr
 have hbz:=busy_ok h r
 have hne:=sl_neq r r
 rw[decide_eq_true rfl]at hne
 have hls:=lst_le cls (R:=R) (List.mem_of_getElem? hr)
 obtain⟨fr1,p1,F1,k14⟩:∃fr1,ex cx D 0 26 205 (.seq (.region 11 g26_11 false) (.cond (.tmp 64) .skip (.exit 0))) fr (hp26 md ab cv ov pv qv lv lv1 dp R [])=some (.normal,fr1,hp26 md ab cv ov pv qv lv lv1 dp R [])∧W26 fr1 a b ((lst cls R).getD 0) (lst cls R).isSome∧fr1.get 14=iv i:=by
  simp -implicitDefEqProofs (maxDischargeDepth:=4) only[go_sem,f14,hlt]
  exact⟨_,rfl,F.of fun d hd=>by rcases hd with rfl | rfl | rfl | rfl | rfl | rfl | rfl<;>simp only[go_sem],by simp only[go_sem,f14]⟩
 generalize (lst cls R).getD 0=ls at *
 generalize (lst cls R).isSome=is at *
 obtain⟨fr2,p2,F2,m14,m96⟩:∃fr2,ex cx D 0 26 205 (.region 13 g26_12 true) fr1 (hp26 md ab cv ov pv qv lv lv1 dp R [])=some (.normal,fr2,hp26 md ab cv ov pv qv lv lv1 dp R [])∧W26 fr2 a b ls is∧fr2.get 14=iv i∧fr2.get 96=bv false:=by
  unfold hp26 staB
  generalize stC lv dp R=S at *
  generalize stC lv1 dp R=S1 at *
  unfold slC at hat hat1 hbz hne
  cases hz:bz cls r with
  | false =>
   rw[hz]at hbz
   simp -implicitDefEqProofs (maxDischargeDepth:=4) only[go_sem,F1.f4,F1.f7,F1.f11,F1.f12,F1.f13,k14,h.c.shr,h1.shr,h2.shr,h3.shr,h.c.shut0,h1.shut0,h2.shut0,h3.shut0,b1,b4,hlen,hlen1,hle,hat,hat1,hne,hbz,Bool.not_true,nbeq,Nat.zero_le,Nat.le_refl,Nat.not_lt_zero]
   exact⟨_,rfl,F1.of fun d hd=>by rcases hd with rfl | rfl | rfl | rfl | rfl | rfl | rfl<;>simp only[go_sem],by simp only[go_sem,k14],by simp only[go_sem]⟩
  | true =>
   rw[hz]at hbz
   obtain⟨hs,hp⟩:=hls hz
   subst hs
   simp -implicitDefEqProofs (maxDischargeDepth:=4) only[go_sem,F1.f4,F1.f7,F1.f11,F1.f12,F1.f13,k14,h.c.shr,h1.shr,h2.shr,h3.shr,h.c.shut0,h1.shut0,h2.shut0,h3.shut0,b1,b4,hlen,hlen1,hle,hat,hat1,hne,hbz,hpr,hp,u_not,Bool.not_true,nbeq,Nat.zero_le,Nat.le_refl,Nat.not_lt_zero]
   exact⟨_,rfl,F1.of fun d hd=>by rcases hd with rfl | rfl | rfl | rfl | rfl | rfl | rfl<;>simp only[go_sem],by simp only[go_sem,k14],by simp only[go_sem]⟩
 obtain⟨fr3,p3,F3,n14⟩:∃fr3,ex cx D 0 26 205 (.region 12 g26_14 false) fr2 (hp26 md ab cv ov pv qv lv lv1 dp R [])=some (.normal,fr3,hp26 md ab cv ov pv qv lv lv1 dp R [])∧W26 fr3 a b ls is∧fr3.get 14=iv (i+1:Nat):=by
  simp -implicitDefEqProofs (maxDischargeDepth:=4) only[go_sem,m14,w3]
  exact⟨_,rfl,F2.of fun d hd=>by rcases hd with rfl | rfl | rfl | rfl | rfl | rfl | rfl<;>simp only[go_sem],by simp only[go_sem]⟩
 have eb:ex cx D 0 26 205 (.block 1 (.seq (.region 13 g26_12 true) (.cond (.tmp 96) (.seq (.region 14 g26_13 false) .ret) .skip))) fr1 (hp26 md ab cv ov pv qv lv lv1 dp R [])=some (.normal,fr2,hp26 md ab cv ov pv qv lv lv1 dp R []):=by
  rw[x_block,x_cont1 p2]
  simp -implicitDefEqProofs (maxDischargeDepth:=4) only[go_sem,m96]
 exact⟨fr3,by rw[x_cont1 p1,x_cont1 eb,p3],F3,n14⟩
theorem lo26(h:FtOk cv ov pv qv cls){R:List Slo}(hl:R.length=16):∀(d i:Nat)(fr:PT),16-i=d→i≤16→W26 fr a b ((lst cls R).getD 0) (lst cls R).isSome→fr.get 14=iv i→
  ∃fr',D.loop 0 26 205 l26_0 fr (hp26 md ab cv ov pv qv lv lv1 dp R [])=some (.exit 0,fr',hp26 md ab cv ov pv qv lv lv1 dp R [])∧W26 fr' a b ((lst cls R).getD 0) (lst cls R).isSome
 | 0,i,fr,hd,hi,F,f14=>by
  have hlt:¬((i:Int)<16):=by omega
  rw[dl26_0]
  simp -implicitDefEqProofs (maxDischargeDepth:=4) only[go_sem,f14,hlt]
  exact⟨_,rfl,F.of fun d hd=>by rcases hd with rfl | rfl | rfl | rfl | rfl | rfl | rfl<;>simp only[go_sem]⟩
 | d+1,i,fr,hd,hi,F,f14=>by
  obtain⟨fr1,p1,F1,k14⟩:=st26 (lv:=lv) (lv1:=lv1) (dp:=dp) (md:=md) (ab:=ab) h hl (show i<16 by omega) F f14
  obtain⟨fr2,p2,F2⟩:=lo26 h hl d (i+1) fr1 (by omega) (by omega) F1 k14
  refine⟨fr2,?_,F2⟩
  rw[dl26_0,show ex cx (den cx) 0 26 205 bo26 fr (hp26 md ab cv ov pv qv lv lv1 dp R [])=_ from p1,xbind_some,contR_normal,trimmed_l (n:=(hp26 md ab cv ov pv qv lv lv1 dp R []).length) (H:=hp26 md ab cv ov pv qv lv lv1 dp R []) rfl]
  exact p2
end
open Go.Gr
section
variable {cv ov pv qv:AV} {cls:List Cl} {lv dp a b:Int} {md ab:ABlock} {R:List Slo}
theorem sh_is{lv lv' dp t:Int}{R R':List Slo}(ht:lv'-lv=t)(hR:R.map (fz cls t)=R'):shOk cls lv dp R lv' dp R'=true∧shN cls lv dp R lv' dp R'=t:=by
 have h:shOk cls lv dp R lv' dp R'=true:=by
  unfold shOk
  rw[ht,hR,decide_eq_true rfl,decide_eq_true rfl];rfl
 refine⟨h,?_⟩
 unfold shN
 rw[if_pos h,ht]
theorem fmc_q{g:FuncId}{vs:List AV}{H H':Hp}(hp:cx.pol.pure g=true)(hs:vs.all shut1=false):fmCall cx H H' (.fn g []) vs=.rdAll:=by
 simp[fmCall,way,hp,hs]
theorem fm92{H H':Hp}:fmCall cx H H' (.fn 92 []) [.tup [],.tup []]=.rdAll:=fmc_q pu92 rfl
theorem fm89{H H':Hp}:fmCall cx H H' (.fn 89 []) [.tup [],.tup []]=.rdAll:=fmc_q pu89 rfl
theorem fm93{H H':Hp}:fmCall cx H H' (.fn 93 []) [.tup [],.tup [],.tup []]=.rdAll:=fmc_q pu93 rfl
theorem D26f(h:FtOk cv ov pv qv cls)(hl:R.length=16)(his:(lst cls R).isSome=false){fr:PT}(F:W26 fr a b ((lst cls R).getD 0) (lst cls R).isSome):
  ∃fr',ex cx D 0 26 205 (.seq (.region 15 g26_15 true) (.cond (.tmp 121) (.seq (.region 16 g26_16 false) .ret) .skip)) fr (hp26 md ab cv ov pv qv lv (rlv cls lv R) dp R [])=some (.normal,fr',hp26 md ab cv ov pv qv lv (rlv cls lv R) dp R [])∧W26 fr' a b ((lst cls R).getD 0) (lst cls R).isSome:=by
 obtain⟨_,h1⟩:=h.o
 obtain⟨_,h2⟩:=h.p
 obtain⟨_,h3⟩:=h.q
 have hra:=raise_ok (lv:=rlv cls lv R) (dp:=dp) h hl
 rw[rlv_idem]at hra
 have hs1:=ssame_ok (lv:=rlv cls lv R) (lv':=lv) (dp:=dp) (dp':=dp) hl hl
 have hs2:=ssame_ok (lv:=rlv cls lv R) (lv':=rlv cls lv R) (dp:=dp) (dp':=dp) hl hl
 rw[decide_eq_true ⟨rfl,rfl,rfl⟩]at hs2
 have hlen:=stC_len (lv:=lv) (dp:=dp) hl
 have hlen1:=stC_len (lv:=rlv cls lv R) (dp:=dp) hl
 have hsh:=stC_shr lv dp R
 have hsh1:=stC_shr (rlv cls lv R) dp R
 have hu:=stC_shut lv dp R
 have hu1:=stC_shut (rlv cls lv R) dp R
 have ht:(stC lv dp R).take 50=stC lv dp R:=List.take_of_length_le (by omega)
 have ht1:(stC (rlv cls lv R) dp R).take 50=stC (rlv cls lv R) dp R:=List.take_of_length_le (by omega)
 have hno:rlv cls lv R=lv:=rlv_none his
 rw[hno]at hra hs1 hs2 hlen1 hsh1 hu1 ht1 ⊢
 rw[decide_eq_true ⟨rfl,rfl,rfl⟩]at hs1
 have k13:=F.f13
 rw[his]at k13
 unfold hp26 staB
 generalize stC lv dp R=S at *
 simp -implicitDefEqProofs (maxDischargeDepth:=4) only[go_sem,F.f4,F.f7,F.f11,F.f12,k13,h.c.shr,h1.shr,h2.shr,h3.shr,h.c.shut0,h1.shut0,h2.shut0,h3.shut0,hra,hs1,hlen,hsh,hu,ht,u_not,Bool.not_true,Bool.not_false,nbeq,Nat.zero_le,Nat.le_refl,Nat.not_lt_zero]
 exact⟨_,rfl,F.of fun d hd=>by rcases hd with rfl | rfl | rfl | rfl | rfl | rfl | rfl<;>simp only[go_sem]⟩
theorem D26t(h:FtOk cv ov pv qv cls)(hl:R.length=16)(his:(lst cls R).isSome=true){fr:PT}(F:W26 fr a b ((lst cls R).getD 0) (lst cls R).isSome):
  ∃fr',ex cx D 0 26 205 (.seq (.region 15 g26_15 true) (.cond (.tmp 121) (.seq (.region 16 g26_16 false) .ret) .skip)) fr (hp26 md ab cv ov pv qv lv (rlv cls lv R) dp R [])=some (.normal,fr',hp26 md ab cv ov pv qv lv (rlv cls lv R) dp R [])∧W26 fr' a b ((lst cls R).getD 0) (lst cls R).isSome:=by
 obtain⟨_,h1⟩:=h.o
 obtain⟨_,h2⟩:=h.p
 obtain⟨_,h3⟩:=h.q
 have hra:=raise_ok (lv:=rlv cls lv R) (dp:=dp) h hl
 rw[rlv_idem]at hra
 have hs1:=ssame_ok (lv:=rlv cls lv R) (lv':=lv) (dp:=dp) (dp':=dp) hl hl
 have hs2:=ssame_ok (lv:=rlv cls lv R) (lv':=rlv cls lv R) (dp:=dp) (dp':=dp) hl hl
 rw[decide_eq_true ⟨rfl,rfl,rfl⟩]at hs2
 have hlen:=stC_len (lv:=lv) (dp:=dp) hl
 have hlen1:=stC_len (lv:=rlv cls lv R) (dp:=dp) hl
 have hsh:=stC_shr lv dp R
 have hsh1:=stC_shr (rlv cls lv R) dp R
 have hu:=stC_shut lv dp R
 have hu1:=stC_shut (rlv cls lv R) dp R
 have ht:(stC lv dp R).take 50=stC lv dp R:=List.take_of_length_le (by omega)
 have ht1:(stC (rlv cls lv R) dp R).take 50=stC (rlv cls lv R) dp R:=List.take_of_length_le (by omega)
 have hz1:(stC (rlv cls lv R) dp R)[0]?=some (iv (rlv cls lv R)):=rfl
 have hsm:rlv cls lv R=(lst cls R).getD 0:=rlv_some his
 have k12:=F.f12
 have k13:=F.f13
 rw[his]at k13
 rw[←hsm]at k12
 unfold hp26 staB
 generalize rlv cls lv R=lv1 at *
 generalize stC lv dp R=S at *
 generalize stC lv1 dp R=S1 at *
 simp -implicitDefEqProofs (maxDischargeDepth:=4) only[go_sem,F.f4,F.f7,F.f11,k12,k13,h.c.shr,h1.shr,h2.shr,h3.shr,h.c.shut0,h1.shut0,h2.shut0,h3.shut0,hra,hs2,hlen1,hsh1,hu1,ht1,hz1,fm92,u_not,Bool.not_true,Bool.not_false,nbeq,Nat.zero_le,Nat.le_refl,Nat.not_lt_zero]
 exact⟨_,rfl,F.of fun d hd=>by rcases hd with rfl | rfl | rfl | rfl | rfl | rfl | rfl<;>simp only[go_sem]⟩
theorem D26(h:FtOk cv ov pv qv cls)(hl:R.length=16){fr:PT}(F:W26 fr a b ((lst cls R).getD 0) (lst cls R).isSome):
  ∃fr',ex cx D 0 26 205 (.seq (.region 15 g26_15 true) (.cond (.tmp 121) (.seq (.region 16 g26_16 false) .ret) .skip)) fr (hp26 md ab cv ov pv qv lv (rlv cls lv R) dp R [])=some (.normal,fr',hp26 md ab cv ov pv qv lv (rlv cls lv R) dp R [])∧W26 fr' a b ((lst cls R).getD 0) (lst cls R).isSome:=by
 cases his:(lst cls R).isSome with
 | false =>
  have:=D26f (lv:=lv) (dp:=dp) (a:=a) (b:=b) (md:=md) (ab:=ab) h hl his F
  rw[his]at this
  exact this
 | true =>
  have:=D26t (lv:=lv) (dp:=dp) (a:=a) (b:=b) (md:=md) (ab:=ab) h hl his F
  rw[his]at this
  exact this
theorem E26(h:FtOk cv ov pv qv cls)(hl:R.length=16)(hv:-1000≤lv∧lv≤1000)(hb:Sm 1000 R)(ha:-500≤a∧a≤500){fr:PT}(F:W26 fr a b ((lst cls R).getD 0) (lst cls R).isSome):
  ∃fr',ex cx D 0 26 205 (.seq (.region 17 g26_17 false) (.seq (.region 18 g26_18 true) (.cond (.tmp 137) (.seq (.region 19 g26_19 false) .ret) .skip))) fr (hp26 md ab cv ov pv qv lv (rlv cls lv R) dp R [])=some (.normal,fr',hp26 md ab cv ov pv qv lv (rlv cls lv R) dp R [staB (lv+a) dp (R.map (fz cls a))])∧W26 fr' a b ((lst cls R).getD 0) (lst cls R).isSome∧fr'.get 15=.ptr 5 0 0:=by
 obtain⟨_,h1⟩:=h.o
 obtain⟨_,h2⟩:=h.p
 obtain⟨_,h3⟩:=h.q
 have hv1:=rlv_b hv hb (cls:=cls)
 have hlm:(R.map (fz cls a)).length=16:=by rw[List.length_map,hl]
 have hf1:=further_ok (lv:=lv) (dp:=dp) (t:=a) h hl (by omega) (hb.le (by decide)) (by omega)
 have hf2:=further_ok (lv:=rlv cls lv R) (dp:=dp) (t:=a) h hl (by omega) (hb.le (by decide)) (by omega)
 have hra:=raise_ok (lv:=lv+a) (dp:=dp) h hlm
 have hs:=ssame_ok (lv:=rlv cls lv R+a) (lv':=rlv cls lv R+a) (dp:=dp) (dp':=dp) hlm hlm
 rw[decide_eq_true ⟨rfl,rfl,rfl⟩]at hs
 have hrf:(lst cls R).isSome=true→rlv cls (lv+a) (R.map (fz cls a))=rlv cls lv R+a:=rlv_fz
 have hlen:=stC_len (lv:=lv) (dp:=dp) hl
 have hlen1:=stC_len (lv:=rlv cls lv R) (dp:=dp) hl
 have hlen2:=stC_len (lv:=lv+a) (dp:=dp) hlm
 have hlen3:=stC_len (lv:=rlv cls lv R+a) (dp:=dp) hlm
 have hsh:=stC_shr lv dp R
 have hsh1:=stC_shr (rlv cls lv R) dp R
 have hsh2:=stC_shr (lv+a) dp (R.map (fz cls a))
 have hu:=stC_shut lv dp R
 have hu1:=stC_shut (rlv cls lv R) dp R
 have hu2:=stC_shut (lv+a) dp (R.map (fz cls a))
 have hu3:=stC_shut (rlv cls lv R+a) dp (R.map (fz cls a))
 have ht:(stC lv dp R).take 50=stC lv dp R:=List.take_of_length_le (by omega)
 have ht1:(stC (rlv cls lv R) dp R).take 50=stC (rlv cls lv R) dp R:=List.take_of_length_le (by omega)
 have ht2:(stC (lv+a) dp (R.map (fz cls a))).take 50=stC (lv+a) dp (R.map (fz cls a)):=List.take_of_length_le (by omega)
 have hz:(stC 0 0 zR).length=50:=stC_len rfl
 obtain⟨fr1,p1,F1,k15⟩:∃fr1,ex cx D 0 26 205 (.region 17 g26_17 false) fr (hp26 md ab cv ov pv qv lv (rlv cls lv R) dp R [])=some (.normal,fr1,hp26 md ab cv ov pv qv lv (rlv cls lv R) dp R [staB (lv+a) dp (R.map (fz cls a))])∧W26 fr1 a b ((lst cls R).getD 0) (lst cls R).isSome∧fr1.get 15=.ptr 5 0 0:=by
  unfold hp26 staB
  generalize (lst cls R).getD 0=ls at *
  generalize (lst cls R).isSome=is at *
  generalize stC lv dp R=S at *
  generalize stC (lv+a) dp (R.map (fz cls a))=X at *
  simp -implicitDefEqProofs (maxDischargeDepth:=4) only[go_sem,F.f4,F.f7,F.f9,h.c.shr,h1.shr,h2.shr,h3.shr,h.c.shut0,h1.shut0,h2.shut0,h3.shut0,hf1,hlen,hlen2,hsh,hsh2,hu,hu2,ht,ht2,ze122,hz,Nat.zero_le,Nat.le_refl,Nat.not_lt_zero]
  exact⟨_,rfl,F.of fun d hd=>by rcases hd with rfl | rfl | rfl | rfl | rfl | rfl | rfl<;>simp only[go_sem],by simp only[go_sem]⟩
 obtain⟨fr2,p2,F2,m15⟩:∃fr2,ex cx D 0 26 205 (.seq (.region 18 g26_18 true) (.cond (.tmp 137) (.seq (.region 19 g26_19 false) .ret) .skip)) fr1 (hp26 md ab cv ov pv qv lv (rlv cls lv R) dp R [staB (lv+a) dp (R.map (fz cls a))])=some (.normal,fr2,hp26 md ab cv ov pv qv lv (rlv cls lv R) dp R [staB (lv+a) dp (R.map (fz cls a))])∧W26 fr2 a b ((lst cls R).getD 0) (lst cls R).isSome∧fr2.get 15=.ptr 5 0 0:=by
  unfold hp26 staB
  generalize (lst cls R).getD 0=ls at *
  generalize (lst cls R).isSome=is at *
  cases is with
  | false =>
   simp -implicitDefEqProofs (maxDischargeDepth:=4) only[go_sem,F1.f7,F1.f9,F1.f11,F1.f13,k15,fm89,fm92,fm93,nbeq,Nat.zero_le,Nat.le_refl,Nat.not_lt_zero]
   exact⟨_,rfl,F1.of fun d hd=>by rcases hd with rfl | rfl | rfl | rfl | rfl | rfl | rfl<;>simp only[go_sem],by simp only[go_sem,k15]⟩
  | true =>
   rw[hrf rfl]at hra
   generalize stC lv dp R=S at *
   generalize stC (rlv cls lv R+a) dp (R.map (fz cls a))=Y at *
   generalize stC (lv+a) dp (R.map (fz cls a))=X at *
   generalize stC (rlv cls lv R) dp R=S1 at *
   simp -implicitDefEqProofs (maxDischargeDepth:=4) only[go_sem,F1.f7,F1.f9,F1.f11,F1.f13,k15,h.c.shr,h1.shr,h2.shr,h3.shr,h.c.shut0,h1.shut0,h2.shut0,h3.shut0,hf2,hra,hs,hlen1,hlen2,hsh1,hsh2,hu1,hu2,hu3,ht1,ht2,u_not,Bool.not_true,nbeq,Nat.zero_le,Nat.le_refl,Nat.not_lt_zero]
   exact⟨_,rfl,F1.of fun d hd=>by rcases hd with rfl | rfl | rfl | rfl | rfl | rfl | rfl<;>simp only[go_sem],by simp only[go_sem,k15]⟩
 exact⟨fr2,by rw[x_cont1 p1,p2],F2,m15⟩
end
open Go.Gr
section
variable {cv ov pv qv:AV} {cls:List Cl} {lv dp a b:Int} {md ab:ABlock} {R:List Slo}
theorem F26(h:FtOk cv ov pv qv cls)(hl:R.length=16)(hv:-1000≤lv∧lv≤1000)(hb:Sm 1000 R)(ha:-500≤a∧a≤500)(hbb:-500≤b∧b≤500){ls:Int}{is:Bool}{fr:PT}{lv1:Int}(F:W26 fr a b ls is)(k15:fr.get 15=.ptr 5 0 0):
  ∃fr',ex cx D 0 26 205 (.seq (.region 20 g26_20 false) (.seq (.region 21 g26_21 true) (.seq (.region 22 g26_22 true) (.seq (.region 23 g26_23 false) (.seq (.region 24 g26_24 false) .ret))))) fr (hp26 md ab cv ov pv qv lv lv1 dp R [staB (lv+a) dp (R.map (fz cls a))])=some (.ret,fr',hp26 md ab cv ov pv qv lv lv1 dp R [staB (lv+a) dp (R.map (fz cls a))])∧fr'.get 6=bv true:=by
 obtain⟨_,h1⟩:=h.o
 obtain⟨_,h2⟩:=h.p
 obtain⟨_,h3⟩:=h.q
 have hlm:(R.map (fz cls a)).length=16:=by rw[List.length_map,hl]
 have hlm2:(R.map (fz cls (a+b))).length=16:=by rw[List.length_map,hl]
 have hbm:Sm 1500 (R.map (fz cls a)):=Sm.fz (C:=500) hb ha
 have hf:=further_ok (lv:=lv+a) (dp:=dp) (t:=b) h hlm (by omega) (hbm.le (by decide)) (by omega)
 rw[map_fz_fz,show lv+a+b=lv+(a+b) by omega]at hf
 have s1:=shift_ok (lv:=lv) (dp:=dp) (lv':=lv+a) (dp':=dp) h hl hlm (by omega) (by omega) (hb.le (by decide))
 obtain⟨q1,q2⟩:=sh_is (cls:=cls) (lv:=lv) (lv':=lv+a) (dp:=dp) (t:=a) (R:=R) (by omega) rfl
 rw[q1,q2]at s1
 have s2:=shift_ok (lv:=lv+a) (dp:=dp) (lv':=lv+(a+b)) (dp':=dp) h hlm hlm2 (by omega) (by omega) (hbm.le (by decide))
 obtain⟨q1,q2⟩:=sh_is (cls:=cls) (lv:=lv+a) (lv':=lv+(a+b)) (dp:=dp) (t:=b) (R:=R.map (fz cls a)) (R':=R.map (fz cls (a+b))) (by omega) (map_fz_fz cls a b R)
 rw[q1,q2]at s2
 have s3:=shift_ok (lv:=lv) (dp:=dp) (lv':=lv+(a+b)) (dp':=dp) h hl hlm2 (by omega) (by omega) (hb.le (by decide))
 obtain⟨q1,q2⟩:=sh_is (cls:=cls) (lv:=lv) (lv':=lv+(a+b)) (dp:=dp) (t:=a+b) (R:=R) (by omega) rfl
 rw[q1,q2]at s3
 have s4:=shift_ok (lv:=lv+a) (dp:=dp) (lv':=lv) (dp':=dp) h hlm hl (by omega) (by omega) (hbm.le (by decide))
 obtain⟨q1,q2⟩:=sh_is (cls:=cls) (lv:=lv+a) (lv':=lv) (dp:=dp) (t:=-a) (R:=R.map (fz cls a)) (R':=R) (by omega) (by rw[map_fz_fz,show a + -a=0 by omega,map_fz_zero])
 rw[q1,q2]at s4
 have hlen:=stC_len (lv:=lv) (dp:=dp) hl
 have hlen2:=stC_len (lv:=lv+a) (dp:=dp) hlm
 have hsh:=stC_shr lv dp R
 have hsh2:=stC_shr (lv+a) dp (R.map (fz cls a))
 have hsh3:=stC_shr (lv+(a+b)) dp (R.map (fz cls (a+b)))
 have hu:=stC_shut lv dp R
 have hu2:=stC_shut (lv+a) dp (R.map (fz cls a))
 have hu3:=stC_shut (lv+(a+b)) dp (R.map (fz cls (a+b)))
 have ht:(stC lv dp R).take 50=stC lv dp R:=List.take_of_length_le (by omega)
 have ht2:(stC (lv+a) dp (R.map (fz cls a))).take 50=stC (lv+a) dp (R.map (fz cls a)):=List.take_of_length_le (by omega)
 have w1:wrapK .i64 (a+b)=a+b:=wrap_small (by omega) (by omega)
 have w2:wrapK .i64 (0-a) = -a:=by rw[wrap_small (by omega) (by omega)];omega
 unfold hp26 staB
 generalize stC lv dp R=S at *
 generalize stC (lv+a) dp (R.map (fz cls a))=X at *
 generalize stC (lv+(a+b)) dp (R.map (fz cls (a+b)))=Y at *
 generalize stC lv1 dp R=S1 at *
 obtain⟨fr1,p1,F1,m15,m16,m17⟩:∃fr1,ex cx D 0 26 205 (.region 20 g26_20 false) fr (md :: .cells 50 122 [.agg S]::ab::fctB cv ov pv qv :: .cells 50 122 [.agg S1]::[.cells 50 122 [.agg X]])=some (.normal,fr1,md :: .cells 50 122 [.agg S]::ab::fctB cv ov pv qv :: .cells 50 122 [.agg S1]::[.cells 50 122 [.agg X]])∧W26 fr1 a b ls is∧fr1.get 15=.ptr 5 0 0∧fr1.get 16=iv a∧fr1.get 17=bv true:=by
  simp -implicitDefEqProofs (maxDischargeDepth:=4) only[go_sem,F.f4,F.f7,k15,h.c.shr,h1.shr,h2.shr,h3.shr,h.c.shut0,h1.shut0,h2.shut0,h3.shut0,s1,hlen,hlen2,hsh,hsh2,hu,hu2,ht,ht2,Nat.zero_le,Nat.le_refl,Nat.not_lt_zero]
  exact⟨_,rfl,F.of fun d hd=>by rcases hd with rfl | rfl | rfl | rfl | rfl | rfl | rfl<;>simp only[go_sem],by simp only[go_sem,k15],by simp only[go_sem],by simp only[go_sem]⟩
 obtain⟨fr2,p2,F2,n15,n16,n17,n18,n19⟩:∃fr2,ex cx D 0 26 205 (.region 21 g26_21 true) fr1 (md :: .cells 50 122 [.agg S]::ab::fctB cv ov pv qv :: .cells 50 122 [.agg S1]::[.cells 50 122 [.agg X]])=some (.normal,fr2,md :: .cells 50 122 [.agg S]::ab::fctB cv ov pv qv :: .cells 50 122 [.agg S1]::[.cells 50 122 [.agg X]])∧W26 fr2 a b ls is∧fr2.get 15=.ptr 5 0 0∧fr2.get 16=iv a∧fr2.get 17=bv true∧fr2.get 18=iv b∧fr2.get 19=bv true:=by
  simp -implicitDefEqProofs (maxDischargeDepth:=4) only[go_sem,F1.f4,F1.f7,F1.f10,m15,h.c.shr,h1.shr,h2.shr,h3.shr,h.c.shut0,h1.shut0,h2.shut0,h3.shut0,hf,s2,hlen,hlen2,hsh,hsh2,hsh3,hu,hu2,hu3,ht,ht2,nbeq,Nat.zero_le,Nat.le_refl,Nat.not_lt_zero]
  exact⟨_,rfl,F1.of fun d hd=>by rcases hd with rfl | rfl | rfl | rfl | rfl | rfl | rfl<;>simp only[go_sem],by simp only[go_sem,m15],by simp only[go_sem,m16],by simp only[go_sem,m17],by simp only[go_sem],by simp only[go_sem]⟩
 obtain⟨fr3,p3,F3,o15,o16,o17,o18,o19,o20,o21⟩:∃fr3,ex cx D 0 26 205 (.region 22 g26_22 true) fr2 (md :: .cells 50 122 [.agg S]::ab::fctB cv ov pv qv :: .cells 50 122 [.agg S1]::[.cells 50 122 [.agg X]])=some (.normal,fr3,md :: .cells 50 122 [.agg S]::ab::fctB cv ov pv qv :: .cells 50 122 [.agg S1]::[.cells 50 122 [.agg X]])∧W26 fr3 a b ls is∧fr3.get 15=.ptr 5 0 0∧fr3.get 16=iv a∧fr3.get 17=bv true∧fr3.get 18=iv b∧fr3.get 19=bv true∧fr3.get 20=iv (a+b)∧fr3.get 21=bv true:=by
  simp -implicitDefEqProofs (maxDischargeDepth:=4) only[go_sem,F2.f4,F2.f7,F2.f10,n15,h.c.shr,h1.shr,h2.shr,h3.shr,h.c.shut0,h1.shut0,h2.shut0,h3.shut0,hf,s3,hlen,hlen2,hsh,hsh2,hsh3,hu,hu2,hu3,ht,ht2,nbeq,Nat.zero_le,Nat.le_refl,Nat.not_lt_zero]
  exact⟨_,rfl,F2.of fun d hd=>by rcases hd with rfl | rfl | rfl | rfl | rfl | rfl | rfl<;>simp only[go_sem],by simp only[go_sem,n15],by simp only[go_sem,n16],by simp only[go_sem,n17],by simp only[go_sem,n18],by simp only[go_sem,n19],by simp only[go_sem],by simp only[go_sem]⟩
 obtain⟨fr4,p4,F4,u16,u17,u18,u19,u20,u21,u22,u23⟩:∃fr4,ex cx D 0 26 205 (.region 23 g26_23 false) fr3 (md :: .cells 50 122 [.agg S]::ab::fctB cv ov pv qv :: .cells 50 122 [.agg S1]::[.cells 50 122 [.agg X]])=some (.normal,fr4,md :: .cells 50 122 [.agg S]::ab::fctB cv ov pv qv :: .cells 50 122 [.agg S1]::[.cells 50 122 [.agg X]])∧W26 fr4 a b ls is∧fr4.get 16=iv a∧fr4.get 17=bv true∧fr4.get 18=iv b∧fr4.get 19=bv true∧fr4.get 20=iv (a+b)∧fr4.get 21=bv true∧fr4.get 22=iv (-a)∧fr4.get 23=bv true:=by
  simp -implicitDefEqProofs (maxDischargeDepth:=4) only[go_sem,F3.f4,F3.f7,o15,h.c.shr,h1.shr,h2.shr,h3.shr,h.c.shut0,h1.shut0,h2.shut0,h3.shut0,s4,hlen,hlen2,hsh,hsh2,hu,hu2,ht,ht2,Nat.zero_le,Nat.le_refl,Nat.not_lt_zero]
  exact⟨_,rfl,F3.of fun d hd=>by rcases hd with rfl | rfl | rfl | rfl | rfl | rfl | rfl<;>simp only[go_sem],by simp only[go_sem,o16],by simp only[go_sem,o17],by simp only[go_sem,o18],by simp only[go_sem,o19],by simp only[go_sem,o20],by simp only[go_sem,o21],by simp only[go_sem],by simp only[go_sem]⟩
 rw[x_cont1 p1,x_cont1 p2,x_cont1 p3,x_cont1 p4]
 simp -implicitDefEqProofs (maxDischargeDepth:=4) only[go_sem,F4.f9,F4.f10,u16,u17,u18,u19,u20,u21,u22,u23,w1,w2]
 exact⟨_,rfl,by simp only[go_sem]⟩
end
open Go.Gr
section
variable {a p x2 x3 x4 x5 x6 x7:AV} {ns:List Nd} {ts:List AV} {lv dp t0 t1:Int} {R:List Slo}
theorem sl_nl(sz:Nat):Sl sz nl []:=.inr (.inr ⟨rfl,rfl⟩)
theorem at123{b i:Nat}(h:i<2):aindexAddr cx.T 123 (.ptr b 0 0) (iv i)=some (.ptr b 0 i):=by
 rw[aindexAddr_arr (m:=2) (sz:=1) ar123,if_pos h]
 show some (AV.ptr b 0 (0+i*1))=_
 rw[Nat.mul_one,Nat.zero_add]
abbrev arB(t0 t1:Int):ABlock:=.cells 2 123 [.agg [iv t0,iv t1]]
structure V26(fr:PT):Prop where
 f3:fr.get 3=.ptr 0 0 0
 f4:fr.get 4=.ptr 1 0 0
 f5:fr.get 5=.ptr 2 0 0
theorem V26.of{fr fr':PT}(F:V26 fr)(h:∀d,(d=3∨d=4∨d=5)→fr'.get d=fr.get d):V26 fr' :=
 ⟨by rw[h 3 (by simp),F.f3],by rw[h 4 (by simp),F.f4],by rw[h 5 (by simp),F.f5]⟩
theorem A26(ha:Sl 6 a (ns.map nodeV))(hp:Sl 3 p ts)(o:Oth x2 x3 x4 x5 x6 x7)(hl:R.length=16):
  ∃fr',ex cx D 0 26 205 (.seq (.region 0 g26_0 false) (.seq (.region 1 g26_1 false) (.cond (.tmp 25) (.seq (.region 2 g26_2 false) .ret) .skip))) (((PT.nil.set 0 (drp (.agg [a,p,x2,x3,x4,x5,x6,x7]))).set 1 (drp (.agg (stC lv dp R)))).set 2 (drp (.agg [iv t0,iv t1]))) []=some (.normal,fr',[mdB a p x2 x3 x4 x5 x6 x7,staB lv dp R,arB t0 t1])∧V26 fr':=by
 obtain⟨⟨_,_,h2⟩,⟨_,_,h3⟩,⟨_,_,h4⟩,⟨_,_,h5⟩,⟨_,_,h6⟩,⟨_,_,h7⟩⟩:=o
 have hlen:=stC_len (lv:=lv) (dp:=dp) hl
 have hsh:=stC_shr lv dp R
 have hw:=works13_ok
 unfold staB
 generalize stC lv dp R=S at *
 obtain⟨fr0,p0,F0⟩:∃fr0,ex cx D 0 26 205 (.region 0 g26_0 false) (((PT.nil.set 0 (drp (.agg [a,p,x2,x3,x4,x5,x6,x7]))).set 1 (drp (.agg S))).set 2 (drp (.agg [iv t0,iv t1]))) []=some (.normal,fr0,[mdB a p x2 x3 x4 x5 x6 x7,.cells 50 122 [.agg S],arB t0 t1])∧V26 fr0:=by
  simp -implicitDefEqProofs (maxDischargeDepth:=4) only[go_sem,ha.shr,hp.shr,h2.shr,h3.shr,h4.shr,h5.shr,h6.shr,h7.shr,hlen,hsh,Nat.zero_le,Nat.le_refl,Nat.not_lt_zero]
  exact⟨_,rfl,by simp only[go_sem],by simp only[go_sem],by simp only[go_sem]⟩
 rw[x_cont1 p0]
 simp -implicitDefEqProofs (maxDischargeDepth:=4) only[go_sem,hw,Nat.zero_le,Nat.le_refl,Nat.not_lt_zero]
 exact⟨_,rfl,F0.of fun d hd=>by rcases hd with rfl | rfl | rfl<;>simp only[go_sem]⟩
theorem B26e{w q:AV}{os:List Nd}{us:List AV}{e:Int}(h1:pcall D 87 [.agg [a,p,x2,x3,x4,x5,x6,x7]]=some (.agg [w,q,nl,nl,nl,nl,nl,nl]))(hw:Sl 6 w (os.map nodeV))(hq:Sl 3 q us)(h2:pcall D 86 [.agg [w,q,nl,nl,nl,nl,nl,nl]]=some (.tup [.agg [nl,nl,nl,nl],iv e]))(he:e≠0)
  (ha:Sl 6 a (ns.map nodeV)) (hp:Sl 3 p ts) (o:Oth x2 x3 x4 x5 x6 x7) {fr:PT} {A B:ABlock} (F:V26 fr):
  ∃fr' L,ex cx D 0 26 205 (.seq (.region 3 g26_3 false) (.seq (.region 4 g26_4 false) (.cond (.tmp 33) (.seq (.region 5 g26_5 false) .ret) .skip))) fr [mdB a p x2 x3 x4 x5 x6 x7,A,B]=some (.ret,fr',L)∧fr'.get 6=bv true:=by
 obtain⟨⟨_,_,g2⟩,⟨_,_,g3⟩,⟨_,_,g4⟩,⟨_,_,g5⟩,⟨_,_,g6⟩,⟨_,_,g7⟩⟩:=o
 obtain⟨fr1,p1,k7,k8⟩:∃fr1,ex cx D 0 26 205 (.region 3 g26_3 false) fr [mdB a p x2 x3 x4 x5 x6 x7,A,B]=some (.normal,fr1,[mdB a p x2 x3 x4 x5 x6 x7,A,B,.cells 4 126 [.agg [nl,nl,nl,nl]]])∧fr1.get 7=.ptr 3 0 0∧fr1.get 8=iv e:=by
  simp -implicitDefEqProofs (maxDischargeDepth:=4) only[go_sem,F.f3,ha.shr,hp.shr,g2.shr,g3.shr,g4.shr,g5.shr,g6.shr,g7.shr,ha.shut0,hp.shut0,g2.shut0,g3.shut0,g4.shut0,g5.shut0,g6.shut0,g7.shut0,hw.shr,hq.shr,hw.shut0,hq.shut0,h1,h2,Nat.zero_le,Nat.le_refl,Nat.not_lt_zero]
  exact⟨_,rfl,by simp only[go_sem],by simp only[go_sem]⟩
 rw[x_cont1 p1]
 generalize mdB a p x2 x3 x4 x5 x6 x7=md at *
 have e1:alen cx.T 124 [md,A,B,.cells 4 126 [.agg [nl,nl,nl,nl]]] nl=some (iv 0):=alen_sl (sl_nl 1) nk
 have e2:alen cx.T 93 [md,A,B,.cells 4 126 [.agg [nl,nl,nl,nl]]] nl=some (iv 0):=alen_sl (sl_nl 1) nk
 simp -implicitDefEqProofs (maxDischargeDepth:=4) only[go_sem,k7,k8,he,e1,e2,Nat.zero_le,Nat.le_refl,Nat.not_lt_zero]
 exact⟨_,_,rfl,by simp only[go_sem]⟩
theorem B26{w q cv ov pv qv:AV}{cls:List Cl}{os:List Nd}{us:List AV}(h1:pcall D 87 [.agg [a,p,x2,x3,x4,x5,x6,x7]]=some (.agg [w,q,nl,nl,nl,nl,nl,nl]))(hw:Sl 6 w (os.map nodeV))(hq:Sl 3 q us)(h2:pcall D 86 [.agg [w,q,nl,nl,nl,nl,nl,nl]]=some (.tup [.agg (ftC cv ov pv qv),iv 0]))(h:FtOk cv ov pv qv cls)
  (ha:Sl 6 a (ns.map nodeV)) (hp:Sl 3 p ts) (o:Oth x2 x3 x4 x5 x6 x7) {fr:PT} {A B:ABlock} (F:V26 fr):
  ∃fr',ex cx D 0 26 205 (.seq (.region 3 g26_3 false) (.seq (.region 4 g26_4 false) (.cond (.tmp 33) (.seq (.region 5 g26_5 false) .ret) .skip))) fr [mdB a p x2 x3 x4 x5 x6 x7,A,B]=some (.normal,fr',[mdB a p x2 x3 x4 x5 x6 x7,A,B,fctB cv ov pv qv])∧V26 fr'∧fr'.get 7=.ptr 3 0 0:=by
 obtain⟨⟨_,_,g2⟩,⟨_,_,g3⟩,⟨_,_,g4⟩,⟨_,_,g5⟩,⟨_,_,g6⟩,⟨_,_,g7⟩⟩:=o
 obtain⟨_,k1⟩:=h.o
 obtain⟨_,k2⟩:=h.p
 obtain⟨_,k3⟩:=h.q
 simp -implicitDefEqProofs (maxDischargeDepth:=4) only[go_sem,F.f3,ha.shr,hp.shr,g2.shr,g3.shr,g4.shr,g5.shr,g6.shr,g7.shr,ha.shut0,hp.shut0,g2.shut0,g3.shut0,g4.shut0,g5.shut0,g6.shut0,g7.shut0,hw.shr,hq.shr,hw.shut0,hq.shut0,h1,h2,h.c.shr,k1.shr,k2.shr,k3.shr,Nat.zero_le,Nat.le_refl,Nat.not_lt_zero]
 exact⟨_,rfl,F.of fun d hd=>by rcases hd with rfl | rfl | rfl<;>simp only[go_sem],by simp only[go_sem]⟩
theorem C26{cv ov pv qv:AV}{cls:List Cl}(h:FtOk cv ov pv qv cls)(hl:R.length=16){md:ABlock}{fr:PT}(F:V26 fr)(k7:fr.get 7=.ptr 3 0 0):
  ∃fr',ex cx D 0 26 205 (.seq (.region 6 g26_6 false) (.seq (.region 7 g26_7 true) (.seq (.region 8 g26_8 false) (.seq (.region 9 g26_9 false) (.region 10 g26_10 false))))) fr [md,staB lv dp R,arB t0 t1,fctB cv ov pv qv]=some (.normal,fr',hp26 md (arB t0 t1) cv ov pv qv (lv.tmod 1000) (rlv cls (lv.tmod 1000) (R.map (smS cls.length))) dp (R.map (smS cls.length)) [])∧W26 fr' (t0.tmod 501) (t1.tmod 501) ((lst cls (R.map (smS cls.length))).getD 0) (lst cls (R.map (smS cls.length))).isSome∧fr'.get 14=iv (0:Nat):=by
 obtain⟨_,h1⟩:=h.o
 obtain⟨_,h2⟩:=h.p
 obtain⟨_,h3⟩:=h.q
 have hm:=small_ok (lv:=lv) (dp:=dp) h hl
 have hl':(R.map (smS cls.length)).length=16:=by rw[List.length_map,hl]
 generalize R.map (smS cls.length)=R' at *
 generalize lv.tmod 1000=lv' at *
 have hra:=raise_ok (lv:=lv') (dp:=dp) h hl'
 have hle:=least_ok (lv:=lv') (dp:=dp) h hl'
 generalize rlv cls lv' R'=lv1 at *
 have hlen:=stC_len (lv:=lv) (dp:=dp) hl
 have hlen1:=stC_len (lv:=lv') (dp:=dp) hl'
 have hlen2:=stC_len (lv:=lv1) (dp:=dp) hl'
 have hsh:=stC_shr lv dp R
 have hsh1:=stC_shr lv' dp R'
 have hsh2:=stC_shr lv1 dp R'
 have hu:=stC_shut lv dp R
 have hu1:=stC_shut lv' dp R'
 have ht:(stC lv dp R).take 50=stC lv dp R:=List.take_of_length_le (by omega)
 have ht1:(stC lv' dp R').take 50=stC lv' dp R':=List.take_of_length_le (by omega)
 have hd:(stC lv dp R).drop 50=[]:=List.drop_of_length_le (by omega)
 have hz:(stC 0 0 zR).length=50:=stC_len rfl
 generalize (lst cls R').getD 0=ls at *
 generalize (lst cls R').isSome=is at *
 unfold hp26 staB
 generalize stC lv dp R=S at *
 generalize stC lv' dp R'=X at *
 generalize stC lv1 dp R'=Y at *
 obtain⟨fr1,p1,F1,m7⟩:∃fr1,ex cx D 0 26 205 (.region 6 g26_6 false) fr [md,.cells 50 122 [.agg S],arB t0 t1,fctB cv ov pv qv]=some (.normal,fr1,[md,.cells 50 122 [.agg X],arB t0 t1,fctB cv ov pv qv])∧V26 fr1∧fr1.get 7=.ptr 3 0 0:=by
  simp -implicitDefEqProofs (maxDischargeDepth:=4) only[go_sem,F.f4,k7,h.c.shr,h1.shr,h2.shr,h3.shr,h.c.shut0,h1.shut0,h2.shut0,h3.shut0,hm,hlen,hlen1,hsh,hsh1,hu,ht,hd,List.take_zero,List.nil_append,List.append_nil,Nat.zero_le,Nat.le_refl,Nat.not_lt_zero]
  exact⟨_,rfl,F.of fun d hd=>by rcases hd with rfl | rfl | rfl<;>simp only[go_sem],by simp only[go_sem,k7]⟩
 obtain⟨fr2,p2,F2,n7,n9,n10⟩:∃fr2,ex cx D 0 26 205 (.region 7 g26_7 true) fr1 [md,.cells 50 122 [.agg X],arB t0 t1,fctB cv ov pv qv]=some (.normal,fr2,[md,.cells 50 122 [.agg X],arB t0 t1,fctB cv ov pv qv])∧V26 fr2∧fr2.get 7=.ptr 3 0 0∧fr2.get 9=iv (t0.tmod 501)∧fr2.get 10=iv (t1.tmod 501):=by
  have i0:aindexAddr cx.T 123 (.ptr 2 0 0) (iv 0)=some (.ptr 2 0 0):=at123 (i:=0) (by decide)
  have i1:aindexAddr cx.T 123 (.ptr 2 0 0) (iv 1)=some (.ptr 2 0 1):=at123 (i:=1) (by decide)
  simp -implicitDefEqProofs (maxDischargeDepth:=4) only[go_sem,F1.f5,m7,i0,i1,nbeq,Nat.zero_le,Nat.le_refl,Nat.not_lt_zero]
  exact⟨_,rfl,F1.of fun d hd=>by rcases hd with rfl | rfl | rfl<;>simp only[go_sem],by simp only[go_sem,m7],by simp only[go_sem],by simp only[go_sem]⟩
 rw[x_cont1 p1,x_cont1 p2]
 simp -implicitDefEqProofs (maxDischargeDepth:=4) only[go_sem,F2.f4,n7,n9,n10,h.c.shr,h1.shr,h2.shr,h3.shr,h.c.shut0,h1.shut0,h2.shut0,h3.shut0,hra,hle,hlen1,hlen2,hsh1,hsh2,hu1,ht1,ze122,hz,List.drop_nil,Nat.zero_le,Nat.le_refl,Nat.not_lt_zero]
 exact⟨_,rfl,⟨by simp only[go_sem,F2.f4],by simp only[go_sem,n7],by simp only[go_sem,n9],by simp only[go_sem,n10],by simp only[go_sem],by simp only[go_sem],by simp only[go_sem]⟩,by simp only[go_sem];rfl⟩
theorem adds_call(ha:Sl 6 a (ns.map nodeV))(hok:∀x∈ns,NdOk x)(hp:Sl 3 p ts)(ht:∀x∈ts,TmOk x)(o:Oth x2 x3 x4 x5 x6 x7)(hl:R.length=16):
  ∃H',callB cx D 0 26 [.agg [a,p,x2,x3,x4,x5,x6,x7],.agg (stC lv dp R),.agg [iv t0,iv t1]] []=some (bv true,H'):=by
 obtain⟨w,q,os,us,hf,hw,hq,hu4,hus⟩:=few87_ok ha hok hp ht o
 obtain⟨fr0,p0,F0⟩:=A26 (lv:=lv) (dp:=dp) (t0:=t0) (t1:=t1) ha hp o hl
 obtain⟨_,_,q0,q1⟩:=x_split p0
 rw[c26,x_cont1 q0,x_cont1 q1]
 rcases facts_ok hw hq hus hu4 with⟨e,h86,he⟩ | ⟨cv,ov,pv,qv,cls,h86,h⟩
 ·obtain⟨fr1,L,p1,m6⟩:=B26e hf hw.sl hq h86 he ha hp o (A:=staB lv dp R) (B:=arB t0 t1) F0
  rw[←x_assoc,x_seq,p1]
  simp -implicitDefEqProofs (maxDischargeDepth:=4) only[go_sem,m6]
  exact⟨_,rfl⟩
 ·obtain⟨fr1,p1,F1,k7⟩:=B26 hf hw.sl hq h86 h ha hp o (A:=staB lv dp R) (B:=arB t0 t1) F0
  obtain⟨fr2,p2,F2,k14⟩:=C26 (lv:=lv) (dp:=dp) (t0:=t0) (t1:=t1) h hl (md:=mdB a p x2 x3 x4 x5 x6 x7) F1 k7
  have hl':(R.map (smS cls.length)).length=16:=by rw[List.length_map,hl]
  have hsm:=Sm.small (n:=cls.length) R
  generalize R.map (smS cls.length)=R' at *
  have bd:∀(x:Int)(m:Int),0<m→-m<x.tmod m∧x.tmod m<m:=fun x m hm=>by
   have e1:=Int.tmod_lt_of_pos x hm
   have e2:=Int.tmod_lt_of_pos (-x) hm
   rw[Int.neg_tmod]at e2
   omega
  have bl:=bd lv 1000 (by decide)
  have b0:=bd t0 501 (by decide)
  have b1:=bd t1 501 (by decide)
  generalize lv.tmod 1000=lv' at *
  generalize t0.tmod 501=s0 at *
  generalize t1.tmod 501=s1 at *
  generalize mdB a p x2 x3 x4 x5 x6 x7=md at *
  generalize arB t0 t1=ab at *
  obtain⟨fr3,p3,F3⟩:=lo26 (lv:=lv') (lv1:=rlv cls lv' R') (dp:=dp) (md:=md) (ab:=ab) h hl' 16 0 fr2 rfl (Nat.zero_le _) F2 k14
  have eb:ex cx D 0 26 205 (.block 0 (.loop l26_0)) fr2 (hp26 md ab cv ov pv qv lv' (rlv cls lv' R') dp R' [])=some (.normal,fr3,hp26 md ab cv ov pv qv lv' (rlv cls lv' R') dp R' []):=by rw[x_block,x_loop,p3];rfl
  obtain⟨fr4,p4,F4⟩:=D26 (lv:=lv') (dp:=dp) (md:=md) (ab:=ab) h hl' F3
  obtain⟨fr5,p5,F5,m15⟩:=E26 (lv:=lv') (dp:=dp) (md:=md) (ab:=ab) h hl' (by omega) hsm (show -500≤s0∧s0≤500 by omega) F4
  obtain⟨fr6,p6,m6⟩:=F26 (lv:=lv') (dp:=dp) (md:=md) (ab:=ab) h hl' (by omega) hsm (show -500≤s0∧s0≤500 by omega) (show -500≤s1∧s1≤500 by omega) F5 m15
  obtain⟨_,_,r0,r1⟩:=x_split p1
  obtain⟨_,_,s0',s1'⟩:=x_split p2
  obtain⟨_,_,s2',s3'⟩:=x_split s1'
  obtain⟨_,_,s4',s5'⟩:=x_split s3'
  obtain⟨_,_,s6',s7'⟩:=x_split s5'
  obtain⟨_,_,v0',v1'⟩:=x_split p5
  rw[x_cont1 r0,x_cont1 r1,x_cont1 s0',x_cont1 s2',x_cont1 s4',x_cont1 s6',x_assoc,x_cont1 s7',x_cont1 eb,x_cont1 p4,x_cont1 v0',x_cont1 v1',p6]
  simp -implicitDefEqProofs (maxDischargeDepth:=4) only[go_sem,m6]
  exact⟨_,rfl⟩
end
open Go.Gr
theorem cells139:Go.Proofs.Try.prog.cellsOf 139=3:=by kernel_rfl
theorem cells143:Go.Proofs.Try.prog.cellsOf 143=3:=by kernel_rfl
theorem param_read{d:Nat}{l:List AV}(h:Rdd Go.Proofs.Try.prog (d+9) 139 l):∃x:Bool×Int×Int,AV.agg l=paW x:=by
 have h1:=rd_struct Go.Proofs.Try.underlying139 h
 obtain⟨a1,b1,rfl,k1,h2⟩:=rdF_cons h1
 obtain⟨c,rfl⟩:=rd_bool Go.Proofs.Try.underlying4 k1
 obtain⟨a2,b2,rfl,k2,h3⟩:=rdF_cons h2
 obtain⟨n,o,rfl⟩:=type_read (d:=d) k2
 obtain rfl:=rdF_nil h3
 exact⟨(c,n,o),rfl⟩
theorem tmpl_read{d:Nat}{l:List AV}(h:Rdd Go.Proofs.Try.prog (d+13) 143 l):TmOk (AV.agg l):=by
 have h1:=rd_struct Go.Proofs.Try.underlying143 h
 obtain⟨a1,b1,rfl,k1,h2⟩:=rdF_cons h1
 obtain⟨p,ls,rfl,_,e1,e2⟩:=rd_slice Go.Proofs.Try.underlying140 k1
 obtain⟨a2,b2,rfl,k2,h3⟩:=rdF_cons h2
 obtain⟨y,_,rfl,_,_,_⟩:=rd_slice Go.Proofs.Try.underlying141 k2
 obtain⟨a3,b3,rfl,k3,h4⟩:=rdF_cons h3
 obtain⟨z,_,rfl,_,_,_⟩:=rd_slice Go.Proofs.Try.underlying31 k3
 obtain rfl:=rdF_nil h4
 rw[cells139]at e2
 obtain⟨xs,q1,q2,q3⟩:=map_mem (f:=wrapAs Go.Proofs.Try.prog 139) (g:=paW) (Q:=fun _=>True) (ls:=ls) fun y hy=>by
  obtain⟨x,hx⟩:=param_read (d:=d+1) (e1 y hy)
  exact⟨x,by rw[wrap_struct Go.Proofs.Try.underlying139];exact hx,trivial⟩
 rw[q3]at e2
 exact⟨p,y,z,xs,rfl,e2⟩
theorem slice_any{d:Nat}{t e:TypeId}{l:List AV}(ht:Go.Proofs.Try.prog.underlying t=some (.slice e))(h:Rdd Go.Proofs.Try.prog (d+1) t l):∃a,l=[a]∧∃sz els,Sl sz a els:=by
 obtain⟨a,ls,e,_,e1,e2⟩:=rd_slice ht h
 exact⟨a,e,_,_,e2⟩
theorem mod_read{d:Nat}{l:List AV}(h:Rdd Go.Proofs.Try.prog (d+18) 117 l):∃(a p x2 x3 x4 x5 x6 x7:AV)(ns:List Nd)(ts:List AV),l=[a,p,x2,x3,x4,x5,x6,x7]∧Sl 6 a (ns.map nodeV)∧(∀x∈ns,NdOk x)∧Sl 3 p ts∧(∀x∈ts,TmOk x)∧Oth x2 x3 x4 x5 x6 x7:=by
 have h1:=rd_struct Go.Proofs.Try.underlying117 h
 obtain⟨a1,b1,rfl,k1,h2⟩:=rdF_cons h1
 obtain⟨a,ls,rfl,_,u1,u2⟩:=rd_slice Go.Proofs.Try.underlying56 k1
 obtain⟨a2,b2,rfl,k2,h3⟩:=rdF_cons h2
 obtain⟨p,ls2,rfl,_,e1,e2⟩:=rd_slice Go.Proofs.Try.underlying113 k2
 obtain⟨a3,b3,rfl,k3,h4⟩:=rdF_cons h3
 obtain⟨x2,rfl,y2⟩:=slice_any Go.Proofs.Try.underlying114 k3
 obtain⟨a4,b4,rfl,k4,h5⟩:=rdF_cons h4
 obtain⟨x3,rfl,y3⟩:=slice_any Go.Proofs.Try.underlying115 k4
 obtain⟨a5,b5,rfl,k5,h6⟩:=rdF_cons h5
 obtain⟨x4,rfl,y4⟩:=slice_any Go.Proofs.Try.underlying31 k5
 obtain⟨a6,b6,rfl,k6,h7⟩:=rdF_cons h6
 obtain⟨x5,rfl,y5⟩:=slice_any Go.Proofs.Try.underlying31 k6
 obtain⟨a7,b7,rfl,k7,h8⟩:=rdF_cons h7
 obtain⟨x6,rfl,y6⟩:=slice_any Go.Proofs.Try.underlying31 k7
 obtain⟨a8,b8,rfl,k8,h9⟩:=rdF_cons h8
 obtain⟨x7,rfl,y7⟩:=slice_any Go.Proofs.Try.underlying31 k8
 obtain rfl:=rdF_nil h9
 obtain⟨ns,n1,n2⟩:=nodes_read (d:=d+1) k1
 rw[cells143]at e2
 obtain⟨xs,q1,q2,q3⟩:=map_mem (f:=wrapAs Go.Proofs.Try.prog 143) (g:=id) (Q:=TmOk) (ls:=ls2) fun y hy=>by
  exact⟨_,by rw[wrap_struct Go.Proofs.Try.underlying143];rfl,tmpl_read (d:=d+1) (e1 y hy)⟩
 rw[q3,List.map_id]at e2
 exact⟨a,p,x2,x3,x4,x5,x6,x7,ns,xs,rfl,n1,n2,e2,q2,⟨y2,y3,y4,y5,y6,y7⟩⟩
theorem slot_read{d:Nat}{l:List AV}(h:Rdd Go.Proofs.Try.prog (d+6) 119 l):∃r:Slo,l=slC r:=by
 have h1:=rd_struct Go.Proofs.Try.underlying119 h
 obtain⟨a1,b1,rfl,k1,h2⟩:=rdF_cons h1
 obtain⟨x,_,rfl⟩:=rd_int Go.Proofs.Try.underlying3 k1
 obtain⟨a2,b2,rfl,k2,h3⟩:=rdF_cons h2
 obtain⟨y,_,rfl⟩:=rd_int Go.Proofs.Try.underlying3 k2
 obtain⟨a3,b3,rfl,k3,h4⟩:=rdF_cons h3
 obtain⟨z,_,rfl⟩:=rd_int Go.Proofs.Try.underlying3 k3
 obtain rfl:=rdF_nil h4
 exact⟨(x,y,z),rfl⟩
theorem slots_flat:∀(zs:List (List AV)),(∀z∈zs,∃r:Slo,z=slC r)→∃R:List Slo,R.length=zs.length∧zs.flatten=rgC R
 | [],_=>⟨[],rfl,rfl⟩
 | z::zs,h=>by
  obtain⟨r,rfl⟩:=h _ (List.mem_cons_self)
  obtain⟨R,h1,h2⟩:=slots_flat zs fun z hz=>h z (List.mem_cons_of_mem _ hz)
  refine⟨r::R,by rw[List.length_cons,List.length_cons,h1],?_⟩
  rw[List.flatten_cons,h2];rfl
theorem state_read{d:Nat}{l:List AV}(h:Rdd Go.Proofs.Try.prog (d+12) 122 l):∃(lv dp:Int)(R:List Slo),l=stC lv dp R∧R.length=16:=by
 have h1:=rd_struct Go.Proofs.Try.underlying122 h
 obtain⟨a1,b1,rfl,k1,h2⟩:=rdF_cons h1
 obtain⟨x,_,rfl⟩:=rd_int Go.Proofs.Try.underlying3 k1
 obtain⟨a2,b2,rfl,k2,h3⟩:=rdF_cons h2
 obtain⟨y,_,rfl⟩:=rd_int Go.Proofs.Try.underlying3 k2
 obtain⟨a3,b3,rfl,k3,h4⟩:=rdF_cons h3
 obtain⟨zs,z1,z2,rfl⟩:=rd_array Go.Proofs.Try.underlying120 k3
 obtain rfl:=rdF_nil h4
 obtain⟨R,r1,r2⟩:=slots_flat zs fun z hz=>slot_read (d:=d+1) (z2 z hz)
 rw[r2,List.append_nil]
 exact⟨x,y,R,rfl,by rw[r1,z1]⟩
theorem two_read{d:Nat}{l:List AV}(h:Rdd Go.Proofs.Try.prog (d+6) 123 l):∃a b:Int,l=[iv a,iv b]:=by
 obtain⟨zs,z1,z2,rfl⟩:=rd_array Go.Proofs.Try.underlying123 h
 have each:∀z∈zs,∃n:Int,z=[iv n]:=fun z hz=>by
  obtain⟨n,w,rfl⟩:=rd_int Go.Proofs.Try.underlying3 (z2 z hz)
  exact⟨n,rfl⟩
 match zs,z1,each with
 | [a,b],_,each =>
  obtain⟨n1,rfl⟩:=each a (by simp)
  obtain⟨n2,rfl⟩:=each b (by simp)
  exact⟨n1,n2,rfl⟩
theorem adds_row{l0 l1 l2:List AV}(h0:Rdd Go.Proofs.Try.prog 20 117 l0)(h1:Rdd Go.Proofs.Try.prog 20 122 l1)(h2:Rdd Go.Proofs.Try.prog 20 123 l2):∃H',callB cx D 0 26 [.agg l0,.agg l1,.agg l2] []=some (bv true,H'):=by
 obtain⟨a,p,x2,x3,x4,x5,x6,x7,ns,ts,rfl,n1,n2,n3,n4,n5⟩:=mod_read (d:=2) h0
 obtain⟨lv,dp,R,rfl,hl⟩:=state_read (d:=8) h1
 obtain⟨s,t,rfl⟩:=two_read (d:=14) h2
 exact adds_call n1 n2 n3 n4 n5 hl
end Go.Abs.Tab
