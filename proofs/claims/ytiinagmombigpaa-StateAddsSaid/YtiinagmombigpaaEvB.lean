/- What a value without memory stands for, in a world: the relation, and that it stays as more is known. -/
import Derived.Test.YtiinagmombigpaaEvA
import Derived.Laws.IdiomCopy
import Derived.Laws.StructEq
import Derived.RangeFuncCalls
set_option linter.unnecessarySimpa false
set_option linter.unusedSimpArgs false
set_option linter.unusedVariables false
namespace Go.Abs
abbrev Imm:=Nat→Nat→Option Value
abbrev Mu:=Nat→Option (Nat×Nat)
def noMu:Mu:=fun _=>none
def Imm.le(a b:Imm):Prop:=∀B o v,a B o=some v→b B o=some v
def Mu.le(a b:Mu):Prop:=∀n x,a n=some x→b n=some x
theorem Imm.le_refl(a:Imm):a.le a:=fun _ _ _ h=>h
theorem Mu.le_refl(a:Mu):a.le a:=fun _ _ h=>h
theorem Imm.le_trans{a b c:Imm}(h:a.le b)(h':b.le c):a.le c:=fun _ _ _ x=>h' _ _ _ (h _ _ _ x)
theorem Mu.le_trans{a b c:Mu}(h:a.le b)(h':b.le c):a.le c:=fun _ _ x=>h' _ _ (h _ _ x)
theorem noMu_le(m:Mu):noMu.le m:=fun _ _ h=>by simp[noMu]at h
def one(v:Value):Prop:=v.oneCell'=true
def Seg(imm:Imm)(B o:Nat)(cs:List Value):Prop:=∀i c,cs[i]?=some c→imm B (o+i)=some c
theorem Seg.mono{imm imm':Imm}(h:imm.le imm'){B o:Nat}{cs:List Value}(s:Seg imm B o cs):Seg imm' B o cs:=fun i c hc=>h _ _ _ (s i c hc)
mutual
def VR(imm:Imm):Mu→AV→Value→Prop
 | _,.dead,_=>True
 | _,.lit x,v=>v=x
 | mu,.ptr b i j,v=>∃B sz,mu b=some (B,sz)∧v=.pointer (some ⟨B,i*sz+j,none⟩)
 | mu,.sl b sz i len cap,v=>∃B cap',mu b=some (B,sz)∧cap≤cap'∧v=.slice (some ⟨B,i*sz,none⟩) len cap'
 | mu,.isl b i j _ len,v=>∃B sz,mu b=some (B,sz)∧v=.slice (some ⟨B,i*sz+j,none⟩) len len
 | _,.vp el j,v=>∃B o c,v=.pointer (some ⟨B,o+j,none⟩)∧VR imm noMu el c∧(∀x∈c.cells.toList,one x)∧Seg imm B o c.cells.toList
 | _,.vec sz k els,v=>∃B o sp cap cs,v=.slice (some ⟨B,o,sp⟩) els.length cap∧(cap=0∨sp=none)∧k≠.own∧(k=.exact→cap=els.length)∧els.length≤cap∧VRels imm noMu sz els cs∧Seg imm B o cs
 | mu,.fn f cap,v=>∃cs:List Value,v=.func (.func f) #[] cs.toArray∧VRs imm mu cap cs
 | mu,.yld l,v=>∃B sz,mu l=some (B,sz)∧v=.func (.yield B) #[] #[]
 | mu,.mp m,v=>∃B sz,mu m=some (B,sz)∧v=.map (some B)
 | mu,.agg l,v=>∃cs:List Value,v=.agg cs.toArray∧VRs imm mu l cs∧(∀x∈cs,one x)
 | mu,.tup l,v=>∃cs:List Value,v=.tuple cs.toArray∧VRs imm mu l cs
def VRs(imm:Imm):Mu→List AV→List Value→Prop
 | _,[],cs=>cs=[]
 | mu,a::as,cs=>∃c cs',cs=c::cs'∧VR imm mu a c∧VRs imm mu as cs'
def VRels(imm:Imm):Mu→Nat→List AV→List Value→Prop
 | _,_,[],cs=>cs=[]
 | mu,sz,a::as,cs=>∃c cs',cs=c.cells.toList++cs'∧c.cells.size=sz∧(∀x∈c.cells.toList,one x)∧VR imm mu a c∧VRels imm mu sz as cs'
end
mutual
theorem VR.mono{imm imm':Imm}(hi:imm.le imm'):∀(a:AV) {mu mu':Mu} (_:mu.le mu') {v:Value},VR imm mu a v→VR imm' mu' a v
 | .dead,_,_,_,_,_=>by simp[VR]
 | .lit x,_,_,_,_,h=>by simpa [VR] using h
 | .ptr b i j,_,_,hm,_,h=>by
  simp only[VR]at h ⊢;obtain⟨B,sz,h1,h2⟩:=h;exact⟨B,sz,hm _ _ h1,h2⟩
 | .sl b z i l c,_,_,hm,_,h=>by
  simp only[VR]at h ⊢;obtain⟨B,c',h1,h2⟩:=h;exact⟨B,c',hm _ _ h1,h2⟩
 | .isl b i j e l,_,_,hm,_,h=>by
  simp only[VR]at h ⊢;obtain⟨B,sz,h1,h2⟩:=h;exact⟨B,sz,hm _ _ h1,h2⟩
 | .vp el j,_,_,_,_,h=>by
  simp only[VR]at h ⊢;obtain⟨B,o,c,h1,h2,h3,h4⟩:=h;exact⟨B,o,c,h1,VR.mono hi el (Mu.le_refl _) h2,h3,h4.mono hi⟩
 | .vec sz k els,_,_,_,_,h=>by
  simp only[VR]at h ⊢;obtain⟨B,o,sp,cap,cs,h1,h0,h2,h3,h4,h5,h6⟩:=h;exact⟨B,o,sp,cap,cs,h1,h0,h2,h3,h4,VRels.mono hi els (Mu.le_refl _) h5,h6.mono hi⟩
 | .fn f cap,_,_,hm,_,h=>by
  simp only[VR]at h ⊢;obtain⟨cs,h1,h2⟩:=h;exact⟨cs,h1,VRs.mono hi cap hm h2⟩
 | .yld l,_,_,hm,_,h=>by
  simp only[VR]at h ⊢;obtain⟨B,sz,h1,h2⟩:=h;exact⟨B,sz,hm _ _ h1,h2⟩
 | .mp l,_,_,hm,_,h=>by
  simp only[VR]at h ⊢;obtain⟨B,sz,h1,h2⟩:=h;exact⟨B,sz,hm _ _ h1,h2⟩
 | .agg l,_,_,hm,_,h=>by
  simp only[VR]at h ⊢;obtain⟨cs,h1,h2,h3⟩:=h;exact⟨cs,h1,VRs.mono hi l hm h2,h3⟩
 | .tup l,_,_,hm,_,h=>by
  simp only[VR]at h ⊢;obtain⟨cs,h1,h2⟩:=h;exact⟨cs,h1,VRs.mono hi l hm h2⟩
theorem VRs.mono{imm imm':Imm}(hi:imm.le imm'):∀(l:List AV) {mu mu':Mu} (_:mu.le mu') {cs:List Value},VRs imm mu l cs→VRs imm' mu' l cs
 | [],_,_,_,_,h=>by simpa [VRs] using h
 | a::as,_,_,hm,_,h=>by
  simp only[VRs]at h ⊢;obtain⟨c,cs',h1,h2,h3⟩:=h;exact⟨c,cs',h1,VR.mono hi a hm h2,VRs.mono hi as hm h3⟩
theorem VRels.mono{imm imm':Imm}(hi:imm.le imm'):∀(l:List AV) {mu mu':Mu} (_:mu.le mu') {sz:Nat} {cs:List Value},VRels imm mu sz l cs→VRels imm' mu' sz l cs
 | [],_,_,_,_,_,h=>by simpa [VRels] using h
 | a::as,_,_,hm,_,_,h=>by
  simp only[VRels]at h ⊢;obtain⟨c,cs',h1,h2,h3,h4,h5⟩:=h;exact⟨c,cs',h1,h2,h3,VR.mono hi a hm h4,VRels.mono hi as hm h5⟩
end
theorem VRs.length{imm:Imm}{mu:Mu}:∀ {l:List AV} {cs:List Value},VRs imm mu l cs→cs.length=l.length
 | [],cs,h=>by simp[VRs]at h;simp[h]
 | a::as,cs,h=>by
  simp only[VRs]at h;obtain⟨c,cs',rfl,_,h3⟩:=h;simp[VRs.length h3]
theorem VRs.get{imm:Imm}{mu:Mu}:∀ {l:List AV} {cs:List Value},VRs imm mu l cs→∀ {i:Nat} {a:AV},l[i]?=some a→∃c,cs[i]?=some c∧VR imm mu a c
 | [],cs,_,i,a,h=>by simp at h
 | b::bs,cs,hr,i,a,h=>by
  simp only[VRs]at hr;obtain⟨c,cs',rfl,h2,h3⟩:=hr
  cases i with
  | zero=>simp at h;subst h;exact⟨c,by simp,h2⟩
  | succ i=>simp at h;obtain⟨c',h4,h5⟩:=VRs.get h3 h;exact⟨c',by simpa using h4,h5⟩
theorem VRs.of{imm:Imm}{mu:Mu}:∀ {l:List AV} {cs:List Value},cs.length=l.length→(∀(i:Nat)(a:AV)(c:Value),l[i]?=some a→cs[i]?=some c→VR imm mu a c)→VRs imm mu l cs
 | [],cs,hl,_=>by simp[VRs];simpa using hl
 | b::bs,cs,hl,h=>by
  cases cs with
  | nil=>simp at hl
  | cons c cs =>
   simp only[VRs]
   exact⟨c,cs,rfl,h 0 b c (by simp) (by simp),VRs.of (by simpa using hl) fun i a c h1 h2=>h (i+1) a c (by simpa using h1) (by simpa using h2)⟩
theorem VRs.append{imm:Imm}{mu:Mu}:∀ {l l':List AV} {cs cs':List Value},VRs imm mu l cs→VRs imm mu l' cs'→VRs imm mu (l++l') (cs++cs')
 | [],l',cs,cs',h,h'=>by simp[VRs]at h;subst h;simpa using h'
 | a::as,l',cs,cs',h,h'=>by
  simp only[VRs]at h;obtain⟨c,cs₁,rfl,h2,h3⟩:=h
  simp only[List.cons_append,VRs];exact⟨c,cs₁++cs',rfl,h2,VRs.append h3 h'⟩
theorem VRs.take{imm:Imm}{mu:Mu}{l:List AV}{cs:List Value}(h:VRs imm mu l cs)(n:Nat):VRs imm mu (l.take n) (cs.take n) :=
 VRs.of (by simp[h.length]) fun i a c h1 h2=>by
  rw[List.getElem?_take]at h1 h2
  split at h1
  ·rename_i hi;rw[if_pos hi]at h2;obtain⟨c',h3,h4⟩:=h.get h1;rw[h3]at h2;cases h2;exact h4
  ·cases h1
theorem VRs.drop{imm:Imm}{mu:Mu}{l:List AV}{cs:List Value}(h:VRs imm mu l cs)(n:Nat):VRs imm mu (l.drop n) (cs.drop n) :=
 VRs.of (by simp[h.length]) fun i a c h1 h2=>by
  rw[List.getElem?_drop]at h1 h2
  obtain⟨c',h3,h4⟩:=h.get h1;rw[h3]at h2;cases h2;exact h4
theorem VRs.map{imm imm':Imm}{mu mu':Mu}{f:AV→AV}{l:List AV}{cs:List Value}(h:VRs imm mu l cs)(hf:∀a c,VR imm mu a c→VR imm' mu' (f a) c):VRs imm' mu' (l.map f) cs :=
 VRs.of (by simp[h.length]) fun i a c h1 h2=>by
  rw[List.getElem?_map]at h1
  cases hl:l[i]? with
  | none=>simp[hl]at h1
  | some b=>simp[hl]at h1;subst h1;obtain⟨c',h3,h4⟩:=h.get hl;rw[h3]at h2;cases h2;exact hf _ _ h4
theorem VRels.length{imm:Imm}{mu:Mu}{sz:Nat}:∀ {l:List AV} {cs:List Value},VRels imm mu sz l cs→cs.length=l.length*sz
 | [],cs,h=>by simp[VRels]at h;simp[h]
 | a::as,cs,h=>by
  simp only[VRels]at h;obtain⟨c,cs',rfl,h2,_,_,h5⟩:=h
  simp[VRels.length h5,h2,Nat.add_mul];omega
theorem VRels.ones{imm:Imm}{mu:Mu}{sz:Nat}:∀ {l:List AV} {cs:List Value},VRels imm mu sz l cs→∀x∈cs,one x
 | [],cs,h=>by simp[VRels]at h;simp[h]
 | a::as,cs,h=>by
  simp only[VRels]at h;obtain⟨c,cs',rfl,_,h3,_,h5⟩:=h
  intro x hx;rw[List.mem_append]at hx;rcases hx with hx | hx
  ·exact h3 x hx
  ·exact VRels.ones h5 x hx
theorem VRels.get{imm:Imm}{mu:Mu}{sz:Nat}:∀ {l:List AV} {cs:List Value},VRels imm mu sz l cs→∀ {i:Nat} {a:AV},l[i]?=some a→
  ∃c,VR imm mu a c∧c.cells.size=sz∧(∀x∈c.cells.toList,one x)∧∀j x,c.cells.toList[j]?=some x→cs[i*sz+j]?=some x
 | [],cs,_,i,a,h=>by simp at h
 | b::bs,cs,hr,i,a,h=>by
  simp only[VRels]at hr;obtain⟨c,cs',rfl,h2,h3,h4,h5⟩:=hr
  cases i with
  | zero =>
   simp at h;subst h
   refine⟨c,h4,h2,h3,fun j x hx=>?_⟩
   have hj:j<c.cells.toList.length:=(List.getElem?_eq_some_iff.1 hx).1
   rw[Nat.zero_mul,Nat.zero_add,List.getElem?_append_left hj];exact hx
  | succ i =>
   simp at h;obtain⟨c',h6,h7,h8,h9⟩:=VRels.get h5 h
   refine⟨c',h6,h7,h8,fun j x hx=>?_⟩
   have hl:c.cells.toList.length=sz:=by simpa using h2
   rw[List.getElem?_append_right (by rw[hl,Nat.add_mul];omega),hl]
   have e:(i+1)*sz+j-sz=i*sz+j:=by rw[Nat.add_mul];omega
   rw[e];exact h9 j x hx
theorem VRels.append{imm:Imm}{mu:Mu}{sz:Nat}:∀ {l l':List AV} {cs cs':List Value},VRels imm mu sz l cs→VRels imm mu sz l' cs'→VRels imm mu sz (l++l') (cs++cs')
 | [],l',cs,cs',h,h'=>by simp[VRels]at h;subst h;simpa using h'
 | a::as,l',cs,cs',h,h'=>by
  simp only[VRels]at h;obtain⟨c,cs₁,rfl,h2,h3,h4,h5⟩:=h
  simp only[List.cons_append,VRels];exact⟨c,cs₁++cs',by simp,h2,h3,h4,VRels.append h5 h'⟩
theorem VRels.take{imm:Imm}{mu:Mu}{sz:Nat}:∀ {l:List AV} {cs:List Value} (n:Nat),VRels imm mu sz l cs→VRels imm mu sz (l.take n) (cs.take (n*sz))
 | [],cs,n,h=>by simp[VRels]at h;subst h;simp[VRels]
 | a::as,cs,0,h=>by simp[VRels]
 | a::as,cs,n+1,h=>by
  simp only[VRels]at h;obtain⟨c,cs',rfl,h2,h3,h4,h5⟩:=h
  have hl:c.cells.toList.length=sz:=by simpa using h2
  simp only[List.take_succ_cons,VRels]
  refine⟨c,cs'.take (n*sz),?_,h2,h3,h4,VRels.take n h5⟩
  rw[List.take_append,hl,List.take_of_length_le (by rw[hl,Nat.add_mul];omega)]
  congr 2;rw[Nat.add_mul];omega
theorem VRels.drop{imm:Imm}{mu:Mu}{sz:Nat}:∀ {l:List AV} {cs:List Value} (n:Nat),VRels imm mu sz l cs→VRels imm mu sz (l.drop n) (cs.drop (n*sz))
 | [],cs,n,h=>by simp[VRels]at h;subst h;simp[VRels]
 | a::as,cs,0,h=>by simpa using h
 | a::as,cs,n+1,h=>by
  simp only[VRels]at h;obtain⟨c,cs',rfl,h2,h3,h4,h5⟩:=h
  have hl:c.cells.toList.length=sz:=by simpa using h2
  have e:(n+1)*sz=sz+n*sz:=by rw[Nat.add_mul];omega
  rw[List.drop_succ_cons,e,←List.drop_drop]
  conv=>rhs;rw[show List.drop sz (c.cells.toList++cs')=cs' from by rw[←hl];simp]
  exact VRels.drop n h5
inductive Loc where
 | slot (t:Nat) | cell (b i j:Nat) | res | oth
 deriving DecidableEq
structure Gh where
 imm:Imm
 mu:Mu
 ow:Nat→Option Loc
def SR(g:Gh)(w:World)(loc:Loc)(a:AV)(v:Value):Prop :=
 match a with
 | .vec sz .own els=>∃B cap cs,v=.slice (some ⟨B,0,none⟩) els.length cap∧els.length≤cap∧VRels g.imm noMu sz els cs∧Seg g.imm B 0 cs∧g.ow B=some loc∧
   (∀o,els.length*sz≤o→g.imm B o=none)∧∃ccs e,w.heap[B]?=some (.cells ccs e (0,0))∧ccs.size=cap*sz
 | a=>VR g.imm g.mu a v
def isOwn:AV→Bool
 | .vec _ .own _=>true
 | _=>false
theorem SR_notOwn{g:Gh}{w:World}{loc:Loc}{a:AV}{v:Value}(h:isOwn a=false):SR g w loc a v↔VR g.imm g.mu a v:=by
 unfold SR
 split
 ·simp[isOwn]at h
 ·exact Iff.rfl
theorem VR_notOwn{imm:Imm}{mu:Mu}{a:AV}{v:Value}(h:VR imm mu a v):isOwn a=false:=by
 cases a with
 | vec sz k els=>cases k<;>simp[isOwn];simp[VR]at h
 | _=>rfl
theorem VR.sr{g:Gh}{w:World}{loc:Loc}{a:AV}{v:Value}(h:VR g.imm g.mu a v):SR g w loc a v:=(SR_notOwn (VR_notOwn h)).2 h
theorem shr_notOwn:∀(a:AV),isOwn (shr a)=false
 | .vec sz k els=>by cases k<;>rfl
 | .dead | .lit _ | .ptr .. | .sl .. | .isl .. | .vp .. | .fn .. | .yld _ | .mp _ | .agg _ | .tup _=>rfl
theorem shr_of_notOwn:∀ {a:AV},isOwn a=false→shr a=a
 | .vec sz k els,h=>by cases k<;>first | rfl | simp[isOwn]at h
 | .dead,_ | .lit _,_ | .ptr ..,_ | .sl ..,_ | .isl ..,_ | .vp ..,_ | .fn ..,_ | .yld _,_ | .mp _,_ | .agg _,_ | .tup _,_=>rfl
theorem isOwn_spec{a:AV}(h:isOwn a=true):∃sz els,a=.vec sz .own els:=by
 cases a with
 | vec sz k els=>cases k<;>simp[isOwn]at h;exact⟨sz,els,rfl⟩
 | _=>simp[isOwn]at h
theorem SR.shr{g:Gh}{w:World}{loc:Loc}{a:AV}{v:Value}(h:SR g w loc a v):VR g.imm g.mu (shr a) v:=by
 cases hown:isOwn a with
 | false=>rw[shr_of_notOwn hown];exact(SR_notOwn hown).1 h
 | true =>
  obtain⟨sz,els,rfl⟩:=isOwn_spec hown
  obtain⟨B,cap,cs,h1,h2,h3,h4,_⟩:=h
  simp only[Abs.shr,VR]
  exact⟨B,0,none,cap,cs,h1,.inr rfl,by simp,by simp,h2,h3,h4⟩
theorem VR.shr{imm:Imm}{mu:Mu}{a:AV}{v:Value}(h:VR imm mu a v):VR imm mu (shr a) v:=by
 rw[shr_of_notOwn (VR_notOwn h)];exact h
theorem SR.mono{g g':Gh}{w w':World}{loc:Loc}{a:AV}{v:Value}(h:SR g w loc a v)(hi:g.imm.le g'.imm)(hm:g.mu.le g'.mu)
  (hB:∀B,g.ow B=some loc→g'.ow B=some loc∧(∀o,g'.imm B o=g.imm B o)∧w'.heap[B]?=w.heap[B]?):SR g' w' loc a v:=by
 cases hown:isOwn a with
 | false=>exact(SR_notOwn hown).2 (VR.mono hi a hm ((SR_notOwn hown).1 h))
 | true =>
  obtain⟨sz,els,rfl⟩:=isOwn_spec hown
  obtain⟨B,cap,cs,h1,h2,h3,h4,h5,h6,h7⟩:=h
  obtain⟨e1,e2,e3⟩:=hB B h5
  exact⟨B,cap,cs,h1,h2,VRels.mono hi els (Mu.le_refl _) h3,h4.mono hi,e1,fun o ho=>by rw[e2];exact h6 o ho,by rw[e3];exact h7⟩
def aggOf:AV→Option (List AV)
 | .agg l=>some l
 | _=>none
theorem aggOf_some{a:AV}{l:List AV}(h:aggOf a=some l):a=.agg l:=by
 cases a<;>simp[aggOf]at h;rw[h]
def ER(g:Gh)(w:World)(B sz b i:Nat)(el:AV):Prop :=
 match aggOf el with
 | some l=>l.length=sz∧∀j a,l[j]?=some a→∃c,w.cell? ⟨B,i*sz+j,none⟩=some c∧one c∧SR g w (.cell b i j) a c
 | none=>sz=1∧∃c,w.cell? ⟨B,i,none⟩=some c∧one c∧SR g w (.cell b i 0) el c
def LS.conc:LS→LoopState
 | .ready=>.ready | .busy=>.busy | .done=>.done | .exhausted=>.exhausted
def Ex.code:Ex→Option Code
 | .normal=>none
 | .exit id=>some (.exit id)
 | .ret=>some .ret
def Ex.conc:Ex→Exit
 | .normal=>.normal
 | .exit id=>.exit id
 | .ret=>.ret
def LR(g:Gh)(r:ALoop)(lr:Loop):Prop :=
 lr.params=r.params.toArray∧lr.assign=r.assign∧lr.body=r.body∧lr.state=r.state.conc∧lr.pending=(r.pending.bind Ex.code)∧lr.tmps.size=r.nt∧r.nt≤16000∧
 ∀t,r.fr.get t=.dead∨∃v,lr.tmps[t]?=some v∧VR g.imm g.mu (r.fr.get t) v
def MapR(g:Gh):List (AV×AV)→List MapEntry→Prop
 | [],es=>es=[]
 | (k,v)::l,es=>∃e es',es=e::es'∧VR g.imm noMu k e.key∧VR g.imm noMu v e.val∧MapR g l es'
def BR(g:Gh)(w:World)(b:Nat):ABlock→Prop
 | .cells sz _ els=>∃B,g.mu b=some (B,sz)∧(∃ccs e,w.heap[B]?=some (.cells ccs e (0,0)))∧(∀o,g.imm B o=none)∧∀i el,els[i]?=some el→ER g w B sz b i el
 | .mapo es=>∃B sz mes clock,g.mu b=some (B,sz)∧w.heap[B]?=some (.map mes clock)∧MapR g es mes.toList
 | .loop r=>∃B sz lr,g.mu b=some (B,sz)∧w.heap[B]?=some (.loop lr)∧LR g r lr
 | .gone=>True
 | .res=>g.mu b=none
structure MR(g:Gh)(ro:Nat)(H:Hp)(w:World):Prop where
 role:ro≤H.length
 imm:∀B o v,g.imm B o=some v→w.cell? ⟨B,o,none⟩=some v
 dom:∀b,H.length≤b→g.mu b=none
 inj:∀b b' B sz sz',g.mu b=some (B,sz)→g.mu b'=some (B,sz')→b=b'
 lt:∀b B sz,g.mu b=some (B,sz)→B<w.heap.size
 owlt:∀B l,g.ow B=some l→B<w.heap.size
 prot:∀b B sz,b<ro→g.mu b=some (B,sz)→g.ow B=some .oth
 free:∀b B sz,ro≤b→g.mu b=some (B,sz)→g.ow B=none
 blk:∀b blk,H[b]?=some blk→BR g w b blk
structure Outs(w w':World):Prop where
 os:w'.os=w.os
 tape:w'.tape=w.tape
 output:w'.output=w.output
theorem Outs.refl(w:World):Outs w w:=⟨rfl,rfl,rfl⟩
theorem Outs.trans{a b c:World}(h:Outs a b)(k:Outs b c):Outs a c:=⟨k.os.trans h.os,k.tape.trans h.tape,k.output.trans h.output⟩
structure Mu.grows(w:World)(a b:Mu):Prop where
 le:a.le b
 new:∀n B sz,b n=some (B,sz)→a n=some (B,sz)∨w.heap.size≤B
theorem Mu.grows.refl(w:World)(a:Mu):Mu.grows w a a:=⟨Mu.le_refl _,fun _ _ _ h=>.inl h⟩
theorem Mu.grows.trans{w w':World}{a b c:Mu}(h:Mu.grows w a b)(k:Mu.grows w' b c)(hs:w.heap.size≤w'.heap.size):Mu.grows w a c :=
 ⟨Mu.le_trans h.le k.le,fun n B sz hc=>by
  rcases k.new n B sz hc with h1 | h1
  ·exact h.new n B sz h1
  ·exact .inr (Nat.le_trans hs h1)⟩
def Loc.shut(ro:Nat):Loc→Prop
 | .oth=>True
 | .cell b _ _=>b<ro
 | _=>False
theorem Loc.shut.mono{ro ro':Nat}(h:ro≤ro'):∀ {l:Loc},l.shut ro→l.shut ro'
 | .oth,_=>trivial
 | .cell _ _ _,hl=>Nat.lt_of_lt_of_le hl h
 | .slot _,hl=>hl
 | .res,hl=>hl
structure Ev(ro:Nat)(g:Gh)(w:World)(g':Gh)(w':World):Prop where
 imm:g.imm.le g'.imm
 mun:Mu.grows w g.mu g'.mu
 size:w.heap.size≤w'.heap.size
 prot:∀(B:Nat)(l:Loc),g.ow B=some l→l.shut ro→g'.ow B=some l∧(∀o,g'.imm B o=g.imm B o)∧w'.heap[B]?=w.heap[B]?
 loops:∀(L:Nat)(lr:Loop),w.heap[L]?=some (Obj.loop lr)→∃lr':Loop,w'.heap[L]?=some (Obj.loop lr')∧lr'.defers=lr.defers
 out:Outs w w'
theorem Ev.mu{ro:Nat}{g:Gh}{w:World}{g':Gh}{w':World}(h:Ev ro g w g' w'):g.mu.le g'.mu:=h.mun.le
theorem Ev.refl(ro:Nat)(g:Gh)(w:World):Ev ro g w g w:=⟨Imm.le_refl _,.refl _ _,Nat.le_refl _,fun _ _ h _=>⟨h,fun _=>rfl,rfl⟩,fun _ lr h=>⟨lr,h,rfl⟩,.refl _⟩
theorem Ev.trans{ro:Nat}{g g' g'':Gh}{w w' w'':World}(h:Ev ro g w g' w')(h':Ev ro g' w' g'' w''):Ev ro g w g'' w'' :=
 ⟨Imm.le_trans h.imm h'.imm,h.mun.trans h'.mun h.size,Nat.le_trans h.size h'.size,fun B l hB hl=>by
  obtain⟨a1,a2,a3⟩:=h.prot B l hB hl
  obtain⟨b1,b2,b3⟩:=h'.prot B l a1 hl
  exact⟨b1,fun o=>by rw[b2,a2],by rw[b3,a3]⟩,fun L lr hl=>by
  obtain⟨lr',h1,h2⟩:=h.loops L lr hl
  obtain⟨lr'',h3,h4⟩:=h'.loops L lr' h1
  exact⟨lr'',h3,by rw[h4,h2]⟩,h.out.trans h'.out⟩
theorem Ev.less{ro ro':Nat}{g g':Gh}{w w':World}(h:Ev ro' g w g' w')(hr:ro≤ro'):Ev ro g w g' w' :=
 ⟨h.imm,h.mun,h.size,fun B l hB hl=>h.prot B l hB (hl.mono hr),h.loops,h.out⟩
theorem ER.mono{g g':Gh}{w w':World}{B sz b i:Nat}{el:AV}(h:ER g w B sz b i el)(hi:g.imm.le g'.imm)(hm:g.mu.le g'.mu)
  (hc:∀o,w'.cell? ⟨B,o,none⟩=w.cell? ⟨B,o,none⟩)
  (hB:∀B' j,g.ow B'=some (.cell b i j)→g'.ow B'=some (.cell b i j)∧(∀o,g'.imm B' o=g.imm B' o)∧w'.heap[B']?=w.heap[B']?):ER g' w' B sz b i el:=by
 unfold ER at h ⊢
 cases hl:aggOf el with
 | some l =>
  rw[hl]at h
  obtain⟨h1,h2⟩:=h
  exact⟨h1,fun j a ha=>by
   obtain⟨c,h3,h4,h5⟩:=h2 j a ha
   exact⟨c,by rw[hc];exact h3,h4,h5.mono hi hm fun B' hb=>hB B' j hb⟩⟩
 | none =>
  rw[hl]at h
  obtain⟨h1,c,h3,h4,h5⟩:=h
  exact⟨h1,c,by rw[hc];exact h3,h4,h5.mono hi hm fun B' hb=>hB B' 0 hb⟩
theorem MapR.mono{g g':Gh}(hi:g.imm.le g'.imm)(hm:g.mu.le g'.mu):∀ {l:List (AV×AV)} {es:List MapEntry},MapR g l es→MapR g' l es
 | [],es,h=>h
 | (k,v)::l,es,h=>by
  obtain⟨e,es',h1,h2,h3,h4⟩:=h
  exact⟨e,es',h1,VR.mono hi k (Mu.le_refl _) h2,VR.mono hi v (Mu.le_refl _) h3,MapR.mono hi hm h4⟩
theorem LR.mono{g g':Gh}(hi:g.imm.le g'.imm)(hm:g.mu.le g'.mu){r:ALoop}{lr:Loop}(h:LR g r lr):LR g' r lr:=by
 obtain⟨h1,h2,h3,h4,h5,h6,h7,h8⟩:=h
 exact⟨h1,h2,h3,h4,h5,h6,h7,fun t=>by
  rcases h8 t with h | ⟨v,ha,hb⟩
  ·exact .inl h
  ·exact .inr ⟨v,ha,VR.mono hi _ hm hb⟩⟩
theorem cell_of_heap{w w':World}{B:Nat}(h:w'.heap[B]?=w.heap[B]?)(o:Nat):w'.cell? ⟨B,o,none⟩=w.cell? ⟨B,o,none⟩:=by
 simp[World.cell?,h]
theorem BR.mono{g g':Gh}{w w':World}{b:Nat}{blk:ABlock}(h:BR g w b blk)(hi:g.imm.le g'.imm)(hm:g.mu.le g'.mu)
  (hme:∀B sz,g.mu b=some (B,sz)→(∀o,g'.imm B o=g.imm B o)∧w'.heap[B]?=w.heap[B]?)
  (hres:g.mu b=none→g'.mu b=none)
  (hB:∀B' i j,g.ow B'=some (.cell b i j)→g'.ow B'=some (.cell b i j)∧(∀o,g'.imm B' o=g.imm B' o)∧w'.heap[B']?=w.heap[B']?):BR g' w' b blk:=by
 cases blk with
 | cells sz e els =>
  obtain⟨B,h1,h2,h3,h4⟩:=h
  obtain⟨e1,e2⟩:=hme B sz h1
  exact⟨B,hm _ _ h1,by rw[e2];exact h2,fun o=>by rw[e1];exact h3 o,fun i el hel=>(h4 i el hel).mono hi hm (cell_of_heap e2) fun B' j hb=>hB B' i j hb⟩
 | mapo es =>
  obtain⟨B,sz,mes,clock,h1,h2,h3⟩:=h
  exact⟨B,sz,mes,clock,hm _ _ h1,by rw[(hme B sz h1).2];exact h2,h3.mono hi hm⟩
 | loop r =>
  obtain⟨B,sz,lr,h1,h2,h3⟩:=h
  exact⟨B,sz,lr,hm _ _ h1,by rw[(hme B sz h1).2];exact h2,h3.mono hi hm⟩
 | gone=>trivial
 | res=>exact hres h
structure Keeps(g:Gh)(w:World)(g':Gh)(w':World)(X:Nat→Prop):Prop where
 imm:g.imm.le g'.imm
 mun:Mu.grows w g.mu g'.mu
 size:w.heap.size≤w'.heap.size
 same:∀B:Nat,B<w.heap.size→¬X B→g'.ow B=g.ow B∧(∀o,g'.imm B o=g.imm B o)∧w'.heap[B]?=w.heap[B]?
 out:Outs w w'
theorem Keeps.mu{g:Gh}{w:World}{g':Gh}{w':World}{X:Nat→Prop}(h:Keeps g w g' w' X):g.mu.le g'.mu:=h.mun.le
theorem Keeps.refl(g:Gh)(w:World)(X:Nat→Prop):Keeps g w g w X:=⟨Imm.le_refl _,.refl _ _,Nat.le_refl _,fun _ _ _=>⟨rfl,fun _=>rfl,rfl⟩,.refl _⟩
theorem SR.keeps{g g':Gh}{w w':World}{X:Nat→Prop}{loc:Loc}{a:AV}{v:Value}(h:SR g w loc a v)(k:Keeps g w g' w' X)
  (hl:∀B l,g.ow B=some l→B<w.heap.size) (hx:∀B,g.ow B=some loc→¬X B):SR g' w' loc a v :=
 h.mono k.imm k.mu fun B hB=>by
  obtain⟨h1,h2,h3⟩:=k.same B (hl B _ hB) (hx B hB)
  exact⟨by rw[h1];exact hB,h2,h3⟩
theorem BR.keeps{g g':Gh}{w w':World}{X:Nat→Prop}{b:Nat}{blk:ABlock}(h:BR g w b blk)(k:Keeps g w g' w' X)
  (hl:∀B l,g.ow B=some l→B<w.heap.size) (hlt:∀B sz,g.mu b=some (B,sz)→B<w.heap.size)
  (hx:∀B sz,g.mu b=some (B,sz)→¬X B) (hc:∀B i j,g.ow B=some (.cell b i j)→¬X B) (hres:g.mu b=none→g'.mu b=none):BR g' w' b blk :=
 h.mono k.imm k.mu (fun B sz hB=>(k.same B (hlt B sz hB) (hx B sz hB)).2) hres fun B i j hB=>by
  obtain⟨h1,h2,h3⟩:=k.same B (hl B _ hB) (hc B i j hB)
  exact⟨by rw[h1];exact hB,h2,h3⟩
theorem Keeps.ev{ro:Nat}{g g':Gh}{w w':World}{X:Nat→Prop}(k:Keeps g w g' w' X)(hl:∀B l,g.ow B=some l→B<w.heap.size)(hx:∀B l,g.ow B=some l→l.shut ro→¬X B)
  (hloop:∀(L:Nat)(lr:Loop),X L→w.heap[L]?=some (Obj.loop lr)→∃lr':Loop,w'.heap[L]?=some (Obj.loop lr')∧lr'.defers=lr.defers):Ev ro g w g' w' where
 imm:=k.imm
 mun:=k.mun
 size:=k.size
 out:=k.out
 prot:=fun B l hB hs=>by
  obtain⟨h1,h2,h3⟩:=k.same B (hl B _ hB) (hx B l hB hs)
  exact⟨by rw[h1];exact hB,h2,h3⟩
 loops:=fun L lr h=>by
  by_cases hX:X L
  ·exact hloop L lr hX h
  ·have hlt:L<w.heap.size:=by
    rcases Nat.lt_or_ge L w.heap.size with h' | h'
    ·exact h'
    ·simp[Array.getElem?_eq_none h']at h
   exact⟨lr,by rw[(k.same L hlt hX).2.2];exact h,rfl⟩
structure Rel(g:Gh)(ro nt:Nat)(fr:PT)(H:Hp)(tm:Array Value)(w:World):Prop where
 size:tm.size=nt
 nt_le:nt≤16000
 slots:∀t,fr.get t=.dead∨∃v,tm[t]?=some v∧SR g w (.slot t) (fr.get t) v
 mem:MR g ro H w
theorem Rel.slot_VR{g:Gh}{ro nt:Nat}{fr:PT}{H:Hp}{tm:Array Value}{w:World}(h:Rel g ro nt fr H tm w)(t:Nat):VR g.imm g.mu (shr (fr.get t)) (tm.getD t undef):=by
 rcases h.slots t with hd | ⟨v,h1,h2⟩
 ·rw[hd];simp[shr,VR]
 ·have:tm.getD t undef=v:=by rw[Array.getD_eq_getD_getElem?,h1];rfl
  rw[this];exact h2.shr
theorem isOne_one{v:Value}:isOne v=true→one v:=by cases v<;>simp[isOne,one,Value.oneCell']
theorem one_isOne{v:Value}:one v→isOne v=true:=by cases v<;>simp[isOne,one,Value.oneCell']
theorem VRs_lits(imm:Imm)(mu:Mu):∀(l:List Value),VRs imm mu (l.map .lit) l
 | []=>by simp[VRs]
 | v::l=>by simp only[List.map_cons,VRs];exact⟨v,l,rfl,by simp[VR],VRs_lits imm mu l⟩
theorem VR_ofVal(imm:Imm)(mu:Mu):∀(v:Value),VR imm mu (ofVal v) v
 | .agg cs=>by
  by_cases h:cs.toList.all isOne=true
  ·rw[show ofVal (.agg cs)=.agg (cs.toList.map .lit) from by simp only[ofVal,if_pos h]]
   simp only[VR]
   exact⟨cs.toList,by simp,VRs_lits imm mu _,fun x hx=>isOne_one (List.all_eq_true.1 h x hx)⟩
  ·rw[show ofVal (.agg cs)=.dead from by simp only[ofVal,if_neg h]]
   simp only[VR]
 | .bool _ | .int .. | .float .. | .complex .. | .string _ | .pointer _ | .slice .. | .map _ | .chan _ | .func .. | .nilFunc | .iface .. | .nilIface | .tuple _=>by simp[ofVal,VR]
theorem Rel.eval{g:Gh}{ro nt:Nat}{fr:PT}{H:Hp}{a:Act}{w:World}(h:Rel g ro nt fr H a.tmps w):∀(x:Operand),VR g.imm g.mu (ev fr x) (a.eval x)
 | .tmp t=>h.slot_VR t
 | .const v=>VR_ofVal _ _ v
 | .func f=>by simp only[ev,Act.eval,VR];exact⟨[],rfl,by simp[VRs]⟩
 | .global _=>by simp[ev,VR]
theorem unownT_get(un:Option Tmp)(fr:PT)(hu:∀t,un=some t→t<16000)(t:Nat):(unownT un fr).get t=if un=some t then shr (fr.get t) else fr.get t:=by
 cases un with
 | none=>simp[unownT]
 | some s =>
  by_cases h:s=t
  ·subst h;simp[unownT,PT.get_set_eq (hu s rfl)]
  ·simp[unownT,PT.get_set_ne h,h]
theorem Rel.own_lt{g:Gh}{ro nt:Nat}{fr:PT}{H:Hp}{tm:Array Value}{w:World}(h:Rel g ro nt fr H tm w){t:Nat}(hd:fr.get t≠.dead):t<nt:=by
 rcases h.slots t with h1 | ⟨v,h1,_⟩
 ·exact absurd h1 hd
 ·have:=(Array.getElem?_eq_some_iff.1 h1).1;rw[h.size]at this;exact this
def putT(tm:Array Value)(dst:Option Tmp)(c:Value):Array Value:=match dst with
 | some d=>tm.setIfInBounds d c
 | none=>tm
theorem Rel.put{g g':Gh}{ro nt:Nat}{fr:PT}{H H':Hp}{tm:Array Value}{w w':World}{X:Nat→Prop}(h:Rel g ro nt fr H tm w)(k:Keeps g w g' w' X)(hm:MR g' ro H' w')
  {un:Option Tmp} (hu:∀t,un=some t→t<16000) (hX:∀t B,g.ow B=some (.slot t)→X B→un=some t)
  {dst:Option Tmp} {v:AV} {c:Value} (hv:∀d,dst=some d→SR g' w' (.slot d) v c) {fr':PT} (hf:putD nt dst v (unownT un fr)=some fr'):
  Rel g' ro nt fr' H' (putT tm dst c) w':=by
 have hs:∀t,(unownT un fr).get t=.dead∨∃v,tm[t]?=some v∧SR g' w' (.slot t) ((unownT un fr).get t) v:=by
  intro t
  rw[unownT_get un fr hu t]
  rcases h.slots t with hd | ⟨v,h1,h2⟩
  ·left;rw[hd];split<;>rfl
  ·right
   refine⟨v,h1,?_⟩
   split
   ·exact(VR.mono k.imm _ k.mu h2.shr).sr
   ·rename_i hne
    exact h2.keeps k h.mem.owlt fun B hB hx=>hne (hX t B hB hx)
 cases dst with
 | none =>
  simp only[putD,Option.some.injEq]at hf
  subst hf
  exact⟨h.size,h.nt_le,hs,hm⟩
 | some d =>
  simp only[putD]at hf
  split at hf
  ·rename_i hd
   simp only[Option.some.injEq]at hf
   subst hf
   refine⟨by simp[putT,h.size],h.nt_le,fun t=>?_,hm⟩
   by_cases e:d=t
   ·subst e
    right
    rw[PT.get_set_eq (Nat.lt_of_lt_of_le hd h.nt_le)]
    exact⟨c,by simp[putT,h.size,hd],hv d rfl⟩
   ·rw[PT.get_set_ne e]
    rcases hs t with h1 | ⟨v,h1,h2⟩
    ·exact .inl h1
    ·exact .inr ⟨v,by simp only[putT];rw[Array.getElem?_setIfInBounds_ne e];exact h1,h2⟩
  ·cases hf
theorem heap_alloc_old(w:World)(o:Obj){B:Nat}(h:B<w.heap.size):(w.alloc o).heap[B]?=w.heap[B]?:=by
 show (w.heap.push o)[B]?=w.heap[B]?
 simp[Array.getElem?_push,Nat.ne_of_lt h]
theorem heap_alloc_new(w:World)(o:Obj):(w.alloc o).heap[w.heap.size]?=some o:=by
 show (w.heap.push o)[w.heap.size]?=some o
 simp
theorem heap_setCell_ne(w:World)(a:Addr)(v:Value){B:Nat}(h:a.block≠B):(w.setCell a v).heap[B]?=w.heap[B]?:=by
 simp[World.setCell,Array.getElem?_modify,h]
theorem heap_setCell_cells(w:World)(a:Addr)(v:Value){ccs:Array Value}{e:TypeId}{fz:Nat×Nat}(h:w.heap[a.block]?=some (.cells ccs e fz)):
  ∃ccs',(w.setCell a v).heap[a.block]?=some (.cells ccs' e fz)∧ccs'.size=ccs.size:=by
 simp only[World.setCell,Array.getElem?_modify,if_true,h,Option.map_some]
 split
 ·exact⟨_,rfl,rfl⟩
 ·exact⟨_,rfl,by simp⟩
theorem heap_setCells_ne(B:Nat):∀(vs:List Value)(o:Nat)(w:World) {B':Nat},B≠B'→(w.setCells B o vs).heap[B']?=w.heap[B']?
 | [],_,_,_,_=>rfl
 | v::r,o,w,B',h=>by rw[World.setCells,heap_setCells_ne B r (o+1) _ h,heap_setCell_ne _ _ _ h]
theorem heap_setCells_cells(B:Nat):∀(vs:List Value)(o:Nat)(w:World) {ccs:Array Value} {e:TypeId} {fz:Nat×Nat},w.heap[B]?=some (.cells ccs e fz)→
  ∃ccs',(w.setCells B o vs).heap[B]?=some (.cells ccs' e fz)∧ccs'.size=ccs.size
 | [],_,w,ccs,e,fz,h=>⟨ccs,h,rfl⟩
 | v::r,o,w,ccs,e,fz,h=>by
  obtain⟨c1,h1,h2⟩:=heap_setCell_cells w ⟨B,o,none⟩ v h
  obtain⟨c2,h3,h4⟩:=heap_setCells_cells B r (o+1) (w.setCell ⟨B,o,none⟩ v) h1
  exact⟨c2,h3,by rw[h4,h2]⟩
theorem size_setCells(B:Nat):∀(vs:List Value)(o:Nat)(w:World),(w.setCells B o vs).heap.size=w.heap.size
 | [],_,_=>rfl
 | v::r,o,w=>by rw[World.setCells,size_setCells B r,World.size_setCell]
theorem frozen_of_cells{w:World}{B:Nat}{ccs:Array Value}{e:TypeId}(h:w.heap[B]?=some (.cells ccs e (0,0)))(o:Nat):w.frozen? ⟨B,o,none⟩=false:=by
 simp[World.frozen?,h]
theorem cell_lt{w:World}{B o:Nat}{ccs:Array Value}{e:TypeId}{fz:Nat×Nat}(h:w.heap[B]?=some (.cells ccs e fz))(ho:o<ccs.size):(w.cell? ⟨B,o,none⟩).isSome=true:=by
 simp[World.cell?,h,ho]
def TOk(P:Program)(T:TypeId→Option TI):Prop:=∀t ti,T t=some ti→mkTI P t=some ti∧ti.good=true
section
variable {P:Program} {T:TypeId→Option TI} {t:TypeId} {ti:TI}
theorem TOk.info(h:TOk P T)(ht:T t=some ti):∃i z u,P.info? t=some i∧i.zero=some z∧P.underlying t=some u∧i.size=ti.size∧i.bytes=ti.bytes∧z.cells.toList=ti.zero∧isAggD u=ti.agg∧mkTD u=ti.d∧
  (ti.eqp=if isAggD u&&!P.eqGuardType P.depth t then plainKinds P 20 t else none)∧ti.zero.length=ti.size∧(∀x∈ti.zero,one x)∧(ti.agg=true∨ti.size=1):=by
 obtain⟨h1,h2⟩:=h t ti ht
 unfold mkTI at h1
 split at h1
 ·rename_i i hi
  split at h1
  ·rename_i z hz
   split at h1
   ·rename_i u hu
    split at h1
    case isFalse=>cases h1
    simp only[Option.some.injEq]at h1
    subst h1
    simp only[TI.good,Bool.and_eq_true,beq_iff_eq,Bool.or_eq_true,List.all_eq_true]at h2
    exact⟨i,z,u,hi,hz,hu,rfl,rfl,rfl,rfl,rfl,rfl,h2.1.1,fun x hx=>isOne_one (h2.1.2 x hx),h2.2⟩
   ·cases h1
  ·cases h1
 ·cases h1
theorem TOk.zagg(h:TOk P T)(ht:T t=some ti){i:TypeInfo}{z:Value}(hi:P.info? t=some i)(hz:i.zero=some z):zAgg z=ti.agg:=by
 obtain⟨h1,h2⟩:=h t ti ht
 unfold mkTI at h1
 rw[hi]at h1
 simp only[hz]at h1
 split at h1
 ·split at h1
  ·rename_i hza
   simp only[Option.some.injEq]at h1
   subst h1
   exact hza
  ·cases h1
 ·cases h1
theorem TOk.under(h:TOk P T)(ht:T t=some ti):∃u,P.underlying t=some u∧mkTD u=ti.d∧isAggD u=ti.agg:=by
 obtain⟨i,z,u,_,_,h3,_,_,_,h7,h8,_⟩:=h.info ht
 exact⟨u,h3,h8,h7⟩
theorem under_slice{u:TypeDesc}{e:TypeId}(h:mkTD u=.slice e):u=.slice e:=by cases u<;>simp[mkTD]at h;rw[h]
theorem under_array{u:TypeDesc}{n:Nat}{e:TypeId}(h:mkTD u=.array n e):u=.array n e:=by cases u<;>simp[mkTD]at h;rw[h.1,h.2]
theorem under_int{u:TypeDesc}{k:IntKind}(h:mkTD u=.int k):u=.int k:=by cases u<;>simp[mkTD]at h;rw[h]
theorem under_bool{u:TypeDesc}(h:mkTD u=.bool):u=.bool:=by cases u<;>simp[mkTD]at h;rfl
theorem under_str{u:TypeDesc}(h:mkTD u=.str):u=.string:=by cases u<;>simp[mkTD]at h;rfl
theorem under_map{u:TypeDesc}{k e:TypeId}(h:mkTD u=.map k e):u=.map k e:=by cases u<;>simp[mkTD]at h;rw[h.1,h.2]
theorem under_ptr{u:TypeDesc}(h:mkTD u=.ptr):∃e,u=.pointer e:=by cases u<;>simp[mkTD]at h;exact⟨_,rfl⟩
theorem under_struct{u:TypeDesc}{fs:List (Nat×TypeId)}(h:mkTD u=.struct fs):∃fields:Array Field,u=.struct fields∧fs=fields.toList.map fun f=>(f.offset,f.type):=by
 cases u<;>simp[mkTD]at h;exact⟨_,rfl,h.symm⟩
theorem TOk.slice(h:TOk P T)(ht:T t=some ti){e:TypeId}(hd:ti.d=.slice e):P.underlying t=some (.slice e):=by
 obtain⟨u,h1,h2,_⟩:=h.under ht;rw[h1,under_slice (h2.trans hd)]
theorem TOk.array(h:TOk P T)(ht:T t=some ti){n:Nat}{e:TypeId}(hd:ti.d=.array n e):P.underlying t=some (.array n e):=by
 obtain⟨u,h1,h2,_⟩:=h.under ht;rw[h1,under_array (h2.trans hd)]
theorem TOk.int(h:TOk P T)(ht:T t=some ti){k:IntKind}(hd:ti.d=.int k):P.underlying t=some (.int k):=by
 obtain⟨u,h1,h2,_⟩:=h.under ht;rw[h1,under_int (h2.trans hd)]
theorem TOk.bool(h:TOk P T)(ht:T t=some ti)(hd:ti.d=.bool):P.underlying t=some .bool:=by
 obtain⟨u,h1,h2,_⟩:=h.under ht;rw[h1,under_bool (h2.trans hd)]
theorem TOk.str(h:TOk P T)(ht:T t=some ti)(hd:ti.d=.str):P.underlying t=some .string:=by
 obtain⟨u,h1,h2,_⟩:=h.under ht;rw[h1,under_str (h2.trans hd)]
theorem TOk.map(h:TOk P T)(ht:T t=some ti){k e:TypeId}(hd:ti.d=.map k e):P.underlying t=some (.map k e):=by
 obtain⟨u,h1,h2,_⟩:=h.under ht;rw[h1,under_map (h2.trans hd)]
theorem TOk.ptr(h:TOk P T)(ht:T t=some ti)(hd:ti.d=.ptr):∃e,P.underlying t=some (.pointer e):=by
 obtain⟨u,h1,h2,_⟩:=h.under ht;obtain⟨e,rfl⟩:=under_ptr (h2.trans hd);exact⟨e,h1⟩
theorem TOk.struct(h:TOk P T)(ht:T t=some ti){fs:List (Nat×TypeId)}(hd:ti.d=.struct fs):
  ∃fields:Array Field,P.underlying t=some (.struct fields)∧fs=fields.toList.map fun f=>(f.offset,f.type):=by
 obtain⟨u,h1,h2,_⟩:=h.under ht;obtain⟨fields,rfl,h3⟩:=under_struct (h2.trans hd);exact⟨fields,h1,h3⟩
theorem run_underlying_of{d:TypeDesc}(h:P.underlying t=some d)(w:World):(underlying t).run P w=.ok d w:=by
 simp[underlying,h]
theorem TOk.run_size(h:TOk P T)(ht:T t=some ti)(w:World):(sizeOf t).run P w=.ok ti.size w:=by
 obtain⟨i,z,u,h1,_,_,h4,_⟩:=h.info ht
 simp[sizeOf,typeInfo,h1,Result.andThen,h4]
theorem TOk.run_isAgg(h:TOk P T)(ht:T t=some ti)(w:World):(isAgg t).run P w=.ok ti.agg w:=by
 obtain⟨u,h1,_,h3⟩:=h.under ht
 rw[←h3]
 simp only[isAgg,Sem.run_bind,run_underlying_of h1,Result.andThen]
 cases u<;>simp[isAggD]
theorem TOk.run_zero(h:TOk P T)(ht:T t=some ti)(w:World):∃z,(zeroValue t).run P w=.ok z w∧z.cells.toList=ti.zero:=by
 obtain⟨i,z,u,h1,h2,_,_,_,h6,_⟩:=h.info ht
 exact⟨z,by simp[zeroValue,typeInfo,h1,h2,Result.andThen],h6⟩
end
structure OpOk(P:Program)(ro:Nat)(g:Gh)(H:Hp)(w:World)(o:Oper)(a:Act)(e:Eff):Prop where
 out:∃(c:Value)(nx:Next)(w':World)(g':Gh)(X:Nat→Prop),
  (execOp a.eval o).run P w=.ok nx w'∧(nx=.value c∨(nx=.skip∧c=undef))∧Keeps g w g' w' X∧MR g' ro (putB H e.up) w'∧
  (∀t B,g.ow B=some (.slot t)→X B→e.un=some t)∧(∀B l,g.ow B=some l→l.shut ro→¬X B)∧
  (∀(L:Nat)(lr:Loop),X L→w.heap[L]?=some (Obj.loop lr)→∃lr':Loop,w'.heap[L]?=some (Obj.loop lr')∧lr'.defers=lr.defers)∧
  SR g' w' (.slot (o.dst.getD 0)) e.v c
 un:∀t,e.un=some t→t<16000
theorem OpOk.pure{P:Program}{ro:Nat}{g:Gh}{H:Hp}{w:World}{o:Oper}{a:Act}{v:AV}{rd:Rd}(hm:MR g ro H w)
  (h:∃c,(execOp a.eval o).run P w=.ok (.value c) w∧VR g.imm g.mu v c):OpOk P ro g H w o a { v,rd }:=by
 obtain⟨c,h1,h2⟩:=h
 exact⟨⟨c,_,w,g,fun _=>False,h1,.inl rfl,Keeps.refl _ _ _,hm,fun _ _ _ h=>h.elim,fun _ _ _ _ h=>h,fun _ _ h=>h.elim,h2.sr⟩,fun t ht=>by cases ht⟩
theorem wrapK_eq(k:IntKind)(n:Int):wrapK k n=k.wrap n:=by
 cases k with
 | i64 =>
  simp only[wrapK];split
  ·rename_i h;simp only[IntKind.wrap,IntKind.bits,IntKind.signed];simp;omega
  ·rfl
 | u8 =>
  simp only[wrapK];split
  ·rename_i h;simp only[IntKind.wrap,IntKind.bits,IntKind.signed];simp;omega
  ·rfl
 | _=>rfl
theorem run_eqGuard_int{P:Program}{w:World}(op:BinOp)(t:TypeId)(x y:Operand)(k k':IntKind)(a b:Int):(eqGuard op t x y (.int k a) (.int k' b)).run P w=.ok () w:=by
 unfold eqGuard;cases op<;>simp
theorem run_eqGuard_bool{P:Program}{w:World}(op:BinOp)(t:TypeId)(x y:Operand)(a b:Bool):(eqGuard op t x y (.bool a) (.bool b)).run P w=.ok () w:=by
 unfold eqGuard;cases op<;>simp
theorem run_eqGuard_string{P:Program}{w:World}(op:BinOp)(t:TypeId)(x y:Operand)(a b:ByteArray):(eqGuard op t x y (.string a) (.string b)).run P w=.ok () w:=by
 unfold eqGuard;cases op<;>simp
theorem binI_ok{P:Program}{w:World}{op:BinOp}{t:TypeId}{k k':IntKind}{a b:Int}{v:AV}(h:binI op k a k' b=some v):
  ∃c,(binOp op t (.int k a) (.int k' b)).run P w=.ok c w∧v=.lit c:=by
 unfold binI at h
 cases op<;>simp only at h<;>first
  | (simp only[shiftI]at h
     split at h
     ·simp at h
     ·rename_i hb
      simp only[Option.map_some,Option.some.injEq]at h
      subst h
      refine⟨_,?_,rfl⟩
      simp[binOp,Op.shift,hb,Sem.run_pure])
  | (split at h
     ·rename_i hk
      subst hk
      simp only[arith,cmpI]at h
      first
       | (simp only[Option.map_some,Option.some.injEq]at h
          subst h
          refine⟨_,?_,rfl⟩
          simp[binOp,Op.intArith,Op.intBits,Op.intCmp,wrapK_eq,Sem.run_pure])
       | (split at h
          ·simp at h
          ·rename_i hb
           simp only[Option.map_some,Option.some.injEq]at h
           subst h
           refine⟨_,?_,rfl⟩
           simp[binOp,Op.intDiv,hb,wrapK_eq,Sem.run_pure])
     ·cases h)
section
variable {P:Program} {w:World} {t:TypeId}
theorem equalIn_bool(d:Nat)(hu:P.underlying t=some .bool)(a b:Bool):(Op.equalIn (d+1) t (.bool a) (.bool b)).run P w=.ok (a == b) w:=by
 simp[Op.equalIn,run_underlying_of hu]
theorem equalIn_int(d:Nat){k:IntKind}(hu:P.underlying t=some (.int k))(k':IntKind)(a b:Int):(Op.equalIn (d+1) t (.int k' a) (.int k' b)).run P w=.ok (a == b) w:=by
 simp[Op.equalIn,run_underlying_of hu]
theorem equal_bool(hu:P.underlying t=some .bool)(a b:Bool):(Op.equal t (.bool a) (.bool b)).run P w=.ok (a == b) w:=equalIn_bool 9999 hu a b
theorem equal_nil_ptr(hu:∃e,P.underlying t=some (.pointer e))(b:Option Addr):(Op.equal t (.pointer none) (.pointer b)).run P w=.ok b.isNone w:=by
 obtain⟨e,hu⟩:=hu
 have key:∀d,(Op.equalIn (d+1) t (.pointer none) (.pointer b)).run P w=.ok b.isNone w:=fun d=>by simp[Op.equalIn,run_underlying_of hu]
 exact key 9999
theorem equal_ptr_nil(hu:∃e,P.underlying t=some (.pointer e))(a:Addr):(Op.equal t (.pointer (some a)) (.pointer none)).run P w=.ok false w:=by
 obtain⟨e,hu⟩:=hu
 have key:∀d,(Op.equalIn (d+1) t (.pointer (some a)) (.pointer none)).run P w=.ok false w:=fun d=>by simp[Op.equalIn,run_underlying_of hu]
 exact key 9999
theorem equal_nil_slice(hu:∃e,P.underlying t=some (.slice e))(b:Option Addr)(l c l' c':Nat):(Op.equal t (.slice none l c) (.slice b l' c')).run P w=.ok b.isNone w:=by
 obtain⟨e,hu⟩:=hu
 have key:∀d,(Op.equalIn (d+1) t (.slice none l c) (.slice b l' c')).run P w=.ok b.isNone w:=fun d=>by simp[Op.equalIn,run_underlying_of hu]
 exact key 9999
theorem equal_slice_nil(hu:∃e,P.underlying t=some (.slice e))(a:Addr)(l c l' c':Nat):(Op.equal t (.slice (some a) l c) (.slice none l' c')).run P w=.ok false w:=by
 obtain⟨e,hu⟩:=hu
 have key:∀d,(Op.equalIn (d+1) t (.slice (some a) l c) (.slice none l' c')).run P w=.ok false w:=fun d=>by simp[Op.equalIn,run_underlying_of hu]
 exact key 9999
end
theorem run_eql{P:Program}{w:World}{op:BinOp}{t:TypeId}{x y:Value}{v:AV}{r:Bool}(hn:neg? op r=some v)
  (h1:binOp .eql t x y=(do pure (.bool (←Op.equal t x y)))) (h2:binOp .neq t x y=(do pure (.bool (!(←Op.equal t x y)))))
  (h:(Op.equal t x y).run P w=.ok r w):∃c,(binOp op t x y).run P w=.ok c w∧v=.lit c:=by
 unfold neg? at hn
 split at hn
 ·cases hn;exact⟨.bool r,by rw[h1];simp[h,Result.andThen],rfl⟩
 ·cases hn;exact⟨.bool !r,by rw[h2];simp[h,Result.andThen],rfl⟩
 ·cases hn
def cellsEqV:List Bool→List Value→List Value→Option Bool
 | [],[],[]=>some true
 | t::ts,a::as,b::bs=>match cellEq t a b,cellsEqV ts as bs with
  | some x,some y=>some (x&&y)
  | _,_=>none
 | _,_,_=>none
theorem cellEq_spec{t:Bool}{a b:Value}{r:Bool}(h:cellEq t a b=some r):
  (t=false∧∃k x y,a=.int k x∧b=.int k y∧r=(x == y))∨(t=true∧∃x y,a=.bool x∧b=.bool y∧r=(x == y)):=by
 unfold cellEq at h
 split at h
 ·split at h
  ·rename_i k x k' y hk;subst hk;simp at h;exact .inl ⟨rfl,k,x,y,rfl,rfl,h.symm⟩
  ·cases h
 ·simp at h;exact .inr ⟨rfl,_,_,rfl,rfl,h.symm⟩
 ·cases h
theorem cellsEqV_append:∀ {k1 k2:List Bool} {a1 a2 b1 b2:List Value} {r:Bool},a1.length=k1.length→b1.length=k1.length→cellsEqV (k1++k2) (a1++a2) (b1++b2)=some r→
  ∃r1 r2,cellsEqV k1 a1 b1=some r1∧cellsEqV k2 a2 b2=some r2∧r=(r1&&r2)
 | [],k2,[],a2,[],b2,r,_,_,h=>⟨true,r,rfl,h,by simp⟩
 | t::k1,k2,a::a1,a2,b::b1,b2,r,ha,hb,h=>by
  simp only[List.cons_append,cellsEqV]at h
  split at h
  ·rename_i x y hx hy
   simp only[Option.some.injEq]at h
   obtain⟨r1,r2,h1,h2,h3⟩:=cellsEqV_append (by simpa using ha) (by simpa using hb) hy
   exact⟨x&&r1,r2,by simp[cellsEqV,hx,h1],h2,by rw[←h,h3,Bool.and_assoc]⟩
  ·cases h
 | [],_,_::_,_,_,_,_,ha,_,_=>by simp at ha
 | [],_,[],_,_::_,_,_,_,hb,_=>by simp at hb
 | _::_,_,[],_,_,_,_,ha,_,_=>by simp at ha
 | _::_,_,_::_,_,[],_,_,_,hb,_=>by simp at hb
theorem cellsEqV_length:∀ {ks:List Bool} {a b:List Value} {r:Bool},cellsEqV ks a b=some r→a.length=ks.length∧b.length=ks.length
 | [],[],[],_,_=>⟨rfl,rfl⟩
 | t::ks,a::as,b::bs,r,h=>by
  simp only[cellsEqV]at h
  split at h
  ·rename_i x y hx hy
   obtain⟨h1,h2⟩:=cellsEqV_length hy
   simp[h1,h2]
  ·cases h
 | [],_::_,_,_,h=>by simp[cellsEqV]at h
 | [],[],_::_,_,h=>by simp[cellsEqV]at h
 | _::_,[],_,_,h=>by simp[cellsEqV]at h
 | _::_,_::_,[],_,h=>by simp[cellsEqV]at h
section
variable {P:Program} {w:World}
def partV(agg:Bool)(l:List Value):Value:=if agg then .agg l.toArray else l.headD undef
theorem run_part{t:TypeId}{u:TypeDesc}{n:Nat}(hu:P.underlying t=some u)(hs:P.cellsOf t=n)(ha:isAggD u=true∨n=1)(xs:Array Value)(off:Nat)(hl:off+n≤xs.size):
  (part t xs off).run P w=.ok (partV (isAggD u) ((xs.toList.drop off).take n)) w:=by
 have hi:∃i,P.info? t=some i:=by
  unfold Program.underlying at hu
  split at hu
  ·exact⟨_,by assumption⟩
  ·exact⟨_,by assumption⟩
  ·cases hu
 obtain⟨i,hi⟩:=hi
 have hsz:i.size=n:=by rw[←hs];simp[Program.cellsOf,hi]
 have hagg:(isAgg t).run P w=.ok (isAggD u) w:=by
  simp only[isAgg,Sem.run_bind,run_underlying_of hu,Result.andThen]
  cases u<;>simp[isAggD]
 simp only[part,Sem.run_bind,hagg,Result.andThen]
 cases h:isAggD u with
 | true =>
  simp only[if_true,Sem.run_bind,sizeOf,typeInfo,run_program,Result.andThen,hi,Sem.run_pure,hsz,partV]
  congr 2
  apply Array.ext'
  simp
 | false =>
  simp only[Bool.false_eq_true,if_false,partV]
  rcases ha with ha | ha
  ·rw[h]at ha;cases ha
  ·subst ha
   have hlt:off<xs.size:=by omega
   simp only[Array.getElem?_eq_getElem hlt,Sem.run_pure]
   congr 1
   have:(xs.toList.drop off).take 1=[xs[off]]:=by
    rw[List.take_one,List.head?_drop]
    simp[Array.getElem?_eq_getElem hlt]
   rw[this];rfl
def EqOk(P:Program)(t:TypeId)(ks:List Bool)(n:Nat):Prop :=
 ∃u,P.underlying t=some u∧(isAggD u=true∨ks.length=1)∧
  ∀(w:World)(d:Nat),n≤d→∀(xs ys:List Value)(r:Bool),cellsEqV ks xs ys=some r→(Op.equalIn d t (partV (isAggD u) xs) (partV (isAggD u) ys)).run P w=.ok r w
theorem eqFields_ok(n:Nat)(hrec:∀t ks,plainKinds P n t=some ks→EqOk P t ks n)(d:Nat)(hd:n≤d)(xs ys:Array Value):∀(fs:List Field)(acc ks:List Bool)(r:Bool),
  plainKinds.plainFields P (plainKinds P n) fs acc=some ks→∀(w:World),acc.length≤xs.size→acc.length≤ys.size→cellsEqV (ks.drop acc.length) (xs.toList.drop acc.length) (ys.toList.drop acc.length)=some r→
  (Op.eqFields d xs ys fs).run P w=.ok r w∧acc <+: ks
 | [],acc,ks,r,h,w,hx,hy,he=>by
  simp only[plainKinds.plainFields,Option.some.injEq]at h
  subst h
  simp at he
  have:xs.toList.drop acc.length=[]∧ys.toList.drop acc.length=[]∧r=true:=by
   cases h1:xs.toList.drop acc.length with
   | cons=>rw[h1]at he;simp[cellsEqV]at he
   | nil =>
    cases h2:ys.toList.drop acc.length with
    | cons=>rw[h1,h2]at he;simp[cellsEqV]at he
    | nil=>rw[h1,h2]at he;simp[cellsEqV]at he;exact⟨rfl,rfl,he⟩
  obtain⟨_,_,rfl⟩:=this
  exact⟨by simp[Op.eqFields],List.prefix_refl _⟩
 | f::fs,acc,ks,r,h,w,hx,hy,he=>by
  simp only[plainKinds.plainFields]at h
  split at h
  ·rename_i kf hkf
   split at h
   ·rename_i hc
    obtain⟨hc1,hc2,hc3⟩:=hc
    obtain⟨u,hu,hagg,hok⟩:=hrec _ _ hkf
    have hpre:(acc++kf) <+: ks:=by
     have aux:∀(fs:List Field)(acc ks:List Bool),plainKinds.plainFields P (plainKinds P n) fs acc=some ks→acc <+: ks:=by
      intro fs
      induction fs with
      | nil=>intro acc ks h;simp only[plainKinds.plainFields,Option.some.injEq]at h;subst h;exact List.prefix_refl _
      | cons f fs ih =>
       intro acc ks h
       simp only[plainKinds.plainFields]at h
       split at h
       ·split at h
        ·exact(List.prefix_append _ _).trans (ih _ _ h)
        ·cases h
       ·cases h
     exact aux fs _ _ h
    obtain⟨rest,rfl⟩:=hpre
    have hks:(acc++kf++rest).drop acc.length=kf++rest:=by rw[List.append_assoc,List.drop_left]
    rw[hks]at he
    obtain⟨hl1,hl2⟩:=cellsEqV_length he
    simp only[List.length_drop,Array.length_toList,List.length_append]at hl1 hl2
    have e1:xs.toList.drop acc.length=(xs.toList.drop acc.length).take kf.length++xs.toList.drop (acc++kf).length:=by
     rw[List.length_append,←List.drop_drop,List.take_append_drop]
    have e2:ys.toList.drop acc.length=(ys.toList.drop acc.length).take kf.length++ys.toList.drop (acc++kf).length:=by
     rw[List.length_append,←List.drop_drop,List.take_append_drop]
    rw[e1,e2]at he
    obtain⟨r1,r2,h1,h2,rfl⟩:=cellsEqV_append (by simp;omega) (by simp;omega) he
    have hp1:=run_part (w:=w) hu hc3 hagg xs acc.length (by omega)
    have hp2:=run_part (w:=w) hu hc3 hagg ys acc.length (by omega)
    have he1:=hok w d hd _ _ r1 h1
    have hrest:=eqFields_ok n hrec d hd xs ys fs (acc++kf) (acc++kf++rest) r2 h w (by simp;omega) (by simp;omega) (by rw[List.drop_left];exact h2)
    refine⟨?_,by rw[List.append_assoc];exact List.prefix_append _ _⟩
    simp only[Op.eqFields,ne_eq,hc1,not_false_eq_true,if_true,Sem.run_bind,hc2,hp1,Result.andThen,hp2,he1]
    cases r1 with
    | true=>simpa using hrest.1
    | false=>simp
   ·cases h
  ·cases h
theorem eqElems_ok{e:TypeId}{u:TypeDesc}{kf:List Bool}{i:TypeInfo}(hu:P.underlying e=some u)(hagg:isAggD u=true∨kf.length=1)(hc:P.cellsOf e=kf.length)(d:Nat)
  (hok:∀(w:World)(xs ys:List Value)(r:Bool),cellsEqV kf xs ys=some r→(Op.equalIn d e (partV (isAggD u) xs) (partV (isAggD u) ys)).run P w=.ok r w) (k:Option Bool×Unit→Sem Bool) (hk1:∀r,k (some r,())=pure r) (hk2:k (none,())=pure true) (xs ys:Array Value):∀(m s:Nat)(r:Bool)(w:World),
  s*kf.length≤xs.size→s*kf.length≤ys.size→
  cellsEqV (List.replicate m kf).flatten (xs.toList.drop (s*kf.length)) (ys.toList.drop (s*kf.length))=some r→
  ((Sem.run P (forIn (List.range' s m 1) ((none,()):Option Bool×Unit) fun i __s=>do
      let a ←part e xs (i*kf.length)
      let b ←part e ys (i*kf.length)
      let c ←Op.equalIn d e a b
      if (!c)=true then pure (ForInStep.done (some false,())) else pure (ForInStep.yield (none,()))) w).andThen
    fun a w'=>Sem.run P (k a) w')=Result.ok r w
 | 0,s,r,w,hx,hy,h=>by
  have:xs.toList.drop (s*kf.length)=[]∧ys.toList.drop (s*kf.length)=[]∧r=true:=by
   simp only[List.replicate_zero,List.flatten_nil]at h
   cases h1:xs.toList.drop (s*kf.length) with
   | cons=>rw[h1]at h;simp[cellsEqV]at h
   | nil =>
    cases h2:ys.toList.drop (s*kf.length) with
    | cons=>rw[h1,h2]at h;simp[cellsEqV]at h
    | nil=>rw[h1,h2]at h;simp[cellsEqV]at h;exact⟨rfl,rfl,h⟩
  obtain⟨_,_,rfl⟩:=this
  simp[Result.andThen,hk2]
 | m+1,s,r,w,hx,hy,h=>by
  simp only[List.replicate_succ,List.flatten_cons]at h
  obtain⟨hl1,hl2⟩:=cellsEqV_length h
  simp only[List.length_drop,Array.length_toList,List.length_append]at hl1 hl2
  have es:(s+1)*kf.length=s*kf.length+kf.length:=by rw[Nat.add_mul];omega
  have e1:xs.toList.drop (s*kf.length)=(xs.toList.drop (s*kf.length)).take kf.length++xs.toList.drop ((s+1)*kf.length):=by
   rw[es,←List.drop_drop,List.take_append_drop]
  have e2:ys.toList.drop (s*kf.length)=(ys.toList.drop (s*kf.length)).take kf.length++ys.toList.drop ((s+1)*kf.length):=by
   rw[es,←List.drop_drop,List.take_append_drop]
  rw[e1,e2]at h
  obtain⟨r1,r2,h1,h2,rfl⟩:=cellsEqV_append (by simp;omega) (by simp;omega) h
  have hp1:=run_part (w:=w) hu hc hagg xs (s*kf.length) (by omega)
  have hp2:=run_part (w:=w) hu hc hagg ys (s*kf.length) (by omega)
  have he1:=hok w _ _ r1 h1
  have hrest:=eqElems_ok hu hagg hc d hok k hk1 hk2 xs ys m (s+1) r2 w (by omega) (by omega) h2 (i:=i)
  simp only[List.range'_succ,List.forIn_cons,Sem.run_bind,hp1,Result.andThen,hp2,he1]
  cases r1 with
  | true=>simpa [Result.andThen] using hrest
  | false=>simp[hk1]
theorem plainKinds_ok:∀(n:Nat)(t:TypeId)(ks:List Bool),plainKinds P n t=some ks→EqOk P t ks n
 | 0,t,ks,h=>by simp[plainKinds]at h
 | n+1,t,ks,h=>by
  simp only[plainKinds]at h
  split at h
  ·rename_i hu
   simp only[Option.some.injEq]at h;subst h
   refine⟨_,hu,.inr rfl,fun w d hd xs ys r he=>?_⟩
   obtain⟨d,rfl⟩:∃m,d=m+1:=⟨d-1,by omega⟩
   match xs,ys,he with
   | [a],[b],he =>
    simp only[cellsEqV]at he
    split at he
    ·rename_i x y hx hy
     simp only[Option.some.injEq]at he hy;subst he;subst hy
     rcases cellEq_spec hx with⟨h1,_⟩ | ⟨_,x',y',rfl,rfl,rfl⟩
     ·cases h1
     ·simpa [partV,isAggD] using equalIn_bool (w:=w) d hu x' y'
    ·cases he
   | [],_,he | [_],[],he | [_],_::_::_,he=>simp[cellsEqV]at he
   | _::_::_,ys,he=>have:=(cellsEqV_length he).1;simp at this
  ·rename_i k hu
   simp only[Option.some.injEq]at h;subst h
   refine⟨_,hu,.inr rfl,fun w d hd xs ys r he=>?_⟩
   obtain⟨d,rfl⟩:∃m,d=m+1:=⟨d-1,by omega⟩
   match xs,ys,he with
   | [a],[b],he =>
    simp only[cellsEqV]at he
    split at he
    ·rename_i x y hx hy
     simp only[Option.some.injEq]at he hy;subst he;subst hy
     rcases cellEq_spec hx with⟨_,k',x',y',rfl,rfl,rfl⟩ | ⟨h1,_⟩
     ·simpa [partV,isAggD] using equalIn_int (w:=w) d hu k' x' y'
     ·cases h1
    ·cases he
   | [],_,he | [_],[],he | [_],_::_::_,he=>simp[cellsEqV]at he
   | _::_::_,ys,he=>have:=(cellsEqV_length he).1;simp at this
  ·rename_i fs hu
   split at h
   ·cases h
   ·rename_i hst
    refine⟨_,hu,.inl rfl,fun w d hd xs ys r he=>?_⟩
    obtain⟨d,rfl⟩:∃m,d=m+1:=⟨d-1,by omega⟩
    have hf:P.fieldsOf t=fs:=by simp[Program.fieldsOf,hu]
    simp only[isAggD,partV,if_true]
    rw[run_equalIn_struct w d t _ _ (by rw[hf];exact hu) (by simpa using hst),hf]
    exact(eqFields_ok n (plainKinds_ok n) d (by omega) xs.toArray ys.toArray fs.toList [] ks r h w (by simp) (by simp) (by simpa using he)).1
  ·rename_i len e hu
   split at h
   ·rename_i kf hkf
    split at h
    ·rename_i hc
     simp only[Option.some.injEq]at h;subst h
     obtain⟨u,hue,hagg,hok⟩:=plainKinds_ok n e kf hkf
     refine⟨_,hu,.inl rfl,fun w d hd xs ys r he=>?_⟩
     obtain⟨d,rfl⟩:∃m,d=m+1:=⟨d-1,by omega⟩
     have hi:∃i,P.info? e=some i:=by
      have:=hue
      unfold Program.underlying at this
      split at this
      ·exact⟨_,by assumption⟩
      ·exact⟨_,by assumption⟩
      ·cases this
     obtain⟨i,hi⟩:=hi
     have hsz:i.size=kf.length:=by rw[←hc];simp[Program.cellsOf,hi]
     simp only[isAggD,partV,if_true]
     simp only[Op.equalIn,Sem.run_bind,run_underlying_of hu,Result.andThen_ok,sizeOf,typeInfo,run_program,hi,Sem.run_pure,hsz]
     rw[Std.Legacy.Range.forIn_eq_forIn_range',show List.range' ([:len]:Std.Legacy.Range).start ([:len]:Std.Legacy.Range).size ([:len]:Std.Legacy.Range).step=List.range' 0 len 1 from by simp[Std.Legacy.Range.size]]
     exact eqElems_ok (i:=i) hue hagg hc d (fun w xs ys r=>hok w d (by omega) xs ys r) _ (fun _=>rfl) rfl xs.toArray ys.toArray len 0 r w (by simp) (by simp) (by simpa using he)
    ·cases h
   ·cases h
  ·cases h
theorem run_equal_agg{T:TypeId→Option TI}(hT:TOk P T){t:TypeId}{ti:TI}(ht:T t=some ti){ks:List Bool}(hk:ti.eqp=some ks){xs ys:List Value}{r:Bool}(h:cellsEqV ks xs ys=some r)(w:World):
  (Op.equal t (.agg xs.toArray) (.agg ys.toArray)).run P w=.ok r w∧P.eqGuardType P.depth t=false:=by
 obtain⟨i,z,u,_,_,hu,_,_,_,_,_,hq,_⟩:=hT.info ht
 rw[hk]at hq
 split at hq
 ·rename_i hc
  simp only[Bool.and_eq_true,Bool.not_eq_true']at hc
  obtain⟨u',hu',_,hok⟩:=plainKinds_ok 20 t ks hq.symm
  rw[hu]at hu'
  cases hu'
  have:=hok w 10000 (by omega) xs ys r h
  rw[hc.1]at this
  simp only[partV,if_true]at this
  exact⟨this,hc.2⟩
 ·cases hq
end
variable {P:Program} {T:TypeId→Option TI} {imm:Imm} {mu:Mu} {w:World}
theorem VR_lit{x v:Value}(h:VR imm mu (.lit x) v):v=x:=by simpa [VR] using h
theorem VRs_nil{cs:List Value}(h:VRs imm mu [] cs):cs=[]:=by simpa [VRs] using h
theorem VRs_cons{a:AV}{as:List AV}{cs:List Value}(h:VRs imm mu (a::as) cs):∃c cs',cs=c::cs'∧VR imm mu a c∧VRs imm mu as cs':=by simpa [VRs] using h
theorem cellsEq_V:∀ {ks:List Bool} {xs ys:List AV} {cs ds:List Value} {r:Bool},VRs imm mu xs cs→VRs imm mu ys ds→cellsEq ks xs ys=some r→cellsEqV ks cs ds=some r
 | [],[],[],cs,ds,r,hx,hy,h=>by rw[VRs_nil hx,VRs_nil hy];simpa [cellsEq,cellsEqV] using h
 | t::ks,x::xs,y::ys,cs,ds,r,hx,hy,h=>by
  obtain⟨c,cs',rfl,h1,h2⟩:=VRs_cons hx
  obtain⟨d,ds',rfl,h3,h4⟩:=VRs_cons hy
  unfold cellsEq at h
  split at h
  ·rename_i he1 he2 _;cases he1
  ·rename_i a as b bs he1 he2 he3
   cases he1;cases he2;cases he3
   rw[VR_lit h1,VR_lit h3]
   split at h
   ·rename_i p q hp hq
    simp only[cellsEqV,hp,cellsEq_V h2 h4 hq];exact h
   ·cases h
  ·cases h
 | [],x::xs,ys,_,_,_,_,_,h=>by simp[cellsEq]at h
 | [],[],y::ys,_,_,_,_,_,h=>by simp[cellsEq]at h
 | _::_,[],ys,_,_,_,_,_,h=>by simp[cellsEq]at h
 | _::_,_::_,[],_,_,_,_,_,h=>by simp[cellsEq]at h
theorem run_eqGuard_other{op:BinOp}{t:TypeId}{X Y:Operand}{a b:Value}(h1:a≠.nilIface)(h2:∀cs,a≠.agg cs):(eqGuard op t X Y a b).run P w=.ok () w:=by
 unfold eqGuard
 cases a<;>first | (exact absurd rfl h1) | (exact absurd rfl (h2 _)) | (cases op<;>simp)
theorem abin_ok(hT:TOk P T){op:BinOp}{t:TypeId}{X Y:Operand}{x y v:AV}{a b:Value}(hx:VR imm mu x a)(hy:VR imm mu y b)(h:abin T op t x y=some v):
  ∃c,(do eqGuard op t X Y a b;binOp op t a b:Sem Value).run P w=.ok c w∧VR imm mu v c:=by
 unfold abin at h
 split at h
 ·
  have e1:=VR_lit hx;have e2:=VR_lit hy;subst e1;subst e2
  obtain⟨c,h1,rfl⟩:=binI_ok (P:=P) (w:=w) (t:=t) h
  exact⟨c,by simp only[Sem.run_bind,run_eqGuard_int,Result.andThen,h1],by simp[VR]⟩
 ·have e1:=VR_lit hx;have e2:=VR_lit hy;subst e1;subst e2
  split at h
  ·rename_i ht
   obtain⟨c,h1,rfl⟩:=run_eql (P:=P) (w:=w) (x:=.bool _) (y:=.bool _) h rfl rfl (equal_bool (hT.bool ht rfl) _ _)
   exact⟨c,by simp only[Sem.run_bind,run_eqGuard_bool,Result.andThen,h1],by simp[VR]⟩
  ·cases h
 ·have e1:=VR_lit hx;have e2:=VR_lit hy;subst e1;subst e2
  split at h
  ·split at h
   ·rename_i hs
    cases h
    refine⟨_,?_,by simp[VR];rfl⟩
    simp only[Sem.run_bind,run_eqGuard_string,Result.andThen,binOp,Op.stringOp]
    rw[if_neg]
    ·rfl
    ·show ¬(_ > IntKind.i64.max)
     simp[IntKind.max,IntKind.signed,IntKind.bits];omega
   ·cases h
  ·cases h
   refine⟨_,?_,by simp[VR];rfl⟩
   simp only[Sem.run_bind,run_eqGuard_string,Result.andThen,binOp,Op.stringOp,Sem.run_pure]
  ·cases h
   refine⟨_,?_,by simp[VR];rfl⟩
   simp only[Sem.run_bind,run_eqGuard_string,Result.andThen,binOp,Op.stringOp,Sem.run_pure]
  ·cases h
 ·
  rename_i xs ys
  simp only[VR]at hx hy
  obtain⟨cs,rfl,hcs,_⟩:=hx
  obtain⟨ds,rfl,hds,_⟩:=hy
  split at h
  ·rename_i ks _ _ _ _ _ ht
   cases hr:cellsEq _ xs ys with
   | none=>rw[hr]at h;cases h
   | some r =>
    rw[hr]at h
    simp only[Option.bind_some]at h
    obtain⟨he,hg⟩:=run_equal_agg hT ht rfl (cellsEq_V hcs hds hr) w
    obtain⟨c,h1,rfl⟩:=run_eql (P:=P) (w:=w) (x:=.agg _) (y:=.agg _) h rfl rfl he
    exact⟨c,by simp only[Sem.run_bind,run_eqGuard_agg w op t X Y _ _ hg,Result.andThen,h1],by simp[VR]⟩
  ·cases h
 ·split at h
  ·rename_i hn
   simp only[Bool.and_eq_true]at hn
   cases hr:nilEq x y with
   | none=>rw[hr]at h;cases h
   | some r =>
    rw[hr]at h
    simp only[Option.bind_some]at h
    have hp:nilTy T t (.lit (.pointer none))=true→∃e,P.underlying t=some (.pointer e):=by
     intro h;unfold nilTy at h;simp only at h
     split at h
     ·rename_i ht;exact hT.ptr ht rfl
     ·cases h
    have hs:nilTy T t (.lit (.slice none 0 0))=true→∃e,P.underlying t=some (.slice e):=by
     intro h;unfold nilTy at h;simp only at h
     split at h
     ·rename_i ht;exact⟨_,hT.slice ht rfl⟩
     ·cases h
    have fin:∀c,((binOp op t a b).run P w=.ok c w∧v=.lit c)→a≠.nilIface→(∀cs,a≠.agg cs)→∃c,(do eqGuard op t X Y a b;binOp op t a b:Sem Value).run P w=.ok c w∧VR imm mu v c:=by
     rintro c ⟨h1,rfl⟩ h2 h3
     exact⟨c,by simp only[Sem.run_bind,run_eqGuard_other h2 h3,Result.andThen,h1],by simp[VR]⟩
    unfold nilEq at hr
    split at hr<;>cases hr
    ·have e1:=VR_lit hx;have e2:=VR_lit hy;subst e1;subst e2
     obtain⟨c,h1⟩:=run_eql (P:=P) (w:=w) h rfl rfl (equal_nil_ptr (hp hn.1) none)
     exact fin c h1 (by simp) (by simp)
    ·have e2:=VR_lit hy;subst e2
     simp only[VR]at hx;obtain⟨B,sz,_,rfl⟩:=hx
     obtain⟨c,h1⟩:=run_eql (P:=P) (w:=w) h rfl rfl (equal_ptr_nil (hp hn.2) _)
     exact fin c h1 (by simp) (by simp)
    ·have e1:=VR_lit hx;subst e1
     simp only[VR]at hy;obtain⟨B,sz,_,rfl⟩:=hy
     obtain⟨c,h1⟩:=run_eql (P:=P) (w:=w) h rfl rfl (equal_nil_ptr (hp hn.1) (some _))
     exact fin c h1 (by simp) (by simp)
    ·have e2:=VR_lit hy;subst e2
     simp only[VR]at hx;obtain⟨B,o,c',rfl,_⟩:=hx
     obtain⟨c,h1⟩:=run_eql (P:=P) (w:=w) h rfl rfl (equal_ptr_nil (hp hn.2) _)
     exact fin c h1 (by simp) (by simp)
    ·have e1:=VR_lit hx;subst e1
     simp only[VR]at hy;obtain⟨B,o,c',rfl,_⟩:=hy
     obtain⟨c,h1⟩:=run_eql (P:=P) (w:=w) h rfl rfl (equal_nil_ptr (hp hn.1) (some _))
     exact fin c h1 (by simp) (by simp)
    ·have e1:=VR_lit hx;have e2:=VR_lit hy;subst e1;subst e2
     obtain⟨c,h1⟩:=run_eql (P:=P) (w:=w) h rfl rfl (equal_nil_slice (hs hn.1) none _ _ _ _)
     exact fin c h1 (by simp) (by simp)
    ·have e2:=VR_lit hy;subst e2
     simp only[VR]at hx;obtain⟨B,o,sp,cap,cs,rfl,_⟩:=hx
     obtain⟨c,h1⟩:=run_eql (P:=P) (w:=w) h rfl rfl (equal_slice_nil (hs hn.2) _ _ _ _ _)
     exact fin c h1 (by simp) (by simp)
    ·have e1:=VR_lit hx;subst e1
     simp only[VR]at hy;obtain⟨B,o,sp,cap,cs,rfl,_⟩:=hy
     obtain⟨c,h1⟩:=run_eql (P:=P) (w:=w) h rfl rfl (equal_nil_slice (hs hn.1) (some _) _ _ _ _)
     exact fin c h1 (by simp) (by simp)
    ·have e2:=VR_lit hy;subst e2
     simp only[VR]at hx;obtain⟨B,cap,_,_,rfl⟩:=hx
     obtain⟨c,h1⟩:=run_eql (P:=P) (w:=w) h rfl rfl (equal_slice_nil (hs hn.2) _ _ _ _ _)
     exact fin c h1 (by simp) (by simp)
    ·have e1:=VR_lit hx;subst e1
     simp only[VR]at hy;obtain⟨B,cap,_,_,rfl⟩:=hy
     obtain⟨c,h1⟩:=run_eql (P:=P) (w:=w) h rfl rfl (equal_nil_slice (hs hn.1) (some _) _ _ _ _)
     exact fin c h1 (by simp) (by simp)
  ·cases h
theorem aun_ok{op:UnOp}{x v:AV}{a:Value}(hx:VR imm mu x a)(h:aun op x=some v):∃c,(Op.unary op a).run P w=.ok c w∧VR imm mu v c:=by
 unfold aun at h
 split at h
 ·cases h;rw[VR_lit hx];exact⟨_,rfl,by simp[VR]⟩
 ·cases h;rw[VR_lit hx];exact⟨_,rfl,by simp[VR,wrapK_eq]⟩
 ·cases h
theorem aconv_ok(hT:TOk P T){src dst:TypeId}{x v:AV}{a:Value}(hx:VR imm mu x a)(h:aconv T src dst x=some v):
  ∃c,(convert src dst a).run P w=.ok c w∧VR imm mu v c:=by
 unfold aconv at h
 split at h
 ·rename_i hs ht
  cases h;rw[VR_lit hx]
  obtain⟨d,hs,_⟩:=hT.under hs
  refine⟨_,?_,by simp[VR];rfl⟩
  have hd:=hT.int ht rfl
  simp only[convert,Sem.run_bind,run_underlying_of hs,run_underlying_of hd,Result.andThen]
  simp[Conv.intToInt,wrapK_eq]
 ·cases h
end Go.Abs
