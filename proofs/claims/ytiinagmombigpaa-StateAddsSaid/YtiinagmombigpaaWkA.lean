/- Tables of nodes, as the document says: where types lead; a walk through aliases ends within as many steps as there are nodes, or never. -/
import Derived.Test.YtiinagmombigpaaEvS
import Derived.Test.YtiinagmombigpaaFnA
import Derived.Test.YtiinagmombigpaaOpen2
set_option linter.unnecessarySimpa false
set_option linter.unusedSimpArgs false
set_option linter.unusedVariables false
namespace Go.Gr
open Go.Abs
structure Nd where
 kind:Int
 prio:Int
 chan:Bool
 pt:Int
 ps:Int
 es:List (Int×Int)
 nx:AV
theorem pigeon:∀(L:Nat)(f:Nat→Nat),(∀i,i≤L→f i<L)→∃i j,i<j∧j≤L∧f i=f j
 | 0,f,h=>absurd (h 0 (Nat.le_refl _)) (by omega)
 | L+1,f,h=>by
  by_cases hi:∃i,i≤L+1∧f i=L
  ·obtain⟨i,hi,e⟩:=hi
   by_cases hg:∃j,j≤L∧f (if j<i then j else j+1)=L
   ·obtain⟨j,hj,e2⟩:=hg
    by_cases hji:j<i
    ·rw[if_pos hji]at e2
     exact⟨j,i,hji,hi,by rw[e,e2]⟩
    ·rw[if_neg hji]at e2
     exact⟨i,j+1,by omega,by omega,by rw[e,e2]⟩
   ·obtain⟨a,b,h1,h2,h3⟩:=pigeon L (fun j=>f (if j<i then j else j+1)) fun j hj=>by
     have h4:=h (if j<i then j else j+1) (by split<;>omega)
     have h5:f (if j<i then j else j+1)≠L:=fun e=>hg ⟨j,hj,e⟩
     show f (if j<i then j else j+1)<L
     omega
    exact⟨if a<i then a else a+1,if b<i then b else b+1,by split<;>split<;>omega,by split<;>omega,h3⟩
  ·obtain⟨a,b,h1,h2,h3⟩:=pigeon L f fun i hi'=>by
    have h4:=h i (by omega)
    have h5:f i≠L:=fun e=>hi ⟨i,by omega,e⟩
    omega
   exact⟨a,b,h1,by omega,h3⟩
def atN(ns:List Nd)(n:Int):Option Nd:=if n<0 then none else ns[n.toNat]?
theorem atN_lt{ns:List Nd}{n:Int}{x:Nd}(h:atN ns n=some x):0≤n∧n.toNat<ns.length:=by
 unfold atN at h
 split at h
 ·cases h
 ·exact⟨by omega,(List.getElem?_eq_some_iff.1 h).1⟩
def nxt(ns:List Nd)(n:Int):Option (Int×Int):=match atN ns n with
 | some x=>if x.kind=5 then (match x.es with | [e]=>some e | _=>none) else none
 | none=>none
def wlk(ns:List Nd):Nat→Int→Int→Int×Int
 | 0,_,_=>(-1,0)
 | k+1,n,o=>match nxt ns n with
  | some e=>wlk ns k e.1 (wrapK .i64 (o+e.2))
  | none=>match atN ns n with
   | some x=>if x.kind=5 then (-1,0) else (n,o)
   | none=>(-1,0)
def steps(ns:List Nd):Nat→Int→Option Int
 | 0,n=>some n
 | k+1,n=>match nxt ns n with
  | some e=>steps ns k e.1
  | none=>none
theorem steps_add{ns:List Nd}:∀(i j:Nat)(n:Int),steps ns (i+j) n=(steps ns i n).bind (steps ns j)
 | 0,j,n=>by rw[Nat.zero_add];rfl
 | i+1,j,n=>by
  rw[show i+1+j=(i+j)+1 by omega]
  simp only[steps]
  cases nxt ns n with
  | none=>rfl
  | some e=>exact steps_add i j e.1
theorem steps_le{ns:List Nd}{i j:Nat}{n m:Int}(h:steps ns j n=some m)(hij:i≤j):∃k,steps ns i n=some k∧steps ns (j-i) k=some m:=by
 have:j=i+(j-i):=by omega
 rw[this,steps_add]at h
 obtain⟨k,h1,h2⟩:=Option.bind_eq_some_iff.1 h
 exact⟨k,h1,h2⟩
theorem steps_end{ns:List Nd}{n m:Int}(h:steps ns ns.length n=some m):∀x,atN ns m=some x→x.kind=5:=by
 intro x hx
 obtain⟨f,hf⟩:∃f:Nat→Int,∀i,i≤ns.length→steps ns i n=some (f i):=⟨fun i=>(steps ns i n).getD 0,fun i hi=>by
  obtain⟨k,h1,_⟩:=steps_le h hi
  simp[h1]⟩
 have hm:f ns.length=m:=by
  have:=hf ns.length (Nat.le_refl _);rw[h]at this;exact(Option.some.inj this).symm
 have hal:∀i,i<ns.length→∃e,nxt ns (f i)=some e:=fun i hi=>by
  obtain⟨k,h1,h2⟩:=steps_le h (show i≤ns.length by omega)
  rw[hf i (by omega)]at h1
  obtain rfl:=Option.some.inj h1
  rw[show ns.length-i=(ns.length-i-1)+1 by omega]at h2
  simp only[steps]at h2
  cases hn:nxt ns (f i) with
  | none=>rw[hn]at h2;cases h2
  | some e=>exact⟨e,rfl⟩
 have hin:∀i,i≤ns.length→0≤f i∧(f i).toNat<ns.length:=fun i hi=>by
  by_cases he:i=ns.length
  ·subst he;rw[hm];exact atN_lt hx
  ·obtain⟨e,h1⟩:=hal i (by omega)
   unfold nxt at h1
   cases ha:atN ns (f i) with
   | none=>rw[ha]at h1;cases h1
   | some y=>exact atN_lt ha
 obtain⟨i,j,hij,hj,e⟩:=pigeon ns.length (fun i=>(f i).toNat) fun i hi=>(hin i hi).2
 have e':f i=f j:=by
  have h1:=(hin i (by omega)).1
  have h2:=(hin j hj).1
  have h3:(f i).toNat=(f j).toNat:=e
  omega
 have hl:f (i+(ns.length-j))=m:=by
  have h1:=hf (i+(ns.length-j)) (by omega)
  rw[steps_add,hf i (by omega),Option.bind_some,e']at h1
  obtain⟨k,h2,h3⟩:=steps_le h hj
  rw[hf j hj]at h2
  obtain rfl:=Option.some.inj h2
  rw[h3]at h1
  exact(Option.some.inj h1).symm
 obtain⟨w,h1⟩:=hal (i+(ns.length-j)) (by omega)
 rw[hl]at h1
 unfold nxt at h1
 rw[hx]at h1
 simp only at h1
 split at h1
 ·assumption
 ·cases h1
theorem wlk_succ{ns:List Nd}:∀(k:Nat)(n o:Int),wlk ns (k+1) n o=wlk ns k n o∨∃m x,steps ns k n=some m∧atN ns m=some x∧x.kind≠5
 | 0,n,o=>by
  simp only[wlk,steps]
  cases hn:nxt ns n with
  | some e=>exact .inl rfl
  | none =>
   cases ha:atN ns n with
   | none=>exact .inl rfl
   | some x =>
    by_cases hk:x.kind=5
    ·simp[hk]
    ·exact .inr ⟨n,x,rfl,ha,hk⟩
 | k+1,n,o=>by
  rw[wlk,wlk]
  cases hn:nxt ns n with
  | none=>exact .inl rfl
  | some e =>
   simp only[steps,hn]
   exact wlk_succ k e.1 _
theorem wlk_end{ns:List Nd}{n o:Int}:wlk ns (ns.length+1) n o=wlk ns ns.length n o:=by
 rcases wlk_succ ns.length n o with h | ⟨m,x,h1,h2,h3⟩
 ·exact h
 ·exact absurd (steps_end h1 x h2) h3
end Go.Gr
namespace Go.Abs.Tab
open Go.Gr
attribute [go_sem] decide_true decide_false beq_self_eq_true Nat.succ_ne_zero Bool.not_true Bool.not_false Bool.true_eq_false Bool.false_eq_true Bool.true_beq Bool.false_beq ne_eq not_false_eq_true not_true_eq_false List.getElem?_cons_zero List.getElem?_cons_succ List.length_cons List.length_nil List.all_cons List.all_nil Bool.and_true Bool.and_self Bool.true_and Bool.false_and Bool.and_false Bool.or_true Bool.or_false Bool.true_or Bool.false_or Bool.or_self List.elem_cons List.elem_nil Nat.add_zero Nat.zero_add or_self or_false false_or true_or or_true and_true true_and and_false false_and and_self List.mem_cons List.not_mem_nil
attribute [go_sem ↓] reduceIte
attribute [go_sem] Nat.reduceLT Nat.reduceAdd Nat.reduceMul Nat.reduceSub Nat.reduceEqDiff Nat.reduceLeDiff Nat.reduceBEq reduceCtorEq Int.reduceLT Int.reduceLE Int.reduceEq Int.reduceNe Nat.reducePow
attribute [go_sem] elAt_eq stV_eq cellsB_cells hp_get_r hp_get_r0 hp_get_l hp_set_r hp_set_r0 hp_set_l hp_one hp_ne List.drop_succ_cons List.drop_zero List.take_succ_cons List.take_zero
abbrev iv(n:Int):AV:=.lit (.int .i64 n)
abbrev bv(b:Bool):AV:=.lit (.bool b)
noncomputable abbrev D:Hd:=den cx
abbrev ed(e:Int×Int):AV:=.agg [iv e.1,iv e.2]
abbrev nodeC(x:Nd):List AV:=[iv x.kind,iv x.prio,bv x.chan,iv x.pt,iv x.ps,x.nx]
def NdOk(x:Nd):Prop:=Sl 2 x.nx (x.es.map ed)
def inB(n m:Int):Bool:=decide (0≤n)&&decide (n≤m)
@[go_sem] theorem shut1_lit(v:Value):shut1 (.lit v)=true:=nr rfl
@[go_sem] theorem shut1_vp(el:AV)(j:Nat):shut1 (.vp el j)=true:=nr rfl
@[go_sem] theorem shut1_vec(s:Nat)(k:Kd)(l:List AV):shut1 (.vec s k l)=true:=nr rfl
@[go_sem] theorem shut1_agg(l:List AV):shut1 (.agg l)=l.all shut0:=nr rfl
@[go_sem] theorem shut0_lit(v:Value):shut0 (.lit v)=true:=nr rfl
@[go_sem] theorem shut0_vp(el:AV)(j:Nat):shut0 (.vp el j)=true:=nr rfl
@[go_sem] theorem shut0_vec(s:Nat)(k:Kd)(l:List AV):shut0 (.vec s k l)=true:=nr rfl
theorem within_call{ro:Nat}{H:Hp}(a b:Int):callB cx D ro 118 [iv a,iv b] H=some (bv (inB a b),H):=by
 rw[c118]
 unfold inB
 by_cases h:0≤a<;>simp only[go_sem,h]
theorem within_ok(a b:Int):pcall D 118 [iv a,iv b]=some (bv (inB a b)):=by
 exact pcall_eq (v:=bv (inB a b)) (H':=[]) (within_call a b)
theorem wide_call{ro:Nat}{H:Hp}(hro:ro≤H.length)(e:Int×Int):callB cx D ro 153 [ed e] H=some (bv (!inB e.2 1000),H++[.cells 2 63 [ed e]]):=by
 obtain⟨n,hn⟩:∃n,H.length=n:=⟨_,rfl⟩
 have c1:∀j,ro≤n+j:=fun j=>by omega
 have c2:∀j,¬(n+j<ro):=fun j=>by omega
 rw[hn]at hro
 rw[c153]
 simp -implicitDefEqProofs (maxDischargeDepth:=4) only[go_sem,hn,hro,c1,c2,within_ok,u_not]
theorem trim_gen{P:Option Res→Prop}{k:PT→Hp→Option Res}{n:Nat}{fr:PT}{G:Hp}(T:List Tmp)(hn:n≤G.length)(hT:∀t∈T,kill n (fr.get t)=fr.get t)
  (hX:∀fr' G',G'.length=n→(∀t∈T,fr'.get t=fr.get t)→(∀j x,j<n→G[j]?=some x→killB n x=x→G'[j]?=some x)→P (k fr' G')):P (trimmed k n fr G):=by
 unfold trimmed
 split
 ·rename_i h;exact hX _ _ h (fun _ _=>rfl) (fun _ _ _ h _=>h)
 ·refine hX _ _ (by rw[List.length_map,List.length_take];omega) (fun t ht=>by rw[get_mapkill,hT t ht]) fun j x hj hx hk=>?_
  rw[List.getElem?_map,List.getElem?_take_of_lt hj,hx,Option.map_some,hk]
theorem kill_Sl{sz:Nat}{a:AV}{els:List AV}(h:Sl sz a els)(m:Nat):kill m a=a:=by
 rcases h with rfl | rfl | ⟨rfl,_⟩<;>rfl
theorem kill_lit(v:Value)(m:Nat):kill m (.lit v)=.lit v:=rfl
theorem kill_fn0(f:FuncId)(m:Nat):kill m (.fn f [])=.fn f []:=rfl
theorem get_ed{es:List (Int×Int)}{n:Nat}(h:n<es.length):(es.map ed).getD n .dead=ed (es.getD n (0,0)):=getD_map ed es (0,0) h
theorem drop_ed{es:List (Int×Int)}{n:Nat}(h:n<es.length):es.drop n=es.getD n (0,0)::es.drop (n+1):=by
 rw[List.drop_eq_getElem_cons h];simp[List.getD_eq_getElem?_getD,List.getElem?_eq_getElem h]
def wide(e:Int×Int):Bool:=!inB e.2 1000
theorem idx_loop{ro n:Nat}(hro:ro≤n){a:AV}{es:List (Int×Int)}(ha:Sl 2 a (es.map ed))(hl:es.length<2 ^ 40):∀(m i:Nat)(fr:PT)(G:Hp),es.length-i=m→i≤es.length→G.length=n→
  fr.get 0=a→fr.get 1=.fn 153 []→fr.get 7=iv es.length→fr.get 8=iv i→
  ∃e fr' G',D.loop ro 175 19 l175_0 fr G=some (e,fr',G')∧(if (es.drop i).any wide=true then e=.ret∧∃k:Nat,fr'.get 4=iv k else e=.exit 0)
 | 0,i,fr,G,hm,hi,hG,h0,h1,h7,h8=>by
  have hn:¬((i:Int)<(es.length:Int)):=by omega
  rw[dl175_0]
  simp -implicitDefEqProofs (maxDischargeDepth:=4) only[go_sem,h0,h1,h7,h8,hn]
  refine⟨_,_,_,rfl,?_⟩
  rw[List.drop_eq_nil_of_le (by omega)]
  simp
 | m+1,i,fr,G,hm,hi,hG,h0,h1,h7,h8=>by
  have hn:((i:Int)<(es.length:Int)):=by omega
  have e1:aindexAddr cx.T 64 a (iv i)=some (.vp (ed (es.getD i (0,0))) 0):=by rw[aindexAddr_sl ha sl64 (by rw[List.length_map];omega) rfl,get_ed (by omega)]
  have e3:wrapK .i64 ((i:Int)+1)=((i+1:Nat):Int):=by rw[wrapK_i64 (by omega) (by omega)];rfl
  have e4:=wide_call (ro:=ro) (H:=G) (by omega) (es.getD i (0,0))
  rw[dl175_0,drop_ed (show i<es.length by omega),List.any_cons]
  cases hw:wide (es.getD i (0,0)) with
  | true =>
   have hw':inB (es.getD i (0,0)).2 1000=false:=by simpa [wide] using hw
   simp -implicitDefEqProofs (maxDischargeDepth:=4) only[go_sem,h0,h1,h7,h8,hn,ha.notOwn,ha.shr,e1,e3,e4,hw']
   exact⟨_,_,_,rfl,rfl,i,by simp only[go_sem]⟩
  | false =>
   have hw':inB (es.getD i (0,0)).2 1000=true:=by simpa [wide] using hw
   simp -implicitDefEqProofs (maxDischargeDepth:=4) only[go_sem,h0,h1,h7,h8,hn,ha.notOwn,ha.shr,e1,e3,e4,hw']
   refine trim_gen (P:=fun o=>∃e fr' G',o=some (e,fr',G')∧(if (es.drop (i+1)).any wide=true then e=.ret∧∃k:Nat,fr'.get 4=iv k else e=.exit 0)) [0,1,7,8] (by rw[List.length_append];omega) (fun t ht=>?_)
    fun fr' G' hG' hf _=>idx_loop hro ha hl m (i+1) fr' G' (by omega) (by omega) (hG'.trans hG) ?_ ?_ ?_ ?_
   ·simp only[List.mem_cons,List.not_mem_nil,or_false]at ht
    rcases ht with rfl | rfl | rfl | rfl<;>simp -implicitDefEqProofs (maxDischargeDepth:=4) only[go_sem,h0,h1,h7,h8,kill_Sl ha,kill_lit,kill_fn0]
   ·rw[hf 0 (by simp)];simp -implicitDefEqProofs (maxDischargeDepth:=4) only[go_sem,h0]
   ·rw[hf 1 (by simp)];simp -implicitDefEqProofs (maxDischargeDepth:=4) only[go_sem,h1]
   ·rw[hf 7 (by simp)];simp -implicitDefEqProofs (maxDischargeDepth:=4) only[go_sem,h7]
   ·rw[hf 8 (by simp)];simp -implicitDefEqProofs (maxDischargeDepth:=4) only[go_sem]
theorem idx_call{ro:Nat}{H:Hp}(hro:ro≤H.length){a:AV}{es:List (Int×Int)}(ha:Sl 2 a (es.map ed))(hl:es.length<2 ^ 40):
  ∃(v:Int)(H':Hp),callB cx D ro 175 [a,.fn 153 []] H=some (iv v,H')∧decide (0≤v)=es.any wide:=by
 rw[c175]
 obtain⟨e,fr',G',h1,h2⟩:=idx_loop hro ha hl es.length 0 ((((((PT.nil.set 0 a).set 1 (.fn 153 [])).set 4 (iv 0)).set 6 a).set 7 (iv es.length)).set 8 (iv 0)) H (by omega) (by omega) rfl (by simp only[go_sem]) (by simp only[go_sem]) (by simp only[go_sem]) (by simp only[go_sem,Int.ofNat_zero])
 rw[List.drop_zero]at h2
 simp -implicitDefEqProofs (maxDischargeDepth:=4) only[go_sem,ha.notOwn,ha.shr,ha.drp,alen_sl ha,List.length_map,x_loop,h1]
 cases hw:es.any wide with
 | true =>
  rw[hw,if_pos rfl]at h2
  obtain⟨rfl,k,h3⟩:=h2
  simp -implicitDefEqProofs (maxDischargeDepth:=4) only[go_sem,h3]
  exact⟨k,_,rfl,by simp⟩
 | false =>
  rw[hw,if_neg (by simp)]at h2
  subst h2
  simp -implicitDefEqProofs (maxDischargeDepth:=4) only[go_sem]
  exact⟨-1,_,rfl,by decide⟩
theorem contains_call{ro:Nat}{H:Hp}(hro:ro≤H.length){a:AV}{es:List (Int×Int)}(ha:Sl 2 a (es.map ed))(hl:es.length<2 ^ 40):
  ∃H':Hp,callB cx D ro 154 [a,.fn 153 []] H=some (bv (es.any wide),H'):=by
 obtain⟨v,H',h1,h2⟩:=idx_call hro ha hl
 rw[c154]
 simp -implicitDefEqProofs (maxDischargeDepth:=4) only[go_sem,ha.notOwn,ha.shr,ha.drp,h1,h2]
 exact⟨_,rfl⟩
def Sl'(sz:Nat)(a:AV)(els:List AV):Prop:=a=.vec sz .own els∨a=.vec sz .exact els∨(a=.lit (.slice none 0 0)∧els=[])
theorem slT_T{T:TypeId→Option TI}{t:TypeId}(h:(slT T t).isSome=true):∃a b c d e f,T t=some ⟨a,b,c,d,.slice e,f⟩:=by
 unfold slT at h
 split at h
 ·rename_i hT;exact⟨_,_,_,_,_,_,hT⟩
 ·cases h
theorem sl_eql_vn{T:TypeId→Option TI}{t:TypeId}{sz:Nat}{k:Kd}{l:List AV}(ht:(slT T t).isSome=true):abin T .eql t (.vec sz k l) (.lit (.slice none 0 0))=some (.lit (.bool false)):=by
 obtain⟨a,b,c,d,e,f,hT⟩:=slT_T ht
 simp[abin,nilTy,hT,nilEq,neg?]
theorem sl_eql_nn{T:TypeId→Option TI}{t:TypeId}(ht:(slT T t).isSome=true):abin T .eql t (.lit (.slice none 0 0)) (.lit (.slice none 0 0))=some (.lit (.bool true)):=by
 obtain⟨a,b,c,d,e,f,hT⟩:=slT_T ht
 simp[abin,nilTy,hT,nilEq,neg?]
theorem apV_empty{sz by':Nat}{xs:List AV}(hs:0<sz)(h:xs.length*(by'+1)≤1099511627776):∃b,apV sz by' xs (.vec sz .exact [])=some b∧Sl' sz b xs:=by
 cases xs with
 | nil=>exact⟨_,rfl,.inr (.inl rfl)⟩
 | cons x xs=>exact⟨_,by rw[apV_exact (by simpa using h) hs,List.nil_append],.inl rfl⟩
theorem clone_call{a:AV}{es:List (Int×Int)}(ha:Sl 2 a (es.map ed))(hl:es.length<2 ^ 30):∃b,callB cx D 0 155 [a] []=some (b,[])∧Sl' 2 b (es.map ed):=by
 obtain⟨b,hb,hb'⟩:=apV_empty (sz:=2) (by':=16) (xs:=es.map ed) (by decide) (by rw[List.length_map];omega)
 rcases ha with rfl | rfl | ⟨rfl,he⟩
 ·rw[c155]
  rcases hb' with rfl | rfl | ⟨rfl,h0⟩<;>simp -implicitDefEqProofs (maxDischargeDepth:=4) only[go_sem,sl_eql_vn,sl_eql_nn,sl64,Option.isSome_some,hb]<;>exact⟨_,rfl,by simp[Sl', *]⟩
 ·rw[c155]
  rcases hb' with rfl | rfl | ⟨rfl,h0⟩<;>simp -implicitDefEqProofs (maxDischargeDepth:=4) only[go_sem,sl_eql_vn,sl_eql_nn,sl64,Option.isSome_some,hb]<;>exact⟨_,rfl,by simp[Sl', *]⟩
 ·rw[c155]
  simp -implicitDefEqProofs (maxDischargeDepth:=4) only[go_sem,he,sl_eql_vn,sl_eql_nn,sl64,Option.isSome_some]
  exact⟨_,rfl,by simp[Sl']⟩
theorem Sl'.frz{sz n:Nat}{a:AV}{els:List AV}{H:Hp}(h:Sl' sz a els):Abs.frz n H a=a:=by
 rcases h with rfl | rfl | ⟨rfl,_⟩<;>rfl
theorem clone_ok{a:AV}{es:List (Int×Int)}(ha:Sl 2 a (es.map ed))(hl:es.length<2 ^ 30):∃b,pcall D 155 [a]=some b∧Sl' 2 b (es.map ed):=by
 obtain⟨b,h1,h2⟩:=clone_call ha hl
 refine⟨b,?_,h2⟩
 rw[pcall_eq (v:=b) (H':=[]) (by rw[List.map_cons,List.map_nil,ha.cl2];exact h1),h2.frz]
def edg(x:Nd):List (Int×Int):=x.es++if x.chan then [(x.pt,x.ps)] else []
theorem edges_call{x:Nd}(hx:NdOk x)(hl:x.es.length<2 ^ 20):∃b H',callB cx D 0 117 [.agg (nodeC x)] []=some (b,H')∧Sl 2 b ((edg x).map ed):=by
 have hs:Sl 2 x.nx (x.es.map ed):=hx
 obtain⟨b,h1,h2⟩:=clone_ok hs (by omega)
 cases hc:x.chan with
 | false =>
  have he:edg x=x.es:=by simp[edg,hc]
  rw[he,c117]
  rcases h2 with rfl | rfl | ⟨rfl,h0⟩<;>simp -implicitDefEqProofs (maxDischargeDepth:=4) only[go_sem,hs.shr,hs.shut1,hc,h1,hs.drp]<;>exact⟨_,_,rfl,by simp[Sl, *]⟩
 | true =>
  have he:(edg x).map ed=x.es.map ed++[ed (x.pt,x.ps)]:=by simp[edg,hc]
  have hlen:((x.es.map ed).length+(0+1))*(16+1)≤1099511627776:=by rw[List.length_map];omega
  have a1:∀y:AV,apV 2 16 [y] (.vec 2 .own (x.es.map ed))=some (.vec 2 .own (x.es.map ed++[y])):=fun y=>apV_own hlen (by decide)
  have a2:∀y:AV,apV 2 16 [y] (.vec 2 .exact (x.es.map ed))=some (.vec 2 .own (x.es.map ed++[y])):=fun y=>apV_exact hlen (by decide)
  rw[he,c117]
  rcases h2 with rfl | rfl | ⟨rfl,h0⟩<;>simp -implicitDefEqProofs (maxDischargeDepth:=4) only[go_sem,hs.shr,hs.shut1,hc,h1,hs.drp,a1,a2]<;>exact⟨_,_,rfl,by simp[Sl, *]⟩
theorem edges_ok{x:Nd}(hx:NdOk x)(hl:x.es.length<2 ^ 20):∃b,pcall D 117 [.agg (nodeC x)]=some b∧Sl 2 b ((edg x).map ed):=by
 have hs:Sl 2 x.nx (x.es.map ed):=hx
 obtain⟨b,H',h1,h2⟩:=edges_call hx hl
 refine⟨b,?_,h2⟩
 have hf:Abs.frz 0 H' b=b:=by rcases h2 with rfl | rfl | ⟨rfl,_⟩<;>rfl
 rw[pcall_eq (v:=b) (H':=H') (by rw[List.map_cons,List.map_nil,show Abs.cl2 (.agg (nodeC x))=.agg ((nodeC x).map Abs.cl0) from rfl];simp only[List.map_cons,List.map_nil,cl0_lit,hs.cl0];exact h1),hf]
def frm(k:Int):Int×Int×Bool×Bool :=
 if k=0 then (0,0,false,true) else if k=1 then (1,1,true,false) else if k=2 then (1,1,true,false) else if k=3 then (1,8,false,false) else if k=4 then (1,8,false,false) else (1,1,false,true)
theorem build248(a b:Int)(c d:Bool):abuild cx.T 248 [(0,iv a),(1,iv b),(2,bv c),(3,bv d)]=some (.agg [iv a,iv b,bv c,bv d]):=nk
theorem ze249:zeroT cx.T 249=some (24,.agg [iv 0,iv 0,bv false,bv false,iv 0,iv 0,bv false,bv false,iv 0,iv 0,bv false,bv false,iv 0,iv 0,bv false,bv false,iv 0,iv 0,bv false,bv false,iv 0,iv 0,bv false,bv false]):=nk
abbrev formsC:List AV:=[iv 0,iv 0,bv false,bv true,iv 1,iv 1,bv true,bv false,iv 1,iv 1,bv true,bv false,iv 1,iv 8,bv false,bv false,iv 1,iv 8,bv false,bv false,iv 1,iv 1,bv false,bv true]
theorem build249:abuild cx.T 249 [(0,.agg [iv 0,iv 0,bv false,bv true]),(1,.agg [iv 1,iv 1,bv true,bv false]),(2,.agg [iv 1,iv 1,bv true,bv false]),(3,.agg [iv 1,iv 8,bv false,bv false]),(4,.agg [iv 1,iv 8,bv false,bv false]),(5,.agg [iv 1,iv 1,bv false,bv true])]=some (.agg formsC):=nk
theorem forms_call:∃H',callB cx D 0 152 [] []=some (.agg formsC,H'):=by
 rw[c152]
 simp -implicitDefEqProofs (maxDischargeDepth:=4) only[go_sem,build248,build249,ze249,Nat.lt_irrefl,Nat.le_refl]
 exact⟨_,rfl⟩
theorem forms_ok:pcall D 152 []=some (.agg formsC):=by
 obtain⟨H',h⟩:=forms_call
 rw[pcall_eq (vs:=[]) (v:=.agg formsC) (H':=H') (by rw[List.map_nil];exact h)]
 simp only[Abs.frz,Abs.frz1,List.map_cons,List.map_nil,Abs.frz0,Abs.cl0]
theorem inB_iff{a b:Int}:inB a b=true↔0≤a∧a≤b:=by simp[inB]
theorem forms_at{k:Int}(h:inB k 5=true):aindex cx.T 249 (.agg formsC) (iv k)=some (.agg [iv (frm k).1,iv (frm k).2.1,bv (frm k).2.2.1,bv (frm k).2.2.2]):=by
 rw[inB_iff]at h
 have:k=0∨k=1∨k=2∨k=3∨k=4∨k=5:=by omega
 rcases this with rfl | rfl | rfl | rfl | rfl | rfl<;>exact nk
theorem pair_neq{t:TypeId}(ht:eqT cx.T t=some [false,false])(a b c d:Int):abin cx.T .neq t (.agg [iv a,iv b]) (.agg [iv c,iv d])=some (bv (!(decide (a=c)&&decide (b=d)))) :=
 b_aneq ht (by simp[cellsEq,cellEq,BEq.beq])
theorem nbeq(a b:Nat):Nat.beq a b=decide (a=b):=by rw[Bool.eq_iff_iff];simp
def shp(x:Nd):Bool:=inB x.kind 5&&!(decide ((x.es.length:Int)<(frm x.kind).1)||decide ((frm x.kind).2.1<(x.es.length:Int)))&&inB x.prio 1000&&!((frm x.kind).2.2.2&&decide (0<x.prio)) &&
 !(x.chan&&!(frm x.kind).2.2.1||!x.chan&&!(decide (x.pt=0)&&decide (x.ps=0)))&&!(edg x).any wide
theorem build63:abuild cx.T 63 []=some (.agg [iv 0,iv 0]):=nk
theorem eqt63:eqT cx.T 63=some [false,false]:=nk
theorem frm_le(k:Int):(frm k).2.1≤8:=by
 unfold frm
 repeat' split
 all_goals decide
theorem shaped_call{x:Nd}(hx:NdOk x):∃H',callB cx D 0 116 [.agg (nodeC x)] []=some (bv (shp x),H'):=by
 have hs:Sl 2 x.nx (x.es.map ed):=hx
 have hed:=fun h=>edges_ok hx (show x.es.length<2 ^ 20 from h)
 have hbl:x.es.length≤8→(edg x).length<2 ^ 40:=by unfold edg;split<;>simp<;>omega
 unfold shp
 generalize edg x=es' at *
 obtain⟨k,p,c,pt,ps,es,nx⟩:=x
 dsimp only[nodeC]at hs hed hbl ⊢
 cases h0:inB k 5 with
 | false =>
  rw[c116]
  simp -implicitDefEqProofs (maxDischargeDepth:=4) only[go_sem,hs.shr,hs.shut1,hs.drp,within_ok,h0,u_not]
  exact⟨_,rfl⟩
 | true =>
  have hf:=forms_at h0
  have h8:=frm_le k
  generalize frm k=F at *
  obtain⟨f1,f2,f3,f4⟩:=F
  dsimp only at h8 hf ⊢
  have hpn:=pair_neq eqt63 pt ps 0 0
  rw[c116]
  by_cases h1:(es.length:Int)<f1
  ·simp -implicitDefEqProofs (maxDischargeDepth:=4) only[go_sem,hs.shr,hs.shut1,hs.shut0,hs.drp,hs.notOwn,hs.fitA,within_ok,h0,u_not,forms_ok,hf,elP_Sl hs,alen_sl hs,List.length_map,layB_res,nbeq,Nat.le_refl,Nat.zero_le,h1]
   exact⟨_,rfl⟩
  by_cases h2:f2<(es.length:Int)
  ·simp -implicitDefEqProofs (maxDischargeDepth:=4) only[go_sem,hs.shr,hs.shut1,hs.shut0,hs.drp,hs.notOwn,hs.fitA,within_ok,h0,u_not,forms_ok,hf,elP_Sl hs,alen_sl hs,List.length_map,layB_res,nbeq,Nat.le_refl,Nat.zero_le,h1,h2]
   exact⟨_,rfl⟩
  obtain⟨b,hb,hbs⟩:=hed (by omega)
  obtain⟨G,hG⟩:=contains_call (ro:=0) (H:=[.cells 6 66 [.agg [iv k,iv p,bv c,iv pt,iv ps,nx]],.cells 4 248 [.agg [iv f1,iv f2,bv f3,bv f4]]]) (Nat.zero_le _) hbs (hbl (by omega))
  cases h3:inB p 1000 with
  | false =>
   simp -implicitDefEqProofs (maxDischargeDepth:=4) only[go_sem,hs.shr,hs.shut1,hs.shut0,hs.drp,hs.notOwn,hs.fitA,within_ok,h0,u_not,forms_ok,hf,elP_Sl hs,alen_sl hs,List.length_map,layB_res,nbeq,Nat.le_refl,Nat.zero_le,h1,h2,h3]
   exact⟨_,rfl⟩
  | true =>
  by_cases h6:(decide (pt=0)&&decide (ps=0))=true
  ·by_cases h5:0<p
   ·cases f4<;>cases c<;>cases f3<;>simp -implicitDefEqProofs (maxDischargeDepth:=4) only[go_sem,hs.shr,hs.shut1,hs.shut0,hs.drp,hs.notOwn,hs.fitA,within_ok,h0,u_not,forms_ok,hf,elP_Sl hs,alen_sl hs,List.length_map,layB_res,nbeq,Nat.le_refl,Nat.zero_le,h1,h2,h3,h5,build63,hpn,h6,hb,hbs.shr,hbs.notOwn,hbs.drp,hG]<;>exact⟨_,rfl⟩
   ·cases f4<;>cases c<;>cases f3<;>simp -implicitDefEqProofs (maxDischargeDepth:=4) only[go_sem,hs.shr,hs.shut1,hs.shut0,hs.drp,hs.notOwn,hs.fitA,within_ok,h0,u_not,forms_ok,hf,elP_Sl hs,alen_sl hs,List.length_map,layB_res,nbeq,Nat.le_refl,Nat.zero_le,h1,h2,h3,h5,build63,hpn,h6,hb,hbs.shr,hbs.notOwn,hbs.drp,hG]<;>exact⟨_,rfl⟩
  ·rw[Bool.not_eq_true]at h6
   by_cases h5:0<p
   ·cases f4<;>cases c<;>cases f3<;>simp -implicitDefEqProofs (maxDischargeDepth:=4) only[go_sem,hs.shr,hs.shut1,hs.shut0,hs.drp,hs.notOwn,hs.fitA,within_ok,h0,u_not,forms_ok,hf,elP_Sl hs,alen_sl hs,List.length_map,layB_res,nbeq,Nat.le_refl,Nat.zero_le,h1,h2,h3,h5,build63,hpn,h6,hb,hbs.shr,hbs.notOwn,hbs.drp,hG]<;>exact⟨_,rfl⟩
   ·cases f4<;>cases c<;>cases f3<;>simp -implicitDefEqProofs (maxDischargeDepth:=4) only[go_sem,hs.shr,hs.shut1,hs.shut0,hs.drp,hs.notOwn,hs.fitA,within_ok,h0,u_not,forms_ok,hf,elP_Sl hs,alen_sl hs,List.length_map,layB_res,nbeq,Nat.le_refl,Nat.zero_le,h1,h2,h3,h5,build63,hpn,h6,hb,hbs.shr,hbs.notOwn,hbs.drp,hG]<;>exact⟨_,rfl⟩
@[go_sem] theorem res_three{cx:Cx}{fr:PT}{H:Hp}(a b c:Tmp):resAll cx fr H [.tmp a,.tmp b,.tmp c]=some (.tup [drp (fr.get a),drp (fr.get b),drp (fr.get c)],H):=nr rfl
theorem skol{α β:Type} [Nonempty β]{p:α→Prop}{q:α→β→Prop}(h:∀a,p a→∃b,q a b):∃f:α→β,∀a,p a→q a (f a):=by
 classical
 refine⟨fun a=>if ha:p a then (h a ha).choose else Classical.choice inferInstance,fun a ha=>?_⟩
 simp only[ha,dif_pos]
 exact(h a ha).choose_spec
theorem pcall_node{x:Nd}(hx:NdOk x){g:FuncId}{v:AV}{H':Hp}(h:callB cx D 0 g [.agg (nodeC x)] []=some (v,H'))(hv:Abs.frz 0 H' v=v):pcall D g [.agg (nodeC x)]=some v:=by
 have hs:Sl 2 x.nx (x.es.map ed):=hx
 rw[pcall_eq (v:=v) (H':=H') (by rw[List.map_cons,List.map_nil,show Abs.cl2 (.agg (nodeC x))=.agg ((nodeC x).map Abs.cl0) from rfl];simp only[List.map_cons,List.map_nil,cl0_lit,hs.cl0];exact h),hv]
theorem shaped_ok{x:Nd}(hx:NdOk x):pcall D 116 [.agg (nodeC x)]=some (bv (shp x)):=by
 obtain⟨H',h⟩:=shaped_call hx
 exact pcall_node hx h rfl
theorem at_ed{a:AV}{es:List (Int×Int)}(ha:Sl 2 a (es.map ed)){i:Nat}(hi:i<es.length):aindexAddr cx.T 64 a (iv i)=some (.vp (ed (es.getD i (0,0))) 0):=by
 rw[aindexAddr_sl ha sl64 (by rw[List.length_map];omega) rfl,get_ed hi]
def outE(n:Int)(e:Int×Int):Bool:=decide (e.1<0)||decide (n≤e.1)
def opn(n:Int)(x:Nd):Bool:=x.es.any (outE n)||(x.chan&&outE n (x.pt,x.ps))
abbrev nodeV(x:Nd):AV:=.agg (nodeC x)
abbrev tyV(r:Int×Int):AV:=.agg [iv r.1,iv r.2]
structure NsOk(ns:List Nd)(a:AV):Prop where
 sl:Sl 6 a (ns.map nodeV)
 ok:∀x∈ns,NdOk x
 ln:ns.length<2 ^ 30
theorem build61(a b:Int):abuild cx.T 61 [(0,iv a),(1,iv b)]=some (.agg [iv a,iv b]):=nk
theorem build61a(a:Int):abuild cx.T 61 [(0,iv a)]=some (.agg [iv a,iv 0]):=nk
theorem NsOk.at{ns:List Nd}{a:AV}(h:NsOk ns a){m:Nat}{x:Nd}(hx:ns[m]?=some x):aindexAddr cx.T 56 a (iv m)=some (.vp (nodeV x) 0):=by
 have hm:=(List.getElem?_eq_some_iff.1 hx).1
 rw[aindexAddr_sl h.sl sl56 (by rw[List.length_map];exact hm) rfl]
 rw[List.getD_eq_getElem?_getD,List.getElem?_map,hx];rfl
theorem atN_cases{ns:List Nd}(n:Int):(atN ns n=none∧(n<0∨(ns.length:Int)≤n))∨∃(m:Nat)(x:Nd),n=m∧m<ns.length∧ns[m]?=some x∧atN ns n=some x:=by
 unfold atN
 by_cases h:n<0
 ·exact .inl ⟨by rw[if_pos h],.inl h⟩
 ·rw[if_neg h]
  by_cases h2:(ns.length:Int)≤n
  ·exact .inl ⟨List.getElem?_eq_none (by omega),.inr h2⟩
  ·have hlt:n.toNat<ns.length:=by omega
   exact .inr ⟨n.toNat,_,by omega,hlt,List.getElem?_eq_getElem hlt,List.getElem?_eq_getElem hlt⟩
theorem wlk_out{ns:List Nd}{k:Nat}{n o:Int}(ha:atN ns n=none):wlk ns (k+1) n o=(-1,0):=by simp only[wlk,nxt,ha]
theorem wlk_ne{ns:List Nd}{k:Nat}{n o:Int}{x:Nd}(ha:atN ns n=some x)(h:x.kind≠5):wlk ns (k+1) n o=(n,o):=by simp only[wlk,nxt,ha,h,if_false]
theorem wlk_one{ns:List Nd}{k:Nat}{n o:Int}{x:Nd}{e:Int×Int}(ha:atN ns n=some x)(h:x.kind=5)(he:x.es=[e]):wlk ns (k+1) n o=wlk ns k e.1 (wrapK .i64 (o+e.2)):=by simp only[wlk,nxt,ha,h,if_true,he]
theorem wlk_bad{ns:List Nd}{k:Nat}{n o:Int}{x:Nd}(ha:atN ns n=some x)(h:x.kind=5)(hl:x.es.length≠1):wlk ns (k+1) n o=(-1,0):=by
 have hn:nxt ns n=none:=by
  unfold nxt
  simp only[ha,h,if_true]
  split
  ·rename_i he;rw[he]at hl;exact absurd rfl hl
  ·rfl
 simp only[wlk,hn,ha,h,if_true]
theorem kill_ptr{b i j m:Nat}(h:b<m):kill m (.ptr b i j)=.ptr b i j:=by
 show (if b<m then _ else _)=_;rw[if_pos h]
theorem x_assoc{cx:Cx}{h:Hd}{ro fn nt:Nat}{fr:PT}{H:Hp}(a b c:Code):ex cx h ro fn nt (.seq (.seq a b) c) fr H=ex cx h ro fn nt (.seq a (.seq b c)) fr H:=by
 rw[x_seq,x_seq,x_seq]
 cases ex cx h ro fn nt a fr H with
 | none=>rfl
 | some r =>
  obtain⟨e,fr1,H1⟩:=r
  cases e with
  | normal=>rw[xbind_some,xbind_some,contR_normal,contR_normal,x_seq]
  | _=>rfl
structure RsFr(fr:PT)(a:AV)(i:Nat):Prop where
 f0:fr.get 0=a
 f3:fr.get 3=.ptr 0 0 0
 f4:fr.get 4=.ptr 1 0 0
 f5:fr.get 5=iv i
theorem rres_loop{ns:List Nd}{a:AV}(hns:NsOk ns a):∀(k i:Nat)(fr:PT)(G:Hp)(n o:Int),ns.length+1-i=k→i≤ns.length+1→G.length=2→
  G[0]?=some (.cells 2 61 [tyV (n,o)])→G[1]?=some (.cells 2 61 [tyV (0,0)])→RsFr fr a i→
  ∃e fr' G',D.loop 0 52 53 l52_0 fr G=some (e,fr',G')∧fr'.get 4=.ptr 1 0 0∧1<G'.length∧((e=.ret∧G'[1]?=some (.cells 2 61 [tyV (wlk ns k n o)]))∨(e=.exit 0∧G'[1]?=some (.cells 2 61 [tyV (0,0)])∧wlk ns k n o=(-1,0)))
 | 0,i,fr,G,n,o,hk,hi,hG,h0,h1,F=>by
  have hn:¬((i:Int)≤(ns.length:Int)):=by omega
  rw[dl52_0]
  simp -implicitDefEqProofs (maxDischargeDepth:=4) only[go_sem,F.f0,F.f3,F.f4,F.f5,hns.sl.shr,hns.sl.notOwn,alen_sl hns.sl,List.length_map,hn]
  exact⟨_,_,_,rfl,by simp only[go_sem,F.f4],by rw[hG];decide,.inr ⟨rfl,h1,rfl⟩⟩
 | k+1,i,fr,G,n,o,hk,hi,hG,h0,h1,F=>by
  have hn:((i:Int)≤(ns.length:Int)):=by omega
  have e3:wrapK .i64 ((i:Int)+1)=((i+1:Nat):Int):=by
   have:=hns.ln
   rw[wrapK_i64 (by omega) (by omega)];rfl
  rw[dl52_0]
  rcases atN_cases (ns:=ns) n with⟨ha,hor⟩ | ⟨m,x,rfl,hm,hx,ha⟩
  ·have hw:wlk ns (k+1) n o=(-1,0):=wlk_out ha
   rw[hw]
   by_cases h2:n<0
   ·simp -implicitDefEqProofs (maxDischargeDepth:=4) only[go_sem,F.f0,F.f3,F.f4,F.f5,hns.sl.shr,hns.sl.notOwn,alen_sl hns.sl,List.length_map,hn,h0,h1,hG,h2,build61a]
    exact⟨_,_,_,rfl,by simp only[go_sem,F.f4],by rw[List.length_set,hG];decide,.inl ⟨rfl,by rw[hp_one (by rw[hG];decide)]⟩⟩
   ·have h3:(ns.length:Int)≤n:=by omega
    simp -implicitDefEqProofs (maxDischargeDepth:=4) only[go_sem,F.f0,F.f3,F.f4,F.f5,hns.sl.shr,hns.sl.notOwn,alen_sl hns.sl,List.length_map,hn,h0,h1,hG,h2,build61a,h3]
    exact⟨_,_,_,rfl,by simp only[go_sem,F.f4],by rw[List.length_set,hG];decide,.inl ⟨rfl,by rw[hp_one (by rw[hG];decide)]⟩⟩
  ·have h2:¬(m:Int)<0:=by omega
   have h3:¬(ns.length:Int)≤(m:Int):=by omega
   have hat:=hns.at hx
   have hs:Sl 2 x.nx (x.es.map ed):=hns.ok x (List.mem_of_getElem? hx)
   by_cases hk5:x.kind=5
   ·by_cases hl1:x.es.length=1
    ·obtain⟨e,he⟩:=List.length_eq_one_iff.1 hl1
     have hw:wlk ns (k+1) m o=wlk ns k e.1 (wrapK .i64 (o+e.2)):=wlk_one ha hk5 he
     have hat2:aindexAddr cx.T 64 x.nx (iv 0)=some (.vp (ed e) 0):=by
      have:=at_ed hs (show 0<x.es.length by omega)
      rw[he]at this;exact this
     rw[hw]
     simp -implicitDefEqProofs (maxDischargeDepth:=4) only[go_sem,F.f0,F.f3,F.f4,F.f5,hns.sl.shr,hns.sl.notOwn,alen_sl hns.sl,List.length_map,hn,h0,h1,hG,h2,build61a,h3,hat,hs.shr,hs.notOwn,hs.drp,hs.fitA,elP_Sl hs,alen_sl hs,hk5,hl1,hat2,e3,Int.natCast_one,nbeq,build61]
     refine trim_gen (P:=fun q=>∃e1 fr' G',q=some (e1,fr',G')∧fr'.get 4=.ptr 1 0 0∧1<G'.length∧((e1=.ret∧G'[1]?=some (.cells 2 61 [tyV (wlk ns k e.1 (wrapK .i64 (o+e.2)))]))∨(e1=.exit 0∧G'[1]?=some (.cells 2 61 [tyV (0,0)])∧wlk ns k e.1 (wrapK .i64 (o+e.2))=(-1,0))))
      [0,3,4,5] ?_ (fun t ht=>?_) fun fr' G' hG' hf hk'=>rres_loop hns k (i+1) fr' G' e.1 (wrapK .i64 (o+e.2)) (by omega) (by omega) hG' (hk' 0 _ (by decide) ?_ rfl) (hk' 1 _ (by decide) ?_ rfl) ⟨?_,?_,?_,?_⟩
     ·rw[List.length_append,List.length_set,hG];exact Nat.le_add_right _ _
     ·simp only[List.mem_cons,List.not_mem_nil,or_false]at ht
      rcases ht with rfl | rfl | rfl | rfl<;>simp -implicitDefEqProofs (maxDischargeDepth:=4) only[go_sem,F.f0,F.f3,F.f4,kill_Sl hns.sl,kill_lit,kill_ptr]
     ·rw[hp_get_l (by rw[List.length_set,hG];decide),hp_one (by rw[hG];decide)]
     ·rw[hp_get_l (by rw[List.length_set,hG];decide),hp_ne (by decide),h1]
     ·rw[hf 0 (by simp)];simp -implicitDefEqProofs (maxDischargeDepth:=4) only[go_sem,F.f0]
     ·rw[hf 3 (by simp)];simp -implicitDefEqProofs (maxDischargeDepth:=4) only[go_sem,F.f3]
     ·rw[hf 4 (by simp)];simp -implicitDefEqProofs (maxDischargeDepth:=4) only[go_sem,F.f4]
     ·rw[hf 5 (by simp)];simp -implicitDefEqProofs (maxDischargeDepth:=4) only[go_sem]
    ·have hl1':¬(x.es.length:Int)=1:=by omega
     have hw:wlk ns (k+1) m o=(-1,0):=wlk_bad ha hk5 hl1
     rw[hw]
     simp -implicitDefEqProofs (maxDischargeDepth:=4) only[go_sem,F.f0,F.f3,F.f4,F.f5,hns.sl.shr,hns.sl.notOwn,alen_sl hns.sl,List.length_map,hn,h0,h1,hG,h2,build61a,h3,hat,hs.shr,hs.notOwn,hs.drp,hs.fitA,elP_Sl hs,alen_sl hs,hk5,hl1']
     exact⟨_,_,_,rfl,by simp only[go_sem,F.f4],by simp[hG],.inl ⟨rfl,by rw[hp_get_l (by rw[List.length_set,hG];decide),hp_one (by rw[hG];decide)]⟩⟩
   ·have hw:wlk ns (k+1) m o=((m:Int),o):=wlk_ne ha hk5
    rw[hw]
    simp -implicitDefEqProofs (maxDischargeDepth:=4) only[go_sem,F.f0,F.f3,F.f4,F.f5,hns.sl.shr,hns.sl.notOwn,alen_sl hns.sl,List.length_map,hn,h0,h1,hG,h2,build61a,h3,hat,hs.shr,hs.notOwn,hs.drp,hs.fitA,elP_Sl hs,alen_sl hs,hk5]
    exact⟨_,_,_,rfl,by simp only[go_sem,F.f4],by simp[hG],.inl ⟨rfl,by rw[hp_get_l (by rw[List.length_set,hG];decide),hp_one (by rw[hG];decide)]⟩⟩
theorem rres_call{ns:List Nd}{a:AV}(hns:NsOk ns a)(n o:Int):∃H',callB cx D 0 52 [a,tyV (n,o)] []=some (tyV (wlk ns ns.length n o),H'):=by
 rw[←wlk_end]
 have hM:∀fr:PT,RsFr fr a 0→∃H',returned cx [.cell 4 61] (ex cx D 0 52 53 (.seq (.block 0 (.loop l52_0)) (.seq (.region 12 g52_12 false) .ret)) fr [.cells 2 61 [tyV (n,o)],.cells 2 61 [tyV (0,0)]])=some (tyV (wlk ns (ns.length+1) n o),H'):=fun fr F=>by
  obtain⟨e,fr',G',q1,q2,q3,q4⟩:=rres_loop hns (ns.length+1) 0 fr [.cells 2 61 [tyV (n,o)],.cells 2 61 [tyV (0,0)]] n o (by omega) (by omega) rfl rfl rfl F
  rcases q4 with⟨rfl,q4⟩ | ⟨rfl,q4,q5⟩
  ·simp -implicitDefEqProofs (maxDischargeDepth:=4) only[go_sem,x_loop,q1,q2,q4]
   exact⟨_,rfl⟩
  ·rw[q5]
   simp -implicitDefEqProofs (maxDischargeDepth:=4) only[go_sem,x_loop,q1,q2,q4,build61a,q3]
   exact⟨_,rfl⟩
 obtain⟨fr1,e1,f0,f3,f4⟩:∃fr1,ex cx D 0 52 53 (.region 0 g52_0 false) ((PT.nil.set 0 (drp a)).set 1 (drp (tyV (n,o)))) []=some (.normal,fr1,[.cells 2 61 [tyV (n,o)],.cells 2 61 [tyV (0,0)]])∧fr1.get 0=a∧fr1.get 3=.ptr 0 0 0∧fr1.get 4=.ptr 1 0 0:=by
  simp -implicitDefEqProofs (maxDischargeDepth:=4) only[go_sem,Nat.le_refl,Nat.zero_le,hns.sl.drp]
  exact⟨_,rfl,by simp only[go_sem,hns.sl.drp],by simp only[go_sem],by simp only[go_sem]⟩
 obtain⟨fr2,e2,F2⟩:∃fr2,ex cx D 0 52 53 (.region 1 g52_1 false) fr1 [.cells 2 61 [tyV (n,o)],.cells 2 61 [tyV (0,0)]]=some (.normal,fr2,[.cells 2 61 [tyV (n,o)],.cells 2 61 [tyV (0,0)]])∧RsFr fr2 a 0:=by
  simp -implicitDefEqProofs (maxDischargeDepth:=4) only[go_sem]
  refine⟨_,rfl,?_,?_,?_,?_⟩<;>simp -implicitDefEqProofs (maxDischargeDepth:=4) only[go_sem,f0,f3,f4,Int.ofNat_zero]
 rw[c52,x_cont1 e1,x_assoc,x_cont1 e2]
 exact hM fr2 F2
theorem rres_ok{ns:List Nd}{a:AV}(hns:NsOk ns a)(n o:Int):pcall D 52 [a,tyV (n,o)]=some (tyV (wlk ns ns.length n o)):=by
 obtain⟨H',h⟩:=rres_call hns n o
 rw[pcall_eq (v:=tyV (wlk ns ns.length n o)) (H':=H') (by rw[List.map_cons,List.map_cons,List.map_nil,hns.sl.cl2];exact h)]
 rfl
structure Rnd(m l b3:Nat)(I:Hp→Prop)(Dn:Int→Int→Nd→Hp→Prop):Prop where
 grow:∀ {G L},I G→I (G++L)
 set3:∀ {G x},I G→I (G.set b3 x)
 setm:∀ {G j x},m≤j→I G→I (G.set j x)
 trim:∀ {G},I G→m≤G.length→I ((G.take m).map (killB m))
 yes:∀ {G n o x},I G→m<G.length→NdOk x→x.kind=5→∃G',round D 0 l [tyV (n,o),nodeV x] G=some (bv true,G')∧I G'∧G.length≤G'.length∧∀j,j≠l→j<G.length→G'[j]?=G[j]?
 no:∀ {G n o x},I G→m<G.length→NdOk x→x.kind≠5→∃G',round D 0 l [tyV (n,o),nodeV x] G=some (bv false,G')∧Dn n o x G'
structure WFr(fr:PT)(l b2 b3 len i:Nat):Prop where
 f0:fr.get 0=.yld l
 f1:fr.get 1=.ptr b2 0 0
 f2:fr.get 2=.ptr b3 0 0
 f6:fr.get 6=iv len
 f7:fr.get 7=iv i
theorem kill_yld{l m:Nat}(h:l<m):kill m (.yld l)=.yld l:=by
 show (if l<m then _ else _)=_;rw[if_pos h]
theorem trim_I{P:Option Res→Prop}{I:Hp→Prop}{k:PT→Hp→Option Res}{n:Nat}{fr:PT}{G:Hp}(tr:∀ {G},I G→n≤G.length→I ((G.take n).map (killB n)))(hI:I G)(T:List Tmp)(hn:n≤G.length)(hT:∀t∈T,kill n (fr.get t)=fr.get t)
  (hX:∀fr' G',G'.length=n→I G'→(∀t∈T,fr'.get t=fr.get t)→(∀j x,j<n→G[j]?=some x→killB n x=x→G'[j]?=some x)→P (k fr' G')):P (trimmed k n fr G):=by
 unfold trimmed
 split
 ·rename_i h;exact hX _ _ h hI (fun _ _=>rfl) (fun _ _ _ h _=>h)
 ·refine hX _ _ (by rw[List.length_map,List.length_take];omega) (tr hI hn) (fun t ht=>by rw[get_mapkill,hT t ht]) fun j x hj hx hk=>?_
  rw[List.getElem?_map,List.getElem?_take_of_lt hj,hx,Option.map_some,hk]
theorem killB_a{ns:List Nd}{a:AV}(hns:NsOk ns a)(m:Nat):killB m (.cells 1 56 [a])=.cells 1 56 [a]:=by
 rcases hns.sl with rfl | rfl | ⟨rfl,_⟩<;>rfl
theorem ofVal_ty:ofVal (.agg #[.int .i64 0,.int .i64 0])=tyV (0,0):=rfl
theorem way_loop{ns:List Nd}{a:AV}(hns:NsOk ns a){m l b2 b3:Nat}{I:Hp→Prop}{Dn:Int→Int→Nd→Hp→Prop}(R:Rnd m l b3 I Dn)(h2m:b2<m)(h3m:b3<m)(hlm:l<m)(h23:b3≠b2)(hl2:b2≠l)(hl3:b3≠l):
  ∀(k i:Nat)(fr:PT)(G:Hp)(n o:Int),ns.length-i=k→i≤ns.length→G.length=m→I G→G[b2]?=some (.cells 1 56 [a])→G[b3]?=some (.cells 2 61 [tyV (n,o)])→WFr fr l b2 b3 ns.length i→
  ∃e fr' G',D.loop 0 156 48 l156_0 fr G=some (e,fr',G')∧((∃m x o',wlk ns k n o=(m,o')∧atN ns m=some x∧x.kind≠5∧Dn m o' x G'∧e=.ret)∨(wlk ns k n o=(-1,0)∧I G'∧(e=.ret∨e=.exit 0)))
 | 0,i,fr,G,n,o,hk,hi,hG,hI,g2,g3,F=>by
  have hn:¬((i:Int)<(ns.length:Int)):=by omega
  rw[dl156_0]
  simp -implicitDefEqProofs (maxDischargeDepth:=4) only[go_sem,F.f6,F.f7,hn]
  exact⟨_,_,_,rfl,.inr ⟨rfl,hI,.inr rfl⟩⟩
 | k+1,i,fr,G,n,o,hk,hi,hG,hI,g2,g3,F=>by
  have hln:=hns.ln
  have hn:((i:Int)<(ns.length:Int)):=by omega
  have e3:wrapK .i64 ((i:Int)+1)=((i+1:Nat):Int):=by rw[wrapK_i64 (by omega) (by omega)];rfl
  have e4:wrapK .i64 ((ns.length:Int)-1)=(ns.length:Int)-1:=wrapK_i64 (by omega) (by omega)
  have hwi:=within_ok n ((ns.length:Int)-1)
  have ea:elP false 1 a 0=some a:=elP_Sl hns.sl
  rw[dl156_0]
  rcases atN_cases (ns:=ns) n with⟨ha,hor⟩ | ⟨q,x,rfl,hq,hx,ha⟩
  ·rw[wlk_out ha]
   have hb:inB n ((ns.length:Int)-1)=false:=by
    cases h:inB n ((ns.length:Int)-1) with
    | false=>rfl
    | true=>rw[inB_iff]at h;omega
   simp -implicitDefEqProofs (maxDischargeDepth:=4) only[go_sem,F.f0,F.f1,F.f2,F.f6,F.f7,hn,g2,g3,ea,hns.sl.shr,hns.sl.notOwn,alen_sl hns.sl,List.length_map,e4,hwi,hb,u_not]
   exact⟨_,_,_,rfl,.inr ⟨hI,.inl rfl⟩⟩
  ·have hb:inB (q:Int) ((ns.length:Int)-1)=true:=by rw[inB_iff];omega
   have hat:=hns.at hx
   have hxok:=hns.ok x (List.mem_of_getElem? hx)
   have hs:Sl 2 x.nx (x.es.map ed):=hxok
   have hlen1:m<(G++[ABlock.cells 6 66 [nodeV x]]).length:=by rw[List.length_append,hG];exact Nat.lt_succ_self m
   by_cases hk5:x.kind=5
   ·obtain⟨G1,q1,q2,q3,q4⟩:=R.yes (G:=G++[ABlock.cells 6 66 [nodeV x]]) (n:=q) (o:=o) (R.grow hI) hlen1 hxok hk5
    rw[List.length_append,hG]at q3
    have r2:G1[b2]?=some (.cells 1 56 [a]):=by rw[q4 b2 hl2 (by omega),hp_get_l (by omega),g2]
    have r3:G1[b3]?=some (.cells 2 61 [tyV (q,o)]):=by rw[q4 b3 hl3 (by omega),hp_get_l (by omega),g3]
    have r4:G1[m]?=some (.cells 6 66 [nodeV x]):=by rw[q4 m (by omega) hlen1,hp_get_r0 hG];rfl
    have hb3:b3<G1.length:=by omega
    have hgm:m≠b3:=by omega
    by_cases hl1:x.es.length=1
    ·obtain⟨e,he⟩:=List.length_eq_one_iff.1 hl1
     have hat2:aindexAddr cx.T 64 x.nx (iv 0)=some (.vp (ed e) 0):=by
      have:=at_ed hs (show 0<x.es.length by omega)
      rw[he]at this;exact this
     rw[wlk_one ha hk5 he]
     simp -implicitDefEqProofs (maxDischargeDepth:=4) only[go_sem,F.f0,F.f1,F.f2,F.f6,F.f7,hG,hn,g2,g3,h2m,h3m,ea,hns.sl.shr,hns.sl.notOwn,alen_sl hns.sl,List.length_map,e4,hwi,hb,u_not,hat,hs.shr,hs.notOwn,hs.drp,hs.fitA,Nat.zero_le,Nat.not_lt_zero,q1,r2,r3,r4,elP_Sl hs,alen_sl hs,hl1,hat2,e3,Int.natCast_one,nbeq,ofVal_ty,hb3,hgm]
     refine trim_I (P:=fun z=>∃e1 fr' G',z=some (e1,fr',G')∧((∃m x o',wlk ns k e.1 (wrapK .i64 (o+e.2))=(m,o')∧atN ns m=some x∧x.kind≠5∧Dn m o' x G'∧e1=.ret)∨(wlk ns k e.1 (wrapK .i64 (o+e.2))=(-1,0)∧I G'∧(e1=.ret∨e1=.exit 0))))
      (I:=I) R.trim (R.set3 (R.set3 (R.set3 q2))) [0,1,2,6,7] ?_ (fun t ht=>?_) fun fr' G' hG' hI' hf hk'=>way_loop hns R h2m h3m hlm h23 hl2 hl3 k (i+1) fr' G' e.1 (wrapK .i64 (o+e.2)) (by omega) (by omega) hG' hI' (hk' b2 _ h2m ?_ (killB_a hns m)) (hk' b3 _ h3m ?_ rfl) ⟨?_,?_,?_,?_,?_⟩
     ·simp only[List.length_set];simp only[List.length_cons,List.length_nil]at q3;omega
     ·simp only[List.mem_cons,List.not_mem_nil,or_false]at ht
      rcases ht with rfl | rfl | rfl | rfl | rfl<;>simp -implicitDefEqProofs (maxDischargeDepth:=4) only[go_sem,F.f0,F.f1,F.f2,F.f6,F.f7,kill_lit,kill_ptr,kill_yld,h2m,h3m,hlm]
     ·rw[hp_ne h23,hp_ne h23,hp_ne h23,r2]
     ·rw[hp_one (by simp only[List.length_set];exact hb3)]
     ·rw[hf 0 (by simp)];simp -implicitDefEqProofs (maxDischargeDepth:=4) only[go_sem,F.f0]
     ·rw[hf 1 (by simp)];simp -implicitDefEqProofs (maxDischargeDepth:=4) only[go_sem,F.f1]
     ·rw[hf 2 (by simp)];simp -implicitDefEqProofs (maxDischargeDepth:=4) only[go_sem,F.f2]
     ·rw[hf 6 (by simp)];simp -implicitDefEqProofs (maxDischargeDepth:=4) only[go_sem,F.f6]
     ·rw[hf 7 (by simp)];simp -implicitDefEqProofs (maxDischargeDepth:=4) only[go_sem]
    ·have hl1':¬(x.es.length:Int)=1:=by omega
     rw[wlk_bad ha hk5 hl1]
     simp -implicitDefEqProofs (maxDischargeDepth:=4) only[go_sem,F.f0,F.f1,F.f2,F.f6,F.f7,hG,hn,g2,g3,h2m,h3m,ea,hns.sl.shr,hns.sl.notOwn,alen_sl hns.sl,List.length_map,e4,hwi,hb,u_not,hat,hs.shr,hs.notOwn,hs.drp,hs.fitA,Nat.zero_le,Nat.not_lt_zero,q1,r2,r3,r4,elP_Sl hs,alen_sl hs,hl1']
     exact⟨_,_,_,rfl,.inr ⟨q2,.inl rfl⟩⟩
   ·obtain⟨G1,q1,q2⟩:=R.no (G:=G++[ABlock.cells 6 66 [nodeV x]]) (n:=q) (o:=o) (R.grow hI) hlen1 hxok hk5
    rw[wlk_ne ha hk5]
    simp -implicitDefEqProofs (maxDischargeDepth:=4) only[go_sem,F.f0,F.f1,F.f2,F.f6,F.f7,hG,hn,g2,g3,h2m,h3m,ea,hns.sl.shr,hns.sl.notOwn,alen_sl hns.sl,List.length_map,e4,hwi,hb,u_not,hat,hs.shr,hs.notOwn,hs.drp,hs.fitA,Nat.zero_le,Nat.not_lt_zero,q1]
    exact⟨_,_,_,rfl,.inl ⟨_,_,_,rfl,ha,hk5,q2,rfl⟩⟩
theorem way_call{ns:List Nd}{a:AV}(hns:NsOk ns a){m l b2 b3:Nat}{I:Hp→Prop}{Dn:Int→Int→Nd→Hp→Prop}(R:Rnd m l b3 I Dn)(h2m:b2<m)(h3m:b3<m)(hlm:l<m)(h23:b3≠b2)(hl2:b2≠l)(hl3:b3≠l)
  {G:Hp} {n o:Int} (hG:G.length=m) (hI:I G) (g2:G[b2]?=some (.cells 1 56 [a])) (g3:G[b3]?=some (.cells 2 61 [tyV (n,o)])):
  ∃G',callB cx D 0 156 [.yld l,.ptr b2 0 0,.ptr b3 0 0] G=some (.tup [],G')∧((∃m x o',wlk ns ns.length n o=(m,o')∧atN ns m=some x∧x.kind≠5∧Dn m o' x G')∨(wlk ns ns.length n o=(-1,0)∧I G')):=by
 have ea:elP false 1 a 0=some a:=elP_Sl hns.sl
 obtain⟨fr1,e1,F⟩:∃fr1,ex cx D 0 156 48 (.region 0 g156_0 false) (((PT.nil.set 0 (drp (.yld l))).set 1 (drp (.ptr b2 0 0))).set 2 (drp (.ptr b3 0 0))) G=some (.normal,fr1,G)∧WFr fr1 l b2 b3 ns.length 0:=by
  simp -implicitDefEqProofs (maxDischargeDepth:=4) only[go_sem,g2,ea,hns.sl.shr,hns.sl.notOwn,alen_sl hns.sl,List.length_map]
  refine⟨_,rfl,?_,?_,?_,?_,?_⟩<;>simp only[go_sem,Int.ofNat_zero]
 obtain⟨e,fr',G',q1,q2⟩:=way_loop hns R h2m h3m hlm h23 hl2 hl3 ns.length 0 fr1 G n o (by omega) (by omega) hG hI g2 g3 F
 refine⟨G',?_,?_⟩
 ·rw[c156,x_cont1 e1]
  have he:e=.ret∨e=.exit 0:=by
   rcases q2 with⟨_,_,_,_,_,_,_,h⟩ | ⟨_,_,h⟩
   ·exact .inl h
   ·exact h
  rcases he with rfl | rfl<;>simp only[go_sem,x_loop,q1]
 ·rcases q2 with⟨m,x,o',a1,a2,a3,a4,_⟩ | ⟨a1,a2,_⟩
  ·exact .inl ⟨m,x,o',a1,a2,a3,a4⟩
  ·exact .inr ⟨a1,a2⟩
noncomputable def lp51(rfr:PT):ALoop:={ fn:=51,nt:=17,fr:=rfr,params:=[10,11],assign:=q51_0,body:=r51_0,state:=.ready,pending:=none }
structure I51(G:Hp):Prop where
 b1:G[1]?=some (.cells 2 61 [tyV (0,0)])
 lp:∃rfr,G[4]?=some (.loop (lp51 rfr))∧rfr.get 4=.ptr 1 0 0
structure D51(n o:Int)(x:Nd)(G:Hp):Prop where
 b1:G[1]?=some (.cells 2 61 [tyV (n,o)])
 lp:∃r:ALoop,G[4]?=some (.loop r)∧r.state=.done∧r.pending=some .ret
theorem rnd51:Rnd 5 4 3 I51 D51:=by
 refine⟨?_,?_,?_,?_,?_,?_⟩
 ·rintro G L ⟨h1,rfr,h2,h3⟩
  exact⟨by rw[hp_get_l (lt_of_get h1),h1],rfr,by rw[hp_get_l (lt_of_get h2),h2],h3⟩
 ·rintro G x ⟨h1,rfr,h2,h3⟩
  exact⟨by rw[hp_ne (by decide),h1],rfr,by rw[hp_ne (by decide),h2],h3⟩
 ·rintro G j x hj ⟨h1,rfr,h2,h3⟩
  exact⟨by rw[hp_ne (by omega),h1],rfr,by rw[hp_ne (by omega),h2],h3⟩
 ·rintro G ⟨h1,rfr,h2,h3⟩ hG
  refine⟨?_,rfr.map (kill 5),?_,?_⟩
  ·rw[List.getElem?_map,List.getElem?_take_of_lt (by decide),h1];rfl
  ·rw[List.getElem?_map,List.getElem?_take_of_lt (by decide),h2];rfl
  ·rw[get_mapkill,h3,kill_ptr (by decide)]
 ·rintro G n o x ⟨h1,rfr,h2,h3⟩ hG hx hk
  have hs:Sl 2 x.nx (x.es.map ed):=hx
  obtain⟨len,hlen⟩:∃len,G.length=len:=⟨_,rfl⟩
  have h4:4<G.length:=by omega
  obtain⟨fr1,e1,f4,f5,f6⟩:∃fr1,ex cx D 0 51 17 q51_0 (setArgs [(10,tyV (n,o)),(11,nodeV x)] rfr) G=some (.normal,fr1,G++[.cells 2 61 [tyV (n,o)],.cells 6 66 [nodeV x]])∧fr1.get 4=.ptr 1 0 0∧fr1.get 5=.ptr len 0 0∧fr1.get 6=.ptr (len+1) 0 0:=by
   unfold q51_0
   simp -implicitDefEqProofs (maxDischargeDepth:=4) only[go_sem,hlen,Nat.zero_le,Nat.not_lt_zero,hs.shr]
   exact⟨_,rfl,by simp only[go_sem,h3],by simp only[go_sem],by simp only[go_sem]⟩
  have hl1:(G++[ABlock.cells 2 61 [tyV (n,o)],.cells 6 66 [nodeV x]])[4]?=some (.loop (lp51 rfr)):=by rw[hp_get_l h4,h2]
  obtain⟨G1,hG1⟩:∃G1,(G++[ABlock.cells 2 61 [tyV (n,o)],.cells 6 66 [nodeV x]]).set 4 (.loop { lp51 rfr with state:=.busy })=G1:=⟨_,rfl⟩
  have hl2:G1[4]?=some (.loop { lp51 rfr with state:=.busy }):=by rw[←hG1,hp_one (by rw[List.length_append];omega)]
  have g1:G1[1]?=some (.cells 2 61 [tyV (0,0)]):=by rw[←hG1,hp_ne (by decide),hp_get_l (by omega),h1]
  have g5:G1[len]?=some (.cells 2 61 [tyV (n,o)]):=by rw[←hG1,hp_ne (by omega),hp_get_r0 hlen];rfl
  have g6:G1[len+1]?=some (.cells 6 66 [nodeV x]):=by rw[←hG1,hp_ne (by omega),hp_get_r hlen];rfl
  have gj:∀j,j≠4→j<G.length→G1[j]?=G[j]?:=fun j hj hlt=>by rw[←hG1,hp_ne (Ne.symm hj),hp_get_l hlt]
  have gl:G1.length=len+2:=by rw[←hG1,List.length_set,List.length_append,hlen];rfl
  rw[round_eq h2 (Nat.zero_le _) rfl rfl rfl,show setArgs ((lp51 rfr).params.zip [tyV (n,o),nodeV x]) (lp51 rfr).fr=setArgs [(10,tyV (n,o)),(11,nodeV x)] rfr from rfl,
   show ex cx (den cx) 0 (lp51 rfr).fn (lp51 rfr).nt (lp51 rfr).assign=ex cx D 0 51 17 q51_0 from rfl,e1,bodyRound_eq hl1 rfl,hG1,show ex cx (den cx) 0 (lp51 rfr).fn (lp51 rfr).nt (lp51 rfr).body=ex cx D 0 51 17 r51_0 from rfl]
  obtain⟨fr2,e2⟩:∃fr2,ex cx D 0 51 17 r51_0 fr1 G1=some (.normal,fr2,G1):=by
   unfold r51_0
   simp -implicitDefEqProofs (maxDischargeDepth:=4) only[go_sem,f6,g6,hk]
   exact⟨_,rfl⟩
  rw[e2,endRound_normal hl2]
  refine⟨_,rfl,⟨by rw[hp_ne (by decide),g1],rfr,by rw[hp_one (by omega)];rfl,h3⟩,by rw[List.length_set];omega,fun j hj hlt=>by rw[hp_ne (Ne.symm hj),gj j hj hlt]⟩
 ·rintro G n o x ⟨h1,rfr,h2,h3⟩ hG hx hk
  have hs:Sl 2 x.nx (x.es.map ed):=hx
  obtain⟨len,hlen⟩:∃len,G.length=len:=⟨_,rfl⟩
  have h4:4<G.length:=by omega
  obtain⟨fr1,e1,f4,f5,f6⟩:∃fr1,ex cx D 0 51 17 q51_0 (setArgs [(10,tyV (n,o)),(11,nodeV x)] rfr) G=some (.normal,fr1,G++[.cells 2 61 [tyV (n,o)],.cells 6 66 [nodeV x]])∧fr1.get 4=.ptr 1 0 0∧fr1.get 5=.ptr len 0 0∧fr1.get 6=.ptr (len+1) 0 0:=by
   unfold q51_0
   simp -implicitDefEqProofs (maxDischargeDepth:=4) only[go_sem,hlen,Nat.zero_le,Nat.not_lt_zero,hs.shr]
   exact⟨_,rfl,by simp only[go_sem,h3],by simp only[go_sem],by simp only[go_sem]⟩
  have hl1:(G++[ABlock.cells 2 61 [tyV (n,o)],.cells 6 66 [nodeV x]])[4]?=some (.loop (lp51 rfr)):=by rw[hp_get_l h4,h2]
  obtain⟨G1,hG1⟩:∃G1,(G++[ABlock.cells 2 61 [tyV (n,o)],.cells 6 66 [nodeV x]]).set 4 (.loop { lp51 rfr with state:=.busy })=G1:=⟨_,rfl⟩
  have hl2:G1[4]?=some (.loop { lp51 rfr with state:=.busy }):=by rw[←hG1,hp_one (by rw[List.length_append];omega)]
  have g1:G1[1]?=some (.cells 2 61 [tyV (0,0)]):=by rw[←hG1,hp_ne (by decide),hp_get_l (by omega),h1]
  have g5:G1[len]?=some (.cells 2 61 [tyV (n,o)]):=by rw[←hG1,hp_ne (by omega),hp_get_r0 hlen];rfl
  have g6:G1[len+1]?=some (.cells 6 66 [nodeV x]):=by rw[←hG1,hp_ne (by omega),hp_get_r hlen];rfl
  have gj:∀j,j≠4→j<G.length→G1[j]?=G[j]?:=fun j hj hlt=>by rw[←hG1,hp_ne (Ne.symm hj),hp_get_l hlt]
  have gl:G1.length=len+2:=by rw[←hG1,List.length_set,List.length_append,hlen];rfl
  rw[round_eq h2 (Nat.zero_le _) rfl rfl rfl,show setArgs ((lp51 rfr).params.zip [tyV (n,o),nodeV x]) (lp51 rfr).fr=setArgs [(10,tyV (n,o)),(11,nodeV x)] rfr from rfl,
   show ex cx (den cx) 0 (lp51 rfr).fn (lp51 rfr).nt (lp51 rfr).assign=ex cx D 0 51 17 q51_0 from rfl,e1,bodyRound_eq hl1 rfl,hG1,show ex cx (den cx) 0 (lp51 rfr).fn (lp51 rfr).nt (lp51 rfr).body=ex cx D 0 51 17 r51_0 from rfl]
  obtain⟨fr2,e2⟩:∃fr2,ex cx D 0 51 17 r51_0 fr1 G1=some (.ret,fr2,G1.set 1 (.cells 2 61 [tyV (n,o)])):=by
   unfold r51_0
   simp -implicitDefEqProofs (maxDischargeDepth:=4) only[go_sem,f4,f5,f6,g6,hk,g5,g1,Nat.not_lt_zero]
   exact⟨_,rfl⟩
  have hl3:(G1.set 1 (.cells 2 61 [tyV (n,o)]))[4]?=some (.loop { lp51 rfr with state:=.busy }):=by rw[hp_ne (by decide),hl2]
  rw[e2,endRound_other hl3 (by decide)]
  exact⟨_,rfl,⟨by rw[hp_ne (by decide),hp_one (by omega)],_,by rw[hp_one (by rw[List.length_set];omega)],rfl,rfl⟩⟩
theorem way_mk{ro:Nat}{a:AV}{ns:List Nd}(hns:NsOk ns a){H:Hp}(hro:ro≤H.length)(n o:Int):callB cx D ro 119 [a,tyV (n,o)] H=some (.fn 156 [.ptr H.length 0 0,.ptr (H.length+1) 0 0],H++[.cells 1 56 [a],.cells 2 61 [tyV (n,o)]]):=by
 obtain⟨m,hm⟩:∃m,H.length=m:=⟨_,rfl⟩
 have c1:∀j,ro≤m+j:=fun j=>by omega
 rw[hm]at hro ⊢
 rw[c119]
 simp -implicitDefEqProofs (maxDischargeDepth:=4) only[go_sem,hm,hro,c1,hns.sl.shr,hns.sl.notOwn,hns.sl.drp,hns.sl.fitA]
theorem res51_call{ns:List Nd}{a:AV}(hns:NsOk ns a)(n o:Int):∃H',callB cx D 0 51 [a,tyV (n,o)] []=some (tyV (wlk ns ns.length n o),H'):=by
 have hM:∀fr:PT,fr.get 4=.ptr 1 0 0→fr.get 9=.fn 156 [.ptr 2 0 0,.ptr 3 0 0]→∃H',returned cx [.cell 4 61] (ex cx D 0 51 17 (.seq (.block 0 (.rangeFunc (.tmp 9) #[10,11] q51_0 r51_0)) (.seq (.region 6 g51_6 false) .ret)) fr [.cells 2 61 [tyV (n,o)],.cells 2 61 [tyV (0,0)],.cells 1 56 [a],.cells 2 61 [tyV (n,o)]])=some (tyV (wlk ns ns.length n o),H'):=fun fr f4 f9=>by
  obtain⟨G',q1,q2⟩:=way_call hns rnd51 (b2:=2) (by decide) (by decide) (by decide) (by decide) (by decide) (by decide) (G:=[.cells 2 61 [tyV (n,o)],.cells 2 61 [tyV (0,0)],.cells 1 56 [a],.cells 2 61 [tyV (n,o)],.loop (lp51 (fr.map drp))]) (n:=n) (o:=o) rfl ⟨rfl,_,rfl,by rw[get_mapdrp,f4];rfl⟩ rfl rfl
  have q1':D.call 0 156 [.yld 4,.ptr 2 0 0,.ptr 3 0 0] [.cells 2 61 [tyV (n,o)],.cells 2 61 [tyV (0,0)],.cells 1 56 [a],.cells 2 61 [tyV (n,o)],.loop (lp51 (fr.map drp))]=some (.tup [],G'):=by rw[den_call_eq];exact q1
  have q3:ex cx D 0 51 17 (.rangeFunc (.tmp 9) #[10,11] q51_0 r51_0) fr [.cells 2 61 [tyV (n,o)],.cells 2 61 [tyV (0,0)],.cells 1 56 [a],.cells 2 61 [tyV (n,o)]]=endLoop 4 fr (some (.tup [],G')):=by
   rw[x_range,ev_tmp,f9,shr_fn,ranged_fn,←q1'];rfl
  rcases q2 with⟨m,x,o',a1,a2,a3,⟨d1,r,d2,d3,d4⟩⟩ | ⟨a1,⟨d1,rfr,d2,d3⟩⟩
  ·rw[a1]
   rw[endLoop_eq d2 (by rw[d3];decide),d4]at q3
   simp -implicitDefEqProofs (maxDischargeDepth:=4) only[go_sem,q3,f4,d1,Option.getD_some]
   exact⟨_,rfl⟩
  ·rw[a1]
   rw[endLoop_eq d2 (show LS.ready≠LS.busy by decide)]at q3
   have hl:=lt_of_get d1
   simp -implicitDefEqProofs (maxDischargeDepth:=4) only[go_sem,q3,f4,d1,lp51,Option.getD_none,build61a,hl,Nat.not_lt_zero]
   exact⟨_,rfl⟩
 obtain⟨fr1,e1,f0,f3,f4⟩:∃fr1,ex cx D 0 51 17 (.region 0 g51_0 false) ((PT.nil.set 0 (drp a)).set 1 (drp (tyV (n,o)))) []=some (.normal,fr1,[.cells 2 61 [tyV (n,o)],.cells 2 61 [tyV (0,0)]])∧fr1.get 0=a∧fr1.get 3=.ptr 0 0 0∧fr1.get 4=.ptr 1 0 0:=by
  simp -implicitDefEqProofs (maxDischargeDepth:=4) only[go_sem,Nat.le_refl,Nat.zero_le,hns.sl.drp]
  exact⟨_,rfl,by simp only[go_sem,hns.sl.drp],by simp only[go_sem],by simp only[go_sem]⟩
 obtain⟨fr2,e2,k4,k9⟩:∃fr2,ex cx D 0 51 17 (.region 1 g51_1 false) fr1 [.cells 2 61 [tyV (n,o)],.cells 2 61 [tyV (0,0)]]=some (.normal,fr2,[.cells 2 61 [tyV (n,o)],.cells 2 61 [tyV (0,0)],.cells 1 56 [a],.cells 2 61 [tyV (n,o)]])∧fr2.get 4=.ptr 1 0 0∧fr2.get 9=.fn 156 [.ptr 2 0 0,.ptr 3 0 0]:=by
  have hw:=way_mk (ro:=0) hns (H:=[.cells 2 61 [tyV (n,o)],.cells 2 61 [tyV (0,0)]]) (Nat.zero_le _) n o
  simp -implicitDefEqProofs (maxDischargeDepth:=4) only[go_sem,f0,f3,hns.sl.shr,hns.sl.notOwn,hns.sl.drp,hw]
  exact⟨_,rfl,by simp only[go_sem,f4],by simp only[go_sem]⟩
 rw[c51,x_cont1 e1,x_assoc,x_cont1 e2]
 exact hM fr2 k4 k9
theorem res51_ok{ns:List Nd}{a:AV}(hns:NsOk ns a)(n o:Int):pcall D 51 [a,tyV (n,o)]=some (tyV (wlk ns ns.length n o)):=by
 obtain⟨H',h⟩:=res51_call hns n o
 rw[pcall_eq (v:=tyV (wlk ns ns.length n o)) (H':=H') (by rw[List.map_cons,List.map_cons,List.map_nil,hns.sl.cl2];exact h)]
 rfl
theorem shp_len{x:Nd}(h:shp x=true):x.es.length≤8:=by
 unfold shp at h
 simp only[Bool.and_eq_true,Bool.not_eq_true',Bool.or_eq_false_iff,decide_eq_false_iff_not]at h
 have:=frm_le x.kind
 omega
def chkA(N:Int):Nat→List Nd→Option (Int×Int)
 | _,[]=>none
 | i,x::xs=>if shp x=false then some (i,7) else if opn N x=true then some (i,8) else chkA N (i+1) xs
def bad(ns:List Nd)(i:Int):Bool:=decide ((wlk ns ns.length i 0).1<0)
def chkB(ns:List Nd):Nat→Nat→Int×Int
 | 0,_=>(-1,0)
 | k+1,i=>if bad ns i=true then (i,9) else chkB ns k (i+1)
def chk(ns:List Nd):Int×Int :=
 if ns.length=0 then (-1,2) else if 64<ns.length then (-1,4) else match chkA ns.length 0 ns with
  | some r=>r
  | none=>chkB ns ns.length 0
def errV(r:Int×Int):AV:=.tup [iv r.1,iv r.2]
theorem drop_nd{ns:List Nd}{i:Nat}{x:Nd}(hx:ns[i]?=some x):ns.drop i=x::ns.drop (i+1):=by
 obtain⟨h,rfl⟩:=List.getElem?_eq_some_iff.1 hx
 exact List.drop_eq_getElem_cons h
theorem ex_nd{ns:List Nd}{i:Nat}(h:i<ns.length):∃x,ns[i]?=some x:=⟨_,List.getElem?_eq_getElem h⟩
theorem chkB_zero{ns:List Nd}:∀ {k i:Nat},(chkB ns k i).2=0→chkB ns k i=(-1,0)
 | 0,i,_=>rfl
 | k+1,i,h=>by
  simp only[chkB]at h ⊢
  split at h
  ·exact absurd h (show (9:Int)≠0 by decide)
  ·rename_i hb;rw[if_neg hb];exact chkB_zero h
theorem chkA_ne{N:Int}:∀ {l:List Nd} {i:Nat} {r:Int×Int},chkA N i l=some r→r.2≠0
 | [],i,r,h=>by simp[chkA]at h
 | x::xs,i,r,h=>by
  simp only[chkA]at h
  split at h
  ·cases h;exact show (7:Int)≠0 by decide
  ·split at h
   ·cases h;exact show (8:Int)≠0 by decide
   ·exact chkA_ne h
@[go_sem] theorem x_label{cx:Cx}{h:Hd}{ro fn nt:Nat}{fr:PT}{H:Hp}(n:Nat):ex cx h ro fn nt (.label n) fr H=some (.normal,fr,H):=nr rfl
theorem any_edg(x:Nd)(f:Int×Int→Bool):(edg x).any f=(x.es.any f||(x.chan&&f (x.pt,x.ps))):=by
 unfold edg
 cases x.chan<;>simp
theorem out_within(n:Int)(e:Int×Int):inB e.1 (n-1) = !outE n e:=by
 rw[Bool.eq_iff_iff]
 simp only[inB,outE,Bool.and_eq_true,Bool.not_eq_true',Bool.or_eq_false_iff,decide_eq_true_eq,decide_eq_false_iff_not]
 omega
structure EFr(fr:PT)(a b:AV)(L j i E:Nat):Prop where
 f0:fr.get 0=a
 f4:fr.get 4=iv j
 f3:fr.get 3=iv 0
 f19:fr.get 19=a
 f20:fr.get 20=iv L
 f21:fr.get 21=iv j
 f31:fr.get 31=b
 f32:fr.get 32=iv E
 f33:fr.get 33=iv i
theorem edges_loop{ns:List Nd}{a b:AV}(hns:NsOk ns a){es:List (Int×Int)}(hb:Sl 2 b (es.map ed))(hl:es.length<2 ^ 30){j:Nat}:∀(k i:Nat)(fr:PT)(G:Hp),es.length-i=k→i≤es.length→G.length=1→EFr fr a b ns.length j i es.length→
  ∃fr' G',D.loop 0 48 66 l48_0 fr G=some (if (es.drop i).any (outE ns.length)=true then .exit 1 else .exit 3,fr',G')∧((es.drop i).any (outE ns.length)=true→fr'.get 2=iv j∧fr'.get 3=iv 8)∧((es.drop i).any (outE ns.length)=false→EFr fr' a b ns.length j es.length es.length)
 | 0,i,fr,G,hk,hi,hG,F=>by
  have hn:¬((i:Int)<(es.length:Int)):=by omega
  have hie:i=es.length:=by omega
  subst hie
  rw[dl48_0,List.drop_eq_nil_of_le (Nat.le_refl _)]
  simp -implicitDefEqProofs (maxDischargeDepth:=4) only[go_sem,F.f32,F.f33,hn,List.any_nil]
  refine⟨_,_,rfl,fun h=>h.elim,fun _=>⟨?_,?_,?_,?_,?_,?_,?_,?_,?_⟩⟩<;>simp -implicitDefEqProofs (maxDischargeDepth:=4) only[go_sem,F.f0,F.f4,F.f3,F.f19,F.f20,F.f21,F.f31,F.f32,F.f33]
 | k+1,i,fr,G,hk,hi,hG,F=>by
  have hln:=hns.ln
  have hn:((i:Int)<(es.length:Int)):=by omega
  have e1:=at_ed hb (show i<es.length by omega)
  have e3:wrapK .i64 ((i:Int)+1)=((i+1:Nat):Int):=by rw[wrapK_i64 (by omega) (by omega)];rfl
  have e4:wrapK .i64 ((ns.length:Int)-1)=(ns.length:Int)-1:=wrapK_i64 (by omega) (by omega)
  have hwi:=within_ok (es.getD i (0,0)).1 ((ns.length:Int)-1)
  rw[out_within]at hwi
  rw[dl48_0,drop_ed (show i<es.length by omega),List.any_cons]
  cases hw:outE ns.length (es.getD i (0,0)) with
  | true =>
   rw[hw]at hwi
   rw[Bool.true_or]
   simp -implicitDefEqProofs (maxDischargeDepth:=4) only[go_sem,F.f0,F.f4,F.f31,F.f32,F.f33,hG,hn,hb.notOwn,hb.shr,e1,Nat.zero_le,Nat.not_lt_zero,hns.sl.shr,hns.sl.notOwn,alen_sl hns.sl,List.length_map,e4,hwi]
   exact⟨_,_,rfl,fun _=>⟨by simp only[go_sem],by simp only[go_sem]⟩,fun h=>by cases h⟩
  | false =>
   rw[hw]at hwi
   rw[Bool.false_or]
   simp -implicitDefEqProofs (maxDischargeDepth:=4) only[go_sem,F.f0,F.f4,F.f31,F.f32,F.f33,hG,hn,hb.notOwn,hb.shr,e1,Nat.zero_le,Nat.not_lt_zero,hns.sl.shr,hns.sl.notOwn,alen_sl hns.sl,List.length_map,e4,hwi,e3]
   refine trim_gen (P:=fun z=>∃fr' G',z=some (if (es.drop (i+1)).any (outE ns.length)=true then Ex.exit 1 else Ex.exit 3,fr',G')∧((es.drop (i+1)).any (outE ns.length)=true→fr'.get 2=iv j∧fr'.get 3=iv 8)∧((es.drop (i+1)).any (outE ns.length)=false→EFr fr' a b ns.length j es.length es.length))
    [0,3,4,19,20,21,31,32,33] ?_ (fun t ht=>?_) fun fr' G' hG' hf _=>edges_loop hns hb hl k (i+1) fr' G' (by omega) (by omega) hG' ⟨?_,?_,?_,?_,?_,?_,?_,?_,?_⟩
   ·rw[List.length_append,hG];exact Nat.le_add_right _ _
   ·simp only[List.mem_cons,List.not_mem_nil,or_false]at ht
    rcases ht with rfl | rfl | rfl | rfl | rfl | rfl | rfl | rfl | rfl<;>simp -implicitDefEqProofs (maxDischargeDepth:=4) only[go_sem,F.f0,F.f4,F.f3,F.f19,F.f20,F.f21,F.f31,F.f32,kill_lit,kill_Sl hns.sl,kill_Sl hb]
   ·rw[hf 0 (by simp)];simp -implicitDefEqProofs (maxDischargeDepth:=4) only[go_sem,F.f0]
   ·rw[hf 4 (by simp)];simp -implicitDefEqProofs (maxDischargeDepth:=4) only[go_sem,F.f4]
   ·rw[hf 3 (by simp)];simp -implicitDefEqProofs (maxDischargeDepth:=4) only[go_sem,F.f3]
   ·rw[hf 19 (by simp)];simp -implicitDefEqProofs (maxDischargeDepth:=4) only[go_sem,F.f19]
   ·rw[hf 20 (by simp)];simp -implicitDefEqProofs (maxDischargeDepth:=4) only[go_sem,F.f20]
   ·rw[hf 21 (by simp)];simp -implicitDefEqProofs (maxDischargeDepth:=4) only[go_sem,F.f21]
   ·rw[hf 31 (by simp)];simp -implicitDefEqProofs (maxDischargeDepth:=4) only[go_sem,F.f31]
   ·rw[hf 32 (by simp)];simp -implicitDefEqProofs (maxDischargeDepth:=4) only[go_sem,F.f32]
   ·rw[hf 33 (by simp)];simp -implicitDefEqProofs (maxDischargeDepth:=4) only[go_sem]
structure NFr(fr:PT)(a:AV)(L i:Nat):Prop where
 f0:fr.get 0=a
 f3:fr.get 3=iv 0
 f19:fr.get 19=a
 f20:fr.get 20=iv L
 f21:fr.get 21=iv i
def ResA(c:Option (Int×Int))(a:AV)(e:Ex)(fr':PT)(G':Hp):Prop :=
 (∃r,c=some r∧fr'.get 2=iv r.1∧fr'.get 3=iv r.2∧e=if r.2=7 then .ret else .exit 1)∨(c=none∧e=.exit 1∧fr'.get 0=a∧fr'.get 3=iv 0∧G'=[])
theorem chk_loopA{ns:List Nd}{a:AV}(hns:NsOk ns a):∀(k i:Nat)(fr:PT),ns.length-i=k→i≤ns.length→NFr fr a ns.length i→
  ∃e fr' G',D.loop 0 48 66 l48_1 fr []=some (e,fr',G')∧ResA (chkA ns.length i (ns.drop i)) a e fr' G'
 | 0,i,fr,hk,hi,F=>by
  have hn:¬((i:Int)<(ns.length:Int)):=by omega
  rw[dl48_1,List.drop_eq_nil_of_le (by omega)]
  simp -implicitDefEqProofs (maxDischargeDepth:=4) only[go_sem,F.f20,F.f21,hn,chkA]
  exact⟨_,_,_,rfl,.inr ⟨rfl,rfl,by simp only[go_sem,F.f0],by simp only[go_sem,F.f3],rfl⟩⟩
 | k+1,i,fr,hk,hi,F=>by
  have hln:=hns.ln
  have hn:((i:Int)<(ns.length:Int)):=by omega
  have e3:wrapK .i64 ((i:Int)+1)=((i+1:Nat):Int):=by rw[wrapK_i64 (by omega) (by omega)];rfl
  obtain⟨x,hx⟩:=ex_nd (ns:=ns) (i:=i) (by omega)
  have hat:=hns.at hx
  have hxok:=hns.ok x (List.mem_of_getElem? hx)
  have hs:Sl 2 x.nx (x.es.map ed):=hxok
  have h116:=shaped_ok hxok
  rw[dl48_1,drop_nd hx]
  cases h1:shp x with
  | false =>
   have hc:chkA ns.length i (x::ns.drop (i+1))=some ((i:Int),7):=by simp only[chkA,h1,if_true]
   rw[hc]
   rw[h1]at h116
   simp -implicitDefEqProofs (maxDischargeDepth:=4) only[go_sem,F.f0,F.f19,F.f20,F.f21,hns.sl.shr,hns.sl.notOwn,alen_sl hns.sl,List.length_map,hn,hat,hs.shr,hs.shut0,hs.shut1,hs.drp,hs.notOwn,hs.fitA,h116,u_not,Nat.zero_le,Nat.le_refl,Nat.not_lt_zero]
   exact⟨_,_,_,rfl,.inl ⟨_,rfl,by simp only[go_sem],by simp only[go_sem],rfl⟩⟩
  | true =>
   have h8:=shp_len h1
   obtain⟨b,h117,hb⟩:=edges_ok hxok (show x.es.length<2 ^ 20 by omega)
   have hbl:(edg x).length<2 ^ 30:=by unfold edg;split<;>simp<;>omega
   have h2:=any_edg x (outE ns.length)
   rw[h1]at h116
   obtain⟨E,hE⟩:=skol (fun (p:PT×Hp) (h:p.2.length=1∧EFr p.1 a b ns.length i 0 (edg x).length)=>by
    obtain⟨fr',G',q⟩:=edges_loop hns hb hbl (j:=i) (edg x).length 0 p.1 p.2 (by omega) (by omega) h.1 h.2
    exact(⟨(fr',G'),q⟩:∃q:PT×Hp,D.loop 0 48 66 l48_0 p.1 p.2=some (if ((edg x).drop 0).any (outE ns.length)=true then .exit 1 else .exit 3,q.1,q.2)∧(((edg x).drop 0).any (outE ns.length)=true→q.1.get 2=iv i∧q.1.get 3=iv 8)∧(((edg x).drop 0).any (outE ns.length)=false→EFr q.1 a b ns.length i (edg x).length (edg x).length)))
   rw[List.drop_zero,h2]at hE
   have hE1:∀(fr:PT)(G:Hp),G.length=1→fr.get 0=a→fr.get 4=iv i→fr.get 3=iv 0→fr.get 19=a→fr.get 20=iv ns.length→fr.get 21=iv i→fr.get 31=b→fr.get 32=iv (edg x).length→fr.get 33=iv 0 →  D.loop 0 48 66 l48_0 fr G=some (if (x.es.any (outE ns.length)||(x.chan&&outE ns.length (x.pt,x.ps)))=true then .exit 1 else .exit 3,(E (fr,G)).1,(E (fr,G)).2):=fun fr G c c0 c4 c3 c19 c20 c21 c31 c32 c33=>(hE (fr,G) ⟨c,⟨c0,c4,c3,c19,c20,c21,c31,c32,c33⟩⟩).1
   have hop:opn ns.length x=(x.es.any (outE ns.length)||(x.chan&&outE ns.length (x.pt,x.ps))):=rfl
   rw[←hop]at hE hE1
   cases h3:opn ns.length x with
   | true =>
    have hc:chkA ns.length i (x::ns.drop (i+1))=some ((i:Int),8):=by simp only[chkA,h1,h3,if_true,Bool.true_eq_false,if_false]
    rw[hc]
    simp only[h3,if_true]at hE1
    simp -implicitDefEqProofs (maxDischargeDepth:=4) only[go_sem,F.f0,F.f3,F.f19,F.f20,F.f21,hns.sl.shr,hns.sl.notOwn,alen_sl hns.sl,List.length_map,hn,hat,hs.shr,hs.shut0,hs.shut1,hs.drp,hs.notOwn,hs.fitA,h116,u_not,Nat.zero_le,Nat.le_refl,Nat.not_lt_zero,h117,hb.shr,hb.notOwn,alen_sl hb,x_loop,hE1]
    refine⟨_,_,_,rfl,.inl ⟨_,rfl,?_,?_,rfl⟩⟩
    ·refine((hE (_,_) ⟨rfl,⟨?_,?_,?_,?_,?_,?_,?_,?_,?_⟩⟩).2.1 h3).1<;>simp -implicitDefEqProofs (maxDischargeDepth:=4) only[go_sem,F.f0,F.f3,F.f19,F.f20,F.f21,Int.ofNat_zero]
    ·refine((hE (_,_) ⟨rfl,⟨?_,?_,?_,?_,?_,?_,?_,?_,?_⟩⟩).2.1 h3).2<;>simp -implicitDefEqProofs (maxDischargeDepth:=4) only[go_sem,F.f0,F.f3,F.f19,F.f20,F.f21,Int.ofNat_zero]
   | false =>
    have hc:chkA ns.length i (x::ns.drop (i+1))=chkA ns.length (i+1) (ns.drop (i+1)):=by simp only[chkA,h1,h3,Bool.true_eq_false,Bool.false_eq_true,if_false]
    rw[hc]
    simp only[h3,Bool.false_eq_true,if_false]at hE1
    have k0:∀(fr:PT)(G:Hp),G.length=1→fr.get 0=a→fr.get 4=iv i→fr.get 3=iv 0→fr.get 19=a→fr.get 20=iv ns.length→fr.get 21=iv i→fr.get 31=b→fr.get 32=iv (edg x).length→fr.get 33=iv 0 →  (E (fr,G)).1.get 0=a:=fun fr G c c0 c4 c3 c19 c20 c21 c31 c32 c33=>((hE (fr,G) ⟨c,⟨c0,c4,c3,c19,c20,c21,c31,c32,c33⟩⟩).2.2 h3).f0
    have k3:∀(fr:PT)(G:Hp),G.length=1→fr.get 0=a→fr.get 4=iv i→fr.get 3=iv 0→fr.get 19=a→fr.get 20=iv ns.length→fr.get 21=iv i→fr.get 31=b→fr.get 32=iv (edg x).length→fr.get 33=iv 0 →  (E (fr,G)).1.get 3=iv 0:=fun fr G c c0 c4 c3 c19 c20 c21 c31 c32 c33=>((hE (fr,G) ⟨c,⟨c0,c4,c3,c19,c20,c21,c31,c32,c33⟩⟩).2.2 h3).f3
    have k19:∀(fr:PT)(G:Hp),G.length=1→fr.get 0=a→fr.get 4=iv i→fr.get 3=iv 0→fr.get 19=a→fr.get 20=iv ns.length→fr.get 21=iv i→fr.get 31=b→fr.get 32=iv (edg x).length→fr.get 33=iv 0 →  (E (fr,G)).1.get 19=a:=fun fr G c c0 c4 c3 c19 c20 c21 c31 c32 c33=>((hE (fr,G) ⟨c,⟨c0,c4,c3,c19,c20,c21,c31,c32,c33⟩⟩).2.2 h3).f19
    have k20:∀(fr:PT)(G:Hp),G.length=1→fr.get 0=a→fr.get 4=iv i→fr.get 3=iv 0→fr.get 19=a→fr.get 20=iv ns.length→fr.get 21=iv i→fr.get 31=b→fr.get 32=iv (edg x).length→fr.get 33=iv 0 →  (E (fr,G)).1.get 20=iv ns.length:=fun fr G c c0 c4 c3 c19 c20 c21 c31 c32 c33=>((hE (fr,G) ⟨c,⟨c0,c4,c3,c19,c20,c21,c31,c32,c33⟩⟩).2.2 h3).f20
    have k21:∀(fr:PT)(G:Hp),G.length=1→fr.get 0=a→fr.get 4=iv i→fr.get 3=iv 0→fr.get 19=a→fr.get 20=iv ns.length→fr.get 21=iv i→fr.get 31=b→fr.get 32=iv (edg x).length→fr.get 33=iv 0 →  (E (fr,G)).1.get 21=iv i:=fun fr G c c0 c4 c3 c19 c20 c21 c31 c32 c33=>((hE (fr,G) ⟨c,⟨c0,c4,c3,c19,c20,c21,c31,c32,c33⟩⟩).2.2 h3).f21
    simp -implicitDefEqProofs (maxDischargeDepth:=4) only[go_sem,F.f0,F.f3,F.f19,F.f20,F.f21,hns.sl.shr,hns.sl.notOwn,alen_sl hns.sl,List.length_map,hn,hat,hs.shr,hs.shut0,hs.shut1,hs.drp,hs.notOwn,hs.fitA,h116,u_not,Nat.zero_le,Nat.le_refl,Nat.not_lt_zero,h117,hb.shr,hb.notOwn,alen_sl hb,x_loop,hE1,k21,e3]
    refine trim_gen (P:=fun z=>∃e fr' G',z=some (e,fr',G')∧ResA (chkA ns.length (i+1) (ns.drop (i+1))) a e fr' G')
     [0,3,19,20,21] (Nat.zero_le _) (fun t ht=>?_) fun fr' G' hG' hf _=>?_
    ·simp only[List.mem_cons,List.not_mem_nil,or_false]at ht
     rcases ht with rfl | rfl | rfl | rfl | rfl<;>simp -implicitDefEqProofs (maxDischargeDepth:=4) only[go_sem,F.f0,F.f3,F.f19,F.f20,F.f21,k0,k3,k19,k20,kill_lit,kill_Sl hns.sl]
    ·obtain rfl:=List.length_eq_zero_iff.1 hG'
     refine chk_loopA hns k (i+1) fr' (by omega) (by omega) ⟨?_,?_,?_,?_,?_⟩
     ·rw[hf 0 (by simp)];simp -implicitDefEqProofs (maxDischargeDepth:=4) only[go_sem,F.f0,F.f3,F.f19,F.f20,F.f21,k0]
     ·rw[hf 3 (by simp)];simp -implicitDefEqProofs (maxDischargeDepth:=4) only[go_sem,F.f0,F.f3,F.f19,F.f20,F.f21,k3]
     ·rw[hf 19 (by simp)];simp -implicitDefEqProofs (maxDischargeDepth:=4) only[go_sem,F.f0,F.f3,F.f19,F.f20,F.f21,k19]
     ·rw[hf 20 (by simp)];simp -implicitDefEqProofs (maxDischargeDepth:=4) only[go_sem,F.f0,F.f3,F.f19,F.f20,F.f21,k20]
     ·rw[hf 21 (by simp)];simp -implicitDefEqProofs (maxDischargeDepth:=4) only[go_sem]
noncomputable def lp48(rfr:PT):ALoop:={ fn:=48,nt:=66,fr:=rfr,params:=[59,60],assign:=q48_2,body:=r48_2,state:=.ready,pending:=none }
structure I48(G:Hp):Prop where
 lp:∃rfr,G[2]?=some (.loop (lp48 rfr))
structure D48(n o:Int)(x:Nd)(G:Hp):Prop where
 lp:∃r:ALoop,G[2]?=some (.loop r)∧r.state=.done∧r.pending=some (.exit 6)
theorem rnd48:Rnd 3 2 1 I48 D48:=by
 refine⟨?_,?_,?_,?_,?_,?_⟩
 ·rintro G L ⟨rfr,h2⟩
  exact⟨rfr,by rw[hp_get_l (lt_of_get h2),h2]⟩
 ·rintro G x ⟨rfr,h2⟩
  exact⟨rfr,by rw[hp_ne (by decide),h2]⟩
 ·rintro G j x hj ⟨rfr,h2⟩
  exact⟨rfr,by rw[hp_ne (by omega),h2]⟩
 ·rintro G ⟨rfr,h2⟩ hG
  refine⟨rfr.map (kill 3),?_⟩
  rw[List.getElem?_map,List.getElem?_take_of_lt (by decide),h2];rfl
 ·rintro G n o x ⟨rfr,h2⟩ hG hx hk
  have hs:Sl 2 x.nx (x.es.map ed):=hx
  obtain⟨len,hlen⟩:∃len,G.length=len:=⟨_,rfl⟩
  have h4:2<G.length:=by omega
  obtain⟨fr1,e1,f10⟩:∃fr1,ex cx D 0 48 66 q48_2 (setArgs [(59,tyV (n,o)),(60,nodeV x)] rfr) G=some (.normal,fr1,G++[.cells 6 66 [nodeV x]])∧fr1.get 10=.ptr len 0 0:=by
   unfold q48_2
   simp -implicitDefEqProofs (maxDischargeDepth:=4) only[go_sem,hlen,Nat.zero_le,Nat.not_lt_zero,hs.shr]
   exact⟨_,rfl,by simp only[go_sem]⟩
  have hl1:(G++[ABlock.cells 6 66 [nodeV x]])[2]?=some (.loop (lp48 rfr)):=by rw[hp_get_l h4,h2]
  obtain⟨G1,hG1⟩:∃G1,(G++[ABlock.cells 6 66 [nodeV x]]).set 2 (.loop { lp48 rfr with state:=.busy })=G1:=⟨_,rfl⟩
  have hl2:G1[2]?=some (.loop { lp48 rfr with state:=.busy }):=by rw[←hG1,hp_one (by rw[List.length_append];omega)]
  have g6:G1[len]?=some (.cells 6 66 [nodeV x]):=by rw[←hG1,hp_ne (by omega),hp_get_r0 hlen];rfl
  have gj:∀j,j≠2→j<G.length→G1[j]?=G[j]?:=fun j hj hlt=>by rw[←hG1,hp_ne (Ne.symm hj),hp_get_l hlt]
  have gl:G1.length=len+1:=by rw[←hG1,List.length_set,List.length_append,hlen];rfl
  rw[round_eq h2 (Nat.zero_le _) rfl rfl rfl,show setArgs ((lp48 rfr).params.zip [tyV (n,o),nodeV x]) (lp48 rfr).fr=setArgs [(59,tyV (n,o)),(60,nodeV x)] rfr from rfl,
   show ex cx (den cx) 0 (lp48 rfr).fn (lp48 rfr).nt (lp48 rfr).assign=ex cx D 0 48 66 q48_2 from rfl,e1,bodyRound_eq hl1 rfl,hG1,show ex cx (den cx) 0 (lp48 rfr).fn (lp48 rfr).nt (lp48 rfr).body=ex cx D 0 48 66 r48_2 from rfl]
  obtain⟨fr2,e2⟩:∃fr2,ex cx D 0 48 66 r48_2 fr1 G1=some (.normal,fr2,G1):=by
   unfold r48_2
   simp -implicitDefEqProofs (maxDischargeDepth:=4) only[go_sem,f10,g6,hk]
   exact⟨_,rfl⟩
  rw[e2,endRound_normal hl2]
  refine⟨_,rfl,⟨rfr,by rw[hp_one (by omega)];rfl⟩,by rw[List.length_set];omega,fun j hj hlt=>by rw[hp_ne (Ne.symm hj),gj j hj hlt]⟩
 ·rintro G n o x ⟨rfr,h2⟩ hG hx hk
  have hs:Sl 2 x.nx (x.es.map ed):=hx
  obtain⟨len,hlen⟩:∃len,G.length=len:=⟨_,rfl⟩
  have h4:2<G.length:=by omega
  obtain⟨fr1,e1,f10⟩:∃fr1,ex cx D 0 48 66 q48_2 (setArgs [(59,tyV (n,o)),(60,nodeV x)] rfr) G=some (.normal,fr1,G++[.cells 6 66 [nodeV x]])∧fr1.get 10=.ptr len 0 0:=by
   unfold q48_2
   simp -implicitDefEqProofs (maxDischargeDepth:=4) only[go_sem,hlen,Nat.zero_le,Nat.not_lt_zero,hs.shr]
   exact⟨_,rfl,by simp only[go_sem]⟩
  have hl1:(G++[ABlock.cells 6 66 [nodeV x]])[2]?=some (.loop (lp48 rfr)):=by rw[hp_get_l h4,h2]
  obtain⟨G1,hG1⟩:∃G1,(G++[ABlock.cells 6 66 [nodeV x]]).set 2 (.loop { lp48 rfr with state:=.busy })=G1:=⟨_,rfl⟩
  have hl2:G1[2]?=some (.loop { lp48 rfr with state:=.busy }):=by rw[←hG1,hp_one (by rw[List.length_append];omega)]
  have g6:G1[len]?=some (.cells 6 66 [nodeV x]):=by rw[←hG1,hp_ne (by omega),hp_get_r0 hlen];rfl
  have gj:∀j,j≠2→j<G.length→G1[j]?=G[j]?:=fun j hj hlt=>by rw[←hG1,hp_ne (Ne.symm hj),hp_get_l hlt]
  have gl:G1.length=len+1:=by rw[←hG1,List.length_set,List.length_append,hlen];rfl
  rw[round_eq h2 (Nat.zero_le _) rfl rfl rfl,show setArgs ((lp48 rfr).params.zip [tyV (n,o),nodeV x]) (lp48 rfr).fr=setArgs [(59,tyV (n,o)),(60,nodeV x)] rfr from rfl,
   show ex cx (den cx) 0 (lp48 rfr).fn (lp48 rfr).nt (lp48 rfr).assign=ex cx D 0 48 66 q48_2 from rfl,e1,bodyRound_eq hl1 rfl,hG1,show ex cx (den cx) 0 (lp48 rfr).fn (lp48 rfr).nt (lp48 rfr).body=ex cx D 0 48 66 r48_2 from rfl]
  obtain⟨fr2,e2⟩:∃fr2,ex cx D 0 48 66 r48_2 fr1 G1=some (.exit 6,fr2,G1):=by
   unfold r48_2
   simp -implicitDefEqProofs (maxDischargeDepth:=4) only[go_sem,f10,g6,hk]
   exact⟨_,rfl⟩
  rw[e2,endRound_other hl2 (by decide)]
  exact⟨_,rfl,⟨_,by rw[hp_one (by omega)],rfl,rfl⟩⟩
structure BFr(fr:PT)(a:AV)(L i:Nat):Prop where
 f0:fr.get 0=a
 f51:fr.get 51=iv L
 f52:fr.get 52=iv i
theorem wlk_found{ns:List Nd}{i:Nat}{m:Int}{x:Nd}{o:Int}(h:wlk ns ns.length i 0=(m,o))(ha:atN ns m=some x):bad ns i=false:=by
 have:=(atN_lt ha).1
 unfold bad
 rw[h]
 simp only[decide_eq_false_iff_not];omega
theorem wlk_none{ns:List Nd}{i:Nat}(h:wlk ns ns.length i 0=(-1,0)):bad ns i=true:=by
 unfold bad;rw[h];decide
theorem chk_loopB{ns:List Nd}{a:AV}(hns:NsOk ns a):∀(k i:Nat)(fr:PT),ns.length-i=k→i≤ns.length→BFr fr a ns.length i→
  ∃fr' G',D.loop 0 48 66 l48_3 fr []=some (if (chkB ns k i).2=0 then .exit 5 else .ret,fr',G')∧((chkB ns k i).2≠0→fr'.get 2=iv (chkB ns k i).1∧fr'.get 3=iv (chkB ns k i).2)
 | 0,i,fr,hk,hi,F=>by
  have hn:¬((i:Int)<(ns.length:Int)):=by omega
  rw[dl48_3]
  simp -implicitDefEqProofs (maxDischargeDepth:=4) only[go_sem,F.f51,F.f52,hn,chkB]
  exact⟨_,_,rfl,fun h=>h.elim⟩
 | k+1,i,fr,hk,hi,F=>by
  have hln:=hns.ln
  have hn:((i:Int)<(ns.length:Int)):=by omega
  have e3:wrapK .i64 ((i:Int)+1)=((i+1:Nat):Int):=by rw[wrapK_i64 (by omega) (by omega)];rfl
  have hmk:=way_mk (ro:=0) hns (H:=[]) (Nat.zero_le _) i 0
  rw[List.length_nil,List.nil_append]at hmk
  have hR:∀fr:PT,fr.get 58=.fn 156 [.ptr 0 0 0,.ptr 1 0 0]→∃G',ex cx D 0 48 66 (.rangeFunc (.tmp 58) #[59,60] q48_2 r48_2) fr [.cells 1 56 [a],.cells 2 61 [tyV (i,0)]]=some (if bad ns i=true then .normal else .exit 6,fr,G'):=fun fr f58=>by
   obtain⟨G',q1,q2⟩:=way_call hns rnd48 (b2:=0) (by decide) (by decide) (by decide) (by decide) (by decide) (by decide) (G:=[.cells 1 56 [a],.cells 2 61 [tyV (i,0)],.loop (lp48 (fr.map drp))]) (n:=i) (o:=0) rfl ⟨_,rfl⟩ rfl rfl
   have q1':D.call 0 156 [.yld 2,.ptr 0 0 0,.ptr 1 0 0] [.cells 1 56 [a],.cells 2 61 [tyV (i,0)],.loop (lp48 (fr.map drp))]=some (.tup [],G'):=by rw[den_call_eq];exact q1
   have q3:ex cx D 0 48 66 (.rangeFunc (.tmp 58) #[59,60] q48_2 r48_2) fr [.cells 1 56 [a],.cells 2 61 [tyV (i,0)]]=endLoop 2 fr (some (.tup [],G')):=by
    rw[x_range,ev_tmp,f58,shr_fn,ranged_fn,←q1'];rfl
   rcases q2 with⟨m,x,o',a1,a2,a3,⟨r,d2,d3,d4⟩⟩ | ⟨a1,⟨rfr,d2⟩⟩
   ·rw[q3,endLoop_eq d2 (by rw[d3];decide),d4,wlk_found a1 a2]
    exact⟨_,rfl⟩
   ·rw[q3,endLoop_eq d2 (show LS.ready≠LS.busy by decide),wlk_none a1]
    exact⟨_,rfl⟩
  obtain⟨RF,hRF⟩:=skol hR
  rw[dl48_3]
  cases hb:bad ns i with
  | true =>
   have hc:chkB ns (k+1) i=((i:Int),9):=by simp only[chkB,hb,if_true]
   rw[hc]
   simp only[hb,if_true]at hRF
   simp -implicitDefEqProofs (maxDischargeDepth:=4) only[go_sem,F.f0,F.f51,F.f52,hn,hns.sl.shr,hns.sl.notOwn,hns.sl.drp,build61a,hmk,hRF]
   exact⟨_,_,rfl,fun _=>⟨by simp only[go_sem],by simp only[go_sem]⟩⟩
  | false =>
   have hc:chkB ns (k+1) i=chkB ns k (i+1):=by simp only[chkB,hb,Bool.false_eq_true,if_false]
   rw[hc]
   simp only[hb,Bool.false_eq_true,if_false]at hRF
   simp -implicitDefEqProofs (maxDischargeDepth:=4) only[go_sem,F.f0,F.f51,F.f52,hn,hns.sl.shr,hns.sl.notOwn,hns.sl.drp,build61a,hmk,hRF,e3]
   refine trim_gen (P:=fun z=>∃fr' G',z=some (if (chkB ns k (i+1)).2=0 then Ex.exit 5 else .ret,fr',G')∧((chkB ns k (i+1)).2≠0→fr'.get 2=iv (chkB ns k (i+1)).1∧fr'.get 3=iv (chkB ns k (i+1)).2))
    [0,51,52] (Nat.zero_le _) (fun t ht=>?_) fun fr' G' hG' hf _=>?_
   ·simp only[List.mem_cons,List.not_mem_nil,or_false]at ht
    rcases ht with rfl | rfl | rfl<;>simp -implicitDefEqProofs (maxDischargeDepth:=4) only[go_sem,F.f0,F.f51,kill_lit,kill_Sl hns.sl]
   ·obtain rfl:=List.length_eq_zero_iff.1 hG'
    refine chk_loopB hns k (i+1) fr' (by omega) (by omega) ⟨?_,?_,?_⟩
    ·rw[hf 0 (by simp)];simp -implicitDefEqProofs (maxDischargeDepth:=4) only[go_sem,F.f0]
    ·rw[hf 51 (by simp)];simp -implicitDefEqProofs (maxDischargeDepth:=4) only[go_sem,F.f51]
    ·rw[hf 52 (by simp)];simp -implicitDefEqProofs (maxDischargeDepth:=4) only[go_sem]
theorem chk_call{ns:List Nd}{a:AV}(hns:NsOk ns a):∃H',callB cx D 0 48 [a] []=some (errV (chk ns),H'):=by
 unfold chk errV
 rw[c48]
 by_cases h0:ns.length=0
 ·have h0':(ns.length:Int)=0:=by omega
  rw[if_pos h0]
  simp -implicitDefEqProofs (maxDischargeDepth:=4) only[go_sem,hns.sl.shr,hns.sl.notOwn,hns.sl.drp,alen_sl hns.sl,List.length_map,h0']
  exact⟨_,rfl⟩
 rw[if_neg h0]
 by_cases h1:64<ns.length
 ·have h0':¬(ns.length:Int)=0:=by omega
  have h1':(64:Int)<(ns.length:Int):=by omega
  rw[if_pos h1]
  simp -implicitDefEqProofs (maxDischargeDepth:=4) only[go_sem,hns.sl.shr,hns.sl.notOwn,hns.sl.drp,alen_sl hns.sl,List.length_map,h0',h1']
  exact⟨_,rfl⟩
 rw[if_neg h1]
 have h0':¬(ns.length:Int)=0:=by omega
 have h1':¬(64:Int)<(ns.length:Int):=by omega
 obtain⟨FA,hA⟩:=skol (fun (fr:PT) (h:fr.get 0=a∧fr.get 3=iv 0∧fr.get 19=a∧fr.get 20=iv ns.length∧fr.get 21=iv 0)=>by
  obtain⟨e,fr',G',q⟩:=chk_loopA hns ns.length 0 fr (by omega) (by omega) ⟨h.1,h.2.1,h.2.2.1,h.2.2.2.1,h.2.2.2.2⟩
  exact(⟨(e,fr',G'),q⟩:∃q:Ex×PT×Hp,D.loop 0 48 66 l48_1 fr []=some (q.1,q.2.1,q.2.2)∧ResA (chkA ns.length 0 (ns.drop 0)) a q.1 q.2.1 q.2.2))
 obtain⟨FB,hB⟩:=skol (fun (fr:PT) (h:fr.get 0=a∧fr.get 51=iv ns.length∧fr.get 52=iv 0)=>by
  obtain⟨fr',G',q⟩:=chk_loopB hns ns.length 0 fr (by omega) (by omega) ⟨h.1,h.2.1,h.2.2⟩
  exact(⟨(fr',G'),q⟩:∃q:PT×Hp,D.loop 0 48 66 l48_3 fr []=some (if (chkB ns ns.length 0).2=0 then .exit 5 else .ret,q.1,q.2)∧((chkB ns ns.length 0).2≠0→q.1.get 2=iv (chkB ns ns.length 0).1∧q.1.get 3=iv (chkB ns ns.length 0).2)))
 rw[List.drop_zero]at hA
 have b1:=fun fr p q r=>(hB fr ⟨p,q,r⟩).1
 cases hc:chkA ns.length 0 ns with
 | some r =>
  have hr:=chkA_ne hc
  have aR:=fun fr p0 p3 p19 p20 p21=>(show ∃r',some r=some r'∧(FA fr).2.1.get 2=iv r'.1∧(FA fr).2.1.get 3=iv r'.2∧(FA fr).1=(if r'.2=7 then Ex.ret else .exit 1) from by
   rcases (hA fr ⟨p0,p3,p19,p20,p21⟩).2 with⟨r',h⟩ | ⟨h,_⟩
   ·rw[hc]at h;exact⟨r',h⟩
   ·rw[hc]at h;cases h)
  have a1:∀fr:PT,fr.get 0=a→fr.get 3=iv 0→fr.get 19=a→fr.get 20=iv ns.length→fr.get 21=iv 0→D.loop 0 48 66 l48_1 fr []=some (if r.2=7 then Ex.ret else .exit 1,(FA fr).2.1,(FA fr).2.2):=fun fr p0 p3 p19 p20 p21=>by
   obtain⟨r',h1,_,_,h4⟩:=aR fr p0 p3 p19 p20 p21
   cases h1
   rw[(hA fr ⟨p0,p3,p19,p20,p21⟩).1,h4]
  have a2:∀fr:PT,fr.get 0=a→fr.get 3=iv 0→fr.get 19=a→fr.get 20=iv ns.length→fr.get 21=iv 0→(FA fr).2.1.get 2=iv r.1:=fun fr p0 p3 p19 p20 p21=>by
   obtain⟨r',h1,h2,_,_⟩:=aR fr p0 p3 p19 p20 p21
   cases h1;exact h2
  have a3:∀fr:PT,fr.get 0=a→fr.get 3=iv 0→fr.get 19=a→fr.get 20=iv ns.length→fr.get 21=iv 0→(FA fr).2.1.get 3=iv r.2:=fun fr p0 p3 p19 p20 p21=>by
   obtain⟨r',h1,_,h2,_⟩:=aR fr p0 p3 p19 p20 p21
   cases h1;exact h2
  by_cases h7:r.2=7
  ·simp only[h7,if_true]at a1
   simp -implicitDefEqProofs (maxDischargeDepth:=4) only[go_sem,hns.sl.shr,hns.sl.notOwn,hns.sl.drp,alen_sl hns.sl,List.length_map,h0',h1',x_loop,a1,a2,a3]
   exact⟨_,rfl⟩
  ·simp only[h7,if_false]at a1
   simp -implicitDefEqProofs (maxDischargeDepth:=4) only[go_sem,hns.sl.shr,hns.sl.notOwn,hns.sl.drp,alen_sl hns.sl,List.length_map,h0',h1',x_loop,a1,a2,a3,hr]
   exact⟨_,rfl⟩
 | none =>
  have aR:=fun fr p0 p3 p19 p20 p21=>(show (FA fr).1=.exit 1∧(FA fr).2.1.get 0=a∧(FA fr).2.1.get 3=iv 0∧(FA fr).2.2=[] from by
   rcases (hA fr ⟨p0,p3,p19,p20,p21⟩).2 with⟨r',h,_⟩ | ⟨_,h⟩
   ·rw[hc]at h;cases h
   ·exact h)
  have a1:∀fr:PT,fr.get 0=a→fr.get 3=iv 0→fr.get 19=a→fr.get 20=iv ns.length→fr.get 21=iv 0→D.loop 0 48 66 l48_1 fr []=some (.exit 1,(FA fr).2.1,[]):=fun fr p0 p3 p19 p20 p21=>by
   obtain⟨h1,_,_,h4⟩:=aR fr p0 p3 p19 p20 p21
   rw[(hA fr ⟨p0,p3,p19,p20,p21⟩).1,h1,h4]
  have a2:=fun fr p0 p3 p19 p20 p21=>(aR fr p0 p3 p19 p20 p21).2.1
  have a3:=fun fr p0 p3 p19 p20 p21=>(aR fr p0 p3 p19 p20 p21).2.2.1
  by_cases hz:(chkB ns ns.length 0).2=0
  ·have hcb:=chkB_zero hz
   simp only[hz,if_true]at b1
   simp -implicitDefEqProofs (maxDischargeDepth:=4) only[go_sem,hns.sl.shr,hns.sl.notOwn,hns.sl.drp,alen_sl hns.sl,List.length_map,h0',h1',x_loop,a1,a2,a3,b1,hcb]
   exact⟨_,rfl⟩
  ·simp only[hz,if_false]at b1
   have b3:=fun fr p q r=>((hB fr ⟨p,q,r⟩).2 hz).1
   have b4:=fun fr p q r=>((hB fr ⟨p,q,r⟩).2 hz).2
   simp -implicitDefEqProofs (maxDischargeDepth:=4) only[go_sem,hns.sl.shr,hns.sl.notOwn,hns.sl.drp,alen_sl hns.sl,List.length_map,h0',h1',x_loop,a1,a2,a3,b1,b3,b4]
   exact⟨_,rfl⟩
theorem frz_err(r:Int×Int)(n:Nat)(H:Hp):Abs.frz n H (errV r)=errV r:=rfl
theorem chk_ok{ns:List Nd}{a:AV}(hns:NsOk ns a):pcall D 48 [a]=some (errV (chk ns)):=by
 obtain⟨H',h⟩:=chk_call hns
 rw[pcall_eq (v:=errV (chk ns)) (H':=H') (by rw[List.map_cons,List.map_nil,hns.sl.cl2];exact h),frz_err]
abbrev mkNd(k p:Int)(c:Bool)(t s:Int)(es:List (Int×Int)):Nd:=⟨k,p,c,t,s,es,.vec 2 .exact (es.map ed)⟩
abbrev niN(k p:Int)(c:Bool)(t s:Int):Nd:=⟨k,p,c,t,s,[],.lit (.slice none 0 0)⟩
theorem build63'(a b:Int):abuild cx.T 63 [(0,iv a),(1,iv b)]=some (ed (a,b)):=nk
@[go_sem] theorem cl0_vx(s:Nat)(l:List AV):cl0 (.vec s .exact l)=.vec s .exact l:=nr rfl
theorem min_lit(n m:Nat):aminmax false [iv n,iv m]=some (iv ((min n m:Nat):Int)):=by
 simp only[aminmax,aminmax.go,Bool.false_eq_true,if_false]
 by_cases h:m<n
 ·rw[if_pos (by omega),Nat.min_eq_right (by omega)]
 ·rw[if_neg (by omega),Nat.min_eq_left (by omega)]
theorem aslice_take{T:TypeId→Option TI}{t:TypeId}{sz n:Nat}{a:AV}{els:List AV}{e:TypeId}{te:TI}(h:Sl sz a els)(ht:slT T t=some (sz,e,te))(hn:n≤els.length):
  ∃b,aslice T t a none (some (iv n)) none=some b∧Sl sz b (els.take n):=by
 have hnat:natOf (iv n)=some n:=by simp[natOf]
 unfold slT at ht
 split at ht
 ·rename_i e' _ hT
  cases he:T e' with
  | none=>rw[he]at ht;cases ht
  | some te' =>
   rw[he]at ht
   simp only[Option.map_some,Option.some.injEq,Prod.mk.injEq]at ht
   obtain⟨h1,rfl,rfl⟩:=ht
   rcases h with rfl | rfl | ⟨rfl,rfl⟩
   ·by_cases hx:n=els.length
    ·exact⟨.vec sz .exact (els.take n),by subst hx;simp[aslice,hT,he,natOr,hnat,h1],.inl rfl⟩
    ·exact⟨.vec sz .shared (els.take n),by simp[aslice,hT,he,natOr,hnat,h1,hx,hn],.inr (.inl rfl)⟩
   ·exact⟨.vec sz .shared (els.take n),by simp[aslice,hT,he,natOr,hnat,h1,hn],.inr (.inl rfl)⟩
   ·have:n=0:=by simpa using hn
    subst this
    have h0:natOf (iv 0)=some 0:=hnat
    exact⟨.lit (.slice none 0 0),by simp[aslice,hT,he,natOr,h0],.inr (.inr ⟨rfl,rfl⟩)⟩
 ·cases ht
theorem map_mem{α:Type}{f:List AV→AV}{g:α→AV}{Q:α→Prop}:∀ {ls:List (List AV)},(∀x∈ls,∃y,f x=g y∧Q y)→∃ys:List α,ls.length=ys.length∧(∀y∈ys,Q y)∧ls.map f=ys.map g
 | [],_=>⟨[],rfl,by simp,rfl⟩
 | x::ls,h=>by
  obtain⟨y,h1,h2⟩:=h x (by simp)
  obtain⟨ys,k1,k2,k3⟩:=map_mem (ls:=ls) fun z hz=>h z (List.mem_cons_of_mem _ hz)
  refine⟨y::ys,by simp[k1],fun z hz=>?_,by simp[h1,k3]⟩
  rcases List.mem_cons.1 hz with rfl | hz
  ·exact h2
  ·exact k2 z hz
theorem edge_read{d:Nat}{l:List AV}(h:Rdd Go.Proofs.Try.prog (d+6) 63 l):∃a b:Int,l=[iv a,iv b]:=by
 have h1:=rd_struct Go.Proofs.Try.underlying63 h
 obtain⟨a1,b1,rfl,k1,h2⟩:=rdF_cons h1
 obtain⟨p,_,rfl⟩:=rd_int Go.Proofs.Try.underlying3 k1
 obtain⟨a2,b2,rfl,k2,h3⟩:=rdF_cons h2
 obtain⟨q,_,rfl⟩:=rd_int Go.Proofs.Try.underlying3 k2
 obtain rfl:=rdF_nil h3
 exact⟨p,q,rfl⟩
theorem type_read{d:Nat}{l:List AV}(h:Rdd Go.Proofs.Try.prog (d+6) 61 l):∃a b:Int,l=[iv a,iv b]:=by
 have h1:=rd_struct Go.Proofs.Try.underlying61 h
 obtain⟨a1,b1,rfl,k1,h2⟩:=rdF_cons h1
 obtain⟨p,_,rfl⟩:=rd_int Go.Proofs.Try.underlying3 k1
 obtain⟨a2,b2,rfl,k2,h3⟩:=rdF_cons h2
 obtain⟨q,_,rfl⟩:=rd_int Go.Proofs.Try.underlying3 k2
 obtain rfl:=rdF_nil h3
 exact⟨p,q,rfl⟩
theorem cells63:Go.Proofs.Try.prog.cellsOf 63=2:=by kernel_rfl
theorem cells66:Go.Proofs.Try.prog.cellsOf 66=6:=by kernel_rfl
theorem node_read{d:Nat}{l:List AV}(h:Rdd Go.Proofs.Try.prog (d+14) 66 l):∃x:Nd,AV.agg l=nodeV x∧NdOk x:=by
 have h1:=rd_struct Go.Proofs.Try.underlying66 h
 obtain⟨a1,b1,rfl,k1,h2⟩:=rdF_cons h1
 obtain⟨k,_,rfl⟩:=rd_int Go.Proofs.Try.underlying3 k1
 obtain⟨a2,b2,rfl,k2,h3⟩:=rdF_cons h2
 obtain⟨p,_,rfl⟩:=rd_int Go.Proofs.Try.underlying3 k2
 obtain⟨a3,b3,rfl,k3,h4⟩:=rdF_cons h3
 obtain⟨c,rfl⟩:=rd_bool Go.Proofs.Try.underlying4 k3
 obtain⟨a4,b4,rfl,k4,h5⟩:=rdF_cons h4
 obtain⟨t,s,rfl⟩:=edge_read (d:=d+3) k4
 obtain⟨a5,b5,rfl,k5,h6⟩:=rdF_cons h5
 obtain⟨nx,ls,rfl,_,e1,e2⟩:=rd_slice Go.Proofs.Try.underlying64 k5
 obtain rfl:=rdF_nil h6
 rw[cells63]at e2
 obtain⟨es,q1,q2,q3⟩:=map_mem (f:=wrapAs Go.Proofs.Try.prog 63) (g:=ed) (Q:=fun _=>True) (ls:=ls) fun y hy=>by
  obtain⟨u,v,rfl⟩:=edge_read (d:=d+1) (e1 y hy)
  exact⟨(u,v),by rw[wrap_struct Go.Proofs.Try.underlying63],trivial⟩
 rw[q3]at e2
 exact⟨⟨k,p,c,t,s,es,nx⟩,rfl,e2⟩
theorem nodes_read{d:Nat}{v:AV}(h:Rdd Go.Proofs.Try.prog (d+15) 56 [v]):∃ns:List Nd,Sl 6 v (ns.map nodeV)∧∀x∈ns,NdOk x:=by
 obtain⟨a,ls,e,_,e1,e2⟩:=rd_slice Go.Proofs.Try.underlying56 h
 cases e
 rw[cells66]at e2
 obtain⟨ns,q1,q2,q3⟩:=map_mem (f:=wrapAs Go.Proofs.Try.prog 66) (g:=nodeV) (Q:=NdOk) (ls:=ls) fun y hy=>by
  obtain⟨x,h1,h2⟩:=node_read (d:=d) (e1 y hy)
  exact⟨x,by rw[wrap_struct Go.Proofs.Try.underlying66];exact h1,h2⟩
 rw[q3]at e2
 exact⟨ns,e2,q2⟩
def Grow(sz:Nat)(v:AV)(els:List AV):Prop:=v=.vec sz .own els∨(v=.lit (.slice none 0 0)∧els=[])
theorem Grow.sl{sz:Nat}{v:AV}{els:List AV}(h:Grow sz v els):Sl sz (Abs.shr v) els:=by
 rcases h with rfl | ⟨rfl,rfl⟩
 ·exact .inr (.inl rfl)
 ·exact .inr (.inr ⟨rfl,rfl⟩)
theorem Grow.kill{sz:Nat}{v:AV}{els:List AV}(h:Grow sz v els)(m:Nat):Abs.kill m v=v:=by
 rcases h with rfl | ⟨rfl,rfl⟩<;>rfl
theorem ap_small{L:List AV}(h:L.length<2 ^ 20):(L.length+(0+1))*(16+1)≤1099511627776:=by omega
theorem ap_small6{L:List AV}(h:L.length<2 ^ 20):(L.length+(0+1))*(64+1)≤1099511627776:=by omega
theorem nd1{n i d:Nat}(h:n-i=d+1):n-(i+1)=d:=by omega
theorem nd2{n i d:Nat}(h:n-i=d+1):i+1≤n:=by omega
theorem mvV_false{nt:Nat}{fr:PT}{H:Hp}{dd:Option Tmp}{t:Tmp}(v:AV):mvV nt fr H dd t false v=setO nt dd fr H (shr v):=by
 unfold mvV
 split
 ·rfl
 ·rename_i h
  rw[shr_of_notOwn]
  cases v with
  | vec s k l=>cases k with
   | own=>exact absurd rfl (h s l)
   | _=>rfl
  | _=>rfl
theorem x_split{cx:Cx}{h:Hd}{ro fn nt:Nat}{fr fr':PT}{H H':Hp}{a b:Code}(e:ex cx h ro fn nt (.seq a b) fr H=some (.normal,fr',H')):∃fr1 H1,ex cx h ro fn nt a fr H=some (.normal,fr1,H1)∧ex cx h ro fn nt b fr1 H1=some (.normal,fr',H'):=by
 rw[x_seq]at e
 cases ha:ex cx h ro fn nt a fr H with
 | none=>rw[ha]at e;cases e
 | some r =>
  obtain⟨x,fr1,H1⟩:=r
  rw[ha]at e
  cases x with
  | normal=>rw[xbind_some,contR_normal]at e;exact⟨fr1,H1,rfl,e⟩
  | _=>cases e
def dk(k:Int):Int:=if k=1 then 2 else if k=2 then 1 else if k=3 then 4 else if k=4 then 3 else k
abbrev othC:List AV:=[iv 0,iv 2,iv 1,iv 4,iv 3,iv 5]
theorem build209:abuild cx.T 209 [(0,iv 0),(1,iv 2),(2,iv 1),(3,iv 4),(4,iv 3),(5,iv 5)]=some (.agg othC):=nk
theorem other_call:∃H',callB cx D 0 159 [] []=some (.agg othC,H'):=by
 rw[c159]
 simp -implicitDefEqProofs (maxDischargeDepth:=4) only[go_sem,build209,Nat.le_refl]
 exact⟨_,rfl⟩
theorem other_ok:pcall D 159 []=some (.agg othC):=by
 obtain⟨H',h⟩:=other_call
 rw[pcall_eq (vs:=[]) (v:=.agg othC) (H':=H') (by rw[List.map_nil];exact h)]
 simp only[Abs.frz,Abs.frz1,List.map_cons,List.map_nil,Abs.frz0,Abs.cl0]
def mv(far:Int)(e:Int×Int):Int×Int:=(wrapK .i64 (e.1+far),e.2)
structure VFr(fr:PT)(b:AV)(p:Nat)(v:AV)(L i:Nat):Prop where
 f1:fr.get 1=.ptr p 0 0
 f3:fr.get 3=v
 f6:fr.get 6=b
 f7:fr.get 7=iv L
 f8:fr.get 8=iv i
theorem moved_loop{ro m p:Nat}(hro:ro≤m){b:AV}{es:List (Int×Int)}(hb:Sl 2 b (es.map ed))(hl:es.length<2 ^ 20){far:Int}(hp:p<m){R:List AV}(hR:(es.map (mv far)).map ed=R):
  ∀(d i:Nat)(fr:PT)(G:Hp)(v:AV)(L:List AV),es.length-i=d→i≤es.length→G.length=m→G[p]?=some (.cells 1 3 [iv far])→VFr fr b p v es.length i→(((es.take i).map (mv far)).map ed)=L→Grow 2 v L→
  ∃(fr':PT)(G':Hp)(v':AV),D.loop ro 123 24 l123_0 fr G=some (.exit 0,fr',G')∧fr'.get 3=v'∧Grow 2 v' R
 | 0,i,fr,G,v,L,hd,hi,hG,hg,F,hL,hv=>by
  have hlt:¬((i:Int)<(es.length:Int)):=by omega
  rw[List.take_of_length_le (by omega),hR]at hL
  subst hL
  rw[dl123_0]
  simp -implicitDefEqProofs (maxDischargeDepth:=4) only[go_sem,F.f7,F.f8,hlt]
  exact⟨_,_,v,rfl,by simp only[go_sem,F.f3],hv⟩
 | d+1,i,fr,G,v,L,hd,hi,hG,hg,F,hL,hv=>by
  have hlt:((i:Int)<(es.length:Int)):=by omega
  have w3:wrapK .i64 ((i:Int)+1)=((i+1:Nat):Int):=by rw[wrapK_i64 (by omega) (by omega)];rfl
  have e1:=at_ed hb (show i<es.length by omega)
  have hlen:L.length=i:=by rw[←hL];simp;omega
  have hlen2:L.length<2 ^ 20:=by omega
  have hnew:(((es.take (i+1)).map (mv far)).map ed)=L++[ed (mv far (es.getD i (0,0)))]:=by
   rw[List.take_add_one,List.map_append,List.map_append,hL,List.getElem?_eq_getElem (by omega)]
   simp[List.getD_eq_getElem?_getD,List.getElem?_eq_getElem (show i<es.length by omega)]
  have c1:ro≤m:=hro
  have c2:¬m<ro:=by omega
  have next:∀(fr1:PT)(G1:Hp),m≤G1.length→G1[p]?=some (.cells 1 3 [iv far])→VFr fr1 b p (.vec 2 .own (L++[ed (mv far (es.getD i (0,0)))])) es.length (i+1)→
    ∃(fr':PT)(G':Hp)(v':AV),trimmed (D.loop ro 123 24 l123_0) m fr1 G1=some (.exit 0,fr',G')∧fr'.get 3=v'∧Grow 2 v' R:=fun fr1 G1 hm1 hg1 F1=>by
   refine trim_gen (P:=fun w=>∃(fr':PT)(G':Hp)(v':AV),w=some (.exit 0,fr',G')∧fr'.get 3=v'∧Grow 2 v' R) [1,3,6,7,8] hm1 (fun t ht=>?_) fun fr' G' hG' hf hk'=>?_
   ·simp only[List.mem_cons,List.not_mem_nil,or_false]at ht
    rcases ht with rfl | rfl | rfl | rfl | rfl
    ·rw[F1.f1,kill_ptr hp]
    ·rw[F1.f3];rfl
    ·rw[F1.f6,kill_Sl hb]
    ·rw[F1.f7];rfl
    ·rw[F1.f8];rfl
   ·exact moved_loop hro hb hl hp hR d (i+1) fr' G' _ _ (nd1 hd) (nd2 hd) hG' (hk' p _ hp hg1 rfl) ⟨by rw[hf 1 (by simp),F1.f1],by rw[hf 3 (by simp),F1.f3],by rw[hf 6 (by simp),F1.f6],by rw[hf 7 (by simp),F1.f7],by rw[hf 8 (by simp),F1.f8]⟩ hnew (.inl rfl)
  rw[dl123_0]
  rcases hv with rfl | ⟨rfl,rfl⟩
  ·have hap:∀y:AV,apV 2 16 [y] (.vec 2 .own L)=some (.vec 2 .own (L++[y])):=fun y=>apV_own (ap_small hlen2) (by decide)
   simp -implicitDefEqProofs (maxDischargeDepth:=4) only[go_sem,hG,F.f1,F.f3,F.f6,F.f7,F.f8,hlt,hb.notOwn,hb.shr,e1,c1,c2,hp,hg,build63',hap,w3]
   refine next _ _ ?_ ?_ ⟨?_,?_,?_,?_,?_⟩
   ·rw[List.length_append,hG];exact Nat.le_add_right _ _
   ·rw[hp_get_l (by omega),hg]
   ·simp -implicitDefEqProofs (maxDischargeDepth:=4) only[go_sem,F.f1]
   ·simp -implicitDefEqProofs (maxDischargeDepth:=4) only[go_sem]
    rfl
   ·simp -implicitDefEqProofs (maxDischargeDepth:=4) only[go_sem,F.f6]
   ·simp -implicitDefEqProofs (maxDischargeDepth:=4) only[go_sem,F.f7]
   ·simp -implicitDefEqProofs (maxDischargeDepth:=4) only[go_sem]
  ·have hap:∀y:AV,apV 2 16 [y] (.lit (.slice none 0 0))=some (.vec 2 .own [y]):=fun y=>apV_none (show (0+1)*(16+1)≤1099511627776 by decide) (by decide)
   rw[List.nil_append]at next
   simp -implicitDefEqProofs (maxDischargeDepth:=4) only[go_sem,hG,F.f1,F.f3,F.f6,F.f7,F.f8,hlt,hb.notOwn,hb.shr,e1,c1,c2,hp,hg,build63',hap,w3]
   refine next _ _ ?_ ?_ ⟨?_,?_,?_,?_,?_⟩
   ·rw[List.length_append,hG];exact Nat.le_add_right _ _
   ·rw[hp_get_l (by omega),hg]
   ·simp -implicitDefEqProofs (maxDischargeDepth:=4) only[go_sem,F.f1]
   ·simp -implicitDefEqProofs (maxDischargeDepth:=4) only[go_sem]
    rfl
   ·simp -implicitDefEqProofs (maxDischargeDepth:=4) only[go_sem,F.f6]
   ·simp -implicitDefEqProofs (maxDischargeDepth:=4) only[go_sem,F.f7]
   ·simp -implicitDefEqProofs (maxDischargeDepth:=4) only[go_sem]
theorem xapply_quiet{cx:Cx}{ro:Nat}{g:FuncId}{cap vs:List AV}{H:Hp}(hp:cx.pol.pure g=false)(hq:cx.pol.quiet g=true):xapply cx (den cx) ro (.fn g cap) vs H=purely (callB cx (den cx) H.length g ((vs++cap).map drp) H) H.length H:=by
 have:way cx g (vs++cap)=.quiet:=by simp[way,hp,hq]
 simp only[xapply,this,docall,den_call_eq]
theorem Sl.frz_id'{sz n:Nat}{a:AV}{els:List AV}{H:Hp}(h:Sl sz a els):Abs.frz n H a=a:=by
 rcases h with rfl | rfl | ⟨rfl,_⟩<;>rfl
theorem moved_call{H:Hp}{b:AV}{es:List (Int×Int)}(hb:Sl 2 b (es.map ed))(hl:es.length<2 ^ 20){far:Int}{p:Nat}(hg:H[p]?=some (.cells 1 3 [iv far])):
  ∃v H',callB cx D H.length 123 [b,.ptr p 0 0] H=some (v,H')∧Sl 2 v ((es.map (mv far)).map ed):=by
 have hp:=lt_of_get hg
 obtain⟨fr1,e1,F⟩:∃fr1:PT,ex cx D H.length 123 24 (.seq (.region 0 g123_0 false) (.region 1 g123_1 false)) ((PT.nil.set 0 (drp b)).set 1 (drp (.ptr p 0 0))) H=some (.normal,fr1,H)∧VFr fr1 b p (.lit (.slice none 0 0)) es.length 0:=by
  simp -implicitDefEqProofs (maxDischargeDepth:=4) only[go_sem,hb.drp,hb.shr,hb.notOwn,alen_sl hb,List.length_map]
  refine⟨_,rfl,?_,?_,?_,?_,?_⟩<;>simp only[go_sem,Int.ofNat_zero]
 obtain⟨fr2,G2,v2,e2,f3,hv⟩:=moved_loop (ro:=H.length) (Nat.le_refl _) hb hl (far:=far) hp rfl es.length 0 fr1 H _ _ (by omega) (by omega) rfl hg F rfl (.inr ⟨rfl,rfl⟩)
 obtain⟨_,_,p1,p2⟩:=x_split e1
 have e3:ex cx D H.length 123 24 (.block 0 (.loop l123_0)) fr1 H=some (.normal,fr2,G2):=by simp only[go_sem,x_loop,e2]
 refine⟨shr v2,G2,?_,hv.sl⟩
 rw[c123,x_cont1 p1,x_assoc,x_cont1 p2,x_cont1 e3]
 rcases hv with rfl | ⟨rfl,_⟩<;>simp only[go_sem,f3]
theorem moved_ok{ro:Nat}{H:Hp}{b:AV}{es:List (Int×Int)}(hb:Sl 2 b (es.map ed))(hl:es.length<2 ^ 20){far:Int}{p:Nat}(hg:H[p]?=some (.cells 1 3 [iv far])):
  ∃v,xapply cx D ro (.fn 123 [.ptr p 0 0]) [b] H=some (v,H)∧Sl 2 v ((es.map (mv far)).map ed):=by
 obtain⟨v,H',h1,h2⟩:=moved_call hb hl hg
 refine⟨v,?_,h2⟩
 rw[xapply_quiet pu123 qu123,List.cons_append,List.nil_append,List.map_cons,List.map_cons,List.map_nil,hb.drp,show drp (.ptr p 0 0)=.ptr p 0 0 from rfl,h1]
 simp only[purely,Sl.frz_id' h2]
structure B54(z:Int)(G:Hp)(a v:AV)(st:LS):Prop where
 b0:G[0]?=some (.cells 1 56 [a])
 b1:G[1]?=some (.cells 1 56 [v])
 b2:G[2]?=some (.cells 1 3 [iv z])
 lp:∃rfr,G[3]?=some (.loop { fn:=54,nt:=46,fr:=rfr,params:=[21,22],assign:=q54_1,body:=r54_1,state:=st,pending:=none })∧rfr.get 1=.ptr 0 0 0∧rfr.get 5=.ptr 1 0 0
theorem B54.grow{z:Int}{G L:Hp}{a v:AV}{st:LS}(B:B54 z G a v st):B54 z (G++L) a v st:=by
 obtain⟨h0,h1,hz,rfr,h2,h3⟩:=B
 exact⟨by rw[hp_get_l (lt_of_get h0),h0],by rw[hp_get_l (lt_of_get h1),h1],by rw[hp_get_l (lt_of_get hz),hz],rfr,by rw[hp_get_l (lt_of_get h2),h2],h3⟩
theorem B54.set{z:Int}{G:Hp}{a v:AV}{st:LS}(B:B54 z G a v st){j:Nat}{x:ABlock}(hj:4≤j):B54 z (G.set j x) a v st:=by
 obtain⟨h0,h1,hz,rfr,h2,h3⟩:=B
 exact⟨by rw[hp_ne (by omega),h0],by rw[hp_ne (by omega),h1],by rw[hp_ne (by omega),hz],rfr,by rw[hp_ne (by omega),h2],h3⟩
theorem B54.set1{z:Int}{G:Hp}{a v w:AV}{st:LS}(B:B54 z G a v st):B54 z (G.set 1 (.cells 1 56 [w])) a w st:=by
 obtain⟨h0,h1,hz,rfr,h2,h3⟩:=B
 exact⟨by rw[hp_ne (by decide),h0],by rw[hp_one (lt_of_get h1)],by rw[hp_ne (by decide),hz],rfr,by rw[hp_ne (by decide),h2],h3⟩
theorem B54.trim{z:Int}{G:Hp}{a v:AV}{st:LS}(B:B54 z G a v st){m:Nat}(hm:4≤m)(hG:m≤G.length)(ha:∀m,kill m a=a)(hv:∀m,kill m v=v)(ka:killB m (.cells 1 56 [a])=.cells 1 56 [a])(kv:killB m (.cells 1 56 [v])=.cells 1 56 [v]):B54 z ((G.take m).map (killB m)) a v st:=by
 obtain⟨h0,h1,hz,rfr,h2,h3,h4⟩:=B
 refine⟨?_,?_,?_,rfr.map (kill m),?_,?_,?_⟩
 ·rw[List.getElem?_map,List.getElem?_take_of_lt (by omega),h0,Option.map_some,ka]
 ·rw[List.getElem?_map,List.getElem?_take_of_lt (by omega),h1,Option.map_some,kv]
 ·rw[List.getElem?_map,List.getElem?_take_of_lt (by omega),hz];rfl
 ·rw[List.getElem?_map,List.getElem?_take_of_lt (by omega),h2];rfl
 ·rw[get_mapkill,h3,kill_ptr (by omega)]
 ·rw[get_mapkill,h4,kill_ptr (by omega)]
structure TFr(fr:PT)(a:AV)(p6 p7 n i:Nat):Prop where
 f1:fr.get 1=.ptr 0 0 0
 f5:fr.get 5=.ptr 1 0 0
 f6:fr.get 6=.ptr p6 0 0
 f8:fr.get 8=.fn 123 [.ptr p7 0 0]
 f24:fr.get 24=a
 f25:fr.get 25=iv n
 f26:fr.get 26=iv i
def half(ks:List Int)(far:Int)(x y:Nd):Prop:=ks[x.kind.toNat]?=some y.kind∧y.prio=x.prio∧y.chan=x.chan∧y.pt=x.pt∧y.ps=x.ps∧y.es=x.es.map (mv far)∧NdOk y
theorem fmc_quiet{cx:Cx}{H H':Hp}{g:FuncId}{cap vs:List AV}(hp:cx.pol.pure g=false)(hq:cx.pol.quiet g=true):fmCall cx H H' (.fn g cap) vs=.rdAll:=by
 simp[fmCall,way,hp,hq]
theorem killB_v{v:AV}{els:List AV}(h:Grow 6 v els)(m:Nat):killB m (.cells 1 56 [v])=.cells 1 56 [v]:=by
 rcases h with rfl | ⟨rfl,_⟩<;>rfl
theorem killB_6(ks:List Int)(m:Nat):killB m (.cells 6 209 [.agg (ks.map iv)])=.cells 6 209 [.agg (ks.map iv)]:=by
 have:(ks.map iv).map (kill0 m)=ks.map iv:=by rw[List.map_map];rfl
 show ABlock.cells 6 209 [.agg ((ks.map iv).map (kill0 m))]=_
 rw[this]
theorem at209{m p:Nat}(h:m<6):aindexAddr cx.T 209 (.ptr p 0 0) (iv m)=some (.ptr p 0 m):=by
 rw[aindexAddr_arr (m:=6) (sz:=1) ar209,if_pos h]
 simp
theorem wrap_succ{i:Nat}(h:i≤1000):wrapK .i64 ((i:Int)+1)=((i+1:Nat):Int):=by rw[wrapK_i64 (by omega) (by omega)];rfl
theorem nd0{n i l:Nat}(h:n-i=0)(hi:i≤n)(hl:l=i):l=n:=by omega
theorem nd3{n i l o:Nat}(h:o+n≤200)(hi:i≤n)(hl:l=i):o+l≤200:=by omega
theorem nd4{j l i:Nat}(h:¬j<l)(h2:j-l<0+1)(hl:l=i):j=i:=by omega
theorem nd5{l i:Nat}(hl:l=i):i-l=0:=by omega
theorem nd6{n i o:Nat}(h:o+n≤200)(hi:i≤n):i≤1000:=by omega
theorem tab_loop{z:Int}{ns:List Nd}{a:AV}(hns:NsOk ns a)(hk:∀x∈ns,(0≤x.kind∧x.kind≤5)∧x.es.length≤8){ks:List Int}(hks:ks.length=6){far:Int}{m p6 p7:Nat}(h6:4≤p6∧p6<m)(h7:4≤p7∧p7<m){os0:List Nd}(h0:os0.length+ns.length≤200):
  ∀(d i:Nat)(fr:PT)(G:Hp)(v:AV)(new:List Nd),ns.length-i=d→i≤ns.length→G.length=m→B54 z G a v .busy→G[p6]?=some (.cells 6 209 [.agg (ks.map iv)])→G[p7]?=some (.cells 1 3 [iv far])→TFr fr a p6 p7 ns.length i→
   Grow 6 v ((os0++new).map nodeV)→new.length=i→(∀(j:Nat)(x y:Nd),ns[j]?=some x→new[j]?=some y→half ks far x y)→
   ∃(fr':PT)(G':Hp)(new':List Nd)(v':AV),D.loop 0 54 46 l54_0 fr G=some (.exit 2,fr',G')∧G'.length=m∧B54 z G' a v' .busy∧Grow 6 v' ((os0++new').map nodeV)∧new'.length=ns.length∧∀(j:Nat)(x y:Nd),ns[j]?=some x→new'[j]?=some y→half ks far x y
 | 0,i,fr,G,v,new,hd,hi,hG,B,g6,g7,F,hv,hl,hnew=>by
  have hlt:¬((i:Int)<(ns.length:Int)):=by omega
  rw[dl54_0]
  simp -implicitDefEqProofs (maxDischargeDepth:=4) only[go_sem,F.f25,F.f26,hlt]
  have hll:=nd0 hd hi hl
  refine⟨_,_,new,v,rfl,hG,B,hv,hll,hnew⟩
 | d+1,i,fr,G,v,new,hd,hi,hG,B,g6,g7,F,hv,hl,hnew=>by
  have hlt:((i:Int)<(ns.length:Int)):=Int.ofNat_lt.2 (nd2 hd)
  have w3:=wrap_succ (nd6 h0 hi)
  obtain⟨x,hx⟩:=ex_nd (ns:=ns) (i:=i) (nd2 hd)
  have hat:=hns.at hx
  have hmem:=List.mem_of_getElem? hx
  have hs:Sl 2 x.nx (x.es.map ed):=hns.ok x hmem
  obtain⟨hkx,hex⟩:=hk x hmem
  obtain⟨k,hkk⟩:∃k:Nat,x.kind=k:=⟨x.kind.toNat,by omega⟩
  have hk6:k<6:=by omega
  obtain⟨kk,hkv⟩:∃kk,ks[k]?=some kk:=⟨_,List.getElem?_eq_getElem (by omega)⟩
  have hkv':(ks.map iv)[k]?=some (iv kk):=by rw[List.getElem?_map,hkv];rfl
  have hia:aindexAddr cx.T 209 (.ptr p6 0 0) (iv x.kind)=some (.ptr p6 0 k):=by rw[hkk];exact at209 hk6
  obtain⟨w,hw,hws⟩:=moved_ok (ro:=0) (H:=G++[.cells 6 66 [nodeV x]]) hs (Nat.lt_of_le_of_lt hex (by decide)) (far:=far) (p:=p7) (by rw[hp_get_l (by omega),g7])
  have b0:=B.b0
  have b1:=B.b1
  have m0:0<m:=by omega
  have m1:1<m:=by omega
  have e6:=h6.2
  have e7:=h7.2
  have hlen1:((os0++new).map nodeV).length≤200:=by rw[List.length_map,List.length_append];exact nd3 h0 hi hl
  have hlen2:((os0++new).map nodeV).length<2 ^ 20:=Nat.lt_of_le_of_lt hlen1 (by decide)
  have next:∀(fr1:PT)(G1:Hp),m≤G1.length→B54 z G1 a (.vec 6 .own ((os0++new).map nodeV++[nodeV { x with kind:=kk,es:=x.es.map (mv far),nx:=w }])) .busy→G1[p6]?=some (.cells 6 209 [.agg (ks.map iv)])→G1[p7]?=some (.cells 1 3 [iv far])→TFr fr1 a p6 p7 ns.length (i+1)→
    ∃(fr':PT)(G':Hp)(new':List Nd)(v':AV),trimmed (D.loop 0 54 46 l54_0) m fr1 G1=some (.exit 2,fr',G')∧G'.length=m∧B54 z G' a v' .busy∧Grow 6 v' ((os0++new').map nodeV)∧new'.length=ns.length∧∀(j:Nat)(x y:Nd),ns[j]?=some x→new'[j]?=some y→half ks far x y:=fun fr1 G1 hm1 B1 k6 k7 F1=>by
   have hgr:Grow 6 (.vec 6 .own ((os0++new).map nodeV++[nodeV { x with kind:=kk,es:=x.es.map (mv far),nx:=w }])) ((os0++(new++[{ x with kind:=kk,es:=x.es.map (mv far),nx:=w }])).map nodeV):=.inl (by rw[←List.append_assoc,List.map_append (l₁:=os0++new)];rfl)
   refine trim_I (P:=fun zz=>∃(fr':PT)(G':Hp)(new':List Nd)(v':AV),zz=some (.exit 2,fr',G')∧G'.length=m∧B54 z G' a v' .busy∧Grow 6 v' ((os0++new').map nodeV)∧new'.length=ns.length∧∀(j:Nat)(x y:Nd),ns[j]?=some x→new'[j]?=some y→half ks far x y)
    (I:=fun G=>B54 z G a (.vec 6 .own ((os0++new).map nodeV++[nodeV { x with kind:=kk,es:=x.es.map (mv far),nx:=w }])) .busy)
    (fun hB hl=>hB.trim (by omega) hl (kill_Sl hns.sl) (fun _=>rfl) (killB_a hns m) (killB_v hgr m)) B1 [1,5,6,8,24,25,26] hm1 (fun t ht=>?_) fun fr' G' hG' hB' hf hk'=>?_
   ·simp only[List.mem_cons,List.not_mem_nil,or_false]at ht
    rcases ht with rfl | rfl | rfl | rfl | rfl | rfl | rfl
    ·rw[F1.f1,kill_ptr m0]
    ·rw[F1.f5,kill_ptr m1]
    ·rw[F1.f6,kill_ptr e6]
    ·rw[F1.f8]
     show (if _ then _ else _)=_
     rw[if_pos (by simp[e7])]
    ·rw[F1.f24,kill_Sl hns.sl]
    ·rw[F1.f25];rfl
    ·rw[F1.f26];rfl
   ·refine tab_loop hns hk hks h6 h7 h0 d (i+1) fr' G' _ (new++[{ x with kind:=kk,es:=x.es.map (mv far),nx:=w }]) (nd1 hd) (nd2 hd) hG' hB' (hk' p6 _ e6 k6 (killB_6 ks m)) (hk' p7 _ e7 k7 rfl)
     ⟨by rw[hf 1 (by simp),F1.f1],by rw[hf 5 (by simp),F1.f5],by rw[hf 6 (by simp),F1.f6],by rw[hf 8 (by simp),F1.f8],by rw[hf 24 (by simp),F1.f24],by rw[hf 25 (by simp),F1.f25],by rw[hf 26 (by simp),F1.f26]⟩ hgr (by rw[List.length_append,hl];rfl) fun j x' y hj hy=>?_
    rw[List.getElem?_append]at hy
    split at hy
    ·exact hnew j x' y hj hy
    ·rename_i hjl
     have hlt2:=(List.getElem?_eq_some_iff.1 hy).1
     simp only[List.length_cons,List.length_nil]at hlt2
     have hji:j=i:=nd4 hjl hlt2 hl
     subst hji
     rw[hx]at hj
     cases hj
     rw[nd5 hl]at hy
     cases hy
     exact⟨by rw[hkk,Int.toNat_natCast];exact hkv,rfl,rfl,rfl,rfl,rfl,hws⟩
  rw[dl54_0]
  rcases hv with rfl | ⟨rfl,hz⟩
  ·have hap:∀y:AV,apV 6 64 [y] (.vec 6 .own ((os0++new).map nodeV))=some (.vec 6 .own ((os0++new).map nodeV++[y])):=fun y=>apV_own (ap_small6 hlen2) (by decide)
   simp -implicitDefEqProofs (maxDischargeDepth:=4) only[go_sem,F.f1,F.f5,F.f6,F.f8,F.f24,F.f25,F.f26,hlt,hG,hns.sl.shr,hns.sl.notOwn,hat,hs.shr,hs.notOwn,hs.drp,hs.fitA,elP_Sl hs,hia,hkv',hw,hws.shr,hws.notOwn,hws.drp,hws.fitA,hws.cl0,fmc_quiet,pu123,qu123,b0,b1,g6,m0,m1,e6,e7,Nat.zero_le,Nat.not_lt_zero,nbeq,w3,hap,layB_res]
   refine next _ _ ?_ ?_ ?_ ?_ ⟨?_,?_,?_,?_,?_,?_,?_⟩
   ·simp only[List.length_append,List.length_set,hG];exact Nat.le_add_right _ _
   ·exact B.set1.set1.grow
   ·rw[hp_get_l (by simp only[List.length_set];omega),hp_ne (by omega),hp_ne (by omega),g6]
   ·rw[hp_get_l (by simp only[List.length_set];omega),hp_ne (by omega),hp_ne (by omega),g7]
   ·simp -implicitDefEqProofs (maxDischargeDepth:=4) only[go_sem,F.f1]
   ·simp -implicitDefEqProofs (maxDischargeDepth:=4) only[go_sem,F.f5]
   ·simp -implicitDefEqProofs (maxDischargeDepth:=4) only[go_sem,F.f6]
   ·simp -implicitDefEqProofs (maxDischargeDepth:=4) only[go_sem,F.f8]
   ·simp -implicitDefEqProofs (maxDischargeDepth:=4) only[go_sem,F.f24]
   ·simp -implicitDefEqProofs (maxDischargeDepth:=4) only[go_sem,F.f25]
   ·simp -implicitDefEqProofs (maxDischargeDepth:=4) only[go_sem]
  ·have hap:∀y:AV,apV 6 64 [y] (.lit (.slice none 0 0))=some (.vec 6 .own [y]):=fun y=>apV_none (show (0+1)*(64+1)≤1099511627776 by decide) (by decide)
   rw[hz,List.nil_append]at next
   simp -implicitDefEqProofs (maxDischargeDepth:=4) only[go_sem,F.f1,F.f5,F.f6,F.f8,F.f24,F.f25,F.f26,hlt,hG,hns.sl.shr,hns.sl.notOwn,hat,hs.shr,hs.notOwn,hs.drp,hs.fitA,elP_Sl hs,hia,hkv',hw,hws.shr,hws.notOwn,hws.drp,hws.fitA,hws.cl0,fmc_quiet,pu123,qu123,b0,b1,g6,m0,m1,e6,e7,Nat.zero_le,Nat.not_lt_zero,nbeq,w3,hap,layB_res]
   refine next _ _ ?_ ?_ ?_ ?_ ⟨?_,?_,?_,?_,?_,?_,?_⟩
   ·simp only[List.length_append,List.length_set,hG];exact Nat.le_add_right _ _
   ·exact B.set1.grow
   ·rw[hp_get_l (by rw[List.length_set];omega),hp_ne (by omega),g6]
   ·rw[hp_get_l (by rw[List.length_set];omega),hp_ne (by omega),g7]
   ·simp -implicitDefEqProofs (maxDischargeDepth:=4) only[go_sem,F.f1]
   ·simp -implicitDefEqProofs (maxDischargeDepth:=4) only[go_sem,F.f5]
   ·simp -implicitDefEqProofs (maxDischargeDepth:=4) only[go_sem,F.f6]
   ·simp -implicitDefEqProofs (maxDischargeDepth:=4) only[go_sem,F.f8]
   ·simp -implicitDefEqProofs (maxDischargeDepth:=4) only[go_sem,F.f24]
   ·simp -implicitDefEqProofs (maxDischargeDepth:=4) only[go_sem,F.f25]
   ·simp -implicitDefEqProofs (maxDischargeDepth:=4) only[go_sem]
noncomputable abbrev lp54(rfr:PT)(st:LS):ALoop:={ fn:=54,nt:=46,fr:=rfr,params:=[21,22],assign:=q54_1,body:=r54_1,state:=st,pending:=none }
theorem B54.st{z:Int}{G:Hp}{a v:AV}{st:LS}(B:B54 z G a v st)(st':LS):∃rfr,G[3]?=some (.loop (lp54 rfr st))∧B54 z (G.set 3 (.loop (lp54 rfr st'))) a v st'∧rfr.get 1=.ptr 0 0 0∧rfr.get 5=.ptr 1 0 0:=by
 obtain⟨h0,h1,hz,rfr,h2,h3⟩:=B
 exact⟨rfr,h2,⟨by rw[hp_ne (by decide),h0],by rw[hp_ne (by decide),h1],by rw[hp_ne (by decide),hz],rfr,by rw[hp_one (lt_of_get h2)],h3⟩,h3⟩
theorem round54{z:Int}{ns:List Nd}{a:AV}(hns:NsOk ns a)(hk:∀x∈ns,(0≤x.kind∧x.kind≤5)∧x.es.length≤8){ks:List Int}(hks:ks.length=6){far:Int}{os0:List Nd}(h0:os0.length+ns.length≤200)
  {G:Hp} {v:AV} (hG:4≤G.length) (B:B54 z G a v .ready) (hv:Grow 6 v (os0.map nodeV)):
  ∃(G':Hp)(new:List Nd)(v':AV),round D 0 3 [.agg (ks.map iv),iv far] G=some (bv true,G')∧4≤G'.length∧B54 z G' a v' .ready∧Grow 6 v' ((os0++new).map nodeV)∧new.length=ns.length∧∀(j:Nat)(x y:Nd),ns[j]?=some x→new[j]?=some y→half ks far x y:=by
 obtain⟨len,hlen⟩:∃len,G.length=len:=⟨_,rfl⟩
 obtain⟨rfr,hl1,B1,r1,r5⟩:=(B.grow (L:=[.cells 6 209 [.agg (ks.map iv)],.cells 1 3 [iv far]])).st .busy
 have hl0:=hl1
 rw[hp_get_l (by omega)]at hl0
 have hpl:((ks.map iv).map shr)=ks.map iv:=by rw[List.map_map];rfl
 obtain⟨fr1,e1,f1,f5,f6,f7⟩:∃fr1:PT,ex cx D 0 54 46 q54_1 (setArgs [(21,.agg (ks.map iv)),(22,iv far)] rfr) G=some (.normal,fr1,G++[.cells 6 209 [.agg (ks.map iv)],.cells 1 3 [iv far]])∧fr1.get 1=.ptr 0 0 0∧fr1.get 5=.ptr 1 0 0∧fr1.get 6=.ptr len 0 0∧fr1.get 7=.ptr (len+1) 0 0:=by
  unfold q54_1
  simp -implicitDefEqProofs (maxDischargeDepth:=4) only[go_sem,hlen,Nat.zero_le,Nat.not_lt_zero,hpl,List.length_map,hks]
  exact⟨_,rfl,by simp only[go_sem,r1],by simp only[go_sem,r5],by simp only[go_sem],by simp only[go_sem]⟩
 obtain⟨G1,hG1⟩:∃G1,(G++[ABlock.cells 6 209 [.agg (ks.map iv)],.cells 1 3 [iv far]]).set 3 (.loop (lp54 rfr .busy))=G1:=⟨_,rfl⟩
 rw[hG1]at B1
 have l1:G1.length=len+2:=by rw[←hG1,List.length_set,List.length_append,hlen];rfl
 have g6:G1[len]?=some (.cells 6 209 [.agg (ks.map iv)]):=by rw[←hG1,hp_ne (by omega),hp_get_r0 hlen];rfl
 have g7:G1[len+1]?=some (.cells 1 3 [iv far]):=by rw[←hG1,hp_ne (by omega),hp_get_r hlen];rfl
 have b0:=B1.b0
 have ea:elP false 1 a 0=some a:=elP_Sl hns.sl
 obtain⟨fr2,e2,F2⟩:∃fr2:PT,ex cx D 0 54 46 (.seq (.region 8 g54_8 false) (.region 9 g54_9 false)) fr1 G1=some (.normal,fr2,G1)∧TFr fr2 a len (len+1) ns.length 0:=by
  simp -implicitDefEqProofs (maxDischargeDepth:=4) only[go_sem,f1,f7,b0,ea,hns.sl.shr,hns.sl.notOwn,alen_sl hns.sl,List.length_map]
  refine⟨_,rfl,?_,?_,?_,?_,?_,?_,?_⟩<;>simp -implicitDefEqProofs (maxDischargeDepth:=4) only[go_sem,f1,f5,f6,f7,Int.ofNat_zero]
 obtain⟨fr3,G3,new,v',e3,l3,B3,hv3,hn3,hh3⟩:=tab_loop hns hk hks (far:=far) (m:=len+2) (p6:=len) (p7:=len+1) (by omega) (by omega) h0 ns.length 0 fr2 G1 v [] (by omega) (by omega) l1 B1 g6 g7 F2 (by rw[List.append_nil];exact hv) rfl (fun j x y _ h=>by cases h)
 obtain⟨rfr3,hl3,B4,_,_⟩:=B3.st .ready
 obtain⟨_,_,p1,p2⟩:=x_split e2
 have eb:ex cx D 0 54 46 (.block 2 (.loop l54_0)) fr2 G1=some (.normal,fr3,G3):=by simp only[go_sem,x_loop,e3]
 have eB:ex cx D 0 54 46 r54_1 fr1 G1=some (.normal,fr3,G3):=by
  unfold r54_1
  rw[x_block,x_cont1 p1,x_cont1 p2,eb];rfl
 refine⟨_,new,v',?_,?_,B4,hv3,hn3,hh3⟩
 ·rw[round_eq hl0 (Nat.zero_le _) rfl rfl rfl,show setArgs ((lp54 rfr .ready).params.zip [.agg (ks.map iv),iv far]) (lp54 rfr .ready).fr=setArgs [(21,.agg (ks.map iv)),(22,iv far)] rfr from rfl,
   show ex cx (den cx) 0 (lp54 rfr .ready).fn (lp54 rfr .ready).nt (lp54 rfr .ready).assign=ex cx D 0 54 46 q54_1 from rfl,e1,bodyRound_eq hl1 rfl,show ({ lp54 rfr .ready with state:=.busy }:ALoop)=lp54 rfr .busy from rfl,hG1,show ex cx (den cx) 0 (lp54 rfr .ready).fn (lp54 rfr .ready).nt (lp54 rfr .ready).body=ex cx D 0 54 46 r54_1 from rfl,eB,endRound_normal hl3]
 ·rw[List.length_set];omega
theorem trimmed_l{k:PT→Hp→Option Res}{n:Nat}{fr:PT}{H:Hp}(h:H.length=n):trimmed k n fr H=k fr H:=by
 unfold trimmed;rw[if_pos h]
theorem idx6{ks:List Int}(hl:ks.length=6)(h:∀j:Nat,j<6→ks[j]?=some (j:Int)):ks=[0,1,2,3,4,5]:=by
 refine List.ext_getElem? fun j=>?_
 by_cases hj:j<6
 ·rw[h j hj]
  match j,hj with
  | 0,_=>rfl
  | 1,_=>rfl
  | 2,_=>rfl
  | 3,_=>rfl
  | 4,_=>rfl
  | 5,_=>rfl
 ·rw[List.getElem?_eq_none (by omega),List.getElem?_eq_none (by simp;omega)]
theorem own158{G:Hp}(hG:G.length=4){y:AV}{p:AV}:∀(d k:Nat)(fr:PT)(ks:List Int),k+d=6→ks.length=6→(∀j:Nat,j<k→ks[j]?=some (j:Int))→fr.get 0=y→fr.get 1=p→fr.get 3=.ptr 4 0 0→fr.get 6=iv k→
  ∃fr':PT,D.loop 0 158 20 l158_0 fr (G++[.cells 6 209 [.agg (ks.map iv)]])=some (.exit 0,fr',G++[.cells 6 209 [.agg [iv 0,iv 1,iv 2,iv 3,iv 4,iv 5]]])∧fr'.get 0=y∧fr'.get 1=p∧fr'.get 3=.ptr 4 0 0
 | 0,k,fr,ks,hd,hl,hks,f0,f1,f3,f6=>by
  have hk:k=6:=by omega
  subst hk
  rw[idx6 hl hks,dl158_0]
  have hlt:¬(((6:Nat):Int)<6):=by decide
  simp -implicitDefEqProofs (maxDischargeDepth:=4) only[go_sem,f6,hlt]
  exact⟨_,rfl,by simp only[go_sem,f0],by simp only[go_sem,f1],by simp only[go_sem,f3]⟩
 | d+1,k,fr,ks,hd,hl,hks,f0,f1,f3,f6=>by
  have hlt:((k:Int)<6):=by omega
  have hk6:k<6:=by omega
  have w3:=wrap_succ (show k≤1000 by omega)
  have hia:=at209 (p:=4) hk6
  have hset:(ks.map iv).set k (iv k)=(ks.set k k).map iv:=by rw[List.map_set]
  have hlen:k<(ks.map iv).length:=by rw[List.length_map];omega
  rw[dl158_0]
  simp -implicitDefEqProofs (maxDischargeDepth:=4) only[go_sem,f3,f6,hlt,hG,hia,elS_cell,hlen,hset,Nat.not_lt_zero,w3]
  have hT:=fun (f:PT) (x:ABlock)=>trimmed_l (k:=D.loop 0 158 20 l158_0) (n:=5) (fr:=f) (H:=G++[x]) (by rw[List.length_append,hG];rfl)
  rw[hT]
  refine own158 hG d (k+1) _ (ks.set k k) (by omega) (by rw[List.length_set,hl]) (fun j hj=>?_) (by simp only[go_sem,f0]) (by simp only[go_sem,f1]) (by simp only[go_sem,f3]) (by simp only[go_sem])
  rw[List.getElem?_set]
  split
  ·rename_i h;subst h;rw[if_pos (by omega)]
  ·exact hks j (by omega)
theorem halves_call{ns:List Nd}{a:AV}(hns:NsOk ns a)(hk:∀x∈ns,(0≤x.kind∧x.kind≤5)∧x.es.length≤8)(hl:ns.length≤64){G:Hp}(hG:G.length=4)(B:B54 ns.length G a (.lit (.slice none 0 0)) .ready):
  ∃(G':Hp)(n1 n2:List Nd)(v':AV),callB cx D 0 158 [.yld 3,.ptr 2 0 0] G=some (.tup [],G')∧4≤G'.length∧B54 ns.length G' a v' .ready∧Grow 6 v' ((n1++n2).map nodeV)∧n1.length=ns.length∧n2.length=ns.length∧
   (∀(j:Nat)(x y:Nd),ns[j]?=some x→n1[j]?=some y→half [0,1,2,3,4,5] 0 x y)∧∀(j:Nat)(x y:Nd),ns[j]?=some x→n2[j]?=some y→half [0,2,1,4,3,5] ns.length x y:=by
 obtain⟨fr1,e1,f0,f1,f3,f6⟩:∃fr1:PT,ex cx D 0 158 20 (.seq (.region 0 g158_0 false) (.region 1 g158_1 false)) ((PT.nil.set 0 (drp (.yld 3))).set 1 (drp (.ptr 2 0 0))) G=some (.normal,fr1,G++[.cells 6 209 [.agg (([0,2,1,4,3,5]:List Int).map iv)]])∧fr1.get 0=.yld 3∧fr1.get 1=.ptr 2 0 0∧fr1.get 3=.ptr 4 0 0∧fr1.get 6=iv (0:Nat):=by
  simp -implicitDefEqProofs (maxDischargeDepth:=4) only[go_sem,other_ok,hG,Nat.zero_le,Nat.not_lt_zero]
  exact⟨_,rfl,by simp only[go_sem],by simp only[go_sem],by simp only[go_sem],by simp only[go_sem,Int.ofNat_zero]⟩
 obtain⟨fr2,e2,k0,k1,k3⟩:=own158 hG 6 0 fr1 [0,2,1,4,3,5] rfl rfl (fun j h=>by omega) f0 f1 f3 f6
 obtain⟨G1,n1,v1,q1,l1,B1,hv1,hn1,hh1⟩:=round54 hns hk (ks:=[0,1,2,3,4,5]) rfl (far:=0) (os0:=[]) (by simp;omega) (G:=G++[.cells 6 209 [.agg [iv 0,iv 1,iv 2,iv 3,iv 4,iv 5]]]) (by rw[List.length_append,hG];decide) B.grow (.inr ⟨rfl,rfl⟩)
 obtain⟨G2,n2,v2,q2,l2,B2,hv2,hn2,hh2⟩:=round54 hns hk (ks:=[0,2,1,4,3,5]) rfl (far:=ns.length) (os0:=n1) (by omega) l1 B1 (by rw[List.nil_append]at hv1;exact hv1)
 have z1:=B1.b2
 have z2:G2[2]?=G1[2]?:=by rw[B2.b2,B1.b2]
 obtain⟨_,_,p1,p2⟩:=x_split e1
 have eb:ex cx D 0 158 20 (.block 0 (.loop l158_0)) fr1 (G++[.cells 6 209 [.agg (([0,2,1,4,3,5]:List Int).map iv)]])=some (.normal,fr2,G++[.cells 6 209 [.agg [iv 0,iv 1,iv 2,iv 3,iv 4,iv 5]]]):=by rw[x_block,x_loop,e2];rfl
 refine⟨G2,n1,n2,v2,?_,l2,B2,hv2,hn1,hn2,hh1,hh2⟩
 simp only[List.map_cons,List.map_nil]at q1 q2
 rw[c158,x_cont1 p1,x_assoc,x_cont1 p2,x_cont1 eb]
 simp -implicitDefEqProofs (maxDischargeDepth:=4) only[go_sem,k0,k1,k3,hG,q1,other_ok,z1,q2,kpAs_of,z2]
theorem chkA_good{N:Int}:∀ {l:List Nd} {i:Nat},chkA N i l=none→∀x∈l,shp x=true∧opn N x=false
 | [],_,_,x,hx=>by cases hx
 | y::ys,i,h,x,hx=>by
  simp only[chkA]at h
  split at h
  ·cases h
  ·rename_i h1
   split at h
   ·cases h
   ·rename_i h2
    rcases List.mem_cons.1 hx with rfl | hx
    ·exact⟨by simpa using h1,by simpa using h2⟩
    ·exact chkA_good h x hx
structure Good(ns:List Nd):Prop where
 pos:1≤ns.length
 le:ns.length≤64
 sh:∀x∈ns,shp x=true
 cl:∀x∈ns,opn ns.length x=false
 nb:chkB ns ns.length 0=(-1,0)
theorem chk_good{ns:List Nd}(h:(chk ns).2=0):Good ns:=by
 unfold chk at h
 split at h
 ·exact absurd h (show (2:Int)≠0 by decide)
 ·split at h
  ·exact absurd h (show (4:Int)≠0 by decide)
  ·cases hc:chkA ns.length 0 ns with
   | some r=>rw[hc]at h;exact absurd h (chkA_ne hc)
   | none =>
    rw[hc]at h
    have hg:=chkA_good hc
    exact⟨by omega,by omega,fun x hx=>(hg x hx).1,fun x hx=>(hg x hx).2,chkB_zero h⟩
theorem shp_kind{x:Nd}(h:shp x=true):0≤x.kind∧x.kind≤5:=by
 unfold shp at h
 simp only[Bool.and_eq_true]at h
 exact inB_iff.1 h.1.1.1.1.1
theorem halves_mk{ro:Nat}{H:Hp}(hro:ro≤H.length)(n:Int):callB cx D ro 122 [iv n] H=some (.fn 158 [.ptr H.length 0 0],H++[.cells 1 3 [iv n]]):=by
 obtain⟨m,hm⟩:∃m,H.length=m:=⟨_,rfl⟩
 have c1:∀j,ro≤m+j:=fun j=>by omega
 rw[hm]at hro ⊢
 rw[c122]
 simp -implicitDefEqProofs (maxDischargeDepth:=4) only[go_sem,hm,hro,c1]
structure DualOk(ns:List Nd)(v:AV)(n1 n2:List Nd):Prop where
 sl:Sl 6 v ((n1++n2).map nodeV)
 l1:n1.length=ns.length
 l2:n2.length=ns.length
 h1:∀(j:Nat)(x y:Nd),ns[j]?=some x→n1[j]?=some y→half [0,1,2,3,4,5] 0 x y
 h2:∀(j:Nat)(x y:Nd),ns[j]?=some x→n2[j]?=some y→half [0,2,1,4,3,5] ns.length x y
theorem table_call{ns:List Nd}{a:AV}(hns:NsOk ns a)(h0:(chk ns).2=0):∃v H' n1 n2,callB cx D 0 54 [a] []=some (v,H')∧DualOk ns v n1 n2:=by
 have h48:=chk_ok hns
 unfold errV at h48
 have ea:elP false 1 a 0=some a:=elP_Sl hns.sl
 have hg:=chk_good h0
 rw[h0]at h48
 have hk:∀x∈ns,(0≤x.kind∧x.kind≤5)∧x.es.length≤8:=fun x hx=>⟨shp_kind (hg.sh x hx),shp_len (hg.sh x hx)⟩
 have hmk:=halves_mk (ro:=0) (H:=[.cells 1 56 [a],.cells 1 56 [.lit (.slice none 0 0)]]) (Nat.zero_le _) ns.length
 obtain⟨fr0,e0,k1⟩:∃fr0:PT,ex cx D 0 54 46 (.region 0 g54_0 false) (PT.nil.set 0 (drp a)) []=some (.normal,fr0,[.cells 1 56 [a]])∧fr0.get 1=.ptr 0 0 0:=by
  simp -implicitDefEqProofs (maxDischargeDepth:=4) only[go_sem,hns.sl.shr,hns.sl.notOwn,hns.sl.drp,hns.sl.fitA,Nat.zero_le,Nat.le_refl]
  exact⟨_,rfl,by simp only[go_sem]⟩
 obtain⟨fr1,e1,j1⟩:∃fr1:PT,ex cx D 0 54 46 (.seq (.region 1 g54_1 false) (.seq (.region 2 g54_2 false) (.cond (.tmp 17) (.seq (.region 3 g54_3 false) .ret) .skip))) fr0 [.cells 1 56 [a]]=some (.normal,fr1,[.cells 1 56 [a]])∧fr1.get 1=.ptr 0 0 0:=by
  simp -implicitDefEqProofs (maxDischargeDepth:=4) only[go_sem,k1,hns.sl.shr,hns.sl.notOwn,hns.sl.drp,hns.sl.shut1,ea,h48]
  exact⟨_,rfl,by simp only[go_sem,k1]⟩
 obtain⟨fr2,e2,f1,f5,f20⟩:∃fr2:PT,ex cx D 0 54 46 (.seq (.region 4 g54_4 false) (.region 5 g54_5 false)) fr1 [.cells 1 56 [a]]=some (.normal,fr2,[.cells 1 56 [a],.cells 1 56 [.lit (.slice none 0 0)],.cells 1 3 [iv ns.length]])∧fr2.get 1=.ptr 0 0 0∧fr2.get 5=.ptr 1 0 0∧fr2.get 20=.fn 158 [.ptr 2 0 0]:=by
  simp -implicitDefEqProofs (maxDischargeDepth:=4) only[go_sem,j1,hns.sl.shr,hns.sl.notOwn,hns.sl.drp,alen_sl hns.sl,List.length_map,ea,hmk,Nat.zero_le,Nat.le_refl]
  exact⟨_,rfl,by simp only[go_sem,j1],by simp only[go_sem],by simp only[go_sem]⟩
 obtain⟨G',n1,n2,v',q1,ql,B,hv,l1,l2,hh1,hh2⟩:=halves_call hns hk hg.le (G:=[.cells 1 56 [a],.cells 1 56 [.lit (.slice none 0 0)],.cells 1 3 [iv ns.length],.loop (lp54 (fr2.map drp) .ready)]) rfl
  ⟨rfl,rfl,rfl,_,rfl,by rw[get_mapdrp,f1];rfl,by rw[get_mapdrp,f5];rfl⟩
 have q1':D.call 0 158 [.yld 3,.ptr 2 0 0] [.cells 1 56 [a],.cells 1 56 [.lit (.slice none 0 0)],.cells 1 3 [iv ns.length],.loop (lp54 (fr2.map drp) .ready)]=some (.tup [],G'):=by rw[den_call_eq];exact q1
 obtain⟨rfr,hl3,_,_,_⟩:=B.st .ready
 have q3:ex cx D 0 54 46 (.block 0 (.rangeFunc (.tmp 20) #[21,22] q54_1 r54_1)) fr2 [.cells 1 56 [a],.cells 1 56 [.lit (.slice none 0 0)],.cells 1 3 [iv ns.length]]=some (.normal,fr2,G'.set 3 (.loop { lp54 rfr .ready with state:=.exhausted })):=by
  have:ex cx D 0 54 46 (.rangeFunc (.tmp 20) #[21,22] q54_1 r54_1) fr2 [.cells 1 56 [a],.cells 1 56 [.lit (.slice none 0 0)],.cells 1 3 [iv ns.length]]=endLoop 3 fr2 (some (.tup [],G')):=by
   rw[x_range,ev_tmp,f20,shr_fn,ranged_fn,←q1'];rfl
  rw[x_block,this,endLoop_eq hl3 (show LS.ready≠LS.busy by decide)];rfl
 have b1:(G'.set 3 (.loop { lp54 rfr .ready with state:=.exhausted }))[1]?=some (.cells 1 56 [v']):=by rw[hp_ne (by decide),B.b1]
 obtain⟨_,_,p4,p5⟩:=x_split e2
 obtain⟨G4,hG4⟩:∃G4,G'.set 3 (.loop { lp54 rfr .ready with state:=.exhausted })=G4:=⟨_,rfl⟩
 rw[hG4]at q3 b1
 have run:callB cx D 0 54 [a] []=some (shr v',G4):=by
  rw[c54,x_cont1 e0,x_cont1 e1,x_cont1 p4,x_assoc,x_cont1 p5,x_cont1 q3]
  rcases hv with rfl | ⟨rfl,_⟩<;>simp only[go_sem,f5,b1]
 exact⟨shr v',G4,n1,n2,run,hv.sl,l1,l2,hh1,hh2⟩
theorem table_ok{ns:List Nd}{a:AV}(hns:NsOk ns a)(h0:(chk ns).2=0):∃v n1 n2,pcall D 54 [a]=some v∧DualOk ns v n1 n2:=by
 obtain⟨v,H',n1,n2,h1,h2⟩:=table_call hns h0
 refine⟨v,n1,n2,?_,h2⟩
 rw[pcall_eq (v:=v) (H':=H') (by rw[List.map_cons,List.map_nil,hns.sl.cl2];exact h1),Sl.frz_id' h2.sl]
theorem DualOk.nsOk{ns n1 n2:List Nd}{v:AV}(h:DualOk ns v n1 n2)(hl:ns.length≤64):NsOk (n1++n2) v:=by
 refine⟨h.sl,fun y hy=>?_,?_⟩
 ·rw[List.mem_append]at hy
  rcases hy with hy | hy
  ·obtain⟨j,hj⟩:=List.getElem?_of_mem hy
   have hlt:=(List.getElem?_eq_some_iff.1 hj).1
   obtain⟨x,hx⟩:=ex_nd (ns:=ns) (i:=j) (by rw[←h.l1];exact hlt)
   exact(h.h1 j x y hx hj).2.2.2.2.2.2
  ·obtain⟨j,hj⟩:=List.getElem?_of_mem hy
   have hlt:=(List.getElem?_eq_some_iff.1 hj).1
   obtain⟨x,hx⟩:=ex_nd (ns:=ns) (i:=j) (by rw[←h.l2];exact hlt)
   exact(h.h2 j x y hx hj).2.2.2.2.2.2
 ·rw[List.length_append,h.l1,h.l2]
  have:ns.length+ns.length≤128:=by omega
  exact Nat.lt_of_le_of_lt this (by decide)
abbrev ks1:List Int:=[0,1,2,3,4,5]
abbrev ks2:List Int:=[0,2,1,4,3,5]
theorem k6{k:Int}(h:0≤k∧k≤5):k=0∨k=1∨k=2∨k=3∨k=4∨k=5:=by omega
theorem ks1_at{k:Int}(h:0≤k∧k≤5):ks1[k.toNat]?=some k:=by
 rcases k6 h with rfl | rfl | rfl | rfl | rfl | rfl<;>rfl
theorem ks2_at{k:Int}(h:0≤k∧k≤5):ks2[k.toNat]?=some (dk k):=by
 rcases k6 h with rfl | rfl | rfl | rfl | rfl | rfl<;>rfl
theorem mv_zero{n:Int}(hn:n≤64){x:Nd}(h:opn n x=false):x.es.map (mv 0)=x.es:=by
 have:∀e∈x.es,mv 0 e=e:=fun e he=>by
  unfold opn at h
  rw[Bool.or_eq_false_iff,List.any_eq_false]at h
  have h1:=h.1 e he
  simp only[outE,Bool.or_eq_true,decide_eq_true_eq,not_or]at h1
  unfold mv
  rw[Int.add_zero,wrapK_i64 (by omega) (by omega)]
 rw[List.map_congr_left this,List.map_id'']
 exact fun _=>rfl
theorem lp1{m i:Nat}(h:m-i=0)(hi:i≤m):¬((i:Int)<(m:Int)):=by omega
theorem lp2{m i d:Nat}(h:m-i=d+1):((i:Int)<(m:Int)):=by omega
theorem lp3{m i d:Nat}(h:m-i=d+1):i<m:=by omega
theorem lp5{m i d:Nat}(h:m-i=d+1)(hm:m≤64):i≤1000:=by omega
theorem wrap_small{n:Int}(h1:-1000000≤n)(h2:n≤1000000):wrapK .i64 n=n:=wrapK_i64 (by omega) (by omega)
theorem wlk_cases{ns:List Nd}:∀(k:Nat)(n o:Int),wlk ns k n o=(-1,0)∨∃(m:Nat)(x:Nd)(o':Int),wlk ns k n o=((m:Int),o')∧ns[m]?=some x∧atN ns m=some x∧x.kind≠5
 | 0,n,o=>.inl rfl
 | k+1,n,o=>by
  rcases atN_cases (ns:=ns) n with⟨ha,_⟩ | ⟨m,x,rfl,hm,hx,ha⟩
  ·exact .inl (wlk_out ha)
  ·by_cases h5:x.kind=5
   ·by_cases h1:x.es.length=1
    ·obtain⟨e,he⟩:=List.length_eq_one_iff.1 h1
     rw[wlk_one ha h5 he]
     exact wlk_cases k _ _
    ·exact .inl (wlk_bad ha h5 h1)
   ·exact .inr ⟨m,x,o,wlk_ne ha h5,hx,ha,h5⟩
theorem wlk_mono{ns:List Nd}:∀ {k:Nat} {n o m o':Int},wlk ns k n o=(m,o')→0≤m→wlk ns (k+1) n o=(m,o')
 | 0,n,o,m,o',h,hm=>by simp only[wlk,Prod.mk.injEq]at h;omega
 | k+1,n,o,m,o',h,hm=>by
  rcases atN_cases (ns:=ns) n with⟨ha,_⟩ | ⟨q,x,rfl,hq,hx,ha⟩
  ·rw[wlk_out ha]at h ⊢;exact h
  ·by_cases h5:x.kind=5
   ·by_cases h1:x.es.length=1
    ·obtain⟨e,he⟩:=List.length_eq_one_iff.1 h1
     rw[wlk_one ha h5 he]at h ⊢
     exact wlk_mono h hm
    ·rw[wlk_bad ha h5 h1]at h ⊢;exact h
   ·rw[wlk_ne ha h5]at h ⊢;exact h
def Small(ns:List Nd):Prop:=∀x∈ns,∀e∈x.es,0≤e.2∧e.2≤1000
theorem chkA_none{N:Int}:∀ {l:List Nd} {i:Nat},(∀x∈l,shp x=true∧opn N x=false)→chkA N i l=none
 | [],_,_=>rfl
 | x::xs,i,h=>by
  obtain⟨h1,h2⟩:=h x (by simp)
  simp only[chkA,h1,h2,Bool.true_eq_false,Bool.false_eq_true,if_false]
  exact chkA_none fun y hy=>h y (List.mem_cons_of_mem _ hy)
theorem chkB_spec{ns:List Nd}:∀(k i:Nat),(chkB ns k i=(-1,0)∧∀j:Nat,i≤j→j<i+k→bad ns j=false)∨∃w:Nat,chkB ns k i=((w:Int),9)∧i≤w∧w<i+k∧bad ns w=true∧∀j:Nat,i≤j→j<w→bad ns j=false
 | 0,i=>.inl ⟨rfl,fun j h1 h2=>by omega⟩
 | k+1,i=>by
  simp only[chkB]
  cases hb:bad ns i with
  | true=>exact .inr ⟨i,by simp,by omega,by omega,hb,fun j h1 h2=>by omega⟩
  | false =>
   simp only[Bool.false_eq_true,if_false]
   rcases chkB_spec k (i+1) with⟨h1,h2⟩ | ⟨w,h1,h2,h3,h4,h5⟩
   ·refine .inl ⟨h1,fun j a b=>?_⟩
    by_cases hj:j=i
    ·subst hj;exact hb
    ·exact h2 j (by omega) (by omega)
   ·refine .inr ⟨w,h1,by omega,by omega,h4,fun j a b=>?_⟩
    by_cases hj:j=i
    ·subst hj;exact hb
    ·exact h5 j (by omega) (by omega)
theorem shp_alias{x:Nd}(h:shp x=true)(h5:x.kind=5):x.es.length=1:=by
 unfold shp at h
 rw[h5]at h
 simp only[Bool.and_eq_true,Bool.not_eq_true',Bool.or_eq_false_iff,decide_eq_false_iff_not]at h
 have:frm 5=(1,1,false,true):=by decide
 rw[this]at h
 dsimp only at h
 omega
theorem wlk_fst{ns:List Nd}:∀(k:Nat)(n o p:Int),(wlk ns k n o).1=(wlk ns k n p).1
 | 0,n,o,p=>rfl
 | k+1,n,o,p=>by
  rcases atN_cases (ns:=ns) n with⟨ha,_⟩ | ⟨q,x,rfl,hq,hx,ha⟩
  ·rw[wlk_out ha,wlk_out ha]
  ·by_cases h5:x.kind=5
   ·by_cases h1:x.es.length=1
    ·obtain⟨e,he⟩:=List.length_eq_one_iff.1 h1
     rw[wlk_one ha h5 he,wlk_one ha h5 he]
     exact wlk_fst k _ _ _
    ·rw[wlk_bad ha h5 h1,wlk_bad ha h5 h1]
   ·rw[wlk_ne ha h5,wlk_ne ha h5]
def actK(k:Int):Bool:=decide (1≤k)&&decide (k≤4)
def actN(ns:List Nd)(i:Int):Bool:=match atN ns i with
 | some x=>actK x.kind
 | none=>false
theorem NsOk.at2{ns:List Nd}{a:AV}(h:NsOk ns a){m:Nat}{x:Nd}(hx:ns[m]?=some x):aindexAddr cx.T 212 a (iv m)=some (.vp (nodeV x) 0):=by
 have hm:=(List.getElem?_eq_some_iff.1 hx).1
 rw[aindexAddr_sl h.sl sl212 (by rw[List.length_map];exact hm) rfl]
 simp[List.getD_eq_getElem?_getD,hx]
theorem alen212{ns:List Nd}{a:AV}(h:NsOk ns a){H:Hp}:alen cx.T 212 H a=some (iv ns.length):=by
 rw[alen_sl h.sl (by rw[sl212];rfl),List.length_map]
theorem acts_call{ns:List Nd}{a:AV}(hns:NsOk ns a)(i:Int):callB cx D 0 125 [a,iv i] []=some (bv (actN ns i),[]):=by
 have hL:=fun H=>alen212 hns (H:=H)
 rw[c125]
 rcases atN_cases (ns:=ns) i with⟨ha,hor⟩ | ⟨m,x,rfl,hm,hx,ha⟩
 ·have hr:actN ns i=false:=by unfold actN;rw[ha]
  rw[hr]
  by_cases h0:0≤i
  ·have h1:¬i<(ns.length:Int):=by omega
   simp -implicitDefEqProofs (maxDischargeDepth:=4) only[go_sem,hns.sl.shr,hns.sl.notOwn,hns.sl.drp,hL,h0,h1]
  ·simp -implicitDefEqProofs (maxDischargeDepth:=4) only[go_sem,hns.sl.shr,hns.sl.notOwn,hns.sl.drp,hL,h0]
 ·have hr:actN ns m=actK x.kind:=by unfold actN;rw[ha]
  have h0:(0:Int)≤(m:Int):=Int.natCast_nonneg m
  have h1:(m:Int)<(ns.length:Int):=Int.ofNat_lt.2 hm
  have hat:=hns.at2 hx
  have hs:Sl 2 x.nx (x.es.map ed):=hns.ok x (List.mem_of_getElem? hx)
  rw[hr]
  unfold actK
  by_cases h2:1≤x.kind
  ·simp -implicitDefEqProofs (maxDischargeDepth:=4) only[go_sem,hns.sl.shr,hns.sl.notOwn,hns.sl.drp,hL,h0,h1,hat,hs.shr,h2]
  ·simp -implicitDefEqProofs (maxDischargeDepth:=4) only[go_sem,hns.sl.shr,hns.sl.notOwn,hns.sl.drp,hL,h0,h1,hat,hs.shr,h2]
theorem acts_ok{ns:List Nd}{a:AV}(hns:NsOk ns a)(i:Int):pcall D 125 [a,iv i]=some (bv (actN ns i)):=by
 exact pcall_eq (v:=bv (actN ns i)) (H':=[]) (by rw[List.map_cons,List.map_cons,List.map_nil,hns.sl.cl2];exact acts_call hns i)
def rise1(ns:List Nd)(px:Int)(e:Int×Int):Option (Int×Int) :=
 match atN ns (wlk ns ns.length e.1 e.2).1 with
 | some y=>if actK y.kind=true then some ((wlk ns ns.length e.1 e.2).1,wrapK .i64 (wrapK .i64 (y.prio+(wlk ns ns.length e.1 e.2).2)-px)) else none
 | none=>none
def rises(ns:List Nd)(px:Int)(es:List (Int×Int)):List (Int×Int):=es.filterMap (rise1 ns px)
theorem edges_mk{ro:Nat}{a b:AV}{ns:List Nd}(hns:NsOk ns a){es:List (Int×Int)}(hb:Sl 2 b (es.map ed)){H:Hp}(hro:ro≤H.length)(i:Int):
  callB cx D ro 127 [a,iv i,b] H=some (.fn 160 [.ptr (H.length+2) 0 0,.ptr H.length 0 0,.ptr (H.length+1) 0 0],H++[.cells 1 212 [a],.cells 1 3 [iv i],.cells 1 64 [b]]):=by
 obtain⟨m,hm⟩:∃m,H.length=m:=⟨_,rfl⟩
 have c1:∀j,ro≤m+j:=fun j=>by omega
 rw[hm]at hro ⊢
 rw[c127]
 simp -implicitDefEqProofs (maxDischargeDepth:=4) only[go_sem,hm,hro,c1,hns.sl.shr,hns.sl.notOwn,hns.sl.drp,hns.sl.fitA,hb.shr,hb.notOwn,hb.drp,hb.fitA]
@[go_sem] theorem rdOf_tup{l:List AV}:rdOf (.tup l)=.no:=nr rfl
structure ERnd(m l b1 b2 b3:Nat)(P:Int×Int→Prop)(stop:Int×Int→Bool)(J:List (Int×Int)→Hp→Prop)(Q:Int×Int→Hp→Prop):Prop where
 grow:∀ {c G L},J c G→J c (G++L)
 trim:∀ {c G},J c G→m≤G.length→J c ((G.take m).map (killB m))
 yes:∀ {c G x},J c G→m≤G.length→P x→stop x=false→∃G',round D 0 l [iv x.1,iv x.2] G=some (bv true,G')∧J (c++[x]) G'∧G.length≤G'.length∧∀j,(j=b1∨j=b2∨j=b3)→G'[j]?=G[j]?
 no:∀ {c G x},J c G→m≤G.length→P x→stop x=true→∃G',round D 0 l [iv x.1,iv x.2] G=some (bv false,G')∧Q x G'
structure EdFr(fr:PT)(l b1 b2 b3:Nat)(b:AV)(len i:Nat):Prop where
 f0:fr.get 0=.yld l
 f1:fr.get 1=.ptr b1 0 0
 f2:fr.get 2=.ptr b2 0 0
 f3:fr.get 3=.ptr b3 0 0
 f8:fr.get 8=b
 f9:fr.get 9=iv len
 f10:fr.get 10=iv i
theorem EdFr.of{fr fr':PT}{l b1 b2 b3:Nat}{b:AV}{len i:Nat}(F:EdFr fr l b1 b2 b3 b len i)(h:∀t,(t=0∨t=1∨t=2∨t=3∨t=8∨t=9∨t=10)→fr'.get t=fr.get t):EdFr fr' l b1 b2 b3 b len i :=
 ⟨by rw[h 0 (by simp),F.f0],by rw[h 1 (by simp),F.f1],by rw[h 2 (by simp),F.f2],by rw[h 3 (by simp),F.f3],by rw[h 8 (by simp),F.f8],by rw[h 9 (by simp),F.f9],by rw[h 10 (by simp),F.f10]⟩
structure EdAt(G:Hp)(b1 b2 b3:Nat)(a b:AV)(node:Int):Prop where
 g1:G[b1]?=some (.cells 1 64 [b])
 g2:G[b2]?=some (.cells 1 212 [a])
 g3:G[b3]?=some (.cells 1 3 [iv node])
theorem e_edge{ns:List Nd}{a b:AV}(hns:NsOk ns a){es:List (Int×Int)}(hb:Sl 2 b (es.map ed)){l b1 b2 b3 i m:Nat}{node:Int}{G:Hp}(hG:G.length=m)(A:EdAt G b1 b2 b3 a b node){fr:PT}(F:EdFr fr l b1 b2 b3 b es.length i)(hi:i<es.length){t:Int×Int}(ht:wlk ns ns.length (es.getD i (0,0)).1 (es.getD i (0,0)).2=t):
  ∃fr':PT,ex cx D 0 160 48 (.seq (.region 2 g160_2 false) (.region 3 g160_3 false)) fr G=some (.normal,fr',G++[.cells 2 63 [ed (es.getD i (0,0))],.cells 2 61 [tyV t]])∧EdFr fr' l b1 b2 b3 b es.length i∧fr'.get 7=.ptr (m+1) 0 0:=by
 have e1:=at_ed hb hi
 have r1:=res51_ok hns (es.getD i (0,0)).1 (es.getD i (0,0)).2
 rw[ht]at r1
 generalize es.getD i (0,0)=e0 at *
 have ea:elP false 1 a 0=some a:=elP_Sl hns.sl
 have q2:∀L,(G++L)[b2]?=some (.cells 1 212 [a]):=fun L=>by rw[hp_get_l (lt_of_get A.g2),A.g2]
 simp -implicitDefEqProofs (maxDischargeDepth:=4) only[go_sem,F.f2,F.f8,F.f10,hG,hb.shr,hb.notOwn,e1,ea,q2,hns.sl.shr,hns.sl.notOwn,hns.sl.shut1,build61,r1,Nat.not_lt_zero,Nat.zero_le]
 refine⟨_,rfl,F.of fun t ht=>?_,by simp only[go_sem]⟩
 rcases ht with rfl | rfl | rfl | rfl | rfl | rfl | rfl<;>simp only[go_sem]
theorem e_stay{ns:List Nd}{a b:AV}(hns:NsOk ns a){l b1 b2 b3 i m n:Nat}{node:Int}{G:Hp}(A:EdAt G b1 b2 b3 a b node){t:Int×Int}(h7:G[m]?=some (.cells 2 61 [tyV t]))(ht:actN ns t.1=false){fr:PT}(F:EdFr fr l b1 b2 b3 b n i)(f7:fr.get 7=.ptr m 0 0):
  ∃fr':PT,ex cx D 0 160 48 (.seq (.region 4 g160_4 true) (.cond (.tmp 46) .ret .skip)) fr G=some (.normal,fr',G)∧EdFr fr' l b1 b2 b3 b n i:=by
 have r1:=acts_ok hns t.1
 rw[ht]at r1
 have ea:elP false 1 a 0=some a:=elP_Sl hns.sl
 simp -implicitDefEqProofs (maxDischargeDepth:=4) only[go_sem,F.f0,F.f2,F.f3,f7,A.g2,A.g3,h7,ea,hns.sl.shr,hns.sl.notOwn,hns.sl.shut1,r1,Nat.not_lt_zero,Nat.zero_le]
 refine⟨_,rfl,F.of fun t ht=>?_⟩
 rcases ht with rfl | rfl | rfl | rfl | rfl | rfl | rfl<;>simp only[go_sem]
theorem e_yield{ns:List Nd}{a b:AV}(hns:NsOk ns a){l b1 b2 b3 i m n nd q:Nat}{o r:Int}{G G':Hp}(A:EdAt G b1 b2 b3 a b nd)(h7:G[m]?=some (.cells 2 61 [tyV ((q:Int),o)])){x y:Nd}(hx:ns[nd]?=some x)(hy:ns[q]?=some y)(hk:actK y.kind=true)
  (hr:wrapK .i64 (wrapK .i64 (y.prio+o)-x.prio)=r) {ans:Bool} (hq:round D 0 l [iv (q:Int),iv r] G=some (bv ans,G')) {fr:PT} (F:EdFr fr l b1 b2 b3 b n i) (f7:fr.get 7=.ptr m 0 0):
  ∃fr':PT,ex cx D 0 160 48 (.seq (.region 4 g160_4 true) (.cond (.tmp 46) .ret .skip)) fr G=some (if ans=true then .normal else .ret,fr',G')∧EdFr fr' l b1 b2 b3 b n i:=by
 have r1:=acts_ok hns q
 have h1:actN ns q=true:=by unfold actN;rw[show atN ns (q:Int)=some y by unfold atN;rw[if_neg (by omega),Int.toNat_natCast,hy]];exact hk
 rw[h1]at r1
 have ea:elP false 1 a 0=some a:=elP_Sl hns.sl
 have t1:=hns.at2 hx
 have t2:=hns.at2 hy
 have sx:Sl 2 x.nx (x.es.map ed):=hns.ok x (List.mem_of_getElem? hx)
 have sy:Sl 2 y.nx (y.es.map ed):=hns.ok y (List.mem_of_getElem? hy)
 cases ans with
 | false =>
  simp -implicitDefEqProofs (maxDischargeDepth:=4) only[go_sem,F.f0,F.f2,F.f3,f7,A.g2,A.g3,h7,ea,hns.sl.shr,hns.sl.notOwn,hns.sl.shut1,r1,t1,t2,sx.shr,sy.shr,hr,hq,Nat.not_lt_zero,Nat.zero_le]
  refine⟨_,rfl,F.of fun t ht=>?_⟩
  rcases ht with rfl | rfl | rfl | rfl | rfl | rfl | rfl<;>simp only[go_sem]
 | true =>
  simp -implicitDefEqProofs (maxDischargeDepth:=4) only[go_sem,F.f0,F.f2,F.f3,f7,A.g2,A.g3,h7,ea,hns.sl.shr,hns.sl.notOwn,hns.sl.shut1,r1,t1,t2,sx.shr,sy.shr,hr,hq,Nat.not_lt_zero,Nat.zero_le]
  refine⟨_,rfl,F.of fun t ht=>?_⟩
  rcases ht with rfl | rfl | rfl | rfl | rfl | rfl | rfl<;>simp only[go_sem]
def ERes(stop:Int×Int→Bool)(J:List (Int×Int)→Hp→Prop)(Q:Int×Int→Hp→Prop)(c xs:List (Int×Int))(e:Ex)(G:Hp):Prop :=
 match xs.find? stop with
 | some x=>e=.ret∧Q x G
 | none=>e=.exit 0∧J (c++xs) G
theorem rises_cons{ns:List Nd}{px:Int}{e:Int×Int}{es:List (Int×Int)}:rises ns px (e::es)=match rise1 ns px e with
 | none=>rises ns px es
 | some x=>x::rises ns px es:=by
 unfold rises
 rw[List.filterMap_cons]
 cases rise1 ns px e<;>rfl
theorem rise1_none{ns:List Nd}{px:Int}{e:Int×Int}(h:rise1 ns px e=none):actN ns (wlk ns ns.length e.1 e.2).1=false:=by
 unfold rise1 at h
 unfold actN
 cases ha:atN ns (wlk ns ns.length e.1 e.2).1 with
 | none=>rfl
 | some y =>
  rw[ha]at h
  simp only at h
  cases hk:actK y.kind with
  | false=>exact hk
  | true=>rw[hk,if_pos rfl]at h;cases h
theorem rise1_some{ns:List Nd}{px:Int}{e x:Int×Int}(h:rise1 ns px e=some x):∃(q:Nat)(y:Nd)(o:Int),wlk ns ns.length e.1 e.2=((q:Int),o)∧ns[q]?=some y∧actK y.kind=true∧x=((q:Int),wrapK .i64 (wrapK .i64 (y.prio+o)-px)):=by
 unfold rise1 at h
 rcases atN_cases (ns:=ns) (wlk ns ns.length e.1 e.2).1 with⟨ha,_⟩ | ⟨q,y,hq,hl,hy,ha⟩
 ·rw[ha]at h;cases h
 ·rw[ha]at h
  simp only at h
  split at h
  ·rename_i hk
   refine⟨q,y,(wlk ns ns.length e.1 e.2).2,by rw[←hq],hy,hk,?_⟩
   rw[←Option.some.inj h,←hq]
  ·cases h
theorem oedges_loop{ns:List Nd}{a b:AV}(hns:NsOk ns a){es:List (Int×Int)}(hb:Sl 2 b (es.map ed))(hl:es.length≤1000){m l b1 b2 b3 nd:Nat}{x0:Nd}(hx0:ns[nd]?=some x0)
  {P:Int×Int→Prop} {stop:Int×Int→Bool} {J:List (Int×Int)→Hp→Prop} {Q:Int×Int→Hp→Prop} (R:ERnd m l b1 b2 b3 P stop J Q) (h1m:b1<m) (h2m:b2<m) (h3m:b3<m) (hlm:l<m):
  ∀(d i:Nat)(fr:PT)(G:Hp)(c:List (Int×Int)),es.length-i=d→i≤es.length→G.length=m→J c G→EdAt G b1 b2 b3 a b nd→EdFr fr l b1 b2 b3 b es.length i→(∀x∈rises ns x0.prio (es.drop i),P x)→
  ∃e fr' G',D.loop 0 160 48 l160_0 fr G=some (e,fr',G')∧ERes stop J Q c (rises ns x0.prio (es.drop i)) e G'
 | 0,i,fr,G,c,hd,hi,hG,hJ,A,F,hP=>by
  have hlt:=lp1 hd hi
  rw[dl160_0]
  simp -implicitDefEqProofs (maxDischargeDepth:=4) only[go_sem,F.f9,F.f10,hlt]
  refine⟨_,_,_,rfl,?_⟩
  rw[List.drop_eq_nil_of_le (by omega)]
  exact⟨rfl,by rw[show rises ns x0.prio []=[] from rfl,List.append_nil];exact hJ⟩
 | d+1,i,fr,G,c,hd,hi,hG,hJ,A,F,hP=>by
  have hlt:=lp2 hd
  have hil:=lp3 hd
  have w3:=wrap_succ (show i≤1000 by have:=lp3 hd;omega)
  obtain⟨fr1,e1,F1⟩:∃fr1:PT,ex cx D 0 160 48 (.region 1 g160_1 false) fr G=some (.normal,fr1,G)∧EdFr fr1 l b1 b2 b3 b es.length i∧fr1.get 11=bv true:=by
   simp -implicitDefEqProofs (maxDischargeDepth:=4) only[go_sem,F.f9,F.f10,hlt]
   refine⟨_,rfl,F.of fun t ht=>?_,by simp only[go_sem]⟩
   rcases ht with rfl | rfl | rfl | rfl | rfl | rfl | rfl<;>simp only[go_sem]
  obtain⟨F1,k11⟩:=F1
  obtain⟨t,ht⟩:∃t,wlk ns ns.length (es.getD i (0,0)).1 (es.getD i (0,0)).2=t:=⟨_,rfl⟩
  obtain⟨fr2,e2,F2,f7⟩:=e_edge hns hb hG A F1 hil ht
  have hGl:∀j,j<m→(G++[ABlock.cells 2 63 [ed (es.getD i (0,0))],.cells 2 61 [tyV t]])[j]?=G[j]?:=fun j hj=>hp_get_l (by omega)
  have A2:EdAt (G++[ABlock.cells 2 63 [ed (es.getD i (0,0))],.cells 2 61 [tyV t]]) b1 b2 b3 a b nd:=⟨by rw[hGl _ h1m,A.g1],by rw[hGl _ h2m,A.g2],by rw[hGl _ h3m,A.g3]⟩
  have h7:(G++[ABlock.cells 2 63 [ed (es.getD i (0,0))],.cells 2 61 [tyV t]])[m+1]?=some (.cells 2 61 [tyV t]):=by rw[hp_get_r hG];rfl
  have J2:=R.grow (L:=[ABlock.cells 2 63 [ed (es.getD i (0,0))],.cells 2 61 [tyV t]]) hJ
  have hGm:m≤(G++[ABlock.cells 2 63 [ed (es.getD i (0,0))],.cells 2 61 [tyV t]]).length:=by rw[List.length_append,hG];exact Nat.le_add_right _ _
  generalize G++[ABlock.cells 2 63 [ed (es.getD i (0,0))],.cells 2 61 [tyV t]]=G2 at *
  have hcond:∀Z,ex cx D 0 160 48 (.seq (.cond (.tmp 11) .skip (.exit 0)) Z) fr1 G=ex cx D 0 160 48 Z fr1 G:=fun Z=>by
   rw[x_cont1 (fr':=fr1) (H':=G)]
   simp -implicitDefEqProofs (maxDischargeDepth:=4) only[go_sem,k11]
  have next:∀(fr3:PT)(G3:Hp)(c':List (Int×Int)),EdFr fr3 l b1 b2 b3 b es.length i→EdAt G3 b1 b2 b3 a b nd→J c' G3→m≤G3.length→(∀x∈rises ns x0.prio (es.drop (i+1)),P x)→
    ∃e fr' G',xbind (ex cx D 0 160 48 (.region 5 g160_5 false) fr3 G3) (contR (trimmed (D.loop 0 160 48 l160_0) m))=some (e,fr',G')∧ERes stop J Q c' (rises ns x0.prio (es.drop (i+1))) e G':=fun fr3 G3 c' F3 A3 J3 hm3 hP3=>by
   obtain⟨fr4,e4,F4⟩:∃fr4:PT,ex cx D 0 160 48 (.region 5 g160_5 false) fr3 G3=some (.normal,fr4,G3)∧EdFr fr4 l b1 b2 b3 b es.length (i+1):=by
    simp -implicitDefEqProofs (maxDischargeDepth:=4) only[go_sem,F3.f10,w3]
    exact⟨_,rfl,by simp only[go_sem,F3.f0],by simp only[go_sem,F3.f1],by simp only[go_sem,F3.f2],by simp only[go_sem,F3.f3],by simp only[go_sem,F3.f8],by simp only[go_sem,F3.f9],by simp only[go_sem]⟩
   rw[e4,xbind_some,contR_normal]
   refine trim_I (P:=fun z=>∃e fr' G',z=some (e,fr',G')∧ERes stop J Q c' (rises ns x0.prio (es.drop (i+1))) e G') (I:=J c') R.trim J3 [0,1,2,3,8,9,10] hm3 (fun t ht=>?_) fun fr' G' hG' hJ' hf hk'=>?_
   ·simp only[List.mem_cons,List.not_mem_nil,or_false]at ht
    rcases ht with rfl | rfl | rfl | rfl | rfl | rfl | rfl
    ·rw[F4.f0,kill_yld hlm]
    ·rw[F4.f1,kill_ptr h1m]
    ·rw[F4.f2,kill_ptr h2m]
    ·rw[F4.f3,kill_ptr h3m]
    ·rw[F4.f8,kill_Sl hb]
    ·rw[F4.f9];rfl
    ·rw[F4.f10];rfl
   ·have k1:killB m (.cells 1 64 [b])=.cells 1 64 [b]:=by rcases hb with rfl | rfl | ⟨rfl,_⟩<;>rfl
    have k2:killB m (.cells 1 212 [a])=.cells 1 212 [a]:=by rcases hns.sl with rfl | rfl | ⟨rfl,_⟩<;>rfl
    exact oedges_loop hns hb hl hx0 R h1m h2m h3m hlm d (i+1) fr' G' c' (nd1 hd) (nd2 hd) hG' hJ' ⟨hk' b1 _ h1m A3.g1 k1,hk' b2 _ h2m A3.g2 k2,hk' b3 _ h3m A3.g3 rfl⟩
     ⟨by rw[hf 0 (by simp),F4.f0],by rw[hf 1 (by simp),F4.f1],by rw[hf 2 (by simp),F4.f2],by rw[hf 3 (by simp),F4.f3],by rw[hf 8 (by simp),F4.f8],by rw[hf 9 (by simp),F4.f9],by rw[hf 10 (by simp),F4.f10]⟩ hP3
  rw[dl160_0,x_cont1 e1,hcond,drop_ed hil,rises_cons]
  rw[drop_ed hil,rises_cons]at hP
  cases hr:rise1 ns x0.prio (es.getD i (0,0)) with
  | none =>
   rw[hr]at hP
   have hact:=rise1_none hr
   rw[ht]at hact
   obtain⟨fr3,e3,F3⟩:=e_stay hns A2 h7 hact F2 f7
   have eb:ex cx D 0 160 48 (.block 1 (.seq (.region 2 g160_2 false) (.seq (.region 3 g160_3 false) (.seq (.region 4 g160_4 true) (.cond (.tmp 46) .ret .skip))))) fr1 G=some (.normal,fr3,G2):=by
    obtain⟨_,_,p1,p2⟩:=x_split e2
    rw[x_block,x_cont1 p1,x_cont1 p2,e3]
    rfl
   rw[x_cont1 eb,hG]
   exact next fr3 G2 c F3 A2 J2 hGm hP
  | some x =>
   rw[hr]at hP
   obtain⟨q,y,o,hw,hy,hk,rfl⟩:=rise1_some hr
   rw[ht]at hw
   subst hw
   have hPx:=hP _ (List.mem_cons_self ..)
   cases hst:stop ((q:Int),wrapK .i64 (wrapK .i64 (y.prio+o)-x0.prio)) with
   | false =>
    obtain⟨G3,hq,J3,hl3,hk3⟩:=R.yes J2 hGm hPx hst
    obtain⟨fr3,e3,F3⟩:=e_yield hns A2 h7 hx0 hy hk rfl hq F2 f7
    rw[if_pos rfl]at e3
    have eb:ex cx D 0 160 48 (.block 1 (.seq (.region 2 g160_2 false) (.seq (.region 3 g160_3 false) (.seq (.region 4 g160_4 true) (.cond (.tmp 46) .ret .skip))))) fr1 G=some (.normal,fr3,G3):=by
     obtain⟨_,_,p1,p2⟩:=x_split e2
     rw[x_block,x_cont1 p1,x_cont1 p2,e3]
     rfl
    rw[x_cont1 eb,hG]
    obtain⟨e,fr',G',r1,r2⟩:=next fr3 G3 _ F3 ⟨by rw[hk3 _ (.inl rfl),A2.g1],by rw[hk3 _ (.inr (.inl rfl)),A2.g2],by rw[hk3 _ (.inr (.inr rfl)),A2.g3]⟩ J3 (Nat.le_trans hGm hl3) (fun x hx=>hP x (List.mem_cons_of_mem _ hx))
    refine⟨e,fr',G',r1,?_⟩
    unfold ERes at r2 ⊢
    rw[List.find?_cons_of_neg (by rw[hst];decide)]
    revert r2
    cases List.find? stop (rises ns x0.prio (es.drop (i+1))) with
    | some z=>exact id
    | none=>exact fun h=>⟨h.1,by rw[List.append_cons];exact h.2⟩
   | true =>
    obtain⟨G3,hq,hQ⟩:=R.no J2 hGm hPx hst
    obtain⟨fr3,e3,F3⟩:=e_yield hns A2 h7 hx0 hy hk rfl hq F2 f7
    rw[if_neg (by decide)]at e3
    have eb:ex cx D 0 160 48 (.block 1 (.seq (.region 2 g160_2 false) (.seq (.region 3 g160_3 false) (.seq (.region 4 g160_4 true) (.cond (.tmp 46) .ret .skip))))) fr1 G=some (.ret,fr3,G3):=by
     obtain⟨_,_,p1,p2⟩:=x_split e2
     rw[x_block,x_cont1 p1,x_cont1 p2,e3]
     rfl
    refine⟨.ret,fr3,G3,?_,?_⟩
    ·rw[x_seq,eb];rfl
    ·unfold ERes
     rw[List.find?_cons_of_pos hst]
     exact⟨rfl,hQ⟩
theorem oedges_call{ns:List Nd}{a b:AV}(hns:NsOk ns a){es:List (Int×Int)}(hb:Sl 2 b (es.map ed))(hl:es.length≤1000){m l b1 b2 b3 nd:Nat}{x0:Nd}(hx0:ns[nd]?=some x0)
  {P:Int×Int→Prop} {stop:Int×Int→Bool} {J:List (Int×Int)→Hp→Prop} {Q:Int×Int→Hp→Prop} (R:ERnd m l b1 b2 b3 P stop J Q) (h1m:b1<m) (h2m:b2<m) (h3m:b3<m) (hlm:l<m)
  {G:Hp} (hG:G.length=m) {c:List (Int×Int)} (hJ:J c G) (A:EdAt G b1 b2 b3 a b nd) (hP:∀x∈rises ns x0.prio es,P x):
  ∃G' e,callB cx D 0 160 [.yld l,.ptr b1 0 0,.ptr b2 0 0,.ptr b3 0 0] G=some (.tup [],G')∧ERes stop J Q c (rises ns x0.prio es) e G':=by
 have ea:elP false 1 b 0=some b:=elP_Sl hb
 obtain⟨fr1,e1,F⟩:∃fr1,ex cx D 0 160 48 (.region 0 g160_0 false) ((((PT.nil.set 0 (drp (.yld l))).set 1 (drp (.ptr b1 0 0))).set 2 (drp (.ptr b2 0 0))).set 3 (drp (.ptr b3 0 0))) G=some (.normal,fr1,G)∧EdFr fr1 l b1 b2 b3 b es.length 0:=by
  simp -implicitDefEqProofs (maxDischargeDepth:=4) only[go_sem,A.g1,ea,hb.shr,hb.notOwn,alen_sl hb,List.length_map]
  refine⟨_,rfl,?_,?_,?_,?_,?_,?_,?_⟩<;>simp only[go_sem,Int.ofNat_zero]
 obtain⟨e,fr',G',q1,q2⟩:=oedges_loop hns hb hl hx0 R h1m h2m h3m hlm es.length 0 fr1 G c (Nat.sub_zero _) (Nat.zero_le _) hG hJ A F (by rw[List.drop_zero];exact hP)
 rw[List.drop_zero]at q2
 refine⟨G',e,?_,q2⟩
 have he:e=.ret∨e=.exit 0:=by
  unfold ERes at q2
  revert q2
  cases List.find? stop (rises ns x0.prio es) with
  | some z=>exact fun h=>.inl h.1
  | none=>exact fun h=>.inr h.1
 rw[c160,x_cont1 e1]
 rcases he with rfl | rfl<;>simp only[go_sem,x_loop,q1]
def Fresh(sz:Nat)(b:AV)(els:List AV):Prop:=b=.vec sz .exact els∨(b=.lit (.slice none 0 0)∧els=[])
theorem Fresh.sl{sz:Nat}{b:AV}{els:List AV}(h:Fresh sz b els):Sl sz b els:=by
 rcases h with h | h
 ·exact .inl h
 ·exact .inr (.inr h)
theorem full_edges{x:Nd}(hx:NdOk x):∃b,aslice cx.T 64 x.nx none (some (iv x.es.length)) (some (iv x.es.length))=some b∧Fresh 2 b (x.es.map ed):=by
 have hs:Sl 2 x.nx (x.es.map ed):=hx
 have hnat:natOf (iv (x.es.length:Nat))=some x.es.length:=by simp[natOf]
 have hT:cx.T 64=some T64:=by kernel_rfl
 have hE:cx.T 63=some T63:=by kernel_rfl
 have hd:T64.d=.slice 63:=by kernel_rfl
 have hz:T63.size=2:=by kernel_rfl
 generalize x.nx=v at *
 generalize x.es=es at *
 generalize T64=t64 at hT hd
 obtain⟨sz,by',z,ag,d,eq⟩:=t64
 cases hd
 have hlen:(es.map ed).length=es.length:=List.length_map ..
 rcases hs with rfl | rfl | ⟨rfl,he⟩
 ·refine⟨.vec 2 .exact (es.map ed),?_,.inl rfl⟩
  simp only[aslice,hT,hE,Option.map_some,hz,Option.isSome_some,true_and,implies_true,if_true,natOr,hnat,Nat.zero_le,Nat.le_refl,hlen,List.drop_zero,Nat.sub_zero,and_self]
  rw[List.take_of_length_le (by omega)]
 ·refine⟨.vec 2 .exact (es.map ed),?_,.inl rfl⟩
  simp only[aslice,hT,hE,Option.map_some,hz,Option.isSome_some,true_and,implies_true,if_true,natOr,hnat,Nat.zero_le,Nat.le_refl,hlen,List.drop_zero,Nat.sub_zero,and_self]
  rw[List.take_of_length_le (by omega)]
 ·have h0:es=[]:=by simpa using he
  subst h0
  refine⟨.lit (.slice none 0 0),?_,.inr ⟨rfl,rfl⟩⟩
  simp only[List.length_nil]at hnat
  simp only[aslice,hT,hE,natOr,List.length_nil,hnat,Option.isSome_some,true_and,implies_true,if_true,and_self]
def oE(x:Nd):List (Int×Int):=x.es++(if x.chan=true then [(x.pt,x.ps)] else [])
def lowR(r:Int×Int):Bool:=decide (r.2<1)
theorem ap_small'{n:Nat}(h:n≤8):(n+(0+1))*(16+1)≤1099511627776:=by omega
structure OFr(fr:PT)(a:AV)(n i:Nat):Prop where
 f2:fr.get 2=.ptr 0 0 0
 f3:fr.get 3=.ptr 1 0 0
 f4:fr.get 4=a
 f20:fr.get 20=a
 f21:fr.get 21=iv n
 f22:fr.get 22=iv i
theorem OFr.of{fr fr':PT}{a:AV}{n i:Nat}(F:OFr fr a n i)(h:∀t,(t=2∨t=3∨t=4∨t=20∨t=21∨t=22)→fr'.get t=fr.get t):OFr fr' a n i :=
 ⟨by rw[h 2 (by simp),F.f2],by rw[h 3 (by simp),F.f3],by rw[h 4 (by simp),F.f4],by rw[h 20 (by simp),F.f20],by rw[h 21 (by simp),F.f21],by rw[h 22 (by simp),F.f22]⟩
theorem o_own{ns:List Nd}{a:AV}(hns:NsOk ns a){i:Nat}{x:Nd}(hx:ns[i]?=some x)(hl:x.es.length≤8){C0 C1:ABlock}{fr:PT}(F:OFr fr a ns.length i)(f5:fr.get 5=.ptr 2 0 0)(f6:fr.get 6=.ptr 3 0 0):
  ∃(fr':PT)(w:AV),ex cx D 0 67 57 (.seq (.region 9 g67_9 false) (.seq (.seq (.region 10 g67_10 false) (.cond (.tmp 41) (.region 11 g67_11 false) .skip)) (.region 12 g67_12 false))) fr [C0,C1,.cells 1 3 [iv i],.cells 6 66 [nodeV x]] =
   some (.normal,fr',[C0,C1,.cells 1 3 [iv i],.cells 6 66 [nodeV x],.cells 1 212 [a],.cells 1 3 [iv i],.cells 1 64 [w]])∧Sl 2 w ((oE x).map ed)∧OFr fr' a ns.length i∧fr'.get 5=.ptr 2 0 0∧fr'.get 50=.fn 160 [.ptr 6 0 0,.ptr 4 0 0,.ptr 5 0 0]:=by
 have hs:Sl 2 x.nx (x.es.map ed):=hns.ok x (List.mem_of_getElem? hx)
 obtain⟨b,h1,hb⟩:=full_edges (hns.ok x (List.mem_of_getElem? hx))
 have hmk:∀(w:AV)(l:List (Int×Int)),Sl 2 w (l.map ed)→callB cx D 0 127 [a,iv i,w] [C0,C1,.cells 1 3 [iv i],.cells 6 66 [nodeV x]]=some (.fn 160 [.ptr 6 0 0,.ptr 4 0 0,.ptr 5 0 0],[C0,C1,.cells 1 3 [iv i],.cells 6 66 [nodeV x],.cells 1 212 [a],.cells 1 3 [iv i],.cells 1 64 [w]]) :=
  fun w l hw=>edges_mk (ro:=0) hns hw (H:=[C0,C1,.cells 1 3 [iv i],.cells 6 66 [nodeV x]]) (Nat.zero_le _) i
 have sb:=hb.sl
 cases hc:x.chan with
 | false =>
  have hE:oE x=x.es:=by unfold oE;rw[hc,if_neg (by decide),List.append_nil]
  have hm:=hmk b _ sb
  rw[hE]
  obtain⟨fr1,e1,F1,k5,k7⟩:∃fr1:PT,ex cx D 0 67 57 (.seq (.region 9 g67_9 false) (.seq (.region 10 g67_10 false) (.cond (.tmp 41) (.region 11 g67_11 false) .skip))) fr [C0,C1,.cells 1 3 [iv i],.cells 6 66 [nodeV x]]=some (.normal,fr1,[C0,C1,.cells 1 3 [iv i],.cells 6 66 [nodeV x]])∧OFr fr1 a ns.length i∧fr1.get 5=.ptr 2 0 0∧fr1.get 7=b:=by
   simp -implicitDefEqProofs (maxDischargeDepth:=4) only[go_sem,f5,f6,hs.shr,hs.notOwn,hs.drp,elP_Sl hs,alen_sl hs,List.length_map,h1,hc,sb.shr,sb.notOwn,sb.drp]
   refine⟨_,rfl,F.of fun t ht=>?_,by simp only[go_sem,f5],by simp only[go_sem]⟩
   rcases ht with rfl | rfl | rfl | rfl | rfl | rfl<;>simp only[go_sem]
  obtain⟨fr2,e2,F2,l5,l50⟩:∃fr2:PT,ex cx D 0 67 57 (.region 12 g67_12 false) fr1 [C0,C1,.cells 1 3 [iv i],.cells 6 66 [nodeV x]]=some (.normal,fr2,[C0,C1,.cells 1 3 [iv i],.cells 6 66 [nodeV x],.cells 1 212 [a],.cells 1 3 [iv i],.cells 1 64 [b]])∧OFr fr2 a ns.length i∧fr2.get 5=.ptr 2 0 0∧fr2.get 50=.fn 160 [.ptr 6 0 0,.ptr 4 0 0,.ptr 5 0 0]:=by
   simp -implicitDefEqProofs (maxDischargeDepth:=4) only[go_sem,F1.f4,k5,k7,hns.sl.shr,hns.sl.notOwn,hns.sl.drp,sb.shr,sb.notOwn,sb.drp,hm]
   refine⟨_,rfl,F1.of fun t ht=>?_,by simp only[go_sem,k5],by simp only[go_sem]⟩
   rcases ht with rfl | rfl | rfl | rfl | rfl | rfl<;>simp only[go_sem]
  obtain⟨_,_,p1,p2⟩:=x_split e1
  exact⟨fr2,b,by rw[x_cont1 p1,x_cont1 p2,e2],sb,F2,l5,l50⟩
 | true =>
  have hE:(oE x).map ed=x.es.map ed++[ed (x.pt,x.ps)]:=by unfold oE;rw[hc,if_pos rfl,List.map_append];rfl
  have hap:apV 2 16 [ed (x.pt,x.ps)] b=some (.vec 2 .own (x.es.map ed++[ed (x.pt,x.ps)])):=by
   rcases hb with rfl | ⟨rfl,he⟩
   ·exact apV_exact (by rw[List.length_map];exact ap_small' hl) (by decide)
   ·rw[he];exact apV_none (show (0+1)*(16+1)≤1099511627776 by decide) (by decide)
  have sw:Sl 2 (.vec 2 .shared (x.es.map ed++[ed (x.pt,x.ps)])) ((oE x).map ed):=.inr (.inl (by rw[hE]))
  have hm:=hmk _ _ sw
  obtain⟨fr1,e1,F1,k5,k7⟩:∃fr1:PT,ex cx D 0 67 57 (.seq (.region 9 g67_9 false) (.seq (.region 10 g67_10 false) (.cond (.tmp 41) (.region 11 g67_11 false) .skip))) fr [C0,C1,.cells 1 3 [iv i],.cells 6 66 [nodeV x]]=some (.normal,fr1,[C0,C1,.cells 1 3 [iv i],.cells 6 66 [nodeV x]])∧OFr fr1 a ns.length i∧fr1.get 5=.ptr 2 0 0∧fr1.get 7=.vec 2 .own (x.es.map ed++[ed (x.pt,x.ps)]):=by
   simp -implicitDefEqProofs (maxDischargeDepth:=4) only[go_sem,f5,f6,hs.shr,hs.notOwn,hs.drp,elP_Sl hs,alen_sl hs,List.length_map,h1,hc,sb.shr,sb.notOwn,sb.drp,hap]
   refine⟨_,rfl,F.of fun t ht=>?_,by simp only[go_sem,f5],by simp only[go_sem]⟩
   rcases ht with rfl | rfl | rfl | rfl | rfl | rfl<;>simp only[go_sem]
  obtain⟨fr2,e2,F2,l5,l50⟩:∃fr2:PT,ex cx D 0 67 57 (.region 12 g67_12 false) fr1 [C0,C1,.cells 1 3 [iv i],.cells 6 66 [nodeV x]]=some (.normal,fr2,[C0,C1,.cells 1 3 [iv i],.cells 6 66 [nodeV x],.cells 1 212 [a],.cells 1 3 [iv i],.cells 1 64 [.vec 2 .shared (x.es.map ed++[ed (x.pt,x.ps)])]])∧OFr fr2 a ns.length i∧fr2.get 5=.ptr 2 0 0∧fr2.get 50=.fn 160 [.ptr 6 0 0,.ptr 4 0 0,.ptr 5 0 0]:=by
   simp -implicitDefEqProofs (maxDischargeDepth:=4) only[go_sem,F1.f4,k5,k7,hns.sl.shr,hns.sl.notOwn,hns.sl.drp,mvV_false,hm]
   refine⟨_,rfl,F1.of fun t ht=>?_,by simp only[go_sem,k5],by simp only[go_sem]⟩
   rcases ht with rfl | rfl | rfl | rfl | rfl | rfl<;>simp only[go_sem]
  obtain⟨_,_,p1,p2⟩:=x_split e1
  exact⟨fr2,_,by rw[x_cont1 p1,x_cont1 p2,e2],sw,F2,l5,l50⟩
noncomputable def lp67(rfr:PT):ALoop:={ fn:=67,nt:=57,fr:=rfr,params:=[51,52],assign:=q67_0,body:=r67_0,state:=.ready,pending:=none }
structure J67(w e i:Int)(G:Hp):Prop where
 b0:G[0]?=some (.cells 1 3 [iv w])
 b1:G[1]?=some (.cells 1 27 [iv e])
 b2:G[2]?=some (.cells 1 3 [iv i])
 lp:∃rfr,G[7]?=some (.loop (lp67 rfr))∧rfr.get 2=.ptr 0 0 0∧rfr.get 3=.ptr 1 0 0∧rfr.get 5=.ptr 2 0 0
structure Q67(i:Int)(G:Hp):Prop where
 b0:G[0]?=some (.cells 1 3 [iv i])
 b1:G[1]?=some (.cells 1 27 [iv 10])
 lp:∃r:ALoop,G[7]?=some (.loop r)∧r.state=.done∧r.pending=some .ret
theorem rnd67(w e i:Int):ERnd 8 7 6 4 5 (fun _=>True) lowR (fun _=>J67 w e i) (fun _=>Q67 i):=by
 refine⟨?_,?_,?_,?_⟩
 ·rintro c G L ⟨h0,h1,h2,rfr,h3,h4⟩
  exact⟨by rw[hp_get_l (lt_of_get h0),h0],by rw[hp_get_l (lt_of_get h1),h1],by rw[hp_get_l (lt_of_get h2),h2],rfr,by rw[hp_get_l (lt_of_get h3),h3],h4⟩
 ·rintro c G ⟨h0,h1,h2,rfr,h3,h4,h5,h6⟩ hG
  refine⟨?_,?_,?_,rfr.map (kill 8),?_,?_,?_,?_⟩
  ·rw[List.getElem?_map,List.getElem?_take_of_lt (by decide),h0];rfl
  ·rw[List.getElem?_map,List.getElem?_take_of_lt (by decide),h1];rfl
  ·rw[List.getElem?_map,List.getElem?_take_of_lt (by decide),h2];rfl
  ·rw[List.getElem?_map,List.getElem?_take_of_lt (by decide),h3];rfl
  ·rw[get_mapkill,h4,kill_ptr (by decide)]
  ·rw[get_mapkill,h5,kill_ptr (by decide)]
  ·rw[get_mapkill,h6,kill_ptr (by decide)]
 ·rintro c G x ⟨h0,h1,h2,rfr,h3,h4,h5,h6⟩ hG _ hst
  have hlow:¬x.2<1:=by simpa [lowR] using hst
  obtain⟨fr1,e1,f9⟩:∃fr1,ex cx D 0 67 57 q67_0 (setArgs [(51,iv x.1),(52,iv x.2)] rfr) G=some (.normal,fr1,G)∧fr1.get 9=iv x.2:=by
   unfold q67_0
   simp -implicitDefEqProofs (maxDischargeDepth:=4) only[go_sem]
   exact⟨_,rfl,by simp only[go_sem]⟩
  have hb:(G.set 7 (.loop { lp67 rfr with state:=.busy }))[7]?=some (.loop { lp67 rfr with state:=.busy }):=by rw[hp_one (by omega)]
  rw[round_eq h3 (Nat.zero_le _) rfl rfl rfl,show setArgs ((lp67 rfr).params.zip [iv x.1,iv x.2]) (lp67 rfr).fr=setArgs [(51,iv x.1),(52,iv x.2)] rfr from rfl,
   show ex cx (den cx) 0 (lp67 rfr).fn (lp67 rfr).nt (lp67 rfr).assign=ex cx D 0 67 57 q67_0 from rfl,e1,bodyRound_eq h3 rfl,show ex cx (den cx) 0 (lp67 rfr).fn (lp67 rfr).nt (lp67 rfr).body=ex cx D 0 67 57 r67_0 from rfl]
  obtain⟨fr2,e2⟩:∃fr2,ex cx D 0 67 57 r67_0 fr1 (G.set 7 (.loop { lp67 rfr with state:=.busy }))=some (.normal,fr2,G.set 7 (.loop { lp67 rfr with state:=.busy })):=by
   unfold r67_0
   simp -implicitDefEqProofs (maxDischargeDepth:=4) only[go_sem,f9,hlow]
   exact⟨_,rfl⟩
  rw[e2,endRound_normal hb]
  refine⟨_,rfl,⟨by rw[hp_ne (by decide),hp_ne (by decide),h0],by rw[hp_ne (by decide),hp_ne (by decide),h1],by rw[hp_ne (by decide),hp_ne (by decide),h2],rfr,by rw[hp_one (by rw[List.length_set];omega)];rfl,h4,h5,h6⟩,by rw[List.length_set,List.length_set];exact Nat.le_refl _,fun j hj=>?_⟩
  rw[hp_ne (by omega),hp_ne (by omega)]
 ·rintro c G x ⟨h0,h1,h2,rfr,h3,h4,h5,h6⟩ hG _ hst
  have hlow:x.2<1:=by simpa [lowR] using hst
  obtain⟨fr1,e1,f9,f2,f3,f5⟩:∃fr1,ex cx D 0 67 57 q67_0 (setArgs [(51,iv x.1),(52,iv x.2)] rfr) G=some (.normal,fr1,G)∧fr1.get 9=iv x.2∧fr1.get 2=.ptr 0 0 0∧fr1.get 3=.ptr 1 0 0∧fr1.get 5=.ptr 2 0 0:=by
   unfold q67_0
   simp -implicitDefEqProofs (maxDischargeDepth:=4) only[go_sem]
   exact⟨_,rfl,by simp only[go_sem],by simp only[go_sem,h4],by simp only[go_sem,h5],by simp only[go_sem,h6]⟩
  obtain⟨G1,hG1⟩:∃G1,G.set 7 (.loop { lp67 rfr with state:=.busy })=G1:=⟨_,rfl⟩
  have hl:G1.length=G.length:=by rw[←hG1,List.length_set]
  have g0:G1[0]?=some (.cells 1 3 [iv w]):=by rw[←hG1,hp_ne (by decide),h0]
  have g1:G1[1]?=some (.cells 1 27 [iv e]):=by rw[←hG1,hp_ne (by decide),h1]
  have g2:G1[2]?=some (.cells 1 3 [iv i]):=by rw[←hG1,hp_ne (by decide),h2]
  have g7:G1[7]?=some (.loop { lp67 rfr with state:=.busy }):=by rw[←hG1,hp_one (by omega)]
  rw[round_eq h3 (Nat.zero_le _) rfl rfl rfl,show setArgs ((lp67 rfr).params.zip [iv x.1,iv x.2]) (lp67 rfr).fr=setArgs [(51,iv x.1),(52,iv x.2)] rfr from rfl,
   show ex cx (den cx) 0 (lp67 rfr).fn (lp67 rfr).nt (lp67 rfr).assign=ex cx D 0 67 57 q67_0 from rfl,e1,bodyRound_eq h3 rfl,show ex cx (den cx) 0 (lp67 rfr).fn (lp67 rfr).nt (lp67 rfr).body=ex cx D 0 67 57 r67_0 from rfl,hG1]
  have n1:(G1.set 0 (.cells 1 3 [iv i]))[1]?=some (.cells 1 27 [iv e]):=by rw[hp_ne (by decide),g1]
  obtain⟨fr2,e2⟩:∃fr2,ex cx D 0 67 57 r67_0 fr1 G1=some (.ret,fr2,(G1.set 0 (.cells 1 3 [iv i])).set 1 (.cells 1 27 [iv 10])):=by
   unfold r67_0
   simp -implicitDefEqProofs (maxDischargeDepth:=4) only[go_sem,f9,f2,f3,f5,hlow,g0,g1,g2,n1,Nat.not_lt_zero]
   exact⟨_,rfl⟩
  have hb:((G1.set 0 (.cells 1 3 [iv i])).set 1 (.cells 1 27 [iv 10]))[7]?=some (.loop { lp67 rfr with state:=.busy }):=by rw[hp_ne (by decide),hp_ne (by decide),g7]
  rw[e2,endRound_other hb (by decide)]
  refine⟨_,rfl,?_,?_,_,by rw[hp_one (by rw[List.length_set,List.length_set];omega)],rfl,rfl⟩
  ·rw[hp_ne (by decide),hp_ne (by decide),hp_one (by omega)]
  ·rw[hp_ne (by decide),hp_one (by rw[List.length_set];omega)]
def oBad(ns:List Nd)(x:Nd):Bool:=actK x.kind&&(rises ns x.prio (oE x)).any lowR
def oChk(ns:List Nd):Nat→List Nd→Int×Int
 | _,[]=>(-1,0)
 | i,x::l=>if oBad ns x=true then (i,10) else oChk ns (i+1) l
abbrev c3(w:Int):ABlock:=.cells 1 3 [iv w]
abbrev c27(w:Int):ABlock:=.cells 1 27 [iv w]
structure O67(ns:List Nd)(w:Int)(r:Int×Int)(e:Ex)(fr:PT)(G:Hp):Prop where
 f2:fr.get 2=.ptr 0 0 0
 f3:fr.get 3=.ptr 1 0 0
 res:(r=(-1,0)∧e=.exit 0∧G=[c3 w,c27 0])∨(∃j:Int,r=(j,10)∧e=.ret∧G[0]?=some (c3 j)∧G[1]?=some (c27 10))
theorem any_find{α:Type}(p:α→Bool):∀l:List α,(l.any p=false→l.find? p=none)∧(l.any p=true→∃x,l.find? p=some x)
 | []=>⟨fun _=>rfl,fun h=>by cases h⟩
 | x::l=>by
  have ih:=any_find p l
  cases hx:p x with
  | false=>rw[List.any_cons,hx,Bool.false_or,List.find?_cons_of_neg (by rw[hx];decide)];exact ih
  | true=>exact⟨fun h=>(by rw[List.any_cons,hx,Bool.true_or]at h;cases h),fun _=>⟨x,by rw[List.find?_cons_of_pos hx]⟩⟩
theorem loop67{ns:List Nd}{a:AV}(hns:NsOk ns a)(hg:∀x∈ns,x.es.length≤8)(hn:ns.length≤64)(w:Int):
  ∀(d i:Nat)(fr:PT),ns.length-i=d→i≤ns.length→OFr fr a ns.length i→
  ∃e fr' G',D.loop 0 67 57 l67_1 fr [c3 w,c27 0]=some (e,fr',G')∧O67 ns w (oChk ns i (ns.drop i)) e fr' G'
 | 0,i,fr,hd,hi,F=>by
  have hlt:=lp1 hd hi
  rw[dl67_1]
  simp -implicitDefEqProofs (maxDischargeDepth:=4) only[go_sem,F.f21,F.f22,hlt]
  refine⟨_,_,_,rfl,by simp only[go_sem,F.f2],by simp only[go_sem,F.f3],.inl ⟨?_,rfl,rfl⟩⟩
  rw[List.drop_eq_nil_of_le (by omega)]
  rfl
 | d+1,i,fr,hd,hi,F=>by
  have hlt:=lp2 hd
  have w3:=wrap_succ (lp5 hd hn)
  obtain⟨x,hx⟩:=ex_nd (lp3 hd)
  have hat:=hns.at hx
  have hs:Sl 2 x.nx (x.es.map ed):=hns.ok x (List.mem_of_getElem? hx)
  have hl8:=hg x (List.mem_of_getElem? hx)
  obtain⟨fr1,e1,F1,k23⟩:∃fr1:PT,ex cx D 0 67 57 (.region 6 g67_6 false) fr [c3 w,c27 0]=some (.normal,fr1,[c3 w,c27 0])∧OFr fr1 a ns.length i∧fr1.get 23=bv true:=by
   simp -implicitDefEqProofs (maxDischargeDepth:=4) only[go_sem,F.f21,F.f22,hlt]
   refine⟨_,rfl,F.of fun t ht=>?_,by simp only[go_sem]⟩
   rcases ht with rfl | rfl | rfl | rfl | rfl | rfl<;>simp only[go_sem]
  have hcond:∀Z,ex cx D 0 67 57 (.seq (.cond (.tmp 23) .skip (.exit 0)) Z) fr1 [c3 w,c27 0]=ex cx D 0 67 57 Z fr1 [c3 w,c27 0]:=fun Z=>by
   rw[x_cont1 (fr':=fr1) (H':=[c3 w,c27 0])]
   simp -implicitDefEqProofs (maxDischargeDepth:=4) only[go_sem,k23]
  obtain⟨fr2,e2,F2,k5,k6⟩:∃fr2:PT,ex cx D 0 67 57 (.region 7 g67_7 false) fr1 [c3 w,c27 0]=some (.normal,fr2,[c3 w,c27 0,c3 i,.cells 6 66 [nodeV x]])∧OFr fr2 a ns.length i∧fr2.get 5=.ptr 2 0 0∧fr2.get 6=.ptr 3 0 0:=by
   simp -implicitDefEqProofs (maxDischargeDepth:=4) only[go_sem,F1.f20,F1.f22,hns.sl.shr,hns.sl.notOwn,hat,hs.shr,hs.notOwn,hs.drp,hs.fitA,Nat.zero_le,Nat.not_lt_zero]
   refine⟨_,rfl,F1.of fun t ht=>?_,by simp only[go_sem],by simp only[go_sem]⟩
   rcases ht with rfl | rfl | rfl | rfl | rfl | rfl<;>simp only[go_sem]
  have hact:=acts_ok hns i
  have hai:actN ns i=actK x.kind:=by unfold actN;rw[show atN ns (i:Int)=some x by unfold atN;rw[if_neg (by omega),Int.toNat_natCast,hx]]
  rw[hai]at hact
  have next:∀(fr3:PT)(G3:Hp),OFr fr3 a ns.length i→2≤G3.length→G3[0]?=some (c3 w)→G3[1]?=some (c27 0)→
    ∃e fr' G',xbind (ex cx D 0 67 57 (.region 16 g67_16 false) fr3 G3) (contR (trimmed (D.loop 0 67 57 l67_1) 2))=some (e,fr',G')∧O67 ns w (oChk ns (i+1) (ns.drop (i+1))) e fr' G':=fun fr3 G3 F3 hl3 g0 g1=>by
   obtain⟨fr4,e4,F4⟩:∃fr4:PT,ex cx D 0 67 57 (.region 16 g67_16 false) fr3 G3=some (.normal,fr4,G3)∧OFr fr4 a ns.length (i+1):=by
    simp -implicitDefEqProofs (maxDischargeDepth:=4) only[go_sem,F3.f22,w3]
    exact⟨_,rfl,by simp only[go_sem,F3.f2],by simp only[go_sem,F3.f3],by simp only[go_sem,F3.f4],by simp only[go_sem,F3.f20],by simp only[go_sem,F3.f21],by simp only[go_sem]⟩
   rw[e4,xbind_some,contR_normal]
   refine trim_gen (P:=fun z=>∃e fr' G',z=some (e,fr',G')∧O67 ns w (oChk ns (i+1) (ns.drop (i+1))) e fr' G') [2,3,4,20,21,22] hl3 (fun t ht=>?_) fun fr' G' hG' hf hk'=>?_
   ·simp only[List.mem_cons,List.not_mem_nil,or_false]at ht
    rcases ht with rfl | rfl | rfl | rfl | rfl | rfl
    ·rw[F4.f2];rfl
    ·rw[F4.f3];rfl
    ·rw[F4.f4,kill_Sl hns.sl]
    ·rw[F4.f20,kill_Sl hns.sl]
    ·rw[F4.f21];rfl
    ·rw[F4.f22];rfl
   ·have hGB:G'=[c3 w,c27 0]:=by
     match G',hG' with
     | [y1,y2],_ =>
      have a1:=hk' 0 (c3 w) (Nat.succ_pos _) g0 rfl
      have a2:=hk' 1 (c27 0) (Nat.lt_succ_self _) g1 rfl
      cases a1;cases a2;rfl
    subst hGB
    exact loop67 hns hg hn w d (i+1) fr' (nd1 hd) (nd2 hd) ⟨by rw[hf 2 (by simp),F4.f2],by rw[hf 3 (by simp),F4.f3],by rw[hf 4 (by simp),F4.f4],by rw[hf 20 (by simp),F4.f20],by rw[hf 21 (by simp),F4.f21],by rw[hf 22 (by simp),F4.f22]⟩
  rw[dl67_1,x_cont1 e1,hcond,drop_nd hx]
  cases hk:actK x.kind with
  | false =>
   rw[hk]at hact
   have hbad:oBad ns x=false:=by unfold oBad;rw[hk,Bool.false_and]
   obtain⟨fr3,e3,F3⟩:∃fr3:PT,ex cx D 0 67 57 (.seq (.region 8 g67_8 false) (.cond (.tmp 30) (.exit 1) .skip)) fr2 [c3 w,c27 0,c3 i,.cells 6 66 [nodeV x]]=some (.exit 1,fr3,[c3 w,c27 0,c3 i,.cells 6 66 [nodeV x]])∧OFr fr3 a ns.length i:=by
    simp -implicitDefEqProofs (maxDischargeDepth:=4) only[go_sem,F2.f4,k5,hns.sl.shr,hns.sl.notOwn,hns.sl.shut1,hact,u_not]
    refine⟨_,rfl,F2.of fun t ht=>?_⟩
    rcases ht with rfl | rfl | rfl | rfl | rfl | rfl<;>simp only[go_sem]
   have eb:ex cx D 0 67 57 (.block 1 (.seq (.region 7 g67_7 false) (.seq (.seq (.region 8 g67_8 false) (.cond (.tmp 30) (.exit 1) .skip)) (.seq (.region 9 g67_9 false) (.seq (.seq (.region 10 g67_10 false) (.cond (.tmp 41) (.region 11 g67_11 false) .skip)) (.seq (.region 12 g67_12 false) (.block 2 (.rangeFunc (.tmp 50) #[51,52] q67_0 r67_0)))))))) fr1 [c3 w,c27 0]=some (.normal,fr3,[c3 w,c27 0,c3 i,.cells 6 66 [nodeV x]]):=by
    rw[x_block,x_cont1 e2,x_seq,e3]
    rfl
   rw[x_cont1 eb]
   simp only[oChk]
   rw[hbad,if_neg (by decide)]
   exact next fr3 _ F3 (show 2≤4 by decide) rfl rfl
  | true =>
   rw[hk]at hact
   obtain⟨fr3,e3,F3,l5,l6⟩:∃fr3:PT,ex cx D 0 67 57 (.seq (.region 8 g67_8 false) (.cond (.tmp 30) (.exit 1) .skip)) fr2 [c3 w,c27 0,c3 i,.cells 6 66 [nodeV x]]=some (.normal,fr3,[c3 w,c27 0,c3 i,.cells 6 66 [nodeV x]])∧OFr fr3 a ns.length i∧fr3.get 5=.ptr 2 0 0∧fr3.get 6=.ptr 3 0 0:=by
    simp -implicitDefEqProofs (maxDischargeDepth:=4) only[go_sem,F2.f4,k5,hns.sl.shr,hns.sl.notOwn,hns.sl.shut1,hact,u_not]
    refine⟨_,rfl,F2.of fun t ht=>?_,by simp only[go_sem,k5],by simp only[go_sem,k6]⟩
    rcases ht with rfl | rfl | rfl | rfl | rfl | rfl<;>simp only[go_sem]
   obtain⟨fr4,v,e4,hv,F4,m5,m50⟩:=o_own hns hx hl8 (C0:=c3 w) (C1:=c27 0) F3 l5 l6
   have hlE:(oE x).length≤1000:=by unfold oE;split<;>simp<;>omega
   have hJ:J67 w 0 i [c3 w,c27 0,c3 i,.cells 6 66 [nodeV x],.cells 1 212 [a],c3 i,.cells 1 64 [v],.loop (lp67 (fr4.map drp))]:=⟨rfl,rfl,rfl,_,rfl,by rw[get_mapdrp,F4.f2];rfl,by rw[get_mapdrp,F4.f3];rfl,by rw[get_mapdrp,m5];rfl⟩
   obtain⟨G',e,q1,q2⟩:=oedges_call hns hv hlE hx (rnd67 w 0 i) (by decide) (by decide) (by decide) (by decide) (G:=[c3 w,c27 0,c3 i,.cells 6 66 [nodeV x],.cells 1 212 [a],c3 i,.cells 1 64 [v],.loop (lp67 (fr4.map drp))]) rfl (c:=[]) hJ ⟨rfl,rfl,rfl⟩ (fun _ _=>trivial)
   have q1':D.call 0 160 [.yld 7,.ptr 6 0 0,.ptr 4 0 0,.ptr 5 0 0] [c3 w,c27 0,c3 i,.cells 6 66 [nodeV x],.cells 1 212 [a],c3 i,.cells 1 64 [v],.loop (lp67 (fr4.map drp))]=some (.tup [],G'):=by rw[den_call_eq];exact q1
   have q3:ex cx D 0 67 57 (.rangeFunc (.tmp 50) #[51,52] q67_0 r67_0) fr4 [c3 w,c27 0,c3 i,.cells 6 66 [nodeV x],.cells 1 212 [a],c3 i,.cells 1 64 [v]]=endLoop 7 fr4 (some (.tup [],G')):=by
    rw[x_range,ev_tmp,m50,shr_fn,ranged_fn,←q1'];rfl
   obtain⟨_,_,p1,p2⟩:=x_split e4
   obtain⟨_,_,p3,p4⟩:=x_split p2
   have eb:ex cx D 0 67 57 (.block 1 (.seq (.region 7 g67_7 false) (.seq (.seq (.region 8 g67_8 false) (.cond (.tmp 30) (.exit 1) .skip)) (.seq (.region 9 g67_9 false) (.seq (.seq (.region 10 g67_10 false) (.cond (.tmp 41) (.region 11 g67_11 false) .skip)) (.seq (.region 12 g67_12 false) (.block 2 (.rangeFunc (.tmp 50) #[51,52] q67_0 r67_0)))))))) fr1 [c3 w,c27 0]=xbind (xbind (endLoop 7 fr4 (some (.tup [],G'))) (outB 2)) (outB 1):=by
    rw[x_block,x_cont1 e2,x_cont1 e3,x_cont1 p1,x_cont1 p3,x_cont1 p4,x_block,q3]
   have hb:oBad ns x=(rises ns x.prio (oE x)).any lowR:=by unfold oBad;rw[hk,Bool.true_and]
   simp only[oChk]
   rw[hb]
   have hf:=any_find lowR (rises ns x.prio (oE x))
   unfold ERes at q2
   cases hany:(rises ns x.prio (oE x)).any lowR with
   | false =>
    rw[hf.1 hany]at q2
    obtain⟨_,j0,j1,j2,rfr,j3,j4,j5,j6⟩:=q2
    rw[endLoop_eq j3 (show LS.ready≠LS.busy by decide)]at eb
    rw[x_cont1 (fr':=fr4) (H':=G'.set 7 (.loop { lp67 rfr with state:=.exhausted })) (by rw[eb];rfl),if_neg (by decide)]
    have hl7:=lt_of_get j3
    exact next fr4 _ F4 (by rw[List.length_set];omega) (by rw[hp_ne (by decide),j0]) (by rw[hp_ne (by decide),j1])
   | true =>
    obtain⟨z,hz⟩:=hf.2 hany
    rw[hz]at q2
    obtain⟨_,j0,j1,r,j3,j4,j5⟩:=q2
    rw[endLoop_eq j3 (by rw[j4];decide),j5]at eb
    rw[x_seq,eb,if_pos rfl]
    exact⟨_,_,_,rfl,F4.f2,F4.f3,.inr ⟨_,rfl,rfl,by rw[hp_ne (by decide),j0],by rw[hp_ne (by decide),j1]⟩⟩
def ordC(ns:List Nd):Int×Int:=if (chk ns).2=0 then oChk ns 0 ns else chk ns
theorem ord_call{ns:List Nd}{a:AV}(hns:NsOk ns a):∃H',callB cx D 0 67 [a] []=some (errV (ordC ns),H'):=by
 have h48:=chk_ok hns
 unfold errV at h48 ⊢
 by_cases h0:(chk ns).2=0
 ·have hg:=chk_good h0
  rw[h0]at h48
  generalize hw:(chk ns).1=w at h48
  have hr:ordC ns=oChk ns 0 ns:=by unfold ordC;rw[if_pos h0]
  rw[hr]
  obtain⟨fr1,e1,F1⟩:∃fr1:PT,ex cx D 0 67 57 (.seq (.region 0 g67_0 false) (.seq (.seq (.region 1 g67_1 false) (.seq (.region 2 g67_2 false) (.cond (.tmp 16) (.seq (.region 3 g67_3 true) .ret) .skip))) (.seq (.region 4 g67_4 false) (.region 5 g67_5 false)))) (PT.nil.set 0 (drp a)) []=some (.normal,fr1,[c3 w,c27 0])∧OFr fr1 a ns.length 0:=by
   simp -implicitDefEqProofs (maxDischargeDepth:=4) only[go_sem,hns.sl.shr,hns.sl.notOwn,hns.sl.drp,hns.sl.shut1,alen_sl hns.sl,List.length_map,h48,Nat.zero_le,Nat.le_refl,Nat.not_lt_zero]
   exact⟨_,rfl,by simp only[go_sem],by simp only[go_sem],by simp only[go_sem],by simp only[go_sem],by simp only[go_sem],by simp only[go_sem];rfl⟩
  obtain⟨_,_,p0,r⟩:=x_split e1
  obtain⟨_,_,p1,r⟩:=x_split r
  obtain⟨_,_,p4,p5⟩:=x_split r
  obtain⟨e,fr2,G2,e2,O⟩:=loop67 hns (fun x hx=>shp_len (hg.sh x hx)) hg.le w ns.length 0 fr1 (Nat.sub_zero _) (Nat.zero_le _) F1
  rw[List.drop_zero]at O
  obtain⟨f2,f3,O⟩:=O
  rw[c67,x_cont1 p0,x_cont1 p1,x_cont1 p4,x_assoc,x_cont1 p5]
  rcases O with⟨hr,rfl,rfl⟩ | ⟨j,hr,rfl,g0,g1⟩
  ·rw[hr]
   have e3:ex cx D 0 67 57 (.block 0 (.loop l67_1)) fr1 [c3 w,c27 0]=some (.normal,fr2,[c3 w,c27 0]):=by
    rw[x_block,x_loop,e2];rfl
   rw[x_cont1 e3]
   simp -implicitDefEqProofs (maxDischargeDepth:=4) only[go_sem,f2,f3,Nat.not_lt_zero]
   exact⟨_,rfl⟩
  ·rw[hr]
   have e3:ex cx D 0 67 57 (.block 0 (.loop l67_1)) fr1 [c3 w,c27 0]=some (.ret,fr2,G2):=by
    rw[x_block,x_loop,e2];rfl
   rw[x_seq,e3]
   simp -implicitDefEqProofs (maxDischargeDepth:=4) only[go_sem,f2,f3,g0,g1,Nat.not_lt_zero]
   exact⟨_,rfl⟩
 ·have hr:ordC ns=chk ns:=by unfold ordC;rw[if_neg h0]
  rw[hr]
  generalize (chk ns).1=w at h48 ⊢
  generalize (chk ns).2=v at h48 h0 ⊢
  rw[c67]
  simp -implicitDefEqProofs (maxDischargeDepth:=4) only[go_sem,hns.sl.shr,hns.sl.notOwn,hns.sl.drp,hns.sl.shut1,h48,h0,Nat.zero_le,Nat.le_refl,Nat.not_lt_zero]
  exact⟨_,rfl⟩
theorem ord_ok{ns:List Nd}{a:AV}(hns:NsOk ns a):pcall D 67 [a]=some (errV (ordC ns)):=by
 obtain⟨H',h⟩:=ord_call hns
 rw[pcall_eq (v:=errV (ordC ns)) (H':=H') (by rw[List.map_cons,List.map_nil,hns.sl.cl2];exact h),frz_err]
end Go.Abs.Tab
