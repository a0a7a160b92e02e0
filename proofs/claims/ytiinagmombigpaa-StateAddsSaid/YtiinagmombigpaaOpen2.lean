/- Arguments of numbers, truths, strings, structs, arrays and slices of them, as the evaluator takes them. -/
import Derived.Test.YtiinagmombigpaaEvS
import Derived.ChangeArms
import Derived.OpenShut
import Derived.DataReads
set_option linter.unnecessarySimpa false
set_option linter.unusedSimpArgs false
set_option linter.unusedVariables false
namespace Go.Abs
def wrapAs(P:Program)(t:TypeId)(as:List AV):AV:=match P.underlying t with
 | some (.struct _)=>.agg as
 | some (.array _ _)=>.agg as
 | _=>as.headD .dead
mutual
def plain(P:Program):Nat→TypeId→Bool
 | 0,_=>false
 | d+1,t=>match P.underlying t with
  | some .bool | some (.int _) | some .string=>decide (P.cellsOf t=1)
  | some (.slice e)=>plain P d e&&decide (0<P.cellsOf e)&&decide (P.cellsOf t=1)
  | some (.struct fs)=>plainFs P d fs.toList 0 (P.cellsOf t)
  | some (.array n e)=>plain P d e&&decide (n*P.cellsOf e=P.cellsOf t)
  | _=>false
def plainFs(P:Program):Nat→List Field→Nat→Nat→Bool
 | 0,_,_,_=>false
 | d+1,fs,off,z=>match fs with
  | []=>decide (off=z)
  | f::fs=>decide (f.offset=off)&&plain P d f.type&&plainFs P d fs (off+P.cellsOf f.type) z
end
mutual
def RdT(P:Program):Nat→TypeId→List AV→Prop
 | 0,_,_=>False
 | d+1,t,as=>match P.underlying t with
  | some .bool=>∃b,as=[.lit (.bool b)]
  | some (.int k)=>∃n,(Lit.int k n).wf=true∧as=[.lit (.int k n)]
  | some .string=>∃s:ByteArray,s.size≤maxLen∧as=[.lit (.string s)]
  | some (.slice e)=>as=[.lit (.slice none 0 0)]∨∃ass:List (List AV),ass.length≤maxLen∧(∀x∈ass,RdT P d e x)∧as=[.vec (P.cellsOf e) .shared (ass.map (wrapAs P e))]
  | some (.struct fs)=>RdF P d fs.toList as
  | some (.array n e)=>∃ass:List (List AV),ass.length=n∧(∀x∈ass,RdT P d e x)∧as=ass.flatten
  | _=>False
def RdF(P:Program):Nat→List Field→List AV→Prop
 | 0,_,_=>False
 | d+1,fs,as=>match fs with
  | []=>as=[]
  | f::fs=>∃a b,as=a++b∧RdT P d f.type a∧RdF P d fs b
end
section
variable {P:Program} {W:World} {H:Type} {enc:TypeId×Value→H}
theorem one_scalar{c:Value}(h:one c):c.cells=#[c]:=by cases c<;>first | rfl | simp[one,Value.oneCell']at h
theorem vr_wrap{t:TypeId}{as:List AV}{cs:List Value}(h:VRs (memImm W) noMu as cs)(ho:∀x∈cs,one x)
  (hs:(∀fs,P.underlying t≠some (.struct fs))→(∀n e,P.underlying t≠some (.array n e))→∃c,cs=[c]):
  ∃c:Value,c.cells.toList=cs∧VR (memImm W) noMu (wrapAs P t as) c:=by
 unfold wrapAs
 split
 ·exact⟨.agg cs.toArray,rfl,by simp only[VR];exact⟨cs,rfl,h,ho⟩⟩
 ·exact⟨.agg cs.toArray,rfl,by simp only[VR];exact⟨cs,rfl,h,ho⟩⟩
 ·rename_i h1 h2
  obtain⟨c,rfl⟩:=hs (fun fs e=>h1 fs e) (fun n e e'=>h2 n e e')
  have h1c:one c:=ho c (by simp)
  refine⟨c,by rw[one_scalar h1c],?_⟩
  cases as with
  | nil=>simp[VRs]at h
  | cons a as =>
   simp only[VRs]at h
   obtain⟨c',cs',e,h3,_⟩:=h
   cases e
   exact h3
def Good(P:Program)(W:World)(d:Nat)(t:TypeId)(cs:List Value):Prop :=
 ∃as,RdT P d t as∧VRs (memImm W) noMu as cs∧(∀x∈cs,one x)∧cs.length=P.cellsOf t∧
  ((∀fs,P.underlying t≠some (.struct fs))→(∀n e,P.underlying t≠some (.array n e))→∃c,cs=[c])
theorem good_one{d:Nat}{t:TypeId}{a:AV}{c:Value}(h1:RdT P d t [a])(h2:VR (memImm W) noMu a c)(h3:one c)(hc:P.cellsOf t=1):Good P W d t [c] :=
 ⟨[a],h1,by simp only[VRs];exact⟨c,[],rfl,h2,rfl⟩,by simpa using h3,by simp[hc],fun _ _=>⟨c,rfl⟩⟩
theorem add_add(a:Addr)(m n:Nat):(a.add m).add n=a.add (m+n):=by
 unfold Addr.add
 by_cases hm:m=0
 ·subst hm;simp
 ·by_cases hn:n=0
  ·subst hn;simp
  ·rw[if_neg hn,if_neg hm,if_neg (by omega)];simp[Nat.add_assoc]
theorem vec_arg{d:Nat}{e:TypeId}{A:Addr}{n:Nat}(hz:0<P.cellsOf e)(hel:∀i,i<n→∃cs,W.cells? 0 (A.add (i*P.cellsOf e)) (P.cellsOf e)=some cs∧Good P W d e cs):
  ∃(ass:List (List AV))(cs:List Value),ass.length=n∧(∀x∈ass,RdT P d e x)∧VRels (memImm W) noMu (P.cellsOf e) (ass.map (wrapAs P e)) cs∧
   ∀k v,cs[k]?=some v→W.cell? (A.add k)=some v:=by
 induction n with
 | zero=>exact⟨[],[],rfl,by simp,by simp[VRels],by simp⟩
 | succ n ih =>
  obtain⟨ass,cs,h1,h2,h3,h4⟩:=ih fun i hi=>hel i (by omega)
  obtain⟨ds,h5,as,g1,g2,g3,g4,g5⟩:=hel n (by omega)
  obtain⟨c,k1,k2⟩:=vr_wrap (P:=P) (t:=e) g2 g3 g5
  have hl:=h3.length
  rw[List.length_map,h1]at hl
  have hsz:c.cells.size=P.cellsOf e:=by rw[←g4,←k1,Array.length_toList]
  refine⟨ass++[as],cs++ds,by simp[h1],?_,?_,?_⟩
  ·intro x hx
   rw[List.mem_append,List.mem_singleton]at hx
   rcases hx with hx | rfl
   ·exact h2 x hx
   ·exact g1
  ·rw[List.map_append]
   refine h3.append ?_
   simp only[List.map_cons,List.map_nil,VRels]
   exact⟨c,[],by rw[k1,List.append_nil],hsz,by rw[k1];exact g3,k2,rfl⟩
  ·intro k v hk
   by_cases hkl:k<cs.length
   ·rw[List.getElem?_append_left hkl]at hk
    exact h4 k v hk
   ·rw[List.getElem?_append_right (by omega)]at hk
    have hlt:=(List.getElem?_eq_some_iff.1 hk).1
    obtain⟨_,_,q⟩:=World.cells?_some h5
    have:=q (k-cs.length) (by rw[←g4];exact hlt)
    rw[hk]at this
    rw[←this,add_add,show n*P.cellsOf e+(k-cs.length)=k by omega]
theorem plain_slice{d:Nat}{t e:TypeId}(ht:P.underlying t=some (.slice e))(h:plain P (d+1) t=true):(plain P d e=true∧0<P.cellsOf e)∧P.cellsOf t=1:=by
 simp only[plain,ht,Bool.and_eq_true,decide_eq_true_eq]at h;exact h
theorem plain_struct{d:Nat}{t:TypeId}{fs:Array Field}(ht:P.underlying t=some (.struct fs))(h:plain P (d+1) t=true):plainFs P d fs.toList 0 (P.cellsOf t)=true:=by
 simpa only[plain,ht] using h
theorem plain_array{d n:Nat}{t e:TypeId}(ht:P.underlying t=some (.array n e))(h:plain P (d+1) t=true):plain P d e=true∧n*P.cellsOf e=P.cellsOf t:=by
 simp only[plain,ht,Bool.and_eq_true,decide_eq_true_eq]at h;exact h
mutual
theorem read_plain:∀(d:Nat) {fuel:Nat} {t:TypeId} {cs:List Value} {x:DataW H×List MemPlace},plain P d t=true→
  DataW.trod enc P W 0 (fun _=>true) true fuel t cs=some x→Good P W d t cs
 | 0,_,_,_,_,h,_=>by simp[plain]at h
 | d+1,fuel,t,cs,x,h,hr=>by
  cases ht:P.underlying t with
  | none=>simp[plain,ht]at h
  | some u =>
   cases u with
   | bool =>
    obtain⟨b,rfl,_⟩:=DataW.trod_bool ht hr
    exact good_one (by simp only[RdT,ht];exact⟨b,rfl⟩) (by simp only[VR]) rfl (by simpa [plain,ht] using h)
   | int k =>
    obtain⟨n,rfl,_,hw⟩:=DataW.trod_int ht hr
    exact good_one (by simp only[RdT,ht];exact⟨n,hw,rfl⟩) (by simp only[VR]) rfl (by simpa [plain,ht] using h)
   | string =>
    obtain⟨s,rfl,_,hw⟩:=DataW.trod_string ht hr
    exact good_one (by simp only[RdT,ht];exact⟨s,hw,rfl⟩) (by simp only[VR]) rfl (by simpa [plain,ht] using h)
   | slice e =>
    obtain⟨⟨hp,hz⟩,hc1⟩:=plain_slice ht h
    rcases DataW.trod_slice ht hr with⟨rfl,_⟩ | ⟨A,len,cap,elems,rest,m,_,rfl,_,_,hl,hm,hlen,hel,hsp,_⟩
    ·exact good_one (by simp only[RdT,ht];exact .inl rfl) (by simp only[VR]) rfl hc1
    ·obtain⟨hrl,hre⟩:=hsp rfl
     have each:∀i,i<len→∃cs,W.cells? 0 (A.add (i*P.cellsOf e)) (P.cellsOf e)=some cs∧Good P W d e cs:=fun i hi=>by
      have:=hel i hi
      rw[List.getElem?_eq_getElem (by omega)]at this
      obtain⟨cs,h1,h2⟩:=Option.bind_eq_some_iff.1 this
      exact⟨cs,h1,read_plain d hp h2⟩
     obtain⟨ass,cs,g1,g2,g3,g4⟩:=vec_arg hz each
     have hspot:cap=0∨A.spot=none:=by
      rcases Nat.eq_zero_or_pos cap with h0 | h0
      ·exact .inl h0
      ·right
       have h0c:∃cs,W.cells? 0 A (P.cellsOf e)=some cs:=by
        rcases Nat.eq_zero_or_pos len with hl0 | hl0
        ·have:=hre 0 (by omega)
         rw[List.getElem?_eq_getElem (by omega)]at this
         obtain⟨cs,h1,_⟩:=Option.bind_eq_some_iff.1 this
         rw[hl0]at h1
         simp[Addr.add]at h1
         exact⟨cs,h1⟩
        ·obtain⟨cs,h1,_⟩:=each 0 hl0
         rw[Nat.zero_mul]at h1
         simp[Addr.add]at h1
         exact⟨cs,h1⟩
       obtain⟨cs,h1⟩:=h0c
       obtain⟨_,q1,q2⟩:=World.cells?_some h1
       have:=q2 0 hz
       rw[List.getElem?_eq_getElem (by omega)]at this
       simp only[Addr.add,if_true]at this
       unfold World.cell? at this
       split at this
       ·split at this
        ·cases this
        ·rename_i hn;simpa using hn
       ·cases this
     obtain⟨B,o,sp⟩:=A
     refine good_one (a:=.vec (P.cellsOf e) .shared (ass.map (wrapAs P e))) (by simp only[RdT,ht];exact .inr ⟨ass,by omega,g2,rfl⟩) ?_ rfl hc1
     simp only[VR,List.length_map,g1]
     refine⟨B,o,sp,cap,cs,rfl,hspot,by decide,(fun h=>by cases h),hl,g3,fun i c hi=>?_⟩
     have hl0:0<ass.length:=by
      have:=(List.getElem?_eq_some_iff.1 hi).1
      rw[g3.length,List.length_map]at this
      exact Nat.pos_of_ne_zero fun h=>by rw[h]at this;omega
     obtain rfl:sp=none:=hspot.resolve_left (by omega)
     have:=g4 i c hi
     rw[addr_add]at this
     exact this
   | struct fs =>
    obtain⟨xs,m,_,_,hlen,hxs,hfs⟩:=DataW.trod_struct ht hr
    obtain⟨as,g1,g2,g3⟩:=read_fields d (cs:=cs) (plain_struct ht h) hlen (fs:=fs.toList) (fuel:=m) fun f hf=>by
     obtain⟨i,hi⟩:=List.getElem?_of_mem hf
     rw[Array.getElem?_toList]at hi
     have:=hfs i f hi
     have hlt:=(Array.getElem?_eq_some_iff.1 hi).1
     rw[List.getElem?_eq_getElem (by omega)]at this
     exact⟨_,this⟩
    rw[List.drop_zero]at g2 g3
    exact⟨as,by simp only[RdT,ht];exact g1,g2,g3,hlen,fun h=>absurd ht (h fs)⟩
   | array n e =>
    obtain⟨hp,hz⟩:=plain_array ht h
    obtain⟨xs,m,_,_,hlen,hxs,hel⟩:=DataW.trod_array ht hr
    have each:∀i,i<n→Good P W d e ((cs.drop (i*P.cellsOf e)).take (P.cellsOf e)):=fun i hi=>by
     have:=hel i hi
     rw[List.getElem?_eq_getElem (by omega)]at this
     exact read_plain d hp this
    have pre:∀k,k≤n→∃ass:List (List AV),ass.length=k∧(∀x∈ass,RdT P d e x)∧VRs (memImm W) noMu ass.flatten (cs.take (k*P.cellsOf e))∧∀x∈cs.take (k*P.cellsOf e),one x:=by
     intro k
     induction k with
     | zero=>exact fun _=>⟨[],rfl,by simp,by simp[VRs],by simp⟩
     | succ k ih =>
      intro hk
      obtain⟨ass,h1,h2,h3,h4⟩:=ih (by omega)
      obtain⟨as,k1,k2,k3,_,_⟩:=each k (by omega)
      refine⟨ass++[as],by simp[h1],?_,?_,?_⟩
      ·intro x hx
       rw[List.mem_append,List.mem_singleton]at hx
       rcases hx with hx | rfl
       ·exact h2 x hx
       ·exact k1
      ·rw[List.flatten_append,Nat.add_mul,Nat.one_mul,List.take_add]
       simpa using h3.append k2
      ·rw[Nat.add_mul,Nat.one_mul,List.take_add]
       intro x hx
       rw[List.mem_append]at hx
       rcases hx with hx | hx
       ·exact h4 x hx
       ·exact k3 x hx
    obtain⟨ass,h1,h2,h3,h4⟩:=pre n (Nat.le_refl _)
    rw[hz,←hlen,List.take_length]at h3 h4
    exact⟨ass.flatten,by simp only[RdT,ht];exact⟨ass,h1,h2,rfl⟩,h3,h4,hlen,fun _ h=>absurd ht (h n e)⟩
   | _=>simp[plain,ht]at h
theorem read_fields:∀(d:Nat) {fuel:Nat} {fs:List Field} {off z:Nat} {cs:List Value},plainFs P d fs off z=true→cs.length=z→
  (∀f∈fs,∃x:DataW H×List MemPlace,DataW.trod enc P W 0 (fun _=>true) true fuel f.type ((cs.drop f.offset).take (P.cellsOf f.type))=some x)→
  ∃as,RdF P d fs as∧VRs (memImm W) noMu as (cs.drop off)∧∀x∈cs.drop off,one x
 | 0,_,_,_,_,_,h,_,_=>by simp[plainFs]at h
 | d+1,fuel,[],off,z,cs,h,hl,_=>by
  simp only[plainFs,decide_eq_true_eq]at h
  have:cs.drop off=[]:=List.drop_eq_nil_of_le (by omega)
  rw[this]
  exact⟨[],by simp[RdF],by simp[VRs],by simp⟩
 | d+1,fuel,f::fs,off,z,cs,h,hl,hr=>by
  simp only[plainFs,Bool.and_eq_true,decide_eq_true_eq]at h
  obtain⟨⟨h1,h2⟩,h3⟩:=h
  obtain⟨x,hx⟩:=hr f (by simp)
  obtain⟨a,k1,k2,k3,k4,_⟩:=read_plain d h2 hx
  obtain⟨b,g1,g2,g3⟩:=read_fields d (fuel:=fuel) h3 hl fun f' hf=>hr f' (List.mem_cons_of_mem _ hf)
  rw[h1]at k2 k3
  have e:cs.drop off=(cs.drop off).take (P.cellsOf f.type)++cs.drop (off+P.cellsOf f.type):=by
   rw[←List.drop_drop,List.take_append_drop]
  rw[e]
  refine⟨a++b,by simp only[RdF];exact⟨a,b,rfl,k1,g1⟩,k2.append g2,fun y hy=>?_⟩
  rw[List.mem_append]at hy
  rcases hy with hy | hy
  ·exact k3 y hy
  ·exact g3 y hy
end
structure Rdd(P:Program)(d:Nat)(t:TypeId)(l:List AV):Prop where
 out:RdT P d t l
structure Rdf(P:Program)(d:Nat)(fs:List Field)(l:List AV):Prop where
 out:RdF P d fs l
theorem arg_agg{d base:Nat}{t:TypeId}{v:Value}{cs:Array Value}{x:DataW H}{ps:List MemPlace}(hp:plain P d t=true)(hv:v=.agg cs)
  (hd:DataW.Trod enc P W 0 (fun _=>true) true t v x ps):∃as,Rdd P d t as∧VR (memImm W) noMu (.agg as) v:=by
 subst hv
 obtain⟨fuel,hf⟩:=hd
 obtain⟨as,h1,h2,h3,_,_⟩:=read_plain d hp hf
 exact⟨as,⟨h1⟩,by simp only[VR];exact⟨_,rfl,h2,h3⟩⟩
end
section
variable {P:Program} {d:Nat} {t e:TypeId} {l:List AV}
theorem rd_int{k:IntKind}(ht:P.underlying t=some (.int k))(h:Rdd P (d+1) t l):∃n,(Lit.int k n).wf=true∧l=[.lit (.int k n)]:=by
 have h:=h.out;simpa only[RdT,ht] using h
theorem rd_bool(ht:P.underlying t=some .bool)(h:Rdd P (d+1) t l):∃b,l=[.lit (.bool b)]:=by
 have h:=h.out;simpa only[RdT,ht] using h
theorem rd_slice(ht:P.underlying t=some (.slice e))(h:Rdd P (d+1) t l):
  ∃(a:AV)(ls:List (List AV)),l=[a]∧ls.length≤maxLen∧(∀x∈ls,Rdd P d e x)∧Sl (P.cellsOf e) a (ls.map (wrapAs P e)):=by
 have h:=h.out
 simp only[RdT,ht]at h
 rcases h with rfl | ⟨ls,h1,h2,rfl⟩
 ·exact⟨_,[],rfl,Nat.zero_le _,by simp,.inr (.inr ⟨rfl,rfl⟩)⟩
 ·exact⟨_,ls,rfl,h1,fun x hx=>⟨h2 x hx⟩,.inr (.inl rfl)⟩
theorem rd_struct{fs:Array Field}(ht:P.underlying t=some (.struct fs))(h:Rdd P (d+1) t l):Rdf P d fs.toList l:=by
 have h:=h.out;exact⟨by simpa only[RdT,ht] using h⟩
theorem rd_array{n:Nat}(ht:P.underlying t=some (.array n e))(h:Rdd P (d+1) t l):∃ls:List (List AV),ls.length=n∧(∀x∈ls,Rdd P d e x)∧l=ls.flatten:=by
 have h:=h.out;simp only[RdT,ht]at h;obtain⟨ls,h1,h2,h3⟩:=h;exact⟨ls,h1,fun x hx=>⟨h2 x hx⟩,h3⟩
theorem rdF_cons{f:Field}{fs:List Field}(h:Rdf P (d+1) (f::fs) l):∃a b,l=a++b∧Rdd P d f.type a∧Rdf P d fs b:=by
 have h:=h.out;simp only[RdF]at h;obtain⟨a,b,h1,h2,h3⟩:=h;exact⟨a,b,h1,⟨h2⟩,⟨h3⟩⟩
theorem rdF_nil(h:Rdf P (d+1) [] l):l=[]:=by have h:=h.out;simpa only[RdF] using h
theorem wrap_struct{fs:Array Field}(ht:P.underlying t=some (.struct fs)):wrapAs P t l=.agg l:=by unfold wrapAs;rw[ht]
end
end Go.Abs
