/- Texts of this claim, one behind the other. -/
import Derived.RangeFuncLeaves
import Derived.RangeFuncRecord
import Derived.LoopNIn
set_option linter.unnecessarySimpa false
set_option linter.unusedSimpArgs false
set_option linter.unusedVariables false
namespace Go.Abs
inductive Kd where
 | exact | shared | own
 deriving DecidableEq,Inhabited,Repr
inductive AV where
 | dead
 | lit (v:Value)
 | ptr (b i j:Nat)
 | sl (b sz i len cap:Nat)
 | isl (b i j esz len:Nat)
 | vp (el:AV) (j:Nat)
 | vec (sz:Nat) (k:Kd) (els:List AV)
 | fn (f:FuncId) (cap:List AV)
 | yld (l:Nat)
 | mp (m:Nat)
 | agg (cells:List AV)
 | tup (vs:List AV)
 deriving Inhabited
inductive PT where
 | nil
 | node (v:AV) (l r:PT)
 deriving Inhabited
namespace PT
def get:PT→Nat→AV
 | .nil,_=>.dead
 | .node v _ _,0=>v
 | .node _ l r,n+1=>if n % 2=0 then l.get (n / 2) else r.get (n / 2)
def setD:Nat→PT→Nat→AV→PT
 | 0,t,_,_=>t
 | _+1,.nil,0,x=>.node x .nil .nil
 | _+1,.node _ l r,0,x=>.node x l r
 | d+1,.nil,n+1,x=>if n % 2=0 then .node .dead (setD d .nil (n / 2) x) .nil else .node .dead .nil (setD d .nil (n / 2) x)
 | d+1,.node v l r,n+1,x=>if n % 2=0 then .node v (setD d l (n / 2) x) r else .node v l (setD d r (n / 2) x)
def set(t:PT)(n:Nat)(x:AV):PT:=setD 14 t n x
def map(f:AV→AV):PT→PT
 | .nil=>.nil
 | .node v l r=>.node (f v) (l.map f) (r.map f)
@[simp] theorem get_nil(n:Nat):PT.nil.get n=.dead:=by cases n<;>rfl
theorem get_setD_ne(d:Nat):∀(t:PT)(i j:Nat)(x:AV),i≠j→(setD d t i x).get j=t.get j:=by
 induction d with
 | zero=>intro t i j x h;rfl
 | succ d ih =>
  intro t i j x h
  cases t with
  | nil =>
   cases i with
   | zero =>
    cases j with
    | zero=>exact absurd rfl h
    | succ j=>simp[setD,get]
   | succ i =>
    cases j with
    | zero=>by_cases hi:i % 2=0<;>simp[setD,get,hi]
    | succ j =>
     by_cases hi:i % 2=0<;>by_cases hj:j % 2=0<;>simp[setD,get,hi,hj] <;>
      (rw[ih];simp;omega)
  | node v l r =>
   cases i with
   | zero =>
    cases j with
    | zero=>exact absurd rfl h
    | succ j=>simp[setD,get]
   | succ i =>
    cases j with
    | zero=>by_cases hi:i % 2=0<;>simp[setD,get,hi]
    | succ j =>
     by_cases hi:i % 2=0<;>by_cases hj:j % 2=0<;>simp[setD,get,hi,hj] <;>
      (rw[ih];omega)
theorem get_setD_eq(d:Nat):∀(t:PT)(i:Nat)(x:AV),i+1<2 ^ d→(setD d t i x).get i=x:=by
 induction d with
 | zero=>intro t i x h;simp at h
 | succ d ih =>
  intro t i x h
  have hd:2 ^ (d+1)=2*2 ^ d:=by rw[Nat.pow_succ];omega
  cases i with
  | zero=>cases t<;>simp[setD,get]
  | succ i =>
   have h2:i / 2+1<2 ^ d:=by omega
   cases t<;>by_cases hi:i % 2=0<;>simp[setD,get,hi,ih _ _ _ h2]
theorem get_set_ne{t:PT}{i j:Nat}{x:AV}(h:i≠j):(t.set i x).get j=t.get j:=get_setD_ne 14 t i j x h
theorem get_set_eq{t:PT}{i:Nat}{x:AV}(h:i<16000):(t.set i x).get i=x:=get_setD_eq 14 t i x (by omega)
theorem get_map{f:AV→AV}(hf:f .dead=.dead):∀(t:PT)(i:Nat),(t.map f).get i=f (t.get i)
 | .nil,i=>by simp[map,hf]
 | .node v l r,0=>rfl
 | .node v l r,i+1=>by by_cases hi:i % 2=0<;>simp[map,get,hi,get_map hf l,get_map hf r]
end PT
inductive Tr (α:Type) where
 | nil
 | node (v:Option α) (l r:Tr α)
def Tr.get{α:Type}:Tr α→Nat→Option α
 | .nil,_=>none
 | .node v _ _,0=>v
 | .node _ l r,n+1=>match n % 2 with
  | 0=>l.get (n / 2)
  | _=>r.get (n / 2)
inductive TD where
 | bool | int (k:IntKind) | str | slice (e:TypeId) | array (n:Nat) (e:TypeId) | struct (fs:List (Nat×TypeId)) | map (k e:TypeId) | ptr | other
 deriving Inhabited,DecidableEq
structure TI where
 size:Nat
 bytes:Nat
 zero:List Value
 agg:Bool
 d:TD
 eqp:Option (List Bool)
 deriving Inhabited
def shr:AV→AV
 | .vec sz .own els=>.vec sz .shared els
 | x=>x
def drp:AV→AV
 | .agg l=>.agg (l.map shr)
 | .tup l=>.tup (l.map fun x=>match x with | .agg l=>.agg (l.map shr) | x=>shr x)
 | x=>shr x
def cl0:AV→AV
 | .lit v=>.lit v
 | .vp el j=>.vp el j
 | .vec sz k els=>.vec sz (if k=.own then .shared else k) els
 | .fn f []=>.fn f []
 | _=>.dead
def cl1:AV→AV
 | .agg l=>.agg (l.map cl0)
 | x=>cl0 x
def cl2:AV→AV
 | .tup l=>.tup (l.map cl1)
 | x=>cl1 x
def cellsOf:AV→List AV
 | .agg l=>l
 | x=>[x]
def fit(ti:TI):AV→Bool
 | .agg l=>ti.agg&&l.length == ti.size
 | .tup _=>false
 | .dead=>false
 | .lit (.agg _)=>false
 | .lit (.tuple _)=>false
 | _=>!ti.agg&&ti.size == 1
def isOne:Value→Bool
 | .agg _ | .tuple _=>false
 | _=>true
def ofVal:Value→AV
 | .agg cs=>if cs.toList.all isOne then .agg (cs.toList.map .lit) else .dead
 | v=>.lit v
def zeroAV(ti:TI):Option AV :=
 if ti.agg then some (.agg (ti.zero.map .lit)) else match ti.zero with | [v]=>some (.lit v) | _=>none
def isScal:AV→Bool
 | .agg _ | .tup _ | .dead | .lit (.agg _) | .lit (.tuple _)=>false
 | _=>true
def elPart(ti:TI)(el:AV)(j:Nat):Option AV :=
 match el with
 | .agg l =>
  if ti.agg then (if j+ti.size≤l.length then some (.agg (((l.drop j).take ti.size).map shr)) else none)
  else (l[j]?).map shr
 | x=>if isScal x=true∧ti.agg=false∧j=0 then some (shr x) else none
def elSet(ti:TI)(el:AV)(j:Nat)(x:AV):Option AV :=
 if fit ti x=false then none else
 match el with
 | .agg l=>if j+ti.size≤l.length then some (.agg (l.take j++cellsOf x++l.drop (j+ti.size))) else none
 | .tup _=>none
 | _=>if ti.agg=false∧j=0 then some x else none
def shut0:AV→Bool
 | .lit _ | .vp .. | .vec .. | .fn _ []=>true
 | _=>false
def shut1:AV→Bool
 | .agg l=>l.all shut0
 | x=>shut0 x
inductive LS where
 | ready | busy | done | exhausted
 deriving DecidableEq,Inhabited
inductive Ex where
 | normal | exit (id:Nat) | ret
 deriving DecidableEq,Inhabited
structure ALoop where
 fn:FuncId
 nt:Nat
 fr:PT
 params:List Tmp
 assign:Code
 body:Code
 state:LS
 pending:Option Ex
 deriving Inhabited
inductive ABlock where
 | cells (sz:Nat) (elem:TypeId) (els:List AV)
 | mapo (es:List (AV×AV))
 | loop (r:ALoop)
 | gone
 | res
 deriving Inhabited
abbrev Hp:=List ABlock
def frz0(n:Nat)(H:Hp):AV→AV
 | .sl b _ i len cap=>if b<n then .dead else match H[b]? with
  | some (.cells sz _ els)=>if i+len≤els.length∧len≤cap then .vec sz .shared (((els.drop i).take len).map cl1) else .dead
  | _=>.dead
 | x=>cl0 x
def frz1(n:Nat)(H:Hp):AV→AV
 | .agg l=>.agg (l.map (frz0 n H))
 | x=>frz0 n H x
def frz(n:Nat)(H:Hp):AV→AV
 | .tup l=>.tup (l.map (frz1 n H))
 | .vec sz k els=>.vec sz k els
 | x=>frz1 n H x
def kill0(n:Nat):AV→AV
 | .ptr b i j=>if b<n then .ptr b i j else .dead
 | .sl b z i l c=>if b<n then .sl b z i l c else .dead
 | .isl b i j e l=>if b<n then .isl b i j e l else .dead
 | .yld l=>if l<n then .yld l else .dead
 | .mp m=>if m<n then .mp m else .dead
 | .fn f cap=>if cap.all (fun x=>match x with | .ptr b _ _=>decide (b<n) | _=>false) then .fn f cap else .dead
 | .agg _=>.dead
 | .tup _=>.dead
 | x=>x
def kill1(n:Nat):AV→AV
 | .agg l=>.agg (l.map (kill0 n))
 | x=>kill0 n x
def kill(n:Nat):AV→AV
 | .tup l=>.tup (l.map (kill1 n))
 | x=>kill1 n x
def killB(n:Nat):ABlock→ABlock
 | .cells sz e els=>.cells sz e (els.map (kill1 n))
 | .mapo es=>.mapo es
 | .loop r=>.loop { r with fr:=r.fr.map (kill n) }
 | .gone=>.gone
 | .res=>.gone
structure Pol where
 pure:FuncId→Bool
 quiet:FuncId→Bool
 heap:FuncId→Tmp→Bool
 frz:FuncId→Tmp→Bool
 keep:FuncId→Bool
structure Cx where
 fns:FuncId→Option Func
 T:TypeId→Option TI
 pol:Pol
def ev(fr:PT):Operand→AV
 | .tmp t=>shr (fr.get t)
 | .const v=>ofVal v
 | .func f=>.fn f []
 | .global _=>.dead
def raw(fr:PT):Operand→AV
 | .tmp t=>fr.get t
 | x=>ev fr x
def wrapK(k:IntKind)(n:Int):Int :=
 match k with
 | .i64=>if -9223372036854775808≤n∧n≤9223372036854775807 then n else k.wrap n
 | .u8=>if 0≤n∧n≤255 then n else k.wrap n
 | k=>k.wrap n
def arith(k:IntKind)(op:BinOp)(a b:Int):Option Int :=
 match op with
 | .add=>some (wrapK k (a+b))
 | .sub=>some (wrapK k (a-b))
 | .mul=>some (wrapK k (a*b))
 | .quo=>if b=0 then none else some (wrapK k (a.tdiv b))
 | .rem=>if b=0 then none else some (a.tmod b)
 | .and=>some (k.wrap ((BitVec.ofInt k.bits a) &&& (BitVec.ofInt k.bits b)).toNat)
 | .or=>some (k.wrap ((BitVec.ofInt k.bits a) ||| (BitVec.ofInt k.bits b)).toNat)
 | .xor=>some (k.wrap ((BitVec.ofInt k.bits a) ^^^ (BitVec.ofInt k.bits b)).toNat)
 | .andNot=>some (k.wrap ((BitVec.ofInt k.bits a) &&& ~~~(BitVec.ofInt k.bits b)).toNat)
 | _=>none
def cmpI(op:BinOp)(a b:Int):Option Bool :=
 match op with
 | .eql=>some (a == b)
 | .neq=>some (a != b)
 | .lss=>some (decide (a<b))
 | .leq=>some (decide (a≤b))
 | .gtr=>some (decide (a > b))
 | .geq=>some (decide (a ≥ b))
 | _=>none
def shiftI(k:IntKind)(op:BinOp)(a b:Int):Option Int :=
 if b<0 then none else
 match op with
 | .shl=>some (k.wrap (a*2 ^ (min b.toNat k.bits)))
 | .shr=>some (a.fdiv (2 ^ (min b.toNat k.bits)))
 | _=>none
def binI(op:BinOp)(k:IntKind)(a:Int)(k':IntKind)(b:Int):Option AV :=
 match op with
 | .shl | .shr=>(shiftI k op a b).map fun n=>.lit (.int k n)
 | .add | .sub | .mul | .quo | .rem | .and | .or | .xor | .andNot=>if k=k' then (arith k op a b).map fun n=>.lit (.int k n) else none
 | _=>if k=k' then (cmpI op a b).map fun c=>.lit (.bool c) else none
def cellEq:Bool→Value→Value→Option Bool
 | false,.int k a,.int k' b=>if k=k' then some (a == b) else none
 | true,.bool a,.bool b=>some (a == b)
 | _,_,_=>none
def cellsEq:List Bool→List AV→List AV→Option Bool
 | [],[],[]=>some true
 | t::ts,.lit a::as,.lit b::bs=>match cellEq t a b,cellsEq ts as bs with
  | some x,some y=>some (x&&y)
  | _,_=>none
 | _,_,_=>none
def nilEq:AV→AV→Option Bool
 | .lit (.pointer none),.lit (.pointer none)=>some true
 | .ptr ..,.lit (.pointer none)=>some false
 | .lit (.pointer none),.ptr .. => some false
 | .vp ..,.lit (.pointer none)=>some false
 | .lit (.pointer none),.vp .. => some false
 | .lit (.slice none _ _),.lit (.slice none _ _)=>some true
 | .vec ..,.lit (.slice none _ _)=>some false
 | .lit (.slice none _ _),.vec .. => some false
 | .sl ..,.lit (.slice none _ _)=>some false
 | .lit (.slice none _ _),.sl .. => some false
 | _,_=>none
def nilTy(T:TypeId→Option TI)(t:TypeId):AV→Bool
 | .lit (.pointer none) | .ptr .. | .vp .. => match T t with | some { d:=.ptr,.. }=>true | _=>false
 | _=>match T t with | some { d:=.slice _,.. }=>true | _=>false
def neg?(op:BinOp)(b:Bool):Option AV :=
 match op with
 | .eql=>some (.lit (.bool b))
 | .neq=>some (.lit (.bool !b))
 | _=>none
def abin(T:TypeId→Option TI)(op:BinOp)(t:TypeId)(x y:AV):Option AV :=
 match x,y with
 | .lit (.int k a),.lit (.int k' b)=>binI op k a k' b
 | .lit (.bool a),.lit (.bool b)=>match T t with
  | some { d:=.bool,.. }=>neg? op (a == b)
  | _=>none
 | .lit (.string a),.lit (.string b)=>match op with
  | .add=>if a.size+b.size≤2 ^ 40 then some (.lit (.string (a++b))) else none
  | .eql=>some (.lit (.bool (a.toList == b.toList)))
  | .neq=>some (.lit (.bool !(a.toList == b.toList)))
  | _=>none
 | .agg xs,.agg ys=>match T t with
  | some { eqp:=some ks,.. }=>(cellsEq ks xs ys).bind (neg? op)
  | _=>none
 | x,y=>if nilTy T t x&&nilTy T t y then (nilEq x y).bind (neg? op) else none
def aun(op:UnOp)(x:AV):Option AV :=
 match op,x with
 | .not,.lit (.bool b)=>some (.lit (.bool !b))
 | .neg,.lit (.int k n)=>some (.lit (.int k (wrapK k (0-n))))
 | _,_=>none
def aconv(T:TypeId→Option TI)(src dst:TypeId)(x:AV):Option AV :=
 match T src,T dst,x with
 | some _,some { d:=.int k,.. },.lit (.int _ n)=>some (.lit (.int k (wrapK k n)))
 | _,_,_=>none
def aminmax(mx:Bool):List AV→Option AV
 | []=>none
 | .lit (.int k x)::rest=>go k x rest
 | _=>none
where
 go (k:IntKind) (x:Int):List AV→Option AV
  | []=>some (.lit (.int k x))
  | .lit (.int _ y)::rest=>go k (if mx then (if y > x then y else x) else (if y<x then y else x)) rest
  | _=>none
def alen(T:TypeId→Option TI)(t:TypeId)(H:Hp)(x:AV):Option AV :=
 match T t with
 | some { d:=.str,.. }=>match x with
  | .lit (.string s)=>some (.lit (.int .i64 s.size))
  | _=>none
 | some { d:=.array n _,.. }=>some (.lit (.int .i64 n))
 | some { d:=.slice _,.. }=>match x with
  | .vec _ _ els=>some (.lit (.int .i64 els.length))
  | .sl _ _ _ len _=>some (.lit (.int .i64 len))
  | .lit (.slice none len _)=>some (.lit (.int .i64 len))
  | _=>none
 | some { d:=.map _ _,.. }=>match x with
  | .mp m=>match H[m]? with
   | some (.mapo es)=>some (.lit (.int .i64 es.length))
   | _=>none
  | .lit (.map none)=>some (.lit (.int .i64 0))
  | _=>none
 | _=>none
def items(sz:Nat)(H:Hp):AV→Option (List AV)
 | .vec sz' _ els=>if sz'=sz then some els else none
 | .lit (.slice none 0 _)=>some []
 | .sl b _ i len _=>match H[b]? with
  | some (.cells sz' _ els)=>if sz'=sz∧i+len≤els.length then some (((els.drop i).take len).map cl1) else none
  | _=>none
 | _=>none
def aappend(T:TypeId→Option TI)(t:TypeId)(H:Hp)(s x:AV):Option AV :=
 match T t with
 | some { d:=.slice e,.. }=>match T e with
  | some te=>match items te.size H x with
   | some []=>(match s with | .lit (.slice none 0 0)=>some s | .vec .. => some s | _=>none)
   | some xs =>
    match s with
    | .lit (.slice none 0 0)=>if 0<te.size∧xs.length*(te.bytes+1)≤2 ^ 40 then some (.vec te.size .own xs) else none
    | .vec sz k els=>if k≠.shared∧sz=te.size∧0<te.size∧(els.length+xs.length)*(te.bytes+1)≤2 ^ 40 then some (.vec sz .own (els++xs)) else none
    | _=>none
   | none=>none
  | none=>none
 | _=>none
def aappendB(T:TypeId→Option TI)(t:TypeId)(H:Hp)(s x:AV):Option (List AV×Nat×TypeId) :=
 match T t with
 | some { d:=.slice e,.. }=>match T e with
  | some te=>match items te.size H x with
   | some xs =>
    match s with
    | .lit (.slice none 0 0)=>if xs.isEmpty=false∧xs.all (fit te)=true∧0<te.size∧xs.length*(te.bytes+1)≤2 ^ 40 then some (xs,te.size,e) else none
    | .vec sz .exact els=>if xs.isEmpty=false∧(els++xs).all (fit te)=true∧sz=te.size∧0<te.size∧(els.length+xs.length)*(te.bytes+1)≤2 ^ 40 then some (els++xs,te.size,e) else none
    | _=>none
   | none=>none
  | none=>none
 | _=>none
def natOf:AV→Option Nat
 | .lit (.int _ n)=>if 0≤n then some n.toNat else none
 | _=>none
def natOr(d:Nat):Option AV→Option Nat
 | none=>some d
 | some x=>natOf x
def aslice(T:TypeId→Option TI)(t:TypeId)(x:AV)(lo hi mx:Option AV):Option AV :=
 match x with
 | .vec sz k els =>
  match T t with
  | some { d:=.slice e,.. } =>
   if (T e).map (·.size)=some sz∧(mx.isSome→hi.isSome) then
   match natOr 0 lo,natOr els.length hi with
   | some l,some h =>
    match mx with
    | none=>if l≤h∧h≤els.length then some (.vec sz (if h=els.length∧k=.exact then .exact else .shared) ((els.drop l).take (h-l))) else none
    | some m=>match natOf m with
     | some m=>if l≤h∧h≤m∧m≤els.length then some (.vec sz (if m=h then .exact else .shared) ((els.drop l).take (h-l))) else none
     | none=>none
   | _,_=>none
   else none
  | _=>none
 | .lit (.slice none 0 0) =>
  match T t with
  | some { d:=.slice e,.. } =>
   match natOr 0 lo,natOr 0 hi,natOr 0 mx with
   | some 0,some 0,some 0=>if (T e).isSome∧(mx.isSome→hi.isSome) then some (.lit (.slice none 0 0)) else none
   | _,_,_=>none
  | _=>none
 | .sl b sz i len cap =>
  match T t with
  | some { d:=.slice e,.. }=>match T e with
   | some te =>
    match natOr 0 lo,natOr len hi,natOr cap mx with
    | some l,some h,some m =>
     if sz=te.size∧l≤h∧h≤m∧m≤cap∧(mx.isSome→hi.isSome) then (if m=l then some (.vec te.size (if mx.isSome then .exact else .shared) []) else some (.sl b sz (i+l) (h-l) (m-l))) else none
    | _,_,_=>none
   | none=>none
  | _=>none
 | .ptr b i j =>
  match T t with
  | some { d:=.array n e,.. }=>match T e with
   | some te=>if lo.isNone∧hi.isNone∧mx.isNone then some (.isl b i j te.size n) else none
   | none=>none
  | _=>none
 | .lit (.string s) =>
  match T t,mx with
  | some { d:=.str,.. },none =>
   match natOr 0 lo,natOr s.size hi with
   | some l,some h=>if l≤h∧h≤s.size then some (.lit (.string (s.extract l h))) else none
   | _,_=>none
  | _,_=>none
 | _=>none
def aindexAddr(T:TypeId→Option TI)(t:TypeId)(x ix:AV):Option AV :=
 match natOf ix,T t with
 | some n,some { d:=.slice e,.. }=>match T e with
  | some te=>match x with
   | .vec sz _ els=>if sz=te.size then (els[n]?).map (.vp · 0) else none
   | .sl b sz i len _=>if sz=te.size∧n<len then some (.ptr b (i+n) 0) else none
   | _=>none
  | none=>none
 | some n,some { d:=.array m e,.. }=>match T e with
  | some te=>if n<m then match x with
   | .ptr b i j=>some (.ptr b i (j+n*te.size))
   | .vp el j=>some (.vp el (j+n*te.size))
   | _=>none
   else none
  | none=>none
 | _,_=>none
def afieldAddr(T:TypeId→Option TI)(t:TypeId)(x:AV)(f:Nat):Option AV :=
 match T t with
 | some { d:=.struct fs,.. }=>match fs[f]? with
  | some (off,ft)=>match T ft with
   | some ti=>if ti.size=0 then none else match x with
    | .ptr b i j=>some (.ptr b i (j+off))
    | .vp el j=>some (.vp el (j+off))
    | _=>none
   | none=>none
  | none=>none
 | _=>none
def apart(ti:TI)(cells:List AV)(off:Nat):Option AV :=
 if ti.agg then (if off+ti.size≤cells.length then some (.agg ((cells.drop off).take ti.size)) else none) else cells[off]?
def afield(T:TypeId→Option TI)(t:TypeId)(x:AV)(f:Nat):Option AV :=
 match T t,x with
 | some { d:=.struct fs,.. },.agg cells=>match fs[f]? with
  | some (off,ft)=>match T ft with
   | some ti=>apart ti cells off
   | none=>none
  | none=>none
 | _,_=>none
def aindex(T:TypeId→Option TI)(t:TypeId)(x ix:AV):Option AV :=
 match natOf ix,T t,x with
 | some n,some { d:=.array m e,.. },.agg cells=>match T e with
  | some te=>if n<m then apart te cells (n*te.size) else none
  | none=>none
 | some n,some { d:=.str,.. },.lit (.string s)=>(s[n]?).map fun b=>.lit (.int .u8 b.toNat)
 | _,_,_=>none
def aload(T:TypeId→Option TI)(t:TypeId)(H:Hp)(a:AV):Option AV :=
 match T t with
 | some ti=>match a with
  | .ptr b i j=>match H[b]? with
   | some (.cells _ _ els)=>match els[i]? with
    | some el=>elPart ti el j
    | none=>none
   | _=>none
  | .vp el j=>elPart ti el j
  | _=>none
 | none=>none
def astore(T:TypeId→Option TI)(t:TypeId)(H:Hp)(a x:AV):Option Hp :=
 match T t,a with
 | some ti,.ptr b i j=>match H[b]? with
  | some (.cells sz e els)=>match els[i]? with
   | some el=>match elSet ti el j x with
    | some el'=>some (H.set b (.cells sz e (els.set i el')))
    | none=>none
   | none=>none
  | _=>none
 | _,_=>none
def atake(H:Hp)(a:AV):Option (AV×Nat×Hp) :=
 match a with
 | .ptr b i j=>match H[b]? with
  | some (.cells sz e els)=>match els[i]? with
   | some (.vec s .own xs)=>if j=0 then some (.vec s .own xs,b,H.set b (.cells sz e (els.set i (.vec s .shared xs)))) else none
   | some (.agg l)=>match l[j]? with
    | some (.vec s .own xs)=>some (.vec s .own xs,b,H.set b (.cells sz e (els.set i (.agg (l.set j (.vec s .shared xs))))))
    | _=>none
   | _=>none
  | _=>none
 | _=>none
def afill:List AV→List (Nat×TI×AV)→Option (List AV)
 | z,[]=>some z
 | z,(off,ti,x)::rest=>if fit ti x=true∧off+ti.size≤z.length then afill (z.take off++cellsOf x++z.drop (off+ti.size)) rest else none
def abuild(T:TypeId→Option TI)(t:TypeId)(parts:List (Nat×AV)):Option AV :=
 match T t with
 | some ti=>if ti.agg=false then none else
  let z:=ti.zero.map AV.lit
  match ti.d with
  | .struct fs=>if fs.all (fun p=>(T p.2).isSome)=false then none else match parts.mapM (fun (i,x)=>match fs[i]? with | some (off,ft)=>(T ft).map fun tf=>(off,tf,x) | none=>none) with
   | some ps=>(afill z ps).map .agg
   | none=>none
  | .array _ e=>match T e with
   | some te=>(afill z (parts.map fun (i,x)=>(i*te.size,te,x))).map .agg
   | none=>none
  | _=>none
 | none=>none
def aplace(te:TI):List AV→List (Nat×AV)→Option (List AV)
 | z,[]=>some z
 | z,(i,x)::rest=>if fit te x=true∧i<z.length then aplace te (z.set i x) rest else none
def laid(heap:Bool)(sz:Nat)(e:TypeId)(els:List AV)(H:Hp):AV×Hp :=
 if heap then (.sl H.length sz 0 els.length els.length,H++[.cells sz e els]) else (.vec sz .exact (els.map cl1),H)
def abuildSlice(T:TypeId→Option TI)(heap:Bool)(t:TypeId)(len:Nat)(parts:List (Nat×AV))(H:Hp):Option (AV×Hp) :=
 match T t with
 | some { d:=.slice e,.. }=>match T e with
  | some te=>match zeroAV te with
   | some z=>if te.size=0∨len*te.size > 2 ^ 24 then none else (aplace te (List.replicate len z) parts).map fun els=>laid heap te.size e els H
   | none=>none
  | none=>none
 | _=>none
def amakeSlice(T:TypeId→Option TI)(heap:Bool)(t:TypeId)(l c:AV)(H:Hp):Option (AV×Hp) :=
 match T t with
 | some { d:=.slice e,.. }=>match T e with
  | some te=>match zeroAV te,l,c with
   | some z,.lit (.int .i64 l),.lit (.int .i64 c)=>if 0≤l∧l=c∧te.size≠0∧l*(te.bytes+1)≤2 ^ 40 then some (laid heap te.size e (List.replicate l.toNat z) H) else none
   | _,_,_=>none
  | none=>none
 | _=>none
def acopy(T:TypeId→Option TI)(t:TypeId)(H:Hp)(dst src:AV):Option (Nat×Nat×ABlock) :=
 match T t,dst with
 | some { d:=.slice e,.. },.isl b i j esz len=>match T e with
  | some te=>if te.size=esz then match items esz H src,H[b]? with
   | some xs,some (.cells sz el els)=>match els[i]? with
    | some (.agg l) =>
     let n:=min xs.length len
     if j+n*esz≤l.length∧xs.all (fit te)=true then some (n,b,.cells sz el (els.set i (.agg (l.take j++(xs.take n).flatMap cellsOf++l.drop (j+n*esz))))) else none
    | _=>none
   | _,_=>none
   else none
  | none=>none
 | _,_=>none
def keyEq(T:TypeId→Option TI)(t:TypeId):AV→AV→Option Bool
 | .lit a,.lit b=>match T t with
  | some { d:=.int _,.. }=>cellEq false a b
  | _=>none
 | .agg a,.agg b=>match T t with
  | some { eqp:=some ks,.. }=>cellsEq ks a b
  | _=>none
 | _,_=>none
def keyOk(T:TypeId→Option TI)(t:TypeId):AV→Bool
 | .lit (.int _ _)=>match T t with
  | some { d:=.int _,.. }=>true
  | _=>false
 | .agg l=>match T t with
  | some { eqp:=some ks,.. }=>ks.length == l.length
  | _=>false
 | _=>false
def mfind(T:TypeId→Option TI)(t:TypeId)(k:AV):List (AV×AV)→Nat→Option (Option (Nat×AV))
 | [],_=>some none
 | (k',v)::es,i=>match keyEq T t k k' with
  | some true=>some (some (i,v))
  | some false=>mfind T t k es (i+1)
  | none=>none
inductive Rd where
 | no | one (b:Nat) | all
 deriving DecidableEq,Inhabited
structure Eff where
 v:AV
 un:Option Tmp:=none
 up:Option (Nat×ABlock):=none
 rd:Rd:=.no
 tk:Bool:=false
 deriving Inhabited
def Eff.of(v:AV):Eff:={ v }
def Eff.rdd(r:Rd)(v:AV):Eff:={ v,rd:=r }
def rdOf:AV→Rd
 | .ptr b _ _ | .sl b _ _ _ _ | .isl b _ _ _ _=>.one b
 | .mp m=>.one m
 | _=>.no
def owner(fr:PT):Operand→Option Tmp
 | .tmp t=>match fr.get t with
  | .vec _ .own _=>some t
  | _=>none
 | _=>none
def isTmp(d:Tmp):Option Operand→Bool
 | some (.tmp t)=>t == d
 | _=>false
def takesBy(d:Tmp)(o:Oper):Bool :=
 match o.op with
 | .call c=>match c.callee with
  | .builtin .append=>isTmp d c.args[0]?
  | _=>false
 | _=>false
def takes(ops:Array Oper)(d:Tmp):Bool:=ops.toList.any (takesBy d)
def freeze(H:Hp)(ro:Nat)(v:AV):Option Eff :=
 match v with
 | .sl b _ i len cap=>if b<ro then none else match H[b]? with
  | some (.cells sz _ els)=>if i+len≤els.length∧len≤cap then some { v:=.vec sz .shared (((els.drop i).take len).map cl1),up:=some (b,.gone),rd:=.one b } else none
  | _=>none
 | _=>none
def frzL(H:Hp)(ro:Nat):List AV→Option (List AV×Nat)
 | []=>none
 | x::l=>match freeze H ro x with
  | some e=>match e.up with
   | some (b,_)=>some (e.v::l,b)
   | none=>none
  | none=>(frzL H ro l).map fun p=>(x::p.1,p.2)
def freezeA(H:Hp)(ro:Nat)(v:AV):Option Eff :=
 match v with
 | .agg l=>match frzL H ro l with
  | some (l',b)=>some { v:=.agg l',up:=some (b,.gone),rd:=.one b }
  | none=>some (.of (.agg l))
 | _=>freeze H ro v
def free(ro:Nat)(H:Hp)(nm:Nat):Bool :=
 match H[nm]? with
 | none=>nm == H.length&&Nat.ble ro nm
 | some .res=>Nat.ble ro nm
 | _=>false
def lMove(cx:Cx)(ro:Nat)(fn:FuncId)(ops:Array Oper)(d:Tmp)(fr:PT)(H:Hp)(x:Operand):Option Eff :=
 if cx.pol.frz fn d then freeze H ro (ev fr x)
 else match owner fr x with
  | some t=>if takes ops d then some { v:=fr.get t,un:=some t } else some (.of (ev fr x))
  | none=>some (.of (ev fr x))
def lPick(fr:PT)(c a b:Operand):Option Eff :=
 match ev fr c with
 | .lit (.bool true)=>some (.of (ev fr a))
 | .lit (.bool false)=>some (.of (ev fr b))
 | _=>none
def lAlloc(T:TypeId→Option TI)(ro nm:Nat)(H:Hp)(e:TypeId):Option Eff :=
 match T e with
 | some te=>match zeroAV te with
  | some z=>if te.size=0∨free ro H nm=false then none else some { v:=.ptr nm 0 0,up:=some (nm,.cells te.size e [z]) }
  | none=>none
 | none=>none
def lBox(T:TypeId→Option TI)(ro nm:Nat)(H:Hp)(e:TypeId)(x:AV):Option Eff :=
 match T e with
 | some te=>if te.size=0∨fit te x=false∨free ro H nm=false then none else some { v:=.ptr nm 0 0,up:=some (nm,.cells te.size e [drp x]) }
 | none=>none
def lLaid(ro nm:Nat)(H:Hp):Option (AV×Hp)→Option Eff
 | some (_,[.cells sz e els])=>if free ro H nm=false then none else some { v:=.sl nm sz 0 els.length els.length,up:=some (nm,.cells sz e els) }
 | _=>none
def lBuildSlice(T:TypeId→Option TI)(heap:Bool)(ro nm:Nat)(H:Hp)(t:TypeId)(len:Nat)(parts:List (Nat×AV)):Option Eff :=
 if heap then lLaid ro nm H (abuildSlice T true t len (parts.map fun (i,x)=>(i,drp x)) [])
 else (abuildSlice T false t len parts []).map fun p=>.of p.1
def lMakeSlice(T:TypeId→Option TI)(heap:Bool)(ro nm:Nat)(H:Hp)(t:TypeId)(l c:AV):Option Eff :=
 if heap then lLaid ro nm H (amakeSlice T true t l c [])
 else (amakeSlice T false t l c []).map fun p=>.of p.1
def lTake(ti:Option TI)(ro:Nat)(v:AV)(b:Nat)(H':Hp):Option Eff :=
 if b<ro∨ti.map (·.agg)≠some false then none else some { v,up:=(H'[b]?).map fun blk=>(b,blk),rd:=.one b,tk:=true }
def lLoad(cx:Cx)(ro:Nat)(fn:FuncId)(ops:Array Oper)(d:Tmp)(H:Hp)(t:TypeId)(x:AV):Option Eff :=
 if cx.pol.frz fn d then ((aload cx.T t H x).bind (freezeA H ro)).map fun e=>{ e with rd:=.all }
 else if takes ops d then match atake H x with
  | some (v,b,H')=>lTake (cx.T t) ro v b H'
  | none=>(aload cx.T t H x).map (.rdd .all)
 else (aload cx.T t H x).map (.rdd (rdOf x))
def lStore(T:TypeId→Option TI)(ro:Nat)(fr:PT)(H:Hp)(t:TypeId)(a:AV)(x:Operand):Option Eff :=
 match a with
 | .ptr b i j=>if b<ro then none else match astore T t H (.ptr b i j) (match owner fr x with | some s=>fr.get s | none=>drp (ev fr x)) with
  | some H'=>some { v:=.tup [],un:=owner fr x,up:=(H'[b]?).map fun blk=>(b,blk),rd:=.one b }
  | none=>none
 | _=>none
def lNilCheck:AV→Option Eff
 | .ptr b i j=>some (.of (.ptr b i j))
 | .vp el j=>some (.of (.vp el j))
 | .fn f cap=>some (.of (.fn f cap))
 | .yld l=>some (.of (.yld l))
 | _=>none
def lMakeFunc(fr:PT)(f:Fn)(first captured:Array Operand):Option Eff :=
 match f with
 | .func f=>if first.isEmpty then some (.of (.fn f (captured.toList.map (ev fr)))) else none
 | _=>none
def lExtract(x:AV)(i:Nat):Option Eff :=
 match x with
 | .tup vs=>(vs[i]?).map fun v=>.of (drp v)
 | _=>none
def lFound(ok:Bool)(z:AV)(m:Nat):Option (Option (Nat×AV))→Option Eff
 | some (some (_,v))=>some { v:=if ok then .tup [v,.lit (.bool true)] else v,rd:=.one m }
 | some none=>some { v:=if ok then .tup [z,.lit (.bool false)] else z,rd:=.one m }
 | none=>none
def lLookup(T:TypeId→Option TI)(H:Hp)(t:TypeId)(x k:AV)(ok:Bool):Option Eff :=
 match T t with
 | some ti=>match ti.d with
  | .map kt e=>match T e with
   | some te=>if keyOk T kt k=false then none else match zeroAV te,x with
    | some z,.mp m=>match H[m]? with
     | some (.mapo es)=>lFound ok z m (mfind T kt k es 0)
     | _=>none
    | _,_=>none
   | none=>none
  | _=>none
 | none=>none
def lUpd(m:Nat)(es:List (AV×AV))(k x:AV):Option (Option (Nat×AV))→Option Eff
 | some (some (i,_))=>some { v:=.tup [],up:=some (m,.mapo (es.set i (k,x))),rd:=.one m }
 | some none=>some { v:=.tup [],up:=some (m,.mapo (es++[(k,x)])),rd:=.one m }
 | none=>none
def lMapUpdate(T:TypeId→Option TI)(ro:Nat)(H:Hp)(t:TypeId)(x k v:AV):Option Eff :=
 match T t with
 | some ti=>match ti.d,x with
  | .map kt _,.mp m=>if m<ro∨keyOk T kt k=false then none else match H[m]? with
   | some (.mapo es)=>lUpd m es (cl1 k) (cl1 v) (mfind T kt k es 0)
   | _=>none
  | _,_=>none
 | none=>none
def lDel(m:Nat)(es:List (AV×AV)):Option (Option (Nat×AV))→Option Eff
 | some (some (i,_))=>some { v:=.tup [],up:=some (m,.mapo (es.eraseIdx i)),rd:=.one m }
 | some none=>some { v:=.tup [],up:=some (m,.mapo es),rd:=.one m }
 | none=>none
def lDelete(T:TypeId→Option TI)(ro:Nat)(H:Hp)(t:TypeId)(x k:AV):Option Eff :=
 match T t with
 | some ti=>match ti.d,x with
  | .map kt _,.mp m=>if m<ro∨keyOk T kt k=false then none else match H[m]? with
   | some (.mapo es)=>lDel m es (mfind T kt k es 0)
   | _=>none
  | _,_=>none
 | none=>none
def lAppend(cx:Cx)(fn:FuncId)(ro nm:Nat)(d:Tmp)(fr:PT)(H:Hp)(t:TypeId)(s x:Operand):Option Eff :=
 if cx.pol.heap fn d then match aappendB cx.T t H (raw fr s) (ev fr x) with
  | some (els,sz,e)=>if free ro H nm=false then none else some { v:=.sl nm sz 0 els.length els.length,up:=some (nm,.cells sz e els),rd:=rdOf (ev fr x) }
  | none=>(aappend cx.T t H (raw fr s) (ev fr x)).map fun v=>{ v,un:=owner fr s,rd:=rdOf (ev fr x) }
 else (aappend cx.T t H (raw fr s) (ev fr x)).map fun v=>{ v,un:=owner fr s,rd:=rdOf (ev fr x) }
def lCopy(T:TypeId→Option TI)(ro:Nat)(H:Hp)(t:TypeId)(x y:AV):Option Eff :=
 match acopy T t H x y with
 | some (n,b,blk)=>if b<ro∨rdOf y≠.no then none else some { v:=.lit (.int .i64 n),up:=some (b,blk),rd:=.one b }
 | none=>none
def lenRd:AV→Rd
 | .mp m=>.one m
 | _=>.no
def lBuiltin(cx:Cx)(ro:Nat)(fn:FuncId)(nm:Nat)(d:Tmp)(fr:PT)(H:Hp)(b:Builtin)(args:List Operand)(tys:List TypeId):Option Eff :=
 match b,args,tys with
 | .len,[x],t::_=>(alen cx.T t H (ev fr x)).map (.rdd (lenRd (ev fr x)))
 | .append,[s,x],t::t'::_=>match cx.T t' with
  | some { d:=.slice _,.. }=>lAppend cx fn ro nm d fr H t s x
  | _=>none
 | .min,_,_=>(aminmax false (args.map (ev fr))).map .of
 | .max,_,_=>(aminmax true (args.map (ev fr))).map .of
 | .copy,[x,y],t::_=>lCopy cx.T ro H t (ev fr x) (ev fr y)
 | .delete,[m,k],t::_=>lDelete cx.T ro H t (ev fr m) (ev fr k)
 | _,_,_=>none
def lCall(cx:Cx)(ro:Nat)(fn:FuncId)(nm:Nat)(d:Tmp)(fr:PT)(H:Hp)(c:Call):Option Eff :=
 match c.callee with
 | .builtin b=>lBuiltin cx ro fn nm d fr H b c.args.toList c.argTypes.toList
 | _=>none
def lop(cx:Cx)(ro:Nat)(fn:FuncId)(ops:Array Oper)(nm:Nat)(fr:PT)(H:Hp)(d:Tmp)(op:Op):Option Eff :=
 match op with
 | .move x=>lMove cx ro fn ops d fr H x
 | .assign x=>some { v:=raw fr x,un:=owner fr x }
 | .pick c a b=>lPick fr c a b
 | .alloc e=>lAlloc cx.T ro nm H e
 | .box e x=>lBox cx.T ro nm H e (ev fr x)
 | .build t parts=>(abuild cx.T t (parts.toList.map fun p=>(p.1,ev fr p.2))).map .of
 | .buildSlice t len parts=>lBuildSlice cx.T (cx.pol.heap fn d) ro nm H t len (parts.toList.map fun p=>(p.1,ev fr p.2))
 | .makeSlice t l c=>lMakeSlice cx.T (cx.pol.heap fn d) ro nm H t (ev fr l) (ev fr c)
 | .makeMap _ none=>if free ro H nm=false then none else some { v:=.mp nm,up:=some (nm,.mapo []) }
 | .load t a=>lLoad cx ro fn ops d H t (ev fr a)
 | .store t a x=>lStore cx.T ro fr H t (ev fr a) x
 | .nilCheck x=>lNilCheck (ev fr x)
 | .binOp op t x y _=>(abin cx.T op t (ev fr x) (ev fr y)).map .of
 | .unOp op _ x=>(aun op (ev fr x)).map .of
 | .convert src dst x=>(aconv cx.T src dst (ev fr x)).map .of
 | .makeFunc f first captured=>lMakeFunc fr f first captured
 | .slice t x lo hi mx=>(aslice cx.T t (ev fr x) (lo.map (ev fr)) (hi.map (ev fr)) (mx.map (ev fr))).map .of
 | .fieldAddr t x f=>(afieldAddr cx.T t (ev fr x) f).map .of
 | .field t x f=>(afield cx.T t (ev fr x) f).map .of
 | .indexAddr t x ix=>(aindexAddr cx.T t (ev fr x) (ev fr ix)).map .of
 | .index t x ix=>(aindex cx.T t (ev fr x) (ev fr ix)).map .of
 | .extract t i=>lExtract (ev fr t) i
 | .lookup t x k ok=>lLookup cx.T H t (ev fr x) (ev fr k) ok
 | .mapUpdate t m k x=>lMapUpdate cx.T ro H t (ev fr m) (ev fr k) (ev fr x)
 | .call c=>lCall cx ro fn nm d fr H c
 | _=>none
abbrev Res:=Ex×PT×Hp
structure Hd where
 call:Nat→FuncId→List AV→Hp→Option (AV×Hp)
 loop:Nat→FuncId→Nat→Code→PT→Hp→Option Res
 code:Nat→FuncId→Nat→Code→PT→Hp→Option Res
def setArgs:List (Tmp×AV)→PT→PT
 | [],fr=>fr
 | (t,a)::l,fr=>setArgs l (fr.set t (drp a))
def endRound(l:Nat):Option Res→Option (AV×Hp)
 | some (e,_,H)=>match H[l]? with
  | some (.loop r)=>some (.lit (.bool (e == .normal)),H.set l (.loop { r with state:=if e=.normal then .ready else .done,pending:=if e=.normal then none else some e }))
  | _=>none
 | none=>none
def bodyRound(h:Hd)(ro l:Nat)(r0:ALoop):Option Res→Option (AV×Hp)
 | some (.normal,fr,H)=>match H[l]? with
  | some (.loop r)=>if r.state=.ready then endRound l (h.code ro r0.fn r0.nt r0.body fr (H.set l (.loop { r with state:=.busy }))) else none
  | _=>none
 | _=>none
def round(h:Hd)(ro l:Nat)(args:List AV)(H:Hp):Option (AV×Hp) :=
 if l<ro then none else
 match H[l]? with
 | some (.loop r) =>
  if r.state=.ready∧args.length=r.params.length∧r.params.all (· < r.nt) then
   bodyRound h ro l r (h.code ro r.fn r.nt r.assign (setArgs (r.params.zip args) r.fr) H)
  else none
 | _=>none
inductive Way where
 | pure | quiet | full
 deriving DecidableEq
def way(cx:Cx)(g:FuncId)(args:List AV):Way :=
 if cx.pol.pure g then (if args.all shut1 then .pure else .quiet) else if cx.pol.quiet g then .quiet else .full
def purely(r:Option (AV×Hp))(n:Nat)(H:Hp):Option (AV×Hp) :=
 match r with
 | some (v,H')=>some (frz n H' v,H)
 | none=>none
def docall(h:Hd)(ro:Nat)(g:FuncId)(args:List AV)(H:Hp):Way→Option (AV×Hp)
 | .pure=>purely (h.call 0 g (args.map cl2) []) 0 H
 | .quiet=>purely (h.call H.length g (args.map drp) H) H.length H
 | .full=>h.call ro g (args.map drp) H
structure Fp where
 rs:List Tmp
 ws:List Tmp
 rd:Rd
 wr:Rd
 tk:Rd
 kp:Nat→Bool
def tmpsOf(ops:Array Oper)(o:Oper):List Tmp :=
 (o.op.operands.toList.filterMap fun | .tmp t=>some t | _=>none) ++
 (match o.guard with
  | some (g,_)=>((ops[g]?).bind (·.dst)).toList
  | none=>[])
def wantsV(want:Bool):AV→Option Bool
 | .lit (.bool b)=>some (b == want)
 | .tup []=>some false
 | _=>none
def wants(ops:Array Oper)(fr:PT)(o:Oper):Option Bool :=
 match o.guard with
 | none=>some true
 | some (j,want)=>match (ops[j]?).bind (·.dst) with
  | none=>none
  | some d=>wantsV want (fr.get d)
def putD(nt:Nat)(dst:Option Tmp)(v:AV)(fr:PT):Option PT :=
 match dst with
 | none=>some fr
 | some d=>if d<nt then some (fr.set d v) else none
def unownT(un:Option Tmp)(fr:PT):PT :=
 match un with
 | none=>fr
 | some t=>fr.set t (shr (fr.get t))
def putB(H:Hp):Option (Nat×ABlock)→Hp
 | none=>H
 | some (b,blk)=>if b=H.length then H++[blk] else H.set b blk
def blockOf:Option (Nat×ABlock)→Rd
 | some (b,_)=>.one b
 | none=>.no
def kpNo:Hp→Nat→Bool:=fun _ _=>false
open Classical in
noncomputable def kpAs(H:Hp):Hp→Nat→Bool:=fun H' b=>decide (H'[b]?=H[b]?)
def stepped(nt:Nat)(ops:Array Oper)(o:Oper)(fr:PT)(rd wr:Rd)(kp:Hp→Nat→Bool):Option (AV×Hp)→Option (Fp×PT×Hp)
 | some (v,H')=>(putD nt o.dst v fr).map fun fr'=>(⟨tmpsOf ops o,o.dst.toList,rd,wr,.no,kp H'⟩,fr',H')
 | none=>none
def effed(nt:Nat)(ops:Array Oper)(o:Oper)(fr:PT)(H:Hp):Option Eff→Option (Fp×PT×Hp)
 | some e=>(putD nt o.dst e.v (unownT e.un fr)).map fun fr' =>
   (⟨tmpsOf ops o,o.dst.toList++e.un.toList,e.rd,if e.tk then .no else blockOf e.up,if e.tk then blockOf e.up else .no,fun _=>false⟩,fr',putB H e.up)
 | none=>none
def rdWay:Way→Rd
 | .pure=>.no
 | _=>.all
def wrWay:Way→Rd
 | .full=>.all
 | _=>.no
noncomputable def kpWay(H:Hp):Way→Hp→Nat→Bool
 | .full=>kpAs H
 | _=>kpNo
noncomputable def calls(cx:Cx)(h:Hd)(ro nt:Nat)(ops:Array Oper)(o:Oper)(fr:PT)(H:Hp)(f:AV)(args:List AV):Option (Fp×PT×Hp) :=
 match f with
 | .fn g cap=>stepped nt ops o fr (rdWay (way cx g (args++cap))) (wrWay (way cx g (args++cap))) (kpWay H (way cx g (args++cap))) (docall h ro g (args++cap) H (way cx g (args++cap)))
 | .yld l=>stepped nt ops o fr .all .all (kpAs H) (round h ro l args H)
 | _=>none
def calleeOf:Op→Option (Operand×List Operand)
 | .call c=>match c.callee with
  | .value f=>some (f,c.args.toList)
  | _=>none
 | _=>none
noncomputable def stepO(cx:Cx)(h:Hd)(ro:Nat)(fn nt:Nat)(ops:Array Oper)(nm:Nat)(fr:PT)(H:Hp)(o:Oper):Option (Fp×PT×Hp) :=
 match calleeOf o.op with
 | some (f,args)=>calls cx h ro nt ops o fr H (ev fr f) (args.map (ev fr))
 | none=>effed nt ops o fr H (lop cx ro fn ops nm fr H (o.dst.getD 0) o.op)
noncomputable def stepG(cx:Cx)(h:Hd)(ro:Nat)(fn nt:Nat)(ops:Array Oper)(nm:Nat)(fr:PT)(H:Hp)(o:Oper):Option Bool→Option (Fp×PT×Hp)
 | none=>none
 | some false=>stepped nt ops o fr .no .no kpNo (some (.tup [],H))
 | some true=>stepO cx h ro fn nt ops nm fr H o
noncomputable def step(cx:Cx)(h:Hd)(ro:Nat)(fn nt:Nat)(ops:Array Oper)(nm:Nat)(fr:PT)(H:Hp):Option Oper→Option (Fp×PT×Hp)
 | none=>none
 | some o=>stepG cx h ro fn nt ops nm fr H o (wants ops fr o)
def cons1(i:Nat)(f:Fp):Option (List (Nat×Fp)×PT×Hp)→Option (List (Nat×Fp)×PT×Hp)
 | some (fs,r)=>some ((i,f)::fs,r)
 | none=>none
noncomputable def run(cx:Cx)(h:Hd)(ro:Nat)(fn nt:Nat)(ops:Array Oper)(nm:Hp→Nat→Nat):List Nat→PT→Hp→Option (List (Nat×Fp)×PT×Hp)
 | [],fr,H=>some ([],fr,H)
 | i::l,fr,H=>match step cx h ro fn nt ops (nm H i) fr H ops[i]? with
  | some (f,fr',H')=>cons1 i f (run cx h ro fn nt ops nm l fr' H')
  | none=>none
def befores(ops:Array Oper):List Nat :=
 ops.toList.foldl (fun acc o=>acc++[o.after.toList.foldl (fun s e=>if Region.binds .any e then s ||| 2 ^ e.on ||| acc.getD e.on 0 else s) 0]) []
def Rd.meets:Rd→Rd→Bool
 | .no,_ | _,.no=>false
 | .one a,.one b=>a == b
 | _,_=>true
def Rd.kept(kp:Nat→Bool):Rd→Bool
 | .one b=>kp b
 | _=>false
def Fp.apart(f g:Fp):Bool :=
 f.ws.all (fun t=>!g.rs.contains t&&!g.ws.contains t)&&g.ws.all (fun t=>!f.rs.contains t) &&
 (!f.wr.meets g.rd||g.rd.kept f.kp)&&!f.wr.meets g.wr&&(!f.rd.meets g.wr||f.rd.kept g.kp)&&!f.wr.meets g.tk&&!f.tk.meets g.wr&&!f.tk.meets g.tk&&!(f.tk != .no&&g.rd == .all)&&!(g.tk != .no&&f.rd == .all)
def apartAll(bs:List Nat):List (Nat×Fp)→Bool
 | []=>true
 | (i,f)::l=>l.all (fun (j,g)=>(bs.getD j 0).testBit i||f.apart g)&&apartAll bs l
def forward(ops:Array Oper):Bool :=
 ops.toList.zipIdx.all fun (o,i)=>o.after.toList.all fun e=>!Region.binds .any e||e.on<i
def isAlloc(cx:Cx)(fn:FuncId)(o:Oper):Bool :=
 match o.op with
 | .alloc _ | .box .. | .makeMap .. => true
 | .makeSlice .. | .buildSlice .. => cx.pol.heap fn (o.dst.getD 0)
 | .call c=>match c.callee with
  | .builtin .append=>cx.pol.heap fn (o.dst.getD 0)
  | _=>false
 | _=>false
def ranAny(bs:List Nat):Option (List (Nat×Fp)×PT×Hp)→Option (PT×Hp)
 | some (fs,r)=>if apartAll bs fs then some r else none
 | none=>none
def ranOnly:Option (List (Nat×Fp)×PT×Hp)→Option (PT×Hp)
 | some (_,r)=>some r
 | none=>none
noncomputable def region(cx:Cx)(h:Hd)(ro:Nat)(fn nt:Nat)(ops:Array Oper)(fr:PT)(H:Hp):Bool→Option (PT×Hp)
 | true =>
  if forward ops then
   ranAny (befores ops) (run cx h ro fn nt ops (fun _ i=>H.length+((ops.toList.take i).filter (isAlloc cx fn)).length) (List.range ops.size) fr
    (H++List.replicate (ops.toList.filter (isAlloc cx fn)).length .res))
  else none
 | false=>ranOnly (run cx h ro fn nt ops (fun H _=>H.length) (List.range ops.size) fr H)
def endLoop(l:Nat)(fr:PT):Option (AV×Hp)→Option Res
 | some (_,H)=>match H[l]? with
  | some (.loop r)=>if r.state=.busy then none else some (r.pending.getD .normal,fr,H.set l (.loop { r with state:=.exhausted }))
  | _=>none
 | none=>none
def ranged(h:Hd)(ro:Nat)(fr:PT)(H:Hp)(r:ALoop)(f:AV):Option Res :=
 match f with
 | .fn g cap=>endLoop H.length fr (h.call ro g (.yld H.length::cap) (H++[.loop r]))
 | _=>none
def thenR(k:PT→Hp→Option Res):Option Res→Option Res
 | some (.normal,fr,H)=>k fr H
 | r=>r
def normR:Option (PT×Hp)→Option Res
 | some (fr,H)=>some (.normal,fr,H)
 | none=>none
def blockR(id:Nat):Option Res→Option Res
 | some (.exit id',fr,H)=>some (if id'=id then .normal else .exit id',fr,H)
 | r=>r
def condR(a b:PT→Hp→Option Res)(fr:PT)(H:Hp):AV→Option Res
 | .lit (.bool true)=>a fr H
 | .lit (.bool false)=>b fr H
 | _=>none
noncomputable def ex(cx:Cx)(h:Hd)(ro:Nat)(fn nt:Nat):Code→PT→Hp→Option Res
 | .skip=>fun fr H=>some (.normal,fr,H)
 | .label _=>fun fr H=>some (.normal,fr,H)
 | .region _ ops draw=>fun fr H=>normR (region cx h ro fn nt ops fr H draw)
 | .seq a b=>fun fr H=>thenR (ex cx h ro fn nt b) (ex cx h ro fn nt a fr H)
 | .cond c a b=>fun fr H=>condR (ex cx h ro fn nt a) (ex cx h ro fn nt b) fr H (ev fr c)
 | .block id a=>fun fr H=>blockR id (ex cx h ro fn nt a fr H)
 | .loop a=>h.loop ro fn nt a
 | .rangeFunc f params assign body=>fun fr H=>ranged h ro fr H { fn,nt,fr:=fr.map drp,params:=params.toList,assign,body,state:=.ready,pending:=none } (ev fr f)
 | .exit id=>fun fr H=>some (.exit id,fr,H)
 | .scope a=>ex cx h ro fn nt a
 | .ret=>fun fr H=>some (.ret,fr,H)
 | .goto _=>fun _ _=>none
 | .refuse _=>fun _ _=>none
def trimmed(k:PT→Hp→Option Res)(n:Nat)(fr:PT)(H:Hp):Option Res :=
 if H.length=n then k fr H else k (fr.map (kill n)) ((H.take n).map (killB n))
def trimK(b:Bool)(k:PT→Hp→Option Res)(n:Nat)(fr:PT)(H:Hp):Option Res:=if b=true then k fr H else trimmed k n fr H
noncomputable def loopB(cx:Cx)(h:Hd)(ro:Nat)(fn nt:Nat)(a:Code)(fr:PT)(H:Hp):Option Res :=
 thenR (trimK (cx.pol.keep fn) (h.loop ro fn nt a) H.length) (ex cx h ro fn nt a fr H)
def resOne(cx:Cx)(fr:PT)(H:Hp):ResultVar→Option AV
 | .tmp t=>some (fr.get t)
 | .cell a t=>aload cx.T t H (ev fr (.tmp a))
def resAll(cx:Cx)(fr:PT)(H:Hp):List ResultVar→Option (AV×Hp)
 | [r]=>(resOne cx fr H r).map fun v=>(v,H)
 | rs=>(rs.mapM (resOne cx fr H)).map fun vs=>(.tup (vs.map drp),H)
def returned(cx:Cx)(rs:List ResultVar):Option Res→Option (AV×Hp)
 | some (.exit _,_,_)=>none
 | some (_,fr,H)=>resAll cx fr H rs
 | none=>none
noncomputable def bodied(cx:Cx)(h:Hd)(ro:Nat)(g:FuncId)(fn:Func)(args:List AV)(H:Hp):Option Code→Option (AV×Hp)
 | some c=>if args.length≤fn.ntmps∧fn.ntmps≤16000 then returned cx fn.results.toList (ex cx h ro g fn.ntmps c (setArgs ((List.range args.length).zip args) .nil) H) else none
 | none=>none
noncomputable def funced(cx:Cx)(h:Hd)(ro:Nat)(g:FuncId)(args:List AV)(H:Hp):Option Func→Option (AV×Hp)
 | some fn=>bodied cx h ro g fn args H fn.body
 | none=>none
noncomputable def callB(cx:Cx)(h:Hd)(ro:Nat)(g:FuncId)(args:List AV)(H:Hp):Option (AV×Hp):=funced cx h ro g args H (cx.fns g)
def Hd.none:Hd:=⟨fun _ _ _ _=>Option.none,fun _ _ _ _ _ _=>Option.none,fun _ _ _ _ _ _=>Option.none⟩
noncomputable def lvl(cx:Cx):Nat→Hd
 | 0=>.none
 | k+1=>⟨callB cx (lvl cx k),loopB cx (lvl cx k),ex cx (lvl cx k)⟩
def plainKinds(P:Program):Nat→TypeId→Option (List Bool)
 | 0,_=>none
 | d+1,t=>match P.underlying t with
  | some .bool=>some [true]
  | some (.int _)=>some [false]
  | some (.struct fs)=>if P.stoodInHeld t then none else plainFields P (plainKinds P d) fs.toList []
  | some (.array n e)=>match plainKinds P d e with
   | some ks=>if P.cellsOf e=ks.length then some (List.replicate n ks).flatten else none
   | none=>none
  | _=>none
where
 plainFields (P:Program) (rec:TypeId→Option (List Bool)):List Field→List Bool→Option (List Bool)
  | [],acc=>some acc
  | f::fs,acc=>match rec f.type with
   | some ks=>if f.name ≠ "_" ∧ f.offset=acc.length∧P.cellsOf f.type=ks.length then plainFields P rec fs (acc++ks) else none
   | none=>none
def mkTD:TypeDesc→TD
 | .bool=>.bool
 | .int k=>.int k
 | .string=>.str
 | .slice e=>.slice e
 | .array n e=>.array n e
 | .struct fs=>.struct (fs.toList.map fun f=>(f.offset,f.type))
 | .map k e=>.map k e
 | .pointer _=>.ptr
 | _=>.other
def isAggD:TypeDesc→Bool
 | .struct _ | .array _ _=>true
 | _=>false
def zAgg:Value→Bool
 | .agg _=>true
 | _=>false
def mkTI(P:Program)(t:TypeId):Option TI :=
 match P.info? t with
 | some i=>match i.zero with
  | some z=>match P.underlying t with
   | some u=>if zAgg z=isAggD u then some { size:=i.size,bytes:=i.bytes,zero:=z.cells.toList,agg:=isAggD u,d:=mkTD u,eqp:=if isAggD u&&!P.eqGuardType P.depth t then plainKinds P 20 t else none } else none
   | none=>none
  | none=>none
 | none=>none
def TI.good(ti:TI):Bool:=ti.zero.length == ti.size&&ti.zero.all isOne&&(ti.agg||ti.size == 1)
end Go.Abs
