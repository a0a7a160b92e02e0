/- The evaluator's operations and its control. (Definitions alone.) -/
import Derived.Test.YtiinagmombigpaaAbs1
namespace Go.Abs

structure Pol where
  /-- called without a view of the caller's blocks -/
  pure : FuncId → Bool
  /-- called with a view of the caller's blocks, none of which it writes -/
  quiet : FuncId → Bool
  /-- here a slice is made as a block -/
  heap : FuncId → Tmp → Bool
  /-- what is read here becomes a list; its block is gone -/
  frz : FuncId → Tmp → Bool

structure Cx where
  fns : FuncId → Option Func
  T : TypeId → Option TI
  pol : Pol

def ev (fr : PT) : Operand → AV
  | .tmp t => shr (fr.get t)
  | .const v => ofVal v
  | .func f => .fn f []
  | .global _ => .dead
def raw (fr : PT) : Operand → AV
  | .tmp t => fr.get t
  | x => ev fr x
def unown (fr : PT) : Operand → PT
  | .tmp t => match fr.get t with
    | .vec sz .own els => fr.set t (.vec sz .shared els)
    | _ => fr
  | _ => fr

/-! ### numbers -/
/-- as 'IntKind.wrap', quick where nothing wraps -/
def wrapK (k : IntKind) (n : Int) : Int :=
  match k with
  | .i64 => if -9223372036854775808 ≤ n ∧ n ≤ 9223372036854775807 then n else k.wrap n
  | .u8 => if 0 ≤ n ∧ n ≤ 255 then n else k.wrap n
  | k => k.wrap n
def arith (k : IntKind) (op : BinOp) (a b : Int) : Option Int :=
  match op with
  | .add => some (wrapK k (a + b))
  | .sub => some (wrapK k (a - b))
  | .mul => some (wrapK k (a * b))
  | .quo => if b = 0 then none else some (wrapK k (a.tdiv b))
  | .rem => if b = 0 then none else some (a.tmod b)
  | .and => some (k.wrap ((BitVec.ofInt k.bits a) &&& (BitVec.ofInt k.bits b)).toNat)
  | .or => some (k.wrap ((BitVec.ofInt k.bits a) ||| (BitVec.ofInt k.bits b)).toNat)
  | .xor => some (k.wrap ((BitVec.ofInt k.bits a) ^^^ (BitVec.ofInt k.bits b)).toNat)
  | .andNot => some (k.wrap ((BitVec.ofInt k.bits a) &&& ~~~(BitVec.ofInt k.bits b)).toNat)
  | _ => none
def cmpI (op : BinOp) (a b : Int) : Option Bool :=
  match op with
  | .eql => some (a == b)
  | .neq => some (a != b)
  | .lss => some (decide (a < b))
  | .leq => some (decide (a ≤ b))
  | .gtr => some (decide (a > b))
  | .geq => some (decide (a ≥ b))
  | _ => none
def shiftI (k : IntKind) (op : BinOp) (a b : Int) : Option Int :=
  if b < 0 then none else
  match op with
  | .shl => some (k.wrap (a * 2 ^ (min b.toNat k.bits)))
  | .shr => some (a.fdiv (2 ^ (min b.toNat k.bits)))
  | _ => none
def binI (op : BinOp) (k : IntKind) (a : Int) (k' : IntKind) (b : Int) : Option AV :=
  match op with
  | .shl | .shr => (shiftI k op a b).map fun n => .lit (.int k n)
  | .add | .sub | .mul | .quo | .rem | .and | .or | .xor | .andNot => if k = k' then (arith k op a b).map fun n => .lit (.int k n) else none
  | _ => if k = k' then (cmpI op a b).map fun c => .lit (.bool c) else none

def scalarEq : Value → Value → Option Bool
  | .int k a, .int k' b => if k = k' then some (a == b) else none
  | .bool a, .bool b => some (a == b)
  | _, _ => none
def cellEq : Bool → Value → Value → Option Bool
  | false, .int k a, .int k' b => if k = k' then some (a == b) else none
  | true, .bool a, .bool b => some (a == b)
  | _, _, _ => none
def cellsEq : List Bool → List AV → List AV → Option Bool
  | [], [], [] => some true
  | t :: ts, .lit a :: as, .lit b :: bs => match cellEq t a b, cellsEq ts as bs with
    | some x, some y => some (x && y)
    | _, _ => none
  | _, _, _ => none
/-- equality where one side is nil, or both -/
def nilEq : AV → AV → Option Bool
  | .lit (.pointer none), .lit (.pointer none) => some true
  | .ptr .., .lit (.pointer none) => some false
  | .lit (.pointer none), .ptr .. => some false
  | .vp .., .lit (.pointer none) => some false
  | .lit (.pointer none), .vp .. => some false
  | .lit (.slice none _ _), .lit (.slice none _ _) => some true
  | .vec .., .lit (.slice none _ _) => some false
  | .lit (.slice none _ _), .vec .. => some false
  | .sl .., .lit (.slice none _ _) => some false
  | .lit (.slice none _ _), .sl .. => some false
  | _, _ => none
/-- which types nilEq speaks of -/
def nilTy (T : TypeId → Option TI) (t : TypeId) : AV → Bool
  | .lit (.pointer none) | .ptr .. | .vp .. => match T t with | some { d := .ptr, .. } => true | _ => false
  | _ => match T t with | some { d := .slice _, .. } => true | _ => false

def neg? (op : BinOp) (b : Bool) : Option AV :=
  match op with
  | .eql => some (.lit (.bool b))
  | .neq => some (.lit (.bool !b))
  | _ => none

def abin (T : TypeId → Option TI) (op : BinOp) (t : TypeId) (x y : AV) : Option AV :=
  match x, y with
  | .lit (.int k a), .lit (.int k' b) => binI op k a k' b
  | .lit (.bool a), .lit (.bool b) => match T t with
    | some { d := .bool, .. } => neg? op (a == b)
    | _ => none
  | .lit (.string a), .lit (.string b) => match op with
    | .add => if a.size + b.size ≤ 2 ^ 40 then some (.lit (.string (a ++ b))) else none
    | .eql => some (.lit (.bool (a.toList == b.toList)))
    | .neq => some (.lit (.bool !(a.toList == b.toList)))
    | _ => none
  | .agg xs, .agg ys => match T t with
    | some { eqp := some ks, .. } => (cellsEq ks xs ys).bind (neg? op)
    | _ => none
  | x, y => if nilTy T t x && nilTy T t y then (nilEq x y).bind (neg? op) else none

def aun (op : UnOp) (x : AV) : Option AV :=
  match op, x with
  | .not, .lit (.bool b) => some (.lit (.bool !b))
  | .neg, .lit (.int k n) => some (.lit (.int k (wrapK k (0 - n))))
  | _, _ => none

def aconv (T : TypeId → Option TI) (src dst : TypeId) (x : AV) : Option AV :=
  match T src, T dst, x with
  | some _, some { d := .int k, .. }, .lit (.int _ n) => some (.lit (.int k (wrapK k n)))
  | _, _, _ => none

def aminmax (mx : Bool) : List AV → Option AV
  | [] => none
  | .lit (.int k x) :: rest => go k x rest
  | _ => none
where
  go (k : IntKind) (x : Int) : List AV → Option AV
    | [] => some (.lit (.int k x))
    | .lit (.int _ y) :: rest => go k (if mx then (if y > x then y else x) else (if y < x then y else x)) rest
    | _ => none

/-! ### slices -/
def alen (T : TypeId → Option TI) (t : TypeId) (H : Hp) (x : AV) : Option AV :=
  match T t with
  | some { d := .str, .. } => match x with
    | .lit (.string s) => some (.lit (.int .i64 s.size))
    | _ => none
  | some { d := .array n _, .. } => some (.lit (.int .i64 n))
  | some { d := .slice _, .. } => match x with
    | .vec _ _ els => some (.lit (.int .i64 els.length))
    | .sl _ _ _ len _ => some (.lit (.int .i64 len))
    | .lit (.slice none len _) => some (.lit (.int .i64 len))
    | _ => none
  | some { d := .map _ _, .. } => match x with
    | .mp m => match H[m]? with
      | some (.mapo es) => some (.lit (.int .i64 es.length))
      | _ => none
    | .lit (.map none) => some (.lit (.int .i64 0))
    | _ => none
  | _ => none

def items (sz : Nat) (H : Hp) : AV → Option (List AV)
  | .vec sz' _ els => if sz' = sz then some els else none
  | .lit (.slice none 0 _) => some []
  | .sl b _ i len _ => match H[b]? with
    | some (.cells sz' _ els) => if sz' = sz ∧ i + len ≤ els.length then some (((els.drop i).take len).map cl1) else none
    | _ => none
  | _ => none

def aappend (T : TypeId → Option TI) (t : TypeId) (H : Hp) (s x : AV) : Option AV :=
  match T t with
  | some { d := .slice e, .. } => match T e with
    | some te => match items te.size H x with
      | some [] => (match s with | .lit (.slice none 0 0) => some s | .vec .. => some s | _ => none)
      | some xs =>
        match s with
        | .lit (.slice none 0 0) => if 0 < te.size ∧ xs.length * (te.bytes + 1) ≤ 2 ^ 40 then some (.vec te.size .own xs) else none
        | .vec sz k els => if k ≠ .shared ∧ sz = te.size ∧ 0 < te.size ∧ (els.length + xs.length) * (te.bytes + 1) ≤ 2 ^ 40 then some (.vec sz .own (els ++ xs)) else none
        | _ => none
      | none => none
    | none => none
  | _ => none

/-- the same, into a block -/
def aappendB (T : TypeId → Option TI) (t : TypeId) (H : Hp) (s x : AV) : Option (List AV × Nat × TypeId) :=
  match T t with
  | some { d := .slice e, .. } => match T e with
    | some te => match items te.size H x with
      | some xs =>
        match s with
        | .lit (.slice none 0 0) => if xs.isEmpty = false ∧ xs.all (fit te) = true ∧ 0 < te.size ∧ xs.length * (te.bytes + 1) ≤ 2 ^ 40 then some (xs, te.size, e) else none
        | .vec sz .exact els => if xs.isEmpty = false ∧ (els ++ xs).all (fit te) = true ∧ sz = te.size ∧ 0 < te.size ∧ (els.length + xs.length) * (te.bytes + 1) ≤ 2 ^ 40 then some (els ++ xs, te.size, e) else none
        | _ => none
      | none => none
    | none => none
  | _ => none

def natOf : AV → Option Nat
  | .lit (.int _ n) => if 0 ≤ n then some n.toNat else none
  | _ => none
def natOr (d : Nat) : Option AV → Option Nat
  | none => some d
  | some x => natOf x

def aslice (T : TypeId → Option TI) (t : TypeId) (x : AV) (lo hi mx : Option AV) : Option AV :=
  match x with
  | .vec sz k els =>
    match T t with
    | some { d := .slice e, .. } =>
      if (T e).map (·.size) = some sz ∧ (mx.isSome → hi.isSome) then
      match natOr 0 lo, natOr els.length hi with
      | some l, some h =>
        match mx with
        | none => if l ≤ h ∧ h ≤ els.length then some (.vec sz (if h = els.length ∧ k = .exact then .exact else .shared) ((els.drop l).take (h - l))) else none
        | some m => match natOf m with
          | some m => if l ≤ h ∧ h ≤ m ∧ m ≤ els.length then some (.vec sz (if m = h then .exact else .shared) ((els.drop l).take (h - l))) else none
          | none => none
      | _, _ => none
      else none
    | _ => none
  | .lit (.slice none 0 0) =>
    match T t with
    | some { d := .slice e, .. } =>
      match natOr 0 lo, natOr 0 hi, natOr 0 mx with
      | some 0, some 0, some 0 => if (T e).isSome ∧ (mx.isSome → hi.isSome) then some (.lit (.slice none 0 0)) else none
      | _, _, _ => none
    | _ => none
  | .sl b sz i len cap =>
    match T t with
    | some { d := .slice e, .. } => match T e with
      | some te =>
        match natOr 0 lo, natOr len hi, natOr cap mx with
        | some l, some h, some m =>
          if sz = te.size ∧ l ≤ h ∧ h ≤ m ∧ m ≤ cap ∧ (mx.isSome → hi.isSome) then (if m = l then some (.vec te.size (if mx.isSome then .exact else .shared) []) else some (.sl b sz (i + l) (h - l) (m - l))) else none
        | _, _, _ => none
      | none => none
    | _ => none
  | .ptr b i j =>
    match T t with
    | some { d := .array n e, .. } => match T e with
      | some te => if lo.isNone ∧ hi.isNone ∧ mx.isNone then some (.isl b i j te.size n) else none
      | none => none
    | _ => none
  | .lit (.string s) =>
    match T t, mx with
    | some { d := .str, .. }, none =>
      match natOr 0 lo, natOr s.size hi with
      | some l, some h => if l ≤ h ∧ h ≤ s.size then some (.lit (.string (s.extract l h))) else none
      | _, _ => none
    | _, _ => none
  | _ => none

/-! ### addresses -/
def aindexAddr (T : TypeId → Option TI) (t : TypeId) (x ix : AV) : Option AV :=
  match natOf ix, T t with
  | some n, some { d := .slice e, .. } => match T e with
    | some te => match x with
      | .vec sz _ els => if sz = te.size then (els[n]?).map (.vp · 0) else none
      | .sl b sz i len _ => if sz = te.size ∧ n < len then some (.ptr b (i + n) 0) else none
      | _ => none
    | none => none
  | some n, some { d := .array m e, .. } => match T e with
    | some te => if n < m then match x with
      | .ptr b i j => some (.ptr b i (j + n * te.size))
      | .vp el j => some (.vp el (j + n * te.size))
      | _ => none
      else none
    | none => none
  | _, _ => none

def afieldAddr (T : TypeId → Option TI) (t : TypeId) (x : AV) (f : Nat) : Option AV :=
  match T t with
  | some { d := .struct fs, .. } => match fs[f]? with
    | some (off, ft) => match T ft with
      | some ti => if ti.size = 0 then none else match x with
        | .ptr b i j => some (.ptr b i (j + off))
        | .vp el j => some (.vp el (j + off))
        | _ => none
      | none => none
    | none => none
  | _ => none

def apart (ti : TI) (cells : List AV) (off : Nat) : Option AV :=
  if ti.agg then (if off + ti.size ≤ cells.length then some (.agg ((cells.drop off).take ti.size)) else none) else cells[off]?

def afield (T : TypeId → Option TI) (t : TypeId) (x : AV) (f : Nat) : Option AV :=
  match T t, x with
  | some { d := .struct fs, .. }, .agg cells => match fs[f]? with
    | some (off, ft) => match T ft with
      | some ti => apart ti cells off
      | none => none
    | none => none
  | _, _ => none

def aindex (T : TypeId → Option TI) (t : TypeId) (x ix : AV) : Option AV :=
  match natOf ix, T t, x with
  | some n, some { d := .array m e, .. }, .agg cells => match T e with
    | some te => if n < m then apart te cells (n * te.size) else none
    | none => none
  | some n, some { d := .str, .. }, .lit (.string s) => (s[n]?).map fun b => .lit (.int .u8 b.toNat)
  | _, _, _ => none

def aload (T : TypeId → Option TI) (t : TypeId) (H : Hp) (a : AV) : Option AV :=
  match T t with
  | some ti => match a with
    | .ptr b i j => match H[b]? with
      | some (.cells _ _ els) => match els[i]? with
        | some el => elPart ti el j
        | none => none
      | _ => none
    | .vp el j => elPart ti el j
    | _ => none
  | none => none

def astore (T : TypeId → Option TI) (t : TypeId) (H : Hp) (a x : AV) : Option Hp :=
  match T t, a with
  | some ti, .ptr b i j => match H[b]? with
    | some (.cells sz e els) => match els[i]? with
      | some el => match elSet ti el j x with
        | some el' => some (H.set b (.cells sz e (els.set i el')))
        | none => none
      | none => none
    | _ => none
  | _, _ => none

/-- the slice that an address leads to, if it may be appended to in place; and the block without that right -/
def atake (H : Hp) (a : AV) : Option (AV × Nat × Hp) :=
  match a with
  | .ptr b i j => match H[b]? with
    | some (.cells sz e els) => match els[i]? with
      | some (.vec s .own xs) => if j = 0 then some (.vec s .own xs, b, H.set b (.cells sz e (els.set i (.vec s .shared xs)))) else none
      | some (.agg l) => match l[j]? with
        | some (.vec s .own xs) => some (.vec s .own xs, b, H.set b (.cells sz e (els.set i (.agg (l.set j (.vec s .shared xs))))))
        | _ => none
      | _ => none
    | _ => none
  | _ => none

/-! ### what is made -/
def afill : List AV → List (Nat × TI × AV) → Option (List AV)
  | z, [] => some z
  | z, (off, ti, x) :: rest => if fit ti x = true ∧ off + ti.size ≤ z.length then afill (z.take off ++ cellsOf x ++ z.drop (off + ti.size)) rest else none

def abuild (T : TypeId → Option TI) (t : TypeId) (parts : List (Nat × AV)) : Option AV :=
  match T t with
  | some ti => if ti.agg = false then none else
    let z := ti.zero.map AV.lit
    match ti.d with
    | .struct fs => if fs.all (fun p => (T p.2).isSome) = false then none else match parts.mapM (fun (i, x) => match fs[i]? with | some (off, ft) => (T ft).map fun tf => (off, tf, x) | none => none) with
      | some ps => (afill z ps).map .agg
      | none => none
    | .array _ e => match T e with
      | some te => (afill z (parts.map fun (i, x) => (i * te.size, te, x))).map .agg
      | none => none
    | _ => none
  | none => none

def aplace (te : TI) : List AV → List (Nat × AV) → Option (List AV)
  | z, [] => some z
  | z, (i, x) :: rest => if fit te x = true ∧ i < z.length then aplace te (z.set i x) rest else none

def laid (heap : Bool) (sz : Nat) (e : TypeId) (els : List AV) (H : Hp) : AV × Hp :=
  if heap then (.sl H.length sz 0 els.length els.length, H ++ [.cells sz e els]) else (.vec sz .exact (els.map cl1), H)

def abuildSlice (T : TypeId → Option TI) (heap : Bool) (t : TypeId) (len : Nat) (parts : List (Nat × AV)) (H : Hp) : Option (AV × Hp) :=
  match T t with
  | some { d := .slice e, .. } => match T e with
    | some te => match zeroAV te with
      | some z => if te.size = 0 ∨ len * te.size > 2 ^ 24 then none else (aplace te (List.replicate len z) parts).map fun els => laid heap te.size e els H
      | none => none
    | none => none
  | _ => none

def amakeSlice (T : TypeId → Option TI) (heap : Bool) (t : TypeId) (l c : AV) (H : Hp) : Option (AV × Hp) :=
  match T t with
  | some { d := .slice e, .. } => match T e with
    | some te => match zeroAV te, l, c with
      | some z, .lit (.int .i64 l), .lit (.int .i64 c) => if 0 ≤ l ∧ l = c ∧ te.size ≠ 0 ∧ l * (te.bytes + 1) ≤ 2 ^ 40 then some (laid heap te.size e (List.replicate l.toNat z) H) else none
      | _, _, _ => none
    | none => none
  | _ => none

/-- copy into a whole array: how many, and the block -/
def acopy (T : TypeId → Option TI) (t : TypeId) (H : Hp) (dst src : AV) : Option (Nat × Nat × ABlock) :=
  match T t, dst with
  | some { d := .slice e, .. }, .isl b i j esz len => match T e with
    | some te => if te.size = esz then match items esz H src, H[b]? with
      | some xs, some (.cells sz el els) => match els[i]? with
        | some (.agg l) =>
          let n := min xs.length len
          if j + n * esz ≤ l.length ∧ xs.all (fit te) = true then some (n, b, .cells sz el (els.set i (.agg (l.take j ++ (xs.take n).flatMap cellsOf ++ l.drop (j + n * esz))))) else none
        | _ => none
      | _, _ => none
      else none
    | none => none
  | _, _ => none

/-! ### maps -/
def keyEq (T : TypeId → Option TI) (t : TypeId) : AV → AV → Option Bool
  | .lit a, .lit b => match T t with
    | some { d := .int _, .. } => cellEq false a b
    | _ => none
  | .agg a, .agg b => match T t with
    | some { eqp := some ks, .. } => cellsEq ks a b
    | _ => none
  | _, _ => none
/-- a key that may be looked for -/
def keyOk (T : TypeId → Option TI) (t : TypeId) : AV → Bool
  | .lit (.int _ _) => match T t with
    | some { d := .int _, .. } => true
    | _ => false
  | .agg l => match T t with
    | some { eqp := some ks, .. } => ks.length == l.length
    | _ => false
  | _ => false
def mfind (T : TypeId → Option TI) (t : TypeId) (k : AV) : List (AV × AV) → Nat → Option (Option (Nat × AV))
  | [], _ => some none
  | (k', v) :: es, i => match keyEq T t k k' with
    | some true => some (some (i, v))
    | some false => mfind T t k es (i + 1)
    | none => none

end Go.Abs
