/-
  An evaluator of the model's code over values without memory: slices that are only read or appended to are lists;
  what is written lies in numbered blocks. (Definitions alone; its soundness stands in the texts behind this one.)
-/
import Derived.RangeFuncLeaves
import Derived.RangeFuncRecord
import Derived.LoopNIn
namespace Go.Abs

/-- What is known of a slice's capacity: it is its length; nothing; nothing, and no other slice reaches behind its end. -/
inductive Kd where
  | exact | shared | own
  deriving DecidableEq, Inhabited, Repr

inductive AV where
  /-- nothing is known -/
  | dead
  /-- a scalar -/
  | lit (v : Value)
  /-- the address of cell j of element i of block b -/
  | ptr (b i j : Nat)
  /-- a slice of block b, whose elements have sz cells, from element i on -/
  | sl (b sz i len cap : Nat)
  /-- a slice of a whole array that lies in element i of block b, from its cell j on: len elements of esz cells each -/
  | isl (b i j esz len : Nat)
  /-- the address of cell j of an element that never changes -/
  | vp (el : AV) (j : Nat)
  /-- a slice of elements that never change; sz cells each -/
  | vec (sz : Nat) (k : Kd) (els : List AV)
  | fn (f : FuncId) (cap : List AV)
  | yld (l : Nat)
  | mp (m : Nat)
  | agg (cells : List AV)
  | tup (vs : List AV)
  deriving Inhabited

/-- temporaries -/
inductive PT where
  | nil
  | node (v : AV) (l r : PT)
  deriving Inhabited

namespace PT
def get : PT → Nat → AV
  | .nil, _ => .dead
  | .node v _ _, 0 => v
  | .node _ l r, n + 1 => if n % 2 = 0 then l.get (n / 2) else r.get (n / 2)

def setD : Nat → PT → Nat → AV → PT
  | 0, t, _, _ => t
  | _ + 1, .nil, 0, x => .node x .nil .nil
  | _ + 1, .node _ l r, 0, x => .node x l r
  | d + 1, .nil, n + 1, x => if n % 2 = 0 then .node .dead (setD d .nil (n / 2) x) .nil else .node .dead .nil (setD d .nil (n / 2) x)
  | d + 1, .node v l r, n + 1, x => if n % 2 = 0 then .node v (setD d l (n / 2) x) r else .node v l (setD d r (n / 2) x)

def set (t : PT) (n : Nat) (x : AV) : PT := setD 14 t n x

def map (f : AV → AV) : PT → PT
  | .nil => .nil
  | .node v l r => .node (f v) (l.map f) (r.map f)

@[simp] theorem get_nil (n : Nat) : PT.nil.get n = .dead := by cases n <;> rfl

theorem get_setD_ne (d : Nat) : ∀ (t : PT) (i j : Nat) (x : AV), i ≠ j → (setD d t i x).get j = t.get j := by
  induction d with
  | zero => intro t i j x h; rfl
  | succ d ih =>
    intro t i j x h
    cases t with
    | nil =>
      cases i with
      | zero =>
        cases j with
        | zero => exact absurd rfl h
        | succ j => simp [setD, get]
      | succ i =>
        cases j with
        | zero => by_cases hi : i % 2 = 0 <;> simp [setD, get, hi]
        | succ j =>
          by_cases hi : i % 2 = 0 <;> by_cases hj : j % 2 = 0 <;> simp [setD, get, hi, hj] <;>
            (rw [ih]; simp; omega)
    | node v l r =>
      cases i with
      | zero =>
        cases j with
        | zero => exact absurd rfl h
        | succ j => simp [setD, get]
      | succ i =>
        cases j with
        | zero => by_cases hi : i % 2 = 0 <;> simp [setD, get, hi]
        | succ j =>
          by_cases hi : i % 2 = 0 <;> by_cases hj : j % 2 = 0 <;> simp [setD, get, hi, hj] <;>
            (rw [ih]; omega)

theorem get_setD_eq (d : Nat) : ∀ (t : PT) (i : Nat) (x : AV), i + 1 < 2 ^ d → (setD d t i x).get i = x := by
  induction d with
  | zero => intro t i x h; simp at h
  | succ d ih =>
    intro t i x h
    have hd : 2 ^ (d + 1) = 2 * 2 ^ d := by rw [Nat.pow_succ]; omega
    cases i with
    | zero => cases t <;> simp [setD, get]
    | succ i =>
      have h2 : i / 2 + 1 < 2 ^ d := by omega
      cases t <;> by_cases hi : i % 2 = 0 <;> simp [setD, get, hi, ih _ _ _ h2]

theorem get_set_ne {t : PT} {i j : Nat} {x : AV} (h : i ≠ j) : (t.set i x).get j = t.get j := get_setD_ne 14 t i j x h
theorem get_set_eq {t : PT} {i : Nat} {x : AV} (h : i < 16000) : (t.set i x).get i = x := get_setD_eq 14 t i x (by omega)

theorem get_map {f : AV → AV} (hf : f .dead = .dead) : ∀ (t : PT) (i : Nat), (t.map f).get i = f (t.get i)
  | .nil, i => by simp [map, hf]
  | .node v l r, 0 => rfl
  | .node v l r, i + 1 => by by_cases hi : i % 2 = 0 <;> simp [map, get, hi, get_map hf l, get_map hf r]
end PT

/-- tables -/
inductive Tr (α : Type) where
  | nil
  | node (v : Option α) (l r : Tr α)
def Tr.get {α : Type} : Tr α → Nat → Option α
  | .nil, _ => none
  | .node v _ _, 0 => v
  | .node _ l r, n + 1 => match n % 2 with
    | 0 => l.get (n / 2)
    | _ => r.get (n / 2)

/-- a type's description, as far as it is asked for -/
inductive TD where
  | bool | int (k : IntKind) | str | slice (e : TypeId) | array (n : Nat) (e : TypeId) | struct (fs : List (Nat × TypeId)) | map (k e : TypeId) | ptr | other
  deriving Inhabited, DecidableEq

structure TI where
  size : Nat
  bytes : Nat
  zero : List Value
  agg : Bool
  d : TD
  /-- '==' compares cell by cell, and each cell is a bool (true) or a number (false) -/
  eqp : Option (List Bool)
  deriving Inhabited

/-! ### values -/
/-- without the right to be appended to in place -/
def shr : AV → AV
  | .vec sz .own els => .vec sz .shared els
  | x => x
def drp : AV → AV
  | .agg l => .agg (l.map shr)
  | .tup l => .tup (l.map fun x => match x with | .agg l => .agg (l.map shr) | x => shr x)
  | x => shr x
/-- without what leads to blocks -/
def cl0 : AV → AV
  | .lit v => .lit v
  | .vp el j => .vp el j
  | .vec sz k els => .vec sz (if k = .own then .shared else k) els
  | .fn f [] => .fn f []
  | _ => .dead
def cl1 : AV → AV
  | .agg l => .agg (l.map cl0)
  | x => cl0 x
def cl2 : AV → AV
  | .tup l => .tup (l.map cl1)
  | x => cl1 x

def cellsOf : AV → List AV
  | .agg l => l
  | x => [x]

/-- is it a value of a variable of this type, as far as the number of its cells goes? -/
def fit (ti : TI) : AV → Bool
  | .agg l => ti.agg && l.length == ti.size
  | .tup _ => false
  | .dead => false
  | .lit (.agg _) => false
  | .lit (.tuple _) => false
  | _ => !ti.agg && ti.size == 1

def isOne : Value → Bool
  | .agg _ | .tuple _ => false
  | _ => true
def ofVal : Value → AV
  | .agg cs => if cs.toList.all isOne then .agg (cs.toList.map .lit) else .dead
  | v => .lit v

def zeroAV (ti : TI) : Option AV :=
  if ti.agg then some (.agg (ti.zero.map .lit)) else match ti.zero with | [v] => some (.lit v) | _ => none

def isScal : AV → Bool
  | .agg _ | .tup _ | .dead | .lit (.agg _) | .lit (.tuple _) => false
  | _ => true

/-- the part of an element that a variable of a type has at cell j -/
def elPart (ti : TI) (el : AV) (j : Nat) : Option AV :=
  match el with
  | .agg l =>
    if ti.agg then (if j + ti.size ≤ l.length then some (.agg (((l.drop j).take ti.size).map shr)) else none)
    else (l[j]?).map shr
  | x => if isScal x = true ∧ ti.agg = false ∧ j = 0 then some (shr x) else none

/-- an element, a part of it written -/
def elSet (ti : TI) (el : AV) (j : Nat) (x : AV) : Option AV :=
  if fit ti x = false then none else
  match el with
  | .agg l => if j + ti.size ≤ l.length then some (.agg (l.take j ++ cellsOf x ++ l.drop (j + ti.size))) else none
  | .tup _ => none
  | _ => if ti.agg = false ∧ j = 0 then some x else none

/-- nothing in it leads to a block -/
def shut0 : AV → Bool
  | .lit _ | .vp .. | .vec .. | .fn _ [] => true
  | _ => false
def shut1 : AV → Bool
  | .agg l => l.all shut0
  | x => shut0 x

/-! ### blocks -/
inductive LS where
  | ready | busy | done | exhausted
  deriving DecidableEq, Inhabited

inductive Ex where
  | normal | exit (id : Nat) | ret
  deriving DecidableEq, Inhabited

structure ALoop where
  fn : FuncId
  nt : Nat
  fr : PT
  params : List Tmp
  assign : Code
  body : Code
  state : LS
  pending : Option Ex
  deriving Inhabited

inductive ABlock where
  | cells (sz : Nat) (elem : TypeId) (els : List AV)
  | mapo (es : List (AV × AV))
  | loop (r : ALoop)
  /-- not to be come to any more -/
  | gone
  /-- a number that is kept for a block -/
  | res
  deriving Inhabited

abbrev Hp := List ABlock

def frz0 (n : Nat) (H : Hp) : AV → AV
  | .sl b _ i len cap => if b < n then .dead else match H[b]? with
    | some (.cells sz _ els) => if i + len ≤ els.length ∧ len ≤ cap then .vec sz .shared (((els.drop i).take len).map cl1) else .dead
    | _ => .dead
  | x => cl0 x
def frz1 (n : Nat) (H : Hp) : AV → AV
  | .agg l => .agg (l.map (frz0 n H))
  | x => frz0 n H x
/-- a result, without what leads to blocks: slices of blocks from n on become what they hold; a slice of its own stays its own -/
def frz (n : Nat) (H : Hp) : AV → AV
  | .tup l => .tup (l.map (frz1 n H))
  | .vec sz k els => .vec sz k els
  | x => frz1 n H x

/-- without what leads to blocks from n on -/
def kill0 (n : Nat) : AV → AV
  | .ptr b i j => if b < n then .ptr b i j else .dead
  | .sl b z i l c => if b < n then .sl b z i l c else .dead
  | .isl b i j e l => if b < n then .isl b i j e l else .dead
  | .yld l => if l < n then .yld l else .dead
  | .mp m => if m < n then .mp m else .dead
  | .fn f cap => if cap.all (fun x => match x with | .ptr b _ _ => decide (b < n) | _ => false) then .fn f cap else .dead
  | .agg _ => .dead
  | .tup _ => .dead
  | x => x
def kill1 (n : Nat) : AV → AV
  | .agg l => .agg (l.map (kill0 n))
  | x => kill0 n x
def kill (n : Nat) : AV → AV
  | .tup l => .tup (l.map (kill1 n))
  | x => kill1 n x
def killB (n : Nat) : ABlock → ABlock
  | .cells sz e els => .cells sz e (els.map (kill1 n))
  | .mapo es => .mapo es
  | .loop r => .loop { r with fr := r.fr.map (kill n) }
  | .gone => .gone
  | .res => .gone

end Go.Abs
