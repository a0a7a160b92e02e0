/- The table of types, out of the program's own. -/
import Derived.Test.YtiinagmombigpaaAbs3
namespace Go.Abs

/-- the cells of a type of which '==' is cell by cell: bools (true), numbers (false) -/
def plainKinds (P : Program) : Nat → TypeId → Option (List Bool)
  | 0, _ => none
  | d + 1, t => match P.underlying t with
    | some .bool => some [true]
    | some (.int _) => some [false]
    | some (.struct fs) => if P.stoodInHeld t then none else plainFields P (plainKinds P d) fs.toList []
    | some (.array n e) => match plainKinds P d e with
      | some ks => if P.cellsOf e = ks.length then some (List.replicate n ks).flatten else none
      | none => none
    | _ => none
where
  plainFields (P : Program) (rec : TypeId → Option (List Bool)) : List Field → List Bool → Option (List Bool)
    | [], acc => some acc
    | f :: fs, acc => match rec f.type with
      | some ks => if f.name ≠ "_" ∧ f.offset = acc.length ∧ P.cellsOf f.type = ks.length then plainFields P rec fs (acc ++ ks) else none
      | none => none

def mkTD : TypeDesc → TD
  | .bool => .bool
  | .int k => .int k
  | .string => .str
  | .slice e => .slice e
  | .array n e => .array n e
  | .struct fs => .struct (fs.toList.map fun f => (f.offset, f.type))
  | .map k e => .map k e
  | .pointer _ => .ptr
  | _ => .other
def isAggD : TypeDesc → Bool
  | .struct _ | .array _ _ => true
  | _ => false

def zAgg : Value → Bool
  | .agg _ => true
  | _ => false
def mkTI (P : Program) (t : TypeId) : Option TI :=
  match P.info? t with
  | some i => match i.zero with
    | some z => match P.underlying t with
      | some u => if zAgg z = isAggD u then some { size := i.size, bytes := i.bytes, zero := z.cells.toList, agg := isAggD u, d := mkTD u, eqp := if isAggD u && !P.eqGuardType P.depth t then plainKinds P 20 t else none } else none
      | none => none
    | none => none
  | none => none

def TI.good (ti : TI) : Bool := ti.zero.length == ti.size && ti.zero.all isOne && (ti.agg || ti.size == 1)

end Go.Abs
