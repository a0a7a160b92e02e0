/-
  No cell of these rows narrows 'for every input' (looked for: loops, veiled, ifaces, maps, wideKeys, modest, calm, conditions, laid).
  DERIVED. THE GIVEN ROWS OF THIS SEAT. 30 by the template 'for every input the law returns true; each argument reads behind the call as it read before'; 0 by the template 'total and deterministic' (their statements: YtiinagmombigpaaTotals.lean).
  GIVEN WITH THE SEED: the statements are not yours to turn. If you find one false, say at which input.
  Laid BY PROGRAM, IN A SANDBOX (cutbox-rows.mjs): the forced cells as the released guide's own fill.sh prints them over the translation 5ecc797948e39622… (all of the seat's roots in one cut). By AI agents, Wed Nov 11 2026. No macro, syntax, notation, axiom, sorry.
-/
import Derived.Test.YtiinagmombigpaaChecked
import GoSem.Claim
import GoSem.ClaimJoined
import GoSem.ClaimMapViews
import Derived.JoinedTies
import Derived.KernelRfl
namespace Go.Proofs.Ytiinagmombigpaa
/- THE CELL 'sum', in the pinned program and in every row, IS THE sha256 OF THE DUMP (.gsa) THAT YtiinagmombigpaaProg.lean LOADS. Nothing in Lean hashes anything: it is a label: what it is worth is what the hold of that sum in a sandbox is worth. -/
noncomputable def Try.pinned : Pinned := { name := "ytiinagmombigpaa", sum := "5ecc797948e396221fc9433d893f2fbfa2f95979d38f373a8f63f9041cdee83b", checked := Try.checked }
namespace Rows
def none {H : Type} : Left H := { results := [], args := [] }

/-- 'colloquylaw22.ActorsLowest': WHATEVER THE INPUT: true; the input reads as it did. -/
def actorsLowestSpec : ChangeSpec := { name := "actorsLowest", fn := fun _ => fun
  | [d1, d2] => { results := [.lit (.bool true)], args := [d1, d2] }
  | _ => none }
def actorsLowestRow : OpenClaim := { program := "ytiinagmombigpaa", sum := "5ecc797948e396221fc9433d893f2fbfa2f95979d38f373a8f63f9041cdee83b", func := "colloquy/colloquylaw22.ActorsLowest", spec := "actorsLowest", unfollowed := true, recurses := true, plainKeys := false, apart := false }
def ActorsLowestSaid : Prop := actorsLowestRow.holds Try.pinned (OpenSpec.ofChange actorsLowestSpec)

/-- ITS FALSE NEIGHBOUR: 'it returns false'. Refute it at one input. -/
def actorsLowestWrong : ChangeSpec := { name := "actorsLowest", fn := fun _ => fun
  | [d1, d2] => { results := [.lit (.bool false)], args := [d1, d2] }
  | _ => none }
def ActorsLowestWrongFalsely : Prop := actorsLowestRow.holds Try.pinned (OpenSpec.ofChange actorsLowestWrong)

/-- 'colloquylaw22.ActorsPlays': WHATEVER THE INPUT: true; the input reads as it did. -/
def actorsPlaysSpec : ChangeSpec := { name := "actorsPlays", fn := fun _ => fun
  | [d1, d2] => { results := [.lit (.bool true)], args := [d1, d2] }
  | _ => none }
def actorsPlaysRow : OpenClaim := { program := "ytiinagmombigpaa", sum := "5ecc797948e396221fc9433d893f2fbfa2f95979d38f373a8f63f9041cdee83b", func := "colloquy/colloquylaw22.ActorsPlays", spec := "actorsPlays", unfollowed := true, recurses := true, plainKeys := false, apart := false }
def ActorsPlaysSaid : Prop := actorsPlaysRow.holds Try.pinned (OpenSpec.ofChange actorsPlaysSpec)

/-- ITS FALSE NEIGHBOUR: 'it returns false'. Refute it at one input. -/
def actorsPlaysWrong : ChangeSpec := { name := "actorsPlays", fn := fun _ => fun
  | [d1, d2] => { results := [.lit (.bool false)], args := [d1, d2] }
  | _ => none }
def ActorsPlaysWrongFalsely : Prop := actorsPlaysRow.holds Try.pinned (OpenSpec.ofChange actorsPlaysWrong)

/-- 'colloquylaw22.ActorsApart': WHATEVER THE INPUT: true; the input reads as it did. -/
def actorsApartSpec : ChangeSpec := { name := "actorsApart", fn := fun _ => fun
  | [d1, d2] => { results := [.lit (.bool true)], args := [d1, d2] }
  | _ => none }
def actorsApartRow : OpenClaim := { program := "ytiinagmombigpaa", sum := "5ecc797948e396221fc9433d893f2fbfa2f95979d38f373a8f63f9041cdee83b", func := "colloquy/colloquylaw22.ActorsApart", spec := "actorsApart", unfollowed := true, recurses := true, plainKeys := false, apart := false }
def ActorsApartSaid : Prop := actorsApartRow.holds Try.pinned (OpenSpec.ofChange actorsApartSpec)

/-- ITS FALSE NEIGHBOUR: 'it returns false'. Refute it at one input. -/
def actorsApartWrong : ChangeSpec := { name := "actorsApart", fn := fun _ => fun
  | [d1, d2] => { results := [.lit (.bool false)], args := [d1, d2] }
  | _ => none }
def ActorsApartWrongFalsely : Prop := actorsApartRow.holds Try.pinned (OpenSpec.ofChange actorsApartWrong)

/-- 'colloquylaw22.ActorsKnown': WHATEVER THE INPUT: true; the input reads as it did. -/
def actorsKnownSpec : ChangeSpec := { name := "actorsKnown", fn := fun _ => fun
  | [] => { results := [.lit (.bool true)], args := [] }
  | _ => none }
def actorsKnownRow : OpenClaim := { program := "ytiinagmombigpaa", sum := "5ecc797948e396221fc9433d893f2fbfa2f95979d38f373a8f63f9041cdee83b", func := "colloquy/colloquylaw22.ActorsKnown", spec := "actorsKnown", unfollowed := true, recurses := true, plainKeys := false, apart := false }
def ActorsKnownSaid : Prop := actorsKnownRow.holds Try.pinned (OpenSpec.ofChange actorsKnownSpec)

/-- ITS FALSE NEIGHBOUR: 'it returns false'. Refute it at one input. -/
def actorsKnownWrong : ChangeSpec := { name := "actorsKnown", fn := fun _ => fun
  | [] => { results := [.lit (.bool false)], args := [] }
  | _ => none }
def ActorsKnownWrongFalsely : Prop := actorsKnownRow.holds Try.pinned (OpenSpec.ofChange actorsKnownWrong)

/-- 'colloquylaw04.GraphShapes': WHATEVER THE INPUT: true; the input reads as it did. -/
def graphShapesSpec : ChangeSpec := { name := "graphShapes", fn := fun _ => fun
  | [d] => { results := [.lit (.bool true)], args := [d] }
  | _ => none }
def graphShapesRow : OpenClaim := { program := "ytiinagmombigpaa", sum := "5ecc797948e396221fc9433d893f2fbfa2f95979d38f373a8f63f9041cdee83b", func := "colloquy/colloquylaw04.GraphShapes", spec := "graphShapes", unfollowed := true, recurses := true, plainKeys := false, apart := false }
def GraphShapesSaid : Prop := graphShapesRow.holds Try.pinned (OpenSpec.ofChange graphShapesSpec)

/-- ITS FALSE NEIGHBOUR: 'it returns false'. Refute it at one input. -/
def graphShapesWrong : ChangeSpec := { name := "graphShapes", fn := fun _ => fun
  | [d] => { results := [.lit (.bool false)], args := [d] }
  | _ => none }
def GraphShapesWrongFalsely : Prop := graphShapesRow.holds Try.pinned (OpenSpec.ofChange graphShapesWrong)

/-- 'colloquylaw04.GraphLeads': WHATEVER THE INPUT: true; the input reads as it did. -/
def graphLeadsSpec : ChangeSpec := { name := "graphLeads", fn := fun _ => fun
  | [d1, d2, d3] => { results := [.lit (.bool true)], args := [d1, d2, d3] }
  | _ => none }
def graphLeadsRow : OpenClaim := { program := "ytiinagmombigpaa", sum := "5ecc797948e396221fc9433d893f2fbfa2f95979d38f373a8f63f9041cdee83b", func := "colloquy/colloquylaw04.GraphLeads", spec := "graphLeads", unfollowed := true, recurses := true, plainKeys := false, apart := false }
def GraphLeadsSaid : Prop := graphLeadsRow.holds Try.pinned (OpenSpec.ofChange graphLeadsSpec)

/-- ITS FALSE NEIGHBOUR: 'it returns false'. Refute it at one input. -/
def graphLeadsWrong : ChangeSpec := { name := "graphLeads", fn := fun _ => fun
  | [d1, d2, d3] => { results := [.lit (.bool false)], args := [d1, d2, d3] }
  | _ => none }
def GraphLeadsWrongFalsely : Prop := graphLeadsRow.holds Try.pinned (OpenSpec.ofChange graphLeadsWrong)

/-- 'colloquylaw04.GraphWays': WHATEVER THE INPUT: true; the input reads as it did. -/
def graphWaysSpec : ChangeSpec := { name := "graphWays", fn := fun _ => fun
  | [d1, d2, d3] => { results := [.lit (.bool true)], args := [d1, d2, d3] }
  | _ => none }
def graphWaysRow : OpenClaim := { program := "ytiinagmombigpaa", sum := "5ecc797948e396221fc9433d893f2fbfa2f95979d38f373a8f63f9041cdee83b", func := "colloquy/colloquylaw04.GraphWays", spec := "graphWays", unfollowed := true, recurses := true, plainKeys := false, apart := false }
def GraphWaysSaid : Prop := graphWaysRow.holds Try.pinned (OpenSpec.ofChange graphWaysSpec)

/-- ITS FALSE NEIGHBOUR: 'it returns false'. Refute it at one input. -/
def graphWaysWrong : ChangeSpec := { name := "graphWays", fn := fun _ => fun
  | [d1, d2, d3] => { results := [.lit (.bool false)], args := [d1, d2, d3] }
  | _ => none }
def GraphWaysWrongFalsely : Prop := graphWaysRow.holds Try.pinned (OpenSpec.ofChange graphWaysWrong)

/-- 'colloquylaw04.GraphSpoilt': WHATEVER THE INPUT: true; the input reads as it did. -/
def graphSpoiltSpec : ChangeSpec := { name := "graphSpoilt", fn := fun _ => fun
  | [d1, d2, d3] => { results := [.lit (.bool true)], args := [d1, d2, d3] }
  | _ => none }
def graphSpoiltRow : OpenClaim := { program := "ytiinagmombigpaa", sum := "5ecc797948e396221fc9433d893f2fbfa2f95979d38f373a8f63f9041cdee83b", func := "colloquy/colloquylaw04.GraphSpoilt", spec := "graphSpoilt", unfollowed := true, recurses := true, plainKeys := false, apart := false }
def GraphSpoiltSaid : Prop := graphSpoiltRow.holds Try.pinned (OpenSpec.ofChange graphSpoiltSpec)

/-- ITS FALSE NEIGHBOUR: 'it returns false'. Refute it at one input. -/
def graphSpoiltWrong : ChangeSpec := { name := "graphSpoilt", fn := fun _ => fun
  | [d1, d2, d3] => { results := [.lit (.bool false)], args := [d1, d2, d3] }
  | _ => none }
def GraphSpoiltWrongFalsely : Prop := graphSpoiltRow.holds Try.pinned (OpenSpec.ofChange graphSpoiltWrong)

/-- 'colloquylaw04.GraphKnown': WHATEVER THE INPUT: true; the input reads as it did. -/
def graphKnownSpec : ChangeSpec := { name := "graphKnown", fn := fun _ => fun
  | [] => { results := [.lit (.bool true)], args := [] }
  | _ => none }
def graphKnownRow : OpenClaim := { program := "ytiinagmombigpaa", sum := "5ecc797948e396221fc9433d893f2fbfa2f95979d38f373a8f63f9041cdee83b", func := "colloquy/colloquylaw04.GraphKnown", spec := "graphKnown", unfollowed := true, recurses := true, plainKeys := false, apart := false }
def GraphKnownSaid : Prop := graphKnownRow.holds Try.pinned (OpenSpec.ofChange graphKnownSpec)

/-- ITS FALSE NEIGHBOUR: 'it returns false'. Refute it at one input. -/
def graphKnownWrong : ChangeSpec := { name := "graphKnown", fn := fun _ => fun
  | [] => { results := [.lit (.bool false)], args := [] }
  | _ => none }
def GraphKnownWrongFalsely : Prop := graphKnownRow.holds Try.pinned (OpenSpec.ofChange graphKnownWrong)

/-- 'colloquylaw06.DualTables': WHATEVER THE INPUT: true; the input reads as it did. -/
def dualTablesSpec : ChangeSpec := { name := "dualTables", fn := fun _ => fun
  | [d1, d2, d3] => { results := [.lit (.bool true)], args := [d1, d2, d3] }
  | _ => none }
def dualTablesRow : OpenClaim := { program := "ytiinagmombigpaa", sum := "5ecc797948e396221fc9433d893f2fbfa2f95979d38f373a8f63f9041cdee83b", func := "colloquy/colloquylaw06.DualTables", spec := "dualTables", unfollowed := true, recurses := true, plainKeys := false, apart := false }
def DualTablesSaid : Prop := dualTablesRow.holds Try.pinned (OpenSpec.ofChange dualTablesSpec)

/-- ITS FALSE NEIGHBOUR: 'it returns false'. Refute it at one input. -/
def dualTablesWrong : ChangeSpec := { name := "dualTables", fn := fun _ => fun
  | [d1, d2, d3] => { results := [.lit (.bool false)], args := [d1, d2, d3] }
  | _ => none }
def DualTablesWrongFalsely : Prop := dualTablesRow.holds Try.pinned (OpenSpec.ofChange dualTablesWrong)

/-- 'colloquylaw06.DualTwice': WHATEVER THE INPUT: true; the input reads as it did. -/
def dualTwiceSpec : ChangeSpec := { name := "dualTwice", fn := fun _ => fun
  | [d] => { results := [.lit (.bool true)], args := [d] }
  | _ => none }
def dualTwiceRow : OpenClaim := { program := "ytiinagmombigpaa", sum := "5ecc797948e396221fc9433d893f2fbfa2f95979d38f373a8f63f9041cdee83b", func := "colloquy/colloquylaw06.DualTwice", spec := "dualTwice", unfollowed := true, recurses := true, plainKeys := false, apart := false }
def DualTwiceSaid : Prop := dualTwiceRow.holds Try.pinned (OpenSpec.ofChange dualTwiceSpec)

/-- ITS FALSE NEIGHBOUR: 'it returns false'. Refute it at one input. -/
def dualTwiceWrong : ChangeSpec := { name := "dualTwice", fn := fun _ => fun
  | [d] => { results := [.lit (.bool false)], args := [d] }
  | _ => none }
def DualTwiceWrongFalsely : Prop := dualTwiceRow.holds Try.pinned (OpenSpec.ofChange dualTwiceWrong)

/-- 'colloquylaw06.DualWalks': WHATEVER THE INPUT: true; the input reads as it did. -/
def dualWalksSpec : ChangeSpec := { name := "dualWalks", fn := fun _ => fun
  | [d1, d2, d3] => { results := [.lit (.bool true)], args := [d1, d2, d3] }
  | _ => none }
def dualWalksRow : OpenClaim := { program := "ytiinagmombigpaa", sum := "5ecc797948e396221fc9433d893f2fbfa2f95979d38f373a8f63f9041cdee83b", func := "colloquy/colloquylaw06.DualWalks", spec := "dualWalks", unfollowed := true, recurses := true, plainKeys := false, apart := false }
def DualWalksSaid : Prop := dualWalksRow.holds Try.pinned (OpenSpec.ofChange dualWalksSpec)

/-- ITS FALSE NEIGHBOUR: 'it returns false'. Refute it at one input. -/
def dualWalksWrong : ChangeSpec := { name := "dualWalks", fn := fun _ => fun
  | [d1, d2, d3] => { results := [.lit (.bool false)], args := [d1, d2, d3] }
  | _ => none }
def DualWalksWrongFalsely : Prop := dualWalksRow.holds Try.pinned (OpenSpec.ofChange dualWalksWrong)

/-- 'colloquylaw06.DualKnown': WHATEVER THE INPUT: true; the input reads as it did. -/
def dualKnownSpec : ChangeSpec := { name := "dualKnown", fn := fun _ => fun
  | [] => { results := [.lit (.bool true)], args := [] }
  | _ => none }
def dualKnownRow : OpenClaim := { program := "ytiinagmombigpaa", sum := "5ecc797948e396221fc9433d893f2fbfa2f95979d38f373a8f63f9041cdee83b", func := "colloquy/colloquylaw06.DualKnown", spec := "dualKnown", unfollowed := true, recurses := true, plainKeys := false, apart := false }
def DualKnownSaid : Prop := dualKnownRow.holds Try.pinned (OpenSpec.ofChange dualKnownSpec)

/-- ITS FALSE NEIGHBOUR: 'it returns false'. Refute it at one input. -/
def dualKnownWrong : ChangeSpec := { name := "dualKnown", fn := fun _ => fun
  | [] => { results := [.lit (.bool false)], args := [] }
  | _ => none }
def DualKnownWrongFalsely : Prop := dualKnownRow.holds Try.pinned (OpenSpec.ofChange dualKnownWrong)

/-- 'colloquylaw05.OrderBacks': WHATEVER THE INPUT: true; the input reads as it did. -/
def orderBacksSpec : ChangeSpec := { name := "orderBacks", fn := fun _ => fun
  | [d1, d2] => { results := [.lit (.bool true)], args := [d1, d2] }
  | _ => none }
def orderBacksRow : OpenClaim := { program := "ytiinagmombigpaa", sum := "5ecc797948e396221fc9433d893f2fbfa2f95979d38f373a8f63f9041cdee83b", func := "colloquy/colloquylaw05.OrderBacks", spec := "orderBacks", unfollowed := true, recurses := true, plainKeys := false, apart := false }
def OrderBacksSaid : Prop := orderBacksRow.holds Try.pinned (OpenSpec.ofChange orderBacksSpec)

/-- ITS FALSE NEIGHBOUR: 'it returns false'. Refute it at one input. -/
def orderBacksWrong : ChangeSpec := { name := "orderBacks", fn := fun _ => fun
  | [d1, d2] => { results := [.lit (.bool false)], args := [d1, d2] }
  | _ => none }
def OrderBacksWrongFalsely : Prop := orderBacksRow.holds Try.pinned (OpenSpec.ofChange orderBacksWrong)

/-- 'colloquylaw05.OrderRises': WHATEVER THE INPUT: true; the input reads as it did. -/
def orderRisesSpec : ChangeSpec := { name := "orderRises", fn := fun _ => fun
  | [d1, d2, d3] => { results := [.lit (.bool true)], args := [d1, d2, d3] }
  | _ => none }
def orderRisesRow : OpenClaim := { program := "ytiinagmombigpaa", sum := "5ecc797948e396221fc9433d893f2fbfa2f95979d38f373a8f63f9041cdee83b", func := "colloquy/colloquylaw05.OrderRises", spec := "orderRises", unfollowed := true, recurses := true, plainKeys := false, apart := false }
def OrderRisesSaid : Prop := orderRisesRow.holds Try.pinned (OpenSpec.ofChange orderRisesSpec)

/-- ITS FALSE NEIGHBOUR: 'it returns false'. Refute it at one input. -/
def orderRisesWrong : ChangeSpec := { name := "orderRises", fn := fun _ => fun
  | [d1, d2, d3] => { results := [.lit (.bool false)], args := [d1, d2, d3] }
  | _ => none }
def OrderRisesWrongFalsely : Prop := orderRisesRow.holds Try.pinned (OpenSpec.ofChange orderRisesWrong)

/-- 'colloquylaw05.OrderShifted': WHATEVER THE INPUT: true; the input reads as it did. -/
def orderShiftedSpec : ChangeSpec := { name := "orderShifted", fn := fun _ => fun
  | [d1, d2] => { results := [.lit (.bool true)], args := [d1, d2] }
  | _ => none }
def orderShiftedRow : OpenClaim := { program := "ytiinagmombigpaa", sum := "5ecc797948e396221fc9433d893f2fbfa2f95979d38f373a8f63f9041cdee83b", func := "colloquy/colloquylaw05.OrderShifted", spec := "orderShifted", unfollowed := true, recurses := true, plainKeys := false, apart := false }
def OrderShiftedSaid : Prop := orderShiftedRow.holds Try.pinned (OpenSpec.ofChange orderShiftedSpec)

/-- ITS FALSE NEIGHBOUR: 'it returns false'. Refute it at one input. -/
def orderShiftedWrong : ChangeSpec := { name := "orderShifted", fn := fun _ => fun
  | [d1, d2] => { results := [.lit (.bool false)], args := [d1, d2] }
  | _ => none }
def OrderShiftedWrongFalsely : Prop := orderShiftedRow.holds Try.pinned (OpenSpec.ofChange orderShiftedWrong)

/-- 'colloquylaw05.OrderChecks': WHATEVER THE INPUT: true; the input reads as it did. -/
def orderChecksSpec : ChangeSpec := { name := "orderChecks", fn := fun _ => fun
  | [d1, d2, d3] => { results := [.lit (.bool true)], args := [d1, d2, d3] }
  | _ => none }
def orderChecksRow : OpenClaim := { program := "ytiinagmombigpaa", sum := "5ecc797948e396221fc9433d893f2fbfa2f95979d38f373a8f63f9041cdee83b", func := "colloquy/colloquylaw05.OrderChecks", spec := "orderChecks", unfollowed := true, recurses := true, plainKeys := false, apart := false }
def OrderChecksSaid : Prop := orderChecksRow.holds Try.pinned (OpenSpec.ofChange orderChecksSpec)

/-- ITS FALSE NEIGHBOUR: 'it returns false'. Refute it at one input. -/
def orderChecksWrong : ChangeSpec := { name := "orderChecks", fn := fun _ => fun
  | [d1, d2, d3] => { results := [.lit (.bool false)], args := [d1, d2, d3] }
  | _ => none }
def OrderChecksWrongFalsely : Prop := orderChecksRow.holds Try.pinned (OpenSpec.ofChange orderChecksWrong)

/-- 'colloquylaw05.OrderKnown': WHATEVER THE INPUT: true; the input reads as it did. -/
def orderKnownSpec : ChangeSpec := { name := "orderKnown", fn := fun _ => fun
  | [] => { results := [.lit (.bool true)], args := [] }
  | _ => none }
def orderKnownRow : OpenClaim := { program := "ytiinagmombigpaa", sum := "5ecc797948e396221fc9433d893f2fbfa2f95979d38f373a8f63f9041cdee83b", func := "colloquy/colloquylaw05.OrderKnown", spec := "orderKnown", unfollowed := true, recurses := true, plainKeys := false, apart := false }
def OrderKnownSaid : Prop := orderKnownRow.holds Try.pinned (OpenSpec.ofChange orderKnownSpec)

/-- ITS FALSE NEIGHBOUR: 'it returns false'. Refute it at one input. -/
def orderKnownWrong : ChangeSpec := { name := "orderKnown", fn := fun _ => fun
  | [] => { results := [.lit (.bool false)], args := [] }
  | _ => none }
def OrderKnownWrongFalsely : Prop := orderKnownRow.holds Try.pinned (OpenSpec.ofChange orderKnownWrong)

/-- 'colloquylaw07.ClassTables': WHATEVER THE INPUT: true; the input reads as it did. -/
def classTablesSpec : ChangeSpec := { name := "classTables", fn := fun _ => fun
  | [d] => { results := [.lit (.bool true)], args := [d] }
  | _ => none }
def classTablesRow : OpenClaim := { program := "ytiinagmombigpaa", sum := "5ecc797948e396221fc9433d893f2fbfa2f95979d38f373a8f63f9041cdee83b", func := "colloquy/colloquylaw07.ClassTables", spec := "classTables", unfollowed := true, recurses := true, plainKeys := false, apart := false }
def ClassTablesSaid : Prop := classTablesRow.holds Try.pinned (OpenSpec.ofChange classTablesSpec)

/-- ITS FALSE NEIGHBOUR: 'it returns false'. Refute it at one input. -/
def classTablesWrong : ChangeSpec := { name := "classTables", fn := fun _ => fun
  | [d] => { results := [.lit (.bool false)], args := [d] }
  | _ => none }
def ClassTablesWrongFalsely : Prop := classTablesRow.holds Try.pinned (OpenSpec.ofChange classTablesWrong)

/-- 'colloquylaw07.ClassApart': WHATEVER THE INPUT: true; the input reads as it did. -/
def classApartSpec : ChangeSpec := { name := "classApart", fn := fun _ => fun
  | [d1, d2, d3] => { results := [.lit (.bool true)], args := [d1, d2, d3] }
  | _ => none }
def classApartRow : OpenClaim := { program := "ytiinagmombigpaa", sum := "5ecc797948e396221fc9433d893f2fbfa2f95979d38f373a8f63f9041cdee83b", func := "colloquy/colloquylaw07.ClassApart", spec := "classApart", unfollowed := true, recurses := true, plainKeys := false, apart := false }
def ClassApartSaid : Prop := classApartRow.holds Try.pinned (OpenSpec.ofChange classApartSpec)

/-- ITS FALSE NEIGHBOUR: 'it returns false'. Refute it at one input. -/
def classApartWrong : ChangeSpec := { name := "classApart", fn := fun _ => fun
  | [d1, d2, d3] => { results := [.lit (.bool false)], args := [d1, d2, d3] }
  | _ => none }
def ClassApartWrongFalsely : Prop := classApartRow.holds Try.pinned (OpenSpec.ofChange classApartWrong)

/-- 'colloquylaw07.ClassGoes': WHATEVER THE INPUT: true; the input reads as it did. -/
def classGoesSpec : ChangeSpec := { name := "classGoes", fn := fun _ => fun
  | [d1, d2, d3] => { results := [.lit (.bool true)], args := [d1, d2, d3] }
  | _ => none }
def classGoesRow : OpenClaim := { program := "ytiinagmombigpaa", sum := "5ecc797948e396221fc9433d893f2fbfa2f95979d38f373a8f63f9041cdee83b", func := "colloquy/colloquylaw07.ClassGoes", spec := "classGoes", unfollowed := true, recurses := true, plainKeys := false, apart := false }
def ClassGoesSaid : Prop := classGoesRow.holds Try.pinned (OpenSpec.ofChange classGoesSpec)

/-- ITS FALSE NEIGHBOUR: 'it returns false'. Refute it at one input. -/
def classGoesWrong : ChangeSpec := { name := "classGoes", fn := fun _ => fun
  | [d1, d2, d3] => { results := [.lit (.bool false)], args := [d1, d2, d3] }
  | _ => none }
def ClassGoesWrongFalsely : Prop := classGoesRow.holds Try.pinned (OpenSpec.ofChange classGoesWrong)

/-- 'colloquylaw07.ClassLinks': WHATEVER THE INPUT: true; the input reads as it did. -/
def classLinksSpec : ChangeSpec := { name := "classLinks", fn := fun _ => fun
  | [d1, d2] => { results := [.lit (.bool true)], args := [d1, d2] }
  | _ => none }
def classLinksRow : OpenClaim := { program := "ytiinagmombigpaa", sum := "5ecc797948e396221fc9433d893f2fbfa2f95979d38f373a8f63f9041cdee83b", func := "colloquy/colloquylaw07.ClassLinks", spec := "classLinks", unfollowed := true, recurses := true, plainKeys := false, apart := false }
def ClassLinksSaid : Prop := classLinksRow.holds Try.pinned (OpenSpec.ofChange classLinksSpec)

/-- ITS FALSE NEIGHBOUR: 'it returns false'. Refute it at one input. -/
def classLinksWrong : ChangeSpec := { name := "classLinks", fn := fun _ => fun
  | [d1, d2] => { results := [.lit (.bool false)], args := [d1, d2] }
  | _ => none }
def ClassLinksWrongFalsely : Prop := classLinksRow.holds Try.pinned (OpenSpec.ofChange classLinksWrong)

/-- 'colloquylaw07.ClassKnown': WHATEVER THE INPUT: true; the input reads as it did. -/
def classKnownSpec : ChangeSpec := { name := "classKnown", fn := fun _ => fun
  | [] => { results := [.lit (.bool true)], args := [] }
  | _ => none }
def classKnownRow : OpenClaim := { program := "ytiinagmombigpaa", sum := "5ecc797948e396221fc9433d893f2fbfa2f95979d38f373a8f63f9041cdee83b", func := "colloquy/colloquylaw07.ClassKnown", spec := "classKnown", unfollowed := true, recurses := true, plainKeys := false, apart := false }
def ClassKnownSaid : Prop := classKnownRow.holds Try.pinned (OpenSpec.ofChange classKnownSpec)

/-- ITS FALSE NEIGHBOUR: 'it returns false'. Refute it at one input. -/
def classKnownWrong : ChangeSpec := { name := "classKnown", fn := fun _ => fun
  | [] => { results := [.lit (.bool false)], args := [] }
  | _ => none }
def ClassKnownWrongFalsely : Prop := classKnownRow.holds Try.pinned (OpenSpec.ofChange classKnownWrong)

/-- 'colloquylaw13.StateAdds': WHATEVER THE INPUT: true; the input reads as it did. -/
def stateAddsSpec : ChangeSpec := { name := "stateAdds", fn := fun _ => fun
  | [d1, d2, d3] => { results := [.lit (.bool true)], args := [d1, d2, d3] }
  | _ => none }
def stateAddsRow : OpenClaim := { program := "ytiinagmombigpaa", sum := "5ecc797948e396221fc9433d893f2fbfa2f95979d38f373a8f63f9041cdee83b", func := "colloquy/colloquylaw13.StateAdds", spec := "stateAdds", unfollowed := true, recurses := true, plainKeys := false, apart := false }
def StateAddsSaid : Prop := stateAddsRow.holds Try.pinned (OpenSpec.ofChange stateAddsSpec)

/-- ITS FALSE NEIGHBOUR: 'it returns false'. Refute it at one input. -/
def stateAddsWrong : ChangeSpec := { name := "stateAdds", fn := fun _ => fun
  | [d1, d2, d3] => { results := [.lit (.bool false)], args := [d1, d2, d3] }
  | _ => none }
def StateAddsWrongFalsely : Prop := stateAddsRow.holds Try.pinned (OpenSpec.ofChange stateAddsWrong)

/-- 'colloquylaw13.StateKnown': WHATEVER THE INPUT: true; the input reads as it did. -/
def stateKnownSpec : ChangeSpec := { name := "stateKnown", fn := fun _ => fun
  | [] => { results := [.lit (.bool true)], args := [] }
  | _ => none }
def stateKnownRow : OpenClaim := { program := "ytiinagmombigpaa", sum := "5ecc797948e396221fc9433d893f2fbfa2f95979d38f373a8f63f9041cdee83b", func := "colloquy/colloquylaw13.StateKnown", spec := "stateKnown", unfollowed := true, recurses := true, plainKeys := false, apart := false }
def StateKnownSaid : Prop := stateKnownRow.holds Try.pinned (OpenSpec.ofChange stateKnownSpec)

/-- ITS FALSE NEIGHBOUR: 'it returns false'. Refute it at one input. -/
def stateKnownWrong : ChangeSpec := { name := "stateKnown", fn := fun _ => fun
  | [] => { results := [.lit (.bool false)], args := [] }
  | _ => none }
def StateKnownWrongFalsely : Prop := stateKnownRow.holds Try.pinned (OpenSpec.ofChange stateKnownWrong)

/-- 'colloquylaw17.BootChecks': WHATEVER THE INPUT: true; the input reads as it did. -/
def bootChecksSpec : ChangeSpec := { name := "bootChecks", fn := fun _ => fun
  | [d1, d2, d3] => { results := [.lit (.bool true)], args := [d1, d2, d3] }
  | _ => none }
def bootChecksRow : OpenClaim := { program := "ytiinagmombigpaa", sum := "5ecc797948e396221fc9433d893f2fbfa2f95979d38f373a8f63f9041cdee83b", func := "colloquy/colloquylaw17.BootChecks", spec := "bootChecks", unfollowed := true, recurses := true, plainKeys := false, apart := false }
def BootChecksSaid : Prop := bootChecksRow.holds Try.pinned (OpenSpec.ofChange bootChecksSpec)

/-- ITS FALSE NEIGHBOUR: 'it returns false'. Refute it at one input. -/
def bootChecksWrong : ChangeSpec := { name := "bootChecks", fn := fun _ => fun
  | [d1, d2, d3] => { results := [.lit (.bool false)], args := [d1, d2, d3] }
  | _ => none }
def BootChecksWrongFalsely : Prop := bootChecksRow.holds Try.pinned (OpenSpec.ofChange bootChecksWrong)

/-- 'colloquylaw17.BootAny': WHATEVER THE INPUT: true; the input reads as it did. -/
def bootAnySpec : ChangeSpec := { name := "bootAny", fn := fun _ => fun
  | [d1, d2, d3] => { results := [.lit (.bool true)], args := [d1, d2, d3] }
  | _ => none }
def bootAnyRow : OpenClaim := { program := "ytiinagmombigpaa", sum := "5ecc797948e396221fc9433d893f2fbfa2f95979d38f373a8f63f9041cdee83b", func := "colloquy/colloquylaw17.BootAny", spec := "bootAny", unfollowed := true, recurses := true, plainKeys := false, apart := false }
def BootAnySaid : Prop := bootAnyRow.holds Try.pinned (OpenSpec.ofChange bootAnySpec)

/-- ITS FALSE NEIGHBOUR: 'it returns false'. Refute it at one input. -/
def bootAnyWrong : ChangeSpec := { name := "bootAny", fn := fun _ => fun
  | [d1, d2, d3] => { results := [.lit (.bool false)], args := [d1, d2, d3] }
  | _ => none }
def BootAnyWrongFalsely : Prop := bootAnyRow.holds Try.pinned (OpenSpec.ofChange bootAnyWrong)

/-- 'colloquylaw17.BootLinear': WHATEVER THE INPUT: true; the input reads as it did. -/
def bootLinearSpec : ChangeSpec := { name := "bootLinear", fn := fun _ => fun
  | [d1, d2, d3] => { results := [.lit (.bool true)], args := [d1, d2, d3] }
  | _ => none }
def bootLinearRow : OpenClaim := { program := "ytiinagmombigpaa", sum := "5ecc797948e396221fc9433d893f2fbfa2f95979d38f373a8f63f9041cdee83b", func := "colloquy/colloquylaw17.BootLinear", spec := "bootLinear", unfollowed := true, recurses := true, plainKeys := false, apart := false }
def BootLinearSaid : Prop := bootLinearRow.holds Try.pinned (OpenSpec.ofChange bootLinearSpec)

/-- ITS FALSE NEIGHBOUR: 'it returns false'. Refute it at one input. -/
def bootLinearWrong : ChangeSpec := { name := "bootLinear", fn := fun _ => fun
  | [d1, d2, d3] => { results := [.lit (.bool false)], args := [d1, d2, d3] }
  | _ => none }
def BootLinearWrongFalsely : Prop := bootLinearRow.holds Try.pinned (OpenSpec.ofChange bootLinearWrong)

/-- 'colloquylaw17.BootShifted': WHATEVER THE INPUT: true; the input reads as it did. -/
def bootShiftedSpec : ChangeSpec := { name := "bootShifted", fn := fun _ => fun
  | [d1, d2] => { results := [.lit (.bool true)], args := [d1, d2] }
  | _ => none }
def bootShiftedRow : OpenClaim := { program := "ytiinagmombigpaa", sum := "5ecc797948e396221fc9433d893f2fbfa2f95979d38f373a8f63f9041cdee83b", func := "colloquy/colloquylaw17.BootShifted", spec := "bootShifted", unfollowed := true, recurses := true, plainKeys := false, apart := false }
def BootShiftedSaid : Prop := bootShiftedRow.holds Try.pinned (OpenSpec.ofChange bootShiftedSpec)

/-- ITS FALSE NEIGHBOUR: 'it returns false'. Refute it at one input. -/
def bootShiftedWrong : ChangeSpec := { name := "bootShifted", fn := fun _ => fun
  | [d1, d2] => { results := [.lit (.bool false)], args := [d1, d2] }
  | _ => none }
def BootShiftedWrongFalsely : Prop := bootShiftedRow.holds Try.pinned (OpenSpec.ofChange bootShiftedWrong)

/-- 'colloquylaw17.BootKnown': WHATEVER THE INPUT: true; the input reads as it did. -/
def bootKnownSpec : ChangeSpec := { name := "bootKnown", fn := fun _ => fun
  | [] => { results := [.lit (.bool true)], args := [] }
  | _ => none }
def bootKnownRow : OpenClaim := { program := "ytiinagmombigpaa", sum := "5ecc797948e396221fc9433d893f2fbfa2f95979d38f373a8f63f9041cdee83b", func := "colloquy/colloquylaw17.BootKnown", spec := "bootKnown", unfollowed := true, recurses := true, plainKeys := false, apart := false }
def BootKnownSaid : Prop := bootKnownRow.holds Try.pinned (OpenSpec.ofChange bootKnownSpec)

/-- ITS FALSE NEIGHBOUR: 'it returns false'. Refute it at one input. -/
def bootKnownWrong : ChangeSpec := { name := "bootKnown", fn := fun _ => fun
  | [] => { results := [.lit (.bool false)], args := [] }
  | _ => none }
def BootKnownWrongFalsely : Prop := bootKnownRow.holds Try.pinned (OpenSpec.ofChange bootKnownWrong)

/- THE SECOND FORM. 'bulk': how many values and letters a reading holds, each counted each time it is reached (what is shared counts as often as it is met; a slice's spare places count too). A statement '..UptoSaid' is the law's where the arguments, and the package variables that the reading takes, are together of bulk at most 1048576: NARROWER than '..Said'. Prove '..Said' where nothing that the law and all that it calls make is longer than what came in: it says more and counts as full. Else prove '..UptoSaid'. A law counts once. -/
mutual
def uptoBulk {H : Type} : DataW H → Nat
  | .lit (.string bytes) => bytes.length + 1
  | .lit _ => 1
  | .nil => 1
  | .ptr d => uptoBulk d + 1
  | .slice elems spare => uptoBulkAll elems + uptoBulkAll spare + 1
  | .agg parts => uptoBulkAll parts + 1
  | .iface _ d => uptoBulk d + 1
  | .map entries => uptoBulkEntries entries + 1
  | .held _ => 1
def uptoBulkAll {H : Type} : List (DataW H) → Nat
  | [] => 0
  | d :: r => uptoBulk d + uptoBulkAll r
def uptoBulkEntries {H : Type} : List (Lit × DataW H) → Nat
  | [] => 0
  | x :: r => uptoBulkEntry x + uptoBulkEntries r
def uptoBulkEntry {H : Type} : Lit × DataW H → Nat
  | (.string bytes, d) => bytes.length + uptoBulk d + 1
  | (_, d) => uptoBulk d + 1
 end
def uptoSmall : (H : Type) → List (DataW H) → Bool := fun _ ds => decide (uptoBulkAll ds ≤ 1048576)
def OpenSpec.upto (s : _root_.Go.ChangeSpec) : _root_.Go.OpenSpec := { _root_.Go.OpenSpec.ofChange s with cond := some uptoSmall }

/-- 'colloquylaw22.ActorsLowest', WHERE WHAT IT READS IS OF BULK AT MOST 1048576: true; the input reads as it did. -/
def actorsLowestUptoRow : OpenClaim := { program := "ytiinagmombigpaa", sum := "5ecc797948e396221fc9433d893f2fbfa2f95979d38f373a8f63f9041cdee83b", func := "colloquy/colloquylaw22.ActorsLowest", spec := "actorsLowest", unfollowed := true, recurses := true, plainKeys := false, apart := false, narrowed := true }
def ActorsLowestUptoSaid : Prop := actorsLowestUptoRow.holds Try.pinned (OpenSpec.upto actorsLowestSpec)

/-- 'colloquylaw22.ActorsPlays', WHERE WHAT IT READS IS OF BULK AT MOST 1048576: true; the input reads as it did. -/
def actorsPlaysUptoRow : OpenClaim := { program := "ytiinagmombigpaa", sum := "5ecc797948e396221fc9433d893f2fbfa2f95979d38f373a8f63f9041cdee83b", func := "colloquy/colloquylaw22.ActorsPlays", spec := "actorsPlays", unfollowed := true, recurses := true, plainKeys := false, apart := false, narrowed := true }
def ActorsPlaysUptoSaid : Prop := actorsPlaysUptoRow.holds Try.pinned (OpenSpec.upto actorsPlaysSpec)

/-- 'colloquylaw22.ActorsApart', WHERE WHAT IT READS IS OF BULK AT MOST 1048576: true; the input reads as it did. -/
def actorsApartUptoRow : OpenClaim := { program := "ytiinagmombigpaa", sum := "5ecc797948e396221fc9433d893f2fbfa2f95979d38f373a8f63f9041cdee83b", func := "colloquy/colloquylaw22.ActorsApart", spec := "actorsApart", unfollowed := true, recurses := true, plainKeys := false, apart := false, narrowed := true }
def ActorsApartUptoSaid : Prop := actorsApartUptoRow.holds Try.pinned (OpenSpec.upto actorsApartSpec)

/-- 'colloquylaw22.ActorsKnown', WHERE WHAT IT READS IS OF BULK AT MOST 1048576: true; the input reads as it did. -/
def actorsKnownUptoRow : OpenClaim := { program := "ytiinagmombigpaa", sum := "5ecc797948e396221fc9433d893f2fbfa2f95979d38f373a8f63f9041cdee83b", func := "colloquy/colloquylaw22.ActorsKnown", spec := "actorsKnown", unfollowed := true, recurses := true, plainKeys := false, apart := false, narrowed := true }
def ActorsKnownUptoSaid : Prop := actorsKnownUptoRow.holds Try.pinned (OpenSpec.upto actorsKnownSpec)

/-- 'colloquylaw04.GraphShapes', WHERE WHAT IT READS IS OF BULK AT MOST 1048576: true; the input reads as it did. -/
def graphShapesUptoRow : OpenClaim := { program := "ytiinagmombigpaa", sum := "5ecc797948e396221fc9433d893f2fbfa2f95979d38f373a8f63f9041cdee83b", func := "colloquy/colloquylaw04.GraphShapes", spec := "graphShapes", unfollowed := true, recurses := true, plainKeys := false, apart := false, narrowed := true }
def GraphShapesUptoSaid : Prop := graphShapesUptoRow.holds Try.pinned (OpenSpec.upto graphShapesSpec)

/-- 'colloquylaw04.GraphLeads', WHERE WHAT IT READS IS OF BULK AT MOST 1048576: true; the input reads as it did. -/
def graphLeadsUptoRow : OpenClaim := { program := "ytiinagmombigpaa", sum := "5ecc797948e396221fc9433d893f2fbfa2f95979d38f373a8f63f9041cdee83b", func := "colloquy/colloquylaw04.GraphLeads", spec := "graphLeads", unfollowed := true, recurses := true, plainKeys := false, apart := false, narrowed := true }
def GraphLeadsUptoSaid : Prop := graphLeadsUptoRow.holds Try.pinned (OpenSpec.upto graphLeadsSpec)

/-- 'colloquylaw04.GraphWays', WHERE WHAT IT READS IS OF BULK AT MOST 1048576: true; the input reads as it did. -/
def graphWaysUptoRow : OpenClaim := { program := "ytiinagmombigpaa", sum := "5ecc797948e396221fc9433d893f2fbfa2f95979d38f373a8f63f9041cdee83b", func := "colloquy/colloquylaw04.GraphWays", spec := "graphWays", unfollowed := true, recurses := true, plainKeys := false, apart := false, narrowed := true }
def GraphWaysUptoSaid : Prop := graphWaysUptoRow.holds Try.pinned (OpenSpec.upto graphWaysSpec)

/-- 'colloquylaw04.GraphSpoilt', WHERE WHAT IT READS IS OF BULK AT MOST 1048576: true; the input reads as it did. -/
def graphSpoiltUptoRow : OpenClaim := { program := "ytiinagmombigpaa", sum := "5ecc797948e396221fc9433d893f2fbfa2f95979d38f373a8f63f9041cdee83b", func := "colloquy/colloquylaw04.GraphSpoilt", spec := "graphSpoilt", unfollowed := true, recurses := true, plainKeys := false, apart := false, narrowed := true }
def GraphSpoiltUptoSaid : Prop := graphSpoiltUptoRow.holds Try.pinned (OpenSpec.upto graphSpoiltSpec)

/-- 'colloquylaw04.GraphKnown', WHERE WHAT IT READS IS OF BULK AT MOST 1048576: true; the input reads as it did. -/
def graphKnownUptoRow : OpenClaim := { program := "ytiinagmombigpaa", sum := "5ecc797948e396221fc9433d893f2fbfa2f95979d38f373a8f63f9041cdee83b", func := "colloquy/colloquylaw04.GraphKnown", spec := "graphKnown", unfollowed := true, recurses := true, plainKeys := false, apart := false, narrowed := true }
def GraphKnownUptoSaid : Prop := graphKnownUptoRow.holds Try.pinned (OpenSpec.upto graphKnownSpec)

/-- 'colloquylaw06.DualTables', WHERE WHAT IT READS IS OF BULK AT MOST 1048576: true; the input reads as it did. -/
def dualTablesUptoRow : OpenClaim := { program := "ytiinagmombigpaa", sum := "5ecc797948e396221fc9433d893f2fbfa2f95979d38f373a8f63f9041cdee83b", func := "colloquy/colloquylaw06.DualTables", spec := "dualTables", unfollowed := true, recurses := true, plainKeys := false, apart := false, narrowed := true }
def DualTablesUptoSaid : Prop := dualTablesUptoRow.holds Try.pinned (OpenSpec.upto dualTablesSpec)

/-- 'colloquylaw06.DualTwice', WHERE WHAT IT READS IS OF BULK AT MOST 1048576: true; the input reads as it did. -/
def dualTwiceUptoRow : OpenClaim := { program := "ytiinagmombigpaa", sum := "5ecc797948e396221fc9433d893f2fbfa2f95979d38f373a8f63f9041cdee83b", func := "colloquy/colloquylaw06.DualTwice", spec := "dualTwice", unfollowed := true, recurses := true, plainKeys := false, apart := false, narrowed := true }
def DualTwiceUptoSaid : Prop := dualTwiceUptoRow.holds Try.pinned (OpenSpec.upto dualTwiceSpec)

/-- 'colloquylaw06.DualWalks', WHERE WHAT IT READS IS OF BULK AT MOST 1048576: true; the input reads as it did. -/
def dualWalksUptoRow : OpenClaim := { program := "ytiinagmombigpaa", sum := "5ecc797948e396221fc9433d893f2fbfa2f95979d38f373a8f63f9041cdee83b", func := "colloquy/colloquylaw06.DualWalks", spec := "dualWalks", unfollowed := true, recurses := true, plainKeys := false, apart := false, narrowed := true }
def DualWalksUptoSaid : Prop := dualWalksUptoRow.holds Try.pinned (OpenSpec.upto dualWalksSpec)

/-- 'colloquylaw06.DualKnown', WHERE WHAT IT READS IS OF BULK AT MOST 1048576: true; the input reads as it did. -/
def dualKnownUptoRow : OpenClaim := { program := "ytiinagmombigpaa", sum := "5ecc797948e396221fc9433d893f2fbfa2f95979d38f373a8f63f9041cdee83b", func := "colloquy/colloquylaw06.DualKnown", spec := "dualKnown", unfollowed := true, recurses := true, plainKeys := false, apart := false, narrowed := true }
def DualKnownUptoSaid : Prop := dualKnownUptoRow.holds Try.pinned (OpenSpec.upto dualKnownSpec)

/-- 'colloquylaw05.OrderBacks', WHERE WHAT IT READS IS OF BULK AT MOST 1048576: true; the input reads as it did. -/
def orderBacksUptoRow : OpenClaim := { program := "ytiinagmombigpaa", sum := "5ecc797948e396221fc9433d893f2fbfa2f95979d38f373a8f63f9041cdee83b", func := "colloquy/colloquylaw05.OrderBacks", spec := "orderBacks", unfollowed := true, recurses := true, plainKeys := false, apart := false, narrowed := true }
def OrderBacksUptoSaid : Prop := orderBacksUptoRow.holds Try.pinned (OpenSpec.upto orderBacksSpec)

/-- 'colloquylaw05.OrderRises', WHERE WHAT IT READS IS OF BULK AT MOST 1048576: true; the input reads as it did. -/
def orderRisesUptoRow : OpenClaim := { program := "ytiinagmombigpaa", sum := "5ecc797948e396221fc9433d893f2fbfa2f95979d38f373a8f63f9041cdee83b", func := "colloquy/colloquylaw05.OrderRises", spec := "orderRises", unfollowed := true, recurses := true, plainKeys := false, apart := false, narrowed := true }
def OrderRisesUptoSaid : Prop := orderRisesUptoRow.holds Try.pinned (OpenSpec.upto orderRisesSpec)

/-- 'colloquylaw05.OrderShifted', WHERE WHAT IT READS IS OF BULK AT MOST 1048576: true; the input reads as it did. -/
def orderShiftedUptoRow : OpenClaim := { program := "ytiinagmombigpaa", sum := "5ecc797948e396221fc9433d893f2fbfa2f95979d38f373a8f63f9041cdee83b", func := "colloquy/colloquylaw05.OrderShifted", spec := "orderShifted", unfollowed := true, recurses := true, plainKeys := false, apart := false, narrowed := true }
def OrderShiftedUptoSaid : Prop := orderShiftedUptoRow.holds Try.pinned (OpenSpec.upto orderShiftedSpec)

/-- 'colloquylaw05.OrderChecks', WHERE WHAT IT READS IS OF BULK AT MOST 1048576: true; the input reads as it did. -/
def orderChecksUptoRow : OpenClaim := { program := "ytiinagmombigpaa", sum := "5ecc797948e396221fc9433d893f2fbfa2f95979d38f373a8f63f9041cdee83b", func := "colloquy/colloquylaw05.OrderChecks", spec := "orderChecks", unfollowed := true, recurses := true, plainKeys := false, apart := false, narrowed := true }
def OrderChecksUptoSaid : Prop := orderChecksUptoRow.holds Try.pinned (OpenSpec.upto orderChecksSpec)

/-- 'colloquylaw05.OrderKnown', WHERE WHAT IT READS IS OF BULK AT MOST 1048576: true; the input reads as it did. -/
def orderKnownUptoRow : OpenClaim := { program := "ytiinagmombigpaa", sum := "5ecc797948e396221fc9433d893f2fbfa2f95979d38f373a8f63f9041cdee83b", func := "colloquy/colloquylaw05.OrderKnown", spec := "orderKnown", unfollowed := true, recurses := true, plainKeys := false, apart := false, narrowed := true }
def OrderKnownUptoSaid : Prop := orderKnownUptoRow.holds Try.pinned (OpenSpec.upto orderKnownSpec)

/-- 'colloquylaw07.ClassTables', WHERE WHAT IT READS IS OF BULK AT MOST 1048576: true; the input reads as it did. -/
def classTablesUptoRow : OpenClaim := { program := "ytiinagmombigpaa", sum := "5ecc797948e396221fc9433d893f2fbfa2f95979d38f373a8f63f9041cdee83b", func := "colloquy/colloquylaw07.ClassTables", spec := "classTables", unfollowed := true, recurses := true, plainKeys := false, apart := false, narrowed := true }
def ClassTablesUptoSaid : Prop := classTablesUptoRow.holds Try.pinned (OpenSpec.upto classTablesSpec)

/-- 'colloquylaw07.ClassApart', WHERE WHAT IT READS IS OF BULK AT MOST 1048576: true; the input reads as it did. -/
def classApartUptoRow : OpenClaim := { program := "ytiinagmombigpaa", sum := "5ecc797948e396221fc9433d893f2fbfa2f95979d38f373a8f63f9041cdee83b", func := "colloquy/colloquylaw07.ClassApart", spec := "classApart", unfollowed := true, recurses := true, plainKeys := false, apart := false, narrowed := true }
def ClassApartUptoSaid : Prop := classApartUptoRow.holds Try.pinned (OpenSpec.upto classApartSpec)

/-- 'colloquylaw07.ClassGoes', WHERE WHAT IT READS IS OF BULK AT MOST 1048576: true; the input reads as it did. -/
def classGoesUptoRow : OpenClaim := { program := "ytiinagmombigpaa", sum := "5ecc797948e396221fc9433d893f2fbfa2f95979d38f373a8f63f9041cdee83b", func := "colloquy/colloquylaw07.ClassGoes", spec := "classGoes", unfollowed := true, recurses := true, plainKeys := false, apart := false, narrowed := true }
def ClassGoesUptoSaid : Prop := classGoesUptoRow.holds Try.pinned (OpenSpec.upto classGoesSpec)

/-- 'colloquylaw07.ClassLinks', WHERE WHAT IT READS IS OF BULK AT MOST 1048576: true; the input reads as it did. -/
def classLinksUptoRow : OpenClaim := { program := "ytiinagmombigpaa", sum := "5ecc797948e396221fc9433d893f2fbfa2f95979d38f373a8f63f9041cdee83b", func := "colloquy/colloquylaw07.ClassLinks", spec := "classLinks", unfollowed := true, recurses := true, plainKeys := false, apart := false, narrowed := true }
def ClassLinksUptoSaid : Prop := classLinksUptoRow.holds Try.pinned (OpenSpec.upto classLinksSpec)

/-- 'colloquylaw07.ClassKnown', WHERE WHAT IT READS IS OF BULK AT MOST 1048576: true; the input reads as it did. -/
def classKnownUptoRow : OpenClaim := { program := "ytiinagmombigpaa", sum := "5ecc797948e396221fc9433d893f2fbfa2f95979d38f373a8f63f9041cdee83b", func := "colloquy/colloquylaw07.ClassKnown", spec := "classKnown", unfollowed := true, recurses := true, plainKeys := false, apart := false, narrowed := true }
def ClassKnownUptoSaid : Prop := classKnownUptoRow.holds Try.pinned (OpenSpec.upto classKnownSpec)

/-- 'colloquylaw13.StateAdds', WHERE WHAT IT READS IS OF BULK AT MOST 1048576: true; the input reads as it did. -/
def stateAddsUptoRow : OpenClaim := { program := "ytiinagmombigpaa", sum := "5ecc797948e396221fc9433d893f2fbfa2f95979d38f373a8f63f9041cdee83b", func := "colloquy/colloquylaw13.StateAdds", spec := "stateAdds", unfollowed := true, recurses := true, plainKeys := false, apart := false, narrowed := true }
def StateAddsUptoSaid : Prop := stateAddsUptoRow.holds Try.pinned (OpenSpec.upto stateAddsSpec)

/-- 'colloquylaw13.StateKnown', WHERE WHAT IT READS IS OF BULK AT MOST 1048576: true; the input reads as it did. -/
def stateKnownUptoRow : OpenClaim := { program := "ytiinagmombigpaa", sum := "5ecc797948e396221fc9433d893f2fbfa2f95979d38f373a8f63f9041cdee83b", func := "colloquy/colloquylaw13.StateKnown", spec := "stateKnown", unfollowed := true, recurses := true, plainKeys := false, apart := false, narrowed := true }
def StateKnownUptoSaid : Prop := stateKnownUptoRow.holds Try.pinned (OpenSpec.upto stateKnownSpec)

/-- 'colloquylaw17.BootChecks', WHERE WHAT IT READS IS OF BULK AT MOST 1048576: true; the input reads as it did. -/
def bootChecksUptoRow : OpenClaim := { program := "ytiinagmombigpaa", sum := "5ecc797948e396221fc9433d893f2fbfa2f95979d38f373a8f63f9041cdee83b", func := "colloquy/colloquylaw17.BootChecks", spec := "bootChecks", unfollowed := true, recurses := true, plainKeys := false, apart := false, narrowed := true }
def BootChecksUptoSaid : Prop := bootChecksUptoRow.holds Try.pinned (OpenSpec.upto bootChecksSpec)

/-- 'colloquylaw17.BootAny', WHERE WHAT IT READS IS OF BULK AT MOST 1048576: true; the input reads as it did. -/
def bootAnyUptoRow : OpenClaim := { program := "ytiinagmombigpaa", sum := "5ecc797948e396221fc9433d893f2fbfa2f95979d38f373a8f63f9041cdee83b", func := "colloquy/colloquylaw17.BootAny", spec := "bootAny", unfollowed := true, recurses := true, plainKeys := false, apart := false, narrowed := true }
def BootAnyUptoSaid : Prop := bootAnyUptoRow.holds Try.pinned (OpenSpec.upto bootAnySpec)

/-- 'colloquylaw17.BootLinear', WHERE WHAT IT READS IS OF BULK AT MOST 1048576: true; the input reads as it did. -/
def bootLinearUptoRow : OpenClaim := { program := "ytiinagmombigpaa", sum := "5ecc797948e396221fc9433d893f2fbfa2f95979d38f373a8f63f9041cdee83b", func := "colloquy/colloquylaw17.BootLinear", spec := "bootLinear", unfollowed := true, recurses := true, plainKeys := false, apart := false, narrowed := true }
def BootLinearUptoSaid : Prop := bootLinearUptoRow.holds Try.pinned (OpenSpec.upto bootLinearSpec)

/-- 'colloquylaw17.BootShifted', WHERE WHAT IT READS IS OF BULK AT MOST 1048576: true; the input reads as it did. -/
def bootShiftedUptoRow : OpenClaim := { program := "ytiinagmombigpaa", sum := "5ecc797948e396221fc9433d893f2fbfa2f95979d38f373a8f63f9041cdee83b", func := "colloquy/colloquylaw17.BootShifted", spec := "bootShifted", unfollowed := true, recurses := true, plainKeys := false, apart := false, narrowed := true }
def BootShiftedUptoSaid : Prop := bootShiftedUptoRow.holds Try.pinned (OpenSpec.upto bootShiftedSpec)

/-- 'colloquylaw17.BootKnown', WHERE WHAT IT READS IS OF BULK AT MOST 1048576: true; the input reads as it did. -/
def bootKnownUptoRow : OpenClaim := { program := "ytiinagmombigpaa", sum := "5ecc797948e396221fc9433d893f2fbfa2f95979d38f373a8f63f9041cdee83b", func := "colloquy/colloquylaw17.BootKnown", spec := "bootKnown", unfollowed := true, recurses := true, plainKeys := false, apart := false, narrowed := true }
def BootKnownUptoSaid : Prop := bootKnownUptoRow.holds Try.pinned (OpenSpec.upto bootKnownSpec)

end Rows
end Go.Proofs.Ytiinagmombigpaa
