/- The evaluator over this seat's program. -/
import Derived.Test.YtiinagmombigpaaTab
namespace Go.Abs.Tab
noncomputable def pol : Pol :=
  { pure := fun f => Nat.testBit 5993122243328188588142566096546946403628321146404856 f
    quiet := fun f => Nat.testBit 95783894307395448345992430353594446769526443390009344 f
    heap := fun f d => [3027, 34010, 39010, 39012, 55023, 65044, 73072, 74036, 74047, 86026, 130015, 146024, 20120, 95002, 95005, 95011, 95013, 105015, 105017, 105021, 105023, 105025].any (Nat.beq (f * 1000 + d))
    frz := fun f d => [130046].any (Nat.beq (f * 1000 + d)) }
noncomputable def cx : Cx := { fns := funcs.get, T := types.get, pol := pol }
end Go.Abs.Tab
