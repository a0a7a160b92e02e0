/- A function's call, as the evaluator tells it, in the model's own words. -/
import Derived.Test.YtiinagmombigpaaAbs37
import Derived.Below
set_option linter.unusedVariables false
set_option linter.unusedSimpArgs false
set_option linter.unnecessarySimpa false
namespace Go.Abs
open Go.RowKit (Below)
variable {P : Program}

/-- all that is in memory, never to change -/
def memImm (w : World) : Imm := fun B o => w.cell? ⟨B, o, none⟩
def memGh (w : World) : Gh := { imm := memImm w, mu := noMu, ow := fun B => if B < w.heap.size then some .oth else none }

theorem MR.mem (w : World) : MR (memGh w) 0 [] w := by
  refine ⟨Nat.le_refl _, fun _ _ _ h => h, fun _ _ => rfl, ?_, ?_, ?_, ?_, ?_, ?_⟩
  · intro b b' B sz sz' hb; cases hb
  · intro b B sz hb; cases hb
  · intro B l hl
    simp only [memGh] at hl
    split at hl
    · assumption
    · cases hl
  · intro b B sz _ hb; cases hb
  · intro b B sz _ hb; cases hb
  · intro b blk hb; simp at hb

theorem call_sound {cx : Cx} (hT : TOk P cx.T) (hF : FOk P cx) (hm : P.follows .mixedOrders = true) {k : Nat} {f : FuncId} {args : List AV} {cargs : Array Value} {w : World} {b : Bool} {H' : Hp}
    (ha : VRs (memImm w) noMu args cargs.toList) (h : (lvl cx k).call 0 f args [] = some (.lit (.bool b), H')) :
    Calls P f cargs w fun e w' => e = .returned (.bool b) ∧ Below w.heap.size w w' := by
  refine callsIn_wide.1 (CallsIn.mono (((lvl_sound hT hF hm k).call h).2 (MR.mem w) ha 0) fun e w' he => ?_)
  cases e with
  | returned c =>
    obtain ⟨g', h1, h2, h3⟩ := he
    have hc : c = .bool b := VR_lit ((SR_notOwn rfl).1 h3)
    subst hc
    refine ⟨rfl, h2.out.os, h2.out.tape, h2.out.output, h2.size, fun B hB => ?_⟩
    exact (h2.prot B .oth (by simp [memGh, hB]) trivial).2.2
  | panicked _ => exact he.elim
  | outgrown => exact he.elim

end Go.Abs
