/- The evaluator with a table of what calls are known to come to. -/
import Derived.Test.YtiinagmombigpaaAbs39
set_option linter.unusedVariables false
set_option linter.unusedSimpArgs false
set_option linter.unnecessarySimpa false
namespace Go.Abs
open Go.RowKit (Below)
variable {P : Program}

/-! ### equality of values, as far as it is told -/
def litEq : Value → AV → Bool
  | .int k n, .lit (.int k' n') => decide (k = k') && decide (n = n')
  | .bool b, .lit (.bool b') => b == b'
  | .slice none l c, .lit (.slice none l' c') => Nat.beq l l' && Nat.beq c c'
  | .pointer none, .lit (.pointer none) => true
  | _, _ => false
theorem litEq_eq {v : Value} {b : AV} (h : litEq v b = true) : AV.lit v = b := by
  unfold litEq at h
  split at h
  · simp only [Bool.and_eq_true, decide_eq_true_eq] at h; rw [h.1, h.2]
  · simp only [beq_iff_eq] at h; rw [h]
  · simp only [Bool.and_eq_true, Nat.beq_eq] at h; rw [h.1, h.2]
  · rfl
  · cases h
def vecOf : AV → Option (Nat × Kd × List AV)
  | .vec sz k els => some (sz, k, els)
  | _ => none
def cellsA : AV → Option (List AV)
  | .agg l => some l
  | _ => none
def tupA : AV → Option (List AV)
  | .tup l => some l
  | _ => none
/-- what leads to blocks -/
def adEq : AV → AV → Bool
  | .ptr b i j, .ptr b' i' j' => Nat.beq b b' && Nat.beq i i' && Nat.beq j j'
  | .sl b z i l c, .sl b' z' i' l' c' => Nat.beq b b' && Nat.beq z z' && Nat.beq i i' && Nat.beq l l' && Nat.beq c c'
  | .isl b z i l c, .isl b' z' i' l' c' => Nat.beq b b' && Nat.beq z z' && Nat.beq i i' && Nat.beq l l' && Nat.beq c c'
  | .mp b, .mp b' => Nat.beq b b'
  | _, _ => false
theorem adEq_eq {a b : AV} (h : adEq a b = true) : a = b := by
  unfold adEq at h
  split at h
  · simp only [Bool.and_eq_true, Nat.beq_eq] at h; obtain ⟨⟨rfl, rfl⟩, rfl⟩ := h; rfl
  · simp only [Bool.and_eq_true, Nat.beq_eq] at h; obtain ⟨⟨⟨⟨rfl, rfl⟩, rfl⟩, rfl⟩, rfl⟩ := h; rfl
  · simp only [Bool.and_eq_true, Nat.beq_eq] at h; obtain ⟨⟨⟨⟨rfl, rfl⟩, rfl⟩, rfl⟩, rfl⟩ := h; rfl
  · simp only [Nat.beq_eq] at h; rw [h]
  · cases h
mutual
def avEq : AV → AV → Bool
  | .lit v, b => litEq v b
  | .vec sz k els, b => match vecOf b with
    | some (sz', k', els') => sz == sz' && decide (k = k') && avEqs els els'
    | none => false
  | .agg l, b => match cellsA b with
    | some l' => avEqs l l'
    | none => false
  | .tup l, b => match tupA b with
    | some l' => avEqs l l'
    | none => false
  | a, b => adEq a b
def avEqs : List AV → List AV → Bool
  | [], bs => bs.isEmpty
  | a :: as, bs => match bs with
    | [] => false
    | b :: bs => avEq a b && avEqs as bs
end

mutual
theorem avEq_eq : ∀ (a b : AV), avEq a b = true → a = b
  | .lit v, b, h => litEq_eq h
  | .vec sz k els, b, h => by
    simp only [avEq] at h
    cases b <;> simp only [vecOf] at h <;> try cases h
    rename_i sz' k' els'
    simp only [Bool.and_eq_true, beq_iff_eq, decide_eq_true_eq] at h
    rw [h.1.1, h.1.2, avEqs_eq els els' h.2]
  | .agg l, b, h => by
    simp only [avEq] at h
    cases b <;> simp only [cellsA] at h <;> try cases h
    rename_i l'
    rw [avEqs_eq l l' h]
  | .tup l, b, h => by
    simp only [avEq] at h
    cases b <;> simp only [tupA] at h <;> try cases h
    rename_i l'
    rw [avEqs_eq l l' h]
  | .dead, b, h => adEq_eq h
  | .ptr .., b, h => adEq_eq h
  | .sl .., b, h => adEq_eq h
  | .isl .., b, h => adEq_eq h
  | .vp .., b, h => adEq_eq h
  | .fn .., b, h => adEq_eq h
  | .yld .., b, h => adEq_eq h
  | .mp .., b, h => adEq_eq h
theorem avEqs_eq : ∀ (a b : List AV), avEqs a b = true → a = b
  | [], b, h => by
    simp only [avEqs, List.isEmpty_iff] at h; exact h.symm
  | a :: as, b, h => by
    simp only [avEqs] at h
    cases b with
    | nil => cases h
    | cons b bs =>
      simp only [Bool.and_eq_true] at h
      rw [avEq_eq a b h.1, avEqs_eq as bs h.2]
end

def bEq : ABlock → ABlock → Bool
  | .cells sz e els, .cells sz' e' els' => Nat.beq sz sz' && Nat.beq e e' && avEqs els els'
  | .mapo [], .mapo [] => true
  | .gone, .gone => true
  | _, _ => false
theorem bEq_eq {a b : ABlock} (h : bEq a b = true) : a = b := by
  unfold bEq at h
  split at h
  · simp only [Bool.and_eq_true, Nat.beq_eq] at h
    obtain ⟨⟨rfl, rfl⟩, h⟩ := h
    rw [avEqs_eq _ _ h]
  · rfl
  · rfl
  · cases h
def hEq : Hp → Hp → Bool
  | [], [] => true
  | a :: as, b :: bs => bEq a b && hEq as bs
  | _, _ => false
theorem hEq_eq : ∀ {a b : Hp}, hEq a b = true → a = b
  | [], [], _ => rfl
  | a :: as, b :: bs, h => by
    simp only [hEq, Bool.and_eq_true] at h
    rw [bEq_eq h.1, hEq_eq h.2]
  | [], _ :: _, h => by cases h
  | _ :: _, [], h => by cases h

/-- a row of the table: a function, its arguments, the heap, none of whose blocks is written; what comes -/
structure Row where
  f : FuncId
  args : List AV
  H : Hp
  v : AV
def Row.ok (P : Program) (r : Row) : Prop := ∃ k h, HdOk P k h ∧ docall h 0 r.f r.args r.H .quiet = some (r.v, r.H)

def look (ro : Nat) (f : FuncId) (args : List AV) (H : Hp) : List Row → Option AV
  | [] => none
  | r :: rs => if Nat.beq r.f f && avEqs r.args args && hEq r.H H && Nat.beq ro H.length then some r.v else look ro f args H rs

theorem look_ok {ro : Nat} {f : FuncId} {args : List AV} {H : Hp} {v : AV} : ∀ {rs : List Row}, (∀ r ∈ rs, r.ok P) → look ro f args H rs = some v → ∃ k h, HdOk P k h ∧ docall h 0 f args H .quiet = some (v, H)
  | [], _, h => by cases h
  | r :: rs, hr, h => by
    simp only [look] at h
    split at h
    · rename_i hc
      simp only [Bool.and_eq_true] at hc
      cases h
      have h1 : r.f = f := Nat.eq_of_beq_eq_true hc.1.1.1
      have h2 := avEqs_eq _ _ hc.1.1.2
      have h3 := hEq_eq hc.1.2
      have := hr r (by simp)
      unfold Row.ok at this
      rw [h1, h2, h3] at this; exact this
    · exact look_ok (fun r h => hr r (by simp [h])) h

def known (rs : List Row) (r : Nat → FuncId → List AV → Hp → Option (AV × Hp)) (ro : Nat) (f : FuncId) (args : List AV) (H : Hp) : Option (AV × Hp) :=
  match look ro f args H rs with
  | some v => some (v, H)
  | none => r ro f args H

def lvlT (cx : Cx) (rs : List Row) : Nat → Hd
  | 0 => .none
  | k + 1 => ⟨known rs (callB cx (lvlT cx rs k)), loopB cx (lvlT cx rs k), ex cx (lvlT cx rs k)⟩

theorem lvlT_grow (cx : Cx) (rs : List Row) : ∀ k, Grow (lvlT cx rs k)
  | 0 => grow_none
  | k + 1 => ⟨fun {ro f args H v H'} h => by
      simp only [lvlT, known] at h
      split at h
      · cases h; exact Nat.le_refl _
      · exact callB_grow (lvlT_grow cx rs k) h, fun h => loopB_grow (lvlT_grow cx rs k) h, fun h => ex_grow (lvlT_grow cx rs k) _ h⟩

theorem docall_quiet_any {h : Hd} {ro ro' : Nat} {f : FuncId} {args : List AV} {H : Hp} {v : AV} (hd : docall h ro f args H .quiet = some (v, H)) : docall h ro' f args H .quiet = some (v, H) := hd

theorem lvlT_ok {cx : Cx} (hT : TOk P cx.T) (hF : FOk P cx) (hm : P.follows .mixedOrders = true) {rs : List Row} (hr : ∀ r ∈ rs, r.ok P) : ∀ k, HdOk P k (lvlT cx rs k)
  | 0 => hdOk_none
  | k + 1 => by
    have ih := lvlT_ok hT hF hm hr k
    have hre := reorders (cx := cx) hm (lvlT_grow cx rs k)
    refine ⟨fun {ro f args H v H'} hx => ?_, fun hx => loopB_ok hT ih hre hx, fun hx => ex_ok hT ih hre _ hx⟩
    simp only [lvlT, known] at hx
    split at hx
    · rename_i v' hl
      cases hx
      obtain ⟨k', h', k1, k2⟩ := look_ok hr hl
      have k3 := docall_quiet_any (ro' := ro) k2
      refine ⟨fun w cargs => ?_, fun {g w cargs} hm ha n => ?_⟩
      · simp only [docall, purely] at k2
        split at k2
        · rename_i hc
          exact (k1.call hc).1 w cargs
        · cases k2
      · refine CallsIn.mono ((docall_ok k1 hm ha k3 .res).2 n) fun e w' he => ?_
        cases e with
        | returned c => obtain ⟨g', a, b, c⟩ := he; exact ⟨g', a, b.toEv, c⟩
        | panicked _ => exact he
        | outgrown => exact he
    · exact callB_ok hT hF ih hre hx

/-- does it come to true? -/
def isTrue : Option (AV × Hp) → Bool
  | some (.lit (.bool true), _) => true
  | _ => false
theorem isTrue_spec {x : Option (AV × Hp)} (h : isTrue x = true) : ∃ H, x = some (.lit (.bool true), H) := by
  unfold isTrue at h
  split at h
  · exact ⟨_, rfl⟩
  · cases h

def comesTo (v : AV) (n : Nat) : Option (AV × Hp) → Bool
  | some (v', H') => avEq v (frz n H' v')
  | _ => false

theorem Row.ok_of {cx : Cx} (hT : TOk P cx.T) (hF : FOk P cx) (hm : P.follows .mixedOrders = true) {rs : List Row} (hr : ∀ r ∈ rs, r.ok P) (k : Nat) (r : Row)
    (h : comesTo r.v r.H.length ((lvlT cx rs k).call r.H.length r.f (r.args.map drp) r.H) = true) : r.ok P := by
  refine ⟨k, lvlT cx rs k, lvlT_ok hT hF hm hr k, ?_⟩
  simp only [docall]
  unfold comesTo at h
  split at h
  · rename_i v' H' hc
    rw [hc]
    simp only [purely]
    rw [avEq_eq _ _ h]
  · cases h

theorem okn : ∀ r ∈ ([] : List Row), r.ok P := fun r h => by cases h
theorem okc {r0 : Row} {rs : List Row} (h : r0.ok P) (hs : ∀ r ∈ rs, r.ok P) : ∀ r ∈ r0 :: rs, r.ok P := fun r hr => by
  rcases List.mem_cons.1 hr with rfl | hr
  · exact h
  · exact hs r hr

theorem callT_sound {cx : Cx} (hT : TOk P cx.T) (hF : FOk P cx) (hm : P.follows .mixedOrders = true) {rs : List Row} (hr : ∀ r ∈ rs, r.ok P) (k : Nat) {f : FuncId} {w : World}
    (h : isTrue ((lvlT cx rs k).call 0 f [] []) = true) :
    Calls P f #[] w fun e w' => e = .returned (.bool true) ∧ Below w.heap.size w w' := by
  obtain ⟨H', h⟩ := isTrue_spec h
  refine callsIn_wide.1 (CallsIn.mono (((lvlT_ok hT hF hm hr k).call h).2 (MR.mem w) (by simp [VRs]) 0) fun e w' he => ?_)
  cases e with
  | returned c =>
    obtain ⟨g', h1, h2, h3⟩ := he
    have hc : c = .bool true := VR_lit ((SR_notOwn rfl).1 h3)
    subst hc
    refine ⟨rfl, h2.out.os, h2.out.tape, h2.out.output, h2.size, fun B hB => ?_⟩
    exact (h2.prot B .oth (by simp [memGh, hB]) trivial).2.2
  | panicked _ => exact he.elim
  | outgrown => exact he.elim

end Go.Abs
