/- Steps whose footprints are apart: temporaries. -/
import Derived.Test.YtiinagmombigpaaAbs31
set_option linter.unusedVariables false
set_option linter.unusedSimpArgs false
set_option linter.unnecessarySimpa false
namespace Go.Abs

theorem PT.setD_comm (d : Nat) : ∀ (t : PT) (i j : Nat) (x y : AV), i ≠ j → setD d (setD d t i x) j y = setD d (setD d t j y) i x := by
  induction d with
  | zero => intro t i j x y h; rfl
  | succ d ih =>
    intro t i j x y h
    cases i with
    | zero =>
      cases j with
      | zero => exact absurd rfl h
      | succ j => cases t <;> by_cases hj : j % 2 = 0 <;> simp [setD, hj]
    | succ i =>
      cases j with
      | zero => cases t <;> by_cases hi : i % 2 = 0 <;> simp [setD, hi]
      | succ j =>
        cases t <;> by_cases hi : i % 2 = 0 <;> by_cases hj : j % 2 = 0 <;> simp [setD, hi, hj] <;>
          (apply ih; omega)

theorem PT.set_comm (t : PT) {i j : Nat} (x y : AV) (h : i ≠ j) : (t.set i x).set j y = (t.set j y).set i x := PT.setD_comm 14 t i j x y h

/-- an operand's value is the same in both frames -/
structure Sees (fr fr' : PT) (x : Operand) : Prop where
  ev : Abs.ev fr' x = Abs.ev fr x
  raw : Abs.raw fr' x = Abs.raw fr x
  owner : Abs.owner fr' x = Abs.owner fr x
  get : ∀ t, Abs.owner fr x = some t → fr'.get t = fr.get t

theorem Sees.of {fr fr' : PT} {x : Operand} (h : ∀ t, x = .tmp t → fr'.get t = fr.get t) : Sees fr fr' x := by
  cases x with
  | tmp t =>
    have ht := h t rfl
    refine ⟨by simp [Abs.ev, ht], by simp [Abs.raw, ht], by simp [Abs.owner, ht], fun s hs => ?_⟩
    obtain ⟨he, _⟩ := owner_spec hs
    cases he; exact ht
  | _ => exact ⟨rfl, rfl, rfl, fun s hs => by cases hs⟩

theorem sees_list {fr fr' : PT} : ∀ {l : List Operand}, (∀ x ∈ l, Sees fr fr' x) → l.map (ev fr') = l.map (ev fr)
  | [], _ => rfl
  | x :: l, h => by
    have h1 := (h x (by simp)).ev
    have h2 := sees_list (l := l) fun y hy => h y (List.mem_cons_of_mem _ hy)
    simp only [List.map_cons, h1, h2]
theorem sees_parts {fr fr' : PT} : ∀ {l : List (Nat × Operand)}, (∀ x ∈ l.map (·.2), Sees fr fr' x) → l.map (fun p => (p.1, ev fr' p.2)) = l.map (fun p => (p.1, ev fr p.2))
  | [], _ => rfl
  | x :: l, h => by
    have h1 := (h x.2 (by simp)).ev
    have h2 := sees_parts (l := l) fun y hy => h y (by rw [List.map_cons]; exact List.mem_cons_of_mem _ hy)
    simp only [List.map_cons, h1, h2]

/-- an operation sees its operands alone -/
theorem lop_congr {cx : Cx} {ro nm : Nat} {fn : FuncId} {ops : Array Oper} {fr fr' : PT} {H : Hp} {d : Tmp} {op : Op} (h : ∀ x ∈ op.operands, Sees fr fr' x) : lop cx ro fn ops nm fr' H d op = lop cx ro fn ops nm fr H d op := by
  cases op with
  | move x =>
    have hx := h x (by simp [Op.operands])
    simp only [lop, lMove, hx.ev, hx.owner]
    cases ho : owner fr x with
    | none => rfl
    | some t => simp only [hx.get t ho]
  | assign x => have hx := h x (by simp [Op.operands]); simp only [lop, hx.raw, hx.owner]
  | pick c a b => simp only [lop, lPick, (h c (by simp [Op.operands])).ev, (h a (by simp [Op.operands])).ev, (h b (by simp [Op.operands])).ev]
  | alloc e => rfl
  | box e x => simp only [lop, (h x (by simp [Op.operands])).ev]
  | build t ps => simp only [lop, sees_parts (l := ps.toList) fun x hx => h x (by simpa [Op.operands] using hx)]
  | buildSlice t n ps => simp only [lop, sees_parts (l := ps.toList) fun x hx => h x (by simpa [Op.operands] using hx)]
  | makeSlice t l c => simp only [lop, (h l (by simp [Op.operands])).ev, (h c (by simp [Op.operands])).ev]
  | makeMap t r => cases r <;> rfl
  | load t x => simp only [lop, (h x (by simp [Op.operands])).ev]
  | store t a x =>
    have hx := h x (by simp [Op.operands])
    simp only [lop, lStore, (h a (by simp [Op.operands])).ev, hx.ev, hx.owner]
    cases ho : owner fr x with
    | none => rfl
    | some t => simp only [hx.get t ho]
  | nilCheck x => simp only [lop, (h x (by simp [Op.operands])).ev]
  | binOp op t x y r => simp only [lop, (h x (by simp [Op.operands])).ev, (h y (by simp [Op.operands])).ev]
  | unOp op t x => simp only [lop, (h x (by simp [Op.operands])).ev]
  | convert s t x => simp only [lop, (h x (by simp [Op.operands])).ev]
  | makeFunc f first captured => simp only [lop, lMakeFunc, sees_list (l := captured.toList) fun x hx => h x (by simp [Op.operands]; exact .inr (by simpa using hx))]
  | slice t x lo hi mx =>
    have ho : ∀ (y : Option Operand), (∀ z ∈ y, Sees fr fr' z) → y.map (ev fr') = y.map (ev fr) := fun y hy => by cases y with | none => rfl | some z => simp only [Option.map_some, (hy z rfl).ev]
    simp only [lop, (h x (by simp [Op.operands])).ev, ho lo fun z hz => h z (by simp only [Option.mem_def] at hz; subst hz; simp [Op.operands]), ho hi fun z hz => h z (by simp only [Option.mem_def] at hz; subst hz; simp [Op.operands]), ho mx fun z hz => h z (by simp only [Option.mem_def] at hz; subst hz; simp [Op.operands])]
  | fieldAddr t x f => simp only [lop, (h x (by simp [Op.operands])).ev]
  | field t x f => simp only [lop, (h x (by simp [Op.operands])).ev]
  | indexAddr t x ix => simp only [lop, (h x (by simp [Op.operands])).ev, (h ix (by simp [Op.operands])).ev]
  | index t x ix => simp only [lop, (h x (by simp [Op.operands])).ev, (h ix (by simp [Op.operands])).ev]
  | extract t i => simp only [lop, (h t (by simp [Op.operands])).ev]
  | lookup t x k ok => simp only [lop, (h x (by simp [Op.operands])).ev, (h k (by simp [Op.operands])).ev]
  | mapUpdate t m k x => simp only [lop, (h x (by simp [Op.operands])).ev, (h k (by simp [Op.operands])).ev, (h m (by simp [Op.operands])).ev]
  | call c =>
    have ha : ∀ x ∈ c.args.toList, Sees fr fr' x := fun x hx => h x (by simp only [Op.operands, Call.operands, Array.mem_append]; exact .inr (by simpa using hx))
    simp only [lop, lCall]
    cases hc : c.callee with
    | builtin b =>
      simp only [lBuiltin]
      split
      · rename_i x t _ hargs _
        simp only [hargs] at ha
        simp only [(ha x (by simp)).ev]
      · rename_i s x t t' _ hargs _
        simp only [hargs] at ha
        simp only [lAppend, (ha x (by simp)).ev, (ha s (by simp)).raw, (ha s (by simp)).owner]
      · rw [sees_list ha]
      · rw [sees_list ha]
      · rename_i x y t _ hargs _
        simp only [hargs] at ha
        simp only [(ha x (by simp)).ev, (ha y (by simp)).ev]
      · rename_i x y t _ hargs _
        simp only [hargs] at ha
        simp only [(ha x (by simp)).ev, (ha y (by simp)).ev]
      · rfl
    | _ => rfl
  | _ => rfl

end Go.Abs
