/- Every operation that is no call of a function. -/
import Derived.Test.YtiinagmombigpaaAbs21
set_option linter.unusedVariables false
set_option linter.unusedSimpArgs false
set_option linter.unnecessarySimpa false
namespace Go.Abs
variable {P : Program} {T : TypeId → Option TI} {imm : Imm} {mu : Mu}

theorem Rel.evals {g : Gh} {ro nt : Nat} {fr : PT} {H : Hp} {a : Act} {w : World} (h : Rel g ro nt fr H a.tmps w) : ∀ (l : List Operand), VRs g.imm g.mu (l.map (ev fr)) (l.map a.eval)
  | [] => by simp [VRs]
  | x :: l => by simp only [List.map_cons, VRs]; exact ⟨_, _, rfl, h.eval (a := a) x, h.evals l⟩
theorem Rel.parts {g : Gh} {ro nt : Nat} {fr : PT} {H : Hp} {a : Act} {w : World} (h : Rel g ro nt fr H a.tmps w) : ∀ (l : List (Nat × Operand)), VParts g.imm g.mu (l.map fun p => (p.1, ev fr p.2)) (l.map fun p => (p.1, a.eval p.2))
  | [] => by simp [VParts]
  | x :: l => by simp only [List.map_cons, VParts]; exact ⟨_, _, rfl, rfl, h.eval (a := a) x.2, h.parts l⟩

theorem pure_map {ro : Nat} {g : Gh} {H : Hp} {w : World} {o : Oper} {a : Act} {x : Option AV} {r : AV → Rd} {ef : Eff} (hm : MR g ro H w) (h : x.map (fun v => Eff.rdd (r v) v) = some ef)
    (hx : ∀ v, x = some v → ∃ c, (execOp a.eval o).run P w = .ok (.value c) w ∧ VR g.imm g.mu v c) : OpOk P ro g H w o a ef := by
  cases x with
  | none => cases h
  | some v => cases h; exact OpOk.pure hm (hx v rfl)

theorem ovr_map {g : Gh} {ro nt : Nat} {fr : PT} {H : Hp} {a : Act} {w : World} (h : Rel g ro nt fr H a.tmps w) (x : Option Operand) : ovr g.imm g.mu (x.map (ev fr)) (x.map a.eval) := by
  cases x with
  | none => trivial
  | some x => exact h.eval (a := a) x

/-- a builtin -/
theorem run_builtin {w : World} {o : Oper} {a : Act} {c : Call} {b : Builtin} (ho : o.op = .call c) (hc : c.callee = .builtin b) :
    (execOp a.eval o).run P w = (builtin b c.argTypes o.type (c.args.map fun | .const _ => true | _ => false) (c.args.map a.eval)).run P w := by
  simp only [execOp, ho, resolve, hc, Sem.run_bind, Sem.run_pure, Result.andThen, invoke]
  rfl

theorem lBuiltin_ok {cx : Cx} (hT : TOk P cx.T) {ro nt nm : Nat} {fn : FuncId} {g : Gh} {fr : PT} {H : Hp} {w : World} {o : Oper} {a : Act} {c : Call} {b : Builtin} {ef : Eff} (hR : Rel g ro nt fr H a.tmps w)
    (ho : o.op = .call c) (hc : c.callee = .builtin b) (h : lBuiltin cx ro fn nm (o.dst.getD 0) fr H b c.args.toList c.argTypes.toList = some ef) : OpOk P ro g H w o a ef := by
  have hrun := run_builtin (P := P) (w := w) (a := a) ho hc
  have hl := hR.evals (a := a) c.args.toList
  have get2 : ∀ {s x : Operand}, c.args.toList = [s, x] → (c.args.map a.eval)[0]? = some (a.eval s) ∧ (c.args.map a.eval)[1]? = some (a.eval x) := by
    intro s x hs
    have : c.args = #[s, x] := by apply Array.ext'; rw [hs]
    rw [this]; simp
  have get1 : ∀ {s : Operand}, c.args.toList = [s] → (c.args.map a.eval)[0]? = some (a.eval s) := by
    intro s hs
    have : c.args = #[s] := by apply Array.ext'; rw [hs]
    rw [this]; simp
  have gett : ∀ {t : TypeId} {r : List TypeId}, c.argTypes.toList = t :: r → c.argTypes[0]? = some t := by
    intro t r ht
    rw [← Array.getElem?_toList, ht]; rfl
  have gett2 : ∀ {t t' : TypeId} {r : List TypeId}, c.argTypes.toList = t :: t' :: r → c.argTypes[1]? = some t' := by
    intro t t' r ht
    rw [← Array.getElem?_toList, ht]; rfl
  unfold lBuiltin at h
  split at h
  · rename_i x t _ ha ht
    refine pure_map (r := fun _ => lenRd (ev fr x)) hR.mem h fun v hv => ?_
    obtain ⟨c', h1, h2⟩ := alen_ok (P := P) (ty := o.type) hT hR.mem (hR.eval (a := a) x) hv (gett ht) (get1 ha)
    exact ⟨c', by rw [hrun]; simp only [builtin, Sem.run_bind, h1, Result.andThen, Sem.run_pure], h2⟩
  · rename_i s x t t' _ ha ht
    split at h
    · rename_i e' _ ht'
      exact lAppend_ok (cs := #[]) hT hR (by rw [hrun]; rfl) (gett ht) (gett2 ht) (get2 ha).1 (get2 ha).2 (hT.slice ht' rfl) h
    · cases h
  · refine pure_map (r := fun _ => .no) hR.mem h fun v hv => ?_
    obtain ⟨c', h1, h2⟩ := aminmax_ok (P := P) (w := w) false c.argTypes o.type (cs := c.args.map a.eval) (by simpa using hl) hv
    simp only [Bool.false_eq_true, if_false] at h1
    exact ⟨c', by rw [hrun]; simp only [builtin, Sem.run_bind, h1, Result.andThen, Sem.run_pure], h2⟩
  · refine pure_map (r := fun _ => .no) hR.mem h fun v hv => ?_
    obtain ⟨c', h1, h2⟩ := aminmax_ok (P := P) (w := w) true c.argTypes o.type (cs := c.args.map a.eval) (by simpa using hl) hv
    simp only [if_true] at h1
    exact ⟨c', by rw [hrun]; simp only [builtin, Sem.run_bind, h1, Result.andThen, Sem.run_pure], h2⟩
  · rename_i x y t _ ha ht
    exact lCopy_ok hT hR.mem (by rw [hrun]; rfl) (gett ht) (get2 ha).1 (get2 ha).2 (hR.eval (a := a) x) (hR.eval (a := a) y) h
  · rename_i m k t _ ha ht
    exact lDelete_ok hT hR.mem (by rw [hrun]; rfl) (gett ht) (get2 ha).1 (get2 ha).2 (hR.eval (a := a) m) (hR.eval (a := a) k) h
  · cases h

theorem lop_ok {cx : Cx} (hT : TOk P cx.T) {ro nt nm : Nat} {fn : FuncId} {ops : Array Oper} {g : Gh} {fr : PT} {H : Hp} {w : World} {o : Oper} {a : Act} {ef : Eff} (hR : Rel g ro nt fr H a.tmps w)
    (h : lop cx ro fn ops nm fr H (o.dst.getD 0) o.op = some ef) : OpOk P ro g H w o a ef := by
  have hm := hR.mem
  have he := fun x => hR.eval (a := a) x
  cases hop : o.op with
  | move x => rw [hop] at h; exact lMove_ok hR hop h
  | assign x => rw [hop] at h; cases h; exact lAssign_ok hR hop
  | pick c x y =>
    rw [hop] at h
    simp only [lop, lPick] at h
    have hc := he c
    split at h
    · rename_i hv
      cases h
      rw [hv] at hc
      exact OpOk.pure hm ⟨_, by simp [execOp, hop, VR_lit hc, asBool], he x⟩
    · rename_i hv
      cases h
      rw [hv] at hc
      exact OpOk.pure hm ⟨_, by simp [execOp, hop, VR_lit hc, asBool], he y⟩
    · cases h
  | alloc e => rw [hop] at h; exact lAlloc_ok hT hm hop h
  | box e x => rw [hop] at h; exact lBox_ok hT hm hop (he x) h
  | build t parts =>
    rw [hop] at h
    refine pure_map (r := fun _ => .no) hm h fun v hv => ?_
    obtain ⟨c, h1, h2⟩ := abuild_ok (P := P) (w := w) hT (hR.parts (a := a) parts.toList) hv
    refine ⟨c, ?_, h2⟩
    have : (parts.map fun x => match x with | (i, x) => (i, a.eval x)) = (parts.toList.map fun p => (p.1, a.eval p.2)).toArray := by apply Array.ext'; simp
    simp only [execOp, hop, this, Sem.run_bind, h1, Result.andThen, Sem.run_pure]
  | buildSlice t len parts => rw [hop] at h; exact abuildSlice_ok hT hm hop (hR.parts (a := a) parts.toList) h
  | makeSlice t l c => rw [hop] at h; exact lMakeSlice_ok hT hm hop (he l) (he c) h
  | makeMap t r =>
    rw [hop] at h
    cases r with
    | none =>
      simp only [lop] at h
      split at h
      · cases h
      · rename_i hf
        cases h
        exact lMakeMap_ok hm hop (not_false_true hf)
    | some r => simp [lop] at h
  | load t x => rw [hop] at h; exact lLoad_ok hT hm hop (he x) h
  | store t x y => rw [hop] at h; exact lStore_ok hT hR hop h
  | nilCheck x =>
    rw [hop] at h
    have hx := he x
    simp only [lop, lNilCheck] at h
    split at h
    · rename_i hv
      cases h
      rw [hv] at hx
      have hx' := hx
      simp only [VR] at hx'
      obtain ⟨B, sz, _, e⟩ := hx'
      exact OpOk.pure hm ⟨a.eval x, by simp [execOp, hop, e], hx⟩
    · rename_i hv
      cases h
      rw [hv] at hx
      have hx' := hx
      simp only [VR] at hx'
      obtain ⟨B, o, c, e, _⟩ := hx'
      exact OpOk.pure hm ⟨a.eval x, by simp [execOp, hop, e], hx⟩
    · rename_i hv
      cases h
      rw [hv] at hx
      have hx' := hx
      simp only [VR] at hx'
      obtain ⟨cs, e, _⟩ := hx'
      exact OpOk.pure hm ⟨a.eval x, by simp [execOp, hop, e], hx⟩
    · rename_i hv
      cases h
      rw [hv] at hx
      have hx' := hx
      simp only [VR] at hx'
      obtain ⟨B, sz, _, e⟩ := hx'
      exact OpOk.pure hm ⟨a.eval x, by simp [execOp, hop, e], hx⟩
    · cases h
  | binOp op t x y r =>
    rw [hop] at h
    refine pure_map (r := fun _ => .no) hm h fun v hv => ?_
    obtain ⟨c, h1, h2⟩ := abin_ok (P := P) (w := w) (X := x) (Y := y) hT (he x) (he y) hv
    refine ⟨c, ?_, h2⟩
    simp only [execOp, hop, Sem.run_bind, Sem.run_pure] at h1 ⊢
    rw [h1]; rfl
  | unOp op t x =>
    rw [hop] at h
    refine pure_map (r := fun _ => .no) hm h fun v hv => ?_
    obtain ⟨c, h1, h2⟩ := aun_ok (P := P) (w := w) (he x) hv
    exact ⟨c, by simp only [execOp, hop, Sem.run_bind, h1, Result.andThen, Sem.run_pure], h2⟩
  | convert src dst x =>
    rw [hop] at h
    refine pure_map (r := fun _ => .no) hm h fun v hv => ?_
    obtain ⟨c, h1, h2⟩ := aconv_ok (P := P) (w := w) hT (he x) hv
    exact ⟨c, by simp only [execOp, hop, Sem.run_bind, h1, Result.andThen, Sem.run_pure], h2⟩
  | makeFunc f first captured =>
    rw [hop] at h
    simp only [lop, lMakeFunc] at h
    split at h
    · rename_i f0
      split at h
      · rename_i hf
        cases h
        have hf : first = #[] := by simpa using hf
        subst hf
        refine OpOk.pure hm ⟨.func (.func f0) #[] (captured.map a.eval), by simp [execOp, hop, Instr.makeFunc], ?_⟩
        simp only [VR]
        exact ⟨captured.toList.map a.eval, by congr 1; apply Array.ext'; simp, hR.evals (a := a) _⟩
      · cases h
    · cases h
  | slice t x lo hi mx =>
    rw [hop] at h
    refine pure_map (r := fun _ => .no) hm h fun v hv => ?_
    obtain ⟨c, h1, h2⟩ := aslice_ok (P := P) (w := w) hT (he x) (ovr_map (a := a) hR lo) (ovr_map (a := a) hR hi) (ovr_map (a := a) hR mx) hv
    exact ⟨c, by simp only [execOp, hop, Sem.run_bind, h1, Result.andThen, Sem.run_pure], h2⟩
  | fieldAddr t x f =>
    rw [hop] at h
    refine pure_map (r := fun _ => .no) hm h fun v hv => ?_
    obtain ⟨c, h1, h2⟩ := afieldAddr_ok (P := P) (w := w) hT (he x) hv
    exact ⟨c, by simp only [execOp, hop, Sem.run_bind, h1, Result.andThen, Sem.run_pure], h2⟩
  | field t x f =>
    rw [hop] at h
    refine pure_map (r := fun _ => .no) hm h fun v hv => ?_
    obtain ⟨c, h1, h2⟩ := afield_ok (P := P) (w := w) hT (he x) hv
    exact ⟨c, by simp only [execOp, hop, Sem.run_bind, h1, Result.andThen, Sem.run_pure], h2⟩
  | indexAddr t x ix =>
    rw [hop] at h
    refine pure_map (r := fun _ => .no) hm h fun v hv => ?_
    obtain ⟨c, h1, h2⟩ := aindexAddr_ok (P := P) (w := w) hT (he x) (he ix) hv
    exact ⟨c, by simp only [execOp, hop, Sem.run_bind, h1, Result.andThen, Sem.run_pure], h2⟩
  | index t x ix =>
    rw [hop] at h
    refine pure_map (r := fun _ => .no) hm h fun v hv => ?_
    obtain ⟨c, h1, h2⟩ := aindex_ok (P := P) (w := w) hT (he x) (he ix) hv
    exact ⟨c, by simp only [execOp, hop, Sem.run_bind, h1, Result.andThen, Sem.run_pure], h2⟩
  | extract t i =>
    rw [hop] at h
    have hx := he t
    simp only [lop, lExtract] at h
    split at h
    · rename_i vs hv
      rw [hv] at hx
      simp only [VR] at hx
      obtain ⟨cs, e, h1⟩ := hx
      refine pure_map (r := fun _ => .no) (x := (vs[i]?).map drp) hm (by rw [← h]; cases vs[i]? <;> rfl) fun v hvi => ?_
      cases hvs : vs[i]? with
      | none => rw [hvs] at hvi; cases hvi
      | some v' =>
        rw [hvs] at hvi
        cases hvi
        obtain ⟨c, h2, h3⟩ := h1.get hvs
        exact ⟨c, by simp [execOp, hop, e, Instr.extract, h2], h3.drp⟩
    · cases h
  | lookup t x k ok => rw [hop] at h; exact lLookup_ok hT hm hop (he x) (he k) h
  | mapUpdate t m k x => rw [hop] at h; exact lMapUpdate_ok hT hm hop (he m) (he k) (he x) h
  | call c =>
    rw [hop] at h
    simp only [lop, lCall] at h
    split at h
    · rename_i b hc
      exact lBuiltin_ok hT hR hop hc h
    · cases h
  | _ => rw [hop] at h; simp [lop] at h

end Go.Abs
