/- Types; what an operation without memory comes to. -/
import Derived.Test.YtiinagmombigpaaAbs7
namespace Go.Abs

def TOk (P : Program) (T : TypeId → Option TI) : Prop := ∀ t ti, T t = some ti → mkTI P t = some ti ∧ ti.good = true

section
variable {P : Program} {T : TypeId → Option TI} {t : TypeId} {ti : TI}

theorem TOk.info (h : TOk P T) (ht : T t = some ti) : ∃ i z u, P.info? t = some i ∧ i.zero = some z ∧ P.underlying t = some u ∧ i.size = ti.size ∧ i.bytes = ti.bytes ∧ z.cells.toList = ti.zero ∧ isAggD u = ti.agg ∧ mkTD u = ti.d ∧
    (ti.eqp = if isAggD u && !P.eqGuardType P.depth t then plainKinds P 20 t else none) ∧ ti.zero.length = ti.size ∧ (∀ x ∈ ti.zero, one x) ∧ (ti.agg = true ∨ ti.size = 1) := by
  obtain ⟨h1, h2⟩ := h t ti ht
  unfold mkTI at h1
  split at h1
  · rename_i i hi
    split at h1
    · rename_i z hz
      split at h1
      · rename_i u hu
        split at h1
        case isFalse => cases h1
        simp only [Option.some.injEq] at h1
        subst h1
        simp only [TI.good, Bool.and_eq_true, beq_iff_eq, Bool.or_eq_true, List.all_eq_true] at h2
        exact ⟨i, z, u, hi, hz, hu, rfl, rfl, rfl, rfl, rfl, rfl, h2.1.1, fun x hx => isOne_one (h2.1.2 x hx), h2.2⟩
      · cases h1
    · cases h1
  · cases h1

theorem TOk.zagg (h : TOk P T) (ht : T t = some ti) {i : TypeInfo} {z : Value} (hi : P.info? t = some i) (hz : i.zero = some z) : zAgg z = ti.agg := by
  obtain ⟨h1, h2⟩ := h t ti ht
  unfold mkTI at h1
  rw [hi] at h1
  simp only [hz] at h1
  split at h1
  · split at h1
    · rename_i hza
      simp only [Option.some.injEq] at h1
      subst h1
      exact hza
    · cases h1
  · cases h1

theorem TOk.under (h : TOk P T) (ht : T t = some ti) : ∃ u, P.underlying t = some u ∧ mkTD u = ti.d ∧ isAggD u = ti.agg := by
  obtain ⟨i, z, u, _, _, h3, _, _, _, h7, h8, _⟩ := h.info ht
  exact ⟨u, h3, h8, h7⟩

theorem under_slice {u : TypeDesc} {e : TypeId} (h : mkTD u = .slice e) : u = .slice e := by cases u <;> simp [mkTD] at h; rw [h]
theorem under_array {u : TypeDesc} {n : Nat} {e : TypeId} (h : mkTD u = .array n e) : u = .array n e := by cases u <;> simp [mkTD] at h; rw [h.1, h.2]
theorem under_int {u : TypeDesc} {k : IntKind} (h : mkTD u = .int k) : u = .int k := by cases u <;> simp [mkTD] at h; rw [h]
theorem under_bool {u : TypeDesc} (h : mkTD u = .bool) : u = .bool := by cases u <;> simp [mkTD] at h; rfl
theorem under_str {u : TypeDesc} (h : mkTD u = .str) : u = .string := by cases u <;> simp [mkTD] at h; rfl
theorem under_map {u : TypeDesc} {k e : TypeId} (h : mkTD u = .map k e) : u = .map k e := by cases u <;> simp [mkTD] at h; rw [h.1, h.2]
theorem under_ptr {u : TypeDesc} (h : mkTD u = .ptr) : ∃ e, u = .pointer e := by cases u <;> simp [mkTD] at h; exact ⟨_, rfl⟩
theorem under_struct {u : TypeDesc} {fs : List (Nat × TypeId)} (h : mkTD u = .struct fs) : ∃ fields : Array Field, u = .struct fields ∧ fs = fields.toList.map fun f => (f.offset, f.type) := by
  cases u <;> simp [mkTD] at h; exact ⟨_, rfl, h.symm⟩

theorem TOk.slice (h : TOk P T) (ht : T t = some ti) {e : TypeId} (hd : ti.d = .slice e) : P.underlying t = some (.slice e) := by
  obtain ⟨u, h1, h2, _⟩ := h.under ht; rw [h1, under_slice (h2.trans hd)]
theorem TOk.array (h : TOk P T) (ht : T t = some ti) {n : Nat} {e : TypeId} (hd : ti.d = .array n e) : P.underlying t = some (.array n e) := by
  obtain ⟨u, h1, h2, _⟩ := h.under ht; rw [h1, under_array (h2.trans hd)]
theorem TOk.int (h : TOk P T) (ht : T t = some ti) {k : IntKind} (hd : ti.d = .int k) : P.underlying t = some (.int k) := by
  obtain ⟨u, h1, h2, _⟩ := h.under ht; rw [h1, under_int (h2.trans hd)]
theorem TOk.bool (h : TOk P T) (ht : T t = some ti) (hd : ti.d = .bool) : P.underlying t = some .bool := by
  obtain ⟨u, h1, h2, _⟩ := h.under ht; rw [h1, under_bool (h2.trans hd)]
theorem TOk.str (h : TOk P T) (ht : T t = some ti) (hd : ti.d = .str) : P.underlying t = some .string := by
  obtain ⟨u, h1, h2, _⟩ := h.under ht; rw [h1, under_str (h2.trans hd)]
theorem TOk.map (h : TOk P T) (ht : T t = some ti) {k e : TypeId} (hd : ti.d = .map k e) : P.underlying t = some (.map k e) := by
  obtain ⟨u, h1, h2, _⟩ := h.under ht; rw [h1, under_map (h2.trans hd)]
theorem TOk.ptr (h : TOk P T) (ht : T t = some ti) (hd : ti.d = .ptr) : ∃ e, P.underlying t = some (.pointer e) := by
  obtain ⟨u, h1, h2, _⟩ := h.under ht; obtain ⟨e, rfl⟩ := under_ptr (h2.trans hd); exact ⟨e, h1⟩
theorem TOk.struct (h : TOk P T) (ht : T t = some ti) {fs : List (Nat × TypeId)} (hd : ti.d = .struct fs) :
    ∃ fields : Array Field, P.underlying t = some (.struct fields) ∧ fs = fields.toList.map fun f => (f.offset, f.type) := by
  obtain ⟨u, h1, h2, _⟩ := h.under ht; obtain ⟨fields, rfl, h3⟩ := under_struct (h2.trans hd); exact ⟨fields, h1, h3⟩

theorem run_underlying_of {d : TypeDesc} (h : P.underlying t = some d) (w : World) : (underlying t).run P w = .ok d w := by
  simp [underlying, h]
theorem TOk.run_size (h : TOk P T) (ht : T t = some ti) (w : World) : (sizeOf t).run P w = .ok ti.size w := by
  obtain ⟨i, z, u, h1, _, _, h4, _⟩ := h.info ht
  simp [sizeOf, typeInfo, h1, Result.andThen, h4]
theorem TOk.run_isAgg (h : TOk P T) (ht : T t = some ti) (w : World) : (isAgg t).run P w = .ok ti.agg w := by
  obtain ⟨u, h1, _, h3⟩ := h.under ht
  rw [← h3]
  simp only [isAgg, Sem.run_bind, run_underlying_of h1, Result.andThen]
  cases u <;> simp [isAggD]
theorem TOk.run_zero (h : TOk P T) (ht : T t = some ti) (w : World) : ∃ z, (zeroValue t).run P w = .ok z w ∧ z.cells.toList = ti.zero := by
  obtain ⟨i, z, u, h1, h2, _, _, _, h6, _⟩ := h.info ht
  exact ⟨z, by simp [zeroValue, typeInfo, h1, h2, Result.andThen], h6⟩
end

/-- what a step of one operation comes to -/
structure OpOk (P : Program) (ro : Nat) (g : Gh) (H : Hp) (w : World) (o : Oper) (a : Act) (e : Eff) : Prop where
  out : ∃ (c : Value) (nx : Next) (w' : World) (g' : Gh) (X : Nat → Prop),
    (execOp a.eval o).run P w = .ok nx w' ∧ (nx = .value c ∨ (nx = .skip ∧ c = undef)) ∧ Keeps g w g' w' X ∧ MR g' ro (putB H e.up) w' ∧
    (∀ t B, g.ow B = some (.slot t) → X B → e.un = some t) ∧ (∀ B l, g.ow B = some l → l.shut ro → ¬ X B) ∧
    (∀ (L : Nat) (lr : Loop), X L → w.heap[L]? = some (Obj.loop lr) → ∃ lr' : Loop, w'.heap[L]? = some (Obj.loop lr') ∧ lr'.defers = lr.defers) ∧
    SR g' w' (.slot (o.dst.getD 0)) e.v c
  un : ∀ t, e.un = some t → t < 16000

/-- an operation that leaves the world alone -/
theorem OpOk.pure {P : Program} {ro : Nat} {g : Gh} {H : Hp} {w : World} {o : Oper} {a : Act} {v : AV} {rd : Rd} (hm : MR g ro H w)
    (h : ∃ c, (execOp a.eval o).run P w = .ok (.value c) w ∧ VR g.imm g.mu v c) : OpOk P ro g H w o a { v, rd } := by
  obtain ⟨c, h1, h2⟩ := h
  exact ⟨⟨c, _, w, g, fun _ => False, h1, .inl rfl, Keeps.refl _ _ _, hm, fun _ _ _ h => h.elim, fun _ _ _ _ h => h, fun _ _ h => h.elim, h2.sr⟩, fun t ht => by cases ht⟩

/-! ### numbers -/
theorem wrapK_eq (k : IntKind) (n : Int) : wrapK k n = k.wrap n := by
  cases k with
  | i64 =>
    simp only [wrapK]; split
    · rename_i h; simp only [IntKind.wrap, IntKind.bits, IntKind.signed]; simp; omega
    · rfl
  | u8 =>
    simp only [wrapK]; split
    · rename_i h; simp only [IntKind.wrap, IntKind.bits, IntKind.signed]; simp; omega
    · rfl
  | _ => rfl

theorem run_eqGuard_int {P : Program} {w : World} (op : BinOp) (t : TypeId) (x y : Operand) (k k' : IntKind) (a b : Int) : (eqGuard op t x y (.int k a) (.int k' b)).run P w = .ok () w := by
  unfold eqGuard; cases op <;> simp
theorem run_eqGuard_bool {P : Program} {w : World} (op : BinOp) (t : TypeId) (x y : Operand) (a b : Bool) : (eqGuard op t x y (.bool a) (.bool b)).run P w = .ok () w := by
  unfold eqGuard; cases op <;> simp
theorem run_eqGuard_string {P : Program} {w : World} (op : BinOp) (t : TypeId) (x y : Operand) (a b : ByteArray) : (eqGuard op t x y (.string a) (.string b)).run P w = .ok () w := by
  unfold eqGuard; cases op <;> simp

theorem binI_ok {P : Program} {w : World} {op : BinOp} {t : TypeId} {k k' : IntKind} {a b : Int} {v : AV} (h : binI op k a k' b = some v) :
    ∃ c, (binOp op t (.int k a) (.int k' b)).run P w = .ok c w ∧ v = .lit c := by
  unfold binI at h
  cases op <;> simp only at h <;> first
    | (simp only [shiftI] at h
       split at h
       · simp at h
       · rename_i hb
         simp only [Option.map_some, Option.some.injEq] at h
         subst h
         refine ⟨_, ?_, rfl⟩
         simp [binOp, Op.shift, hb, Sem.run_pure])
    | (split at h
       · rename_i hk
         subst hk
         simp only [arith, cmpI] at h
         first
           | (simp only [Option.map_some, Option.some.injEq] at h
              subst h
              refine ⟨_, ?_, rfl⟩
              simp [binOp, Op.intArith, Op.intBits, Op.intCmp, wrapK_eq, Sem.run_pure])
           | (split at h
              · simp at h
              · rename_i hb
                simp only [Option.map_some, Option.some.injEq] at h
                subst h
                refine ⟨_, ?_, rfl⟩
                simp [binOp, Op.intDiv, hb, wrapK_eq, Sem.run_pure])
       · cases h)

/-! ### equality -/
section
variable {P : Program} {w : World} {t : TypeId}
theorem equalIn_bool (d : Nat) (hu : P.underlying t = some .bool) (a b : Bool) : (Op.equalIn (d + 1) t (.bool a) (.bool b)).run P w = .ok (a == b) w := by
  simp [Op.equalIn, run_underlying_of hu]
theorem equalIn_int (d : Nat) {k : IntKind} (hu : P.underlying t = some (.int k)) (k' : IntKind) (a b : Int) : (Op.equalIn (d + 1) t (.int k' a) (.int k' b)).run P w = .ok (a == b) w := by
  simp [Op.equalIn, run_underlying_of hu]
theorem equal_bool (hu : P.underlying t = some .bool) (a b : Bool) : (Op.equal t (.bool a) (.bool b)).run P w = .ok (a == b) w := equalIn_bool 9999 hu a b
theorem equal_nil_ptr (hu : ∃ e, P.underlying t = some (.pointer e)) (b : Option Addr) : (Op.equal t (.pointer none) (.pointer b)).run P w = .ok b.isNone w := by
  obtain ⟨e, hu⟩ := hu
  have key : ∀ d, (Op.equalIn (d + 1) t (.pointer none) (.pointer b)).run P w = .ok b.isNone w := fun d => by simp [Op.equalIn, run_underlying_of hu]
  exact key 9999
theorem equal_ptr_nil (hu : ∃ e, P.underlying t = some (.pointer e)) (a : Addr) : (Op.equal t (.pointer (some a)) (.pointer none)).run P w = .ok false w := by
  obtain ⟨e, hu⟩ := hu
  have key : ∀ d, (Op.equalIn (d + 1) t (.pointer (some a)) (.pointer none)).run P w = .ok false w := fun d => by simp [Op.equalIn, run_underlying_of hu]
  exact key 9999
theorem equal_nil_slice (hu : ∃ e, P.underlying t = some (.slice e)) (b : Option Addr) (l c l' c' : Nat) : (Op.equal t (.slice none l c) (.slice b l' c')).run P w = .ok b.isNone w := by
  obtain ⟨e, hu⟩ := hu
  have key : ∀ d, (Op.equalIn (d + 1) t (.slice none l c) (.slice b l' c')).run P w = .ok b.isNone w := fun d => by simp [Op.equalIn, run_underlying_of hu]
  exact key 9999
theorem equal_slice_nil (hu : ∃ e, P.underlying t = some (.slice e)) (a : Addr) (l c l' c' : Nat) : (Op.equal t (.slice (some a) l c) (.slice none l' c')).run P w = .ok false w := by
  obtain ⟨e, hu⟩ := hu
  have key : ∀ d, (Op.equalIn (d + 1) t (.slice (some a) l c) (.slice none l' c')).run P w = .ok false w := fun d => by simp [Op.equalIn, run_underlying_of hu]
  exact key 9999
end

theorem run_eql {P : Program} {w : World} {op : BinOp} {t : TypeId} {x y : Value} {v : AV} {r : Bool} (hn : neg? op r = some v)
    (h1 : binOp .eql t x y = (do pure (.bool (← Op.equal t x y)))) (h2 : binOp .neq t x y = (do pure (.bool (!(← Op.equal t x y)))))
    (h : (Op.equal t x y).run P w = .ok r w) : ∃ c, (binOp op t x y).run P w = .ok c w ∧ v = .lit c := by
  unfold neg? at hn
  split at hn
  · cases hn; exact ⟨.bool r, by rw [h1]; simp [h, Result.andThen], rfl⟩
  · cases hn; exact ⟨.bool !r, by rw [h2]; simp [h, Result.andThen], rfl⟩
  · cases hn

end Go.Abs
