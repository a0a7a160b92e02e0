/- What one step may change; the temporaries of a frame. -/
import Derived.Test.YtiinagmombigpaaAbs6
namespace Go.Abs

/-- all but the blocks of X is as it was; more may be known, more may be there -/
structure Keeps (g : Gh) (w : World) (g' : Gh) (w' : World) (X : Nat → Prop) : Prop where
  imm : g.imm.le g'.imm
  mun : Mu.grows w g.mu g'.mu
  size : w.heap.size ≤ w'.heap.size
  same : ∀ B : Nat, B < w.heap.size → ¬ X B → g'.ow B = g.ow B ∧ (∀ o, g'.imm B o = g.imm B o) ∧ w'.heap[B]? = w.heap[B]?
  out : Outs w w'

theorem Keeps.mu {g : Gh} {w : World} {g' : Gh} {w' : World} {X : Nat → Prop} (h : Keeps g w g' w' X) : g.mu.le g'.mu := h.mun.le
theorem Keeps.refl (g : Gh) (w : World) (X : Nat → Prop) : Keeps g w g w X := ⟨Imm.le_refl _, .refl _ _, Nat.le_refl _, fun _ _ _ => ⟨rfl, fun _ => rfl, rfl⟩, .refl _⟩

theorem SR.keeps {g g' : Gh} {w w' : World} {X : Nat → Prop} {loc : Loc} {a : AV} {v : Value} (h : SR g w loc a v) (k : Keeps g w g' w' X)
    (hl : ∀ B l, g.ow B = some l → B < w.heap.size) (hx : ∀ B, g.ow B = some loc → ¬ X B) : SR g' w' loc a v :=
  h.mono k.imm k.mu fun B hB => by
    obtain ⟨h1, h2, h3⟩ := k.same B (hl B _ hB) (hx B hB)
    exact ⟨by rw [h1]; exact hB, h2, h3⟩

theorem BR.keeps {g g' : Gh} {w w' : World} {X : Nat → Prop} {b : Nat} {blk : ABlock} (h : BR g w b blk) (k : Keeps g w g' w' X)
    (hl : ∀ B l, g.ow B = some l → B < w.heap.size) (hlt : ∀ B sz, g.mu b = some (B, sz) → B < w.heap.size)
    (hx : ∀ B sz, g.mu b = some (B, sz) → ¬ X B) (hc : ∀ B i j, g.ow B = some (.cell b i j) → ¬ X B) (hres : g.mu b = none → g'.mu b = none) : BR g' w' b blk :=
  h.mono k.imm k.mu (fun B sz hB => (k.same B (hlt B sz hB) (hx B sz hB)).2) hres fun B i j hB => by
    obtain ⟨h1, h2, h3⟩ := k.same B (hl B _ hB) (hc B i j hB)
    exact ⟨by rw [h1]; exact hB, h2, h3⟩

theorem Keeps.ev {ro : Nat} {g g' : Gh} {w w' : World} {X : Nat → Prop} (k : Keeps g w g' w' X) (hl : ∀ B l, g.ow B = some l → B < w.heap.size) (hx : ∀ B l, g.ow B = some l → l.shut ro → ¬ X B)
    (hloop : ∀ (L : Nat) (lr : Loop), X L → w.heap[L]? = some (Obj.loop lr) → ∃ lr' : Loop, w'.heap[L]? = some (Obj.loop lr') ∧ lr'.defers = lr.defers) : Ev ro g w g' w' where
  imm := k.imm
  mun := k.mun
  size := k.size
  out := k.out
  prot := fun B l hB hs => by
    obtain ⟨h1, h2, h3⟩ := k.same B (hl B _ hB) (hx B l hB hs)
    exact ⟨by rw [h1]; exact hB, h2, h3⟩
  loops := fun L lr h => by
    by_cases hX : X L
    · exact hloop L lr hX h
    · have hlt : L < w.heap.size := by
        rcases Nat.lt_or_ge L w.heap.size with h' | h'
        · exact h'
        · simp [Array.getElem?_eq_none h'] at h
      exact ⟨lr, by rw [(k.same L hlt hX).2.2]; exact h, rfl⟩

structure Rel (g : Gh) (ro nt : Nat) (fr : PT) (H : Hp) (tm : Array Value) (w : World) : Prop where
  size : tm.size = nt
  nt_le : nt ≤ 16000
  slots : ∀ t, fr.get t = .dead ∨ ∃ v, tm[t]? = some v ∧ SR g w (.slot t) (fr.get t) v
  mem : MR g ro H w

theorem Rel.slot_VR {g : Gh} {ro nt : Nat} {fr : PT} {H : Hp} {tm : Array Value} {w : World} (h : Rel g ro nt fr H tm w) (t : Nat) : VR g.imm g.mu (shr (fr.get t)) (tm.getD t undef) := by
  rcases h.slots t with hd | ⟨v, h1, h2⟩
  · rw [hd]; simp [shr, VR]
  · have : tm.getD t undef = v := by rw [Array.getD_eq_getD_getElem?, h1]; rfl
    rw [this]; exact h2.shr

theorem isOne_one {v : Value} : isOne v = true → one v := by cases v <;> simp [isOne, one, Value.oneCell']
theorem one_isOne {v : Value} : one v → isOne v = true := by cases v <;> simp [isOne, one, Value.oneCell']

theorem VRs_lits (imm : Imm) (mu : Mu) : ∀ (l : List Value), VRs imm mu (l.map .lit) l
  | [] => by simp [VRs]
  | v :: l => by simp only [List.map_cons, VRs]; exact ⟨v, l, rfl, by simp [VR], VRs_lits imm mu l⟩

theorem VR_ofVal (imm : Imm) (mu : Mu) : ∀ (v : Value), VR imm mu (ofVal v) v
  | .agg cs => by
    by_cases h : cs.toList.all isOne = true
    · rw [show ofVal (.agg cs) = .agg (cs.toList.map .lit) from by simp only [ofVal, if_pos h]]
      simp only [VR]
      exact ⟨cs.toList, by simp, VRs_lits imm mu _, fun x hx => isOne_one (List.all_eq_true.1 h x hx)⟩
    · rw [show ofVal (.agg cs) = .dead from by simp only [ofVal, if_neg h]]
      simp only [VR]
  | .bool _ | .int .. | .float .. | .complex .. | .string _ | .pointer _ | .slice .. | .map _ | .chan _ | .func .. | .nilFunc | .iface .. | .nilIface | .tuple _ => by simp [ofVal, VR]

/-- an operand's value -/
theorem Rel.eval {g : Gh} {ro nt : Nat} {fr : PT} {H : Hp} {a : Act} {w : World} (h : Rel g ro nt fr H a.tmps w) : ∀ (x : Operand), VR g.imm g.mu (ev fr x) (a.eval x)
  | .tmp t => h.slot_VR t
  | .const v => VR_ofVal _ _ v
  | .func f => by simp only [ev, Act.eval, VR]; exact ⟨[], rfl, by simp [VRs]⟩
  | .global _ => by simp [ev, VR]

theorem unownT_get (un : Option Tmp) (fr : PT) (hu : ∀ t, un = some t → t < 16000) (t : Nat) : (unownT un fr).get t = if un = some t then shr (fr.get t) else fr.get t := by
  cases un with
  | none => simp [unownT]
  | some s =>
    by_cases h : s = t
    · subst h; simp [unownT, PT.get_set_eq (hu s rfl)]
    · simp [unownT, PT.get_set_ne h, h]

theorem Rel.own_lt {g : Gh} {ro nt : Nat} {fr : PT} {H : Hp} {tm : Array Value} {w : World} (h : Rel g ro nt fr H tm w) {t : Nat} (hd : fr.get t ≠ .dead) : t < nt := by
  rcases h.slots t with h1 | ⟨v, h1, _⟩
  · exact absurd h1 hd
  · have := (Array.getElem?_eq_some_iff.1 h1).1; rw [h.size] at this; exact this

def putT (tm : Array Value) (dst : Option Tmp) (c : Value) : Array Value := match dst with
  | some d => tm.setIfInBounds d c
  | none => tm

/-- the temporaries behind a step: one that owned its slice may own it no longer, one has a new value -/
theorem Rel.put {g g' : Gh} {ro nt : Nat} {fr : PT} {H H' : Hp} {tm : Array Value} {w w' : World} {X : Nat → Prop} (h : Rel g ro nt fr H tm w) (k : Keeps g w g' w' X) (hm : MR g' ro H' w')
    {un : Option Tmp} (hu : ∀ t, un = some t → t < 16000) (hX : ∀ t B, g.ow B = some (.slot t) → X B → un = some t)
    {dst : Option Tmp} {v : AV} {c : Value} (hv : ∀ d, dst = some d → SR g' w' (.slot d) v c) {fr' : PT} (hf : putD nt dst v (unownT un fr) = some fr') :
    Rel g' ro nt fr' H' (putT tm dst c) w' := by
  have hs : ∀ t, (unownT un fr).get t = .dead ∨ ∃ v, tm[t]? = some v ∧ SR g' w' (.slot t) ((unownT un fr).get t) v := by
    intro t
    rw [unownT_get un fr hu t]
    rcases h.slots t with hd | ⟨v, h1, h2⟩
    · left; rw [hd]; split <;> rfl
    · right
      refine ⟨v, h1, ?_⟩
      split
      · exact (VR.mono k.imm _ k.mu h2.shr).sr
      · rename_i hne
        exact h2.keeps k h.mem.owlt fun B hB hx => hne (hX t B hB hx)
  cases dst with
  | none =>
    simp only [putD, Option.some.injEq] at hf
    subst hf
    exact ⟨h.size, h.nt_le, hs, hm⟩
  | some d =>
    simp only [putD] at hf
    split at hf
    · rename_i hd
      simp only [Option.some.injEq] at hf
      subst hf
      refine ⟨by simp [putT, h.size], h.nt_le, fun t => ?_, hm⟩
      by_cases e : d = t
      · subst e
        right
        rw [PT.get_set_eq (Nat.lt_of_lt_of_le hd h.nt_le)]
        exact ⟨c, by simp [putT, h.size, hd], hv d rfl⟩
      · rw [PT.get_set_ne e]
        rcases hs t with h1 | ⟨v, h1, h2⟩
        · exact .inl h1
        · exact .inr ⟨v, by simp only [putT]; rw [Array.getElem?_setIfInBounds_ne e]; exact h1, h2⟩
    · cases hf

/-! ### worlds -/
theorem heap_alloc_old (w : World) (o : Obj) {B : Nat} (h : B < w.heap.size) : (w.alloc o).heap[B]? = w.heap[B]? := by
  show (w.heap.push o)[B]? = w.heap[B]?
  simp [Array.getElem?_push, Nat.ne_of_lt h]
theorem heap_alloc_new (w : World) (o : Obj) : (w.alloc o).heap[w.heap.size]? = some o := by
  show (w.heap.push o)[w.heap.size]? = some o
  simp
theorem heap_setCell_ne (w : World) (a : Addr) (v : Value) {B : Nat} (h : a.block ≠ B) : (w.setCell a v).heap[B]? = w.heap[B]? := by
  simp [World.setCell, Array.getElem?_modify, h]
theorem heap_setCell_cells (w : World) (a : Addr) (v : Value) {ccs : Array Value} {e : TypeId} {fz : Nat × Nat} (h : w.heap[a.block]? = some (.cells ccs e fz)) :
    ∃ ccs', (w.setCell a v).heap[a.block]? = some (.cells ccs' e fz) ∧ ccs'.size = ccs.size := by
  simp only [World.setCell, Array.getElem?_modify, if_true, h, Option.map_some]
  split
  · exact ⟨_, rfl, rfl⟩
  · exact ⟨_, rfl, by simp⟩
theorem heap_setCells_ne (B : Nat) : ∀ (vs : List Value) (o : Nat) (w : World) {B' : Nat}, B ≠ B' → (w.setCells B o vs).heap[B']? = w.heap[B']?
  | [], _, _, _, _ => rfl
  | v :: r, o, w, B', h => by rw [World.setCells, heap_setCells_ne B r (o + 1) _ h, heap_setCell_ne _ _ _ h]
theorem heap_setCells_cells (B : Nat) : ∀ (vs : List Value) (o : Nat) (w : World) {ccs : Array Value} {e : TypeId} {fz : Nat × Nat}, w.heap[B]? = some (.cells ccs e fz) →
    ∃ ccs', (w.setCells B o vs).heap[B]? = some (.cells ccs' e fz) ∧ ccs'.size = ccs.size
  | [], _, w, ccs, e, fz, h => ⟨ccs, h, rfl⟩
  | v :: r, o, w, ccs, e, fz, h => by
    obtain ⟨c1, h1, h2⟩ := heap_setCell_cells w ⟨B, o, none⟩ v h
    obtain ⟨c2, h3, h4⟩ := heap_setCells_cells B r (o + 1) (w.setCell ⟨B, o, none⟩ v) h1
    exact ⟨c2, h3, by rw [h4, h2]⟩
theorem size_setCells (B : Nat) : ∀ (vs : List Value) (o : Nat) (w : World), (w.setCells B o vs).heap.size = w.heap.size
  | [], _, _ => rfl
  | v :: r, o, w => by rw [World.setCells, size_setCells B r, World.size_setCell]
theorem frozen_of_cells {w : World} {B : Nat} {ccs : Array Value} {e : TypeId} (h : w.heap[B]? = some (.cells ccs e (0, 0))) (o : Nat) : w.frozen? ⟨B, o, none⟩ = false := by
  simp [World.frozen?, h]
theorem cell_lt {w : World} {B o : Nat} {ccs : Array Value} {e : TypeId} {fz : Nat × Nat} (h : w.heap[B]? = some (.cells ccs e fz)) (ho : o < ccs.size) : (w.cell? ⟨B, o, none⟩).isSome = true := by
  simp [World.cell?, h, ho]

end Go.Abs
