/- Blocks that are laid and written. -/
import Derived.Test.YtiinagmombigpaaAbs12
namespace Go.Abs
variable {P : Program} {T : TypeId → Option TI}

/-! ### names -/
theorem free_spec {ro nm : Nat} {H : Hp} (h : free ro H nm = true) : ro ≤ nm ∧ ((nm = H.length) ∨ H[nm]? = some .res) := by
  unfold free at h
  split at h
  · simp only [Bool.and_eq_true, beq_iff_eq, Nat.ble_eq] at h; exact ⟨h.2, .inl h.1⟩
  · rename_i hr; simp only [Nat.ble_eq] at h; exact ⟨h, .inr hr⟩
  · cases h
theorem putB_length_le (H : Hp) (u : Option (Nat × ABlock)) : H.length ≤ (putB H u).length := by
  unfold putB; split
  · exact Nat.le_refl _
  · split <;> simp
theorem putB_ne {H : Hp} {nm : Nat} {blk : ABlock} {b : Nat} (h : b ≠ nm) : (putB H (some (nm, blk)))[b]? = H[b]? := by
  simp only [putB]
  split
  · rename_i e
    rw [List.getElem?_append]
    split
    · rfl
    · rename_i hb
      rw [List.getElem?_eq_none (by simp at hb ⊢; omega), List.getElem?_eq_none (by simpa using hb)]
  · rw [List.getElem?_set_ne (Ne.symm h)]
theorem putB_same {H : Hp} {nm : Nat} {blk : ABlock} (h : nm ≤ H.length) : (putB H (some (nm, blk)))[nm]? = some blk := by
  simp only [putB]
  split
  · rename_i e; subst e; simp
  · rw [List.getElem?_set_self (by omega)]
theorem lt_of_get {H : Hp} {b : Nat} {blk : ABlock} (h : H[b]? = some blk) : b < H.length := (List.getElem?_eq_some_iff.1 h).1

theorem MR.fresh_imm {g : Gh} {ro : Nat} {H : Hp} {w : World} (hm : MR g ro H w) {B : Nat} (hB : w.heap.size ≤ B) (o : Nat) : g.imm B o = none := by
  cases h : g.imm B o with
  | none => rfl
  | some v =>
    have := World.block_lt_of_cell? _ _ (hm.imm B o v h)
    simp at this; omega
theorem MR.fresh_ow {g : Gh} {ro : Nat} {H : Hp} {w : World} (hm : MR g ro H w) {B : Nat} (hB : w.heap.size ≤ B) : g.ow B = none := by
  cases h : g.ow B with
  | none => rfl
  | some l => have := hm.owlt B l h; omega
theorem MR.mu_lt {g : Gh} {ro : Nat} {H : Hp} {w : World} (hm : MR g ro H w) {b : Nat} {x : Nat × Nat} (h : g.mu b = some x) : b < H.length := by
  rcases Nat.lt_or_ge b H.length with h' | h'
  · exact h'
  · rw [hm.dom b h'] at h; cases h

/-! ### a new block without a number -/
def Gh.anon (g : Gh) (B : Nat) (ccs : Array Value) (n : Nat) (l : Option Loc) : Gh :=
  { g with imm := fun B' o => if B' = B then (if o < n then ccs[o]? else none) else g.imm B' o, ow := fun B' => if B' = B then l else g.ow B' }

theorem Keeps.anon {g : Gh} {ro : Nat} {H : Hp} {w : World} (hm : MR g ro H w) (o : Obj) (ccs : Array Value) (n : Nat) (l : Option Loc) : Keeps g w (g.anon w.heap.size ccs n l) (w.alloc o) (fun _ => False) where
  imm := fun B o v h => by
    have : B ≠ w.heap.size := fun e => by rw [hm.fresh_imm (Nat.le_of_eq e.symm) o] at h; cases h
    simp [Gh.anon, this, h]
  mun := .refl _ _
  size := by simp
  same := fun B hB _ => by
    have : B ≠ w.heap.size := Nat.ne_of_lt hB
    exact ⟨by simp [Gh.anon, this], fun o => by simp [Gh.anon, this], heap_alloc_old w o hB⟩
  out := ⟨rfl, rfl, rfl⟩

theorem MR.anon {g : Gh} {ro : Nat} {H : Hp} {w : World} (hm : MR g ro H w) (ccs : Array Value) (e : TypeId) (n : Nat) (l : Option Loc) :
    MR (g.anon w.heap.size ccs n l) ro H (w.alloc (.cells ccs e)) := by
  have k := Keeps.anon hm (.cells ccs e) ccs n l
  have hne : ∀ b B sz, g.mu b = some (B, sz) → B ≠ w.heap.size := fun b B sz h e => by have := hm.lt b B sz h; omega
  refine ⟨hm.role, ?_, hm.dom, hm.inj, ?_, ?_, ?_, ?_, ?_⟩
  · intro B o v h
    by_cases hB : B = w.heap.size
    · subst hB
      simp only [Gh.anon, if_true] at h
      split at h
      · rw [World.cell?_alloc_new]; exact h
      · cases h
    · simp only [Gh.anon, hB, if_false] at h
      rw [World.cell?_alloc_old _ _ _ (by simpa using hB)]; exact hm.imm B o v h
  · intro b B sz h; have := hm.lt b B sz h; simp; omega
  · intro B l' h
    by_cases hB : B = w.heap.size
    · subst hB; simp
    · simp only [Gh.anon, hB, if_false] at h
      have := hm.owlt B l' h; simp; omega
  · intro b B sz hb h
    simp only [Gh.anon, hne b B sz h, if_false]; exact hm.prot b B sz hb h
  · intro b B sz hb h
    simp only [Gh.anon, hne b B sz h, if_false]; exact hm.free b B sz hb h
  · intro b blk hb
    exact (hm.blk b blk hb).keeps k hm.owlt (fun B sz h => hm.lt b B sz h) (fun _ _ _ h => h) (fun _ _ _ _ h => h) id

theorem Seg.anon (g : Gh) (B : Nat) (ccs : Array Value) (n : Nat) (l : Option Loc) : Seg (g.anon B ccs n l).imm B 0 (ccs.toList.take n) := by
  intro i c hc
  rw [List.getElem?_take] at hc
  split at hc
  · rename_i hi
    simp only [Gh.anon, Nat.zero_add, if_true, hi, if_true]
    simpa using hc
  · cases hc

/-! ### a new block with a number -/
def Gh.named (g : Gh) (nm B sz : Nat) : Gh := { g with mu := fun b => if b = nm then some (B, sz) else g.mu b }

theorem MR.named_mu {g : Gh} {ro : Nat} {H : Hp} {w : World} (hm : MR g ro H w) {nm : Nat} (hf : Abs.free ro H nm = true) : g.mu nm = none := by
  rcases (free_spec hf).2 with h | h
  · exact hm.dom nm (by omega)
  · exact hm.blk nm _ h
theorem Keeps.named {g : Gh} {ro : Nat} {H : Hp} {w : World} (hm : MR g ro H w) {nm : Nat} (hf : Abs.free ro H nm = true) (o : Obj) (sz : Nat) : Keeps g w (g.named nm w.heap.size sz) (w.alloc o) (fun _ => False) where
  imm := Imm.le_refl _
  mun := ⟨fun b x h => by
    have : b ≠ nm := fun e => by rw [e, hm.named_mu hf] at h; cases h
    simp [Gh.named, this, h], fun b B sz h => by
    simp only [Gh.named] at h
    split at h
    · cases h; exact .inr (Nat.le_refl _)
    · exact .inl h⟩
  size := by simp
  same := fun B hB _ => ⟨rfl, fun _ => rfl, heap_alloc_old w o hB⟩
  out := ⟨rfl, rfl, rfl⟩

theorem MR.named {g : Gh} {ro : Nat} {H : Hp} {w : World} (hm : MR g ro H w) {nm : Nat} (hf : Abs.free ro H nm = true) (o : Obj) (sz : Nat) (blk : ABlock)
    (hb : BR (g.named nm w.heap.size sz) (w.alloc o) nm blk) : MR (g.named nm w.heap.size sz) ro (putB H (some (nm, blk))) (w.alloc o) := by
  have k := Keeps.named hm hf o sz
  have hle : nm ≤ H.length := by
    rcases (free_spec hf).2 with h | h
    · omega
    · exact Nat.le_of_lt (lt_of_get h)
  have hmu : ∀ b x, (g.named nm w.heap.size sz).mu b = some x → (b = nm ∧ x = (w.heap.size, sz)) ∨ (b ≠ nm ∧ g.mu b = some x) := by
    intro b x h
    by_cases e : b = nm
    · left; simp only [Gh.named, e, if_true, Option.some.injEq] at h; exact ⟨e, h.symm⟩
    · right; simp only [Gh.named, e, if_false] at h; exact ⟨e, h⟩
  refine ⟨Nat.le_trans hm.role (putB_length_le H _), ?_, ?_, ?_, ?_, ?_, ?_, ?_, ?_⟩
  · intro B o' v h
    have hv : w.cell? ⟨B, o', none⟩ = some v := hm.imm B o' v h
    rw [World.cell?_alloc_lt _ _ _ (World.block_lt_of_cell? _ _ hv)]; exact hv
  · intro b hb'
    have hl : H.length ≤ b := Nat.le_trans (putB_length_le H _) hb'
    have hne : b ≠ nm := by
      intro e; subst e
      have := lt_of_get (putB_same (H := H) (nm := b) (blk := blk) hle); omega
    simp only [Gh.named, hne, if_false]; exact hm.dom b hl
  · intro b b' B s s' h h'
    rcases hmu b _ h with ⟨rfl, e⟩ | ⟨e1, e2⟩
    · cases e
      rcases hmu b' _ h' with ⟨rfl, _⟩ | ⟨_, e4⟩
      · rfl
      · have := hm.lt _ _ _ e4; omega
    · rcases hmu b' _ h' with ⟨rfl, e⟩ | ⟨_, e4⟩
      · cases e; have := hm.lt _ _ _ e2; omega
      · exact hm.inj b b' B s s' e2 e4
  · intro b B s h
    rcases hmu b _ h with ⟨_, e⟩ | ⟨_, e2⟩
    · cases e; simp
    · have := hm.lt _ _ _ e2; simp; omega
  · intro B l h; have := hm.owlt B l h; simp; omega
  · intro b B s hb' h
    rcases hmu b _ h with ⟨rfl, _⟩ | ⟨_, e2⟩
    · have := (free_spec hf).1; omega
    · exact hm.prot b B s hb' e2
  · intro b B s hb' h
    rcases hmu b _ h with ⟨rfl, e⟩ | ⟨_, e2⟩
    · cases e; exact hm.fresh_ow (Nat.le_refl _)
    · exact hm.free b B s hb' e2
  · intro b blk' hb'
    by_cases e : b = nm
    · subst e; rw [putB_same hle] at hb'; cases hb'; exact hb
    · rw [putB_ne e] at hb'
      exact (hm.blk b blk' hb').keeps k hm.owlt (fun B sz h => hm.lt b B sz h) (fun _ _ _ h => h) (fun _ _ _ _ h => h) (fun h => by simp [Gh.named, e, h])

/-- an element that was just laid -/
theorem ER.of_cells {g : Gh} {w : World} {B sz b i : Nat} {ti : TI} {a : AV} {c : Value} (hf : fit ti a = true) (h : VR g.imm g.mu a c) (hz : ti.size = sz)
    (hc : ∀ j x, c.cells.toList[j]? = some x → w.cell? ⟨B, i * sz + j, none⟩ = some x) : ER g w B sz b i a := by
  have hF := fit_ok hf h
  unfold ER
  cases ha : aggOf a with
  | some l =>
    have hl := aggOf_some ha
    refine ⟨by rw [(hF.agg l hl).1, hz], fun j a' ha' => ?_⟩
    have hv := VR_cellsOf hf h
    rw [hl] at hv
    obtain ⟨x, h1, h2⟩ := hv.get (show (cellsOf (.agg l))[j]? = some a' from ha')
    exact ⟨x, hc j x h1, hF.ones x (List.mem_of_getElem? h1), h2.sr⟩
  | none =>
    obtain ⟨h1, h2, h3, _⟩ := hF.scal ha
    refine ⟨by omega, c, ?_, h3, h.sr⟩
    have := hc 0 c (by rw [h1]; rfl)
    rw [← hz, h2] at this
    simpa using this

end Go.Abs
