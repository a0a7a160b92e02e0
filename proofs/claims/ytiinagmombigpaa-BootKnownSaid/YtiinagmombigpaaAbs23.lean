/- What a call lends, and what comes back. -/
import Derived.Test.YtiinagmombigpaaAbs22
set_option linter.unusedVariables false
set_option linter.unusedSimpArgs false
set_option linter.unnecessarySimpa false
namespace Go.Abs
variable {P : Program} {T : TypeId → Option TI}

/-- as 'Ev'; what the temporaries own is as it was, too -/
structure Evs (ro : Nat) (g : Gh) (w : World) (g' : Gh) (w' : World) : Prop extends Ev ro g w g' w' where
  slots : ∀ (t B : Nat), g.ow B = some (.slot t) → g'.ow B = some (.slot t) ∧ (∀ o, g'.imm B o = g.imm B o) ∧ w'.heap[B]? = w.heap[B]?

/-- the temporaries behind a call -/
theorem Rel.after {g g' : Gh} {ro nt : Nat} {fr fr' : PT} {H H' : Hp} {tm : Array Value} {w w' : World} (h : Rel g ro nt fr H tm w) (e : Evs ro g w g' w') (hm : MR g' ro H' w')
    {dst : Option Tmp} {v : AV} {c : Value} (hv : ∀ d, dst = some d → SR g' w' (.slot d) v c) (hf : putD nt dst v fr = some fr') :
    Rel g' ro nt fr' H' (putT tm dst c) w' := by
  have hs : ∀ t, fr.get t = .dead ∨ ∃ v, tm[t]? = some v ∧ SR g' w' (.slot t) (fr.get t) v := by
    intro t
    rcases h.slots t with hd | ⟨v, h1, h2⟩
    · exact .inl hd
    · exact .inr ⟨v, h1, h2.mono e.imm e.mun.le fun B hB => e.slots t B hB⟩
  cases dst with
  | none =>
    simp only [putD, Option.some.injEq] at hf
    subst hf
    exact ⟨h.size, h.nt_le, hs, hm⟩
  | some d =>
    simp only [putD] at hf
    split at hf
    · rename_i hd
      simp only [Option.some.injEq] at hf
      subst hf
      refine ⟨by simp [putT, h.size], h.nt_le, fun t => ?_, hm⟩
      by_cases e : d = t
      · subst e
        right
        rw [PT.get_set_eq (Nat.lt_of_lt_of_le hd h.nt_le)]
        exact ⟨c, by simp [putT, h.size, hd], hv d rfl⟩
      · rw [PT.get_set_ne e]
        rcases hs t with h1 | ⟨v, h1, h2⟩
        · exact .inl h1
        · exact .inr ⟨v, by simp only [putT]; rw [Array.getElem?_setIfInBounds_ne e]; exact h1, h2⟩
    · cases hf

/-! ### a call that sees the blocks -/
def Gh.lend (g : Gh) : Gh := { g with ow := fun B => match g.ow B with | some (.slot _) => some .oth | x => x }

theorem lend_slot {g : Gh} {B t : Nat} (h : g.ow B = some (.slot t)) : g.lend.ow B = some .oth := by simp [Gh.lend, h]
theorem lend_other {g : Gh} {B : Nat} (h : ∀ t, g.ow B ≠ some (.slot t)) : g.lend.ow B = g.ow B := by
  show (match g.ow B with | some (.slot _) => some .oth | x => x) = g.ow B
  cases hg : g.ow B with
  | none => rfl
  | some l => cases l with
    | slot t => exact absurd hg (h t)
    | _ => rfl

theorem MR.lend {g : Gh} {ro : Nat} {H : Hp} {w : World} (h : MR g ro H w) : MR g.lend ro H w := by
  refine ⟨h.role, h.imm, h.dom, h.inj, h.lt, ?_, ?_, ?_, ?_⟩
  · intro B l hl
    cases hb : g.ow B with
    | none => simp [Gh.lend, hb] at hl
    | some l' => exact h.owlt B l' hb
  · intro b B sz hb hm
    have := h.prot b B sz hb hm
    rw [lend_other (by rw [this]; simp)]; exact this
  · intro b B sz hb hm
    have := h.free b B sz hb hm
    rw [lend_other (by rw [this]; simp)]; exact this
  · intro b blk hb
    exact (h.blk b blk hb).mono (Imm.le_refl _) (Mu.le_refl _) (fun _ _ _ => ⟨fun _ => rfl, rfl⟩) id fun B i j hB => ⟨by rw [lend_other (by rw [hB]; simp)]; exact hB, fun _ => rfl, rfl⟩

/-- what a call has left behind; its result's owner is d -/
def Gh.back (g g2 : Gh) (d : Loc) : Gh := { g2 with ow := fun B => match g.ow B with | some (.slot t) => some (.slot t) | _ => match g2.ow B with | some .res => some d | x => x }

theorem back_slot {g g2 : Gh} {d : Loc} {B t : Nat} (h : g.ow B = some (.slot t)) : (g.back g2 d).ow B = some (.slot t) := by simp [Gh.back, h]
theorem back_res {g g2 : Gh} {d : Loc} {B : Nat} (h : ∀ t, g.ow B ≠ some (.slot t)) (h2 : g2.ow B = some .res) : (g.back g2 d).ow B = some d := by
  show (match g.ow B with | some (.slot t) => some (.slot t) | _ => match g2.ow B with | some .res => some d | x => x) = some d
  rw [h2]
  cases hg : g.ow B with
  | none => rfl
  | some l => cases l with
    | slot t => exact absurd hg (h t)
    | _ => rfl
theorem back_other {g g2 : Gh} {d : Loc} {B : Nat} (h : ∀ t, g.ow B ≠ some (.slot t)) (h2 : g2.ow B ≠ some .res) : (g.back g2 d).ow B = g2.ow B := by
  have key : (match g2.ow B with | some .res => some d | x => x) = g2.ow B := by
    cases hg2 : g2.ow B with
    | none => rfl
    | some l => cases l with
      | res => exact absurd hg2 h2
      | _ => rfl
  show (match g.ow B with | some (.slot t) => some (.slot t) | _ => match g2.ow B with | some .res => some d | x => x) = g2.ow B
  cases hg : g.ow B with
  | none => exact key
  | some l => cases l with
    | slot t => exact absurd hg (h t)
    | _ => exact key

section
variable {g g2 : Gh} {ro : Nat} {H H' : Hp} {w w' : World} {d : Loc}
theorem lent_slot (e : Ev ro g.lend w g2 w') {B t : Nat} (h : g.ow B = some (.slot t)) : g2.ow B = some .oth ∧ (∀ o, g2.imm B o = g.imm B o) ∧ w'.heap[B]? = w.heap[B]? :=
  e.prot B .oth (lend_slot h) trivial

theorem MR.back (hm : MR g ro H w) (h : MR g2 ro H' w') (e : Ev ro g.lend w g2 w') : MR (g.back g2 d) ro H' w' := by
  refine ⟨h.role, h.imm, h.dom, h.inj, h.lt, ?_, ?_, ?_, ?_⟩
  · intro B l hl
    by_cases hs : ∃ t, g.ow B = some (.slot t)
    · obtain ⟨t, ht⟩ := hs
      exact Nat.lt_of_lt_of_le (hm.owlt B _ ht) e.size
    · have hs' : ∀ t, g.ow B ≠ some (.slot t) := fun t ht => hs ⟨t, ht⟩
      cases h2 : g2.ow B with
      | some l2 => exact h.owlt B l2 h2
      | none => rw [back_other hs' (by rw [h2]; simp), h2] at hl; cases hl
  · intro b B sz hb hmu
    have h2 := h.prot b B sz hb hmu
    have hs' : ∀ t, g.ow B ≠ some (.slot t) := by
      intro t ht
      rcases e.mun.new b B sz hmu with h3 | h3
      · have := hm.prot b B sz hb h3; rw [ht] at this; cases this
      · have := hm.owlt B _ ht; omega
    rw [back_other hs' (by rw [h2]; simp)]; exact h2
  · intro b B sz hb hmu
    have h2 := h.free b B sz hb hmu
    have hs' : ∀ t, g.ow B ≠ some (.slot t) := by
      intro t ht
      have := (lent_slot e ht).1; rw [h2] at this; cases this
    rw [back_other hs' (by rw [h2]; simp)]; exact h2
  · intro b blk hb
    refine (h.blk b blk hb).mono (Imm.le_refl _) (Mu.le_refl _) (fun _ _ _ => ⟨fun _ => rfl, rfl⟩) id fun B i j hB => ⟨?_, fun _ => rfl, rfl⟩
    have hs' : ∀ t, g.ow B ≠ some (.slot t) := by
      intro t ht
      have := (lent_slot e ht).1; rw [hB] at this; cases this
    rw [back_other hs' (by rw [hB]; simp)]; exact hB

theorem Evs.back (e : Ev ro g.lend w g2 w') : Evs ro g w (g.back g2 d) w' := by
  refine { imm := e.imm, mun := e.mun, size := e.size, loops := e.loops, out := e.out, prot := ?_, slots := ?_ }
  · intro B l hB hl
    have hs' : ∀ t, g.ow B ≠ some (.slot t) := by intro t ht; rw [hB] at ht; cases ht; exact hl
    obtain ⟨h1, h2, h3⟩ := e.prot B l (by rw [lend_other hs']; exact hB) hl
    exact ⟨by rw [back_other hs' (by rw [h1]; intro e; cases e; exact hl)]; exact h1, h2, h3⟩
  · intro t B hB
    obtain ⟨h1, h2, h3⟩ := lent_slot e hB
    exact ⟨back_slot hB, h2, h3⟩

theorem SR.back (e : Ev ro g.lend w g2 w') {v : AV} {c : Value} (h : SR g2 w' .res v c) : SR (g.back g2 d) w' d v c := by
  cases hown : isOwn v with
  | false =>
    have hv := (SR_notOwn (loc := .res) hown).1 h
    exact (SR_notOwn hown).2 hv
  | true =>
    obtain ⟨sz, els, rfl⟩ := isOwn_spec hown
    obtain ⟨B, cap, cs, h1, h2, h3, h4, h5, h6, h7⟩ := h
    have hs' : ∀ t, g.ow B ≠ some (.slot t) := by
      intro t ht
      have := (lent_slot e ht).1; rw [h5] at this; cases this
    exact ⟨B, cap, cs, h1, h2, h3, h4, back_res hs' h5, h6, h7⟩
end

/-! ### a call that writes none of the blocks -/
def Gh.shutFor (g : Gh) (size n : Nat) (m : Mu) : Gh :=
  { imm := g.imm, mu := m, ow := fun B => if B < size then some (match g.ow B with | some (.cell b i j) => if b < n then .cell b i j else .oth | _ => .oth) else none }

theorem shutFor_lt {g : Gh} {size n : Nat} {m : Mu} {B : Nat} (h : B < size) : ∃ l, (g.shutFor size n m).ow B = some l ∧ l.shut n ∧ l ≠ .res := by
  simp only [Gh.shutFor, h, if_true]
  split
  · split
    · rename_i hb; exact ⟨_, rfl, hb, by simp⟩
    · exact ⟨_, rfl, trivial, by simp⟩
  · exact ⟨_, rfl, trivial, by simp⟩

theorem MR.quiet {g : Gh} {ro : Nat} {H : Hp} {w : World} (h : MR g ro H w) : MR (g.shutFor w.heap.size H.length g.mu) H.length H w := by
  refine ⟨Nat.le_refl _, h.imm, h.dom, h.inj, h.lt, ?_, ?_, ?_, ?_⟩
  · intro B l hl
    simp only [Gh.shutFor] at hl
    split at hl
    · assumption
    · cases hl
  · intro b B sz hb hm
    have hlt := h.lt b B sz hm
    simp only [Gh.shutFor, hlt, if_true]
    rcases Nat.lt_or_ge b ro with hro | hro
    · rw [h.prot b B sz hro hm]
    · rw [h.free b B sz hro hm]
  · intro b B sz hb hm
    have := h.dom b hb
    have hm' : g.mu b = some (B, sz) := hm
    rw [this] at hm'; cases hm'
  · intro b blk hb
    refine (h.blk b blk hb).mono (Imm.le_refl _) (Mu.le_refl _) (fun _ _ _ => ⟨fun _ => rfl, rfl⟩) id fun B i j hB => ⟨?_, fun _ => rfl, rfl⟩
    simp only [Gh.shutFor, h.owlt B _ hB, if_true, hB, lt_of_get hb]

theorem MR.pureCall {g : Gh} {ro : Nat} {H : Hp} {w : World} (h : MR g ro H w) : MR (g.shutFor w.heap.size 0 noMu) 0 [] w := by
  refine ⟨Nat.le_refl _, h.imm, fun _ _ => rfl, ?_, ?_, ?_, ?_, ?_, ?_⟩
  · intro b b' B sz sz' hb; cases hb
  · intro b B sz hb; cases hb
  · intro B l hl
    simp only [Gh.shutFor] at hl
    split at hl
    · assumption
    · cases hl
  · intro b B sz _ hb; cases hb
  · intro b B sz _ hb; cases hb
  · intro b blk hb; simp at hb

/-- what is known behind it: all new cells but the result's own -/
def Gh.kept (g g2 : Gh) (size : Nat) (w' : World) (d : Loc) : Gh :=
  { imm := fun B o => if B < size then g.imm B o else if g2.ow B = some .res then g2.imm B o else w'.cell? ⟨B, o, none⟩
    mu := g.mu
    ow := fun B => if B < size then g.ow B else if g2.ow B = some .res then some d else none }

section
variable {g g2 : Gh} {n : Nat} {m : Mu} {ro : Nat} {H H' : Hp} {w w' : World} {d : Loc}

theorem shut_old (e : Ev n (g.shutFor w.heap.size n m) w g2 w') {B : Nat} (hB : B < w.heap.size) : g2.ow B ≠ some .res ∧ (∀ o, g2.imm B o = g.imm B o) ∧ w'.heap[B]? = w.heap[B]? := by
  obtain ⟨l, h1, h2, h3⟩ := shutFor_lt (g := g) (m := m) (n := n) hB
  obtain ⟨h4, h5, h6⟩ := e.prot B l h1 h2
  exact ⟨by rw [h4]; intro e; cases e; exact h3 rfl, h5, h6⟩

theorem kept_imm (e : Ev n (g.shutFor w.heap.size n m) w g2 w') (h2 : MR g2 n H' w') : g2.imm.le (g.kept g2 w.heap.size w' d).imm := by
  intro B o v hv
  simp only [Gh.kept]
  split
  · rename_i hB; rw [← (shut_old e hB).2.1]; exact hv
  · split
    · exact hv
    · exact h2.imm B o v hv

theorem Keeps.kept (hm : MR g ro H w) (e : Ev n (g.shutFor w.heap.size n m) w g2 w') (h2 : MR g2 n H' w') : Keeps g w (g.kept g2 w.heap.size w' d) w' (fun _ => False) where
  imm := fun B o v hv => by
    have hlt : B < w.heap.size := World.block_lt_of_cell? _ _ (hm.imm B o v hv)
    simp only [Gh.kept, hlt, if_true]; exact hv
  mun := .refl _ _
  size := e.size
  same := fun B hB _ => ⟨by simp [Gh.kept, hB], fun o => by simp [Gh.kept, hB], (shut_old e hB).2.2⟩
  out := e.out

theorem MR.kept (hm : MR g ro H w) (e : Ev n (g.shutFor w.heap.size n m) w g2 w') (h2 : MR g2 n H' w') : MR (g.kept g2 w.heap.size w' d) ro H w' := by
  have k := Keeps.kept (d := d) hm e h2
  refine ⟨hm.role, ?_, hm.dom, hm.inj, fun b B sz h => Nat.lt_of_lt_of_le (hm.lt b B sz h) e.size, ?_, ?_, ?_, ?_⟩
  · intro B o v hv
    simp only [Gh.kept] at hv
    split at hv
    · rename_i hB
      rw [cell_of_heap (shut_old e hB).2.2]; exact hm.imm B o v hv
    · split at hv
      · exact h2.imm B o v hv
      · exact hv
  · intro B l hl
    simp only [Gh.kept] at hl
    split at hl
    · exact Nat.lt_of_lt_of_le (hm.owlt B l hl) e.size
    · split at hl
      · rename_i hr; exact h2.owlt B _ hr
      · cases hl
  · intro b B sz hb h
    have hlt := hm.lt b B sz h
    simp only [Gh.kept, hlt, if_true]; exact hm.prot b B sz hb h
  · intro b B sz hb h
    have hlt := hm.lt b B sz h
    simp only [Gh.kept, hlt, if_true]; exact hm.free b B sz hb h
  · intro b blk hb
    exact (hm.blk b blk hb).keeps k hm.owlt (fun B sz h => hm.lt b B sz h) (fun _ _ _ h => h) (fun _ _ _ _ h => h) id

theorem Evs.kept (hm : MR g ro H w) (e : Ev n (g.shutFor w.heap.size n m) w g2 w') (h2 : MR g2 n H' w') : Evs ro g w (g.kept g2 w.heap.size w' d) w' := by
  have k := Keeps.kept (d := d) hm e h2
  refine { imm := k.imm, mun := k.mun, size := k.size, loops := e.loops, out := k.out, prot := ?_, slots := ?_ }
  · intro B l hB _
    obtain ⟨h1, h2, h3⟩ := k.same B (hm.owlt B l hB) (fun h => h)
    exact ⟨by rw [h1]; exact hB, h2, h3⟩
  · intro t B hB
    obtain ⟨h1, h2, h3⟩ := k.same B (hm.owlt B _ hB) (fun h => h)
    exact ⟨by rw [h1]; exact hB, h2, h3⟩

/-- a slice of a new block, as a list -/
theorem VR.frz0 (hmn : ∀ b, n ≤ b → m b = none) (e : Ev n (g.shutFor w.heap.size n m) w g2 w') (h2 : MR g2 n H' w') {a : AV} {c : Value} (h : VR g2.imm g2.mu a c) : VR (g.kept g2 w.heap.size w' d).imm noMu (Abs.frz0 n H' a) c := by
  have hother : Abs.frz0 n H' a = Abs.cl0 a → VR (g.kept g2 w.heap.size w' d).imm noMu (Abs.frz0 n H' a) c := fun he => by
    rw [he]; exact VR.mono (kept_imm e h2) _ (Mu.le_refl _) h.cl0
  cases a with
  | sl b sz0 i len cap =>
    simp only [Abs.frz0]
    split
    · simp [VR]
    · rename_i hbn
      split
      · rename_i sz el els hb
        split
        · rename_i hc
          simp only [VR] at h
          obtain ⟨B, cap', hmu, hle, rfl⟩ := h
          have hbr := h2.blk b _ hb
          have hsz : sz0 = sz := by
            obtain ⟨B', h1, _⟩ := hbr
            rw [hmu] at h1; cases h1; rfl
          subst hsz
          obtain ⟨cs, h5, h6⟩ := hbr.part (i := i) (len := len) hmu
          have hnew : ¬ B < w.heap.size := by
            rcases e.mun.new b B sz0 hmu with h3 | h3
            · have := hmn b (by omega)
              have h3' : m b = some (B, sz0) := h3
              rw [this] at h3'; cases h3'
            · omega
          have hres : g2.ow B ≠ some .res := by rw [h2.free b B sz0 (by omega) hmu]; simp
          have hl : (((els.drop i).take len).map Abs.cl1).length = len := by simp [Nat.min_def]; omega
          simp only [VR]
          refine ⟨B, i * sz0, cap', cs, by rw [hl], by simp, by simp, by omega, VRels.mono (kept_imm e h2) _ (Mu.le_refl _) h5, fun k v hk => ?_⟩
          simp only [Gh.kept, hnew, if_false, hres]
          exact h6 k v hk
        · simp [VR]
      · simp [VR]
  | _ => exact hother rfl

theorem VR.frz1 (hmn : ∀ b, n ≤ b → m b = none) (e : Ev n (g.shutFor w.heap.size n m) w g2 w') (h2 : MR g2 n H' w') {a : AV} {c : Value} (h : VR g2.imm g2.mu a c) : VR (g.kept g2 w.heap.size w' d).imm noMu (Abs.frz1 n H' a) c := by
  cases a with
  | agg l =>
    simp only [VR, Abs.frz1] at h ⊢
    obtain ⟨cs, rfl, h3, h4⟩ := h
    exact ⟨cs, rfl, h3.map fun a c h => h.frz0 hmn e h2, h4⟩
  | _ => exact VR.frz0 hmn e h2 h

theorem SR.frz (hmn : ∀ b, n ≤ b → m b = none) (e : Ev n (g.shutFor w.heap.size n m) w g2 w') (h2 : MR g2 n H' w') {v : AV} {c : Value} (h : SR g2 w' .res v c) : SR (g.kept g2 w.heap.size w' d) w' d (Abs.frz n H' v) c := by
  cases hown : isOwn v with
  | true =>
    obtain ⟨sz, els, rfl⟩ := isOwn_spec hown
    obtain ⟨B, cap, cs, h1, h3, h4, h5, h6, h7, h8⟩ := h
    have hnew : ¬ B < w.heap.size := fun hB => (shut_old e hB).1 h6
    have hi := kept_imm (d := d) e h2
    refine ⟨B, cap, cs, h1, h3, VRels.mono hi _ (Mu.le_refl _) h4, h5.mono hi, by simp [Gh.kept, hnew, h6], fun o ho => ?_, h8⟩
    simp only [Gh.kept, hnew, if_false, h6, if_true]; exact h7 o ho
  | false =>
    have hv := (SR_notOwn hown).1 h
    have hup : ∀ {x}, VR (g.kept g2 w.heap.size w' d).imm noMu x c → SR (g.kept g2 w.heap.size w' d) w' d x c := fun hx => (VR.mono (Imm.le_refl _) _ (noMu_le _) hx).sr
    cases v with
    | tup l =>
      refine hup ?_
      simp only [VR, Abs.frz] at hv ⊢
      obtain ⟨cs, rfl, h3⟩ := hv
      exact ⟨cs, rfl, h3.map fun a c h => h.frz1 hmn e h2⟩
    | vec sz k els =>
      refine hup ?_
      have := VR.mono (kept_imm (d := d) e h2) _ (Mu.le_refl _) hv
      simpa [Abs.frz, VR] using this
    | _ => exact hup (VR.frz1 hmn e h2 hv)
end

end Go.Abs
