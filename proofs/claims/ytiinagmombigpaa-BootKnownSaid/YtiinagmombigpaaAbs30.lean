/- Loops; functions; every level of fuel. -/
import Derived.Test.YtiinagmombigpaaAbs29
set_option linter.unusedVariables false
set_option linter.unusedSimpArgs false
set_option linter.unnecessarySimpa false
namespace Go.Abs
variable {P : Program}

theorem loopB_ok {cx : Cx} {k : Nat} {h : Hd} (hT : TOk P cx.T) (hh : HdOk P k h) (hre : Reorders P cx h) {ro : Nat} {fn : FuncId} {nt : Nat} {c : Code} {fr fr' : PT} {H H' : Hp} {e : Ex}
    (hx : loopB cx h ro fn nt c fr H = some (e, fr', H')) : LoopOk P (k + 1) ro nt c fr H e fr' H' := by
  intro r n n0 g a w hR hM hI Q hq
  rw [roundsIn_succ]
  unfold loopB at hx
  cases ha : ex cx h ro fn nt c fr H with
  | none => rw [ha] at hx; cases hx
  | some res =>
    obtain ⟨e1, fr1, H1⟩ := res
    rw [ha] at hx
    refine ex_ok hT hh hre c ha r n n0 g a w hR hM hI _ fun a1 w1 g1 h1 h2 h3 => ?_
    cases e1 with
    | normal =>
      simp only [thenR, trimmed] at hx
      split at hx
      · exact hh.loop hx r n n0 g1 a1 w1 h1 h2 (hI.ev h3) Q fun a2 w2 g2 k1 k2 k3 => hq a2 w2 g2 k1 k2 (h3.trans k3)
      · have e2 := h3.trim (n := H.length) fun b x hb => hR.mem.mu_lt hb
        obtain ⟨m1, m2⟩ := h2
        exact hh.loop hx r n n0 (g1.upto H.length) a1 w1 (h1.trim hR.mem.role) ⟨m1, m2⟩ (hI.ev h3) Q fun a2 w2 g2 k1 k2 k3 => hq a2 w2 g2 k1 k2 (e2.trans k3)
    | exit id =>
      simp only [thenR, Option.some.injEq, Prod.mk.injEq] at hx
      obtain ⟨rfl, rfl, rfl⟩ := hx
      exact hq a1 w1 g1 h1 h2 h3
    | ret =>
      simp only [thenR, Option.some.injEq, Prod.mk.injEq] at hx
      obtain ⟨rfl, rfl, rfl⟩ := hx
      exact hq a1 w1 g1 h1 h2 h3

/-! ### functions -/
theorem setArgs_fixed {imm : Imm} {mu : Mu} {tm : Array Value} : ∀ (l : List (Tmp × AV)) {fr : PT}, (∀ p ∈ l, p.1 < 16000 ∧ ∃ v, tm[p.1]? = some v ∧ VR imm mu p.2 v) → SlotsV imm mu fr tm → SlotsV imm mu (setArgs l fr) tm
  | [], fr, _, h => h
  | (t, x) :: l, fr, hl, h => by
    simp only [setArgs]
    refine setArgs_fixed l (fun p hp => hl p (by simp [hp])) fun s => ?_
    obtain ⟨h1, v, h2, h3⟩ := hl (t, x) (by simp)
    by_cases e : t = s
    · subst e
      right
      rw [PT.get_set_eq h1]
      exact ⟨v, h2, h3.drp⟩
    · rw [PT.get_set_ne e]; exact h s

theorem Rel.enter {g : Gh} {ro nt : Nat} {H : Hp} {w : World} {args : List AV} {cargs : Array Value} (hm : MR g ro H w) (ha : VRs g.imm g.mu args cargs.toList) (h1 : args.length ≤ nt) (h2 : nt ≤ 16000) :
    Rel g ro nt (setArgs ((List.range args.length).zip args) .nil) H (cargs ++ Array.replicate (nt - cargs.size) undef) w := by
  have hsz : cargs.size = args.length := by have := ha.length; simpa using this
  have key : SlotsV g.imm g.mu (setArgs ((List.range args.length).zip args) .nil) (cargs ++ Array.replicate (nt - cargs.size) undef) := by
    refine setArgs_fixed _ (fun p hp => ?_) fun t => .inl (PT.get_nil t)
    obtain ⟨i, hi⟩ := List.getElem?_of_mem hp
    rw [List.getElem?_zip_eq_some] at hi
    obtain ⟨h3, h4⟩ := hi
    have hlt := (List.getElem?_eq_some_iff.1 h4).1
    rw [List.getElem?_range hlt] at h3
    simp only [Option.some.injEq] at h3
    obtain ⟨c, h5, h6⟩ := ha.get h4
    rw [← h3]
    refine ⟨Nat.lt_of_lt_of_le hlt (Nat.le_trans h1 h2), c, ?_, h6⟩
    rw [Array.getElem?_append_left (show i < cargs.size by omega)]
    simpa using h5
  exact ⟨by simp; omega, h2, fun t => by
    rcases key t with h | ⟨v, h3, h4⟩
    · exact .inl h
    · exact .inr ⟨v, h3, h4.sr⟩, hm⟩

/-- one mark among the deferred calls is come to -/
theorem MR.mark {g : Gh} {ro : Nat} {H : Hp} {w : World} {r : Nat} (hm : MR g ro H w) (hr : g.ow r = some .oth) (hh : w.heap[r]? = some (.deferred (some []))) :
    MR g ro H (w.putObj r (.deferred none)) ∧ Keeps g w g (w.putObj r (.deferred none)) (fun B => B = r) := by
  have k : Keeps g w g (w.putObj r (.deferred none)) (fun B => B = r) :=
    ⟨Imm.le_refl _, .refl _ _, by simp, fun B _ hB => ⟨rfl, fun _ => rfl, World.putObj_heap_other hB⟩, ⟨rfl, rfl, rfl⟩⟩
  have himm : ∀ B o v, g.imm B o = some v → B ≠ r := by
    intro B o v h e
    subst e
    have := hm.imm B o v h
    simp [World.cell?, hh] at this
  refine ⟨⟨hm.role, ?_, hm.dom, hm.inj, ?_, ?_, hm.prot, hm.free, ?_⟩, k⟩
  · intro B o v h
    rw [cell_of_heap (World.putObj_heap_other (himm B o v h))]; exact hm.imm B o v h
  · intro b B sz h; rw [World.putObj_size]; exact hm.lt b B sz h
  · intro B l h; rw [World.putObj_size]; exact hm.owlt B l h
  · intro b blk hb
    have hbr := hm.blk b blk hb
    have hne : ∀ (ob : Obj) (B : Nat), w.heap[B]? = some ob → ob ≠ .deferred (some []) → B ≠ r := by
      intro ob B h1 h2 e
      subst e; rw [hh] at h1; cases h1; exact h2 rfl
    have fin : (∀ B sz, g.mu b = some (B, sz) → B ≠ r) → BR g (w.putObj r (.deferred none)) b blk := fun hx =>
      hbr.keeps k hm.owlt (fun B sz h => hm.lt b B sz h) (fun B sz h => hx B sz h) (fun B i j hB e => by subst e; rw [hr] at hB; cases hB) id
    cases blk with
    | cells sz e els =>
      obtain ⟨B, h1, ⟨ccs, e', h2⟩, _⟩ := hbr
      exact fin fun B' s h => by rw [h1] at h; cases h; exact hne _ _ h2 (by simp)
    | mapo es =>
      obtain ⟨B, sz, mes, clock, h1, h2, _⟩ := hbr
      exact fin fun B' s h => by rw [h1] at h; cases h; exact hne _ _ h2 (by simp)
    | loop r' =>
      obtain ⟨B, sz, lr, h1, h2, _⟩ := hbr
      exact fin fun B' s h => by rw [h1] at h; cases h; exact hne _ _ h2 (by simp)
    | gone => trivial
    | res => exact hbr

theorem marks_ok {n : Nat} {fn : Func} {tm : Array Value} {R : Ending → World → Prop} {ro nt n0 : Nat} {fr : PT} {H : Hp} {g0 g : Gh} {w0 : World} (hg0 : ∀ B l, g0.ow B = some l → B < n0) (hl0 : ∀ (L : Nat) (lr : Loop), w0.heap[L]? = some (Obj.loop lr) → L < n0) : ∀ (rs : List Nat) {w : World},
    Rel g ro nt fr H tm w → rs.Nodup → (∀ r ∈ rs, n0 ≤ r ∧ g.ow r = some .oth ∧ w.heap[r]? = some (.deferred (some []))) → Ev ro g0 w0 g w →
    (∀ w', Rel g ro nt fr H tm w' → Ev ro g0 w0 g w' → ∃ v, (results fn tm).run P w' = .ok v w' ∧ R (.returned v) w') →
    LeavesInM Fence.wide n P fn tm R (rs.map fun r => { target := .collected r, args := #[] }) .returning w
  | [], w, hR, _, _, he, hf => hf w hR he
  | r :: rs, w, hR, hnd, hrs, he, hf => by
    obtain ⟨h1, h2, h3⟩ := hrs r (by simp)
    obtain ⟨m1, k⟩ := hR.mem.mark h2 h3
    have hlt : r < w.heap.size := hR.mem.owlt r _ h2
    refine ⟨by simp, .inl ⟨r, _, rfl, run_takeDeferred h3, ?_⟩⟩
    refine marks_ok hg0 hl0 rs ⟨hR.size, hR.nt_le, fun t => ?_, m1⟩ (List.nodup_cons.1 hnd).2 (fun r' hr' => ?_) ?_ hf
    · rcases hR.slots t with h | ⟨v, ha, hb⟩
      · exact .inl h
      · exact .inr ⟨v, ha, hb.keeps k hR.mem.owlt fun B hB e => by subst e; rw [h2] at hB; cases hB⟩
    · obtain ⟨a1, a2, a3⟩ := hrs r' (by simp [hr'])
      have hne : r' ≠ r := fun e => (List.nodup_cons.1 hnd).1 (e ▸ hr')
      exact ⟨a1, a2, by rw [World.putObj_heap_other hne]; exact a3⟩
    · refine ⟨he.imm, he.mun, by rw [World.putObj_size]; exact he.size, fun B l hB hl => ?_, fun L lr hL => ?_, ⟨he.out.os, he.out.tape, he.out.output⟩⟩
      · obtain ⟨b1, b2, b3⟩ := he.prot B l hB hl
        have := hg0 B l hB
        exact ⟨b1, b2, by rw [World.putObj_heap_other (by omega)]; exact b3⟩
      · obtain ⟨lr', c1, c2⟩ := he.loops L lr hL
        have := hl0 L lr hL
        exact ⟨lr', by rw [World.putObj_heap_other (by omega)]; exact c1, c2⟩

end Go.Abs
