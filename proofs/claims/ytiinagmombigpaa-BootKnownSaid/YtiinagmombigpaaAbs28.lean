/- Code: loops over functions; all of it. -/
import Derived.Test.YtiinagmombigpaaAbs27
set_option linter.unusedVariables false
set_option linter.unusedSimpArgs false
set_option linter.unnecessarySimpa false
namespace Go.Abs
variable {P : Program}

theorem drp_shr (a : AV) : drp (shr a) = drp a := by
  cases a with
  | vec sz k els => cases k <;> rfl
  | _ => rfl

/-- a new block that is nobody's -/
def Gh.other (g : Gh) (B : Nat) : Gh := { g with ow := fun B' => if B' = B then some .oth else g.ow B' }
theorem MR.other {g : Gh} {ro : Nat} {H : Hp} {w : World} (hm : MR g ro H w) (o : Obj) : MR (g.other w.heap.size) ro H (w.alloc o) ∧ Ev ro g w (g.other w.heap.size) (w.alloc o) := by
  have hold : ∀ B l, g.ow B = some l → B ≠ w.heap.size := fun B l h e => by have := hm.owlt B l h; omega
  have hne : ∀ b B sz, g.mu b = some (B, sz) → B ≠ w.heap.size := fun b B sz h e => by have := hm.lt b B sz h; omega
  have k : Keeps g w (g.other w.heap.size) (w.alloc o) (fun _ => False) :=
    ⟨Imm.le_refl _, .refl _ _, by simp, fun B hB _ => ⟨by simp [Gh.other, Nat.ne_of_lt hB], fun _ => rfl, heap_alloc_old w o hB⟩, ⟨rfl, rfl, rfl⟩⟩
  refine ⟨⟨hm.role, ?_, hm.dom, hm.inj, ?_, ?_, ?_, ?_, ?_⟩, k.ev hm.owlt (fun _ _ _ _ h => h) fun _ _ h => h.elim⟩
  · intro B o' v h
    have hv : w.cell? ⟨B, o', none⟩ = some v := hm.imm B o' v h
    rw [World.cell?_alloc_lt _ _ _ (World.block_lt_of_cell? _ _ hv)]; exact hv
  · intro b B sz h; have := hm.lt b B sz h; simp; omega
  · intro B l h
    by_cases e : B = w.heap.size
    · rw [e]; simp
    · simp only [Gh.other, e, if_false] at h; have := hm.owlt B l h; simp; omega
  · intro b B sz hb h; simp only [Gh.other, hne b B sz h, if_false]; exact hm.prot b B sz hb h
  · intro b B sz hb h; simp only [Gh.other, hne b B sz h, if_false]; exact hm.free b B sz hb h
  · intro b blk hb
    exact (hm.blk b blk hb).keeps k hm.owlt (fun B sz h => hm.lt b B sz h) (fun _ _ _ h => h) (fun _ _ _ _ h => h) id

theorem MR.newLoop {g : Gh} {ro : Nat} {H : Hp} {w : World} (hm : MR g ro H w) {r : ALoop} {lr : Loop} (hr : LR g r lr) :
    MR (g.named H.length w.heap.size 0) ro (H ++ [.loop r]) (w.alloc (.loop lr)) ∧ Ev ro g w (g.named H.length w.heap.size 0) (w.alloc (.loop lr)) := by
  have hf : Abs.free ro H H.length = true := by simp [Abs.free, hm.role]
  have k := Keeps.named hm hf (.loop lr) 0
  have hb : BR (g.named H.length w.heap.size 0) (w.alloc (.loop lr)) H.length (.loop r) := ⟨w.heap.size, 0, lr, by simp [Gh.named], heap_alloc_new w _, hr.mono k.imm k.mu⟩
  have := hm.named hf (.loop lr) 0 (.loop r) hb
  rw [show putB H (some (H.length, .loop r)) = H ++ [.loop r] by simp [putB]] at this
  exact ⟨this, k.ev hm.owlt (fun _ _ _ _ h => h) fun _ _ h => h.elim⟩

/-- the call of the function that is ranged over, and what is behind it -/
theorem ranged_ok {k : Nat} {h : Hd} (hh : HdOk P k h) {ro nt : Nat} {fr fr' : PT} {H H' : Hp} {r : ALoop} {f : FuncId} {cap : List AV} {e : Ex} {g gA : Gh} {w wA : World} {a : Act} (hR : Rel g ro nt fr H a.tmps w)
    (hd : endLoop H.length fr (h.call ro f (.yld H.length :: cap) (H ++ [.loop r])) = some (e, fr', H')) (hcap : ∃ cs : List Value, VRs g.imm g.mu cap cs)
    (mA : MR gA ro H wA) (eA : Ev ro g.lend w gA wA) {lr : Loop} (hlr : LR gA r lr) {cs : List Value} (hcs : VRs g.imm g.mu cap cs) :
    (∀ (w : World) (cargs : Array Value), (callFunc f cargs).run P w = .ok (.enter f cargs) w) ∧
    ∀ n, CallsIn Fence.wide n P f (#[] ++ #[Value.func (.yield wA.heap.size) #[] #[]] ++ cs.toArray) (wA.alloc (.loop lr)) (fun
      | .returned _, w3 => ∃ jump w4 g', (Instr.endLoop wA.heap.size).run P w3 = .ok jump w4 ∧ jump = (if e = .normal then none else e.code) ∧ Rel g' ro nt fr' H' a.tmps w4 ∧ Evs ro g w g' w4 ∧ (∀ B, gA.ow B = some .oth → (∀ t, g.ow B ≠ some (.slot t)) → g'.ow B = some .oth ∧ w4.heap[B]? = wA.heap[B]?)
      | _, _ => False) := by
  obtain ⟨mB, eB⟩ := mA.newLoop hlr
  cases hc : h.call ro f (.yld H.length :: cap) (H ++ [.loop r]) with
  | none => rw [hc] at hd; cases hd
  | some res =>
    obtain ⟨v, H1⟩ := res
    rw [hc] at hd
    obtain ⟨k1, k2⟩ := hh.call hc
    refine ⟨k1, fun n => ?_⟩
    have eAB : Ev ro g.lend w _ _ := eA.trans eB
    have hargs : VRs (gA.named H.length wA.heap.size 0).imm (gA.named H.length wA.heap.size 0).mu (.yld H.length :: cap) (#[] ++ #[Value.func (.yield wA.heap.size) #[] #[]] ++ cs.toArray).toList := by
      have h1 : (#[] ++ #[Value.func (.yield wA.heap.size) #[] #[]] ++ cs.toArray : Array Value).toList = Value.func (.yield wA.heap.size) #[] #[] :: cs := by simp
      rw [h1]
      simp only [VRs]
      refine ⟨_, _, rfl, ?_, VRs.mono eAB.imm _ eAB.mun.le (show VRs g.lend.imm g.lend.mu cap cs from hcs)⟩
      simp only [VR]
      exact ⟨wA.heap.size, 0, by simp [Gh.named], rfl⟩
    refine (k2 mB hargs n).mono fun e' w3 he => ?_
    cases e' with
    | panicked _ => exact he.elim
    | outgrown => exact he.elim
    | returned c =>
      obtain ⟨g2, m2, e2, _⟩ := he
      simp only [endLoop] at hd
      split at hd
      · rename_i r1 hb1
        split at hd
        · cases hd
        · rename_i hbusy
          simp only [Option.some.injEq, Prod.mk.injEq] at hd
          obtain ⟨rfl, rfl, rfl⟩ := hd
          obtain ⟨L1, sz1, lr1, q1, q2, q3⟩ := m2.blk _ _ hb1
          have hmu : g2.mu H.length = some (wA.heap.size, 0) := e2.mun.le _ _ (by simp [Gh.named])
          rw [hmu] at q1; cases q1
          have hns : lr1.state ≠ .busy := by
            rw [q3.2.2.2.1]
            cases hst : r1.state <;> simp [LS.conc]
            exact hbusy hst
          have hro : ro ≤ H.length := hR.mem.role
          have q3' : LR g2 { r1 with state := .exhausted } { lr1 with state := .exhausted } := ⟨q3.1, q3.2.1, q3.2.2.1, rfl, q3.2.2.2.2.1, q3.2.2.2.2.2.1, q3.2.2.2.2.2.2.1, q3.2.2.2.2.2.2.2⟩
          obtain ⟨z1, z2⟩ := loopW_ok m2 hro hb1 hmu q2 q3' rfl
          have eall : Ev ro g.lend w g2 _ := (eAB.trans e2).trans z2.toEv
          refine ⟨_, _, g.back g2 .res, run_endLoop q2 hns, ?_, ?_, Evs.back eall, ?_⟩
          · rw [q3.2.2.2.2.1]
            cases hp : r1.pending with
            | none => simp
            | some x => cases x <;> simp [Ex.code]
          · exact hR.after (dst := none) (v := .dead) (c := undef) (Evs.back eall) (MR.back hR.mem z1 eall) (fun d hd => by cases hd) rfl
          · intro B hB hs
            obtain ⟨a1, _, a3⟩ := ((eB.trans e2).trans z2.toEv).prot B .oth hB trivial
            exact ⟨by rw [back_other hs (by rw [a1]; simp)]; exact a1, a3⟩
      · cases hd

end Go.Abs
