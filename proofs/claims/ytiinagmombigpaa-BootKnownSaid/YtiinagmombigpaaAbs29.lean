/- All code; functions; every level of fuel. -/
import Derived.Test.YtiinagmombigpaaAbs28
set_option linter.unusedVariables false
set_option linter.unusedSimpArgs false
set_option linter.unnecessarySimpa false
namespace Go.Abs
variable {P : Program}

theorem run_enterLoop_inner {w : World} {L : Nat} {lr0 : Loop} (h : w.heap[L]? = some (.loop lr0)) (fn : FuncId) (tmps : Array Value) (ps : Array Tmp) (assign body : Code) :
    (Instr.enterLoop fn tmps ps assign body (some L)).run P w =
      .ok (w.heap.size, []) (w.alloc (.loop { state := .ready, pending := none, fn, tmps, params := ps, assign, body, defers := lr0.defers })) := by
  unfold Instr.enterLoop
  simp only [Sem.run_bind, run_getLoop h, run_newObj_alloc, Result.andThen, Sem.run_pure]

theorem LR.made {g gA : Gh} {ro nt : Nat} {fn0 fn : FuncId} {fr : PT} {H : Hp} {w : World} {a : Act} (hR : Rel g ro nt fr H a.tmps w) (hi : g.imm.le gA.imm) (hm : g.mu.le gA.mu) (ps : Array Tmp) (assign body : Code) (ds : Nat) :
    LR gA { fn := fn0, nt, fr := fr.map drp, params := ps.toList, assign, body, state := .ready, pending := none } { state := .ready, pending := none, fn, tmps := a.tmps, params := ps, assign, body, defers := ds } := by
  refine ⟨by simp, rfl, rfl, rfl, rfl, hR.size, hR.nt_le, fun t => ?_⟩
  simp only
  rw [PT.get_map rfl]
  rcases hR.slots t with hd | ⟨v, ha, hb⟩
  · left; rw [hd]; rfl
  · exact .inr ⟨v, ha, by rw [← drp_shr]; exact VR.mono hi _ hm hb.shr.drp⟩

theorem jump_ok {r : Option Nat} {n : Nat} {Q : Exit → Act → World → Prop} {a : Act} {w : World} {e : Ex} {jump : Option Code} (hj : jump = (if e = .normal then none else e.code)) (hq : Q e.conc a w) :
    (match (generalizing := false) jump with | none => Q .normal a w | some c => c.wpIn (Fr r) n P Q a w) := by
  cases e with
  | normal => simp at hj; subst hj; exact hq
  | exit id => simp [Ex.code] at hj; subst hj; exact wpIn_exit hq
  | ret => simp [Ex.code] at hj; subst hj; exact wpIn_ret hq

theorem ex_ok {cx : Cx} {k : Nat} {h : Hd} (hT : TOk P cx.T) (hh : HdOk P k h) (hre : Reorders P cx h) {ro : Nat} {fn : FuncId} {nt : Nat} : ∀ (c : Code) {fr fr' : PT} {H H' : Hp} {e : Ex},
    ex cx h ro fn nt c fr H = some (e, fr', H') → CodeOk P ro nt c fr H e fr' H'
  | .skip, fr, fr', H, H', e, hx => by
    simp only [ex, Option.some.injEq, Prod.mk.injEq] at hx
    obtain ⟨rfl, rfl, rfl⟩ := hx
    exact fun r n n0 g a w hR hM hI Q hq => wpIn_skip (hq a w g hR hM (Ev.refl _ _ _))
  | .label _, fr, fr', H, H', e, hx => by
    simp only [ex, Option.some.injEq, Prod.mk.injEq] at hx
    obtain ⟨rfl, rfl, rfl⟩ := hx
    exact fun r n n0 g a w hR hM hI Q hq => wpIn_label (hq a w g hR hM (Ev.refl _ _ _))
  | .region id ops draw, fr, fr', H, H', e, hx => by
    simp only [ex] at hx
    cases hr : region cx h ro fn nt ops fr H draw with
    | none => rw [hr] at hx; cases hx
    | some res =>
      obtain ⟨fr1, H1⟩ := res
      rw [hr] at hx
      simp only [normR, Option.some.injEq, Prod.mk.injEq] at hx
      obtain ⟨rfl, rfl, rfl⟩ := hx
      exact region_ok hT hh hre hr
  | .seq x y, fr, fr', H, H', e, hx => by
    simp only [ex] at hx
    intro r n n0 g a w hR hM hI Q hq
    refine wpIn_seq ?_
    cases ha : ex cx h ro fn nt x fr H with
    | none => rw [ha] at hx; cases hx
    | some res =>
      obtain ⟨e1, fr1, H1⟩ := res
      rw [ha] at hx
      refine ex_ok hT hh hre x ha r n n0 g a w hR hM hI _ fun a1 w1 g1 h1 h2 h3 => ?_
      cases e1 with
      | normal =>
        simp only [thenR] at hx
        exact ex_ok hT hh hre y hx r n n0 g1 a1 w1 h1 h2 (hI.ev h3) Q fun a2 w2 g2 k1 k2 k3 => hq a2 w2 g2 k1 k2 (h3.trans k3)
      | exit id =>
        simp only [thenR, Option.some.injEq, Prod.mk.injEq] at hx
        obtain ⟨rfl, rfl, rfl⟩ := hx
        exact hq a1 w1 g1 h1 h2 h3
      | ret =>
        simp only [thenR, Option.some.injEq, Prod.mk.injEq] at hx
        obtain ⟨rfl, rfl, rfl⟩ := hx
        exact hq a1 w1 g1 h1 h2 h3
  | .cond c x y, fr, fr', H, H', e, hx => by
    simp only [ex] at hx
    intro r n n0 g a w hR hM hI Q hq
    have hc := hR.eval (a := a) c
    unfold condR at hx
    split at hx
    · rename_i hv
      rw [hv] at hc
      exact wpIn_cond_true (VR_lit hc) (ex_ok hT hh hre x hx r n n0 g a w hR hM hI Q hq)
    · rename_i hv
      rw [hv] at hc
      exact wpIn_cond_false (VR_lit hc) (ex_ok hT hh hre y hx r n n0 g a w hR hM hI Q hq)
    · cases hx
  | .block id x, fr, fr', H, H', e, hx => by
    simp only [ex] at hx
    intro r n n0 g a w hR hM hI Q hq
    refine wpIn_block ?_
    cases ha : ex cx h ro fn nt x fr H with
    | none => rw [ha] at hx; cases hx
    | some res =>
      obtain ⟨e1, fr1, H1⟩ := res
      rw [ha] at hx
      refine ex_ok hT hh hre x ha r n n0 g a w hR hM hI _ fun a1 w1 g1 h1 h2 h3 => ?_
      cases e1 with
      | normal =>
        simp only [blockR, Option.some.injEq, Prod.mk.injEq] at hx
        obtain ⟨rfl, rfl, rfl⟩ := hx
        exact hq a1 w1 g1 h1 h2 h3
      | exit id' =>
        simp only [blockR, Option.some.injEq, Prod.mk.injEq] at hx
        obtain ⟨rfl, rfl, rfl⟩ := hx
        have := hq a1 w1 g1 h1 h2 h3
        simp only [Ex.conc, Exit.inBlock]
        split
        · rename_i hid; simpa [hid, Ex.conc] using this
        · rename_i hid; simpa [hid, Ex.conc] using this
      | ret =>
        simp only [blockR, Option.some.injEq, Prod.mk.injEq] at hx
        obtain ⟨rfl, rfl, rfl⟩ := hx
        exact hq a1 w1 g1 h1 h2 h3
  | .loop x, fr, fr', H, H', e, hx => by
    simp only [ex] at hx
    exact fun r n n0 g a w hR hM hI Q hq => wpIn_loop_rounds k (hh.loop hx r n n0 g a w hR hM hI Q hq)
  | .exit id, fr, fr', H, H', e, hx => by
    simp only [ex, Option.some.injEq, Prod.mk.injEq] at hx
    obtain ⟨rfl, rfl, rfl⟩ := hx
    exact fun r n n0 g a w hR hM hI Q hq => wpIn_exit (hq a w g hR hM (Ev.refl _ _ _))
  | .ret, fr, fr', H, H', e, hx => by
    simp only [ex, Option.some.injEq, Prod.mk.injEq] at hx
    obtain ⟨rfl, rfl, rfl⟩ := hx
    exact fun r n n0 g a w hR hM hI Q hq => wpIn_ret (hq a w g hR hM (Ev.refl _ _ _))
  | .scope x, fr, fr', H, H', e, hx => by
    simp only [ex] at hx
    intro r n n0 g a w hR hM hI Q hq
    refine wpIn_scope_straight (ex_ok hT hh hre x hx r n n0 g a w hR hM hI _ fun a1 w1 g1 h1 h2 h3 => ?_)
    have := hq a1 w1 g1 h1 h2 h3
    cases e <;> exact this
  | .goto _, fr, fr', H, H', e, hx => by simp [ex] at hx
  | .refuse _, fr, fr', H, H', e, hx => by simp [ex] at hx
  | .rangeFunc f ps assign body, fr, fr', H, H', e, hx => by
    simp only [ex] at hx
    intro r n n0 g a w hR hM hI Q hq
    have hf := hR.eval (a := a) f
    unfold ranged at hx
    split at hx
    · rename_i f0 cap hfv
      rw [hfv] at hf
      simp only [VR] at hf
      obtain ⟨cs, hfe, hcap⟩ := hf
      refine wpIn_rangeFunc fun fn' _ => ?_
      have hres : ∀ (l : Nat) (w1 : World), (resolve a.eval (rangeCall f l) 0).run P w1 = .ok { target := .fn (.func f0) cs.toArray, args := #[] ++ #[.func (.yield l) #[] #[]] } w1 := by
        intro l w1
        have hcv : a.eval (.const (.func (.yield l) #[] #[])) = .func (.yield l) #[] #[] := rfl
        simp [resolve, rangeCall, hfe, Deferred.ofValue, hcv]
      cases r with
      | none =>
        obtain ⟨mA, eA⟩ := hR.mem.lend.other (.deferred (some []))
        obtain ⟨k1, k2⟩ := ranged_ok hh hR hx ⟨cs, hcap⟩ mA eA (LR.made (fn := fn') hR (show g.imm.le (g.lend.other w.heap.size).imm from Imm.le_refl _) (Mu.le_refl _) ps assign body w.heap.size) hcap
        refine ⟨_, _, _, _, _, f0, #[] ++ #[Value.func (.yield (w.alloc (.deferred (some []))).heap.size) #[] #[]] ++ cs.toArray, (w.alloc (.deferred (some []))).alloc (.loop { state := .ready, pending := none, fn := fn', tmps := a.tmps, params := ps, assign, body, defers := w.heap.size }), run_enterLoop_outer fn' a.tmps ps assign body, hres _ _, fun _ _ => trivial, ?_, fun hx => (by simp [Fr, Fence.wide] at hx), ?_⟩
        · simp only [invoke, World.size_alloc, k1]
        · refine CallsIn.mono (k2 _) fun e' w3 he => ?_
          cases e' with
          | panicked _ => exact he.elim
          | outgrown => exact he.elim
          | returned c =>
            obtain ⟨jump, w4, g', h1, h2, h3, h4, h5⟩ := he
            rw [World.size_alloc] at h1
            refine ⟨jump, w4, h1, jump_ok h2 (hq { a with defers := [{ target := .collected w.heap.size, args := #[] }] ++ a.defers } w4 g' h3 ?_ h4.toEv)⟩
            obtain ⟨hm0, rs, m1, m2, m3⟩ := hM
            have hfresh : ∀ t, g.ow w.heap.size ≠ some (.slot t) := fun t ht => by have := hR.mem.owlt _ _ ht; omega
            obtain ⟨b1, b2⟩ := h5 w.heap.size (by simp [Gh.other]) hfresh
            refine ⟨Nat.le_trans hm0 h4.size, w.heap.size :: rs, by simp [m1], List.nodup_cons.2 ⟨fun hmem => ?_, m2⟩, ?_⟩
            · have := (m3 _ hmem).2.2; simp at this
            · intro r' hr'
              rcases List.mem_cons.1 hr' with rfl | hr'
              · exact ⟨hm0, b1, by rw [b2]; exact heap_alloc_new w _⟩
              · obtain ⟨c1, c2, c3⟩ := m3 r' hr'
                obtain ⟨d1, _, d3⟩ := h4.prot r' .oth c2 trivial
                exact ⟨c1, d1, by rw [d3]; exact c3⟩
      | some L =>
        obtain ⟨lr0, hl0⟩ := hI L rfl
        obtain ⟨k1, k2⟩ := ranged_ok hh hR hx ⟨cs, hcap⟩ hR.mem.lend (Ev.refl _ _ _) (LR.made (fn := fn') hR (show g.imm.le g.lend.imm from Imm.le_refl _) (Mu.le_refl _) ps assign body lr0.defers) hcap
        refine ⟨_, _, _, _, _, f0, #[] ++ #[Value.func (.yield w.heap.size) #[] #[]] ++ cs.toArray, w.alloc (.loop { state := .ready, pending := none, fn := fn', tmps := a.tmps, params := ps, assign, body, defers := lr0.defers }), run_enterLoop_inner hl0 fn' a.tmps ps assign body, hres _ _, fun _ _ => trivial, ?_, fun hx => (by simp [Fr, Fence.wide] at hx), ?_⟩
        · simp only [invoke, k1]
        · refine CallsIn.mono (k2 _) fun e' w3 he => ?_
          cases e' with
          | panicked _ => exact he.elim
          | outgrown => exact he.elim
          | returned c =>
            obtain ⟨jump, w4, g', h1, h2, h3, h4, h5⟩ := he
            exact ⟨jump, w4, h1, jump_ok h2 (hq { a with defers := [] ++ a.defers } w4 g' h3 (hM.ev h4.toEv) h4.toEv)⟩
    · cases hx

end Go.Abs
