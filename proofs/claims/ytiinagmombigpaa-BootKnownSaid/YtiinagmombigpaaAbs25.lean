/- One step; steps one after another. -/
import Derived.Test.YtiinagmombigpaaAbs24
set_option linter.unusedVariables false
set_option linter.unusedSimpArgs false
set_option linter.unnecessarySimpa false
namespace Go.Abs
variable {P : Program}

theorem put_tmps (a : Act) (dst : Option Tmp) (c : Value) : (a.put dst c).tmps = putT a.tmps dst c := by cases dst <;> rfl
theorem put_defers (a : Act) (dst : Option Tmp) (c : Value) : (a.put dst c).defers = a.defers := by cases dst <;> rfl

/-- what is asked of the operation o -/
def OpWp (r : Option Nat) (n : Nat) (P : Program) (ops : Array Oper) (o : Oper) (a : Act) (w : World) (next : Act → World → Prop) (Q : Exit → Act → World → Prop) : Prop :=
  if Region.wanted o (yielded ops a.tmps) then o.wpIn (Fr r) n P a w next Q else (∀ f, o.about P w a.eval = some f → (Fr r).fn f) ∧ next (a.put o.dst undef) w

theorem wants_ok {g : Gh} {ro nt : Nat} {fr : PT} {H : Hp} {a : Act} {w : World} {ops : Array Oper} {o : Oper} {b : Bool} (h : Rel g ro nt fr H a.tmps w) (hw : wants ops fr o = some b) : Region.wanted o (yielded ops a.tmps) = b := by
  unfold wants at hw
  unfold Region.wanted
  split at hw
  · rename_i hg
    cases hw
    rw [hg]
  · rename_i j want hg
    rw [hg]
    simp only
    unfold yielded
    split at hw
    · cases hw
    · rename_i d hd
      rw [hd]
      simp only [Option.bind_some]
      rcases h.slots d with h1 | ⟨v, h1, h2⟩
      · rw [h1] at hw; simp [wantsV] at hw
      · rw [h1]
        have h3 := h2.shr
        unfold wantsV at hw
        split at hw
        · rename_i b' hv
          cases hw
          rw [hv] at h3
          have := VR_lit h3
          subst this
          rfl
        · rename_i hv
          cases hw
          rw [hv] at h3
          simp only [shr, VR, VRs] at h3
          obtain ⟨cs, rfl, rfl⟩ := h3
          rfl
        · cases hw

theorem Rel.effed {g : Gh} {ro nt : Nat} {fr fr' : PT} {H : Hp} {a : Act} {w : World} {o : Oper} {e : Eff} (hR : Rel g ro nt fr H a.tmps w) (hok : OpOk P ro g H w o a e) (hf : putD nt o.dst e.v (unownT e.un fr) = some fr') :
    ∃ (c : Value) (nx : Next) (w' : World) (g' : Gh), (execOp a.eval o).run P w = .ok nx w' ∧ (nx = .value c ∨ (nx = .skip ∧ c = undef)) ∧ Rel g' ro nt fr' (putB H e.up) (a.put o.dst c).tmps w' ∧ Ev ro g w g' w' := by
  obtain ⟨⟨c, nx, w', g', X, h1, h2, h3, h4, h5, h6, h7, h8⟩, hun⟩ := hok
  refine ⟨c, nx, w', g', h1, h2, ?_, h3.ev hR.mem.owlt h6 h7⟩
  rw [put_tmps]
  exact hR.put h3 h4 hun (fun t B hB hX => h5 t B hB hX) (fun d hd => by rw [hd] at h8; exact h8) hf

theorem step_ok {cx : Cx} {k : Nat} {h : Hd} (hT : TOk P cx.T) (hh : HdOk P k h) {ro nt nm : Nat} {fn : FuncId} {ops : Array Oper} {g : Gh} {fr fr' : PT} {H H' : Hp} {w : World} {o : Oper} {a : Act} {fp : Fp} (hR : Rel g ro nt fr H a.tmps w)
    (hs : step cx h ro fn nt ops nm fr H (some o) = some (fp, fr', H')) {r : Option Nat} {n : Nat} {next : Act → World → Prop} {Q : Exit → Act → World → Prop}
    (hq : ∀ a' w' g', Rel g' ro nt fr' H' a'.tmps w' → a'.defers = a.defers → Ev ro g w g' w' → next a' w') : OpWp r n P ops o a w next Q := by
  simp only [step] at hs
  unfold OpWp
  cases hw : wants ops fr o with
  | none => rw [hw] at hs; simp [stepG] at hs
  | some b =>
    rw [hw] at hs
    rw [wants_ok hR hw]
    cases b with
    | false =>
      simp only [stepG, stepped] at hs
      simp only [Bool.false_eq_true, if_false]
      refine ⟨fun _ _ => trivial, ?_⟩
      cases hf : putD nt o.dst (.tup []) fr with
      | none => rw [hf] at hs; cases hs
      | some fr1 =>
        rw [hf] at hs
        cases hs
        refine hq _ _ g ?_ (put_defers _ _ _) (Ev.refl _ _ _)
        rw [put_tmps]
        exact hR.after { toEv := Ev.refl _ _ _, slots := fun t B hB => ⟨hB, fun _ => rfl, rfl⟩ } hR.mem (fun d hd => undef_tup.sr) hf
    | true =>
      simp only [stepG, stepO] at hs
      simp only [if_true]
      refine ⟨fun _ _ => trivial, ?_⟩
      split at hs
      · -- a call
        rename_i f args hc
        have hop : ∃ c : Call, o.op = .call c ∧ c.callee = .value f ∧ args = c.args.toList := by
          unfold calleeOf at hc
          split at hc
          · rename_i c hop
            split at hc
            · rename_i f' hf'
              cases hc
              exact ⟨c, hop, hf', rfl⟩
            · cases hc
          · cases hc
        obtain ⟨c, hop, hcal, rfl⟩ := hop
        rw [Oper.semAt_eq _ _ _ (by rw [hop]; simp)]
        have hf := hR.eval (a := a) f
        have hargs := hR.evals (a := a) c.args.toList
        have hcargs : VRs g.imm g.mu (c.args.toList.map (ev fr)) (c.args.map a.eval).toList := by simpa using hargs
        have hfin : ∀ {v : AV} {H1 : Hp} {fr1 : PT} (hp : putD nt o.dst v fr = some fr1) {e : Ending} {w' : World}, DonePost ro H1 v (.slot (o.dst.getD 0)) g w e w' → fr1 = fr' → H1 = H' →
            (match e, w' with
              | .returned v, w'' => next (a.put o.dst v) w''
              | .panicked chain, w'' => Q (.panic chain) a w''
              | .outgrown, _ => LetsOut Q) := by
          intro v H1 fr1 hp e w' hd h1 h2
          subst h1; subst h2
          cases e with
          | returned c' =>
            obtain ⟨g', k1, k2, k3⟩ := hd
            refine hq _ _ g' ?_ (put_defers _ _ _) k2.toEv
            rw [put_tmps]
            exact hR.after k2 k1 (fun d hd => by rw [hd] at k3; exact k3) hp
          | panicked _ => exact hd.elim
          | outgrown => exact hd.elim
        unfold calls at hs
        split at hs
        · -- of a function
          rename_i f0 cap hfv
          rw [hfv] at hf
          simp only [VR] at hf
          obtain ⟨cs, hfe, hcap⟩ := hf
          cases hd : docall h ro f0 (c.args.toList.map (ev fr) ++ cap) H (way cx f0 (c.args.toList.map (ev fr) ++ cap)) with
          | none => rw [hd] at hs; simp [stepped] at hs
          | some res =>
            obtain ⟨v, H1⟩ := res
            rw [hd] at hs
            simp only [stepped] at hs
            cases hp : putD nt o.dst v fr with
            | none => rw [hp] at hs; cases hs
            | some fr1 =>
              rw [hp] at hs
              cases hs
              have hall : VRs g.imm g.mu (c.args.toList.map (ev fr) ++ cap) (#[] ++ c.args.map a.eval ++ cs.toArray).toList := by
                simpa using hcargs.append hcap
              obtain ⟨k1, k2⟩ := docall_ok hh hR.mem hall hd (.slot (o.dst.getD 0))
              have hrun : (execOp a.eval o).run P w = .ok (.enter f0 (#[] ++ c.args.map a.eval ++ cs.toArray)) w := by
                simp only [execOp, hop, resolve, hcal, hfe, Deferred.ofValue, Sem.run_bind, Sem.run_pure, Result.andThen, invoke, k1]
              rw [hrun, Oper.uponIn_enter]
              refine ⟨fun hx => (by simp [Fr, Fence.wide] at hx), CallsIn.mono (k2 _) fun e w' he => ?_⟩
              have := hfin hp he rfl rfl
              cases e <;> exact this
        · -- of yield
          rename_i l hfv
          rw [hfv] at hf
          cases hd : round h ro l (c.args.toList.map (ev fr)) H with
          | none => rw [hd] at hs; simp [stepped] at hs
          | some res =>
            obtain ⟨v, H1⟩ := res
            rw [hd] at hs
            simp only [stepped] at hs
            cases hp : putD nt o.dst v fr with
            | none => rw [hp] at hs; cases hs
            | some fr1 =>
              rw [hp] at hs
              cases hs
              obtain ⟨L, lr, tm, k1, k2, k3⟩ := round_ok (cargs := #[] ++ c.args.map a.eval) hh hR.mem (by simpa using hcargs) hf hd (.slot (o.dst.getD 0))
              have hrun : (execOp a.eval o).run P w = .ok (.round L lr.fn tm lr.assign lr.body) w := by
                simp only [execOp, hop, resolve, hcal, k1, Deferred.ofValue, Sem.run_bind, Sem.run_pure, Result.andThen, invoke, k2]
              rw [hrun, Oper.uponIn_round]
              refine ⟨fun hx => (by simp [Fr, Fence.wide] at hx), RoundIn.mono (k3 _) fun e w' he => ?_⟩
              have := hfin hp he rfl rfl
              cases e <;> exact this
        · cases hs
      · -- no call
        rename_i hc
        cases hl : lop cx ro fn ops nm fr H (o.dst.getD 0) o.op with
        | none => rw [hl] at hs; simp [Go.Abs.effed] at hs
        | some e =>
          rw [hl] at hs
          simp only [Go.Abs.effed] at hs
          cases hp : putD nt o.dst e.v (unownT e.un fr) with
          | none => rw [hp] at hs; cases hs
          | some fr1 =>
            rw [hp] at hs
            cases hs
            obtain ⟨c, nx, w', g', h1, h2, h3, h4⟩ := hR.effed (lop_ok (nm := nm) hT hR hl) hp
            rw [Oper.semAt_eq _ _ _ (by intro c hcc; rw [hcc] at hl; simp [lop] at hl), h1]
            rcases h2 with rfl | ⟨rfl, rfl⟩
            · rw [Oper.uponIn_value]; exact hq _ _ g' h3 (put_defers _ _ _) h4
            · rw [Oper.uponIn_skip]; exact hq _ _ g' h3 (put_defers _ _ _) h4

/-- operations in the order of a list -/
theorem run_ok {cx : Cx} {k : Nat} {h : Hd} (hT : TOk P cx.T) (hh : HdOk P k h) {ro nt : Nat} {nm : Hp → Nat → Nat} {fn : FuncId} {ops : Array Oper} : ∀ (l : List Nat) {g : Gh} {fr fr' : PT} {H H' : Hp} {w : World} {a : Act} {fs : List (Nat × Fp)}, Rel g ro nt fr H a.tmps w →
    run cx h ro fn nt ops nm l fr H = some (fs, fr', H') → ∀ {r : Option Nat} {n : Nat} {Q : Exit → Act → World → Prop},
    (∀ a' w' g', Rel g' ro nt fr' H' a'.tmps w' → a'.defers = a.defers → Ev ro g w g' w' → Q .normal a' w') → wpOpsIn (Fr r) n P ops Q l a w
  | [], g, fr, fr', H, H', w, a, fs, hR, hs, r, n, Q, hq => by
    simp only [run, Option.some.injEq, Prod.mk.injEq] at hs
    obtain ⟨_, rfl, rfl⟩ := hs
    exact hq a w g hR rfl (Ev.refl _ _ _)
  | i :: l, g, fr, fr', H, H', w, a, fs, hR, hs, r, n, Q, hq => by
    simp only [run] at hs
    cases hst : step cx h ro fn nt ops (nm H i) fr H ops[i]? with
    | none => rw [hst] at hs; cases hs
    | some res =>
      obtain ⟨f, fr1, H1⟩ := res
      rw [hst] at hs
      simp only at hs
      cases ho : ops[i]? with
      | none => rw [ho] at hst; simp [step] at hst
      | some o =>
        rw [ho] at hst
        have hrest : ∃ fs', run cx h ro fn nt ops nm l fr1 H1 = some (fs', fr', H') := by
          cases hr : run cx h ro fn nt ops nm l fr1 H1 with
          | none => rw [hr] at hs; simp [cons1] at hs
          | some res => obtain ⟨fs', r'⟩ := res; rw [hr] at hs; simp only [cons1, Option.some.injEq, Prod.mk.injEq] at hs; obtain ⟨_, rfl⟩ := hs; exact ⟨fs', rfl⟩
        obtain ⟨fs', hrest⟩ := hrest
        simp only [wpOpsIn, ho]
        exact step_ok (next := wpOpsIn (Fr r) n P ops Q l) hT hh hR hst fun a1 w1 g1 h1 h2 h3 =>
          run_ok hT hh l h1 hrest fun a2 w2 g2 k1 k2 k3 => hq a2 w2 g2 k1 (k2.trans h2) (h3.trans k3)

end Go.Abs
