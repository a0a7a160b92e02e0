/- No step makes the heap shorter. -/
import Derived.Test.YtiinagmombigpaaAbs35
set_option linter.unusedVariables false
set_option linter.unusedSimpArgs false
set_option linter.unnecessarySimpa false
namespace Go.Abs

structure Grow (h : Hd) : Prop where
  call : ∀ {ro f args H v H'}, h.call ro f args H = some (v, H') → H.length ≤ H'.length
  loop : ∀ {ro fn nt c fr H e fr' H'}, h.loop ro fn nt c fr H = some (e, fr', H') → H.length ≤ H'.length
  code : ∀ {ro fn nt c fr H e fr' H'}, h.code ro fn nt c fr H = some (e, fr', H') → H.length ≤ H'.length

theorem grow_none : Grow Hd.none := ⟨fun h => (by cases h), fun h => (by cases h), fun h => by cases h⟩

theorem putB_grow (H : Hp) (u : Option (Nat × ABlock)) : H.length ≤ (putB H u).length := by
  cases u with
  | none => exact Nat.le_refl _
  | some p =>
    obtain ⟨b, blk⟩ := p
    simp only [putB]
    split <;> simp

theorem endRound_grow {l : Nat} {r : Option Res} {v : AV} {H' : Hp} {n : Nat} (h : endRound l r = some (v, H')) (hr : ∀ e fr H, r = some (e, fr, H) → n ≤ H.length) : n ≤ H'.length := by
  unfold endRound at h
  split at h
  · rename_i e fr H
    split at h
    · cases h; have := hr _ _ _ rfl; simpa using this
    · cases h
  · cases h

theorem round_grow {h : Hd} (G : Grow h) {ro l : Nat} {args : List AV} {H H' : Hp} {v : AV} (hs : round h ro l args H = some (v, H')) : H.length ≤ H'.length := by
  unfold round at hs
  split at hs
  · cases hs
  · split at hs
    · rename_i r hb
      split at hs
      · unfold bodyRound at hs
        split at hs
        · rename_i fr1 H1 hc
          have h1 := G.code hc
          split at hs
          · split at hs
            · refine endRound_grow hs fun e fr2 H2 h2 => ?_
              have := G.code h2
              simp at this
              omega
            · cases hs
          · cases hs
        · cases hs
      · cases hs
    · cases hs

theorem docall_grow {h : Hd} (G : Grow h) {ro : Nat} {g : FuncId} {args : List AV} {H H' : Hp} {v : AV} {w : Way} (hs : docall h ro g args H w = some (v, H')) : H.length ≤ H'.length := by
  have hp : ∀ {r : Option (AV × Hp)} {n : Nat}, purely r n H = some (v, H') → H.length ≤ H'.length := fun {r n} h => by
    unfold purely at h
    split at h <;> cases h
    exact Nat.le_refl _
  cases w with
  | pure => exact hp hs
  | quiet => exact hp hs
  | full => exact G.call hs

theorem stepped_grow {nt : Nat} {ops : Array Oper} {o : Oper} {fr fr' : PT} {rd wr : Rd} {r : Option (AV × Hp)} {f : Fp} {H' : Hp} {n : Nat} (h : stepped nt ops o fr rd wr r = some (f, fr', H')) (hr : ∀ v H, r = some (v, H) → n ≤ H.length) : n ≤ H'.length := by
  unfold stepped at h
  split at h
  · rename_i v H1
    cases hp : putD nt o.dst v fr with
    | none => rw [hp] at h; cases h
    | some fr1 => rw [hp] at h; cases h; exact hr _ _ rfl
  · cases h

theorem step_grow {cx : Cx} {h : Hd} (G : Grow h) {ro nt nm : Nat} {fn : FuncId} {ops : Array Oper} {fr fr' : PT} {H H' : Hp} {oo : Option Oper} {f : Fp} (hs : step cx h ro fn nt ops nm fr H oo = some (f, fr', H')) : H.length ≤ H'.length := by
  cases oo with
  | none => cases hs
  | some o =>
    simp only [step] at hs
    cases hw : wants ops fr o with
    | none => rw [hw] at hs; cases hs
    | some b =>
      rw [hw] at hs
      cases b with
      | false =>
        simp only [stepG] at hs
        exact stepped_grow hs fun v H1 h1 => by cases h1; exact Nat.le_refl _
      | true =>
        simp only [stepG] at hs
        unfold stepO at hs
        split at hs
        · unfold calls at hs
          split at hs
          · exact stepped_grow hs fun v H1 h1 => docall_grow G h1
          · exact stepped_grow hs fun v H1 h1 => round_grow G h1
          · cases hs
        · cases hl : lop cx ro fn ops nm fr H (o.dst.getD 0) o.op with
          | none => rw [hl] at hs; cases hs
          | some e =>
            rw [hl] at hs
            simp only [effed] at hs
            cases hp : putD nt o.dst e.v (unownT e.un fr) with
            | none => rw [hp] at hs; cases hs
            | some fr1 => rw [hp] at hs; cases hs; exact putB_grow _ _

theorem run_cons {cx : Cx} {h : Hd} {ro nt : Nat} {fn : FuncId} {ops : Array Oper} {nm : Hp → Nat → Nat} {i : Nat} {l : List Nat} {fr fr' : PT} {H H' : Hp} {fs : List (Nat × Fp)} (hr : run cx h ro fn nt ops nm (i :: l) fr H = some (fs, fr', H')) :
    ∃ f fr1 H1 fs1, step cx h ro fn nt ops (nm H i) fr H ops[i]? = some (f, fr1, H1) ∧ run cx h ro fn nt ops nm l fr1 H1 = some (fs1, fr', H') ∧ fs = (i, f) :: fs1 := by
  simp only [run] at hr
  cases hst : step cx h ro fn nt ops (nm H i) fr H ops[i]? with
  | none => rw [hst] at hr; cases hr
  | some res =>
    obtain ⟨f, fr1, H1⟩ := res
    rw [hst] at hr
    simp only at hr
    cases hr2 : run cx h ro fn nt ops nm l fr1 H1 with
    | none => rw [hr2] at hr; cases hr
    | some res2 =>
      obtain ⟨fs1, fr2, H2⟩ := res2
      rw [hr2] at hr
      simp only [cons1, Option.some.injEq, Prod.mk.injEq] at hr
      obtain ⟨rfl, rfl, rfl⟩ := hr
      exact ⟨f, fr1, H1, fs1, rfl, hr2, rfl⟩

theorem run_grow {cx : Cx} {h : Hd} (G : Grow h) {ro nt : Nat} {fn : FuncId} {ops : Array Oper} {nm : Hp → Nat → Nat} : ∀ (l : List Nat) {fr fr' : PT} {H H' : Hp} {fs : List (Nat × Fp)}, run cx h ro fn nt ops nm l fr H = some (fs, fr', H') → H.length ≤ H'.length
  | [], fr, fr', H, H', fs, hr => by simp only [run] at hr; cases hr; exact Nat.le_refl _
  | i :: l, fr, fr', H, H', fs, hr => by
    obtain ⟨f, fr1, H1, fs1, h1, h2, _⟩ := run_cons hr
    exact Nat.le_trans (step_grow G h1) (run_grow G l h2)

theorem region_grow {cx : Cx} {h : Hd} (G : Grow h) {ro nt : Nat} {fn : FuncId} {ops : Array Oper} {fr fr' : PT} {H H' : Hp} {draw : Bool} (hr : region cx h ro fn nt ops fr H draw = some (fr', H')) : H.length ≤ H'.length := by
  cases draw with
  | true =>
    simp only [region] at hr
    split at hr
    · unfold ranAny at hr
      split at hr
      · rename_i fs r hrun
        split at hr
        · cases hr
          have := run_grow G _ hrun
          simp at this
          omega
        · cases hr
      · cases hr
    · cases hr
  | false =>
    simp only [region] at hr
    unfold ranOnly at hr
    split at hr
    · rename_i fs r hrun
      cases hr
      exact run_grow G _ hrun
    · cases hr

theorem ex_grow {cx : Cx} {h : Hd} (G : Grow h) {ro nt : Nat} {fn : FuncId} : ∀ (c : Code) {fr fr' : PT} {H H' : Hp} {e : Ex}, ex cx h ro fn nt c fr H = some (e, fr', H') → H.length ≤ H'.length
  | .skip, fr, fr', H, H', e, hx => by simp only [ex] at hx; cases hx; exact Nat.le_refl _
  | .label _, fr, fr', H, H', e, hx => by simp only [ex] at hx; cases hx; exact Nat.le_refl _
  | .region id ops draw, fr, fr', H, H', e, hx => by
    simp only [ex] at hx
    cases hr : region cx h ro fn nt ops fr H draw with
    | none => rw [hr] at hx; cases hx
    | some res => obtain ⟨fr1, H1⟩ := res; rw [hr] at hx; simp only [normR] at hx; cases hx; exact region_grow G hr
  | .seq x y, fr, fr', H, H', e, hx => by
    simp only [ex] at hx
    cases ha : ex cx h ro fn nt x fr H with
    | none => rw [ha] at hx; cases hx
    | some res =>
      obtain ⟨e1, fr1, H1⟩ := res
      rw [ha] at hx
      have h1 := ex_grow G x ha
      cases e1 with
      | normal => simp only [thenR] at hx; exact Nat.le_trans h1 (ex_grow G y hx)
      | exit id => simp only [thenR] at hx; cases hx; exact h1
      | ret => simp only [thenR] at hx; cases hx; exact h1
  | .cond c x y, fr, fr', H, H', e, hx => by
    simp only [ex] at hx
    unfold condR at hx
    split at hx
    · exact ex_grow G x hx
    · exact ex_grow G y hx
    · cases hx
  | .block id x, fr, fr', H, H', e, hx => by
    simp only [ex] at hx
    cases ha : ex cx h ro fn nt x fr H with
    | none => rw [ha] at hx; cases hx
    | some res =>
      obtain ⟨e1, fr1, H1⟩ := res
      rw [ha] at hx
      have h1 := ex_grow G x ha
      cases e1 with
      | normal => simp only [blockR] at hx; cases hx; exact h1
      | exit id => simp only [blockR] at hx; cases hx; exact h1
      | ret => simp only [blockR] at hx; cases hx; exact h1
  | .loop x, fr, fr', H, H', e, hx => by simp only [ex] at hx; exact G.loop hx
  | .rangeFunc f ps assign body, fr, fr', H, H', e, hx => by
    simp only [ex] at hx
    unfold ranged at hx
    split at hx
    · unfold endLoop at hx
      split at hx
      · rename_i v H1 hc
        have := G.call hc
        simp at this
        split at hx
        · split at hx
          · cases hx
          · cases hx; simp; omega
        · cases hx
      · cases hx
    · cases hx
  | .exit id, fr, fr', H, H', e, hx => by simp only [ex] at hx; cases hx; exact Nat.le_refl _
  | .ret, fr, fr', H, H', e, hx => by simp only [ex] at hx; cases hx; exact Nat.le_refl _
  | .scope x, fr, fr', H, H', e, hx => by simp only [ex] at hx; exact ex_grow G x hx
  | .goto _, fr, fr', H, H', e, hx => by simp only [ex] at hx; cases hx
  | .refuse _, fr, fr', H, H', e, hx => by simp only [ex] at hx; cases hx

theorem loopB_grow {cx : Cx} {h : Hd} (G : Grow h) {ro nt : Nat} {fn : FuncId} {c : Code} {fr fr' : PT} {H H' : Hp} {e : Ex} (hx : loopB cx h ro fn nt c fr H = some (e, fr', H')) : H.length ≤ H'.length := by
  unfold loopB at hx
  cases ha : ex cx h ro fn nt c fr H with
  | none => rw [ha] at hx; cases hx
  | some res =>
    obtain ⟨e1, fr1, H1⟩ := res
    rw [ha] at hx
    have h1 := ex_grow G c ha
    cases e1 with
    | normal =>
      simp only [thenR, trimmed] at hx
      split at hx
      · exact Nat.le_trans h1 (G.loop hx)
      · have := G.loop hx
        simp at this
        omega
    | exit id => simp only [thenR] at hx; cases hx; exact h1
    | ret => simp only [thenR] at hx; cases hx; exact h1

theorem resAll_heap {cx : Cx} {fr : PT} {H H' : Hp} {rs : List ResultVar} {v : AV} (h : resAll cx fr H rs = some (v, H')) : H' = H := by
  unfold resAll at h
  split at h
  · rename_i r
    cases h1 : resOne cx fr H r with
    | none => rw [h1] at h; cases h
    | some x => rw [h1] at h; cases h; rfl
  · cases h1 : rs.mapM (resOne cx fr H) with
    | none => rw [h1] at h; cases h
    | some x => rw [h1] at h; cases h; rfl

theorem callB_grow {cx : Cx} {h : Hd} (G : Grow h) {ro : Nat} {f : FuncId} {args : List AV} {H H' : Hp} {v : AV} (hx : callB cx h ro f args H = some (v, H')) : H.length ≤ H'.length := by
  unfold callB at hx
  cases hf : cx.fns f with
  | none => rw [hf] at hx; cases hx
  | some fn =>
    rw [hf] at hx
    simp only [funced] at hx
    cases hb : fn.body with
    | none => rw [hb] at hx; cases hx
    | some c =>
      rw [hb] at hx
      simp only [bodied] at hx
      split at hx
      · unfold returned at hx
        split at hx
        · cases hx
        · rename_i e fr1 H1 _ he
          rw [resAll_heap hx]
          exact ex_grow G c he
        · cases hx
      · cases hx

theorem lvl_grow (cx : Cx) : ∀ k, Grow (lvl cx k)
  | 0 => grow_none
  | k + 1 => ⟨fun h => callB_grow (lvl_grow cx k) h, fun h => loopB_grow (lvl_grow cx k) h, fun h => ex_grow (lvl_grow cx k) _ h⟩

end Go.Abs
