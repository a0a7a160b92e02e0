/- Steps whose footprints are apart go in either order. -/
import Derived.Test.YtiinagmombigpaaAbs34
set_option linter.unusedVariables false
set_option linter.unusedSimpArgs false
set_option linter.unnecessarySimpa false
namespace Go.Abs

def setL : List (Tmp × AV) → PT → PT
  | [], fr => fr
  | (t, x) :: l, fr => setL l (fr.set t x)

theorem setL_get : ∀ (l : List (Tmp × AV)) {fr : PT} {t : Tmp}, (∀ p ∈ l, p.1 ≠ t) → (setL l fr).get t = fr.get t
  | [], fr, t, h => rfl
  | (s, x) :: l, fr, t, h => by
    simp only [setL]
    rw [setL_get l fun p hp => h p (by simp [hp]), PT.get_set_ne (h (s, x) (by simp))]
theorem setL_set : ∀ (l : List (Tmp × AV)) {fr : PT} {t : Tmp} {x : AV}, (∀ p ∈ l, p.1 ≠ t) → setL l (fr.set t x) = (setL l fr).set t x
  | [], fr, t, x, h => rfl
  | (s, y) :: l, fr, t, x, h => by
    simp only [setL]
    rw [PT.set_comm _ _ _ (Ne.symm (h (s, y) (by simp))), setL_set l fun p hp => h p (by simp [hp])]
theorem setL_comm : ∀ (l l' : List (Tmp × AV)) {fr : PT}, (∀ p ∈ l, ∀ q ∈ l', p.1 ≠ q.1) → setL l (setL l' fr) = setL l' (setL l fr)
  | l, [], fr, h => rfl
  | l, (t, x) :: l', fr, h => by
    simp only [setL]
    rw [setL_comm l l' fun p hp q hq => h p hp q (by simp [hq]), setL_set l fun p hp => h p hp (t, x) (by simp)]

inductive HU where
  | up (u : Option (Nat × ABlock))
  | all (H' : Hp)
def HU.app : HU → Hp → Hp
  | .up none, H => H
  | .up (some (b, blk)), H => H.set b blk
  | .all H', _ => H'

def HU.fits (f : Fp) (H : Hp) : HU → Prop
  | .up none => f.wr = .no ∧ f.tk = .no
  | .up (some (b, blk)) => b < H.length ∧ ((f.wr = .one b ∧ f.tk = .no) ∨ (f.wr = .no ∧ f.tk = .one b ∧ Near H[b]? (some blk)))
  | .all _ => f.rd = .all ∧ f.wr = .all ∧ f.tk = .no

structure AgreeF (f : Fp) (H H' : Hp) : Prop where
  all : f.rd = .all → H' = H
  one : ∀ b, f.rd = .one b → Near H[b]? H'[b]?
  wr : ∀ b, f.wr = .one b ∨ f.tk = .one b → H'[b]? = H[b]?

/-- a step, wherever what it looks at is the same -/
def Local (cx : Cx) (h : Hd) (ro : Nat) (fn nt : Nat) (ops : Array Oper) (nm : Nat) (fr : PT) (H : Hp) (oo : Option Oper) (f : Fp) (W : List (Tmp × AV)) (u : HU) : Prop :=
  (∀ p ∈ W, p.1 ∈ f.ws) ∧ u.fits f H ∧
  ∀ fr2 H2, (∀ t ∈ f.rs, fr2.get t = fr.get t) → AgreeF f H H2 → step cx h ro fn nt ops nm fr2 H2 oo = some (f, setL W fr2, u.app H2)

theorem putD_setL {nt : Nat} {dst : Option Tmp} {v : AV} {fr fr' : PT} (h : putD nt dst v fr = some fr') :
    fr' = setL (dst.toList.map fun d => (d, v)) fr ∧ ∀ fr2, putD nt dst v fr2 = some (setL (dst.toList.map fun d => (d, v)) fr2) := by
  cases dst with
  | none => simp only [putD] at h; cases h; exact ⟨rfl, fun _ => rfl⟩
  | some d =>
    simp only [putD] at h
    split at h
    · rename_i hd
      cases h
      exact ⟨rfl, fun fr2 => by simp only [putD]; rw [if_pos hd]; rfl⟩
    · cases h

theorem wants_local {ops : Array Oper} {fr fr2 : PT} {o : Oper} (h : ∀ t ∈ tmpsOf ops o, fr2.get t = fr.get t) : wants ops fr2 o = wants ops fr o := by
  unfold wants
  cases hg : o.guard with
  | none => rfl
  | some p =>
    obtain ⟨j, want⟩ := p
    simp only
    cases hd : (ops[j]?).bind (·.dst) with
    | none => rfl
    | some d =>
      simp only
      rw [h d (by simp [tmpsOf, hg, hd])]

theorem sees_of {ops : Array Oper} {fr fr2 : PT} {o : Oper} (h : ∀ t ∈ tmpsOf ops o, fr2.get t = fr.get t) : ∀ x ∈ o.op.operands, Sees fr fr2 x := by
  intro x hx
  refine Sees.of fun t ht => h t ?_
  subst ht
  simp only [tmpsOf, List.mem_append, List.mem_filterMap]
  exact .inl ⟨.tmp t, by simpa using hx, rfl⟩

theorem callee_ops {op : Op} {f : Operand} {args : List Operand} (h : calleeOf op = some (f, args)) : f ∈ op.operands ∧ ∀ x ∈ args, x ∈ op.operands := by
  unfold calleeOf at h
  split at h
  · rename_i c
    split at h
    · rename_i f' hc
      cases h
      simp only [Op.operands, Call.operands, hc, Array.mem_append]
      exact ⟨.inl (by simp), fun x hx => .inr (by simpa using hx)⟩
    · cases h
  · cases h

theorem unownT_setL (un : Option Tmp) (fr : PT) : unownT un fr = setL (un.toList.map fun t => (t, shr (fr.get t))) fr := by
  cases un <;> rfl
theorem setL_append : ∀ (l l' : List (Tmp × AV)) (fr : PT), setL (l ++ l') fr = setL l' (setL l fr)
  | [], l', fr => rfl
  | (t, x) :: l, l', fr => by simp only [List.cons_append, setL]; exact setL_append l l' _

theorem fits_no {f : Fp} {H : Hp} (h1 : f.wr = .no) (h2 : f.tk = .no) : (HU.up none).fits f H := ⟨h1, h2⟩

theorem step_local {cx : Cx} {h : Hd} {ro nt nm : Nat} {fn : FuncId} {ops : Array Oper} {fr fr' : PT} {H H' : Hp} {oo : Option Oper} {f : Fp} (hs : step cx h ro fn nt ops nm fr H oo = some (f, fr', H'))
    (hnm : ∀ o, oo = some o → isAlloc cx fn o = true → nm < H.length) : ∃ W u, fr' = setL W fr ∧ H' = u.app H ∧ Local cx h ro fn nt ops nm fr H oo f W u := by
  cases oo with
  | none => cases hs
  | some o =>
    simp only [step] at hs
    cases hw : wants ops fr o with
    | none => rw [hw] at hs; cases hs
    | some b =>
      rw [hw] at hs
      have hwl : ∀ fr2, (∀ t ∈ tmpsOf ops o, fr2.get t = fr.get t) → wants ops fr2 o = some b := fun fr2 h2 => by rw [wants_local h2, hw]
      cases b with
      | false =>
        simp only [stepG, stepped] at hs
        cases hp : putD nt o.dst (.tup []) fr with
        | none => rw [hp] at hs; cases hs
        | some fr1 =>
          rw [hp] at hs
          cases hs
          obtain ⟨h1, h2⟩ := putD_setL hp
          refine ⟨_, .up none, h1, rfl, ?_, fits_no rfl rfl, fun fr2 H2 hr A => ?_⟩
          · intro p hp; simp only [List.mem_map] at hp; obtain ⟨d, hd, rfl⟩ := hp; exact hd
          · simp only [step, hwl fr2 hr, stepG, stepped, h2 fr2]; rfl
      | true =>
        simp only [stepG] at hs
        have hstep : ∀ fr2 H2, (∀ t ∈ tmpsOf ops o, fr2.get t = fr.get t) → step cx h ro fn nt ops nm fr2 H2 (some o) = stepO cx h ro fn nt ops nm fr2 H2 o := fun fr2 H2 h2 => by
          simp only [step, hwl fr2 h2, stepG]
        unfold stepO at hs
        split at hs
        · -- a call
          rename_i g args hc
          obtain ⟨hg, hargs⟩ := callee_ops hc
          have hsees : ∀ fr2, (∀ t ∈ tmpsOf ops o, fr2.get t = fr.get t) → ev fr2 g = ev fr g ∧ args.map (ev fr2) = args.map (ev fr) := fun fr2 h2 =>
            ⟨(sees_of h2 g hg).ev, sees_list fun x hx => sees_of h2 x (hargs x hx)⟩
          have hfin : ∀ {v : AV} {H1 : Hp} {rd wr : Rd} (u : HU), stepped nt ops o fr rd wr (some (v, H1)) = some (f, fr', H') → H1 = u.app H →
              u.fits ⟨tmpsOf ops o, o.dst.toList, rd, wr, .no⟩ H →
              (∀ fr2 H2, (∀ t ∈ tmpsOf ops o, fr2.get t = fr.get t) → AgreeF ⟨tmpsOf ops o, o.dst.toList, rd, wr, .no⟩ H H2 → stepO cx h ro fn nt ops nm fr2 H2 o = stepped nt ops o fr2 rd wr (some (v, u.app H2))) →
              ∃ W u, fr' = setL W fr ∧ H' = u.app H ∧ Local cx h ro fn nt ops nm fr H (some o) f W u := by
            intro v H1 rd wr u hst hH1 hfit hloc
            simp only [stepped] at hst
            cases hp : putD nt o.dst v fr with
            | none => rw [hp] at hst; cases hst
            | some fr1 =>
              rw [hp] at hst
              cases hst
              obtain ⟨h1, h2⟩ := putD_setL hp
              refine ⟨_, u, h1, hH1, ?_, hfit, fun fr2 H2 hr A => ?_⟩
              · intro p hp; simp only [List.mem_map] at hp; obtain ⟨d, hd, rfl⟩ := hp; exact hd
              · rw [hstep fr2 H2 hr, hloc fr2 H2 hr A]
                simp only [stepped, h2 fr2]; rfl
          have hst2 : ∀ fr2 H2, (∀ t ∈ tmpsOf ops o, fr2.get t = fr.get t) → stepO cx h ro fn nt ops nm fr2 H2 o = calls cx h ro nt ops o fr2 H2 (ev fr g) (args.map (ev fr)) := fun fr2 H2 h2 => by
            unfold stepO
            rw [hc]
            simp only
            rw [(hsees fr2 h2).1, (hsees fr2 h2).2]
          unfold calls at hs
          split at hs
          · rename_i f0 cap hfv
            cases hway : way cx f0 (args.map (ev fr) ++ cap) with
            | pure =>
              rw [hway] at hs
              cases hd : docall h ro f0 (args.map (ev fr) ++ cap) H .pure with
              | none => rw [hd] at hs; simp [stepped] at hs
              | some res =>
                obtain ⟨v, H1⟩ := res
                rw [hd] at hs
                simp only [docall] at hd
                cases hcall : h.call 0 f0 ((args.map (ev fr) ++ cap).map cl2) [] with
                | none => rw [hcall] at hd; simp [purely] at hd
                | some res2 =>
                  obtain ⟨v2, H3⟩ := res2
                  rw [hcall] at hd
                  simp only [purely, Option.some.injEq, Prod.mk.injEq] at hd
                  obtain ⟨hv, rfl⟩ := hd
                  refine hfin (.up none) hs rfl (fits_no rfl rfl) fun fr2 H2 hr A => ?_
                  rw [hst2 fr2 H2 hr, hfv]
                  simp only [calls, hway, docall, hcall, purely, hv]
                  rfl
            | quiet =>
              rw [hway] at hs
              cases hd : docall h ro f0 (args.map (ev fr) ++ cap) H .quiet with
              | none => rw [hd] at hs; simp [stepped] at hs
              | some res =>
                obtain ⟨v, H1⟩ := res
                rw [hd] at hs
                have hH1 : H1 = H := by
                  simp only [docall] at hd
                  cases hcall : h.call H.length f0 ((args.map (ev fr) ++ cap).map drp) H with
                  | none => rw [hcall] at hd; simp [purely] at hd
                  | some res2 => obtain ⟨v2, H3⟩ := res2; rw [hcall] at hd; simp only [purely, Option.some.injEq, Prod.mk.injEq] at hd; exact hd.2.symm
                refine hfin (.up none) hs hH1 (fits_no rfl rfl) fun fr2 H2 hr A => ?_
                have : H2 = H := A.all rfl
                subst this
                rw [hst2 fr2 H2 hr, hfv]
                simp only [calls, hway, hd, hH1]
                rfl
            | full =>
              rw [hway] at hs
              cases hd : docall h ro f0 (args.map (ev fr) ++ cap) H .full with
              | none => rw [hd] at hs; simp [stepped] at hs
              | some res =>
                obtain ⟨v, H1⟩ := res
                rw [hd] at hs
                refine hfin (.all H1) hs rfl ⟨rfl, rfl, rfl⟩ fun fr2 H2 hr A => ?_
                have : H2 = H := A.all rfl
                subst this
                rw [hst2 fr2 H2 hr, hfv]
                simp only [calls, hway, hd]
                rfl
          · rename_i l hfv
            cases hd : round h ro l (args.map (ev fr)) H with
            | none => rw [hd] at hs; simp [stepped] at hs
            | some res =>
              obtain ⟨v, H1⟩ := res
              rw [hd] at hs
              refine hfin (.all H1) hs rfl ⟨rfl, rfl, rfl⟩ fun fr2 H2 hr A => ?_
              have : H2 = H := A.all rfl
              subst this
              rw [hst2 fr2 H2 hr, hfv]
              simp only [calls, hd]
              rfl
          · cases hs
        · -- no call
          rename_i hc
          cases hl : lop cx ro fn ops nm fr H (o.dst.getD 0) o.op with
          | none => rw [hl] at hs; cases hs
          | some e =>
            rw [hl] at hs
            simp only [effed] at hs
            cases hp : putD nt o.dst e.v (unownT e.un fr) with
            | none => rw [hp] at hs; cases hs
            | some fr1 =>
              rw [hp] at hs
              cases hs
              obtain ⟨h1, h2⟩ := putD_setL hp
              have hF := lop_facts hl
              have hup : ∀ b blk, e.up = some (b, blk) → b < H.length := fun b blk hb => by
                rcases hF.up b blk hb with h | ⟨h, ha⟩
                · exact h
                · rw [h]; exact hnm o rfl ha
              refine ⟨(e.un.toList.map fun t => (t, shr (fr.get t))) ++ (o.dst.toList.map fun d => (d, e.v)), .up e.up, ?_, ?_, ?_, ?_, fun fr2 H2 hr A => ?_⟩
              · rw [setL_append, ← unownT_setL]; exact h1
              · cases hu : e.up with
                | none => rfl
                | some p =>
                  obtain ⟨b, blk⟩ := p
                  simp only [putB, HU.app]
                  rw [if_neg (by have := hup b blk hu; omega)]
              · intro p hp
                simp only [List.mem_append, List.mem_map] at hp ⊢
                rcases hp with ⟨t, ht, rfl⟩ | ⟨t, ht, rfl⟩
                · exact .inr ht
                · exact .inl ht
              · cases hu : e.up with
                | none =>
                  refine fits_no ?_ ?_
                  · simp only [hu]; split <;> rfl
                  · simp only [hu]; split <;> rfl
                | some p =>
                  obtain ⟨b, blk⟩ := p
                  refine ⟨hup b blk hu, ?_⟩
                  cases htk : e.tk with
                  | false => exact .inl ⟨by simp [hu, htk, blockOf], by simp [htk]⟩
                  | true =>
                    obtain ⟨b', blk', k1, k2⟩ := hF.tk htk
                    rw [hu] at k1; cases k1
                    exact .inr ⟨by simp [htk], by simp [hu, htk, blockOf], k2⟩
              · have hlop : lop cx ro fn ops nm fr2 H2 (o.dst.getD 0) o.op = some e := by
                  rw [lop_congr (sees_of hr)]
                  refine lop_local hl ⟨A.all, A.one, fun b blk hb => ⟨hup b blk hb, A.wr b ?_⟩⟩
                  simp only [hb, blockOf]
                  cases e.tk with
                  | false => exact .inl rfl
                  | true => exact .inr rfl
                rw [hstep fr2 H2 hr]
                unfold stepO
                rw [hc]
                simp only [hlop, effed]
                have hun : unownT e.un fr2 = setL (e.un.toList.map fun t => (t, shr (fr.get t))) fr2 := by
                  rw [unownT_setL]
                  cases hu : e.un with
                  | none => rfl
                  | some t =>
                    have : fr2.get t = fr.get t := hr t (by
                      simp only [tmpsOf, List.mem_append, List.mem_filterMap]
                      exact .inl ⟨.tmp t, by simpa using hF.un t hu, rfl⟩)
                    simp only [Option.toList_some, List.map_cons, List.map_nil, this]
                rw [h2, hun, setL_append]
                have hH : putB H2 e.up = (HU.up e.up).app H2 := by
                  cases hu : e.up with
                  | none => rfl
                  | some p =>
                    obtain ⟨b, blk⟩ := p
                    simp only [putB, HU.app]
                    have h3 : H2[b]? = H[b]? := A.wr b (by
                      simp only [hu, blockOf]
                      cases e.tk with
                      | false => exact .inl rfl
                      | true => exact .inr rfl)
                    have h4 : b < H2.length := by
                      have : (H2[b]?).isSome = true := by rw [h3]; simp [hup b blk hu]
                      simpa using this
                    rw [if_neg (by omega)]
                simp only [Option.map_some, hH]

theorem meets_no {r s : Rd} (h : r.meets s = false) : r = .no ∨ s = .no ∨ ∃ a b, r = .one a ∧ s = .one b ∧ a ≠ b := by
  cases r <;> cases s <;> simp_all [Rd.meets]

structure ApartS (f g : Fp) : Prop where
  w1 : ∀ t ∈ f.ws, t ∉ g.rs ∧ t ∉ g.ws
  w2 : ∀ t ∈ g.ws, t ∉ f.rs
  wr : f.wr.meets g.rd = false
  ww : f.wr.meets g.wr = false
  rw : f.rd.meets g.wr = false
  wt : f.wr.meets g.tk = false
  tw : f.tk.meets g.wr = false
  tt : f.tk.meets g.tk = false
  ta : g.rd = .all → f.tk = .no
  at' : f.rd = .all → g.tk = .no
theorem apart_spec {f g : Fp} (h : f.apart g = true) : ApartS f g := by
  unfold Fp.apart at h
  simp only [Bool.and_eq_true, List.all_eq_true, Bool.not_eq_true', List.contains_eq_mem, decide_eq_false_iff_not] at h
  obtain ⟨⟨⟨⟨⟨⟨⟨⟨⟨h1, h2⟩, h3⟩, h4⟩, h5⟩, h6⟩, h7⟩, h8⟩, h9⟩, h10⟩ := h
  refine ⟨h1, h2, h3, h4, h5, h6, h7, h8, fun h => ?_, fun h => ?_⟩
  · rw [h] at h9; simpa using h9
  · rw [h] at h10; simpa using h10

theorem app_len {u : HU} {f : Fp} {H : Hp} (hf : u.fits f H) (hw : f.wr ≠ .all) : (u.app H).length = H.length := by
  cases u with
  | up u => cases u with
    | none => rfl
    | some p => simp [HU.app]
  | all H' => exact absurd hf.2.1 hw

/-- what a step leaves as it was -/
theorem app_other {u : HU} {f : Fp} {H H0 : Hp} {b : Nat} (hf : u.fits f H0) (h1 : f.wr.meets (.one b) = false) (h2 : f.tk.meets (.one b) = false) : (u.app H)[b]? = H[b]? := by
  cases u with
  | up u => cases u with
    | none => rfl
    | some p =>
      obtain ⟨c, blk⟩ := p
      obtain ⟨h3, h4⟩ := hf
      simp only [HU.app]
      rw [List.getElem?_set_ne]
      rcases h4 with ⟨h4, _⟩ | ⟨_, h4, _⟩
      · rw [h4] at h1; simpa [Rd.meets] using h1
      · rw [h4] at h2; simpa [Rd.meets] using h2
  | all H' => rw [hf.2.1] at h1; simp [Rd.meets] at h1

theorem app_none {u : HU} {f : Fp} {H H0 : Hp} (hf : u.fits f H0) (h1 : f.wr = .no) (h2 : f.tk = .no) : u.app H = H := by
  cases u with
  | up u => cases u with
    | none => rfl
    | some p =>
      obtain ⟨c, blk⟩ := p
      obtain ⟨h3, h4⟩ := hf
      rcases h4 with ⟨h4, _⟩ | ⟨_, h4, _⟩
      · rw [h1] at h4; cases h4
      · rw [h2] at h4; cases h4
  | all H' => rw [hf.2.1] at h1; cases h1

theorem meets_comm (a b : Rd) : a.meets b = b.meets a := by
  cases a <;> cases b <;> simp [Rd.meets, Bool.beq_comm]

/-- the heap behind another step agrees for a step that is apart from it: H0 is where u was found to fit, at the block in question the same as H -/
theorem agree_app {u : HU} {f g : Fp} {H : Hp} (hf : u.fits f H) (hall : g.rd = .all → f.wr = .no ∧ f.tk = .no) (hone : ∀ b, g.rd = .one b → f.wr.meets (.one b) = false)
    (hw : ∀ b, g.wr = .one b ∨ g.tk = .one b → f.wr.meets (.one b) = false ∧ f.tk.meets (.one b) = false) : AgreeF g H (u.app H) := by
  refine ⟨fun h => app_none hf (hall h).1 (hall h).2, fun b h => ?_, fun b h => app_other hf (hw b h).1 (hw b h).2⟩
  have h1 := hone b h
  by_cases h2 : f.tk.meets (.one b) = false
  · exact .inl (app_other hf h1 h2)
  · cases u with
    | up u => cases u with
      | none => exact .inl rfl
      | some p =>
        obtain ⟨c, blk⟩ := p
        obtain ⟨h3, h4⟩ := hf
        rcases h4 with ⟨_, h4⟩ | ⟨_, h4, h5⟩
        · rw [h4] at h2; simp [Rd.meets] at h2
        · rw [h4] at h2
          simp only [Rd.meets, Bool.not_eq_false, beq_iff_eq] at h2
          subst h2
          simp only [HU.app]
          rw [List.getElem?_set_self h3]
          exact h5
    | all H' => rw [hf.2.1] at h1; simp [Rd.meets] at h1

theorem AgreeF.symm {f : Fp} {H H' : Hp} (h : AgreeF f H H') : AgreeF f H' H :=
  ⟨fun k => (h.all k).symm, fun b k => (h.one b k).symm, fun b k => (h.wr b k).symm⟩

theorem app_comm {u v : HU} {f g : Fp} {H0 H1 H : Hp} (hu : u.fits f H0) (hv : v.fits g H1) (hw : f.wr.meets g.wr = false) (hwt : f.wr.meets g.tk = false) (htw : f.tk.meets g.wr = false) (htt : f.tk.meets g.tk = false) :
    u.app (v.app H) = v.app (u.app H) := by
  cases u with
  | all H' =>
    have h1 : f.wr = .all := hu.2.1
    rw [h1] at hw hwt
    have h2 : g.wr = .no := by cases hg : g.wr <;> rw [hg] at hw <;> first | rfl | (simp [Rd.meets] at hw)
    have h3 : g.tk = .no := by cases hg : g.tk <;> rw [hg] at hwt <;> first | rfl | (simp [Rd.meets] at hwt)
    rw [app_none (H := H) hv h2 h3, app_none (H := (HU.all H').app H) hv h2 h3]
  | up u =>
    cases v with
    | all H' =>
      have h1 : g.wr = .all := hv.2.1
      rw [h1] at hw htw
      have h2 : f.wr = .no := by cases hg : f.wr <;> rw [hg] at hw <;> first | rfl | (simp [Rd.meets] at hw)
      have h3 : f.tk = .no := by cases hg : f.tk <;> rw [hg] at htw <;> first | rfl | (simp [Rd.meets] at htw)
      rw [app_none (H := H) hu h2 h3, app_none (H := (HU.all H').app H) hu h2 h3]
    | up v =>
      cases u with
      | none => rfl
      | some p =>
        cases v with
        | none => rfl
        | some q =>
          obtain ⟨b, x⟩ := p
          obtain ⟨c, y⟩ := q
          obtain ⟨_, hu⟩ := hu
          obtain ⟨_, hv⟩ := hv
          have hne : c ≠ b := by
            intro e
            subst e
            rcases hu with ⟨a1, a2⟩ | ⟨a1, a2, _⟩ <;> rcases hv with ⟨b1, b2⟩ | ⟨b1, b2, _⟩
            · rw [a1, b1] at hw; simp [Rd.meets] at hw
            · rw [a1, b2] at hwt; simp [Rd.meets] at hwt
            · rw [a2, b1] at htw; simp [Rd.meets] at htw
            · rw [a2, b2] at htt; simp [Rd.meets] at htt
          simp only [HU.app]
          exact List.set_comm _ _ hne

theorem meets_no_left {r : Rd} (s : Rd) (h : r = .no) : r.meets s = false := by subst h; cases s <;> rfl
theorem meets_all {r : Rd} (h : r.meets .all = false) : r = .no := by cases r <;> first | rfl | (simp [Rd.meets] at h)
theorem meets_all' {r : Rd} (h : Rd.meets .all r = false) : r = .no := by cases r <;> first | rfl | (simp [Rd.meets] at h)

theorem swap {cx : Cx} {h : Hd} {ro nt n m : Nat} {fn : FuncId} {ops : Array Oper} {fr fr1 fr2 : PT} {H H1 H2 : Hp} {x y : Option Oper} {f g : Fp}
    (hx : step cx h ro fn nt ops n fr H x = some (f, fr1, H1)) (hy : step cx h ro fn nt ops m fr1 H1 y = some (g, fr2, H2)) (hap : f.apart g = true)
    (hn : ∀ o, x = some o → isAlloc cx fn o = true → n < H.length) (hm : ∀ o, y = some o → isAlloc cx fn o = true → m < H1.length) :
    ∃ fr3 H3, step cx h ro fn nt ops m fr H y = some (g, fr3, H3) ∧ step cx h ro fn nt ops n fr3 H3 x = some (f, fr2, H2) := by
  obtain ⟨W, u, rfl, rfl, hW, hu, hX⟩ := step_local hx hn
  obtain ⟨V, v, rfl, rfl, hV, hv, hY⟩ := step_local hy hm
  have A := apart_spec hap
  have h1 : AgreeF g H (u.app H) := by
    refine agree_app hu (fun k => ⟨?_, A.ta k⟩) (fun b k => ?_) fun b k => ?_
    · have := A.wr; rw [k] at this; exact meets_all this
    · have := A.wr; rw [k] at this; exact this
    · rcases k with k | k
      · exact ⟨by have := A.ww; rw [k] at this; exact this, by have := A.tw; rw [k] at this; exact this⟩
      · exact ⟨by have := A.wt; rw [k] at this; exact this, by have := A.tt; rw [k] at this; exact this⟩
  have s1 := hY fr H (fun t ht => (setL_get W fun p hp e => (A.w1 p.1 (hW p hp)).1 (e ▸ ht)).symm) h1.symm
  refine ⟨_, _, s1, ?_⟩
  have hv0 : v.fits g H := by
    cases v with
    | up v => cases v with
      | none => exact hv
      | some p =>
        obtain ⟨b, blk⟩ := p
        obtain ⟨k1, k2⟩ := hv
        have hb : (u.app H)[b]? = H[b]? := by
          rcases k2 with ⟨k2, _⟩ | ⟨_, k2, _⟩
          · exact h1.wr b (.inl k2)
          · exact h1.wr b (.inr k2)
        refine ⟨?_, ?_⟩
        · have : (H[b]?).isSome = true := by rw [← hb]; simp [k1]
          simpa using this
        · rw [← hb]; exact k2
    | all H' => exact hv
  have h2 : AgreeF f H (v.app H) := by
    refine agree_app hv0 (fun k => ⟨?_, A.at' k⟩) (fun b k => ?_) fun b k => ?_
    · have := A.rw; rw [k] at this; exact meets_all' this
    · have := A.rw; rw [k, meets_comm] at this; exact this
    · rcases k with k | k
      · exact ⟨by have := A.ww; rw [k, meets_comm] at this; exact this, by have := A.wt; rw [k, meets_comm] at this; exact this⟩
      · exact ⟨by have := A.tw; rw [k, meets_comm] at this; exact this, by have := A.tt; rw [k, meets_comm] at this; exact this⟩
  have s2 := hX (setL V fr) (v.app H) (fun t ht => setL_get V fun p hp e => A.w2 p.1 (hV p hp) (e ▸ ht)) h2
  rw [s2, setL_comm W V fun p hp q hq e => (A.w1 p.1 (hW p hp)).2 (e ▸ hV q hq), app_comm hu hv0 A.ww A.wt A.tw A.tt]

end Go.Abs
