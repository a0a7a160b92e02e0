/- Results; calls of functions; every level of fuel. -/
import Derived.Test.YtiinagmombigpaaAbs30
set_option linter.unusedVariables false
set_option linter.unusedSimpArgs false
set_option linter.unnecessarySimpa false
namespace Go.Abs
variable {P : Program}

/-- one result, as the model reads it -/
def resC (tm : Array Value) : ResultVar → Sem Value
  | .tmp t => pure (tm.getD t undef)
  | .cell a t => do loadVar t (← asAddr (tm.getD a undef))

theorem resOne_ok {cx : Cx} (hT : TOk P cx.T) {g : Gh} {ro nt : Nat} {fr : PT} {H : Hp} {tm : Array Value} {w : World} (hR : Rel g ro nt fr H tm w) {r : ResultVar} {v : AV} (h : resOne cx fr H r = some v) :
    ∃ c, (resC tm r).run P w = .ok c w ∧ VR g.imm g.mu (drp v) c ∧ ((∃ t, r = .tmp t ∧ v = fr.get t ∧ c = tm.getD t undef) ∨ VR g.imm g.mu v c) := by
  cases r with
  | tmp t =>
    simp only [resOne, Option.some.injEq] at h
    subst h
    refine ⟨tm.getD t undef, rfl, ?_, .inl ⟨t, rfl, rfl, rfl⟩⟩
    rw [← drp_shr]; exact (hR.slot_VR t).drp
  | cell a t =>
    simp only [resOne] at h
    have ha := hR.slot_VR a
    have hev : ev fr (.tmp a) = shr (fr.get a) := rfl
    rw [hev] at h
    obtain ⟨c, h1, h2⟩ := aload_ok (P := P) hT hR.mem ha h
    refine ⟨c, ?_, h2.drp, .inr h2⟩
    simp only [resC]
    simp only [Instr.loadAt] at h1
    cases hv : tm.getD a undef with
    | pointer p =>
      rw [hv] at h1
      cases p with
      | none => simp [Instr.sureAddr, stuck, Sem.run] at h1
      | some p => simpa [Instr.sureAddr, asAddr] using h1
    | _ => rw [hv] at h1; simp [Instr.sureAddr, stuck, Sem.run] at h1

theorem resList_ok {cx : Cx} (hT : TOk P cx.T) {g : Gh} {ro nt : Nat} {fr : PT} {H : Hp} {tm : Array Value} {w : World} (hR : Rel g ro nt fr H tm w) : ∀ (rs : List ResultVar) {vs : List AV}, rs.mapM (resOne cx fr H) = some vs →
    ∃ cs : List Value, (rs.mapM (resC tm)).run P w = .ok cs w ∧ VRs g.imm g.mu (vs.map drp) cs ∧ cs.length = rs.length
  | [], vs, h => by
    simp at h; subst h
    exact ⟨[], rfl, by simp [VRs], rfl⟩
  | r :: rs, vs, h => by
    simp only [List.mapM_cons] at h
    cases h1 : resOne cx fr H r with
    | none => rw [h1] at h; simp at h
    | some v =>
      rw [h1] at h
      simp only [Option.bind_eq_bind, Option.bind_some] at h
      cases h2 : rs.mapM (resOne cx fr H) with
      | none => rw [h2] at h; simp at h
      | some vs' =>
        rw [h2] at h
        simp at h
        subst h
        obtain ⟨c, k1, k2, _⟩ := resOne_ok (P := P) hT hR h1
        obtain ⟨cs, k3, k4, k5⟩ := resList_ok hT hR rs h2
        refine ⟨c :: cs, ?_, ?_, by simp [k5]⟩
        · simp only [List.mapM_cons, Sem.run_bind, k1, k3, Result.andThen, Sem.run_pure]
        · simp only [List.map_cons, VRs]; exact ⟨c, cs, rfl, k2, k4⟩

theorem results_ok {cx : Cx} (hT : TOk P cx.T) {fn : Func} {g : Gh} {ro nt : Nat} {fr : PT} {H H' : Hp} {tm : Array Value} {w : World} (hR : Rel g ro nt fr H tm w) {v : AV} (h : resAll cx fr H fn.results.toList = some (v, H')) :
    H' = H ∧ ∃ c g', (results fn tm).run P w = .ok c w ∧ MR g' ro H w ∧ Ev ro g w g' w ∧ SR g' w .res v c := by
  have hres : results fn tm = (do let vs ← fn.results.mapM (resC tm); pure (if h : vs.size = 1 then vs[0] else .tuple vs)) := by
    unfold results
    congr 1
  have hmap : ∀ {cs : List Value}, (fn.results.toList.mapM (resC tm)).run P w = .ok cs w → (results fn tm).run P w = .ok (if h : cs.toArray.size = 1 then cs.toArray[0] else .tuple cs.toArray) w := by
    intro cs hcs
    rw [hres, Array.mapM_eq_mapM_toList]
    simp only [Sem.run_bind, Sem.run_map, hcs, Result.andThen, Sem.run_pure]
  cases hrs : fn.results.toList with
  | nil =>
    rw [hrs] at h
    simp only [resAll, List.mapM_nil] at h
    simp at h
    obtain ⟨rfl, rfl⟩ := h
    refine ⟨rfl, .tuple #[], g, ?_, hR.mem, Ev.refl _ _ _, undef_tup.sr⟩
    have := hmap (cs := []) (by rw [hrs]; rfl)
    simpa using this
  | cons r rest =>
    cases rest with
    | nil =>
      rw [hrs] at h
      simp only [resAll] at h
      cases h1 : resOne cx fr H r with
      | none => rw [h1] at h; simp at h
      | some v' =>
        rw [h1] at h
        simp only [Option.map_some, Option.some.injEq, Prod.mk.injEq] at h
        obtain ⟨rfl, rfl⟩ := h
        obtain ⟨c, k1, _, k3⟩ := resOne_ok (P := P) hT hR h1
        have hrun : (results fn tm).run P w = .ok c w := by
          have := hmap (cs := [c]) (by rw [hrs]; simp only [List.mapM_cons, List.mapM_nil, Sem.run_bind, k1, Result.andThen, Sem.run_pure])
          simpa using this
        refine ⟨rfl, ?_⟩
        rcases k3 with ⟨t, rfl, rfl, rfl⟩ | k3
        · rcases hR.slots t with hd | ⟨u, e1, e2⟩
          · exact ⟨_, g, hrun, hR.mem, Ev.refl _ _ _, by rw [hd]; exact VR.sr (by simp [VR])⟩
          · cases hown : isOwn (fr.get t) with
            | false =>
              have : tm.getD t undef = u := by rw [Array.getD_eq_getD_getElem?, e1]; rfl
              exact ⟨_, g, hrun, hR.mem, Ev.refl _ _ _, by rw [this]; exact ((SR_notOwn hown).1 e2).sr⟩
            | true =>
              obtain ⟨sz, els, he⟩ := isOwn_spec hown
              have ho : owner fr (.tmp t) = some t := by simp [owner, he]
              obtain ⟨g', X, hk⟩ := Rel.take (a := { tmps := tm, defers := [] }) hR ho .res
              refine ⟨_, g', hrun, hk.mem, hk.keeps.ev hR.mem.owlt (fun B l hB hl hX => ?_) (fun L lr hX hl => ?_), hk.sr⟩
              · rw [(hk.only B hX).1] at hB; cases hB; exact hl
              · obtain ⟨_, ccs, e, hc⟩ := hk.only L hX
                rw [hc] at hl; cases hl
        · exact ⟨c, g, hrun, hR.mem, Ev.refl _ _ _, k3.sr⟩
    | cons r2 rest =>
      rw [hrs] at h
      simp only [resAll] at h
      cases h1 : (r :: r2 :: rest).mapM (resOne cx fr H) with
      | none => rw [h1] at h; simp at h
      | some vs =>
        rw [h1] at h
        simp only [Option.map_some, Option.some.injEq, Prod.mk.injEq] at h
        obtain ⟨rfl, rfl⟩ := h
        obtain ⟨cs, k1, k2, k3⟩ := resList_ok (P := P) hT hR _ h1
        refine ⟨rfl, .tuple cs.toArray, g, ?_, hR.mem, Ev.refl _ _ _, ?_⟩
        · have := hmap (cs := cs) (by rw [hrs]; exact k1)
          rw [dif_neg (by simp [k3])] at this
          exact this
        · refine VR.sr ?_
          simp only [VR]
          exact ⟨cs, rfl, k2⟩

/-- the functions of the table are the program's -/
def FOk (P : Program) (cx : Cx) : Prop := ∀ f fn, cx.fns f = some fn → P.funcs[f]? = some fn ∧ (fn.name == "runtime.NumGoroutine") = false

theorem callB_ok {cx : Cx} {k : Nat} {h : Hd} (hT : TOk P cx.T) (hF : FOk P cx) (hh : HdOk P k h) (hre : Reorders P cx h) {ro : Nat} {f : FuncId} {args : List AV} {H : Hp} {v : AV} {H' : Hp} (hx : callB cx h ro f args H = some (v, H')) :
    (∀ (w : World) (cargs : Array Value), (callFunc f cargs).run P w = .ok (.enter f cargs) w) ∧
    ∀ {g : Gh} {w : World} {cargs : Array Value}, MR g ro H w → VRs g.imm g.mu args cargs.toList → ∀ n, CallsIn Fence.wide n P f cargs w (CallPost ro H' v g w) := by
  unfold callB at hx
  cases hfn : cx.fns f with
  | none => rw [hfn] at hx; cases hx
  | some fn =>
    rw [hfn] at hx
    obtain ⟨hP, hname⟩ := hF f fn hfn
    simp only [funced] at hx
    cases hb : fn.body with
    | none => rw [hb] at hx; cases hx
    | some c =>
      rw [hb] at hx
      simp only [bodied] at hx
      split at hx
      · rename_i hlen
        obtain ⟨hl1, hl2⟩ := hlen
        constructor
        · intro w cargs
          have hn2 : ¬ fn.name = "runtime.NumGoroutine" := by simpa using hname
          simp [callFunc, hP, hn2, hb, Result.andThen]
        · intro g w cargs hm ha n
          cases he : ex cx h ro f fn.ntmps c (setArgs ((List.range args.length).zip args) .nil) H with
          | none => rw [he] at hx; cases hx
          | some res =>
            obtain ⟨e, fr1, H1⟩ := res
            rw [he] at hx
            have hR := Rel.enter hm ha hl1 hl2
            refine callsIn_of_wp_marks hP hb trivial ?_
            refine ex_ok hT hh hre c he none n w.heap.size g _ w hR (.nil (Nat.le_refl _)) (fun L hL => by cases hL) _ fun a1 w1 g1 h1 h2 h3 => ?_
            have hfin : ∀ {v H'}, resAll cx fr1 H1 fn.results.toList = some (v, H') → LeavesInM Fence.wide n P fn a1.tmps (CallPost ro H' v g w) a1.defers .returning w1 := by
              intro v H' hr
              obtain ⟨_, rs, m1, m2, m3⟩ := h2
              rw [m1]
              refine marks_ok (n0 := w.heap.size) (g0 := g) (w0 := w) (fun B l hB => hm.owlt B l hB) (fun L lr hL => (Array.getElem?_eq_some_iff.1 hL).1) rs h1 m2 m3 h3 fun w2 k1 k2 => ?_
              obtain ⟨rfl, c', g', q1, q2, q3, q4⟩ := results_ok (P := P) hT k1 hr
              exact ⟨c', q1, g', q2, k2.trans q3, q4⟩
            cases e with
            | exit id => simp [returned] at hx
            | normal => exact hfin hx
            | ret => exact hfin hx
      · cases hx

theorem lvl_ok {cx : Cx} (hT : TOk P cx.T) (hF : FOk P cx) (hre : ∀ k, Reorders P cx (lvl cx k)) : ∀ k, HdOk P k (lvl cx k)
  | 0 => hdOk_none
  | k + 1 => ⟨fun hx => callB_ok hT hF (lvl_ok hT hF hre k) (hre _) hx, fun hx => loopB_ok hT (lvl_ok hT hF hre k) (hre _) hx, fun hx => ex_ok hT (lvl_ok hT hF hre k) (hre _) _ hx⟩

end Go.Abs
