/- Appends, copies. -/
import Derived.Test.YtiinagmombigpaaAbs18
import Derived.ArgAppend
set_option linter.unusedVariables false
set_option linter.unusedSimpArgs false
set_option linter.unnecessarySimpa false
namespace Go.Abs
variable {P : Program} {T : TypeId → Option TI} {imm : Imm} {mu : Mu}

theorem run_append_eq {w : World} {tys : Array TypeId} {ty t t' e e' : TypeId} {args : Array Value} {s x : Value} (h1 : tys[0]? = some t) (h2 : tys[1]? = some t') (h3 : args[0]? = some s) (h4 : args[1]? = some x)
    (hu : P.underlying t = some (.slice e)) (hu' : P.underlying t' = some (.slice e')) :
    (Builtin.append_ tys ty args).run P w = (Builtin.append_ #[t, t] ty #[s, x]).run P w := by
  have e1 : (#[t, t] : Array TypeId)[0]? = some t := rfl
  have e2 : (#[t, t] : Array TypeId)[1]? = some t := rfl
  have e3 : (#[s, x] : Array Value)[0]? = some s := rfl
  have e4 : (#[s, x] : Array Value)[1]? = some x := rfl
  simp only [Builtin.append_, h1, h2, h3, h4, e1, e2, e3, e4, Sem.run_bind, run_underlying_of hu, Result.andThen]
  cases s <;> simp only [Sem.run_bind, run_underlying_of hu, run_underlying_of hu', Result.andThen, Sem.run_pure]

theorem run_append_none {w : World} {ty t e : TypeId} {x : Value} {base : Option Addr} {n cap c : Nat} {i : TypeInfo} (hu : P.underlying t = some (.slice e)) (hi : P.info? e = some i) (hn : n ≤ cap) (hx : ∃ b, x = .slice b 0 c) :
    (Builtin.append_ #[t, t] ty #[.slice base n cap, x]).run P w = .ok (.slice base n cap) w := by
  obtain ⟨b, rfl⟩ := hx
  cases b <;> cases base <;> simp [Builtin.append_, run_underlying_of hu, Result.andThen, Builtin.lenOf, hn, Builtin.firstCells, sizeOf, typeInfo, hi, loadCells, loadCellsFrom, storeCells]

/-- a new row that may grow in place -/
theorem OpOk.ownNew {ro : Nat} {g : Gh} {H : Hp} {w : World} {o : Oper} {a : Act} {un : Option Tmp} {rd : Rd} {sz cap : Nat} {e : TypeId} {els : List AV} {cs : List Value} {rest : Array Value} (hm : MR g ro H w) (hu : ∀ t, un = some t → t < 16000)
    (h : (execOp a.eval o).run P w = .ok (.value (.slice (some ⟨w.heap.size, 0, none⟩) els.length cap)) (w.drew.alloc (.cells (cs.toArray ++ rest) e)))
    (hr : VRels g.imm noMu sz els cs) (hle : els.length ≤ cap) (hsz : (cs.toArray ++ rest).size = cap * sz) : OpOk P ro g H w o a { v := .vec sz .own els, un, rd } := by
  have k := Keeps.anon hm.drew (.cells (cs.toArray ++ rest) e) (cs.toArray ++ rest) cs.length (some (.slot (o.dst.getD 0)))
  refine ⟨⟨_, _, _, g.anon w.heap.size (cs.toArray ++ rest) cs.length (some (.slot (o.dst.getD 0))), fun _ => False, h, .inl rfl, k.undrew, hm.drew.anon (cs.toArray ++ rest) e cs.length _, fun _ _ _ h => h.elim, fun _ _ _ _ h => h, fun _ _ h => h.elim, ?_⟩, hu⟩
  refine ⟨w.heap.size, cap, cs, rfl, hle, VRels.mono k.imm _ (Mu.le_refl _) hr, ?_, by simp [Gh.anon], fun of hof => ?_, _, e, heap_alloc_new w.drew _, hsz⟩
  · have := Seg.anon g w.heap.size (cs.toArray ++ rest) cs.length (some (.slot (o.dst.getD 0)))
    simpa using this
  · have := hr.length
    simp only [Gh.anon, if_true]
    rw [if_neg (by omega)]

theorem zc_size (hT : TOk P T) {e : TypeId} {te : TI} (hte : T e = some te) : ∃ i z, P.info? e = some i ∧ i.zero = some z ∧ i.size = te.size ∧ i.bytes = te.bytes ∧ z.cells.size = te.size := by
  obtain ⟨i, z, u, h1, h2, h3, h4, h5, h6, _, _, _, h10, _⟩ := hT.info hte
  exact ⟨i, z, h1, h2, h4, h5, by rw [← h10, ← h6]; simp⟩

theorem items_news {g : Gh} {ro : Nat} {H : Hp} {w : World} (hm : MR g ro H w) {sz : Nat} {x : AV} {c : Value} {xs : List AV} (hx : VR g.imm g.mu x c) (h : items sz H x = some xs) (hne : xs ≠ []) :
    ∃ (A : Addr) (cap : Nat) (cs : List Value), c = .slice (some A) xs.length cap ∧ VRels g.imm noMu sz xs cs ∧ cs.length = xs.length * sz ∧ ∀ k v, cs[k]? = some v → w.cell? (A.add k) = some v := by
  rcases items_ok hm hx h with ⟨cap, _, h2⟩ | ⟨B, o, cap, cs, h1, h2, h3⟩
  · exact absurd h2 hne
  · exact ⟨_, cap, cs, h1, h2, h2.length, fun k v hk => by rw [addr_add]; exact h3 k v hk⟩

theorem arr_app (cs : List Value) (rest : Array Value) : (cs ++ rest.toList).toArray = cs.toArray ++ rest := by apply Array.ext'; simp

theorem mul_bound {n b : Nat} (h : n * (b + 1) ≤ 2 ^ 40) : n ≤ 2 ^ 40 ∧ n * b ≤ 2 ^ 40 := by
  rw [Nat.mul_add, Nat.mul_one] at h
  omega

theorem grow_nil (hT : TOk P T) {g : Gh} {ro : Nat} {H : Hp} {w : World} (hm : MR g ro H w) {t e ty : TypeId} {te : TI} (hu : P.underlying t = some (.slice e)) (hte : T e = some te) {x : AV} {c : Value} {xs : List AV} (hx : VR g.imm g.mu x c) (h : items te.size H x = some xs) (hne : xs ≠ [])
    (hb : xs.length * (te.bytes + 1) ≤ 2 ^ 40) :
    ∃ (cap : Nat) (cs : List Value) (rest : Array Value), (Builtin.append_ #[t, t] ty #[.slice none 0 0, c]).run P w = .ok (.slice (some ⟨w.heap.size, 0, none⟩) xs.length cap) (w.drew.alloc (.cells (cs.toArray ++ rest) e)) ∧
      VRels g.imm noMu te.size xs cs ∧ xs.length ≤ cap ∧ (cs.toArray ++ rest).size = cap * te.size := by
  obtain ⟨A, cap, cs, rfl, h2, h3, h4⟩ := items_news hm hx h hne
  obtain ⟨i, z, i1, i2, i3, i4, i5⟩ := zc_size hT hte
  obtain ⟨hb1, hb2⟩ := mul_bound hb
  have hpos : 0 < xs.length := List.length_pos_iff.2 hne
  have hr := run_append_nil (P := P) w t ty e i z hu i1 i2 A xs.length cap cs (by rw [i3]; exact h3) h4 hpos (by omega) (by rw [i4]; omega)
  have hge := grownCap_ge w xs.length 0 e
  refine ⟨_, cs, _, hr, h2, hge, ?_⟩
  simp only [Array.size_append, List.size_toArray, h3, size_zeroCells, i5, ← Nat.add_mul]
  congr 1; omega

theorem grow_some (hT : TOk P T) {g : Gh} {ro : Nat} {H : Hp} {w : World} (hm : MR g ro H w) {t e ty : TypeId} {te : TI} (hu : P.underlying t = some (.slice e)) (hte : T e = some te) {x : AV} {c : Value} {xs els : List AV} (hx : VR g.imm g.mu x c) (h : items te.size H x = some xs) (hne : xs ≠ [])
    {B of cap0 : Nat} {olds : List Value} (ho : VRels g.imm noMu te.size els olds) (hs : Seg g.imm B of olds) (hcap : cap0 < els.length + xs.length) (hb : (els.length + xs.length) * (te.bytes + 1) ≤ 2 ^ 40) :
    ∃ (cap : Nat) (cs : List Value) (rest : Array Value), (Builtin.append_ #[t, t] ty #[.slice (some ⟨B, of, none⟩) els.length cap0, c]).run P w = .ok (.slice (some ⟨w.heap.size, 0, none⟩) (els ++ xs).length cap) (w.drew.alloc (.cells (cs.toArray ++ rest) e)) ∧
      VRels g.imm noMu te.size (els ++ xs) cs ∧ (els ++ xs).length ≤ cap ∧ (cs.toArray ++ rest).size = cap * te.size := by
  obtain ⟨A, cap, cs, rfl, h2, h3, h4⟩ := items_news hm hx h hne
  obtain ⟨i, z, i1, i2, i3, i4, i5⟩ := zc_size hT hte
  obtain ⟨hb1, hb2⟩ := mul_bound hb
  have hr := run_append_grow (P := P) w t ty e i z hu i1 i2 ⟨B, of, none⟩ els.length cap0 olds (by rw [i3]; exact ho.length) (fun k v hk => by rw [addr_add]; exact hm.imm _ _ _ (hs k v hk)) A xs.length cap cs (by rw [i3]; exact h3) h4 hcap (by omega)
    (growslice_fits hcap (by rw [i4]; omega))
  have hge := grownCap_ge w (els.length + xs.length) cap0 e
  refine ⟨grownCap w (els.length + xs.length) cap0 e, olds ++ cs, Builtin.zeroCells z.cells (grownCap w (els.length + xs.length) cap0 e - (els.length + xs.length)), ?_, ho.append h2, by simpa using hge, ?_⟩
  · rw [hr]; simp
  · simp only [Array.size_append, List.size_toArray, List.length_append, ho.length, h3, size_zeroCells, i5, ← Nat.add_mul]
    congr 1; omega

theorem lAppend_ok {cx : Cx} (hT : TOk P cx.T) {ro nt nm : Nat} {fn : FuncId} {g : Gh} {fr : PT} {H : Hp} {w : World} {o : Oper} {a : Act} {t t' e' : TypeId} {S X : Operand} {tys : Array TypeId} {ty : TypeId} {cs : Array Bool} {args : Array Value} {ef : Eff} (hR : Rel g ro nt fr H a.tmps w)
    (ho : (execOp a.eval o).run P w = ((do pure (.value (← Builtin.append_ tys ty args)) : Sem Next)).run P w)
    (h1 : tys[0]? = some t) (h2 : tys[1]? = some t') (h3 : args[0]? = some (a.eval S)) (h4 : args[1]? = some (a.eval X)) (hu' : P.underlying t' = some (.slice e'))
    (h : lAppend cx fn ro nm (o.dst.getD 0) fr H t S X = some ef) : OpOk P ro g H w o a ef := by
  have hm := hR.mem
  have hx := hR.eval (a := a) X
  have run1 : ∀ {e s v w'}, P.underlying t = some (.slice e) → a.eval S = s → (Builtin.append_ #[t, t] ty #[s, a.eval X]).run P w = .ok v w' → (execOp a.eval o).run P w = .ok (.value v) w' := by
    intro e s v w' hu hs hr
    subst hs
    rw [ho]
    simp only [Sem.run_bind, run_append_eq h1 h2 h3 h4 hu hu', hr, Result.andThen, Sem.run_pure]
  -- what the slice that grows is
  have hS : ∀ {sz k els}, raw fr S = .vec sz k els → (k = .own ∧ ∃ s, owner fr S = some s ∧ SR g w (.slot s) (.vec sz .own els) (a.eval S)) ∨ (k ≠ .own ∧ owner fr S = none ∧ VR g.imm g.mu (.vec sz k els) (a.eval S)) := by
    intro sz k els hv
    cases hown : owner fr S with
    | none =>
      right
      rw [raw_ev hown] at hv
      have := hR.eval (a := a) S
      rw [hv] at this
      refine ⟨?_, rfl, this⟩
      intro e; subst e; simp [VR] at this
    | some s =>
      left
      rw [raw_own hown] at hv
      obtain ⟨rfl, sz', els', he⟩ := owner_spec hown
      rw [hv] at he
      cases he
      refine ⟨rfl, s, rfl, ?_⟩
      rcases hR.slots s with hd | ⟨v, e1, e2⟩
      · rw [hd] at hv; cases hv
      · rw [hv] at e2; rw [eval_tmp e1]; exact e2
  have hlit : ∀ {v}, raw fr S = .lit v → a.eval S = v ∧ owner fr S = none := by
    intro v hv
    cases hown : owner fr S with
    | none => rw [raw_ev hown] at hv; have := hR.eval (a := a) S; rw [hv] at this; exact ⟨VR_lit this, rfl⟩
    | some s => rw [raw_own hown] at hv; obtain ⟨_, _, _, he⟩ := owner_spec hown; rw [he] at hv; cases hv
  unfold lAppend at h
  split at h
  · -- into a block
    split at h
    · rename_i els sz e hap
      split at h
      · cases h
      · rename_i hf
        cases h
        unfold aappendB at hap
        split at hap
        · rename_i e _ ht
          have hu := hT.slice ht rfl
          split at hap
          · rename_i te hte
            split at hap
            · rename_i xs hxs
              split at hap
              · rename_i hraw
                split at hap
                · rename_i hc
                  obtain ⟨c1, c2, c3, c4⟩ := hc
                  cases hap
                  have hne : els ≠ [] := by intro e; subst e; simp at c1
                  obtain ⟨cap, cs, rest, r1, r2, r3, r4⟩ := grow_nil (ty := ty) hT hm hu hte hx hxs hne c4
                  have := run1 hu (hlit hraw).1 r1
                  exact OpOk.laidB (ccs := cs) (ti := te) hm (not_false_true hf) w.drew (.inr rfl) cap r3 rest.toList (by rw [this, arr_app]) (VRels.mono (Imm.le_refl _) _ (noMu_le _) r2) (fun el hel => List.all_eq_true.1 c2 el hel) rfl
                · cases hap
              · rename_i els0 hraw
                split at hap
                · rename_i hc
                  obtain ⟨c1, c2, c3, c4, c5⟩ := hc
                  cases hap
                  have hne : xs ≠ [] := by intro e; subst e; simp at c1
                  rcases hS hraw with ⟨hk, _⟩ | ⟨_, _, hv⟩
                  · cases hk
                  · simp only [VR] at hv
                    obtain ⟨B, of, cap0, olds, e1, _, e3, e4, e5, e6⟩ := hv
                    have hpos : 0 < xs.length := List.length_pos_iff.2 hne
                    have hcap := e3 trivial
                    rw [c3] at e5
                    obtain ⟨cap, cs, rest, r1, r2, r3, r4⟩ := grow_some (ty := ty) hT hm hu hte hx hxs hne (cap0 := cap0) e5 e6 (by omega) c5
                    have := run1 hu e1 r1
                    exact OpOk.laidB (ccs := cs) (ti := te) hm (not_false_true hf) w.drew (.inr rfl) cap r3 rest.toList (by rw [this, arr_app]) (VRels.mono (Imm.le_refl _) _ (noMu_le _) r2) (fun el hel => List.all_eq_true.1 c2 el hel) rfl
                · cases hap
              · cases hap
            · cases hap
          · cases hap
        · cases hap
    · cases h
  · -- into a list
    cases hap : aappend cx.T t H (raw fr S) (ev fr X) with
    | none => rw [hap] at h; cases h
    | some v =>
      rw [hap] at h
      simp only [Option.map_some, Option.some.injEq] at h
      subst h
      have hun : ∀ t, owner fr S = some t → t < 16000 := fun t ht => hR.owner_lt ht
      unfold aappend at hap
      split at hap
      · rename_i e _ ht
        have hu := hT.slice ht rfl
        split at hap
        · rename_i te hte
          obtain ⟨i, z, i1, i2, i3, i4, i5⟩ := zc_size hT hte
          split at hap
          · rename_i hxs
            have hxe : ∃ c b, a.eval X = .slice b 0 c := by
              rcases items_ok hm hx hxs with ⟨cap, h2, _⟩ | ⟨B, of, cap, cs, h2, _, _⟩
              · exact ⟨_, _, h2⟩
              · exact ⟨_, _, h2⟩
            obtain ⟨c, hxe⟩ := hxe
            split at hap
            · rename_i hraw
              cases hap
              rw [hraw, (hlit hraw).2]
              obtain ⟨hs, _⟩ := hlit hraw
              exact OpOk.pure hm ⟨_, run1 hu hs (run_append_none hu i1 (Nat.le_refl _) hxe), by simp [VR]⟩
            · rename_i sz k els hraw
              cases hap
              rcases hS hraw with ⟨hk, s, hs, hv⟩ | ⟨hk, hs, hv⟩
              · subst hk
                obtain ⟨g', X', hk'⟩ := hR.take (a := a) hs (.slot (o.dst.getD 0))
                obtain ⟨B, cap, cs, e1, e2, _⟩ := hv
                have := run1 hu e1 (run_append_none (base := some ⟨B, 0, none⟩) (n := els.length) hu i1 e2 hxe)
                rw [← e1] at this
                rw [hs, raw_own hs]
                exact rd_irrel (hk'.opOk (hR.owner_lt hs) this)
              · rw [hs, hraw]
                have hv' := hv
                simp only [VR] at hv'
                obtain ⟨B, of, cap, cs, e1, _, _, e4, _⟩ := hv'
                refine OpOk.pure hm ⟨_, run1 hu e1 (run_append_none hu i1 e4 hxe), ?_⟩
                rw [← e1]; exact hv
            · cases hap
          · rename_i xs hnil hxs
            have hne : xs ≠ [] := fun e => hnil (by rw [← e])
            split at hap
            · rename_i hraw
              split at hap
              · rename_i hc
                cases hap
                obtain ⟨cap, cs, rest, r1, r2, r3, r4⟩ := grow_nil (ty := ty) hT hm hu hte hx hxs hne hc.2
                exact OpOk.ownNew hm hun (run1 hu (hlit hraw).1 r1) r2 r3 r4
              · cases hap
            · rename_i sz k els hraw
              split at hap
              · rename_i hc
                obtain ⟨c1, c2, c3, c4⟩ := hc
                subst c2
                cases hap
                have hpos : 0 < xs.length := List.length_pos_iff.2 hne
                rcases hS hraw with ⟨hk, s, hs, hv⟩ | ⟨hk, hs, hv⟩
                · obtain ⟨B, cap0, olds, e1, e2, e3, e4, e5, e6, ccs, e, e7, e8⟩ := hv
                  rcases Nat.lt_or_ge cap0 (els.length + xs.length) with hg | hg
                  · obtain ⟨cap, cs, rest, r1, r2, r3, r4⟩ := grow_some (ty := ty) hT hm hu hte hx hxs hne (cap0 := cap0) e3 e4 hg c4
                    exact OpOk.ownNew hm hun (run1 hu e1 r1) r2 r3 r4
                  · -- in place
                    obtain ⟨A, capx, cs, hxv, h2', h3', h4'⟩ := items_news hm hx hxs hne
                    have hroom : els.length * i.size + cs.length ≤ ccs.size := by
                      rw [e8, h3', i3, ← Nat.add_mul]; exact Nat.mul_le_mul_right _ hg
                    have hr := run_append_room_cells (P := P) w t ty _ i hu i1 B 0 els.length cap0 A xs.length capx cs (by rw [i3]; exact h3') h4' (fun u hu => h2'.ones u hu) hg
                      (fun j hj => cell_lt e7 (by omega)) (fun j hj => frozen_of_cells e7 _)
                    rw [← hxv] at hr
                    have hrun := run1 hu e1 hr
                    simp only [Nat.zero_add, i3] at hrun
                    have hol := e3.length
                    -- the new cells are known now
                    have k : Keeps g w { g with imm := fun B' of => if B' = B then (olds ++ cs)[of]? else g.imm B' of, ow := fun B' => if B' = B then some (.slot (o.dst.getD 0)) else g.ow B' } (w.setCells B (els.length * te.size) cs) (fun B' => B' = B) := by
                      refine ⟨fun B' of v hv => ?_, .refl _ _, Nat.le_of_eq (size_setCells B _ _ _).symm, fun B' _ hB' => ⟨by simp [hB'], fun _ => by simp [hB'], heap_setCells_ne B _ _ _ (Ne.symm hB')⟩, out_setCells B 0 _ _ _⟩
                      by_cases eB : B' = B
                      · subst eB
                        simp only [if_true]
                        rcases Nat.lt_or_ge of olds.length with hlt | hge
                        · rw [List.getElem?_append_left hlt]
                          have hh := e4 of _ (List.getElem?_eq_getElem hlt)
                          rw [Nat.zero_add, hv] at hh
                          rw [List.getElem?_eq_getElem hlt]; exact hh.symm
                        · rw [e6 of (by omega)] at hv; cases hv
                      · simp [eB, hv]
                    have hnm : ∀ b' B' s', g.mu b' = some (B', s') → B' ≠ B := by
                      intro b' B' s' hb' e
                      subst e
                      rcases Nat.lt_or_ge b' ro with hro | hro
                      · have := hm.prot b' B' s' hro hb'; rw [e5] at this; cases this
                      · have := hm.free b' B' s' hro hb'; rw [e5] at this; cases this
                    have hcells : ∀ y, (w.setCells B (els.length * te.size) cs).cell? ⟨B, y, none⟩ = if els.length * te.size ≤ y ∧ y < els.length * te.size + cs.length then cs[y - els.length * te.size]? else w.cell? ⟨B, y, none⟩ :=
                      fun y => cell_setCells e7 (by rw [← i3]; exact hroom) y
                    obtain ⟨ccs', hcc', hsz'⟩ := heap_setCells_cells B cs (els.length * te.size) w e7
                    refine ⟨⟨_, _, _, _, _, hrun, .inl rfl, k, ?_, ?_, ?_, ?_, ?_⟩, hun⟩
                    · refine hm.change k H.length ?_ rfl ?_ ?_ (fun _ _ => rfl) rfl ?_ ?_ ?_
                      · intro B' of v hv
                        by_cases eB : B' = B
                        · subst eB
                          simp only [if_true] at hv
                          rw [hcells]
                          rw [List.getElem?_append] at hv
                          split at hv
                          · rename_i hlt
                            rw [if_neg (by omega)]
                            have hh := e4 of v hv
                            rw [Nat.zero_add] at hh
                            exact hm.imm _ _ _ hh
                          · rename_i hge
                            have hlt := (List.getElem?_eq_some_iff.1 hv).1
                            rw [if_pos (by omega), ← hol]; exact hv
                        · simp only [eB, if_false] at hv
                          rw [cell_of_heap (heap_setCells_ne B _ _ _ (Ne.symm eB))]
                          exact hm.imm B' of v hv
                      · intro B' l hl
                        rw [size_setCells]
                        by_cases eB : B' = B
                        · rw [eB]; exact hm.owlt B _ e5
                        · simp only [eB, if_false] at hl; exact hm.owlt B' l hl
                      · intro b' B' s' hb'; simp [hnm b' B' s' hb']
                      · intro b' B' s' _ hb' e; exact hnm b' B' s' hb' e
                      · intro b' B' i' j' _ hB' e; subst e; rw [e5] at hB'; cases hB'
                      · intro blk hblk
                        have hblk : H[H.length]? = some blk := hblk
                        simp at hblk
                    · intro t' B' hB' e; subst e; rw [e5] at hB'; cases hB'; exact hs
                    · intro B' l hB' hl e; subst e; rw [e5] at hB'; cases hB'; exact hl
                    · intro L lr e hl; subst e; rw [e7] at hl; cases hl
                    · refine ⟨B, cap0, olds ++ cs, by simp, by simpa using hg, VRels.mono k.imm _ (Mu.le_refl _) (e3.append h2'), ?_, by simp, ?_, ccs', _, hcc', by rw [hsz']; exact e8⟩
                      · intro y v hv; simp only [Nat.zero_add, if_true]; exact hv
                      · intro of hof
                        simp only [if_true]
                        rw [List.getElem?_eq_none]
                        simp only [List.length_append, Nat.add_mul] at hof ⊢
                        omega
                · have hv' := hv
                  simp only [VR] at hv'
                  obtain ⟨B, of, cap0, olds, e1, _, e3, e4, e5, e6⟩ := hv'
                  have hkx : k = .exact := by cases k <;> simp_all
                  have hcap := e3 hkx
                  obtain ⟨cap, cs, rest, r1, r2, r3, r4⟩ := grow_some (ty := ty) hT hm hu hte hx hxs hne (cap0 := cap0) e5 e6 (by omega) c4
                  exact OpOk.ownNew hm hun (run1 hu e1 r1) r2 r3 r4
              · cases hap
            · cases hap
          · cases hap
        · cases hap
      · cases hap

end Go.Abs
