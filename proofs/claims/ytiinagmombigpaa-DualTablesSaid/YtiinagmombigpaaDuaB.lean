/- dual.Table. -/
import Derived.Test.YtiinagmombigpaaDuaA
import Derived.Test.YtiinagmombigpaaGraF
set_option linter.unusedSimpArgs false
set_option linter.unusedVariables false
set_option linter.unnecessarySimpa false

/- dual.Table. -/
set_option linter.unusedVariables false
namespace Go.Abs.Tab
open Go.Gr
theorem chkA_good {N : Int} : ∀ {l : List Nd} {i : Nat}, chkA N i l = none → ∀ x ∈ l, shp x = true ∧ opn N x = false
  | [], _, _, x, hx => by cases hx
  | y :: ys, i, h, x, hx => by
    simp only [chkA] at h
    split at h
    · cases h
    · rename_i h1
      split at h
      · cases h
      · rename_i h2
        rcases List.mem_cons.1 hx with rfl | hx
        · exact ⟨by simpa using h1, by simpa using h2⟩
        · exact chkA_good h x hx
structure Good (ns : List Nd) : Prop where
  pos : 1 ≤ ns.length
  le : ns.length ≤ 64
  sh : ∀ x ∈ ns, shp x = true
  cl : ∀ x ∈ ns, opn ns.length x = false
  nb : chkB ns ns.length 0 = (-1, 0)
theorem chk_good {ns : List Nd} (h : (chk ns).2 = 0) : Good ns := by
  unfold chk at h
  split at h
  · exact absurd h (show (2 : Int) ≠ 0 by decide)
  · split at h
    · exact absurd h (show (4 : Int) ≠ 0 by decide)
    · cases hc : chkA ns.length 0 ns with
      | some r => rw [hc] at h; exact absurd h (chkA_ne hc)
      | none =>
        rw [hc] at h
        have hg := chkA_good hc
        exact ⟨by omega, by omega, fun x hx => (hg x hx).1, fun x hx => (hg x hx).2, chkB_zero h⟩
theorem shp_kind {x : Nd} (h : shp x = true) : 0 ≤ x.kind ∧ x.kind ≤ 5 := by
  unfold shp at h
  simp only [Bool.and_eq_true] at h
  exact inB_iff.1 h.1.1.1.1.1
theorem halves_mk {ro : Nat} {H : Hp} (hro : ro ≤ H.length) (n : Int) : callB cx D ro 122 [iv n] H = some (.fn 158 [.ptr H.length 0 0], H ++ [.cells 1 3 [iv n]]) := by
  obtain ⟨m, hm⟩ : ∃ m, H.length = m := ⟨_, rfl⟩
  have c1 : ∀ j, ro ≤ m + j := fun j => by omega
  rw [hm] at hro ⊢
  rw [c122]
  simp -implicitDefEqProofs (maxDischargeDepth := 4) only [go_sem, ↓reduceIte, Nat.reduceLT, Nat.reduceAdd, Nat.reduceMul, Nat.reduceSub, Nat.reduceEqDiff, Nat.reduceLeDiff, Nat.reduceBEq, reduceCtorEq, Int.reduceLT, Int.reduceLE, Int.reduceEq, Int.reduceNe, Nat.reducePow, elAt_eq, stV_eq, cellsB_cells, hp_get_r, hp_get_r0, hp_get_l, hp_set_r, hp_set_r0, hp_set_l, hp_one, hp_ne, List.drop_succ_cons, List.drop_zero, List.take_succ_cons, List.take_zero, hm, hro, c1]
/-- the dual table of a table that may be -/
structure DualOk (ns : List Nd) (v : AV) (n1 n2 : List Nd) : Prop where
  sl : Sl 6 v ((n1 ++ n2).map nodeV)
  l1 : n1.length = ns.length
  l2 : n2.length = ns.length
  h1 : ∀ (j : Nat) (x y : Nd), ns[j]? = some x → n1[j]? = some y → half [0, 1, 2, 3, 4, 5] 0 x y
  h2 : ∀ (j : Nat) (x y : Nd), ns[j]? = some x → n2[j]? = some y → half [0, 2, 1, 4, 3, 5] ns.length x y
theorem table_bad {ns : List Nd} {a : AV} (hns : NsOk ns a) (h0 : ¬ (chk ns).2 = 0) : ∃ H', callB cx D 0 54 [a] [] = some (.lit (.slice none 0 0), H') := by
  have h48 := chk_ok hns
  unfold errV at h48
  have ea : elP false 1 a 0 = some a := elP_Sl hns.sl
  rw [c54]
  simp -implicitDefEqProofs (maxDischargeDepth := 4) only [go_sem, ↓reduceIte, Nat.reduceLT, Nat.reduceAdd, Nat.reduceMul, Nat.reduceSub, Nat.reduceEqDiff, Nat.reduceLeDiff, Nat.reduceBEq, reduceCtorEq, Int.reduceLT, Int.reduceLE, Int.reduceEq, Int.reduceNe, Nat.reducePow, elAt_eq, stV_eq, cellsB_cells, hp_get_r, hp_get_r0, hp_get_l, hp_set_r, hp_set_r0, hp_set_l, hp_one, hp_ne, List.drop_succ_cons, List.drop_zero, List.take_succ_cons, List.take_zero, hns.sl.shr, hns.sl.notOwn, hns.sl.drp, hns.sl.fitA, hns.sl.shut1, ea, h48, h0, Nat.zero_le, Nat.le_refl]
  exact ⟨_, rfl⟩
theorem table_call {ns : List Nd} {a : AV} (hns : NsOk ns a) (h0 : (chk ns).2 = 0) : ∃ v H' n1 n2, callB cx D 0 54 [a] [] = some (v, H') ∧ DualOk ns v n1 n2 := by
  have h48 := chk_ok hns
  unfold errV at h48
  have ea : elP false 1 a 0 = some a := elP_Sl hns.sl
  have hg := chk_good h0
  rw [h0] at h48
  have hk : ∀ x ∈ ns, (0 ≤ x.kind ∧ x.kind ≤ 5) ∧ x.es.length ≤ 8 := fun x hx => ⟨shp_kind (hg.sh x hx), shp_len (hg.sh x hx)⟩
  have hmk := halves_mk (ro := 0) (H := [.cells 1 56 [a], .cells 1 56 [.lit (.slice none 0 0)]]) (Nat.zero_le _) ns.length
  obtain ⟨fr0, e0, k1⟩ : ∃ fr0 : PT, ex cx D 0 54 46 (.region 0 g54_0 false) (PT.nil.set 0 (drp a)) [] = some (.normal, fr0, [.cells 1 56 [a]]) ∧ fr0.get 1 = .ptr 0 0 0 := by
    simp -implicitDefEqProofs (maxDischargeDepth := 4) only [go_sem, ↓reduceIte, Nat.reduceLT, Nat.reduceAdd, Nat.reduceMul, Nat.reduceSub, Nat.reduceEqDiff, Nat.reduceLeDiff, Nat.reduceBEq, reduceCtorEq, Int.reduceLT, Int.reduceLE, Int.reduceEq, Int.reduceNe, Nat.reducePow, elAt_eq, stV_eq, cellsB_cells, hp_get_r, hp_get_r0, hp_get_l, hp_set_r, hp_set_r0, hp_set_l, hp_one, hp_ne, List.drop_succ_cons, List.drop_zero, List.take_succ_cons, List.take_zero, hns.sl.shr, hns.sl.notOwn, hns.sl.drp, hns.sl.fitA, Nat.zero_le, Nat.le_refl]
    exact ⟨_, rfl, by simp -implicitDefEqProofs (maxDischargeDepth := 4) only [go_sem, ↓reduceIte, Nat.reduceLT, Nat.reduceAdd, Nat.reduceMul, Nat.reduceSub, Nat.reduceEqDiff, Nat.reduceLeDiff, Nat.reduceBEq, reduceCtorEq, Int.reduceLT, Int.reduceLE, Int.reduceEq, Int.reduceNe, Nat.reducePow]⟩
  obtain ⟨fr1, e1, j1⟩ : ∃ fr1 : PT, ex cx D 0 54 46 (.seq (.region 1 g54_1 false) (.seq (.region 2 g54_2 false) (.cond (.tmp 17) (.seq (.region 3 g54_3 false) .ret) .skip))) fr0 [.cells 1 56 [a]] = some (.normal, fr1, [.cells 1 56 [a]]) ∧ fr1.get 1 = .ptr 0 0 0 := by
    simp -implicitDefEqProofs (maxDischargeDepth := 4) only [go_sem, ↓reduceIte, Nat.reduceLT, Nat.reduceAdd, Nat.reduceMul, Nat.reduceSub, Nat.reduceEqDiff, Nat.reduceLeDiff, Nat.reduceBEq, reduceCtorEq, Int.reduceLT, Int.reduceLE, Int.reduceEq, Int.reduceNe, Nat.reducePow, elAt_eq, stV_eq, cellsB_cells, hp_get_r, hp_get_r0, hp_get_l, hp_set_r, hp_set_r0, hp_set_l, hp_one, hp_ne, List.drop_succ_cons, List.drop_zero, List.take_succ_cons, List.take_zero, k1, hns.sl.shr, hns.sl.notOwn, hns.sl.drp, hns.sl.shut1, ea, h48]
    exact ⟨_, rfl, by simp -implicitDefEqProofs (maxDischargeDepth := 4) only [go_sem, ↓reduceIte, Nat.reduceLT, Nat.reduceAdd, Nat.reduceMul, Nat.reduceSub, Nat.reduceEqDiff, Nat.reduceLeDiff, Nat.reduceBEq, reduceCtorEq, Int.reduceLT, Int.reduceLE, Int.reduceEq, Int.reduceNe, Nat.reducePow, k1]⟩
  obtain ⟨fr2, e2, f1, f5, f20⟩ : ∃ fr2 : PT, ex cx D 0 54 46 (.seq (.region 4 g54_4 false) (.region 5 g54_5 false)) fr1 [.cells 1 56 [a]] = some (.normal, fr2, [.cells 1 56 [a], .cells 1 56 [.lit (.slice none 0 0)], .cells 1 3 [iv ns.length]]) ∧ fr2.get 1 = .ptr 0 0 0 ∧ fr2.get 5 = .ptr 1 0 0 ∧ fr2.get 20 = .fn 158 [.ptr 2 0 0] := by
    simp -implicitDefEqProofs (maxDischargeDepth := 4) only [go_sem, ↓reduceIte, Nat.reduceLT, Nat.reduceAdd, Nat.reduceMul, Nat.reduceSub, Nat.reduceEqDiff, Nat.reduceLeDiff, Nat.reduceBEq, reduceCtorEq, Int.reduceLT, Int.reduceLE, Int.reduceEq, Int.reduceNe, Nat.reducePow, elAt_eq, stV_eq, cellsB_cells, hp_get_r, hp_get_r0, hp_get_l, hp_set_r, hp_set_r0, hp_set_l, hp_one, hp_ne, List.drop_succ_cons, List.drop_zero, List.take_succ_cons, List.take_zero, j1, hns.sl.shr, hns.sl.notOwn, hns.sl.drp, alen_sl hns.sl, List.length_map, ea, hmk, Nat.zero_le, Nat.le_refl]
    exact ⟨_, rfl, by simp -implicitDefEqProofs (maxDischargeDepth := 4) only [go_sem, ↓reduceIte, Nat.reduceLT, Nat.reduceAdd, Nat.reduceMul, Nat.reduceSub, Nat.reduceEqDiff, Nat.reduceLeDiff, Nat.reduceBEq, reduceCtorEq, Int.reduceLT, Int.reduceLE, Int.reduceEq, Int.reduceNe, Nat.reducePow, j1], by simp -implicitDefEqProofs (maxDischargeDepth := 4) only [go_sem, ↓reduceIte, Nat.reduceLT, Nat.reduceAdd, Nat.reduceMul, Nat.reduceSub, Nat.reduceEqDiff, Nat.reduceLeDiff, Nat.reduceBEq, reduceCtorEq, Int.reduceLT, Int.reduceLE, Int.reduceEq, Int.reduceNe, Nat.reducePow], by simp -implicitDefEqProofs (maxDischargeDepth := 4) only [go_sem, ↓reduceIte, Nat.reduceLT, Nat.reduceAdd, Nat.reduceMul, Nat.reduceSub, Nat.reduceEqDiff, Nat.reduceLeDiff, Nat.reduceBEq, reduceCtorEq, Int.reduceLT, Int.reduceLE, Int.reduceEq, Int.reduceNe, Nat.reducePow]⟩
  obtain ⟨G', n1, n2, v', q1, ql, B, hv, l1, l2, hh1, hh2⟩ := halves_call hns hk hg.le (G := [.cells 1 56 [a], .cells 1 56 [.lit (.slice none 0 0)], .cells 1 3 [iv ns.length], .loop (lp54 (fr2.map drp) .ready)]) rfl
    ⟨rfl, rfl, rfl, _, rfl, by rw [get_mapdrp, f1]; rfl, by rw [get_mapdrp, f5]; rfl⟩
  have q1' : D.call 0 158 [.yld 3, .ptr 2 0 0] [.cells 1 56 [a], .cells 1 56 [.lit (.slice none 0 0)], .cells 1 3 [iv ns.length], .loop (lp54 (fr2.map drp) .ready)] = some (.tup [], G') := by rw [den_call_eq]; exact q1
  obtain ⟨rfr, hl3, _, _, _⟩ := B.st .ready
  have q3 : ex cx D 0 54 46 (.block 0 (.rangeFunc (.tmp 20) #[21, 22] q54_1 r54_1)) fr2 [.cells 1 56 [a], .cells 1 56 [.lit (.slice none 0 0)], .cells 1 3 [iv ns.length]] = some (.normal, fr2, G'.set 3 (.loop { lp54 rfr .ready with state := .exhausted })) := by
    have : ex cx D 0 54 46 (.rangeFunc (.tmp 20) #[21, 22] q54_1 r54_1) fr2 [.cells 1 56 [a], .cells 1 56 [.lit (.slice none 0 0)], .cells 1 3 [iv ns.length]] = endLoop 3 fr2 (some (.tup [], G')) := by
      rw [x_range, ev_tmp, f20, shr_fn, ranged_fn, ← q1']; rfl
    rw [x_block, this, endLoop_eq hl3 (show LS.ready ≠ LS.busy by decide)]; rfl
  have b1 : (G'.set 3 (.loop { lp54 rfr .ready with state := .exhausted }))[1]? = some (.cells 1 56 [v']) := by rw [hp_ne (by decide), B.b1]
  obtain ⟨_, _, p4, p5⟩ := x_split e2
  obtain ⟨G4, hG4⟩ : ∃ G4, G'.set 3 (.loop { lp54 rfr .ready with state := .exhausted }) = G4 := ⟨_, rfl⟩
  rw [hG4] at q3 b1
  have run : callB cx D 0 54 [a] [] = some (shr v', G4) := by
    rw [c54, x_cont1 e0, x_cont1 e1, x_cont1 p4, x_assoc, x_cont1 p5, x_cont1 q3]
    rcases hv with rfl | ⟨rfl, _⟩ <;> simp -implicitDefEqProofs (maxDischargeDepth := 4) only [go_sem, ↓reduceIte, Nat.reduceLT, Nat.reduceAdd, Nat.reduceMul, Nat.reduceSub, Nat.reduceEqDiff, Nat.reduceLeDiff, Nat.reduceBEq, reduceCtorEq, Int.reduceLT, Int.reduceLE, Int.reduceEq, Int.reduceNe, Nat.reducePow, elAt_eq, stV_eq, cellsB_cells, hp_get_r, hp_get_r0, hp_get_l, hp_set_r, hp_set_r0, hp_set_l, hp_one, hp_ne, List.drop_succ_cons, List.drop_zero, List.take_succ_cons, List.take_zero, f5, b1]
  exact ⟨shr v', G4, n1, n2, run, hv.sl, l1, l2, hh1, hh2⟩
theorem table_ok {ns : List Nd} {a : AV} (hns : NsOk ns a) (h0 : (chk ns).2 = 0) : ∃ v n1 n2, pcall D 54 [a] = some v ∧ DualOk ns v n1 n2 := by
  obtain ⟨v, H', n1, n2, h1, h2⟩ := table_call hns h0
  refine ⟨v, n1, n2, ?_, h2⟩
  rw [pcall_eq (v := v) (H' := H') (by rw [List.map_cons, List.map_nil, hns.sl.cl2]; exact h1), Sl.frz_id' h2.sl]
theorem table_no {ns : List Nd} {a : AV} (hns : NsOk ns a) (h0 : ¬ (chk ns).2 = 0) : pcall D 54 [a] = some (.lit (.slice none 0 0)) := by
  obtain ⟨H', h1⟩ := table_bad hns h0
  rw [pcall_eq (v := .lit (.slice none 0 0)) (H' := H') (by rw [List.map_cons, List.map_nil, hns.sl.cl2]; exact h1)]
  rfl
end Go.Abs.Tab

/- Duals: mates, the chapter's second table. -/
set_option linter.unusedVariables false
namespace Go.Abs.Tab
open Go.Gr
def matesB (ns : List Nd) (x y : Int × Int) : Bool :=
  let r := wlk ns ns.length x.1 x.2
  let s := wlk ns ns.length y.1 y.2
  decide ((ns.length : Int).tmod 2 = 0) && decide (0 ≤ r.1) && decide (0 ≤ s.1) && decide (r.2 = s.2) && decide (mate (wrapK .i64 ((ns.length : Int).tdiv 2)) r.1 = s.1)
theorem mates_call {ns : List Nd} {a : AV} (hns : NsOk ns a) (x y : Int × Int) : ∃ H', callB cx D 0 61 [a, tyV x, tyV y] [] = some (bv (matesB ns x y), H') := by
  have r1 := res51_ok hns x.1 x.2
  have r2 := res51_ok hns y.1 y.2
  unfold matesB
  generalize wlk ns ns.length x.1 x.2 = r at *
  generalize wlk ns ns.length y.1 y.2 = s at *
  obtain ⟨x1, x2⟩ := x
  obtain ⟨y1, y2⟩ := y
  obtain ⟨m1, o1⟩ := r
  obtain ⟨m2, o2⟩ := s
  dsimp only at r1 r2 ⊢
  have h2 : (2 : Int) ≠ 0 := by decide
  have hm := fun p q => mate_ok p q
  rw [c61]
  cases d1 : decide ((ns.length : Int).tmod 2 = 0) with
  | false =>
    simp -implicitDefEqProofs (maxDischargeDepth := 4) only [go_sem, ↓reduceIte, Nat.reduceLT, Nat.reduceAdd, Nat.reduceMul, Nat.reduceSub, Nat.reduceEqDiff, Nat.reduceLeDiff, Nat.reduceBEq, reduceCtorEq, Int.reduceLT, Int.reduceLE, Int.reduceEq, Int.reduceNe, Nat.reducePow, elAt_eq, stV_eq, cellsB_cells, hp_get_r, hp_get_r0, hp_get_l, hp_set_r, hp_set_r0, hp_set_l, hp_one, hp_ne, List.drop_succ_cons, List.drop_zero, List.take_succ_cons, List.take_zero, hns.sl.shr, hns.sl.notOwn, hns.sl.drp, hns.sl.shut1, hns.sl.lenRd, alen_sl hns.sl, List.length_map, r1, r2, h2, hm, d1, Nat.zero_le, Nat.not_lt_zero, nbeq]
    exact ⟨_, rfl⟩
  | true =>
    cases d2 : decide (0 ≤ m1) with
    | false =>
      simp -implicitDefEqProofs (maxDischargeDepth := 4) only [go_sem, ↓reduceIte, Nat.reduceLT, Nat.reduceAdd, Nat.reduceMul, Nat.reduceSub, Nat.reduceEqDiff, Nat.reduceLeDiff, Nat.reduceBEq, reduceCtorEq, Int.reduceLT, Int.reduceLE, Int.reduceEq, Int.reduceNe, Nat.reducePow, elAt_eq, stV_eq, cellsB_cells, hp_get_r, hp_get_r0, hp_get_l, hp_set_r, hp_set_r0, hp_set_l, hp_one, hp_ne, List.drop_succ_cons, List.drop_zero, List.take_succ_cons, List.take_zero, hns.sl.shr, hns.sl.notOwn, hns.sl.drp, hns.sl.shut1, hns.sl.lenRd, alen_sl hns.sl, List.length_map, r1, r2, h2, hm, d1, d2, Nat.zero_le, Nat.not_lt_zero, nbeq]
      exact ⟨_, rfl⟩
    | true =>
      cases d3 : decide (0 ≤ m2) with
      | false =>
        simp -implicitDefEqProofs (maxDischargeDepth := 4) only [go_sem, ↓reduceIte, Nat.reduceLT, Nat.reduceAdd, Nat.reduceMul, Nat.reduceSub, Nat.reduceEqDiff, Nat.reduceLeDiff, Nat.reduceBEq, reduceCtorEq, Int.reduceLT, Int.reduceLE, Int.reduceEq, Int.reduceNe, Nat.reducePow, elAt_eq, stV_eq, cellsB_cells, hp_get_r, hp_get_r0, hp_get_l, hp_set_r, hp_set_r0, hp_set_l, hp_one, hp_ne, List.drop_succ_cons, List.drop_zero, List.take_succ_cons, List.take_zero, hns.sl.shr, hns.sl.notOwn, hns.sl.drp, hns.sl.shut1, hns.sl.lenRd, alen_sl hns.sl, List.length_map, r1, r2, h2, hm, d1, d2, d3, Nat.zero_le, Nat.not_lt_zero, nbeq]
        exact ⟨_, rfl⟩
      | true =>
        cases d4 : decide (o1 = o2) with
        | false =>
          simp -implicitDefEqProofs (maxDischargeDepth := 4) only [go_sem, ↓reduceIte, Nat.reduceLT, Nat.reduceAdd, Nat.reduceMul, Nat.reduceSub, Nat.reduceEqDiff, Nat.reduceLeDiff, Nat.reduceBEq, reduceCtorEq, Int.reduceLT, Int.reduceLE, Int.reduceEq, Int.reduceNe, Nat.reducePow, elAt_eq, stV_eq, cellsB_cells, hp_get_r, hp_get_r0, hp_get_l, hp_set_r, hp_set_r0, hp_set_l, hp_one, hp_ne, List.drop_succ_cons, List.drop_zero, List.take_succ_cons, List.take_zero, hns.sl.shr, hns.sl.notOwn, hns.sl.drp, hns.sl.shut1, hns.sl.lenRd, alen_sl hns.sl, List.length_map, r1, r2, h2, hm, d1, d2, d3, d4, Nat.zero_le, Nat.not_lt_zero, nbeq]
          exact ⟨_, rfl⟩
        | true =>
          simp -implicitDefEqProofs (maxDischargeDepth := 4) only [go_sem, ↓reduceIte, Nat.reduceLT, Nat.reduceAdd, Nat.reduceMul, Nat.reduceSub, Nat.reduceEqDiff, Nat.reduceLeDiff, Nat.reduceBEq, reduceCtorEq, Int.reduceLT, Int.reduceLE, Int.reduceEq, Int.reduceNe, Nat.reducePow, elAt_eq, stV_eq, cellsB_cells, hp_get_r, hp_get_r0, hp_get_l, hp_set_r, hp_set_r0, hp_set_l, hp_one, hp_ne, List.drop_succ_cons, List.drop_zero, List.take_succ_cons, List.take_zero, hns.sl.shr, hns.sl.notOwn, hns.sl.drp, hns.sl.shut1, hns.sl.lenRd, alen_sl hns.sl, List.length_map, r1, r2, h2, hm, d1, d2, d3, d4, Nat.zero_le, Nat.not_lt_zero, nbeq]
          exact ⟨_, rfl⟩
theorem mates_ok {ns : List Nd} {a : AV} (hns : NsOk ns a) (x y : Int × Int) : pcall D 61 [a, tyV x, tyV y] = some (bv (matesB ns x y)) := by
  obtain ⟨H', h⟩ := mates_call hns x y
  rw [pcall_eq (v := bv (matesB ns x y)) (H' := H') (by rw [List.map_cons, List.map_cons, List.map_cons, List.map_nil, hns.sl.cl2]; exact h)]
  rfl
end Go.Abs.Tab

/- Duals: the chapter's second table. -/
set_option linter.unusedVariables false
namespace Go.Abs.Tab
open Go.Gr
theorem build66_w (k : Int) (c : Bool) (t s : Int) (l : List AV) : abuild cx.T 66 [(0, iv k), (2, bv c), (3, .agg [iv t, iv s]), (4, .vec 2 .exact l)] = some (.agg [iv k, iv 0, bv c, iv t, iv s, .vec 2 .exact l]) := nr (by kernel_rfl)
def wds : List Nd := [mkNd 2 0 true 1 4 [(0, 1)], niN 0 0 false 0 0]
abbrev wdV : AV := .vec 6 .exact [.agg [iv 2, iv 0, bv true, iv 1, iv 4, .vec 2 .exact [.agg [iv 0, iv 1]]], .agg [iv 0, iv 0, bv false, iv 0, iv 0, .lit (.slice none 0 0)]]
theorem wds_ok : NsOk wds wdV := by
  refine ⟨.inl rfl, fun x hx => ?_, by decide⟩
  simp only [wds, List.mem_cons, List.not_mem_nil, or_false] at hx
  rcases hx with rfl | rfl
  · exact mkNd_ok _ _ _ _ _ _
  · exact niN_ok _ _ _ _ _
theorem DualOk.nsOk {ns n1 n2 : List Nd} {v : AV} (h : DualOk ns v n1 n2) (hl : ns.length ≤ 64) : NsOk (n1 ++ n2) v := by
  refine ⟨h.sl, fun y hy => ?_, ?_⟩
  · rw [List.mem_append] at hy
    rcases hy with hy | hy
    · obtain ⟨j, hj⟩ := List.getElem?_of_mem hy
      have hlt := (List.getElem?_eq_some_iff.1 hj).1
      obtain ⟨x, hx⟩ := ex_nd (ns := ns) (i := j) (by rw [← h.l1]; exact hlt)
      exact (h.h1 j x y hx hj).2.2.2.2.2.2
    · obtain ⟨j, hj⟩ := List.getElem?_of_mem hy
      have hlt := (List.getElem?_eq_some_iff.1 hj).1
      obtain ⟨x, hx⟩ := ex_nd (ns := ns) (i := j) (by rw [← h.l2]; exact hlt)
      exact (h.h2 j x y hx hj).2.2.2.2.2.2
  · rw [List.length_append, h.l1, h.l2]
    have : ns.length + ns.length ≤ 128 := by omega
    exact Nat.lt_of_le_of_lt this (by decide)
theorem dworks_call : ∃ H', callB cx D 0 59 [] [] = some (bv true, H') := by
  obtain ⟨v, n1, n2, h54, hd⟩ := table_ok wds_ok (by decide)
  have hos := hd.nsOk (by decide)
  obtain ⟨hsl, l1, l2, hh1, hh2⟩ := hd
  match n1, n2, l1, l2 with
  | [y0, y1], [y2, y3], _, _ =>
    have a0 := hh1 0 _ y0 rfl rfl
    have a2 := hh2 0 _ y2 rfl rfl
    have a3 := hh2 1 _ y3 rfl rfl
    obtain ⟨k0, p0, c0, t0, s0, e0, x0⟩ := y0
    obtain ⟨k2, p2, c2, t2, s2, e2, x2⟩ := y2
    obtain ⟨k3, p3, c3, t3, s3, e3, x3⟩ := y3
    obtain ⟨q1, q2, q3, q4, q5, q6, q7⟩ := a2
    obtain ⟨r1, _, _, _, _, _, _⟩ := a3
    obtain ⟨z1, _, _, _, _, _, _⟩ := a0
    have e1 : (1 : Int) = k2 := Option.some.inj q1
    have e3' : (0 : Int) = k3 := Option.some.inj r1
    have e0' : (2 : Int) = k0 := Option.some.inj z1
    subst e1 e3' e0'
    dsimp only [mkNd] at q2 q3 q4 q5 q6
    subst q2 q3 q4 q5 q6
    have hat2 := hos.at (m := 2) rfl
    have hat3 := hos.at (m := 3) rfl
    have hs2 : Sl 2 x2 (([(0, 1)].map (mv 2)).map ed) := q7
    have hat2' : aindexAddr cx.T 56 v (iv 2) = some (.vp (.agg [iv 1, iv 0, bv true, iv 1, iv 4, x2]) 0) := hat2
    have hat3' : aindexAddr cx.T 56 v (iv 3) = some (.vp (.agg [iv 0, iv p3, bv c3, iv t3, iv s3, x3]) 0) := hat3
    have hed : aindexAddr cx.T 64 x2 (iv 0) = some (.vp (.agg [iv 2, iv 1]) 0) := at_ed hs2 (show 0 < ([(0, 1)].map (mv 2)).length by decide)
    have hml := mates_ok hos (0, 7) (2, 7)
    have hmB : matesB (([⟨2, p0, c0, t0, s0, e0, x0⟩, y1] ++ [⟨1, 0, true, 1, 4, [(0, 1)].map (mv wds.length), x2⟩, ⟨0, p3, c3, t3, s3, e3, x3⟩]) : List Nd) (0, 7) (2, 7) = true := by
      have hw0 : wlk (([⟨2, p0, c0, t0, s0, e0, x0⟩, y1] ++ [⟨1, 0, true, 1, 4, [(0, 1)].map (mv wds.length), x2⟩, ⟨0, p3, c3, t3, s3, e3, x3⟩]) : List Nd) (([⟨2, p0, c0, t0, s0, e0, x0⟩, y1] ++ [⟨1, 0, true, 1, 4, [(0, 1)].map (mv wds.length), x2⟩, ⟨0, p3, c3, t3, s3, e3, x3⟩]) : List Nd).length ((0, 7) : Int × Int).1 ((0, 7) : Int × Int).2 = (0, 7) := wlk_ne (k := 3) (x := ⟨2, p0, c0, t0, s0, e0, x0⟩) rfl (show (2 : Int) ≠ 5 by decide)
      have hw2 : wlk (([⟨2, p0, c0, t0, s0, e0, x0⟩, y1] ++ [⟨1, 0, true, 1, 4, [(0, 1)].map (mv wds.length), x2⟩, ⟨0, p3, c3, t3, s3, e3, x3⟩]) : List Nd) (([⟨2, p0, c0, t0, s0, e0, x0⟩, y1] ++ [⟨1, 0, true, 1, 4, [(0, 1)].map (mv wds.length), x2⟩, ⟨0, p3, c3, t3, s3, e3, x3⟩]) : List Nd).length ((2, 7) : Int × Int).1 ((2, 7) : Int × Int).2 = (2, 7) := wlk_ne (k := 3) (x := ⟨1, 0, true, 1, 4, [(0, 1)].map (mv wds.length), x2⟩) rfl (show (1 : Int) ≠ 5 by decide)
      unfold matesB
      rw [hw0, hw2]
      show (decide (((4 : Nat) : Int).tmod 2 = 0) && decide ((0 : Int) ≤ 0) && decide ((0 : Int) ≤ 2) && decide ((7 : Int) = 7) && decide (mate (wrapK .i64 (((4 : Nat) : Int).tdiv 2)) 0 = 2)) = true
      decide
    rw [hmB] at hml
    have hm1 := mate_ok 2 0
    have hm2 := mate_ok 2 3
    rw [show mate 2 0 = 2 by decide] at hm1
    rw [show mate 2 3 = 1 by decide] at hm2
    have hpe := pair_eql eqt63
    have hl4 : ∀ H, alen cx.T 56 H v = some (iv 4) := fun H => alen_sl hos.sl (by rw [sl56]; rfl)
    have hl1 : ∀ H, alen cx.T 64 H x2 = some (iv 1) := fun H => alen_sl hs2 (by rw [sl64]; rfl)
    rw [c59]
    simp -implicitDefEqProofs (maxDischargeDepth := 4) only [go_sem, ↓reduceIte, Nat.reduceLT, Nat.reduceAdd, Nat.reduceMul, Nat.reduceSub, Nat.reduceEqDiff, Nat.reduceLeDiff, Nat.reduceBEq, reduceCtorEq, Int.reduceLT, Int.reduceLE, Int.reduceEq, Int.reduceNe, Nat.reducePow, elAt_eq, stV_eq, cellsB_cells, hp_get_r, hp_get_r0, hp_get_l, hp_set_r, hp_set_r0, hp_set_l, hp_one, hp_ne, List.drop_succ_cons, List.drop_zero, List.take_succ_cons, List.take_zero, build63', build66_w, build66_0, h54, hos.sl.shr, hos.sl.notOwn, hos.sl.shut1, hl4, hl1, hat2', hat3', hs2.shr, hs2.notOwn, elP_Sl hs2, hed, hpe, hm1, hm2, build61b, build61, hml]
    exact ⟨_, rfl⟩
end Go.Abs.Tab

/- Duals: nodes that are the same. -/
set_option linter.unusedVariables false
namespace Go.Abs.Tab
open Go.Gr
theorem dworks_ok : pcall D 59 [] = some (bv true) := by
  obtain ⟨H', h⟩ := dworks_call
  rw [pcall_eq (vs := []) (v := bv true) (H' := H') (by rw [List.map_nil]; exact h)]
  rfl
abbrev ndB (k p : Int) (c : Bool) (t s : Int) (v : AV) : ABlock := .cells 6 66 [.agg [iv k, iv p, bv c, iv t, iv s, v]]
theorem same_loop {k p pt ps : Int} {c : Bool} {nx ny : AV} {es : List (Int × Int)} (hx : Sl 2 nx (es.map ed)) (hy : Sl 2 ny (es.map ed)) (hl : es.length ≤ 8) :
    ∀ (m i : Nat) (fr : PT), es.length - i = m → i ≤ es.length → fr.get 2 = .ptr 0 0 0 → fr.get 3 = .ptr 1 0 0 → fr.get 5 = iv i →
    ∃ fr' : PT, D.loop 0 56 59 l56_0 fr [ndB k p c pt ps nx, ndB k p c pt ps ny] = some (.exit 0, fr', [ndB k p c pt ps nx, ndB k p c pt ps ny])
  | 0, i, fr, hm, hi, h2, h3, h5 => by
    have hn : ¬ ((i : Int) < (es.length : Int)) := by omega
    rw [dl56_0]
    simp -implicitDefEqProofs (maxDischargeDepth := 4) only [go_sem, ↓reduceIte, Nat.reduceLT, Nat.reduceAdd, Nat.reduceMul, Nat.reduceSub, Nat.reduceEqDiff, Nat.reduceLeDiff, Nat.reduceBEq, reduceCtorEq, Int.reduceLT, Int.reduceLE, Int.reduceEq, Int.reduceNe, Nat.reducePow, elAt_eq, stV_eq, cellsB_cells, hp_get_r, hp_get_r0, hp_get_l, hp_set_r, hp_set_r0, hp_set_l, hp_one, hp_ne, List.drop_succ_cons, List.drop_zero, List.take_succ_cons, List.take_zero, h2, h3, h5, hx.shr, elP_Sl hx, alen_sl hx, List.length_map, hn]
    exact ⟨_, rfl⟩
  | m + 1, i, fr, hm, hi, h2, h3, h5 => by
    have hn : ((i : Int) < (es.length : Int)) := by omega
    have e1 := at_ed hx (show i < es.length by omega)
    have e2 := at_ed hy (show i < es.length by omega)
    have w3 : wrapK .i64 ((i : Int) + 1) = ((i + 1 : Nat) : Int) := by rw [wrapK_i64 (by omega) (by omega)]; rfl
    have hpe := pair_neq eqt63
    rw [dl56_0]
    simp -implicitDefEqProofs (maxDischargeDepth := 4) only [go_sem, ↓reduceIte, Nat.reduceLT, Nat.reduceAdd, Nat.reduceMul, Nat.reduceSub, Nat.reduceEqDiff, Nat.reduceLeDiff, Nat.reduceBEq, reduceCtorEq, Int.reduceLT, Int.reduceLE, Int.reduceEq, Int.reduceNe, Nat.reducePow, elAt_eq, stV_eq, cellsB_cells, hp_get_r, hp_get_r0, hp_get_l, hp_set_r, hp_set_r0, hp_set_l, hp_one, hp_ne, List.drop_succ_cons, List.drop_zero, List.take_succ_cons, List.take_zero, h2, h3, h5, hx.shr, hy.shr, elP_Sl hx, elP_Sl hy, alen_sl hx, alen_sl hy, List.length_map, hn, e1, e2, hpe, w3, nbeq]
    exact same_loop hx hy hl m (i + 1) _ (by omega) (by omega) (by simp -implicitDefEqProofs (maxDischargeDepth := 4) only [go_sem, ↓reduceIte, Nat.reduceLT, Nat.reduceAdd, Nat.reduceMul, Nat.reduceSub, Nat.reduceEqDiff, Nat.reduceLeDiff, Nat.reduceBEq, reduceCtorEq, Int.reduceLT, Int.reduceLE, Int.reduceEq, Int.reduceNe, Nat.reducePow, h2]) (by simp -implicitDefEqProofs (maxDischargeDepth := 4) only [go_sem, ↓reduceIte, Nat.reduceLT, Nat.reduceAdd, Nat.reduceMul, Nat.reduceSub, Nat.reduceEqDiff, Nat.reduceLeDiff, Nat.reduceBEq, reduceCtorEq, Int.reduceLT, Int.reduceLE, Int.reduceEq, Int.reduceNe, Nat.reducePow, h3]) (by simp -implicitDefEqProofs (maxDischargeDepth := 4) only [go_sem, ↓reduceIte, Nat.reduceLT, Nat.reduceAdd, Nat.reduceMul, Nat.reduceSub, Nat.reduceEqDiff, Nat.reduceLeDiff, Nat.reduceBEq, reduceCtorEq, Int.reduceLT, Int.reduceLE, Int.reduceEq, Int.reduceNe, Nat.reducePow])
theorem same_call {k p pt ps : Int} {c : Bool} {nx ny : AV} {es : List (Int × Int)} (hx : Sl 2 nx (es.map ed)) (hy : Sl 2 ny (es.map ed)) (hl : es.length ≤ 8) :
    ∃ H', callB cx D 0 56 [.agg [iv k, iv p, bv c, iv pt, iv ps, nx], .agg [iv k, iv p, bv c, iv pt, iv ps, ny]] [] = some (bv true, H') := by
  obtain ⟨FL, hL⟩ := skol (fun (fr : PT) (h : fr.get 2 = .ptr 0 0 0 ∧ fr.get 3 = .ptr 1 0 0 ∧ fr.get 5 = iv 0) => same_loop (k := k) (p := p) (pt := pt) (ps := ps) (c := c) hx hy hl es.length 0 fr (by omega) (by omega) h.1 h.2.1 h.2.2)
  have c1 := fun (fr : PT) a b d => hL fr ⟨a, b, d⟩
  have hpe := pair_neq eqt63
  rw [c56]
  simp -implicitDefEqProofs (maxDischargeDepth := 4) only [go_sem, ↓reduceIte, Nat.reduceLT, Nat.reduceAdd, Nat.reduceMul, Nat.reduceSub, Nat.reduceEqDiff, Nat.reduceLeDiff, Nat.reduceBEq, reduceCtorEq, Int.reduceLT, Int.reduceLE, Int.reduceEq, Int.reduceNe, Nat.reducePow, elAt_eq, stV_eq, cellsB_cells, hp_get_r, hp_get_r0, hp_get_l, hp_set_r, hp_set_r0, hp_set_l, hp_one, hp_ne, List.drop_succ_cons, List.drop_zero, List.take_succ_cons, List.take_zero, hx.shr, hy.shr, hx.drp, hy.drp, hx.fitA, hy.fitA, hx.notOwn, hy.notOwn, elP_Sl hx, elP_Sl hy, alen_sl hx, alen_sl hy, List.length_map, hpe, x_loop, c1, Nat.zero_le, Nat.le_refl]
  exact ⟨_, rfl⟩
theorem same_ok {x y : Nd} (hx : NdOk x) (hy : NdOk y) (hl : x.es.length ≤ 8) (h1 : y.kind = x.kind) (h2 : y.prio = x.prio) (h3 : y.chan = x.chan) (h4 : y.pt = x.pt) (h5 : y.ps = x.ps) (h6 : y.es = x.es) : pcall D 56 [nodeV x, nodeV y] = some (bv true) := by
  obtain ⟨k, p, c, t, s, es, nx⟩ := x
  obtain ⟨k', p', c', t', s', es', ny⟩ := y
  dsimp only at h1 h2 h3 h4 h5 h6
  subst h1 h2 h3 h4 h5 h6
  have sx : Sl 2 nx (es'.map ed) := hx
  have sy : Sl 2 ny (es'.map ed) := hy
  obtain ⟨H', h⟩ := same_call (k := k') (p := p') (pt := t') (ps := s') (c := c') sx sy hl
  rw [pcall_eq (v := bv true) (H' := H') (by
    rw [List.map_cons, List.map_cons, List.map_nil]
    show callB cx D 0 56 [.agg ((nodeC ⟨k', p', c', t', s', es', nx⟩).map Abs.cl0), .agg ((nodeC ⟨k', p', c', t', s', es', ny⟩).map Abs.cl0)] [] = _
    simp only [List.map_cons, List.map_nil, cl0_lit, sx.cl0, sy.cl0]; exact h)]
  rfl
end Go.Abs.Tab

/- Duals: the document's table: the edges of a node. -/
set_option linter.unusedVariables false
namespace Go.Abs.Tab
open Go.Gr
abbrev dsB (ds : List Nd) : ABlock := .cells 6 66 (ds.map nodeV)
theorem killB_ds {ds : List Nd} (h : ∀ y ∈ ds, NdOk y) (m : Nat) : killB m (dsB ds) = dsB ds := by
  have : (ds.map nodeV).map (kill1 m) = ds.map nodeV := by
    rw [List.map_map]
    refine List.map_congr_left fun y hy => ?_
    have hs : Sl 2 y.nx (y.es.map ed) := h y hy
    have hk : kill0 m y.nx = y.nx := by
      rcases hs with e | e | ⟨e, _⟩ <;> rw [e] <;> rfl
    show AV.agg ((nodeC y).map (kill0 m)) = _
    simp only [List.map_cons, List.map_nil, hk]
    rfl
  show ABlock.cells 6 66 ((ds.map nodeV).map (kill1 m)) = _
  rw [this]
theorem set_ds (ds : List Nd) (i : Nat) (y : Nd) : (ds.map nodeV).set i (nodeV y) = (ds.set i y).map nodeV := by rw [List.map_set]
structure RFr (fr : PT) (a : AV) (n L i : Nat) : Prop where
  f0 : fr.get 0 = a
  f5 : fr.get 5 = iv n
  f6 : fr.get 6 = .sl 0 6 0 L L
  f7 : fr.get 7 = iv i
theorem RFr.of {fr fr' : PT} {a : AV} {n L i : Nat} (F : RFr fr a n L i) (h : ∀ t, (t = 0 ∨ t = 5 ∨ t = 6 ∨ t = 7) → fr'.get t = fr.get t) : RFr fr' a n L i :=
  ⟨by rw [h 0 (by simp), F.f0], by rw [h 5 (by simp), F.f5], by rw [h 6 (by simp), F.f6], by rw [h 7 (by simp), F.f7]⟩
theorem edges55 {ns : List Nd} {a : AV} (hns : NsOk ns a) {n L i : Nat} {x : Nd} (hx : ns[i]? = some x) (hl : x.es.length ≤ 8) {B : ABlock} (hB : killB 1 B = B) {R8 R9 : List AV} (hR8 : x.es.map ed = R8) (hR9 : (x.es.map (mv n)).map ed = R9) :
    ∀ (d k : Nat) (fr : PT) (v8 v9 : AV) (L8 L9 : List AV), x.es.length - k = d → k ≤ x.es.length → RFr fr a n L i → fr.get 8 = v8 → fr.get 9 = v9 → fr.get 10 = iv k → (x.es.take k).map ed = L8 → ((x.es.take k).map (mv n)).map ed = L9 → Grow 2 v8 L8 → Grow 2 v9 L9 →
    ∃ (fr' : PT) (w8 w9 : AV), D.loop 0 55 102 l55_0 fr [B] = some (.exit 2, fr', [B]) ∧ RFr fr' a n L i ∧ fr'.get 8 = w8 ∧ fr'.get 9 = w9 ∧ Grow 2 w8 R8 ∧ Grow 2 w9 R9
  | 0, k, fr, v8, v9, L8, L9, hd, hk, F, f8, f9, f10, h8, h9, g8, g9 => by
    have hs : Sl 2 x.nx (x.es.map ed) := hns.ok x (List.mem_of_getElem? hx)
    have hat := hns.at hx
    have hlt : ¬ ((k : Int) < (x.es.length : Int)) := by omega
    rw [List.take_of_length_le (by omega)] at h8 h9
    rw [hR8] at h8
    rw [hR9] at h9
    subst h8 h9
    rw [dl55_0]
    simp -implicitDefEqProofs (maxDischargeDepth := 4) only [go_sem, ↓reduceIte, Nat.reduceLT, Nat.reduceAdd, Nat.reduceMul, Nat.reduceSub, Nat.reduceEqDiff, Nat.reduceLeDiff, Nat.reduceBEq, reduceCtorEq, Int.reduceLT, Int.reduceLE, Int.reduceEq, Int.reduceNe, Nat.reducePow, elAt_eq, stV_eq, cellsB_cells, hp_get_r, hp_get_r0, hp_get_l, hp_set_r, hp_set_r0, hp_set_l, hp_one, hp_ne, List.drop_succ_cons, List.drop_zero, List.take_succ_cons, List.take_zero, F.f0, F.f7, f10, hns.sl.shr, hns.sl.notOwn, hat, hs.shr, hs.notOwn, elP_Sl hs, alen_sl hs, List.length_map, hlt]
    refine ⟨_, v8, v9, rfl, F.of fun t ht => ?_, by simp -implicitDefEqProofs (maxDischargeDepth := 4) only [go_sem, ↓reduceIte, Nat.reduceLT, Nat.reduceAdd, Nat.reduceMul, Nat.reduceSub, Nat.reduceEqDiff, Nat.reduceLeDiff, Nat.reduceBEq, reduceCtorEq, Int.reduceLT, Int.reduceLE, Int.reduceEq, Int.reduceNe, Nat.reducePow, f8], by simp -implicitDefEqProofs (maxDischargeDepth := 4) only [go_sem, ↓reduceIte, Nat.reduceLT, Nat.reduceAdd, Nat.reduceMul, Nat.reduceSub, Nat.reduceEqDiff, Nat.reduceLeDiff, Nat.reduceBEq, reduceCtorEq, Int.reduceLT, Int.reduceLE, Int.reduceEq, Int.reduceNe, Nat.reducePow, f9], g8, g9⟩
    rcases ht with rfl | rfl | rfl | rfl <;> simp -implicitDefEqProofs (maxDischargeDepth := 4) only [go_sem, ↓reduceIte, Nat.reduceLT, Nat.reduceAdd, Nat.reduceMul, Nat.reduceSub, Nat.reduceEqDiff, Nat.reduceLeDiff, Nat.reduceBEq, reduceCtorEq, Int.reduceLT, Int.reduceLE, Int.reduceEq, Int.reduceNe, Nat.reducePow]
  | d + 1, k, fr, v8, v9, L8, L9, hd, hk, F, f8, f9, f10, h8, h9, g8, g9 => by
    have hs : Sl 2 x.nx (x.es.map ed) := hns.ok x (List.mem_of_getElem? hx)
    have hat := hns.at hx
    have hlt : ((k : Int) < (x.es.length : Int)) := by omega
    have w3 := wrap_succ (show k ≤ 1000 by omega)
    have e1 := at_ed hs (show k < x.es.length by omega)
    have l8 : L8.length < 2 ^ 20 := Nat.lt_of_le_of_lt (show L8.length ≤ 8 by rw [← h8]; simp; omega) (by decide)
    have l9 : L9.length < 2 ^ 20 := Nat.lt_of_le_of_lt (show L9.length ≤ 8 by rw [← h9]; simp; omega) (by decide)
    have t8 : (x.es.take (k + 1)).map ed = L8 ++ [ed (x.es.getD k (0, 0))] := by
      rw [List.take_add_one, List.map_append, h8, List.getElem?_eq_getElem (by omega)]
      simp [List.getD_eq_getElem?_getD, List.getElem?_eq_getElem (show k < x.es.length by omega)]
    have t9 : ((x.es.take (k + 1)).map (mv n)).map ed = L9 ++ [ed (mv n (x.es.getD k (0, 0)))] := by
      rw [List.take_add_one, List.map_append, List.map_append, h9, List.getElem?_eq_getElem (by omega)]
      simp [List.getD_eq_getElem?_getD, List.getElem?_eq_getElem (show k < x.es.length by omega)]
    have next : ∀ (fr1 : PT) (X : ABlock), RFr fr1 a n L i → fr1.get 8 = .vec 2 .own (L8 ++ [ed (x.es.getD k (0, 0))]) → fr1.get 9 = .vec 2 .own (L9 ++ [ed (mv n (x.es.getD k (0, 0)))]) → fr1.get 10 = iv (k + 1 : Nat) →
        ∃ (fr' : PT) (w8 w9 : AV), trimmed (D.loop 0 55 102 l55_0) 1 fr1 [B, X] = some (.exit 2, fr', [B]) ∧ RFr fr' a n L i ∧ fr'.get 8 = w8 ∧ fr'.get 9 = w9 ∧ Grow 2 w8 R8 ∧ Grow 2 w9 R9 := fun fr1 X F1 q8 q9 q10 => by
      refine trim_gen (P := fun zz => ∃ (fr' : PT) (w8 w9 : AV), zz = some (.exit 2, fr', [B]) ∧ RFr fr' a n L i ∧ fr'.get 8 = w8 ∧ fr'.get 9 = w9 ∧ Grow 2 w8 R8 ∧ Grow 2 w9 R9) [0, 5, 6, 7, 8, 9, 10] (by simp) (fun t ht => ?_) fun fr' G' hG' hf hk' => ?_
      · simp only [List.mem_cons, List.not_mem_nil, or_false] at ht
        rcases ht with rfl | rfl | rfl | rfl | rfl | rfl | rfl
        · rw [F1.f0, kill_Sl hns.sl]
        · rw [F1.f5]; rfl
        · rw [F1.f6]; rfl
        · rw [F1.f7]; rfl
        · rw [q8]; rfl
        · rw [q9]; rfl
        · rw [q10]; rfl
      · have hGB : G' = [B] := by
          match G', hG' with
          | [y], _ =>
            have := hk' 0 B (by decide) rfl hB
            cases this; rfl
        subst hGB
        exact edges55 hns hx hl hB hR8 hR9 d (k + 1) fr' _ _ _ _ (nd1 hd) (nd2 hd) ⟨by rw [hf 0 (by simp), F1.f0], by rw [hf 5 (by simp), F1.f5], by rw [hf 6 (by simp), F1.f6], by rw [hf 7 (by simp), F1.f7]⟩ (by rw [hf 8 (by simp), q8]) (by rw [hf 9 (by simp), q9]) (by rw [hf 10 (by simp), q10]) t8 t9 (.inl rfl) (.inl rfl)
    have hap8 : ∀ y : AV, apV 2 16 [y] v8 = some (.vec 2 .own (L8 ++ [y])) := fun y => by
      rcases g8 with rfl | ⟨rfl, he⟩
      · exact apV_own (ap_small l8) (by decide)
      · rw [he]; exact apV_none (show (0 + 1) * (16 + 1) ≤ 1099511627776 by decide) (by decide)
    have hap9 : ∀ y : AV, apV 2 16 [y] v9 = some (.vec 2 .own (L9 ++ [y])) := fun y => by
      rcases g9 with rfl | ⟨rfl, he⟩
      · exact apV_own (ap_small l9) (by decide)
      · rw [he]; exact apV_none (show (0 + 1) * (16 + 1) ≤ 1099511627776 by decide) (by decide)
    clear h8 h9 l8 l9
    rw [dl55_0]
    rcases g8 with rfl | ⟨rfl, rfl⟩ <;> rcases g9 with rfl | ⟨rfl, rfl⟩
    · simp -implicitDefEqProofs (maxDischargeDepth := 4) only [go_sem, ↓reduceIte, Nat.reduceLT, Nat.reduceAdd, Nat.reduceMul, Nat.reduceSub, Nat.reduceEqDiff, Nat.reduceLeDiff, Nat.reduceBEq, reduceCtorEq, Int.reduceLT, Int.reduceLE, Int.reduceEq, Int.reduceNe, Nat.reducePow, elAt_eq, stV_eq, cellsB_cells, hp_get_r, hp_get_r0, hp_get_l, hp_set_r, hp_set_r0, hp_set_l, hp_one, hp_ne, List.drop_succ_cons, List.drop_zero, List.take_succ_cons, List.take_zero, F.f0, F.f5, F.f7, f8, f9, f10, hns.sl.shr, hns.sl.notOwn, hat, hs.shr, hs.notOwn, elP_Sl hs, alen_sl hs, List.length_map, hlt, e1, build63', hap8, hap9, w3, Nat.zero_le, Nat.not_lt_zero]
      refine next _ _ (F.of fun t ht => ?_) ?_ ?_ ?_
      · rcases ht with rfl | rfl | rfl | rfl <;> simp -implicitDefEqProofs (maxDischargeDepth := 4) only [go_sem, ↓reduceIte, Nat.reduceLT, Nat.reduceAdd, Nat.reduceMul, Nat.reduceSub, Nat.reduceEqDiff, Nat.reduceLeDiff, Nat.reduceBEq, reduceCtorEq, Int.reduceLT, Int.reduceLE, Int.reduceEq, Int.reduceNe, Nat.reducePow]
      · simp -implicitDefEqProofs (maxDischargeDepth := 4) only [go_sem, ↓reduceIte, Nat.reduceLT, Nat.reduceAdd, Nat.reduceMul, Nat.reduceSub, Nat.reduceEqDiff, Nat.reduceLeDiff, Nat.reduceBEq, reduceCtorEq, Int.reduceLT, Int.reduceLE, Int.reduceEq, Int.reduceNe, Nat.reducePow]
        try rfl
      · simp -implicitDefEqProofs (maxDischargeDepth := 4) only [go_sem, ↓reduceIte, Nat.reduceLT, Nat.reduceAdd, Nat.reduceMul, Nat.reduceSub, Nat.reduceEqDiff, Nat.reduceLeDiff, Nat.reduceBEq, reduceCtorEq, Int.reduceLT, Int.reduceLE, Int.reduceEq, Int.reduceNe, Nat.reducePow]
        try rfl
      · simp -implicitDefEqProofs (maxDischargeDepth := 4) only [go_sem, ↓reduceIte, Nat.reduceLT, Nat.reduceAdd, Nat.reduceMul, Nat.reduceSub, Nat.reduceEqDiff, Nat.reduceLeDiff, Nat.reduceBEq, reduceCtorEq, Int.reduceLT, Int.reduceLE, Int.reduceEq, Int.reduceNe, Nat.reducePow]
    · simp -implicitDefEqProofs (maxDischargeDepth := 4) only [go_sem, ↓reduceIte, Nat.reduceLT, Nat.reduceAdd, Nat.reduceMul, Nat.reduceSub, Nat.reduceEqDiff, Nat.reduceLeDiff, Nat.reduceBEq, reduceCtorEq, Int.reduceLT, Int.reduceLE, Int.reduceEq, Int.reduceNe, Nat.reducePow, elAt_eq, stV_eq, cellsB_cells, hp_get_r, hp_get_r0, hp_get_l, hp_set_r, hp_set_r0, hp_set_l, hp_one, hp_ne, List.drop_succ_cons, List.drop_zero, List.take_succ_cons, List.take_zero, F.f0, F.f5, F.f7, f8, f9, f10, hns.sl.shr, hns.sl.notOwn, hat, hs.shr, hs.notOwn, elP_Sl hs, alen_sl hs, List.length_map, hlt, e1, build63', hap8, hap9, w3, Nat.zero_le, Nat.not_lt_zero]
      refine next _ _ (F.of fun t ht => ?_) ?_ ?_ ?_
      · rcases ht with rfl | rfl | rfl | rfl <;> simp -implicitDefEqProofs (maxDischargeDepth := 4) only [go_sem, ↓reduceIte, Nat.reduceLT, Nat.reduceAdd, Nat.reduceMul, Nat.reduceSub, Nat.reduceEqDiff, Nat.reduceLeDiff, Nat.reduceBEq, reduceCtorEq, Int.reduceLT, Int.reduceLE, Int.reduceEq, Int.reduceNe, Nat.reducePow]
      · simp -implicitDefEqProofs (maxDischargeDepth := 4) only [go_sem, ↓reduceIte, Nat.reduceLT, Nat.reduceAdd, Nat.reduceMul, Nat.reduceSub, Nat.reduceEqDiff, Nat.reduceLeDiff, Nat.reduceBEq, reduceCtorEq, Int.reduceLT, Int.reduceLE, Int.reduceEq, Int.reduceNe, Nat.reducePow]
        try rfl
      · simp -implicitDefEqProofs (maxDischargeDepth := 4) only [go_sem, ↓reduceIte, Nat.reduceLT, Nat.reduceAdd, Nat.reduceMul, Nat.reduceSub, Nat.reduceEqDiff, Nat.reduceLeDiff, Nat.reduceBEq, reduceCtorEq, Int.reduceLT, Int.reduceLE, Int.reduceEq, Int.reduceNe, Nat.reducePow]
        try rfl
      · simp -implicitDefEqProofs (maxDischargeDepth := 4) only [go_sem, ↓reduceIte, Nat.reduceLT, Nat.reduceAdd, Nat.reduceMul, Nat.reduceSub, Nat.reduceEqDiff, Nat.reduceLeDiff, Nat.reduceBEq, reduceCtorEq, Int.reduceLT, Int.reduceLE, Int.reduceEq, Int.reduceNe, Nat.reducePow]
    · simp -implicitDefEqProofs (maxDischargeDepth := 4) only [go_sem, ↓reduceIte, Nat.reduceLT, Nat.reduceAdd, Nat.reduceMul, Nat.reduceSub, Nat.reduceEqDiff, Nat.reduceLeDiff, Nat.reduceBEq, reduceCtorEq, Int.reduceLT, Int.reduceLE, Int.reduceEq, Int.reduceNe, Nat.reducePow, elAt_eq, stV_eq, cellsB_cells, hp_get_r, hp_get_r0, hp_get_l, hp_set_r, hp_set_r0, hp_set_l, hp_one, hp_ne, List.drop_succ_cons, List.drop_zero, List.take_succ_cons, List.take_zero, F.f0, F.f5, F.f7, f8, f9, f10, hns.sl.shr, hns.sl.notOwn, hat, hs.shr, hs.notOwn, elP_Sl hs, alen_sl hs, List.length_map, hlt, e1, build63', hap8, hap9, w3, Nat.zero_le, Nat.not_lt_zero]
      refine next _ _ (F.of fun t ht => ?_) ?_ ?_ ?_
      · rcases ht with rfl | rfl | rfl | rfl <;> simp -implicitDefEqProofs (maxDischargeDepth := 4) only [go_sem, ↓reduceIte, Nat.reduceLT, Nat.reduceAdd, Nat.reduceMul, Nat.reduceSub, Nat.reduceEqDiff, Nat.reduceLeDiff, Nat.reduceBEq, reduceCtorEq, Int.reduceLT, Int.reduceLE, Int.reduceEq, Int.reduceNe, Nat.reducePow]
      · simp -implicitDefEqProofs (maxDischargeDepth := 4) only [go_sem, ↓reduceIte, Nat.reduceLT, Nat.reduceAdd, Nat.reduceMul, Nat.reduceSub, Nat.reduceEqDiff, Nat.reduceLeDiff, Nat.reduceBEq, reduceCtorEq, Int.reduceLT, Int.reduceLE, Int.reduceEq, Int.reduceNe, Nat.reducePow]
        try rfl
      · simp -implicitDefEqProofs (maxDischargeDepth := 4) only [go_sem, ↓reduceIte, Nat.reduceLT, Nat.reduceAdd, Nat.reduceMul, Nat.reduceSub, Nat.reduceEqDiff, Nat.reduceLeDiff, Nat.reduceBEq, reduceCtorEq, Int.reduceLT, Int.reduceLE, Int.reduceEq, Int.reduceNe, Nat.reducePow]
        try rfl
      · simp -implicitDefEqProofs (maxDischargeDepth := 4) only [go_sem, ↓reduceIte, Nat.reduceLT, Nat.reduceAdd, Nat.reduceMul, Nat.reduceSub, Nat.reduceEqDiff, Nat.reduceLeDiff, Nat.reduceBEq, reduceCtorEq, Int.reduceLT, Int.reduceLE, Int.reduceEq, Int.reduceNe, Nat.reducePow]
    · simp -implicitDefEqProofs (maxDischargeDepth := 4) only [go_sem, ↓reduceIte, Nat.reduceLT, Nat.reduceAdd, Nat.reduceMul, Nat.reduceSub, Nat.reduceEqDiff, Nat.reduceLeDiff, Nat.reduceBEq, reduceCtorEq, Int.reduceLT, Int.reduceLE, Int.reduceEq, Int.reduceNe, Nat.reducePow, elAt_eq, stV_eq, cellsB_cells, hp_get_r, hp_get_r0, hp_get_l, hp_set_r, hp_set_r0, hp_set_l, hp_one, hp_ne, List.drop_succ_cons, List.drop_zero, List.take_succ_cons, List.take_zero, F.f0, F.f5, F.f7, f8, f9, f10, hns.sl.shr, hns.sl.notOwn, hat, hs.shr, hs.notOwn, elP_Sl hs, alen_sl hs, List.length_map, hlt, e1, build63', hap8, hap9, w3, Nat.zero_le, Nat.not_lt_zero]
      refine next _ _ (F.of fun t ht => ?_) ?_ ?_ ?_
      · rcases ht with rfl | rfl | rfl | rfl <;> simp -implicitDefEqProofs (maxDischargeDepth := 4) only [go_sem, ↓reduceIte, Nat.reduceLT, Nat.reduceAdd, Nat.reduceMul, Nat.reduceSub, Nat.reduceEqDiff, Nat.reduceLeDiff, Nat.reduceBEq, reduceCtorEq, Int.reduceLT, Int.reduceLE, Int.reduceEq, Int.reduceNe, Nat.reducePow]
      · simp -implicitDefEqProofs (maxDischargeDepth := 4) only [go_sem, ↓reduceIte, Nat.reduceLT, Nat.reduceAdd, Nat.reduceMul, Nat.reduceSub, Nat.reduceEqDiff, Nat.reduceLeDiff, Nat.reduceBEq, reduceCtorEq, Int.reduceLT, Int.reduceLE, Int.reduceEq, Int.reduceNe, Nat.reducePow]
        try rfl
      · simp -implicitDefEqProofs (maxDischargeDepth := 4) only [go_sem, ↓reduceIte, Nat.reduceLT, Nat.reduceAdd, Nat.reduceMul, Nat.reduceSub, Nat.reduceEqDiff, Nat.reduceLeDiff, Nat.reduceBEq, reduceCtorEq, Int.reduceLT, Int.reduceLE, Int.reduceEq, Int.reduceNe, Nat.reducePow]
        try rfl
      · simp -implicitDefEqProofs (maxDischargeDepth := 4) only [go_sem, ↓reduceIte, Nat.reduceLT, Nat.reduceAdd, Nat.reduceMul, Nat.reduceSub, Nat.reduceEqDiff, Nat.reduceLeDiff, Nat.reduceBEq, reduceCtorEq, Int.reduceLT, Int.reduceLE, Int.reduceEq, Int.reduceNe, Nat.reducePow]
end Go.Abs.Tab

/- Duals: the document's table: node by node. -/
set_option linter.unusedVariables false
namespace Go.Abs.Tab
open Go.Gr
theorem get_ds {ds : List Nd} {j : Nat} {y : Nd} (h : ds[j]? = some y) : (ds.map nodeV)[j]? = some (nodeV y) := by rw [List.getElem?_map, h]; rfl
theorem at56 {L j : Nat} (h : j < L) {J : Int} (hJ : J = j) : aindexAddr cx.T 56 (.sl 0 6 0 L L) (iv J) = some (.ptr 0 j 0) := by
  rw [aindexAddr_blk sl56 hJ h, Nat.zero_add]
theorem put_whole {ds : List Nd} {j : Nat} {z y : Nd} (hz : ds[j]? = some z) : stV 0 [dsB ds] true 6 (.ptr 0 j 0) (nodeV y) = some [dsB (ds.set j y)] := by
  rw [stV_eq, if_neg (by decide)]
  simp only [List.getElem?_cons_zero, cellsB_cells, xbind_some, get_ds hz]
  rw [elS_whole (sz := 6) (l := nodeC z) (c := nodeC y) rfl rfl, xbind_some, List.set_cons_zero, set_ds]
theorem put_kind {ds : List Nd} {j : Nat} {z : Nd} (hz : ds[j]? = some z) (k : Int) : stV 0 [dsB ds] false 1 (.ptr 0 j 0) (iv k) = some [dsB (ds.set j { z with kind := k })] := by
  rw [stV_eq, if_neg (by decide)]
  simp only [List.getElem?_cons_zero, cellsB_cells, xbind_some, get_ds hz]
  rw [elS_cell (fitA_int _ _) (show 0 < (nodeC z).length from Nat.succ_pos 5), xbind_some, List.set_cons_zero]
  show _ = some [ABlock.cells 6 66 ((ds.set j { z with kind := k }).map nodeV)]
  rw [← set_ds]; rfl
theorem put_next {ds : List Nd} {j : Nat} {z : Nd} (hz : ds[j]? = some z) {w : AV} {es : List (Int × Int)} (hw : Sl 2 w (es.map ed)) : stV 0 [dsB ds] false 1 (.ptr 0 j 5) w = some [dsB (ds.set j { z with es := es, nx := w })] := by
  rw [stV_eq, if_neg (by decide)]
  simp only [List.getElem?_cons_zero, cellsB_cells, xbind_some, get_ds hz]
  rw [elS_cell hw.fitA (show 5 < (nodeC z).length from Nat.lt_succ_self 5), xbind_some, List.set_cons_zero]
  show _ = some [ABlock.cells 6 66 ((ds.set j { z with es := es, nx := w }).map nodeV)]
  rw [← set_ds]; rfl
structure R5 (fr : PT) (a : AV) (n L i : Nat) (w8 w9 : AV) : Prop extends RFr fr a n L i where
  f8 : fr.get 8 = w8
  f9 : fr.get 9 = w9
theorem R5.of {fr fr' : PT} {a w8 w9 : AV} {n L i : Nat} (F : R5 fr a n L i w8 w9) (h : ∀ t, (t = 0 ∨ t = 5 ∨ t = 6 ∨ t = 7 ∨ t = 8 ∨ t = 9) → fr'.get t = fr.get t) : R5 fr' a n L i w8 w9 :=
  ⟨⟨by rw [h 0 (by simp), F.f0], by rw [h 5 (by simp), F.f5], by rw [h 6 (by simp), F.f6], by rw [h 7 (by simp), F.f7]⟩, by rw [h 8 (by simp), F.f8], by rw [h 9 (by simp), F.f9]⟩
theorem write55 {ns : List Nd} {a w8 w9 : AV} (hns : NsOk ns a) {n L i : Nat} (hn : n ≤ 64) (hi : i < n) (hL : n + i < L) {x : Nd} (hx : ns[i]? = some x) {es9 : List (Int × Int)} (h8 : Grow 2 w8 (x.es.map ed)) (h9 : Grow 2 w9 (es9.map ed)) {ds : List Nd} (hds : ds.length = L) {fr : PT} (F : R5 fr a n L i w8 w9) :
    ∃ fr' : PT, ex cx D 0 55 102 (.seq (.region 16 g55_15 false) (.seq (.region 17 g55_16 false) (.seq (.region 18 g55_17 false) (.seq (.region 19 g55_18 false) (.region 20 g55_19 false))))) fr [dsB ds] =
      some (.normal, fr', [dsB ((ds.set i { x with nx := shr w8 }).set (n + i) { x with kind := dk x.kind, es := es9, nx := shr w9 })]) ∧ R5 fr' a n L i w8 w9 := by
  have hs : Sl 2 x.nx (x.es.map ed) := hns.ok x (List.mem_of_getElem? hx)
  have hat := hns.at hx
  have wni : wrapK .i64 ((n : Int) + i) = ((n + i : Nat) : Int) := by rw [wrapK_i64 (by omega) (by omega)]; omega
  have a1 : aindexAddr cx.T 56 (.sl 0 6 0 L L) (iv i) = some (.ptr 0 i 0) := at56 (by omega) rfl
  have a2 : aindexAddr cx.T 56 (.sl 0 6 0 L L) (iv (n + i : Nat)) = some (.ptr 0 (n + i) 0) := at56 hL rfl
  have s8 := h8.sl
  have s9 := h9.sl
  obtain ⟨z, hz⟩ := ex_nd (ns := ds) (i := i) (by omega)
  obtain ⟨fr1, e1, F1⟩ : ∃ fr' : PT, ex cx D 0 55 102 (.region 16 g55_15 false) fr [dsB (ds)] = some (.normal, fr', [dsB (ds.set i x)]) ∧ R5 fr' a n L i w8 w9 := by
    have hp := put_whole hz (y := x)
    simp -implicitDefEqProofs (maxDischargeDepth := 4) only [go_sem, ↓reduceIte, Nat.reduceLT, Nat.reduceAdd, Nat.reduceMul, Nat.reduceSub, Nat.reduceEqDiff, Nat.reduceLeDiff, Nat.reduceBEq, reduceCtorEq, Int.reduceLT, Int.reduceLE, Int.reduceEq, Int.reduceNe, Nat.reducePow, F.f0, F.f5, F.f6, F.f7, F.f8, F.f9, hns.sl.shr, hns.sl.notOwn, hat, hs.shr, hs.drp, wni, a1, a2, hp, ldA_vp, stW_not, s8.notOwn, s8.shr, s8.drp, s9.notOwn, s9.shr, s9.drp, List.drop_zero, List.take_succ_cons, List.take_zero, mvV_false]
    refine ⟨_, rfl, F.of fun t ht => ?_⟩
    rcases ht with rfl | rfl | rfl | rfl | rfl | rfl <;> simp -implicitDefEqProofs (maxDischargeDepth := 4) only [go_sem, ↓reduceIte, Nat.reduceLT, Nat.reduceAdd, Nat.reduceMul, Nat.reduceSub, Nat.reduceEqDiff, Nat.reduceLeDiff, Nat.reduceBEq, reduceCtorEq, Int.reduceLT, Int.reduceLE, Int.reduceEq, Int.reduceNe, Nat.reducePow]
  have z1 : (ds.set i x)[i]? = some x := by rw [List.getElem?_set_self (by omega)]
  obtain ⟨fr2, e2, F2⟩ : ∃ fr' : PT, ex cx D 0 55 102 (.region 17 g55_16 false) fr1 [dsB (ds.set i x)] = some (.normal, fr', [dsB ((ds.set i x).set i { x with es := x.es, nx := shr w8 })]) ∧ R5 fr' a n L i w8 w9 := by
    have hp := put_next z1 s8
    simp -implicitDefEqProofs (maxDischargeDepth := 4) only [go_sem, ↓reduceIte, Nat.reduceLT, Nat.reduceAdd, Nat.reduceMul, Nat.reduceSub, Nat.reduceEqDiff, Nat.reduceLeDiff, Nat.reduceBEq, reduceCtorEq, Int.reduceLT, Int.reduceLE, Int.reduceEq, Int.reduceNe, Nat.reducePow, F1.f0, F1.f5, F1.f6, F1.f7, F1.f8, F1.f9, hns.sl.shr, hns.sl.notOwn, hat, hs.shr, hs.drp, wni, a1, a2, hp, ldA_vp, stW_not, s8.notOwn, s8.shr, s8.drp, s9.notOwn, s9.shr, s9.drp, List.drop_zero, List.take_succ_cons, List.take_zero, mvV_false]
    refine ⟨_, rfl, F1.of fun t ht => ?_⟩
    rcases ht with rfl | rfl | rfl | rfl | rfl | rfl <;> simp -implicitDefEqProofs (maxDischargeDepth := 4) only [go_sem, ↓reduceIte, Nat.reduceLT, Nat.reduceAdd, Nat.reduceMul, Nat.reduceSub, Nat.reduceEqDiff, Nat.reduceLeDiff, Nat.reduceBEq, reduceCtorEq, Int.reduceLT, Int.reduceLE, Int.reduceEq, Int.reduceNe, Nat.reducePow]
  obtain ⟨z2, hz2⟩ := ex_nd (ns := (ds.set i x).set i { x with es := x.es, nx := shr w8 }) (i := n + i) (by simp only [List.length_set]; omega)
  obtain ⟨fr3, e3, F3⟩ : ∃ fr' : PT, ex cx D 0 55 102 (.region 18 g55_17 false) fr2 [dsB ((ds.set i x).set i { x with es := x.es, nx := shr w8 })] = some (.normal, fr', [dsB (((ds.set i x).set i { x with es := x.es, nx := shr w8 }).set (n + i) x)]) ∧ R5 fr' a n L i w8 w9 := by
    have hp := put_whole hz2 (y := x)
    simp -implicitDefEqProofs (maxDischargeDepth := 4) only [go_sem, ↓reduceIte, Nat.reduceLT, Nat.reduceAdd, Nat.reduceMul, Nat.reduceSub, Nat.reduceEqDiff, Nat.reduceLeDiff, Nat.reduceBEq, reduceCtorEq, Int.reduceLT, Int.reduceLE, Int.reduceEq, Int.reduceNe, Nat.reducePow, F2.f0, F2.f5, F2.f6, F2.f7, F2.f8, F2.f9, hns.sl.shr, hns.sl.notOwn, hat, hs.shr, hs.drp, wni, a1, a2, hp, ldA_vp, stW_not, s8.notOwn, s8.shr, s8.drp, s9.notOwn, s9.shr, s9.drp, List.drop_zero, List.take_succ_cons, List.take_zero, mvV_false]
    refine ⟨_, rfl, F2.of fun t ht => ?_⟩
    rcases ht with rfl | rfl | rfl | rfl | rfl | rfl <;> simp -implicitDefEqProofs (maxDischargeDepth := 4) only [go_sem, ↓reduceIte, Nat.reduceLT, Nat.reduceAdd, Nat.reduceMul, Nat.reduceSub, Nat.reduceEqDiff, Nat.reduceLeDiff, Nat.reduceBEq, reduceCtorEq, Int.reduceLT, Int.reduceLE, Int.reduceEq, Int.reduceNe, Nat.reducePow]
  have z3 : (((ds.set i x).set i { x with es := x.es, nx := shr w8 }).set (n + i) x)[n + i]? = some x := by rw [List.getElem?_set_self (by simp only [List.length_set]; omega)]
  obtain ⟨fr4, e4, F4⟩ : ∃ fr' : PT, ex cx D 0 55 102 (.region 19 g55_18 false) fr3 [dsB (((ds.set i x).set i { x with es := x.es, nx := shr w8 }).set (n + i) x)] = some (.normal, fr', [dsB ((((ds.set i x).set i { x with es := x.es, nx := shr w8 }).set (n + i) x).set (n + i) { x with kind := dk x.kind })]) ∧ R5 fr' a n L i w8 w9 := by
    have hp := put_kind z3 (dk x.kind)
    simp -implicitDefEqProofs (maxDischargeDepth := 4) only [go_sem, ↓reduceIte, Nat.reduceLT, Nat.reduceAdd, Nat.reduceMul, Nat.reduceSub, Nat.reduceEqDiff, Nat.reduceLeDiff, Nat.reduceBEq, reduceCtorEq, Int.reduceLT, Int.reduceLE, Int.reduceEq, Int.reduceNe, Nat.reducePow, F3.f0, F3.f5, F3.f6, F3.f7, F3.f8, F3.f9, hns.sl.shr, hns.sl.notOwn, hat, hs.shr, hs.drp, wni, a1, a2, hp, ldA_vp, stW_not, s8.notOwn, s8.shr, s8.drp, s9.notOwn, s9.shr, s9.drp, List.drop_zero, List.take_succ_cons, List.take_zero, mvV_false, kind_ok]
    refine ⟨_, rfl, F3.of fun t ht => ?_⟩
    rcases ht with rfl | rfl | rfl | rfl | rfl | rfl <;> simp -implicitDefEqProofs (maxDischargeDepth := 4) only [go_sem, ↓reduceIte, Nat.reduceLT, Nat.reduceAdd, Nat.reduceMul, Nat.reduceSub, Nat.reduceEqDiff, Nat.reduceLeDiff, Nat.reduceBEq, reduceCtorEq, Int.reduceLT, Int.reduceLE, Int.reduceEq, Int.reduceNe, Nat.reducePow]
  have z4 : ((((ds.set i x).set i { x with es := x.es, nx := shr w8 }).set (n + i) x).set (n + i) { x with kind := dk x.kind })[n + i]? = some { x with kind := dk x.kind } := by rw [List.getElem?_set_self (by simp only [List.length_set]; omega)]
  obtain ⟨fr5, e5, F5⟩ : ∃ fr' : PT, ex cx D 0 55 102 (.region 20 g55_19 false) fr4 [dsB ((((ds.set i x).set i { x with es := x.es, nx := shr w8 }).set (n + i) x).set (n + i) { x with kind := dk x.kind })] = some (.normal, fr', [dsB (((((ds.set i x).set i { x with es := x.es, nx := shr w8 }).set (n + i) x).set (n + i) { x with kind := dk x.kind }).set (n + i) { x with kind := dk x.kind, es := es9, nx := shr w9 })]) ∧ R5 fr' a n L i w8 w9 := by
    have hp := put_next z4 s9
    simp -implicitDefEqProofs (maxDischargeDepth := 4) only [go_sem, ↓reduceIte, Nat.reduceLT, Nat.reduceAdd, Nat.reduceMul, Nat.reduceSub, Nat.reduceEqDiff, Nat.reduceLeDiff, Nat.reduceBEq, reduceCtorEq, Int.reduceLT, Int.reduceLE, Int.reduceEq, Int.reduceNe, Nat.reducePow, F4.f0, F4.f5, F4.f6, F4.f7, F4.f8, F4.f9, hns.sl.shr, hns.sl.notOwn, hat, hs.shr, hs.drp, wni, a1, a2, hp, ldA_vp, stW_not, s8.notOwn, s8.shr, s8.drp, s9.notOwn, s9.shr, s9.drp, List.drop_zero, List.take_succ_cons, List.take_zero, mvV_false]
    refine ⟨_, rfl, F4.of fun t ht => ?_⟩
    rcases ht with rfl | rfl | rfl | rfl | rfl | rfl <;> simp -implicitDefEqProofs (maxDischargeDepth := 4) only [go_sem, ↓reduceIte, Nat.reduceLT, Nat.reduceAdd, Nat.reduceMul, Nat.reduceSub, Nat.reduceEqDiff, Nat.reduceLeDiff, Nat.reduceBEq, reduceCtorEq, Int.reduceLT, Int.reduceLE, Int.reduceEq, Int.reduceNe, Nat.reducePow]
  refine ⟨fr5, ?_, F5⟩
  rw [x_cont1 e1, x_cont1 e2, x_cont1 e3, x_cont1 e4, e5]
  simp only [List.set_set]
end Go.Abs.Tab
