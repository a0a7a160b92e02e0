/- Where types lead: the document's Resolve. -/
import Derived.Test.YtiinagmombigpaaGraA
import Derived.Test.YtiinagmombigpaaGraF
set_option linter.unusedSimpArgs false
set_option linter.unusedVariables false
set_option linter.unnecessarySimpa false

/- Where types lead: the document's Resolve. -/
set_option linter.unusedVariables false
namespace Go.Abs.Tab
open Go.Gr
abbrev nodeV (x : Nd) : AV := .agg (nodeC x)
abbrev tyV (r : Int × Int) : AV := .agg [iv r.1, iv r.2]
structure NsOk (ns : List Nd) (a : AV) : Prop where
  sl : Sl 6 a (ns.map nodeV)
  ok : ∀ x ∈ ns, NdOk x
  ln : ns.length < 2 ^ 30
theorem build61 (a b : Int) : abuild cx.T 61 [(0, iv a), (1, iv b)] = some (.agg [iv a, iv b]) := nr (by kernel_rfl)
theorem build61a (a : Int) : abuild cx.T 61 [(0, iv a)] = some (.agg [iv a, iv 0]) := nr (by kernel_rfl)
theorem build61b (b : Int) : abuild cx.T 61 [(1, iv b)] = some (.agg [iv 0, iv b]) := nr (by kernel_rfl)
theorem NsOk.at {ns : List Nd} {a : AV} (h : NsOk ns a) {m : Nat} {x : Nd} (hx : ns[m]? = some x) : aindexAddr cx.T 56 a (iv m) = some (.vp (nodeV x) 0) := by
  have hm := (List.getElem?_eq_some_iff.1 hx).1
  rw [aindexAddr_sl h.sl sl56 (by rw [List.length_map]; exact hm) rfl]
  rw [List.getD_eq_getElem?_getD, List.getElem?_map, hx]; rfl
theorem atN_cases {ns : List Nd} (n : Int) : (atN ns n = none ∧ (n < 0 ∨ (ns.length : Int) ≤ n)) ∨ ∃ (m : Nat) (x : Nd), n = m ∧ m < ns.length ∧ ns[m]? = some x ∧ atN ns n = some x := by
  unfold atN
  by_cases h : n < 0
  · exact .inl ⟨by rw [if_pos h], .inl h⟩
  · rw [if_neg h]
    by_cases h2 : (ns.length : Int) ≤ n
    · exact .inl ⟨List.getElem?_eq_none (by omega), .inr h2⟩
    · have hlt : n.toNat < ns.length := by omega
      exact .inr ⟨n.toNat, _, by omega, hlt, List.getElem?_eq_getElem hlt, List.getElem?_eq_getElem hlt⟩

theorem wlk_out {ns : List Nd} {k : Nat} {n o : Int} (ha : atN ns n = none) : wlk ns (k + 1) n o = (-1, 0) := by simp only [wlk, nxt, ha]
theorem wlk_ne {ns : List Nd} {k : Nat} {n o : Int} {x : Nd} (ha : atN ns n = some x) (h : x.kind ≠ 5) : wlk ns (k + 1) n o = (n, o) := by simp only [wlk, nxt, ha, h, if_false]
theorem wlk_one {ns : List Nd} {k : Nat} {n o : Int} {x : Nd} {e : Int × Int} (ha : atN ns n = some x) (h : x.kind = 5) (he : x.es = [e]) : wlk ns (k + 1) n o = wlk ns k e.1 (wrapK .i64 (o + e.2)) := by simp only [wlk, nxt, ha, h, if_true, he]
theorem wlk_bad {ns : List Nd} {k : Nat} {n o : Int} {x : Nd} (ha : atN ns n = some x) (h : x.kind = 5) (hl : x.es.length ≠ 1) : wlk ns (k + 1) n o = (-1, 0) := by
  have hn : nxt ns n = none := by
    unfold nxt
    simp only [ha, h, if_true]
    split
    · rename_i he; rw [he] at hl; exact absurd rfl hl
    · rfl
  simp only [wlk, hn, ha, h, if_true]
theorem kill_ptr {b i j m : Nat} (h : b < m) : kill m (.ptr b i j) = .ptr b i j := by
  show (if b < m then _ else _) = _; rw [if_pos h]
theorem x_assoc {cx : Cx} {h : Hd} {ro fn nt : Nat} {fr : PT} {H : Hp} (a b c : Code) : ex cx h ro fn nt (.seq (.seq a b) c) fr H = ex cx h ro fn nt (.seq a (.seq b c)) fr H := by
  rw [x_seq, x_seq, x_seq]
  cases ex cx h ro fn nt a fr H with
  | none => rfl
  | some r =>
    obtain ⟨e, fr1, H1⟩ := r
    cases e with
    | normal => rw [xbind_some, xbind_some, contR_normal, contR_normal, x_seq]
    | _ => rfl
structure RsFr (fr : PT) (a : AV) (i : Nat) : Prop where
  f0 : fr.get 0 = a
  f3 : fr.get 3 = .ptr 0 0 0
  f4 : fr.get 4 = .ptr 1 0 0
  f5 : fr.get 5 = iv i
theorem rres_loop {ns : List Nd} {a : AV} (hns : NsOk ns a) : ∀ (k i : Nat) (fr : PT) (G : Hp) (n o : Int), ns.length + 1 - i = k → i ≤ ns.length + 1 → G.length = 2 →
    G[0]? = some (.cells 2 61 [tyV (n, o)]) → G[1]? = some (.cells 2 61 [tyV (0, 0)]) → RsFr fr a i →
    ∃ e fr' G', D.loop 0 52 53 l52_0 fr G = some (e, fr', G') ∧ fr'.get 4 = .ptr 1 0 0 ∧ 1 < G'.length ∧ ((e = .ret ∧ G'[1]? = some (.cells 2 61 [tyV (wlk ns k n o)])) ∨ (e = .exit 0 ∧ G'[1]? = some (.cells 2 61 [tyV (0, 0)]) ∧ wlk ns k n o = (-1, 0)))
  | 0, i, fr, G, n, o, hk, hi, hG, h0, h1, F => by
    have hn : ¬ ((i : Int) ≤ (ns.length : Int)) := by omega
    rw [dl52_0]
    simp -implicitDefEqProofs (maxDischargeDepth := 4) only [go_sem, ↓reduceIte, Nat.reduceLT, Nat.reduceAdd, Nat.reduceMul, Nat.reduceSub, Nat.reduceEqDiff, Nat.reduceLeDiff, Nat.reduceBEq, reduceCtorEq, Int.reduceLT, Int.reduceLE, Int.reduceEq, Int.reduceNe, Nat.reducePow, F.f0, F.f3, F.f4, F.f5, hns.sl.shr, hns.sl.notOwn, alen_sl hns.sl, List.length_map, hn]
    exact ⟨_, _, _, rfl, by simp -implicitDefEqProofs (maxDischargeDepth := 4) only [go_sem, ↓reduceIte, Nat.reduceLT, Nat.reduceAdd, Nat.reduceMul, Nat.reduceSub, Nat.reduceEqDiff, Nat.reduceLeDiff, Nat.reduceBEq, reduceCtorEq, Int.reduceLT, Int.reduceLE, Int.reduceEq, Int.reduceNe, Nat.reducePow, F.f4], by rw [hG]; decide, .inr ⟨rfl, h1, rfl⟩⟩
  | k + 1, i, fr, G, n, o, hk, hi, hG, h0, h1, F => by
    have hn : ((i : Int) ≤ (ns.length : Int)) := by omega
    have e3 : wrapK .i64 ((i : Int) + 1) = ((i + 1 : Nat) : Int) := by
      have := hns.ln
      rw [wrapK_i64 (by omega) (by omega)]; rfl
    rw [dl52_0]
    rcases atN_cases (ns := ns) n with ⟨ha, hor⟩ | ⟨m, x, rfl, hm, hx, ha⟩
    · have hw : wlk ns (k + 1) n o = (-1, 0) := wlk_out ha
      rw [hw]
      by_cases h2 : n < 0
      · simp -implicitDefEqProofs (maxDischargeDepth := 4) only [go_sem, ↓reduceIte, Nat.reduceLT, Nat.reduceAdd, Nat.reduceMul, Nat.reduceSub, Nat.reduceEqDiff, Nat.reduceLeDiff, Nat.reduceBEq, reduceCtorEq, Int.reduceLT, Int.reduceLE, Int.reduceEq, Int.reduceNe, Nat.reducePow, elAt_eq, stV_eq, cellsB_cells, hp_get_r, hp_get_r0, hp_get_l, hp_set_r, hp_set_r0, hp_set_l, hp_one, hp_ne, List.drop_succ_cons, List.drop_zero, List.take_succ_cons, List.take_zero, F.f0, F.f3, F.f4, F.f5, hns.sl.shr, hns.sl.notOwn, alen_sl hns.sl, List.length_map, hn, h0, h1, hG, h2, build61a]
        exact ⟨_, _, _, rfl, by simp -implicitDefEqProofs (maxDischargeDepth := 4) only [go_sem, ↓reduceIte, Nat.reduceLT, Nat.reduceAdd, Nat.reduceMul, Nat.reduceSub, Nat.reduceEqDiff, Nat.reduceLeDiff, Nat.reduceBEq, reduceCtorEq, Int.reduceLT, Int.reduceLE, Int.reduceEq, Int.reduceNe, Nat.reducePow, F.f4], by rw [List.length_set, hG]; decide, .inl ⟨rfl, by rw [hp_one (by rw [hG]; decide)]⟩⟩
      · have h3 : (ns.length : Int) ≤ n := by omega
        simp -implicitDefEqProofs (maxDischargeDepth := 4) only [go_sem, ↓reduceIte, Nat.reduceLT, Nat.reduceAdd, Nat.reduceMul, Nat.reduceSub, Nat.reduceEqDiff, Nat.reduceLeDiff, Nat.reduceBEq, reduceCtorEq, Int.reduceLT, Int.reduceLE, Int.reduceEq, Int.reduceNe, Nat.reducePow, elAt_eq, stV_eq, cellsB_cells, hp_get_r, hp_get_r0, hp_get_l, hp_set_r, hp_set_r0, hp_set_l, hp_one, hp_ne, List.drop_succ_cons, List.drop_zero, List.take_succ_cons, List.take_zero, F.f0, F.f3, F.f4, F.f5, hns.sl.shr, hns.sl.notOwn, alen_sl hns.sl, List.length_map, hn, h0, h1, hG, h2, build61a, h3]
        exact ⟨_, _, _, rfl, by simp -implicitDefEqProofs (maxDischargeDepth := 4) only [go_sem, ↓reduceIte, Nat.reduceLT, Nat.reduceAdd, Nat.reduceMul, Nat.reduceSub, Nat.reduceEqDiff, Nat.reduceLeDiff, Nat.reduceBEq, reduceCtorEq, Int.reduceLT, Int.reduceLE, Int.reduceEq, Int.reduceNe, Nat.reducePow, F.f4], by rw [List.length_set, hG]; decide, .inl ⟨rfl, by rw [hp_one (by rw [hG]; decide)]⟩⟩
    · have h2 : ¬ (m : Int) < 0 := by omega
      have h3 : ¬ (ns.length : Int) ≤ (m : Int) := by omega
      have hat := hns.at hx
      have hs : Sl 2 x.nx (x.es.map ed) := hns.ok x (List.mem_of_getElem? hx)
      by_cases hk5 : x.kind = 5
      · by_cases hl1 : x.es.length = 1
        · obtain ⟨e, he⟩ := List.length_eq_one_iff.1 hl1
          have hw : wlk ns (k + 1) m o = wlk ns k e.1 (wrapK .i64 (o + e.2)) := wlk_one ha hk5 he
          have hat2 : aindexAddr cx.T 64 x.nx (iv 0) = some (.vp (ed e) 0) := by
            have := at_ed hs (show 0 < x.es.length by omega)
            rw [he] at this; exact this
          rw [hw]
          simp -implicitDefEqProofs (maxDischargeDepth := 4) only [go_sem, ↓reduceIte, Nat.reduceLT, Nat.reduceAdd, Nat.reduceMul, Nat.reduceSub, Nat.reduceEqDiff, Nat.reduceLeDiff, Nat.reduceBEq, reduceCtorEq, Int.reduceLT, Int.reduceLE, Int.reduceEq, Int.reduceNe, Nat.reducePow, elAt_eq, stV_eq, cellsB_cells, hp_get_r, hp_get_r0, hp_get_l, hp_set_r, hp_set_r0, hp_set_l, hp_one, hp_ne, List.drop_succ_cons, List.drop_zero, List.take_succ_cons, List.take_zero, F.f0, F.f3, F.f4, F.f5, hns.sl.shr, hns.sl.notOwn, alen_sl hns.sl, List.length_map, hn, h0, h1, hG, h2, build61a, h3, hat, hs.shr, hs.notOwn, hs.drp, hs.fitA, elP_Sl hs, alen_sl hs, hk5, hl1, hat2, e3, Int.natCast_one, nbeq, build61]
          refine trim_gen (P := fun q => ∃ e1 fr' G', q = some (e1, fr', G') ∧ fr'.get 4 = .ptr 1 0 0 ∧ 1 < G'.length ∧ ((e1 = .ret ∧ G'[1]? = some (.cells 2 61 [tyV (wlk ns k e.1 (wrapK .i64 (o + e.2)))])) ∨ (e1 = .exit 0 ∧ G'[1]? = some (.cells 2 61 [tyV (0, 0)]) ∧ wlk ns k e.1 (wrapK .i64 (o + e.2)) = (-1, 0))))
            [0, 3, 4, 5] ?_ (fun t ht => ?_) fun fr' G' hG' hf hk' => rres_loop hns k (i + 1) fr' G' e.1 (wrapK .i64 (o + e.2)) (by omega) (by omega) hG' (hk' 0 _ (by decide) ?_ rfl) (hk' 1 _ (by decide) ?_ rfl) ⟨?_, ?_, ?_, ?_⟩
          · rw [List.length_append, List.length_set, hG]; exact Nat.le_add_right _ _
          · simp only [List.mem_cons, List.not_mem_nil, or_false] at ht
            rcases ht with rfl | rfl | rfl | rfl <;> simp -implicitDefEqProofs (maxDischargeDepth := 4) only [go_sem, ↓reduceIte, Nat.reduceLT, Nat.reduceAdd, Nat.reduceMul, Nat.reduceSub, Nat.reduceEqDiff, Nat.reduceLeDiff, Nat.reduceBEq, reduceCtorEq, Int.reduceLT, Int.reduceLE, Int.reduceEq, Int.reduceNe, Nat.reducePow, F.f0, F.f3, F.f4, kill_Sl hns.sl, kill_lit, kill_ptr]
          · rw [hp_get_l (by rw [List.length_set, hG]; decide), hp_one (by rw [hG]; decide)]
          · rw [hp_get_l (by rw [List.length_set, hG]; decide), hp_ne (by decide), h1]
          · rw [hf 0 (by simp)]; simp -implicitDefEqProofs (maxDischargeDepth := 4) only [go_sem, ↓reduceIte, Nat.reduceLT, Nat.reduceAdd, Nat.reduceMul, Nat.reduceSub, Nat.reduceEqDiff, Nat.reduceLeDiff, Nat.reduceBEq, reduceCtorEq, Int.reduceLT, Int.reduceLE, Int.reduceEq, Int.reduceNe, Nat.reducePow, F.f0]
          · rw [hf 3 (by simp)]; simp -implicitDefEqProofs (maxDischargeDepth := 4) only [go_sem, ↓reduceIte, Nat.reduceLT, Nat.reduceAdd, Nat.reduceMul, Nat.reduceSub, Nat.reduceEqDiff, Nat.reduceLeDiff, Nat.reduceBEq, reduceCtorEq, Int.reduceLT, Int.reduceLE, Int.reduceEq, Int.reduceNe, Nat.reducePow, F.f3]
          · rw [hf 4 (by simp)]; simp -implicitDefEqProofs (maxDischargeDepth := 4) only [go_sem, ↓reduceIte, Nat.reduceLT, Nat.reduceAdd, Nat.reduceMul, Nat.reduceSub, Nat.reduceEqDiff, Nat.reduceLeDiff, Nat.reduceBEq, reduceCtorEq, Int.reduceLT, Int.reduceLE, Int.reduceEq, Int.reduceNe, Nat.reducePow, F.f4]
          · rw [hf 5 (by simp)]; simp -implicitDefEqProofs (maxDischargeDepth := 4) only [go_sem, ↓reduceIte, Nat.reduceLT, Nat.reduceAdd, Nat.reduceMul, Nat.reduceSub, Nat.reduceEqDiff, Nat.reduceLeDiff, Nat.reduceBEq, reduceCtorEq, Int.reduceLT, Int.reduceLE, Int.reduceEq, Int.reduceNe, Nat.reducePow]
        · have hl1' : ¬ (x.es.length : Int) = 1 := by omega
          have hw : wlk ns (k + 1) m o = (-1, 0) := wlk_bad ha hk5 hl1
          rw [hw]
          simp -implicitDefEqProofs (maxDischargeDepth := 4) only [go_sem, ↓reduceIte, Nat.reduceLT, Nat.reduceAdd, Nat.reduceMul, Nat.reduceSub, Nat.reduceEqDiff, Nat.reduceLeDiff, Nat.reduceBEq, reduceCtorEq, Int.reduceLT, Int.reduceLE, Int.reduceEq, Int.reduceNe, Nat.reducePow, elAt_eq, stV_eq, cellsB_cells, hp_get_r, hp_get_r0, hp_get_l, hp_set_r, hp_set_r0, hp_set_l, hp_one, hp_ne, List.drop_succ_cons, List.drop_zero, List.take_succ_cons, List.take_zero, F.f0, F.f3, F.f4, F.f5, hns.sl.shr, hns.sl.notOwn, alen_sl hns.sl, List.length_map, hn, h0, h1, hG, h2, build61a, h3, hat, hs.shr, hs.notOwn, hs.drp, hs.fitA, elP_Sl hs, alen_sl hs, hk5, hl1']
          exact ⟨_, _, _, rfl, by simp -implicitDefEqProofs (maxDischargeDepth := 4) only [go_sem, ↓reduceIte, Nat.reduceLT, Nat.reduceAdd, Nat.reduceMul, Nat.reduceSub, Nat.reduceEqDiff, Nat.reduceLeDiff, Nat.reduceBEq, reduceCtorEq, Int.reduceLT, Int.reduceLE, Int.reduceEq, Int.reduceNe, Nat.reducePow, F.f4], by simp [hG], .inl ⟨rfl, by rw [hp_get_l (by rw [List.length_set, hG]; decide), hp_one (by rw [hG]; decide)]⟩⟩
      · have hw : wlk ns (k + 1) m o = ((m : Int), o) := wlk_ne ha hk5
        rw [hw]
        simp -implicitDefEqProofs (maxDischargeDepth := 4) only [go_sem, ↓reduceIte, Nat.reduceLT, Nat.reduceAdd, Nat.reduceMul, Nat.reduceSub, Nat.reduceEqDiff, Nat.reduceLeDiff, Nat.reduceBEq, reduceCtorEq, Int.reduceLT, Int.reduceLE, Int.reduceEq, Int.reduceNe, Nat.reducePow, elAt_eq, stV_eq, cellsB_cells, hp_get_r, hp_get_r0, hp_get_l, hp_set_r, hp_set_r0, hp_set_l, hp_one, hp_ne, List.drop_succ_cons, List.drop_zero, List.take_succ_cons, List.take_zero, F.f0, F.f3, F.f4, F.f5, hns.sl.shr, hns.sl.notOwn, alen_sl hns.sl, List.length_map, hn, h0, h1, hG, h2, build61a, h3, hat, hs.shr, hs.notOwn, hs.drp, hs.fitA, elP_Sl hs, alen_sl hs, hk5]
        exact ⟨_, _, _, rfl, by simp -implicitDefEqProofs (maxDischargeDepth := 4) only [go_sem, ↓reduceIte, Nat.reduceLT, Nat.reduceAdd, Nat.reduceMul, Nat.reduceSub, Nat.reduceEqDiff, Nat.reduceLeDiff, Nat.reduceBEq, reduceCtorEq, Int.reduceLT, Int.reduceLE, Int.reduceEq, Int.reduceNe, Nat.reducePow, F.f4], by simp [hG], .inl ⟨rfl, by rw [hp_get_l (by rw [List.length_set, hG]; decide), hp_one (by rw [hG]; decide)]⟩⟩

theorem rres_call {ns : List Nd} {a : AV} (hns : NsOk ns a) (n o : Int) : ∃ H', callB cx D 0 52 [a, tyV (n, o)] [] = some (tyV (wlk ns ns.length n o), H') := by
  rw [← wlk_end]
  have hM : ∀ fr : PT, RsFr fr a 0 → ∃ H', returned cx [.cell 4 61] (ex cx D 0 52 53 (.seq (.block 0 (.loop l52_0)) (.seq (.region 12 g52_12 false) .ret)) fr [.cells 2 61 [tyV (n, o)], .cells 2 61 [tyV (0, 0)]]) = some (tyV (wlk ns (ns.length + 1) n o), H') := fun fr F => by
    obtain ⟨e, fr', G', q1, q2, q3, q4⟩ := rres_loop hns (ns.length + 1) 0 fr [.cells 2 61 [tyV (n, o)], .cells 2 61 [tyV (0, 0)]] n o (by omega) (by omega) rfl rfl rfl F
    rcases q4 with ⟨rfl, q4⟩ | ⟨rfl, q4, q5⟩
    · simp -implicitDefEqProofs (maxDischargeDepth := 4) only [go_sem, ↓reduceIte, Nat.reduceLT, Nat.reduceAdd, Nat.reduceMul, Nat.reduceSub, Nat.reduceEqDiff, Nat.reduceLeDiff, Nat.reduceBEq, reduceCtorEq, Int.reduceLT, Int.reduceLE, Int.reduceEq, Int.reduceNe, Nat.reducePow, elAt_eq, stV_eq, cellsB_cells, hp_get_r, hp_get_r0, hp_get_l, hp_set_r, hp_set_r0, hp_set_l, hp_one, hp_ne, List.drop_succ_cons, List.drop_zero, List.take_succ_cons, List.take_zero, x_loop, q1, q2, q4]
      exact ⟨_, rfl⟩
    · rw [q5]
      simp -implicitDefEqProofs (maxDischargeDepth := 4) only [go_sem, ↓reduceIte, Nat.reduceLT, Nat.reduceAdd, Nat.reduceMul, Nat.reduceSub, Nat.reduceEqDiff, Nat.reduceLeDiff, Nat.reduceBEq, reduceCtorEq, Int.reduceLT, Int.reduceLE, Int.reduceEq, Int.reduceNe, Nat.reducePow, elAt_eq, stV_eq, cellsB_cells, hp_get_r, hp_get_r0, hp_get_l, hp_set_r, hp_set_r0, hp_set_l, hp_one, hp_ne, List.drop_succ_cons, List.drop_zero, List.take_succ_cons, List.take_zero, x_loop, q1, q2, q4, build61a, q3]
      exact ⟨_, rfl⟩
  obtain ⟨fr1, e1, f0, f3, f4⟩ : ∃ fr1, ex cx D 0 52 53 (.region 0 g52_0 false) ((PT.nil.set 0 (drp a)).set 1 (drp (tyV (n, o)))) [] = some (.normal, fr1, [.cells 2 61 [tyV (n, o)], .cells 2 61 [tyV (0, 0)]]) ∧ fr1.get 0 = a ∧ fr1.get 3 = .ptr 0 0 0 ∧ fr1.get 4 = .ptr 1 0 0 := by
    simp -implicitDefEqProofs (maxDischargeDepth := 4) only [go_sem, ↓reduceIte, Nat.reduceLT, Nat.reduceAdd, Nat.reduceMul, Nat.reduceSub, Nat.reduceEqDiff, Nat.reduceLeDiff, Nat.reduceBEq, reduceCtorEq, Int.reduceLT, Int.reduceLE, Int.reduceEq, Int.reduceNe, Nat.reducePow, elAt_eq, stV_eq, cellsB_cells, hp_get_r, hp_get_r0, hp_get_l, hp_set_r, hp_set_r0, hp_set_l, hp_one, hp_ne, List.drop_succ_cons, List.drop_zero, List.take_succ_cons, List.take_zero, Nat.le_refl, Nat.zero_le, hns.sl.drp]
    exact ⟨_, rfl, by simp -implicitDefEqProofs (maxDischargeDepth := 4) only [go_sem, ↓reduceIte, Nat.reduceLT, Nat.reduceAdd, Nat.reduceMul, Nat.reduceSub, Nat.reduceEqDiff, Nat.reduceLeDiff, Nat.reduceBEq, reduceCtorEq, Int.reduceLT, Int.reduceLE, Int.reduceEq, Int.reduceNe, Nat.reducePow, hns.sl.drp], by simp -implicitDefEqProofs (maxDischargeDepth := 4) only [go_sem, ↓reduceIte, Nat.reduceLT, Nat.reduceAdd, Nat.reduceMul, Nat.reduceSub, Nat.reduceEqDiff, Nat.reduceLeDiff, Nat.reduceBEq, reduceCtorEq, Int.reduceLT, Int.reduceLE, Int.reduceEq, Int.reduceNe, Nat.reducePow], by simp -implicitDefEqProofs (maxDischargeDepth := 4) only [go_sem, ↓reduceIte, Nat.reduceLT, Nat.reduceAdd, Nat.reduceMul, Nat.reduceSub, Nat.reduceEqDiff, Nat.reduceLeDiff, Nat.reduceBEq, reduceCtorEq, Int.reduceLT, Int.reduceLE, Int.reduceEq, Int.reduceNe, Nat.reducePow]⟩
  obtain ⟨fr2, e2, F2⟩ : ∃ fr2, ex cx D 0 52 53 (.region 1 g52_1 false) fr1 [.cells 2 61 [tyV (n, o)], .cells 2 61 [tyV (0, 0)]] = some (.normal, fr2, [.cells 2 61 [tyV (n, o)], .cells 2 61 [tyV (0, 0)]]) ∧ RsFr fr2 a 0 := by
    simp -implicitDefEqProofs (maxDischargeDepth := 4) only [go_sem, ↓reduceIte, Nat.reduceLT, Nat.reduceAdd, Nat.reduceMul, Nat.reduceSub, Nat.reduceEqDiff, Nat.reduceLeDiff, Nat.reduceBEq, reduceCtorEq, Int.reduceLT, Int.reduceLE, Int.reduceEq, Int.reduceNe, Nat.reducePow, elAt_eq, stV_eq, cellsB_cells, hp_get_r, hp_get_r0, hp_get_l, hp_set_r, hp_set_r0, hp_set_l, hp_one, hp_ne, List.drop_succ_cons, List.drop_zero, List.take_succ_cons, List.take_zero,]
    refine ⟨_, rfl, ?_, ?_, ?_, ?_⟩ <;> simp -implicitDefEqProofs (maxDischargeDepth := 4) only [go_sem, ↓reduceIte, Nat.reduceLT, Nat.reduceAdd, Nat.reduceMul, Nat.reduceSub, Nat.reduceEqDiff, Nat.reduceLeDiff, Nat.reduceBEq, reduceCtorEq, Int.reduceLT, Int.reduceLE, Int.reduceEq, Int.reduceNe, Nat.reducePow, f0, f3, f4, Int.ofNat_zero]
  rw [c52, x_cont1 e1, x_assoc, x_cont1 e2]
  exact hM fr2 F2
theorem Sl.cl2' {sz : Nat} {a : AV} {els : List AV} (h : Sl sz a els) : Abs.cl2 a = a := h.cl2
theorem rres_ok {ns : List Nd} {a : AV} (hns : NsOk ns a) (n o : Int) : pcall D 52 [a, tyV (n, o)] = some (tyV (wlk ns ns.length n o)) := by
  obtain ⟨H', h⟩ := rres_call hns n o
  rw [pcall_eq (v := tyV (wlk ns ns.length n o)) (H' := H') (by rw [List.map_cons, List.map_cons, List.map_nil, hns.sl.cl2]; exact h)]
  rfl
end Go.Abs.Tab

/- The way of a type (graph.way): a loop over a function, by what each round does. -/
set_option linter.unusedVariables false
namespace Go.Abs.Tab
open Go.Gr
/-- what is known of the blocks between rounds, and behind the last one -/
structure Rnd (m l b3 : Nat) (I : Hp → Prop) (Dn : Int → Int → Nd → Hp → Prop) : Prop where
  grow : ∀ {G L}, I G → I (G ++ L)
  set3 : ∀ {G x}, I G → I (G.set b3 x)
  setm : ∀ {G j x}, m ≤ j → I G → I (G.set j x)
  trim : ∀ {G}, I G → m ≤ G.length → I ((G.take m).map (killB m))
  yes : ∀ {G n o x}, I G → m < G.length → NdOk x → x.kind = 5 → ∃ G', round D 0 l [tyV (n, o), nodeV x] G = some (bv true, G') ∧ I G' ∧ G.length ≤ G'.length ∧ ∀ j, j ≠ l → j < G.length → G'[j]? = G[j]?
  no : ∀ {G n o x}, I G → m < G.length → NdOk x → x.kind ≠ 5 → ∃ G', round D 0 l [tyV (n, o), nodeV x] G = some (bv false, G') ∧ Dn n o x G'
structure WFr (fr : PT) (l b2 b3 len i : Nat) : Prop where
  f0 : fr.get 0 = .yld l
  f1 : fr.get 1 = .ptr b2 0 0
  f2 : fr.get 2 = .ptr b3 0 0
  f6 : fr.get 6 = iv len
  f7 : fr.get 7 = iv i
theorem kill_yld {l m : Nat} (h : l < m) : kill m (.yld l) = .yld l := by
  show (if l < m then _ else _) = _; rw [if_pos h]
theorem trim_I {P : Option Res → Prop} {I : Hp → Prop} {k : PT → Hp → Option Res} {n : Nat} {fr : PT} {G : Hp} (tr : ∀ {G}, I G → n ≤ G.length → I ((G.take n).map (killB n))) (hI : I G) (T : List Tmp) (hn : n ≤ G.length) (hT : ∀ t ∈ T, kill n (fr.get t) = fr.get t)
    (hX : ∀ fr' G', G'.length = n → I G' → (∀ t ∈ T, fr'.get t = fr.get t) → (∀ j x, j < n → G[j]? = some x → killB n x = x → G'[j]? = some x) → P (k fr' G')) : P (trimmed k n fr G) := by
  unfold trimmed
  split
  · rename_i h; exact hX _ _ h hI (fun _ _ => rfl) (fun _ _ _ h _ => h)
  · refine hX _ _ (by rw [List.length_map, List.length_take]; omega) (tr hI hn) (fun t ht => by rw [get_mapkill, hT t ht]) fun j x hj hx hk => ?_
    rw [List.getElem?_map, List.getElem?_take_of_lt hj, hx, Option.map_some, hk]
theorem killB_a {ns : List Nd} {a : AV} (hns : NsOk ns a) (m : Nat) : killB m (.cells 1 56 [a]) = .cells 1 56 [a] := by
  rcases hns.sl with rfl | rfl | ⟨rfl, _⟩ <;> rfl
theorem ofVal_ty : ofVal (.agg #[.int .i64 0, .int .i64 0]) = tyV (0, 0) := rfl
theorem way_loop {ns : List Nd} {a : AV} (hns : NsOk ns a) {m l b2 b3 : Nat} {I : Hp → Prop} {Dn : Int → Int → Nd → Hp → Prop} (R : Rnd m l b3 I Dn) (h2m : b2 < m) (h3m : b3 < m) (hlm : l < m) (h23 : b3 ≠ b2) (hl2 : b2 ≠ l) (hl3 : b3 ≠ l) :
    ∀ (k i : Nat) (fr : PT) (G : Hp) (n o : Int), ns.length - i = k → i ≤ ns.length → G.length = m → I G → G[b2]? = some (.cells 1 56 [a]) → G[b3]? = some (.cells 2 61 [tyV (n, o)]) → WFr fr l b2 b3 ns.length i →
    ∃ e fr' G', D.loop 0 156 48 l156_0 fr G = some (e, fr', G') ∧ ((∃ m x o', wlk ns k n o = (m, o') ∧ atN ns m = some x ∧ x.kind ≠ 5 ∧ Dn m o' x G' ∧ e = .ret) ∨ (wlk ns k n o = (-1, 0) ∧ I G' ∧ (e = .ret ∨ e = .exit 0)))
  | 0, i, fr, G, n, o, hk, hi, hG, hI, g2, g3, F => by
    have hn : ¬ ((i : Int) < (ns.length : Int)) := by omega
    rw [dl156_0]
    simp -implicitDefEqProofs (maxDischargeDepth := 4) only [go_sem, ↓reduceIte, Nat.reduceLT, Nat.reduceAdd, Nat.reduceMul, Nat.reduceSub, Nat.reduceEqDiff, Nat.reduceLeDiff, Nat.reduceBEq, reduceCtorEq, Int.reduceLT, Int.reduceLE, Int.reduceEq, Int.reduceNe, Nat.reducePow, elAt_eq, stV_eq, cellsB_cells, hp_get_r, hp_get_r0, hp_get_l, hp_set_r, hp_set_r0, hp_set_l, hp_one, hp_ne, List.drop_succ_cons, List.drop_zero, List.take_succ_cons, List.take_zero, F.f6, F.f7, hn]
    exact ⟨_, _, _, rfl, .inr ⟨rfl, hI, .inr rfl⟩⟩
  | k + 1, i, fr, G, n, o, hk, hi, hG, hI, g2, g3, F => by
    have hln := hns.ln
    have hn : ((i : Int) < (ns.length : Int)) := by omega
    have e3 : wrapK .i64 ((i : Int) + 1) = ((i + 1 : Nat) : Int) := by rw [wrapK_i64 (by omega) (by omega)]; rfl
    have e4 : wrapK .i64 ((ns.length : Int) - 1) = (ns.length : Int) - 1 := wrapK_i64 (by omega) (by omega)
    have hwi := within_ok n ((ns.length : Int) - 1)
    have ea : elP false 1 a 0 = some a := elP_Sl hns.sl
    rw [dl156_0]
    rcases atN_cases (ns := ns) n with ⟨ha, hor⟩ | ⟨q, x, rfl, hq, hx, ha⟩
    · rw [wlk_out ha]
      have hb : inB n ((ns.length : Int) - 1) = false := by
        cases h : inB n ((ns.length : Int) - 1) with
        | false => rfl
        | true => rw [inB_iff] at h; omega
      simp -implicitDefEqProofs (maxDischargeDepth := 4) only [go_sem, ↓reduceIte, Nat.reduceLT, Nat.reduceAdd, Nat.reduceMul, Nat.reduceSub, Nat.reduceEqDiff, Nat.reduceLeDiff, Nat.reduceBEq, reduceCtorEq, Int.reduceLT, Int.reduceLE, Int.reduceEq, Int.reduceNe, Nat.reducePow, elAt_eq, stV_eq, cellsB_cells, hp_get_r, hp_get_r0, hp_get_l, hp_set_r, hp_set_r0, hp_set_l, hp_one, hp_ne, List.drop_succ_cons, List.drop_zero, List.take_succ_cons, List.take_zero, F.f0, F.f1, F.f2, F.f6, F.f7, hn, g2, g3, ea, hns.sl.shr, hns.sl.notOwn, alen_sl hns.sl, List.length_map, e4, hwi, hb, u_not]
      exact ⟨_, _, _, rfl, .inr ⟨hI, .inl rfl⟩⟩
    · have hb : inB (q : Int) ((ns.length : Int) - 1) = true := by rw [inB_iff]; omega
      have hat := hns.at hx
      have hxok := hns.ok x (List.mem_of_getElem? hx)
      have hs : Sl 2 x.nx (x.es.map ed) := hxok
      have hlen1 : m < (G ++ [ABlock.cells 6 66 [nodeV x]]).length := by rw [List.length_append, hG]; exact Nat.lt_succ_self m
      by_cases hk5 : x.kind = 5
      · obtain ⟨G1, q1, q2, q3, q4⟩ := R.yes (G := G ++ [ABlock.cells 6 66 [nodeV x]]) (n := q) (o := o) (R.grow hI) hlen1 hxok hk5
        rw [List.length_append, hG] at q3
        have r2 : G1[b2]? = some (.cells 1 56 [a]) := by rw [q4 b2 hl2 (by omega), hp_get_l (by omega), g2]
        have r3 : G1[b3]? = some (.cells 2 61 [tyV (q, o)]) := by rw [q4 b3 hl3 (by omega), hp_get_l (by omega), g3]
        have r4 : G1[m]? = some (.cells 6 66 [nodeV x]) := by rw [q4 m (by omega) hlen1, hp_get_r0 hG]; rfl
        have hb3 : b3 < G1.length := by omega
        have hgm : m ≠ b3 := by omega
        by_cases hl1 : x.es.length = 1
        · obtain ⟨e, he⟩ := List.length_eq_one_iff.1 hl1
          have hat2 : aindexAddr cx.T 64 x.nx (iv 0) = some (.vp (ed e) 0) := by
            have := at_ed hs (show 0 < x.es.length by omega)
            rw [he] at this; exact this
          rw [wlk_one ha hk5 he]
          simp -implicitDefEqProofs (maxDischargeDepth := 4) only [go_sem, ↓reduceIte, Nat.reduceLT, Nat.reduceAdd, Nat.reduceMul, Nat.reduceSub, Nat.reduceEqDiff, Nat.reduceLeDiff, Nat.reduceBEq, reduceCtorEq, Int.reduceLT, Int.reduceLE, Int.reduceEq, Int.reduceNe, Nat.reducePow, elAt_eq, stV_eq, cellsB_cells, hp_get_r, hp_get_r0, hp_get_l, hp_set_r, hp_set_r0, hp_set_l, hp_one, hp_ne, List.drop_succ_cons, List.drop_zero, List.take_succ_cons, List.take_zero, F.f0, F.f1, F.f2, F.f6, F.f7, hG, hn, g2, g3, h2m, h3m, ea, hns.sl.shr, hns.sl.notOwn, alen_sl hns.sl, List.length_map, e4, hwi, hb, u_not, hat, hs.shr, hs.notOwn, hs.drp, hs.fitA, Nat.zero_le, Nat.not_lt_zero, q1, r2, r3, r4, elP_Sl hs, alen_sl hs, hl1, hat2, e3, Int.natCast_one, nbeq, ofVal_ty, hb3, hgm]
          refine trim_I (P := fun z => ∃ e1 fr' G', z = some (e1, fr', G') ∧ ((∃ m x o', wlk ns k e.1 (wrapK .i64 (o + e.2)) = (m, o') ∧ atN ns m = some x ∧ x.kind ≠ 5 ∧ Dn m o' x G' ∧ e1 = .ret) ∨ (wlk ns k e.1 (wrapK .i64 (o + e.2)) = (-1, 0) ∧ I G' ∧ (e1 = .ret ∨ e1 = .exit 0))))
            (I := I) R.trim (R.set3 (R.set3 (R.set3 q2))) [0, 1, 2, 6, 7] ?_ (fun t ht => ?_) fun fr' G' hG' hI' hf hk' => way_loop hns R h2m h3m hlm h23 hl2 hl3 k (i + 1) fr' G' e.1 (wrapK .i64 (o + e.2)) (by omega) (by omega) hG' hI' (hk' b2 _ h2m ?_ (killB_a hns m)) (hk' b3 _ h3m ?_ rfl) ⟨?_, ?_, ?_, ?_, ?_⟩
          · simp only [List.length_set]; simp only [List.length_cons, List.length_nil] at q3; omega
          · simp only [List.mem_cons, List.not_mem_nil, or_false] at ht
            rcases ht with rfl | rfl | rfl | rfl | rfl <;> simp -implicitDefEqProofs (maxDischargeDepth := 4) only [go_sem, ↓reduceIte, Nat.reduceLT, Nat.reduceAdd, Nat.reduceMul, Nat.reduceSub, Nat.reduceEqDiff, Nat.reduceLeDiff, Nat.reduceBEq, reduceCtorEq, Int.reduceLT, Int.reduceLE, Int.reduceEq, Int.reduceNe, Nat.reducePow, F.f0, F.f1, F.f2, F.f6, F.f7, kill_lit, kill_ptr, kill_yld, h2m, h3m, hlm]
          · rw [hp_ne h23, hp_ne h23, hp_ne h23, r2]
          · rw [hp_one (by simp only [List.length_set]; exact hb3)]
          · rw [hf 0 (by simp)]; simp -implicitDefEqProofs (maxDischargeDepth := 4) only [go_sem, ↓reduceIte, Nat.reduceLT, Nat.reduceAdd, Nat.reduceMul, Nat.reduceSub, Nat.reduceEqDiff, Nat.reduceLeDiff, Nat.reduceBEq, reduceCtorEq, Int.reduceLT, Int.reduceLE, Int.reduceEq, Int.reduceNe, Nat.reducePow, F.f0]
          · rw [hf 1 (by simp)]; simp -implicitDefEqProofs (maxDischargeDepth := 4) only [go_sem, ↓reduceIte, Nat.reduceLT, Nat.reduceAdd, Nat.reduceMul, Nat.reduceSub, Nat.reduceEqDiff, Nat.reduceLeDiff, Nat.reduceBEq, reduceCtorEq, Int.reduceLT, Int.reduceLE, Int.reduceEq, Int.reduceNe, Nat.reducePow, F.f1]
          · rw [hf 2 (by simp)]; simp -implicitDefEqProofs (maxDischargeDepth := 4) only [go_sem, ↓reduceIte, Nat.reduceLT, Nat.reduceAdd, Nat.reduceMul, Nat.reduceSub, Nat.reduceEqDiff, Nat.reduceLeDiff, Nat.reduceBEq, reduceCtorEq, Int.reduceLT, Int.reduceLE, Int.reduceEq, Int.reduceNe, Nat.reducePow, F.f2]
          · rw [hf 6 (by simp)]; simp -implicitDefEqProofs (maxDischargeDepth := 4) only [go_sem, ↓reduceIte, Nat.reduceLT, Nat.reduceAdd, Nat.reduceMul, Nat.reduceSub, Nat.reduceEqDiff, Nat.reduceLeDiff, Nat.reduceBEq, reduceCtorEq, Int.reduceLT, Int.reduceLE, Int.reduceEq, Int.reduceNe, Nat.reducePow, F.f6]
          · rw [hf 7 (by simp)]; simp -implicitDefEqProofs (maxDischargeDepth := 4) only [go_sem, ↓reduceIte, Nat.reduceLT, Nat.reduceAdd, Nat.reduceMul, Nat.reduceSub, Nat.reduceEqDiff, Nat.reduceLeDiff, Nat.reduceBEq, reduceCtorEq, Int.reduceLT, Int.reduceLE, Int.reduceEq, Int.reduceNe, Nat.reducePow]
        · have hl1' : ¬ (x.es.length : Int) = 1 := by omega
          rw [wlk_bad ha hk5 hl1]
          simp -implicitDefEqProofs (maxDischargeDepth := 4) only [go_sem, ↓reduceIte, Nat.reduceLT, Nat.reduceAdd, Nat.reduceMul, Nat.reduceSub, Nat.reduceEqDiff, Nat.reduceLeDiff, Nat.reduceBEq, reduceCtorEq, Int.reduceLT, Int.reduceLE, Int.reduceEq, Int.reduceNe, Nat.reducePow, elAt_eq, stV_eq, cellsB_cells, hp_get_r, hp_get_r0, hp_get_l, hp_set_r, hp_set_r0, hp_set_l, hp_one, hp_ne, List.drop_succ_cons, List.drop_zero, List.take_succ_cons, List.take_zero, F.f0, F.f1, F.f2, F.f6, F.f7, hG, hn, g2, g3, h2m, h3m, ea, hns.sl.shr, hns.sl.notOwn, alen_sl hns.sl, List.length_map, e4, hwi, hb, u_not, hat, hs.shr, hs.notOwn, hs.drp, hs.fitA, Nat.zero_le, Nat.not_lt_zero, q1, r2, r3, r4, elP_Sl hs, alen_sl hs, hl1']
          exact ⟨_, _, _, rfl, .inr ⟨q2, .inl rfl⟩⟩
      · obtain ⟨G1, q1, q2⟩ := R.no (G := G ++ [ABlock.cells 6 66 [nodeV x]]) (n := q) (o := o) (R.grow hI) hlen1 hxok hk5
        rw [wlk_ne ha hk5]
        simp -implicitDefEqProofs (maxDischargeDepth := 4) only [go_sem, ↓reduceIte, Nat.reduceLT, Nat.reduceAdd, Nat.reduceMul, Nat.reduceSub, Nat.reduceEqDiff, Nat.reduceLeDiff, Nat.reduceBEq, reduceCtorEq, Int.reduceLT, Int.reduceLE, Int.reduceEq, Int.reduceNe, Nat.reducePow, elAt_eq, stV_eq, cellsB_cells, hp_get_r, hp_get_r0, hp_get_l, hp_set_r, hp_set_r0, hp_set_l, hp_one, hp_ne, List.drop_succ_cons, List.drop_zero, List.take_succ_cons, List.take_zero, F.f0, F.f1, F.f2, F.f6, F.f7, hG, hn, g2, g3, h2m, h3m, ea, hns.sl.shr, hns.sl.notOwn, alen_sl hns.sl, List.length_map, e4, hwi, hb, u_not, hat, hs.shr, hs.notOwn, hs.drp, hs.fitA, Nat.zero_le, Nat.not_lt_zero, q1]
        exact ⟨_, _, _, rfl, .inl ⟨_, _, _, rfl, ha, hk5, q2, rfl⟩⟩
end Go.Abs.Tab

/- Where types lead: graph.Resolve. -/
set_option linter.unusedVariables false
namespace Go.Abs.Tab
open Go.Gr
def loopOf : Option ABlock → Option ALoop
  | some (.loop r) => some r
  | _ => none
theorem loopOf_loop (r : ALoop) : loopOf (some (.loop r)) = some r := nr rfl
theorem endLoop_x (l : Nat) (fr : PT) (v : AV) (H : Hp) : endLoop l fr (some (v, H)) = xbind (loopOf H[l]?) fun r => if r.state = .busy then none else some (r.pending.getD .normal, fr, H.set l (.loop { r with state := .exhausted })) := by
  simp only [endLoop]
  cases H[l]? with
  | none => rfl
  | some b => cases b <;> rfl
/-- graph.way$1 -/
theorem way_call {ns : List Nd} {a : AV} (hns : NsOk ns a) {m l b2 b3 : Nat} {I : Hp → Prop} {Dn : Int → Int → Nd → Hp → Prop} (R : Rnd m l b3 I Dn) (h2m : b2 < m) (h3m : b3 < m) (hlm : l < m) (h23 : b3 ≠ b2) (hl2 : b2 ≠ l) (hl3 : b3 ≠ l)
    {G : Hp} {n o : Int} (hG : G.length = m) (hI : I G) (g2 : G[b2]? = some (.cells 1 56 [a])) (g3 : G[b3]? = some (.cells 2 61 [tyV (n, o)])) :
    ∃ G', callB cx D 0 156 [.yld l, .ptr b2 0 0, .ptr b3 0 0] G = some (.tup [], G') ∧ ((∃ m x o', wlk ns ns.length n o = (m, o') ∧ atN ns m = some x ∧ x.kind ≠ 5 ∧ Dn m o' x G') ∨ (wlk ns ns.length n o = (-1, 0) ∧ I G')) := by
  have ea : elP false 1 a 0 = some a := elP_Sl hns.sl
  obtain ⟨fr1, e1, F⟩ : ∃ fr1, ex cx D 0 156 48 (.region 0 g156_0 false) (((PT.nil.set 0 (drp (.yld l))).set 1 (drp (.ptr b2 0 0))).set 2 (drp (.ptr b3 0 0))) G = some (.normal, fr1, G) ∧ WFr fr1 l b2 b3 ns.length 0 := by
    simp -implicitDefEqProofs (maxDischargeDepth := 4) only [go_sem, ↓reduceIte, Nat.reduceLT, Nat.reduceAdd, Nat.reduceMul, Nat.reduceSub, Nat.reduceEqDiff, Nat.reduceLeDiff, Nat.reduceBEq, reduceCtorEq, Int.reduceLT, Int.reduceLE, Int.reduceEq, Int.reduceNe, Nat.reducePow, elAt_eq, stV_eq, cellsB_cells, hp_get_r, hp_get_r0, hp_get_l, hp_set_r, hp_set_r0, hp_set_l, hp_one, hp_ne, List.drop_succ_cons, List.drop_zero, List.take_succ_cons, List.take_zero, g2, ea, hns.sl.shr, hns.sl.notOwn, alen_sl hns.sl, List.length_map]
    refine ⟨_, rfl, ?_, ?_, ?_, ?_, ?_⟩ <;> simp -implicitDefEqProofs (maxDischargeDepth := 4) only [go_sem, ↓reduceIte, Nat.reduceLT, Nat.reduceAdd, Nat.reduceMul, Nat.reduceSub, Nat.reduceEqDiff, Nat.reduceLeDiff, Nat.reduceBEq, reduceCtorEq, Int.reduceLT, Int.reduceLE, Int.reduceEq, Int.reduceNe, Nat.reducePow, Int.ofNat_zero]
  obtain ⟨e, fr', G', q1, q2⟩ := way_loop hns R h2m h3m hlm h23 hl2 hl3 ns.length 0 fr1 G n o (by omega) (by omega) hG hI g2 g3 F
  refine ⟨G', ?_, ?_⟩
  · rw [c156, x_cont1 e1]
    have he : e = .ret ∨ e = .exit 0 := by
      rcases q2 with ⟨_, _, _, _, _, _, _, h⟩ | ⟨_, _, h⟩
      · exact .inl h
      · exact h
    rcases he with rfl | rfl <;> simp -implicitDefEqProofs (maxDischargeDepth := 4) only [go_sem, ↓reduceIte, Nat.reduceLT, Nat.reduceAdd, Nat.reduceMul, Nat.reduceSub, Nat.reduceEqDiff, Nat.reduceLeDiff, Nat.reduceBEq, reduceCtorEq, Int.reduceLT, Int.reduceLE, Int.reduceEq, Int.reduceNe, Nat.reducePow, x_loop, q1]
  · rcases q2 with ⟨m, x, o', a1, a2, a3, a4, _⟩ | ⟨a1, a2, _⟩
    · exact .inl ⟨m, x, o', a1, a2, a3, a4⟩
    · exact .inr ⟨a1, a2⟩

/-- the loop of Resolve -/
noncomputable def lp51 (rfr : PT) : ALoop := { fn := 51, nt := 17, fr := rfr, params := [10, 11], assign := q51_0, body := r51_0, state := .ready, pending := none }
structure I51 (G : Hp) : Prop where
  b1 : G[1]? = some (.cells 2 61 [tyV (0, 0)])
  lp : ∃ rfr, G[4]? = some (.loop (lp51 rfr)) ∧ rfr.get 4 = .ptr 1 0 0
structure D51 (n o : Int) (x : Nd) (G : Hp) : Prop where
  b1 : G[1]? = some (.cells 2 61 [tyV (n, o)])
  lp : ∃ r : ALoop, G[4]? = some (.loop r) ∧ r.state = .done ∧ r.pending = some .ret
theorem rnd51 : Rnd 5 4 3 I51 D51 := by
  refine ⟨?_, ?_, ?_, ?_, ?_, ?_⟩
  · rintro G L ⟨h1, rfr, h2, h3⟩
    exact ⟨by rw [hp_get_l (lt_of_get h1), h1], rfr, by rw [hp_get_l (lt_of_get h2), h2], h3⟩
  · rintro G x ⟨h1, rfr, h2, h3⟩
    exact ⟨by rw [hp_ne (by decide), h1], rfr, by rw [hp_ne (by decide), h2], h3⟩
  · rintro G j x hj ⟨h1, rfr, h2, h3⟩
    exact ⟨by rw [hp_ne (by omega), h1], rfr, by rw [hp_ne (by omega), h2], h3⟩
  · rintro G ⟨h1, rfr, h2, h3⟩ hG
    refine ⟨?_, rfr.map (kill 5), ?_, ?_⟩
    · rw [List.getElem?_map, List.getElem?_take_of_lt (by decide), h1]; rfl
    · rw [List.getElem?_map, List.getElem?_take_of_lt (by decide), h2]; rfl
    · rw [get_mapkill, h3, kill_ptr (by decide)]
  · rintro G n o x ⟨h1, rfr, h2, h3⟩ hG hx hk
    have hs : Sl 2 x.nx (x.es.map ed) := hx
    obtain ⟨len, hlen⟩ : ∃ len, G.length = len := ⟨_, rfl⟩
    have h4 : 4 < G.length := by omega
    obtain ⟨fr1, e1, f4, f5, f6⟩ : ∃ fr1, ex cx D 0 51 17 q51_0 (setArgs [(10, tyV (n, o)), (11, nodeV x)] rfr) G = some (.normal, fr1, G ++ [.cells 2 61 [tyV (n, o)], .cells 6 66 [nodeV x]]) ∧ fr1.get 4 = .ptr 1 0 0 ∧ fr1.get 5 = .ptr len 0 0 ∧ fr1.get 6 = .ptr (len + 1) 0 0 := by
      unfold q51_0
      simp -implicitDefEqProofs (maxDischargeDepth := 4) only [go_sem, ↓reduceIte, Nat.reduceLT, Nat.reduceAdd, Nat.reduceMul, Nat.reduceSub, Nat.reduceEqDiff, Nat.reduceLeDiff, Nat.reduceBEq, reduceCtorEq, Int.reduceLT, Int.reduceLE, Int.reduceEq, Int.reduceNe, Nat.reducePow, elAt_eq, stV_eq, cellsB_cells, hp_get_r, hp_get_r0, hp_get_l, hp_set_r, hp_set_r0, hp_set_l, hp_one, hp_ne, List.drop_succ_cons, List.drop_zero, List.take_succ_cons, List.take_zero, hlen, Nat.zero_le, Nat.not_lt_zero, hs.shr]
      exact ⟨_, rfl, by simp -implicitDefEqProofs (maxDischargeDepth := 4) only [go_sem, ↓reduceIte, Nat.reduceLT, Nat.reduceAdd, Nat.reduceMul, Nat.reduceSub, Nat.reduceEqDiff, Nat.reduceLeDiff, Nat.reduceBEq, reduceCtorEq, Int.reduceLT, Int.reduceLE, Int.reduceEq, Int.reduceNe, Nat.reducePow, h3], by simp -implicitDefEqProofs (maxDischargeDepth := 4) only [go_sem, ↓reduceIte, Nat.reduceLT, Nat.reduceAdd, Nat.reduceMul, Nat.reduceSub, Nat.reduceEqDiff, Nat.reduceLeDiff, Nat.reduceBEq, reduceCtorEq, Int.reduceLT, Int.reduceLE, Int.reduceEq, Int.reduceNe, Nat.reducePow], by simp -implicitDefEqProofs (maxDischargeDepth := 4) only [go_sem, ↓reduceIte, Nat.reduceLT, Nat.reduceAdd, Nat.reduceMul, Nat.reduceSub, Nat.reduceEqDiff, Nat.reduceLeDiff, Nat.reduceBEq, reduceCtorEq, Int.reduceLT, Int.reduceLE, Int.reduceEq, Int.reduceNe, Nat.reducePow]⟩
    have hl1 : (G ++ [ABlock.cells 2 61 [tyV (n, o)], .cells 6 66 [nodeV x]])[4]? = some (.loop (lp51 rfr)) := by rw [hp_get_l h4, h2]
    obtain ⟨G1, hG1⟩ : ∃ G1, (G ++ [ABlock.cells 2 61 [tyV (n, o)], .cells 6 66 [nodeV x]]).set 4 (.loop { lp51 rfr with state := .busy }) = G1 := ⟨_, rfl⟩
    have hl2 : G1[4]? = some (.loop { lp51 rfr with state := .busy }) := by rw [← hG1, hp_one (by rw [List.length_append]; omega)]
    have g1 : G1[1]? = some (.cells 2 61 [tyV (0, 0)]) := by rw [← hG1, hp_ne (by decide), hp_get_l (by omega), h1]
    have g5 : G1[len]? = some (.cells 2 61 [tyV (n, o)]) := by rw [← hG1, hp_ne (by omega), hp_get_r0 hlen]; rfl
    have g6 : G1[len + 1]? = some (.cells 6 66 [nodeV x]) := by rw [← hG1, hp_ne (by omega), hp_get_r hlen]; rfl
    have gj : ∀ j, j ≠ 4 → j < G.length → G1[j]? = G[j]? := fun j hj hlt => by rw [← hG1, hp_ne (Ne.symm hj), hp_get_l hlt]
    have gl : G1.length = len + 2 := by rw [← hG1, List.length_set, List.length_append, hlen]; rfl
    rw [round_eq h2 (Nat.zero_le _) rfl rfl rfl, show setArgs ((lp51 rfr).params.zip [tyV (n, o), nodeV x]) (lp51 rfr).fr = setArgs [(10, tyV (n, o)), (11, nodeV x)] rfr from rfl,
      show ex cx (den cx) 0 (lp51 rfr).fn (lp51 rfr).nt (lp51 rfr).assign = ex cx D 0 51 17 q51_0 from rfl, e1, bodyRound_eq hl1 rfl, hG1, show ex cx (den cx) 0 (lp51 rfr).fn (lp51 rfr).nt (lp51 rfr).body = ex cx D 0 51 17 r51_0 from rfl]
    obtain ⟨fr2, e2⟩ : ∃ fr2, ex cx D 0 51 17 r51_0 fr1 G1 = some (.normal, fr2, G1) := by
      unfold r51_0
      simp -implicitDefEqProofs (maxDischargeDepth := 4) only [go_sem, ↓reduceIte, Nat.reduceLT, Nat.reduceAdd, Nat.reduceMul, Nat.reduceSub, Nat.reduceEqDiff, Nat.reduceLeDiff, Nat.reduceBEq, reduceCtorEq, Int.reduceLT, Int.reduceLE, Int.reduceEq, Int.reduceNe, Nat.reducePow, elAt_eq, stV_eq, cellsB_cells, hp_get_r, hp_get_r0, hp_get_l, hp_set_r, hp_set_r0, hp_set_l, hp_one, hp_ne, List.drop_succ_cons, List.drop_zero, List.take_succ_cons, List.take_zero, f6, g6, hk]
      exact ⟨_, rfl⟩
    rw [e2, endRound_normal hl2]
    refine ⟨_, rfl, ⟨by rw [hp_ne (by decide), g1], rfr, by rw [hp_one (by omega)]; rfl, h3⟩, by rw [List.length_set]; omega, fun j hj hlt => by rw [hp_ne (Ne.symm hj), gj j hj hlt]⟩
  · rintro G n o x ⟨h1, rfr, h2, h3⟩ hG hx hk
    have hs : Sl 2 x.nx (x.es.map ed) := hx
    obtain ⟨len, hlen⟩ : ∃ len, G.length = len := ⟨_, rfl⟩
    have h4 : 4 < G.length := by omega
    obtain ⟨fr1, e1, f4, f5, f6⟩ : ∃ fr1, ex cx D 0 51 17 q51_0 (setArgs [(10, tyV (n, o)), (11, nodeV x)] rfr) G = some (.normal, fr1, G ++ [.cells 2 61 [tyV (n, o)], .cells 6 66 [nodeV x]]) ∧ fr1.get 4 = .ptr 1 0 0 ∧ fr1.get 5 = .ptr len 0 0 ∧ fr1.get 6 = .ptr (len + 1) 0 0 := by
      unfold q51_0
      simp -implicitDefEqProofs (maxDischargeDepth := 4) only [go_sem, ↓reduceIte, Nat.reduceLT, Nat.reduceAdd, Nat.reduceMul, Nat.reduceSub, Nat.reduceEqDiff, Nat.reduceLeDiff, Nat.reduceBEq, reduceCtorEq, Int.reduceLT, Int.reduceLE, Int.reduceEq, Int.reduceNe, Nat.reducePow, elAt_eq, stV_eq, cellsB_cells, hp_get_r, hp_get_r0, hp_get_l, hp_set_r, hp_set_r0, hp_set_l, hp_one, hp_ne, List.drop_succ_cons, List.drop_zero, List.take_succ_cons, List.take_zero, hlen, Nat.zero_le, Nat.not_lt_zero, hs.shr]
      exact ⟨_, rfl, by simp -implicitDefEqProofs (maxDischargeDepth := 4) only [go_sem, ↓reduceIte, Nat.reduceLT, Nat.reduceAdd, Nat.reduceMul, Nat.reduceSub, Nat.reduceEqDiff, Nat.reduceLeDiff, Nat.reduceBEq, reduceCtorEq, Int.reduceLT, Int.reduceLE, Int.reduceEq, Int.reduceNe, Nat.reducePow, h3], by simp -implicitDefEqProofs (maxDischargeDepth := 4) only [go_sem, ↓reduceIte, Nat.reduceLT, Nat.reduceAdd, Nat.reduceMul, Nat.reduceSub, Nat.reduceEqDiff, Nat.reduceLeDiff, Nat.reduceBEq, reduceCtorEq, Int.reduceLT, Int.reduceLE, Int.reduceEq, Int.reduceNe, Nat.reducePow], by simp -implicitDefEqProofs (maxDischargeDepth := 4) only [go_sem, ↓reduceIte, Nat.reduceLT, Nat.reduceAdd, Nat.reduceMul, Nat.reduceSub, Nat.reduceEqDiff, Nat.reduceLeDiff, Nat.reduceBEq, reduceCtorEq, Int.reduceLT, Int.reduceLE, Int.reduceEq, Int.reduceNe, Nat.reducePow]⟩
    have hl1 : (G ++ [ABlock.cells 2 61 [tyV (n, o)], .cells 6 66 [nodeV x]])[4]? = some (.loop (lp51 rfr)) := by rw [hp_get_l h4, h2]
    obtain ⟨G1, hG1⟩ : ∃ G1, (G ++ [ABlock.cells 2 61 [tyV (n, o)], .cells 6 66 [nodeV x]]).set 4 (.loop { lp51 rfr with state := .busy }) = G1 := ⟨_, rfl⟩
    have hl2 : G1[4]? = some (.loop { lp51 rfr with state := .busy }) := by rw [← hG1, hp_one (by rw [List.length_append]; omega)]
    have g1 : G1[1]? = some (.cells 2 61 [tyV (0, 0)]) := by rw [← hG1, hp_ne (by decide), hp_get_l (by omega), h1]
    have g5 : G1[len]? = some (.cells 2 61 [tyV (n, o)]) := by rw [← hG1, hp_ne (by omega), hp_get_r0 hlen]; rfl
    have g6 : G1[len + 1]? = some (.cells 6 66 [nodeV x]) := by rw [← hG1, hp_ne (by omega), hp_get_r hlen]; rfl
    have gj : ∀ j, j ≠ 4 → j < G.length → G1[j]? = G[j]? := fun j hj hlt => by rw [← hG1, hp_ne (Ne.symm hj), hp_get_l hlt]
    have gl : G1.length = len + 2 := by rw [← hG1, List.length_set, List.length_append, hlen]; rfl
    rw [round_eq h2 (Nat.zero_le _) rfl rfl rfl, show setArgs ((lp51 rfr).params.zip [tyV (n, o), nodeV x]) (lp51 rfr).fr = setArgs [(10, tyV (n, o)), (11, nodeV x)] rfr from rfl,
      show ex cx (den cx) 0 (lp51 rfr).fn (lp51 rfr).nt (lp51 rfr).assign = ex cx D 0 51 17 q51_0 from rfl, e1, bodyRound_eq hl1 rfl, hG1, show ex cx (den cx) 0 (lp51 rfr).fn (lp51 rfr).nt (lp51 rfr).body = ex cx D 0 51 17 r51_0 from rfl]
    obtain ⟨fr2, e2⟩ : ∃ fr2, ex cx D 0 51 17 r51_0 fr1 G1 = some (.ret, fr2, G1.set 1 (.cells 2 61 [tyV (n, o)])) := by
      unfold r51_0
      simp -implicitDefEqProofs (maxDischargeDepth := 4) only [go_sem, ↓reduceIte, Nat.reduceLT, Nat.reduceAdd, Nat.reduceMul, Nat.reduceSub, Nat.reduceEqDiff, Nat.reduceLeDiff, Nat.reduceBEq, reduceCtorEq, Int.reduceLT, Int.reduceLE, Int.reduceEq, Int.reduceNe, Nat.reducePow, elAt_eq, stV_eq, cellsB_cells, hp_get_r, hp_get_r0, hp_get_l, hp_set_r, hp_set_r0, hp_set_l, hp_one, hp_ne, List.drop_succ_cons, List.drop_zero, List.take_succ_cons, List.take_zero, f4, f5, f6, g6, hk, g5, g1, Nat.not_lt_zero]
      exact ⟨_, rfl⟩
    have hl3 : (G1.set 1 (.cells 2 61 [tyV (n, o)]))[4]? = some (.loop { lp51 rfr with state := .busy }) := by rw [hp_ne (by decide), hl2]
    rw [e2, endRound_other hl3 (by decide)]
    exact ⟨_, rfl, ⟨by rw [hp_ne (by decide), hp_one (by omega)], _, by rw [hp_one (by rw [List.length_set]; omega)], rfl, rfl⟩⟩
theorem way_mk {ro : Nat} {a : AV} {ns : List Nd} (hns : NsOk ns a) {H : Hp} (hro : ro ≤ H.length) (n o : Int) : callB cx D ro 119 [a, tyV (n, o)] H = some (.fn 156 [.ptr H.length 0 0, .ptr (H.length + 1) 0 0], H ++ [.cells 1 56 [a], .cells 2 61 [tyV (n, o)]]) := by
  obtain ⟨m, hm⟩ : ∃ m, H.length = m := ⟨_, rfl⟩
  have c1 : ∀ j, ro ≤ m + j := fun j => by omega
  rw [hm] at hro ⊢
  rw [c119]
  simp -implicitDefEqProofs (maxDischargeDepth := 4) only [go_sem, ↓reduceIte, Nat.reduceLT, Nat.reduceAdd, Nat.reduceMul, Nat.reduceSub, Nat.reduceEqDiff, Nat.reduceLeDiff, Nat.reduceBEq, reduceCtorEq, Int.reduceLT, Int.reduceLE, Int.reduceEq, Int.reduceNe, Nat.reducePow, elAt_eq, stV_eq, cellsB_cells, hp_get_r, hp_get_r0, hp_get_l, hp_set_r, hp_set_r0, hp_set_l, hp_one, hp_ne, List.drop_succ_cons, List.drop_zero, List.take_succ_cons, List.take_zero, hm, hro, c1, hns.sl.shr, hns.sl.notOwn, hns.sl.drp, hns.sl.fitA]
theorem res51_call {ns : List Nd} {a : AV} (hns : NsOk ns a) (n o : Int) : ∃ H', callB cx D 0 51 [a, tyV (n, o)] [] = some (tyV (wlk ns ns.length n o), H') := by
  have hM : ∀ fr : PT, fr.get 4 = .ptr 1 0 0 → fr.get 9 = .fn 156 [.ptr 2 0 0, .ptr 3 0 0] → ∃ H', returned cx [.cell 4 61] (ex cx D 0 51 17 (.seq (.block 0 (.rangeFunc (.tmp 9) #[10, 11] q51_0 r51_0)) (.seq (.region 6 g51_6 false) .ret)) fr [.cells 2 61 [tyV (n, o)], .cells 2 61 [tyV (0, 0)], .cells 1 56 [a], .cells 2 61 [tyV (n, o)]]) = some (tyV (wlk ns ns.length n o), H') := fun fr f4 f9 => by
    obtain ⟨G', q1, q2⟩ := way_call hns rnd51 (b2 := 2) (by decide) (by decide) (by decide) (by decide) (by decide) (by decide) (G := [.cells 2 61 [tyV (n, o)], .cells 2 61 [tyV (0, 0)], .cells 1 56 [a], .cells 2 61 [tyV (n, o)], .loop (lp51 (fr.map drp))]) (n := n) (o := o) rfl ⟨rfl, _, rfl, by rw [get_mapdrp, f4]; rfl⟩ rfl rfl
    have q1' : D.call 0 156 [.yld 4, .ptr 2 0 0, .ptr 3 0 0] [.cells 2 61 [tyV (n, o)], .cells 2 61 [tyV (0, 0)], .cells 1 56 [a], .cells 2 61 [tyV (n, o)], .loop (lp51 (fr.map drp))] = some (.tup [], G') := by rw [den_call_eq]; exact q1
    have q3 : ex cx D 0 51 17 (.rangeFunc (.tmp 9) #[10, 11] q51_0 r51_0) fr [.cells 2 61 [tyV (n, o)], .cells 2 61 [tyV (0, 0)], .cells 1 56 [a], .cells 2 61 [tyV (n, o)]] = endLoop 4 fr (some (.tup [], G')) := by
      rw [x_range, ev_tmp, f9, shr_fn, ranged_fn, ← q1']; rfl
    rcases q2 with ⟨m, x, o', a1, a2, a3, ⟨d1, r, d2, d3, d4⟩⟩ | ⟨a1, ⟨d1, rfr, d2, d3⟩⟩
    · rw [a1]
      rw [endLoop_eq d2 (by rw [d3]; decide), d4] at q3
      simp -implicitDefEqProofs (maxDischargeDepth := 4) only [go_sem, ↓reduceIte, Nat.reduceLT, Nat.reduceAdd, Nat.reduceMul, Nat.reduceSub, Nat.reduceEqDiff, Nat.reduceLeDiff, Nat.reduceBEq, reduceCtorEq, Int.reduceLT, Int.reduceLE, Int.reduceEq, Int.reduceNe, Nat.reducePow, elAt_eq, stV_eq, cellsB_cells, hp_get_r, hp_get_r0, hp_get_l, hp_set_r, hp_set_r0, hp_set_l, hp_one, hp_ne, List.drop_succ_cons, List.drop_zero, List.take_succ_cons, List.take_zero, q3, f4, d1, Option.getD_some]
      exact ⟨_, rfl⟩
    · rw [a1]
      rw [endLoop_eq d2 (show LS.ready ≠ LS.busy by decide)] at q3
      have hl := lt_of_get d1
      simp -implicitDefEqProofs (maxDischargeDepth := 4) only [go_sem, ↓reduceIte, Nat.reduceLT, Nat.reduceAdd, Nat.reduceMul, Nat.reduceSub, Nat.reduceEqDiff, Nat.reduceLeDiff, Nat.reduceBEq, reduceCtorEq, Int.reduceLT, Int.reduceLE, Int.reduceEq, Int.reduceNe, Nat.reducePow, elAt_eq, stV_eq, cellsB_cells, hp_get_r, hp_get_r0, hp_get_l, hp_set_r, hp_set_r0, hp_set_l, hp_one, hp_ne, List.drop_succ_cons, List.drop_zero, List.take_succ_cons, List.take_zero, q3, f4, d1, lp51, Option.getD_none, build61a, hl, Nat.not_lt_zero]
      exact ⟨_, rfl⟩
  obtain ⟨fr1, e1, f0, f3, f4⟩ : ∃ fr1, ex cx D 0 51 17 (.region 0 g51_0 false) ((PT.nil.set 0 (drp a)).set 1 (drp (tyV (n, o)))) [] = some (.normal, fr1, [.cells 2 61 [tyV (n, o)], .cells 2 61 [tyV (0, 0)]]) ∧ fr1.get 0 = a ∧ fr1.get 3 = .ptr 0 0 0 ∧ fr1.get 4 = .ptr 1 0 0 := by
    simp -implicitDefEqProofs (maxDischargeDepth := 4) only [go_sem, ↓reduceIte, Nat.reduceLT, Nat.reduceAdd, Nat.reduceMul, Nat.reduceSub, Nat.reduceEqDiff, Nat.reduceLeDiff, Nat.reduceBEq, reduceCtorEq, Int.reduceLT, Int.reduceLE, Int.reduceEq, Int.reduceNe, Nat.reducePow, elAt_eq, stV_eq, cellsB_cells, hp_get_r, hp_get_r0, hp_get_l, hp_set_r, hp_set_r0, hp_set_l, hp_one, hp_ne, List.drop_succ_cons, List.drop_zero, List.take_succ_cons, List.take_zero, Nat.le_refl, Nat.zero_le, hns.sl.drp]
    exact ⟨_, rfl, by simp -implicitDefEqProofs (maxDischargeDepth := 4) only [go_sem, ↓reduceIte, Nat.reduceLT, Nat.reduceAdd, Nat.reduceMul, Nat.reduceSub, Nat.reduceEqDiff, Nat.reduceLeDiff, Nat.reduceBEq, reduceCtorEq, Int.reduceLT, Int.reduceLE, Int.reduceEq, Int.reduceNe, Nat.reducePow, hns.sl.drp], by simp -implicitDefEqProofs (maxDischargeDepth := 4) only [go_sem, ↓reduceIte, Nat.reduceLT, Nat.reduceAdd, Nat.reduceMul, Nat.reduceSub, Nat.reduceEqDiff, Nat.reduceLeDiff, Nat.reduceBEq, reduceCtorEq, Int.reduceLT, Int.reduceLE, Int.reduceEq, Int.reduceNe, Nat.reducePow], by simp -implicitDefEqProofs (maxDischargeDepth := 4) only [go_sem, ↓reduceIte, Nat.reduceLT, Nat.reduceAdd, Nat.reduceMul, Nat.reduceSub, Nat.reduceEqDiff, Nat.reduceLeDiff, Nat.reduceBEq, reduceCtorEq, Int.reduceLT, Int.reduceLE, Int.reduceEq, Int.reduceNe, Nat.reducePow]⟩
  obtain ⟨fr2, e2, k4, k9⟩ : ∃ fr2, ex cx D 0 51 17 (.region 1 g51_1 false) fr1 [.cells 2 61 [tyV (n, o)], .cells 2 61 [tyV (0, 0)]] = some (.normal, fr2, [.cells 2 61 [tyV (n, o)], .cells 2 61 [tyV (0, 0)], .cells 1 56 [a], .cells 2 61 [tyV (n, o)]]) ∧ fr2.get 4 = .ptr 1 0 0 ∧ fr2.get 9 = .fn 156 [.ptr 2 0 0, .ptr 3 0 0] := by
    have hw := way_mk (ro := 0) hns (H := [.cells 2 61 [tyV (n, o)], .cells 2 61 [tyV (0, 0)]]) (Nat.zero_le _) n o
    simp -implicitDefEqProofs (maxDischargeDepth := 4) only [go_sem, ↓reduceIte, Nat.reduceLT, Nat.reduceAdd, Nat.reduceMul, Nat.reduceSub, Nat.reduceEqDiff, Nat.reduceLeDiff, Nat.reduceBEq, reduceCtorEq, Int.reduceLT, Int.reduceLE, Int.reduceEq, Int.reduceNe, Nat.reducePow, elAt_eq, stV_eq, cellsB_cells, hp_get_r, hp_get_r0, hp_get_l, hp_set_r, hp_set_r0, hp_set_l, hp_one, hp_ne, List.drop_succ_cons, List.drop_zero, List.take_succ_cons, List.take_zero, f0, f3, hns.sl.shr, hns.sl.notOwn, hns.sl.drp, hw]
    exact ⟨_, rfl, by simp -implicitDefEqProofs (maxDischargeDepth := 4) only [go_sem, ↓reduceIte, Nat.reduceLT, Nat.reduceAdd, Nat.reduceMul, Nat.reduceSub, Nat.reduceEqDiff, Nat.reduceLeDiff, Nat.reduceBEq, reduceCtorEq, Int.reduceLT, Int.reduceLE, Int.reduceEq, Int.reduceNe, Nat.reducePow, f4], by simp -implicitDefEqProofs (maxDischargeDepth := 4) only [go_sem, ↓reduceIte, Nat.reduceLT, Nat.reduceAdd, Nat.reduceMul, Nat.reduceSub, Nat.reduceEqDiff, Nat.reduceLeDiff, Nat.reduceBEq, reduceCtorEq, Int.reduceLT, Int.reduceLE, Int.reduceEq, Int.reduceNe, Nat.reducePow]⟩
  rw [c51, x_cont1 e1, x_assoc, x_cont1 e2]
  exact hM fr2 k4 k9
theorem res51_ok {ns : List Nd} {a : AV} (hns : NsOk ns a) (n o : Int) : pcall D 51 [a, tyV (n, o)] = some (tyV (wlk ns ns.length n o)) := by
  obtain ⟨H', h⟩ := res51_call hns n o
  rw [pcall_eq (v := tyV (wlk ns ns.length n o)) (H' := H') (by rw [List.map_cons, List.map_cons, List.map_nil, hns.sl.cl2]; exact h)]
  rfl
end Go.Abs.Tab

/- Whether a table has its shape: the document's Check. -/
set_option linter.unusedVariables false
namespace Go.Abs.Tab
open Go.Gr
theorem shp_len {x : Nd} (h : shp x = true) : x.es.length ≤ 8 := by
  unfold shp at h
  simp only [Bool.and_eq_true, Bool.not_eq_true', Bool.or_eq_false_iff, decide_eq_false_iff_not] at h
  have := frm_le x.kind
  omega
/-- the first node that is wrong by itself -/
def chkA (N : Int) : Nat → List Nd → Option (Int × Int)
  | _, [] => none
  | i, x :: xs => if shp x = false then some (i, 7) else if opn N x = true then some (i, 8) else chkA N (i + 1) xs
/-- the first that goes round -/
def bad (ns : List Nd) (i : Int) : Bool := decide ((wlk ns ns.length i 0).1 < 0)
def chkB (ns : List Nd) : Nat → Nat → Int × Int
  | 0, _ => (-1, 0)
  | k + 1, i => if bad ns i = true then (i, 9) else chkB ns k (i + 1)
def chk (ns : List Nd) : Int × Int :=
  if ns.length = 0 then (-1, 2) else if 64 < ns.length then (-1, 4) else match chkA ns.length 0 ns with
    | some r => r
    | none => chkB ns ns.length 0
def errV (r : Int × Int) : AV := .tup [iv r.1, iv r.2]

theorem not_bad {ns : List Nd} {i : Nat} {x : Nd} (hx : ns[i]? = some x) (hk : x.kind ≠ 5) : bad ns i = false := by
  have hlt := (List.getElem?_eq_some_iff.1 hx).1
  have ha : atN ns i = some x := by unfold atN; rw [if_neg (by omega), Int.toNat_natCast]; exact hx
  unfold bad
  obtain ⟨k, hk'⟩ : ∃ k, ns.length = k + 1 := ⟨ns.length - 1, by omega⟩
  rw [hk', wlk_ne ha hk]
  simp

theorem drop_nd {ns : List Nd} {i : Nat} {x : Nd} (hx : ns[i]? = some x) : ns.drop i = x :: ns.drop (i + 1) := by
  obtain ⟨h, rfl⟩ := List.getElem?_eq_some_iff.1 hx
  exact List.drop_eq_getElem_cons h
theorem ex_nd {ns : List Nd} {i : Nat} (h : i < ns.length) : ∃ x, ns[i]? = some x := ⟨_, List.getElem?_eq_getElem h⟩

theorem rchk_loopA {ns : List Nd} {a : AV} (hns : NsOk ns a) : ∀ (k i : Nat) (fr : PT), ns.length - i = k → i ≤ ns.length → fr.get 0 = a → fr.get 4 = iv i →
    ∃ fr', D.loop 0 49 54 l49_0 fr [] = some (if (chkA ns.length i (ns.drop i)).isSome = true then .ret else .exit 0, fr', []) ∧ fr'.get 0 = a ∧ ∀ r, chkA ns.length i (ns.drop i) = some r → fr'.get 2 = iv r.1 ∧ fr'.get 3 = iv r.2
  | 0, i, fr, hk, hi, f0, f4 => by
    have hn : ¬ ((i : Int) < (ns.length : Int)) := by omega
    rw [dl49_0, List.drop_eq_nil_of_le (by omega)]
    simp -implicitDefEqProofs (maxDischargeDepth := 4) only [go_sem, ↓reduceIte, Nat.reduceLT, Nat.reduceAdd, Nat.reduceMul, Nat.reduceSub, Nat.reduceEqDiff, Nat.reduceLeDiff, Nat.reduceBEq, reduceCtorEq, Int.reduceLT, Int.reduceLE, Int.reduceEq, Int.reduceNe, Nat.reducePow, elAt_eq, stV_eq, cellsB_cells, hp_get_r, hp_get_r0, hp_get_l, hp_set_r, hp_set_r0, hp_set_l, hp_one, hp_ne, List.drop_succ_cons, List.drop_zero, List.take_succ_cons, List.take_zero, f0, f4, hns.sl.shr, hns.sl.notOwn, alen_sl hns.sl, List.length_map, hn, chkA, Option.isSome_none]
    exact ⟨_, rfl, by simp -implicitDefEqProofs (maxDischargeDepth := 4) only [go_sem, ↓reduceIte, Nat.reduceLT, Nat.reduceAdd, Nat.reduceMul, Nat.reduceSub, Nat.reduceEqDiff, Nat.reduceLeDiff, Nat.reduceBEq, reduceCtorEq, Int.reduceLT, Int.reduceLE, Int.reduceEq, Int.reduceNe, Nat.reducePow, f0], fun r h => by cases h⟩
  | k + 1, i, fr, hk, hi, f0, f4 => by
    have hln := hns.ln
    have hn : ((i : Int) < (ns.length : Int)) := by omega
    have e3 : wrapK .i64 ((i : Int) + 1) = ((i + 1 : Nat) : Int) := by rw [wrapK_i64 (by omega) (by omega)]; rfl
    obtain ⟨x, hx⟩ := ex_nd (ns := ns) (i := i) (by omega)
    have hat := hns.at hx
    have hxok := hns.ok x (List.mem_of_getElem? hx)
    have hs : Sl 2 x.nx (x.es.map ed) := hxok
    have h120 := shape_ok hxok
    rw [shp_eq] at h120
    rw [dl49_0, drop_nd hx]
    cases h1 : shp x with
    | false =>
      have hc : chkA ns.length i (x :: ns.drop (i + 1)) = some ((i : Int), 7) := by simp only [chkA, h1, if_true]
      rw [hc]
      rw [h1] at h120
      simp -implicitDefEqProofs (maxDischargeDepth := 4) only [go_sem, ↓reduceIte, Nat.reduceLT, Nat.reduceAdd, Nat.reduceMul, Nat.reduceSub, Nat.reduceEqDiff, Nat.reduceLeDiff, Nat.reduceBEq, reduceCtorEq, Int.reduceLT, Int.reduceLE, Int.reduceEq, Int.reduceNe, Nat.reducePow, elAt_eq, stV_eq, cellsB_cells, hp_get_r, hp_get_r0, hp_get_l, hp_set_r, hp_set_r0, hp_set_l, hp_one, hp_ne, List.drop_succ_cons, List.drop_zero, List.take_succ_cons, List.take_zero, f0, f4, hns.sl.shr, hns.sl.notOwn, alen_sl hns.sl, List.length_map, hn, hat, hs.shr, hs.shut0, hs.shut1, h120, u_not, Option.isSome_some]
      exact ⟨_, rfl, by simp -implicitDefEqProofs (maxDischargeDepth := 4) only [go_sem, ↓reduceIte, Nat.reduceLT, Nat.reduceAdd, Nat.reduceMul, Nat.reduceSub, Nat.reduceEqDiff, Nat.reduceLeDiff, Nat.reduceBEq, reduceCtorEq, Int.reduceLT, Int.reduceLE, Int.reduceEq, Int.reduceNe, Nat.reducePow, f0], fun r h => by cases h; exact ⟨by simp -implicitDefEqProofs (maxDischargeDepth := 4) only [go_sem, ↓reduceIte, Nat.reduceLT, Nat.reduceAdd, Nat.reduceMul, Nat.reduceSub, Nat.reduceEqDiff, Nat.reduceLeDiff, Nat.reduceBEq, reduceCtorEq, Int.reduceLT, Int.reduceLE, Int.reduceEq, Int.reduceNe, Nat.reducePow], by simp -implicitDefEqProofs (maxDischargeDepth := 4) only [go_sem, ↓reduceIte, Nat.reduceLT, Nat.reduceAdd, Nat.reduceMul, Nat.reduceSub, Nat.reduceEqDiff, Nat.reduceLeDiff, Nat.reduceBEq, reduceCtorEq, Int.reduceLT, Int.reduceLE, Int.reduceEq, Int.reduceNe, Nat.reducePow]⟩⟩
    | true =>
      have h121 := open_ok hxok (by have := shp_len h1; omega) (ns.length : Int)
      rw [h1] at h120
      cases h2 : opn ns.length x with
      | true =>
        have hc : chkA ns.length i (x :: ns.drop (i + 1)) = some ((i : Int), 8) := by simp only [chkA, h1, h2, if_true, Bool.true_eq_false, if_false]
        rw [hc]
        rw [h2] at h121
        simp -implicitDefEqProofs (maxDischargeDepth := 4) only [go_sem, ↓reduceIte, Nat.reduceLT, Nat.reduceAdd, Nat.reduceMul, Nat.reduceSub, Nat.reduceEqDiff, Nat.reduceLeDiff, Nat.reduceBEq, reduceCtorEq, Int.reduceLT, Int.reduceLE, Int.reduceEq, Int.reduceNe, Nat.reducePow, elAt_eq, stV_eq, cellsB_cells, hp_get_r, hp_get_r0, hp_get_l, hp_set_r, hp_set_r0, hp_set_l, hp_one, hp_ne, List.drop_succ_cons, List.drop_zero, List.take_succ_cons, List.take_zero, f0, f4, hns.sl.shr, hns.sl.notOwn, alen_sl hns.sl, List.length_map, hn, hat, hs.shr, hs.shut0, hs.shut1, h120, h121, u_not, Option.isSome_some]
        exact ⟨_, rfl, by simp -implicitDefEqProofs (maxDischargeDepth := 4) only [go_sem, ↓reduceIte, Nat.reduceLT, Nat.reduceAdd, Nat.reduceMul, Nat.reduceSub, Nat.reduceEqDiff, Nat.reduceLeDiff, Nat.reduceBEq, reduceCtorEq, Int.reduceLT, Int.reduceLE, Int.reduceEq, Int.reduceNe, Nat.reducePow, f0], fun r h => by cases h; exact ⟨by simp -implicitDefEqProofs (maxDischargeDepth := 4) only [go_sem, ↓reduceIte, Nat.reduceLT, Nat.reduceAdd, Nat.reduceMul, Nat.reduceSub, Nat.reduceEqDiff, Nat.reduceLeDiff, Nat.reduceBEq, reduceCtorEq, Int.reduceLT, Int.reduceLE, Int.reduceEq, Int.reduceNe, Nat.reducePow], by simp -implicitDefEqProofs (maxDischargeDepth := 4) only [go_sem, ↓reduceIte, Nat.reduceLT, Nat.reduceAdd, Nat.reduceMul, Nat.reduceSub, Nat.reduceEqDiff, Nat.reduceLeDiff, Nat.reduceBEq, reduceCtorEq, Int.reduceLT, Int.reduceLE, Int.reduceEq, Int.reduceNe, Nat.reducePow]⟩⟩
      | false =>
        have hc : chkA ns.length i (x :: ns.drop (i + 1)) = chkA ns.length (i + 1) (ns.drop (i + 1)) := by simp only [chkA, h1, h2, Bool.true_eq_false, Bool.false_eq_true, if_false]
        rw [hc]
        rw [h2] at h121
        simp -implicitDefEqProofs (maxDischargeDepth := 4) only [go_sem, ↓reduceIte, Nat.reduceLT, Nat.reduceAdd, Nat.reduceMul, Nat.reduceSub, Nat.reduceEqDiff, Nat.reduceLeDiff, Nat.reduceBEq, reduceCtorEq, Int.reduceLT, Int.reduceLE, Int.reduceEq, Int.reduceNe, Nat.reducePow, elAt_eq, stV_eq, cellsB_cells, hp_get_r, hp_get_r0, hp_get_l, hp_set_r, hp_set_r0, hp_set_l, hp_one, hp_ne, List.drop_succ_cons, List.drop_zero, List.take_succ_cons, List.take_zero, f0, f4, hns.sl.shr, hns.sl.notOwn, alen_sl hns.sl, List.length_map, hn, hat, hs.shr, hs.shut0, hs.shut1, h120, h121, u_not, e3]
        exact rchk_loopA hns k (i + 1) _ (by omega) (by omega) (by simp -implicitDefEqProofs (maxDischargeDepth := 4) only [go_sem, ↓reduceIte, Nat.reduceLT, Nat.reduceAdd, Nat.reduceMul, Nat.reduceSub, Nat.reduceEqDiff, Nat.reduceLeDiff, Nat.reduceBEq, reduceCtorEq, Int.reduceLT, Int.reduceLE, Int.reduceEq, Int.reduceNe, Nat.reducePow, f0]) (by simp -implicitDefEqProofs (maxDischargeDepth := 4) only [go_sem, ↓reduceIte, Nat.reduceLT, Nat.reduceAdd, Nat.reduceMul, Nat.reduceSub, Nat.reduceEqDiff, Nat.reduceLeDiff, Nat.reduceBEq, reduceCtorEq, Int.reduceLT, Int.reduceLE, Int.reduceEq, Int.reduceNe, Nat.reducePow])

theorem field61_0 (p q : Int) : afield cx.T 61 (.agg [iv p, iv q]) 0 = some (iv p) := nr (by kernel_rfl)
theorem field61_1 (p q : Int) : afield cx.T 61 (.agg [iv p, iv q]) 1 = some (iv q) := nr (by kernel_rfl)
theorem rchk_loopB {ns : List Nd} {a : AV} (hns : NsOk ns a) : ∀ (k i : Nat) (fr : PT), ns.length - i = k → i ≤ ns.length → fr.get 0 = a → fr.get 5 = iv i →
    ∃ fr', D.loop 0 49 54 l49_1 fr [] = some (if (chkB ns k i).2 = 0 then .exit 2 else .ret, fr', []) ∧ ((chkB ns k i).2 ≠ 0 → fr'.get 2 = iv (chkB ns k i).1 ∧ fr'.get 3 = iv (chkB ns k i).2) ∧ ((chkB ns k i).2 = 0 → chkB ns k i = (-1, 0))
  | 0, i, fr, hk, hi, f0, f5 => by
    have hn : ¬ ((i : Int) < (ns.length : Int)) := by omega
    rw [dl49_1]
    simp -implicitDefEqProofs (maxDischargeDepth := 4) only [go_sem, ↓reduceIte, Nat.reduceLT, Nat.reduceAdd, Nat.reduceMul, Nat.reduceSub, Nat.reduceEqDiff, Nat.reduceLeDiff, Nat.reduceBEq, reduceCtorEq, Int.reduceLT, Int.reduceLE, Int.reduceEq, Int.reduceNe, Nat.reducePow, elAt_eq, stV_eq, cellsB_cells, hp_get_r, hp_get_r0, hp_get_l, hp_set_r, hp_set_r0, hp_set_l, hp_one, hp_ne, List.drop_succ_cons, List.drop_zero, List.take_succ_cons, List.take_zero, f0, f5, hns.sl.shr, hns.sl.notOwn, alen_sl hns.sl, List.length_map, hn, chkB]
    exact ⟨_, rfl, fun h => h.elim, fun _ => trivial⟩
  | k + 1, i, fr, hk, hi, f0, f5 => by
    have hln := hns.ln
    have hn : ((i : Int) < (ns.length : Int)) := by omega
    have e3 : wrapK .i64 ((i : Int) + 1) = ((i + 1 : Nat) : Int) := by rw [wrapK_i64 (by omega) (by omega)]; rfl
    obtain ⟨x, hx⟩ := ex_nd (ns := ns) (i := i) (by omega)
    have hat := hns.at hx
    have hxok := hns.ok x (List.mem_of_getElem? hx)
    have hs : Sl 2 x.nx (x.es.map ed) := hxok
    have h52 := rres_ok hns i 0
    rw [dl49_1]
    by_cases hk5 : x.kind = 5
    · cases hb : bad ns i with
      | true =>
        have hc : chkB ns (k + 1) i = ((i : Int), 9) := by simp only [chkB, hb, if_true]
        have hb' : (wlk ns ns.length i 0).1 < 0 := by simpa [bad] using hb
        rw [hc]
        simp -implicitDefEqProofs (maxDischargeDepth := 4) only [go_sem, ↓reduceIte, Nat.reduceLT, Nat.reduceAdd, Nat.reduceMul, Nat.reduceSub, Nat.reduceEqDiff, Nat.reduceLeDiff, Nat.reduceBEq, reduceCtorEq, Int.reduceLT, Int.reduceLE, Int.reduceEq, Int.reduceNe, Nat.reducePow, elAt_eq, stV_eq, cellsB_cells, hp_get_r, hp_get_r0, hp_get_l, hp_set_r, hp_set_r0, hp_set_l, hp_one, hp_ne, List.drop_succ_cons, List.drop_zero, List.take_succ_cons, List.take_zero, f0, f5, hns.sl.shr, hns.sl.notOwn, hns.sl.shut1, alen_sl hns.sl, List.length_map, hn, hat, hs.shr, hs.shut0, hs.shut1, hk5, build61a, h52, field61_0, hb']
        exact ⟨_, rfl, fun _ => ⟨by simp -implicitDefEqProofs (maxDischargeDepth := 4) only [go_sem, ↓reduceIte, Nat.reduceLT, Nat.reduceAdd, Nat.reduceMul, Nat.reduceSub, Nat.reduceEqDiff, Nat.reduceLeDiff, Nat.reduceBEq, reduceCtorEq, Int.reduceLT, Int.reduceLE, Int.reduceEq, Int.reduceNe, Nat.reducePow], by simp -implicitDefEqProofs (maxDischargeDepth := 4) only [go_sem, ↓reduceIte, Nat.reduceLT, Nat.reduceAdd, Nat.reduceMul, Nat.reduceSub, Nat.reduceEqDiff, Nat.reduceLeDiff, Nat.reduceBEq, reduceCtorEq, Int.reduceLT, Int.reduceLE, Int.reduceEq, Int.reduceNe, Nat.reducePow]⟩, fun h => h.elim⟩
      | false =>
        have hc : chkB ns (k + 1) i = chkB ns k (i + 1) := by simp only [chkB, hb, Bool.false_eq_true, if_false]
        have hb' : ¬ (wlk ns ns.length i 0).1 < 0 := by simpa [bad] using hb
        rw [hc]
        simp -implicitDefEqProofs (maxDischargeDepth := 4) only [go_sem, ↓reduceIte, Nat.reduceLT, Nat.reduceAdd, Nat.reduceMul, Nat.reduceSub, Nat.reduceEqDiff, Nat.reduceLeDiff, Nat.reduceBEq, reduceCtorEq, Int.reduceLT, Int.reduceLE, Int.reduceEq, Int.reduceNe, Nat.reducePow, elAt_eq, stV_eq, cellsB_cells, hp_get_r, hp_get_r0, hp_get_l, hp_set_r, hp_set_r0, hp_set_l, hp_one, hp_ne, List.drop_succ_cons, List.drop_zero, List.take_succ_cons, List.take_zero, f0, f5, hns.sl.shr, hns.sl.notOwn, hns.sl.shut1, alen_sl hns.sl, List.length_map, hn, hat, hs.shr, hs.shut0, hs.shut1, hk5, build61a, h52, field61_0, hb', e3]
        exact rchk_loopB hns k (i + 1) _ (by omega) (by omega) (by simp -implicitDefEqProofs (maxDischargeDepth := 4) only [go_sem, ↓reduceIte, Nat.reduceLT, Nat.reduceAdd, Nat.reduceMul, Nat.reduceSub, Nat.reduceEqDiff, Nat.reduceLeDiff, Nat.reduceBEq, reduceCtorEq, Int.reduceLT, Int.reduceLE, Int.reduceEq, Int.reduceNe, Nat.reducePow, f0]) (by simp -implicitDefEqProofs (maxDischargeDepth := 4) only [go_sem, ↓reduceIte, Nat.reduceLT, Nat.reduceAdd, Nat.reduceMul, Nat.reduceSub, Nat.reduceEqDiff, Nat.reduceLeDiff, Nat.reduceBEq, reduceCtorEq, Int.reduceLT, Int.reduceLE, Int.reduceEq, Int.reduceNe, Nat.reducePow])
    · have hb := not_bad hx hk5
      have hc : chkB ns (k + 1) i = chkB ns k (i + 1) := by simp only [chkB, hb, Bool.false_eq_true, if_false]
      rw [hc]
      simp -implicitDefEqProofs (maxDischargeDepth := 4) only [go_sem, ↓reduceIte, Nat.reduceLT, Nat.reduceAdd, Nat.reduceMul, Nat.reduceSub, Nat.reduceEqDiff, Nat.reduceLeDiff, Nat.reduceBEq, reduceCtorEq, Int.reduceLT, Int.reduceLE, Int.reduceEq, Int.reduceNe, Nat.reducePow, elAt_eq, stV_eq, cellsB_cells, hp_get_r, hp_get_r0, hp_get_l, hp_set_r, hp_set_r0, hp_set_l, hp_one, hp_ne, List.drop_succ_cons, List.drop_zero, List.take_succ_cons, List.take_zero, f0, f5, hns.sl.shr, hns.sl.notOwn, hns.sl.shut1, alen_sl hns.sl, List.length_map, hn, hat, hs.shr, hs.shut0, hs.shut1, hk5, e3]
      exact rchk_loopB hns k (i + 1) _ (by omega) (by omega) (by simp -implicitDefEqProofs (maxDischargeDepth := 4) only [go_sem, ↓reduceIte, Nat.reduceLT, Nat.reduceAdd, Nat.reduceMul, Nat.reduceSub, Nat.reduceEqDiff, Nat.reduceLeDiff, Nat.reduceBEq, reduceCtorEq, Int.reduceLT, Int.reduceLE, Int.reduceEq, Int.reduceNe, Nat.reducePow, f0]) (by simp -implicitDefEqProofs (maxDischargeDepth := 4) only [go_sem, ↓reduceIte, Nat.reduceLT, Nat.reduceAdd, Nat.reduceMul, Nat.reduceSub, Nat.reduceEqDiff, Nat.reduceLeDiff, Nat.reduceBEq, reduceCtorEq, Int.reduceLT, Int.reduceLE, Int.reduceEq, Int.reduceNe, Nat.reducePow])
theorem chkB_zero {ns : List Nd} : ∀ {k i : Nat}, (chkB ns k i).2 = 0 → chkB ns k i = (-1, 0)
  | 0, i, _ => rfl
  | k + 1, i, h => by
    simp only [chkB] at h ⊢
    split at h
    · exact absurd h (show (9 : Int) ≠ 0 by decide)
    · rename_i hb; rw [if_neg hb]; exact chkB_zero h
theorem chkA_ne {N : Int} : ∀ {l : List Nd} {i : Nat} {r : Int × Int}, chkA N i l = some r → r.2 ≠ 0
  | [], i, r, h => by simp [chkA] at h
  | x :: xs, i, r, h => by
    simp only [chkA] at h
    split at h
    · cases h; exact show (7 : Int) ≠ 0 by decide
    · split at h
      · cases h; exact show (8 : Int) ≠ 0 by decide
      · exact chkA_ne h
theorem rchk_call {ns : List Nd} {a : AV} (hns : NsOk ns a) : callB cx D 0 49 [a] [] = some (errV (chk ns), []) := by
  unfold chk errV
  rw [c49]
  by_cases h0 : ns.length = 0
  · have h0' : (ns.length : Int) = 0 := by omega
    rw [if_pos h0]
    simp -implicitDefEqProofs (maxDischargeDepth := 4) only [go_sem, ↓reduceIte, Nat.reduceLT, Nat.reduceAdd, Nat.reduceMul, Nat.reduceSub, Nat.reduceEqDiff, Nat.reduceLeDiff, Nat.reduceBEq, reduceCtorEq, Int.reduceLT, Int.reduceLE, Int.reduceEq, Int.reduceNe, Nat.reducePow, elAt_eq, stV_eq, cellsB_cells, hp_get_r, hp_get_r0, hp_get_l, hp_set_r, hp_set_r0, hp_set_l, hp_one, hp_ne, List.drop_succ_cons, List.drop_zero, List.take_succ_cons, List.take_zero, hns.sl.shr, hns.sl.notOwn, hns.sl.drp, alen_sl hns.sl, List.length_map, h0']
  rw [if_neg h0]
  by_cases h1 : 64 < ns.length
  · have h0' : ¬ (ns.length : Int) = 0 := by omega
    have h1' : (64 : Int) < (ns.length : Int) := by omega
    rw [if_pos h1]
    simp -implicitDefEqProofs (maxDischargeDepth := 4) only [go_sem, ↓reduceIte, Nat.reduceLT, Nat.reduceAdd, Nat.reduceMul, Nat.reduceSub, Nat.reduceEqDiff, Nat.reduceLeDiff, Nat.reduceBEq, reduceCtorEq, Int.reduceLT, Int.reduceLE, Int.reduceEq, Int.reduceNe, Nat.reducePow, elAt_eq, stV_eq, cellsB_cells, hp_get_r, hp_get_r0, hp_get_l, hp_set_r, hp_set_r0, hp_set_l, hp_one, hp_ne, List.drop_succ_cons, List.drop_zero, List.take_succ_cons, List.take_zero, hns.sl.shr, hns.sl.notOwn, hns.sl.drp, alen_sl hns.sl, List.length_map, h0', h1']
  rw [if_neg h1]
  have h0' : ¬ (ns.length : Int) = 0 := by omega
  have h1' : ¬ (64 : Int) < (ns.length : Int) := by omega
  obtain ⟨FA, hA⟩ := skol (fun fr (h : fr.get 0 = a ∧ fr.get 4 = iv 0) => rchk_loopA hns ns.length 0 fr (by omega) (by omega) h.1 h.2)
  obtain ⟨FB, hB⟩ := skol (fun fr (h : fr.get 0 = a ∧ fr.get 5 = iv 0) => rchk_loopB hns ns.length 0 fr (by omega) (by omega) h.1 h.2)
  rw [List.drop_zero] at hA
  have a1 := fun fr p q => (hA fr ⟨p, q⟩).1
  have a2 := fun fr p q => (hA fr ⟨p, q⟩).2.1
  have a3 := fun fr p q => (hA fr ⟨p, q⟩).2.2
  have b1 := fun fr p q => (hB fr ⟨p, q⟩).1
  have b2 := fun fr p q => (hB fr ⟨p, q⟩).2.1
  cases hc : chkA ns.length 0 ns with
  | some r =>
    simp only [hc, Option.isSome_some, if_true] at a1
    have a4 := fun fr p q => (a3 fr p q r hc).1
    have a5 := fun fr p q => (a3 fr p q r hc).2
    simp -implicitDefEqProofs (maxDischargeDepth := 4) only [go_sem, ↓reduceIte, Nat.reduceLT, Nat.reduceAdd, Nat.reduceMul, Nat.reduceSub, Nat.reduceEqDiff, Nat.reduceLeDiff, Nat.reduceBEq, reduceCtorEq, Int.reduceLT, Int.reduceLE, Int.reduceEq, Int.reduceNe, Nat.reducePow, elAt_eq, stV_eq, cellsB_cells, hp_get_r, hp_get_r0, hp_get_l, hp_set_r, hp_set_r0, hp_set_l, hp_one, hp_ne, List.drop_succ_cons, List.drop_zero, List.take_succ_cons, List.take_zero, hns.sl.shr, hns.sl.notOwn, hns.sl.drp, alen_sl hns.sl, List.length_map, h0', h1', x_loop, a1, a4, a5]
  | none =>
    simp only [hc, Option.isSome_none, Bool.false_eq_true, if_false] at a1
    by_cases hz : (chkB ns ns.length 0).2 = 0
    · have hcb := chkB_zero hz
      simp only [hz, if_true] at b1
      simp -implicitDefEqProofs (maxDischargeDepth := 4) only [go_sem, ↓reduceIte, Nat.reduceLT, Nat.reduceAdd, Nat.reduceMul, Nat.reduceSub, Nat.reduceEqDiff, Nat.reduceLeDiff, Nat.reduceBEq, reduceCtorEq, Int.reduceLT, Int.reduceLE, Int.reduceEq, Int.reduceNe, Nat.reducePow, elAt_eq, stV_eq, cellsB_cells, hp_get_r, hp_get_r0, hp_get_l, hp_set_r, hp_set_r0, hp_set_l, hp_one, hp_ne, List.drop_succ_cons, List.drop_zero, List.take_succ_cons, List.take_zero, hns.sl.shr, hns.sl.notOwn, hns.sl.drp, alen_sl hns.sl, List.length_map, h0', h1', x_loop, a1, a2, b1, hcb]
    · simp only [hz, if_false] at b1
      have b3 := fun fr p q => (b2 fr p q hz).1
      have b4 := fun fr p q => (b2 fr p q hz).2
      simp -implicitDefEqProofs (maxDischargeDepth := 4) only [go_sem, ↓reduceIte, Nat.reduceLT, Nat.reduceAdd, Nat.reduceMul, Nat.reduceSub, Nat.reduceEqDiff, Nat.reduceLeDiff, Nat.reduceBEq, reduceCtorEq, Int.reduceLT, Int.reduceLE, Int.reduceEq, Int.reduceNe, Nat.reducePow, elAt_eq, stV_eq, cellsB_cells, hp_get_r, hp_get_r0, hp_get_l, hp_set_r, hp_set_r0, hp_set_l, hp_one, hp_ne, List.drop_succ_cons, List.drop_zero, List.take_succ_cons, List.take_zero, hns.sl.shr, hns.sl.notOwn, hns.sl.drp, alen_sl hns.sl, List.length_map, h0', h1', x_loop, a1, a2, b1, b3, b4]
end Go.Abs.Tab

/- Whether a table has its shape: graph.Check. -/
set_option linter.unusedVariables false
namespace Go.Abs.Tab
open Go.Gr
@[go_sem] theorem x_label {cx : Cx} {h : Hd} {ro fn nt : Nat} {fr : PT} {H : Hp} (n : Nat) : ex cx h ro fn nt (.label n) fr H = some (.normal, fr, H) := nr rfl
theorem any_edg (x : Nd) (f : Int × Int → Bool) : (edg x).any f = (x.es.any f || (x.chan && f (x.pt, x.ps))) := by
  unfold edg
  cases x.chan <;> simp
theorem out_within (n : Int) (e : Int × Int) : inB e.1 (n - 1) = !outE n e := by
  rw [Bool.eq_iff_iff]
  simp only [inB, outE, Bool.and_eq_true, Bool.not_eq_true', Bool.or_eq_false_iff, decide_eq_true_eq, decide_eq_false_iff_not]
  omega
structure EFr (fr : PT) (a b : AV) (L j i E : Nat) : Prop where
  f0 : fr.get 0 = a
  f4 : fr.get 4 = iv j
  f3 : fr.get 3 = iv 0
  f19 : fr.get 19 = a
  f20 : fr.get 20 = iv L
  f21 : fr.get 21 = iv j
  f31 : fr.get 31 = b
  f32 : fr.get 32 = iv E
  f33 : fr.get 33 = iv i
theorem edges_loop {ns : List Nd} {a b : AV} (hns : NsOk ns a) {es : List (Int × Int)} (hb : Sl 2 b (es.map ed)) (hl : es.length < 2 ^ 30) {j : Nat} : ∀ (k i : Nat) (fr : PT) (G : Hp), es.length - i = k → i ≤ es.length → G.length = 1 → EFr fr a b ns.length j i es.length →
    ∃ fr' G', D.loop 0 48 66 l48_0 fr G = some (if (es.drop i).any (outE ns.length) = true then .exit 1 else .exit 3, fr', G') ∧ ((es.drop i).any (outE ns.length) = true → fr'.get 2 = iv j ∧ fr'.get 3 = iv 8) ∧ ((es.drop i).any (outE ns.length) = false → EFr fr' a b ns.length j es.length es.length)
  | 0, i, fr, G, hk, hi, hG, F => by
    have hn : ¬ ((i : Int) < (es.length : Int)) := by omega
    have hie : i = es.length := by omega
    subst hie
    rw [dl48_0, List.drop_eq_nil_of_le (Nat.le_refl _)]
    simp -implicitDefEqProofs (maxDischargeDepth := 4) only [go_sem, ↓reduceIte, Nat.reduceLT, Nat.reduceAdd, Nat.reduceMul, Nat.reduceSub, Nat.reduceEqDiff, Nat.reduceLeDiff, Nat.reduceBEq, reduceCtorEq, Int.reduceLT, Int.reduceLE, Int.reduceEq, Int.reduceNe, Nat.reducePow, elAt_eq, stV_eq, cellsB_cells, hp_get_r, hp_get_r0, hp_get_l, hp_set_r, hp_set_r0, hp_set_l, hp_one, hp_ne, List.drop_succ_cons, List.drop_zero, List.take_succ_cons, List.take_zero, F.f32, F.f33, hn, List.any_nil]
    refine ⟨_, _, rfl, fun h => h.elim, fun _ => ⟨?_, ?_, ?_, ?_, ?_, ?_, ?_, ?_, ?_⟩⟩ <;> simp -implicitDefEqProofs (maxDischargeDepth := 4) only [go_sem, ↓reduceIte, Nat.reduceLT, Nat.reduceAdd, Nat.reduceMul, Nat.reduceSub, Nat.reduceEqDiff, Nat.reduceLeDiff, Nat.reduceBEq, reduceCtorEq, Int.reduceLT, Int.reduceLE, Int.reduceEq, Int.reduceNe, Nat.reducePow, F.f0, F.f4, F.f3, F.f19, F.f20, F.f21, F.f31, F.f32, F.f33]
  | k + 1, i, fr, G, hk, hi, hG, F => by
    have hln := hns.ln
    have hn : ((i : Int) < (es.length : Int)) := by omega
    have e1 := at_ed hb (show i < es.length by omega)
    have e3 : wrapK .i64 ((i : Int) + 1) = ((i + 1 : Nat) : Int) := by rw [wrapK_i64 (by omega) (by omega)]; rfl
    have e4 : wrapK .i64 ((ns.length : Int) - 1) = (ns.length : Int) - 1 := wrapK_i64 (by omega) (by omega)
    have hwi := within_ok (es.getD i (0, 0)).1 ((ns.length : Int) - 1)
    rw [out_within] at hwi
    rw [dl48_0, drop_ed (show i < es.length by omega), List.any_cons]
    cases hw : outE ns.length (es.getD i (0, 0)) with
    | true =>
      rw [hw] at hwi
      rw [Bool.true_or]
      simp -implicitDefEqProofs (maxDischargeDepth := 4) only [go_sem, ↓reduceIte, Nat.reduceLT, Nat.reduceAdd, Nat.reduceMul, Nat.reduceSub, Nat.reduceEqDiff, Nat.reduceLeDiff, Nat.reduceBEq, reduceCtorEq, Int.reduceLT, Int.reduceLE, Int.reduceEq, Int.reduceNe, Nat.reducePow, elAt_eq, stV_eq, cellsB_cells, hp_get_r, hp_get_r0, hp_get_l, hp_set_r, hp_set_r0, hp_set_l, hp_one, hp_ne, List.drop_succ_cons, List.drop_zero, List.take_succ_cons, List.take_zero, F.f0, F.f4, F.f31, F.f32, F.f33, hG, hn, hb.notOwn, hb.shr, e1, Nat.zero_le, Nat.not_lt_zero, hns.sl.shr, hns.sl.notOwn, alen_sl hns.sl, List.length_map, e4, hwi]
      exact ⟨_, _, rfl, fun _ => ⟨by simp -implicitDefEqProofs (maxDischargeDepth := 4) only [go_sem, ↓reduceIte, Nat.reduceLT, Nat.reduceAdd, Nat.reduceMul, Nat.reduceSub, Nat.reduceEqDiff, Nat.reduceLeDiff, Nat.reduceBEq, reduceCtorEq, Int.reduceLT, Int.reduceLE, Int.reduceEq, Int.reduceNe, Nat.reducePow], by simp -implicitDefEqProofs (maxDischargeDepth := 4) only [go_sem, ↓reduceIte, Nat.reduceLT, Nat.reduceAdd, Nat.reduceMul, Nat.reduceSub, Nat.reduceEqDiff, Nat.reduceLeDiff, Nat.reduceBEq, reduceCtorEq, Int.reduceLT, Int.reduceLE, Int.reduceEq, Int.reduceNe, Nat.reducePow]⟩, fun h => by cases h⟩
    | false =>
      rw [hw] at hwi
      rw [Bool.false_or]
      simp -implicitDefEqProofs (maxDischargeDepth := 4) only [go_sem, ↓reduceIte, Nat.reduceLT, Nat.reduceAdd, Nat.reduceMul, Nat.reduceSub, Nat.reduceEqDiff, Nat.reduceLeDiff, Nat.reduceBEq, reduceCtorEq, Int.reduceLT, Int.reduceLE, Int.reduceEq, Int.reduceNe, Nat.reducePow, elAt_eq, stV_eq, cellsB_cells, hp_get_r, hp_get_r0, hp_get_l, hp_set_r, hp_set_r0, hp_set_l, hp_one, hp_ne, List.drop_succ_cons, List.drop_zero, List.take_succ_cons, List.take_zero, F.f0, F.f4, F.f31, F.f32, F.f33, hG, hn, hb.notOwn, hb.shr, e1, Nat.zero_le, Nat.not_lt_zero, hns.sl.shr, hns.sl.notOwn, alen_sl hns.sl, List.length_map, e4, hwi, e3]
      refine trim_gen (P := fun z => ∃ fr' G', z = some (if (es.drop (i + 1)).any (outE ns.length) = true then Ex.exit 1 else Ex.exit 3, fr', G') ∧ ((es.drop (i + 1)).any (outE ns.length) = true → fr'.get 2 = iv j ∧ fr'.get 3 = iv 8) ∧ ((es.drop (i + 1)).any (outE ns.length) = false → EFr fr' a b ns.length j es.length es.length))
        [0, 3, 4, 19, 20, 21, 31, 32, 33] ?_ (fun t ht => ?_) fun fr' G' hG' hf _ => edges_loop hns hb hl k (i + 1) fr' G' (by omega) (by omega) hG' ⟨?_, ?_, ?_, ?_, ?_, ?_, ?_, ?_, ?_⟩
      · rw [List.length_append, hG]; exact Nat.le_add_right _ _
      · simp only [List.mem_cons, List.not_mem_nil, or_false] at ht
        rcases ht with rfl | rfl | rfl | rfl | rfl | rfl | rfl | rfl | rfl <;> simp -implicitDefEqProofs (maxDischargeDepth := 4) only [go_sem, ↓reduceIte, Nat.reduceLT, Nat.reduceAdd, Nat.reduceMul, Nat.reduceSub, Nat.reduceEqDiff, Nat.reduceLeDiff, Nat.reduceBEq, reduceCtorEq, Int.reduceLT, Int.reduceLE, Int.reduceEq, Int.reduceNe, Nat.reducePow, F.f0, F.f4, F.f3, F.f19, F.f20, F.f21, F.f31, F.f32, kill_lit, kill_Sl hns.sl, kill_Sl hb]
      · rw [hf 0 (by simp)]; simp -implicitDefEqProofs (maxDischargeDepth := 4) only [go_sem, ↓reduceIte, Nat.reduceLT, Nat.reduceAdd, Nat.reduceMul, Nat.reduceSub, Nat.reduceEqDiff, Nat.reduceLeDiff, Nat.reduceBEq, reduceCtorEq, Int.reduceLT, Int.reduceLE, Int.reduceEq, Int.reduceNe, Nat.reducePow, F.f0]
      · rw [hf 4 (by simp)]; simp -implicitDefEqProofs (maxDischargeDepth := 4) only [go_sem, ↓reduceIte, Nat.reduceLT, Nat.reduceAdd, Nat.reduceMul, Nat.reduceSub, Nat.reduceEqDiff, Nat.reduceLeDiff, Nat.reduceBEq, reduceCtorEq, Int.reduceLT, Int.reduceLE, Int.reduceEq, Int.reduceNe, Nat.reducePow, F.f4]
      · rw [hf 3 (by simp)]; simp -implicitDefEqProofs (maxDischargeDepth := 4) only [go_sem, ↓reduceIte, Nat.reduceLT, Nat.reduceAdd, Nat.reduceMul, Nat.reduceSub, Nat.reduceEqDiff, Nat.reduceLeDiff, Nat.reduceBEq, reduceCtorEq, Int.reduceLT, Int.reduceLE, Int.reduceEq, Int.reduceNe, Nat.reducePow, F.f3]
      · rw [hf 19 (by simp)]; simp -implicitDefEqProofs (maxDischargeDepth := 4) only [go_sem, ↓reduceIte, Nat.reduceLT, Nat.reduceAdd, Nat.reduceMul, Nat.reduceSub, Nat.reduceEqDiff, Nat.reduceLeDiff, Nat.reduceBEq, reduceCtorEq, Int.reduceLT, Int.reduceLE, Int.reduceEq, Int.reduceNe, Nat.reducePow, F.f19]
      · rw [hf 20 (by simp)]; simp -implicitDefEqProofs (maxDischargeDepth := 4) only [go_sem, ↓reduceIte, Nat.reduceLT, Nat.reduceAdd, Nat.reduceMul, Nat.reduceSub, Nat.reduceEqDiff, Nat.reduceLeDiff, Nat.reduceBEq, reduceCtorEq, Int.reduceLT, Int.reduceLE, Int.reduceEq, Int.reduceNe, Nat.reducePow, F.f20]
      · rw [hf 21 (by simp)]; simp -implicitDefEqProofs (maxDischargeDepth := 4) only [go_sem, ↓reduceIte, Nat.reduceLT, Nat.reduceAdd, Nat.reduceMul, Nat.reduceSub, Nat.reduceEqDiff, Nat.reduceLeDiff, Nat.reduceBEq, reduceCtorEq, Int.reduceLT, Int.reduceLE, Int.reduceEq, Int.reduceNe, Nat.reducePow, F.f21]
      · rw [hf 31 (by simp)]; simp -implicitDefEqProofs (maxDischargeDepth := 4) only [go_sem, ↓reduceIte, Nat.reduceLT, Nat.reduceAdd, Nat.reduceMul, Nat.reduceSub, Nat.reduceEqDiff, Nat.reduceLeDiff, Nat.reduceBEq, reduceCtorEq, Int.reduceLT, Int.reduceLE, Int.reduceEq, Int.reduceNe, Nat.reducePow, F.f31]
      · rw [hf 32 (by simp)]; simp -implicitDefEqProofs (maxDischargeDepth := 4) only [go_sem, ↓reduceIte, Nat.reduceLT, Nat.reduceAdd, Nat.reduceMul, Nat.reduceSub, Nat.reduceEqDiff, Nat.reduceLeDiff, Nat.reduceBEq, reduceCtorEq, Int.reduceLT, Int.reduceLE, Int.reduceEq, Int.reduceNe, Nat.reducePow, F.f32]
      · rw [hf 33 (by simp)]; simp -implicitDefEqProofs (maxDischargeDepth := 4) only [go_sem, ↓reduceIte, Nat.reduceLT, Nat.reduceAdd, Nat.reduceMul, Nat.reduceSub, Nat.reduceEqDiff, Nat.reduceLeDiff, Nat.reduceBEq, reduceCtorEq, Int.reduceLT, Int.reduceLE, Int.reduceEq, Int.reduceNe, Nat.reducePow]
structure NFr (fr : PT) (a : AV) (L i : Nat) : Prop where
  f0 : fr.get 0 = a
  f3 : fr.get 3 = iv 0
  f19 : fr.get 19 = a
  f20 : fr.get 20 = iv L
  f21 : fr.get 21 = iv i
def ResA (c : Option (Int × Int)) (a : AV) (e : Ex) (fr' : PT) (G' : Hp) : Prop :=
  (∃ r, c = some r ∧ fr'.get 2 = iv r.1 ∧ fr'.get 3 = iv r.2 ∧ e = if r.2 = 7 then .ret else .exit 1) ∨ (c = none ∧ e = .exit 1 ∧ fr'.get 0 = a ∧ fr'.get 3 = iv 0 ∧ G' = [])
theorem chk_loopA {ns : List Nd} {a : AV} (hns : NsOk ns a) : ∀ (k i : Nat) (fr : PT), ns.length - i = k → i ≤ ns.length → NFr fr a ns.length i →
    ∃ e fr' G', D.loop 0 48 66 l48_1 fr [] = some (e, fr', G') ∧ ResA (chkA ns.length i (ns.drop i)) a e fr' G'
  | 0, i, fr, hk, hi, F => by
    have hn : ¬ ((i : Int) < (ns.length : Int)) := by omega
    rw [dl48_1, List.drop_eq_nil_of_le (by omega)]
    simp -implicitDefEqProofs (maxDischargeDepth := 4) only [go_sem, ↓reduceIte, Nat.reduceLT, Nat.reduceAdd, Nat.reduceMul, Nat.reduceSub, Nat.reduceEqDiff, Nat.reduceLeDiff, Nat.reduceBEq, reduceCtorEq, Int.reduceLT, Int.reduceLE, Int.reduceEq, Int.reduceNe, Nat.reducePow, elAt_eq, stV_eq, cellsB_cells, hp_get_r, hp_get_r0, hp_get_l, hp_set_r, hp_set_r0, hp_set_l, hp_one, hp_ne, List.drop_succ_cons, List.drop_zero, List.take_succ_cons, List.take_zero, F.f20, F.f21, hn, chkA]
    exact ⟨_, _, _, rfl, .inr ⟨rfl, rfl, by simp -implicitDefEqProofs (maxDischargeDepth := 4) only [go_sem, ↓reduceIte, Nat.reduceLT, Nat.reduceAdd, Nat.reduceMul, Nat.reduceSub, Nat.reduceEqDiff, Nat.reduceLeDiff, Nat.reduceBEq, reduceCtorEq, Int.reduceLT, Int.reduceLE, Int.reduceEq, Int.reduceNe, Nat.reducePow, F.f0], by simp -implicitDefEqProofs (maxDischargeDepth := 4) only [go_sem, ↓reduceIte, Nat.reduceLT, Nat.reduceAdd, Nat.reduceMul, Nat.reduceSub, Nat.reduceEqDiff, Nat.reduceLeDiff, Nat.reduceBEq, reduceCtorEq, Int.reduceLT, Int.reduceLE, Int.reduceEq, Int.reduceNe, Nat.reducePow, F.f3], rfl⟩⟩
  | k + 1, i, fr, hk, hi, F => by
    have hln := hns.ln
    have hn : ((i : Int) < (ns.length : Int)) := by omega
    have e3 : wrapK .i64 ((i : Int) + 1) = ((i + 1 : Nat) : Int) := by rw [wrapK_i64 (by omega) (by omega)]; rfl
    obtain ⟨x, hx⟩ := ex_nd (ns := ns) (i := i) (by omega)
    have hat := hns.at hx
    have hxok := hns.ok x (List.mem_of_getElem? hx)
    have hs : Sl 2 x.nx (x.es.map ed) := hxok
    have h116 := shaped_ok hxok
    rw [dl48_1, drop_nd hx]
    cases h1 : shp x with
    | false =>
      have hc : chkA ns.length i (x :: ns.drop (i + 1)) = some ((i : Int), 7) := by simp only [chkA, h1, if_true]
      rw [hc]
      rw [h1] at h116
      simp -implicitDefEqProofs (maxDischargeDepth := 4) only [go_sem, ↓reduceIte, Nat.reduceLT, Nat.reduceAdd, Nat.reduceMul, Nat.reduceSub, Nat.reduceEqDiff, Nat.reduceLeDiff, Nat.reduceBEq, reduceCtorEq, Int.reduceLT, Int.reduceLE, Int.reduceEq, Int.reduceNe, Nat.reducePow, elAt_eq, stV_eq, cellsB_cells, hp_get_r, hp_get_r0, hp_get_l, hp_set_r, hp_set_r0, hp_set_l, hp_one, hp_ne, List.drop_succ_cons, List.drop_zero, List.take_succ_cons, List.take_zero, F.f0, F.f19, F.f20, F.f21, hns.sl.shr, hns.sl.notOwn, alen_sl hns.sl, List.length_map, hn, hat, hs.shr, hs.shut0, hs.shut1, hs.drp, hs.notOwn, hs.fitA, h116, u_not, Nat.zero_le, Nat.le_refl, Nat.not_lt_zero]
      exact ⟨_, _, _, rfl, .inl ⟨_, rfl, by simp -implicitDefEqProofs (maxDischargeDepth := 4) only [go_sem, ↓reduceIte, Nat.reduceLT, Nat.reduceAdd, Nat.reduceMul, Nat.reduceSub, Nat.reduceEqDiff, Nat.reduceLeDiff, Nat.reduceBEq, reduceCtorEq, Int.reduceLT, Int.reduceLE, Int.reduceEq, Int.reduceNe, Nat.reducePow], by simp -implicitDefEqProofs (maxDischargeDepth := 4) only [go_sem, ↓reduceIte, Nat.reduceLT, Nat.reduceAdd, Nat.reduceMul, Nat.reduceSub, Nat.reduceEqDiff, Nat.reduceLeDiff, Nat.reduceBEq, reduceCtorEq, Int.reduceLT, Int.reduceLE, Int.reduceEq, Int.reduceNe, Nat.reducePow], rfl⟩⟩
    | true =>
      have h8 := shp_len h1
      obtain ⟨b, h117, hb⟩ := edges_ok hxok (show x.es.length < 2 ^ 20 by omega)
      have hbl : (edg x).length < 2 ^ 30 := by unfold edg; split <;> simp <;> omega
      have h2 := any_edg x (outE ns.length)
      rw [h1] at h116
      obtain ⟨E, hE⟩ := skol (fun (p : PT × Hp) (h : p.2.length = 1 ∧ EFr p.1 a b ns.length i 0 (edg x).length) => by
        obtain ⟨fr', G', q⟩ := edges_loop hns hb hbl (j := i) (edg x).length 0 p.1 p.2 (by omega) (by omega) h.1 h.2
        exact (⟨(fr', G'), q⟩ : ∃ q : PT × Hp, D.loop 0 48 66 l48_0 p.1 p.2 = some (if ((edg x).drop 0).any (outE ns.length) = true then .exit 1 else .exit 3, q.1, q.2) ∧ (((edg x).drop 0).any (outE ns.length) = true → q.1.get 2 = iv i ∧ q.1.get 3 = iv 8) ∧ (((edg x).drop 0).any (outE ns.length) = false → EFr q.1 a b ns.length i (edg x).length (edg x).length)))
      rw [List.drop_zero, h2] at hE
      have hE1 : ∀ (fr : PT) (G : Hp), G.length = 1 → fr.get 0 = a → fr.get 4 = iv i → fr.get 3 = iv 0 → fr.get 19 = a → fr.get 20 = iv ns.length → fr.get 21 = iv i → fr.get 31 = b → fr.get 32 = iv (edg x).length → fr.get 33 = iv 0 →  D.loop 0 48 66 l48_0 fr G = some (if (x.es.any (outE ns.length) || (x.chan && outE ns.length (x.pt, x.ps))) = true then .exit 1 else .exit 3, (E (fr, G)).1, (E (fr, G)).2) := fun fr G c c0 c4 c3 c19 c20 c21 c31 c32 c33 => (hE (fr, G) ⟨c, ⟨c0, c4, c3, c19, c20, c21, c31, c32, c33⟩⟩).1
      have hop : opn ns.length x = (x.es.any (outE ns.length) || (x.chan && outE ns.length (x.pt, x.ps))) := rfl
      rw [← hop] at hE hE1
      cases h3 : opn ns.length x with
      | true =>
        have hc : chkA ns.length i (x :: ns.drop (i + 1)) = some ((i : Int), 8) := by simp only [chkA, h1, h3, if_true, Bool.true_eq_false, if_false]
        rw [hc]
        simp only [h3, if_true] at hE1
        simp -implicitDefEqProofs (maxDischargeDepth := 4) only [go_sem, ↓reduceIte, Nat.reduceLT, Nat.reduceAdd, Nat.reduceMul, Nat.reduceSub, Nat.reduceEqDiff, Nat.reduceLeDiff, Nat.reduceBEq, reduceCtorEq, Int.reduceLT, Int.reduceLE, Int.reduceEq, Int.reduceNe, Nat.reducePow, elAt_eq, stV_eq, cellsB_cells, hp_get_r, hp_get_r0, hp_get_l, hp_set_r, hp_set_r0, hp_set_l, hp_one, hp_ne, List.drop_succ_cons, List.drop_zero, List.take_succ_cons, List.take_zero, F.f0, F.f3, F.f19, F.f20, F.f21, hns.sl.shr, hns.sl.notOwn, alen_sl hns.sl, List.length_map, hn, hat, hs.shr, hs.shut0, hs.shut1, hs.drp, hs.notOwn, hs.fitA, h116, u_not, Nat.zero_le, Nat.le_refl, Nat.not_lt_zero, h117, hb.shr, hb.notOwn, alen_sl hb, x_loop, hE1]
        refine ⟨_, _, _, rfl, .inl ⟨_, rfl, ?_, ?_, rfl⟩⟩
        · refine ((hE (_, _) ⟨rfl, ⟨?_, ?_, ?_, ?_, ?_, ?_, ?_, ?_, ?_⟩⟩).2.1 h3).1 <;> simp -implicitDefEqProofs (maxDischargeDepth := 4) only [go_sem, ↓reduceIte, Nat.reduceLT, Nat.reduceAdd, Nat.reduceMul, Nat.reduceSub, Nat.reduceEqDiff, Nat.reduceLeDiff, Nat.reduceBEq, reduceCtorEq, Int.reduceLT, Int.reduceLE, Int.reduceEq, Int.reduceNe, Nat.reducePow, F.f0, F.f3, F.f19, F.f20, F.f21, Int.ofNat_zero]
        · refine ((hE (_, _) ⟨rfl, ⟨?_, ?_, ?_, ?_, ?_, ?_, ?_, ?_, ?_⟩⟩).2.1 h3).2 <;> simp -implicitDefEqProofs (maxDischargeDepth := 4) only [go_sem, ↓reduceIte, Nat.reduceLT, Nat.reduceAdd, Nat.reduceMul, Nat.reduceSub, Nat.reduceEqDiff, Nat.reduceLeDiff, Nat.reduceBEq, reduceCtorEq, Int.reduceLT, Int.reduceLE, Int.reduceEq, Int.reduceNe, Nat.reducePow, F.f0, F.f3, F.f19, F.f20, F.f21, Int.ofNat_zero]
      | false =>
        have hc : chkA ns.length i (x :: ns.drop (i + 1)) = chkA ns.length (i + 1) (ns.drop (i + 1)) := by simp only [chkA, h1, h3, Bool.true_eq_false, Bool.false_eq_true, if_false]
        rw [hc]
        simp only [h3, Bool.false_eq_true, if_false] at hE1
        have k0 : ∀ (fr : PT) (G : Hp), G.length = 1 → fr.get 0 = a → fr.get 4 = iv i → fr.get 3 = iv 0 → fr.get 19 = a → fr.get 20 = iv ns.length → fr.get 21 = iv i → fr.get 31 = b → fr.get 32 = iv (edg x).length → fr.get 33 = iv 0 →  (E (fr, G)).1.get 0 = a := fun fr G c c0 c4 c3 c19 c20 c21 c31 c32 c33 => ((hE (fr, G) ⟨c, ⟨c0, c4, c3, c19, c20, c21, c31, c32, c33⟩⟩).2.2 h3).f0
        have k3 : ∀ (fr : PT) (G : Hp), G.length = 1 → fr.get 0 = a → fr.get 4 = iv i → fr.get 3 = iv 0 → fr.get 19 = a → fr.get 20 = iv ns.length → fr.get 21 = iv i → fr.get 31 = b → fr.get 32 = iv (edg x).length → fr.get 33 = iv 0 →  (E (fr, G)).1.get 3 = iv 0 := fun fr G c c0 c4 c3 c19 c20 c21 c31 c32 c33 => ((hE (fr, G) ⟨c, ⟨c0, c4, c3, c19, c20, c21, c31, c32, c33⟩⟩).2.2 h3).f3
        have k19 : ∀ (fr : PT) (G : Hp), G.length = 1 → fr.get 0 = a → fr.get 4 = iv i → fr.get 3 = iv 0 → fr.get 19 = a → fr.get 20 = iv ns.length → fr.get 21 = iv i → fr.get 31 = b → fr.get 32 = iv (edg x).length → fr.get 33 = iv 0 →  (E (fr, G)).1.get 19 = a := fun fr G c c0 c4 c3 c19 c20 c21 c31 c32 c33 => ((hE (fr, G) ⟨c, ⟨c0, c4, c3, c19, c20, c21, c31, c32, c33⟩⟩).2.2 h3).f19
        have k20 : ∀ (fr : PT) (G : Hp), G.length = 1 → fr.get 0 = a → fr.get 4 = iv i → fr.get 3 = iv 0 → fr.get 19 = a → fr.get 20 = iv ns.length → fr.get 21 = iv i → fr.get 31 = b → fr.get 32 = iv (edg x).length → fr.get 33 = iv 0 →  (E (fr, G)).1.get 20 = iv ns.length := fun fr G c c0 c4 c3 c19 c20 c21 c31 c32 c33 => ((hE (fr, G) ⟨c, ⟨c0, c4, c3, c19, c20, c21, c31, c32, c33⟩⟩).2.2 h3).f20
        have k21 : ∀ (fr : PT) (G : Hp), G.length = 1 → fr.get 0 = a → fr.get 4 = iv i → fr.get 3 = iv 0 → fr.get 19 = a → fr.get 20 = iv ns.length → fr.get 21 = iv i → fr.get 31 = b → fr.get 32 = iv (edg x).length → fr.get 33 = iv 0 →  (E (fr, G)).1.get 21 = iv i := fun fr G c c0 c4 c3 c19 c20 c21 c31 c32 c33 => ((hE (fr, G) ⟨c, ⟨c0, c4, c3, c19, c20, c21, c31, c32, c33⟩⟩).2.2 h3).f21
        simp -implicitDefEqProofs (maxDischargeDepth := 4) only [go_sem, ↓reduceIte, Nat.reduceLT, Nat.reduceAdd, Nat.reduceMul, Nat.reduceSub, Nat.reduceEqDiff, Nat.reduceLeDiff, Nat.reduceBEq, reduceCtorEq, Int.reduceLT, Int.reduceLE, Int.reduceEq, Int.reduceNe, Nat.reducePow, elAt_eq, stV_eq, cellsB_cells, hp_get_r, hp_get_r0, hp_get_l, hp_set_r, hp_set_r0, hp_set_l, hp_one, hp_ne, List.drop_succ_cons, List.drop_zero, List.take_succ_cons, List.take_zero, F.f0, F.f3, F.f19, F.f20, F.f21, hns.sl.shr, hns.sl.notOwn, alen_sl hns.sl, List.length_map, hn, hat, hs.shr, hs.shut0, hs.shut1, hs.drp, hs.notOwn, hs.fitA, h116, u_not, Nat.zero_le, Nat.le_refl, Nat.not_lt_zero, h117, hb.shr, hb.notOwn, alen_sl hb, x_loop, hE1, k21, e3]
        refine trim_gen (P := fun z => ∃ e fr' G', z = some (e, fr', G') ∧ ResA (chkA ns.length (i + 1) (ns.drop (i + 1))) a e fr' G')
          [0, 3, 19, 20, 21] (Nat.zero_le _) (fun t ht => ?_) fun fr' G' hG' hf _ => ?_
        · simp only [List.mem_cons, List.not_mem_nil, or_false] at ht
          rcases ht with rfl | rfl | rfl | rfl | rfl <;> simp -implicitDefEqProofs (maxDischargeDepth := 4) only [go_sem, ↓reduceIte, Nat.reduceLT, Nat.reduceAdd, Nat.reduceMul, Nat.reduceSub, Nat.reduceEqDiff, Nat.reduceLeDiff, Nat.reduceBEq, reduceCtorEq, Int.reduceLT, Int.reduceLE, Int.reduceEq, Int.reduceNe, Nat.reducePow, F.f0, F.f3, F.f19, F.f20, F.f21, k0, k3, k19, k20, kill_lit, kill_Sl hns.sl]
        · obtain rfl := List.length_eq_zero_iff.1 hG'
          refine chk_loopA hns k (i + 1) fr' (by omega) (by omega) ⟨?_, ?_, ?_, ?_, ?_⟩
          · rw [hf 0 (by simp)]; simp -implicitDefEqProofs (maxDischargeDepth := 4) only [go_sem, ↓reduceIte, Nat.reduceLT, Nat.reduceAdd, Nat.reduceMul, Nat.reduceSub, Nat.reduceEqDiff, Nat.reduceLeDiff, Nat.reduceBEq, reduceCtorEq, Int.reduceLT, Int.reduceLE, Int.reduceEq, Int.reduceNe, Nat.reducePow, F.f0, F.f3, F.f19, F.f20, F.f21, k0]
          · rw [hf 3 (by simp)]; simp -implicitDefEqProofs (maxDischargeDepth := 4) only [go_sem, ↓reduceIte, Nat.reduceLT, Nat.reduceAdd, Nat.reduceMul, Nat.reduceSub, Nat.reduceEqDiff, Nat.reduceLeDiff, Nat.reduceBEq, reduceCtorEq, Int.reduceLT, Int.reduceLE, Int.reduceEq, Int.reduceNe, Nat.reducePow, F.f0, F.f3, F.f19, F.f20, F.f21, k3]
          · rw [hf 19 (by simp)]; simp -implicitDefEqProofs (maxDischargeDepth := 4) only [go_sem, ↓reduceIte, Nat.reduceLT, Nat.reduceAdd, Nat.reduceMul, Nat.reduceSub, Nat.reduceEqDiff, Nat.reduceLeDiff, Nat.reduceBEq, reduceCtorEq, Int.reduceLT, Int.reduceLE, Int.reduceEq, Int.reduceNe, Nat.reducePow, F.f0, F.f3, F.f19, F.f20, F.f21, k19]
          · rw [hf 20 (by simp)]; simp -implicitDefEqProofs (maxDischargeDepth := 4) only [go_sem, ↓reduceIte, Nat.reduceLT, Nat.reduceAdd, Nat.reduceMul, Nat.reduceSub, Nat.reduceEqDiff, Nat.reduceLeDiff, Nat.reduceBEq, reduceCtorEq, Int.reduceLT, Int.reduceLE, Int.reduceEq, Int.reduceNe, Nat.reducePow, F.f0, F.f3, F.f19, F.f20, F.f21, k20]
          · rw [hf 21 (by simp)]; simp -implicitDefEqProofs (maxDischargeDepth := 4) only [go_sem, ↓reduceIte, Nat.reduceLT, Nat.reduceAdd, Nat.reduceMul, Nat.reduceSub, Nat.reduceEqDiff, Nat.reduceLeDiff, Nat.reduceBEq, reduceCtorEq, Int.reduceLT, Int.reduceLE, Int.reduceEq, Int.reduceNe, Nat.reducePow]
end Go.Abs.Tab

/- Whether a table has its shape: graph.Check, whole. -/
set_option linter.unusedVariables false
namespace Go.Abs.Tab
open Go.Gr
/-- the loop over aliases' ways -/
noncomputable def lp48 (rfr : PT) : ALoop := { fn := 48, nt := 66, fr := rfr, params := [59, 60], assign := q48_2, body := r48_2, state := .ready, pending := none }
structure I48 (G : Hp) : Prop where
  lp : ∃ rfr, G[2]? = some (.loop (lp48 rfr))
structure D48 (n o : Int) (x : Nd) (G : Hp) : Prop where
  lp : ∃ r : ALoop, G[2]? = some (.loop r) ∧ r.state = .done ∧ r.pending = some (.exit 6)
theorem rnd48 : Rnd 3 2 1 I48 D48 := by
  refine ⟨?_, ?_, ?_, ?_, ?_, ?_⟩
  · rintro G L ⟨rfr, h2⟩
    exact ⟨rfr, by rw [hp_get_l (lt_of_get h2), h2]⟩
  · rintro G x ⟨rfr, h2⟩
    exact ⟨rfr, by rw [hp_ne (by decide), h2]⟩
  · rintro G j x hj ⟨rfr, h2⟩
    exact ⟨rfr, by rw [hp_ne (by omega), h2]⟩
  · rintro G ⟨rfr, h2⟩ hG
    refine ⟨rfr.map (kill 3), ?_⟩
    rw [List.getElem?_map, List.getElem?_take_of_lt (by decide), h2]; rfl
  · rintro G n o x ⟨rfr, h2⟩ hG hx hk
    have hs : Sl 2 x.nx (x.es.map ed) := hx
    obtain ⟨len, hlen⟩ : ∃ len, G.length = len := ⟨_, rfl⟩
    have h4 : 2 < G.length := by omega
    obtain ⟨fr1, e1, f10⟩ : ∃ fr1, ex cx D 0 48 66 q48_2 (setArgs [(59, tyV (n, o)), (60, nodeV x)] rfr) G = some (.normal, fr1, G ++ [.cells 6 66 [nodeV x]]) ∧ fr1.get 10 = .ptr len 0 0 := by
      unfold q48_2
      simp -implicitDefEqProofs (maxDischargeDepth := 4) only [go_sem, ↓reduceIte, Nat.reduceLT, Nat.reduceAdd, Nat.reduceMul, Nat.reduceSub, Nat.reduceEqDiff, Nat.reduceLeDiff, Nat.reduceBEq, reduceCtorEq, Int.reduceLT, Int.reduceLE, Int.reduceEq, Int.reduceNe, Nat.reducePow, elAt_eq, stV_eq, cellsB_cells, hp_get_r, hp_get_r0, hp_get_l, hp_set_r, hp_set_r0, hp_set_l, hp_one, hp_ne, List.drop_succ_cons, List.drop_zero, List.take_succ_cons, List.take_zero, hlen, Nat.zero_le, Nat.not_lt_zero, hs.shr]
      exact ⟨_, rfl, by simp -implicitDefEqProofs (maxDischargeDepth := 4) only [go_sem, ↓reduceIte, Nat.reduceLT, Nat.reduceAdd, Nat.reduceMul, Nat.reduceSub, Nat.reduceEqDiff, Nat.reduceLeDiff, Nat.reduceBEq, reduceCtorEq, Int.reduceLT, Int.reduceLE, Int.reduceEq, Int.reduceNe, Nat.reducePow]⟩
    have hl1 : (G ++ [ABlock.cells 6 66 [nodeV x]])[2]? = some (.loop (lp48 rfr)) := by rw [hp_get_l h4, h2]
    obtain ⟨G1, hG1⟩ : ∃ G1, (G ++ [ABlock.cells 6 66 [nodeV x]]).set 2 (.loop { lp48 rfr with state := .busy }) = G1 := ⟨_, rfl⟩
    have hl2 : G1[2]? = some (.loop { lp48 rfr with state := .busy }) := by rw [← hG1, hp_one (by rw [List.length_append]; omega)]
    have g6 : G1[len]? = some (.cells 6 66 [nodeV x]) := by rw [← hG1, hp_ne (by omega), hp_get_r0 hlen]; rfl
    have gj : ∀ j, j ≠ 2 → j < G.length → G1[j]? = G[j]? := fun j hj hlt => by rw [← hG1, hp_ne (Ne.symm hj), hp_get_l hlt]
    have gl : G1.length = len + 1 := by rw [← hG1, List.length_set, List.length_append, hlen]; rfl
    rw [round_eq h2 (Nat.zero_le _) rfl rfl rfl, show setArgs ((lp48 rfr).params.zip [tyV (n, o), nodeV x]) (lp48 rfr).fr = setArgs [(59, tyV (n, o)), (60, nodeV x)] rfr from rfl,
      show ex cx (den cx) 0 (lp48 rfr).fn (lp48 rfr).nt (lp48 rfr).assign = ex cx D 0 48 66 q48_2 from rfl, e1, bodyRound_eq hl1 rfl, hG1, show ex cx (den cx) 0 (lp48 rfr).fn (lp48 rfr).nt (lp48 rfr).body = ex cx D 0 48 66 r48_2 from rfl]
    obtain ⟨fr2, e2⟩ : ∃ fr2, ex cx D 0 48 66 r48_2 fr1 G1 = some (.normal, fr2, G1) := by
      unfold r48_2
      simp -implicitDefEqProofs (maxDischargeDepth := 4) only [go_sem, ↓reduceIte, Nat.reduceLT, Nat.reduceAdd, Nat.reduceMul, Nat.reduceSub, Nat.reduceEqDiff, Nat.reduceLeDiff, Nat.reduceBEq, reduceCtorEq, Int.reduceLT, Int.reduceLE, Int.reduceEq, Int.reduceNe, Nat.reducePow, elAt_eq, stV_eq, cellsB_cells, hp_get_r, hp_get_r0, hp_get_l, hp_set_r, hp_set_r0, hp_set_l, hp_one, hp_ne, List.drop_succ_cons, List.drop_zero, List.take_succ_cons, List.take_zero, f10, g6, hk]
      exact ⟨_, rfl⟩
    rw [e2, endRound_normal hl2]
    refine ⟨_, rfl, ⟨rfr, by rw [hp_one (by omega)]; rfl⟩, by rw [List.length_set]; omega, fun j hj hlt => by rw [hp_ne (Ne.symm hj), gj j hj hlt]⟩
  · rintro G n o x ⟨rfr, h2⟩ hG hx hk
    have hs : Sl 2 x.nx (x.es.map ed) := hx
    obtain ⟨len, hlen⟩ : ∃ len, G.length = len := ⟨_, rfl⟩
    have h4 : 2 < G.length := by omega
    obtain ⟨fr1, e1, f10⟩ : ∃ fr1, ex cx D 0 48 66 q48_2 (setArgs [(59, tyV (n, o)), (60, nodeV x)] rfr) G = some (.normal, fr1, G ++ [.cells 6 66 [nodeV x]]) ∧ fr1.get 10 = .ptr len 0 0 := by
      unfold q48_2
      simp -implicitDefEqProofs (maxDischargeDepth := 4) only [go_sem, ↓reduceIte, Nat.reduceLT, Nat.reduceAdd, Nat.reduceMul, Nat.reduceSub, Nat.reduceEqDiff, Nat.reduceLeDiff, Nat.reduceBEq, reduceCtorEq, Int.reduceLT, Int.reduceLE, Int.reduceEq, Int.reduceNe, Nat.reducePow, elAt_eq, stV_eq, cellsB_cells, hp_get_r, hp_get_r0, hp_get_l, hp_set_r, hp_set_r0, hp_set_l, hp_one, hp_ne, List.drop_succ_cons, List.drop_zero, List.take_succ_cons, List.take_zero, hlen, Nat.zero_le, Nat.not_lt_zero, hs.shr]
      exact ⟨_, rfl, by simp -implicitDefEqProofs (maxDischargeDepth := 4) only [go_sem, ↓reduceIte, Nat.reduceLT, Nat.reduceAdd, Nat.reduceMul, Nat.reduceSub, Nat.reduceEqDiff, Nat.reduceLeDiff, Nat.reduceBEq, reduceCtorEq, Int.reduceLT, Int.reduceLE, Int.reduceEq, Int.reduceNe, Nat.reducePow]⟩
    have hl1 : (G ++ [ABlock.cells 6 66 [nodeV x]])[2]? = some (.loop (lp48 rfr)) := by rw [hp_get_l h4, h2]
    obtain ⟨G1, hG1⟩ : ∃ G1, (G ++ [ABlock.cells 6 66 [nodeV x]]).set 2 (.loop { lp48 rfr with state := .busy }) = G1 := ⟨_, rfl⟩
    have hl2 : G1[2]? = some (.loop { lp48 rfr with state := .busy }) := by rw [← hG1, hp_one (by rw [List.length_append]; omega)]
    have g6 : G1[len]? = some (.cells 6 66 [nodeV x]) := by rw [← hG1, hp_ne (by omega), hp_get_r0 hlen]; rfl
    have gj : ∀ j, j ≠ 2 → j < G.length → G1[j]? = G[j]? := fun j hj hlt => by rw [← hG1, hp_ne (Ne.symm hj), hp_get_l hlt]
    have gl : G1.length = len + 1 := by rw [← hG1, List.length_set, List.length_append, hlen]; rfl
    rw [round_eq h2 (Nat.zero_le _) rfl rfl rfl, show setArgs ((lp48 rfr).params.zip [tyV (n, o), nodeV x]) (lp48 rfr).fr = setArgs [(59, tyV (n, o)), (60, nodeV x)] rfr from rfl,
      show ex cx (den cx) 0 (lp48 rfr).fn (lp48 rfr).nt (lp48 rfr).assign = ex cx D 0 48 66 q48_2 from rfl, e1, bodyRound_eq hl1 rfl, hG1, show ex cx (den cx) 0 (lp48 rfr).fn (lp48 rfr).nt (lp48 rfr).body = ex cx D 0 48 66 r48_2 from rfl]
    obtain ⟨fr2, e2⟩ : ∃ fr2, ex cx D 0 48 66 r48_2 fr1 G1 = some (.exit 6, fr2, G1) := by
      unfold r48_2
      simp -implicitDefEqProofs (maxDischargeDepth := 4) only [go_sem, ↓reduceIte, Nat.reduceLT, Nat.reduceAdd, Nat.reduceMul, Nat.reduceSub, Nat.reduceEqDiff, Nat.reduceLeDiff, Nat.reduceBEq, reduceCtorEq, Int.reduceLT, Int.reduceLE, Int.reduceEq, Int.reduceNe, Nat.reducePow, elAt_eq, stV_eq, cellsB_cells, hp_get_r, hp_get_r0, hp_get_l, hp_set_r, hp_set_r0, hp_set_l, hp_one, hp_ne, List.drop_succ_cons, List.drop_zero, List.take_succ_cons, List.take_zero, f10, g6, hk]
      exact ⟨_, rfl⟩
    rw [e2, endRound_other hl2 (by decide)]
    exact ⟨_, rfl, ⟨_, by rw [hp_one (by omega)], rfl, rfl⟩⟩

structure BFr (fr : PT) (a : AV) (L i : Nat) : Prop where
  f0 : fr.get 0 = a
  f51 : fr.get 51 = iv L
  f52 : fr.get 52 = iv i
theorem wlk_found {ns : List Nd} {i : Nat} {m : Int} {x : Nd} {o : Int} (h : wlk ns ns.length i 0 = (m, o)) (ha : atN ns m = some x) : bad ns i = false := by
  have := (atN_lt ha).1
  unfold bad
  rw [h]
  simp only [decide_eq_false_iff_not]; omega
theorem wlk_none {ns : List Nd} {i : Nat} (h : wlk ns ns.length i 0 = (-1, 0)) : bad ns i = true := by
  unfold bad; rw [h]; decide
theorem chk_loopB {ns : List Nd} {a : AV} (hns : NsOk ns a) : ∀ (k i : Nat) (fr : PT), ns.length - i = k → i ≤ ns.length → BFr fr a ns.length i →
    ∃ fr' G', D.loop 0 48 66 l48_3 fr [] = some (if (chkB ns k i).2 = 0 then .exit 5 else .ret, fr', G') ∧ ((chkB ns k i).2 ≠ 0 → fr'.get 2 = iv (chkB ns k i).1 ∧ fr'.get 3 = iv (chkB ns k i).2)
  | 0, i, fr, hk, hi, F => by
    have hn : ¬ ((i : Int) < (ns.length : Int)) := by omega
    rw [dl48_3]
    simp -implicitDefEqProofs (maxDischargeDepth := 4) only [go_sem, ↓reduceIte, Nat.reduceLT, Nat.reduceAdd, Nat.reduceMul, Nat.reduceSub, Nat.reduceEqDiff, Nat.reduceLeDiff, Nat.reduceBEq, reduceCtorEq, Int.reduceLT, Int.reduceLE, Int.reduceEq, Int.reduceNe, Nat.reducePow, elAt_eq, stV_eq, cellsB_cells, hp_get_r, hp_get_r0, hp_get_l, hp_set_r, hp_set_r0, hp_set_l, hp_one, hp_ne, List.drop_succ_cons, List.drop_zero, List.take_succ_cons, List.take_zero, F.f51, F.f52, hn, chkB]
    exact ⟨_, _, rfl, fun h => h.elim⟩
  | k + 1, i, fr, hk, hi, F => by
    have hln := hns.ln
    have hn : ((i : Int) < (ns.length : Int)) := by omega
    have e3 : wrapK .i64 ((i : Int) + 1) = ((i + 1 : Nat) : Int) := by rw [wrapK_i64 (by omega) (by omega)]; rfl
    have hmk := way_mk (ro := 0) hns (H := []) (Nat.zero_le _) i 0
    rw [List.length_nil, List.nil_append] at hmk
    have hR : ∀ fr : PT, fr.get 58 = .fn 156 [.ptr 0 0 0, .ptr 1 0 0] → ∃ G', ex cx D 0 48 66 (.rangeFunc (.tmp 58) #[59, 60] q48_2 r48_2) fr [.cells 1 56 [a], .cells 2 61 [tyV (i, 0)]] = some (if bad ns i = true then .normal else .exit 6, fr, G') := fun fr f58 => by
      obtain ⟨G', q1, q2⟩ := way_call hns rnd48 (b2 := 0) (by decide) (by decide) (by decide) (by decide) (by decide) (by decide) (G := [.cells 1 56 [a], .cells 2 61 [tyV (i, 0)], .loop (lp48 (fr.map drp))]) (n := i) (o := 0) rfl ⟨_, rfl⟩ rfl rfl
      have q1' : D.call 0 156 [.yld 2, .ptr 0 0 0, .ptr 1 0 0] [.cells 1 56 [a], .cells 2 61 [tyV (i, 0)], .loop (lp48 (fr.map drp))] = some (.tup [], G') := by rw [den_call_eq]; exact q1
      have q3 : ex cx D 0 48 66 (.rangeFunc (.tmp 58) #[59, 60] q48_2 r48_2) fr [.cells 1 56 [a], .cells 2 61 [tyV (i, 0)]] = endLoop 2 fr (some (.tup [], G')) := by
        rw [x_range, ev_tmp, f58, shr_fn, ranged_fn, ← q1']; rfl
      rcases q2 with ⟨m, x, o', a1, a2, a3, ⟨r, d2, d3, d4⟩⟩ | ⟨a1, ⟨rfr, d2⟩⟩
      · rw [q3, endLoop_eq d2 (by rw [d3]; decide), d4, wlk_found a1 a2]
        exact ⟨_, rfl⟩
      · rw [q3, endLoop_eq d2 (show LS.ready ≠ LS.busy by decide), wlk_none a1]
        exact ⟨_, rfl⟩
    obtain ⟨RF, hRF⟩ := skol hR
    rw [dl48_3]
    cases hb : bad ns i with
    | true =>
      have hc : chkB ns (k + 1) i = ((i : Int), 9) := by simp only [chkB, hb, if_true]
      rw [hc]
      simp only [hb, if_true] at hRF
      simp -implicitDefEqProofs (maxDischargeDepth := 4) only [go_sem, ↓reduceIte, Nat.reduceLT, Nat.reduceAdd, Nat.reduceMul, Nat.reduceSub, Nat.reduceEqDiff, Nat.reduceLeDiff, Nat.reduceBEq, reduceCtorEq, Int.reduceLT, Int.reduceLE, Int.reduceEq, Int.reduceNe, Nat.reducePow, elAt_eq, stV_eq, cellsB_cells, hp_get_r, hp_get_r0, hp_get_l, hp_set_r, hp_set_r0, hp_set_l, hp_one, hp_ne, List.drop_succ_cons, List.drop_zero, List.take_succ_cons, List.take_zero, F.f0, F.f51, F.f52, hn, hns.sl.shr, hns.sl.notOwn, hns.sl.drp, build61a, hmk, hRF]
      exact ⟨_, _, rfl, fun _ => ⟨by simp -implicitDefEqProofs (maxDischargeDepth := 4) only [go_sem, ↓reduceIte, Nat.reduceLT, Nat.reduceAdd, Nat.reduceMul, Nat.reduceSub, Nat.reduceEqDiff, Nat.reduceLeDiff, Nat.reduceBEq, reduceCtorEq, Int.reduceLT, Int.reduceLE, Int.reduceEq, Int.reduceNe, Nat.reducePow], by simp -implicitDefEqProofs (maxDischargeDepth := 4) only [go_sem, ↓reduceIte, Nat.reduceLT, Nat.reduceAdd, Nat.reduceMul, Nat.reduceSub, Nat.reduceEqDiff, Nat.reduceLeDiff, Nat.reduceBEq, reduceCtorEq, Int.reduceLT, Int.reduceLE, Int.reduceEq, Int.reduceNe, Nat.reducePow]⟩⟩
    | false =>
      have hc : chkB ns (k + 1) i = chkB ns k (i + 1) := by simp only [chkB, hb, Bool.false_eq_true, if_false]
      rw [hc]
      simp only [hb, Bool.false_eq_true, if_false] at hRF
      simp -implicitDefEqProofs (maxDischargeDepth := 4) only [go_sem, ↓reduceIte, Nat.reduceLT, Nat.reduceAdd, Nat.reduceMul, Nat.reduceSub, Nat.reduceEqDiff, Nat.reduceLeDiff, Nat.reduceBEq, reduceCtorEq, Int.reduceLT, Int.reduceLE, Int.reduceEq, Int.reduceNe, Nat.reducePow, elAt_eq, stV_eq, cellsB_cells, hp_get_r, hp_get_r0, hp_get_l, hp_set_r, hp_set_r0, hp_set_l, hp_one, hp_ne, List.drop_succ_cons, List.drop_zero, List.take_succ_cons, List.take_zero, F.f0, F.f51, F.f52, hn, hns.sl.shr, hns.sl.notOwn, hns.sl.drp, build61a, hmk, hRF, e3]
      refine trim_gen (P := fun z => ∃ fr' G', z = some (if (chkB ns k (i + 1)).2 = 0 then Ex.exit 5 else .ret, fr', G') ∧ ((chkB ns k (i + 1)).2 ≠ 0 → fr'.get 2 = iv (chkB ns k (i + 1)).1 ∧ fr'.get 3 = iv (chkB ns k (i + 1)).2))
        [0, 51, 52] (Nat.zero_le _) (fun t ht => ?_) fun fr' G' hG' hf _ => ?_
      · simp only [List.mem_cons, List.not_mem_nil, or_false] at ht
        rcases ht with rfl | rfl | rfl <;> simp -implicitDefEqProofs (maxDischargeDepth := 4) only [go_sem, ↓reduceIte, Nat.reduceLT, Nat.reduceAdd, Nat.reduceMul, Nat.reduceSub, Nat.reduceEqDiff, Nat.reduceLeDiff, Nat.reduceBEq, reduceCtorEq, Int.reduceLT, Int.reduceLE, Int.reduceEq, Int.reduceNe, Nat.reducePow, F.f0, F.f51, kill_lit, kill_Sl hns.sl]
      · obtain rfl := List.length_eq_zero_iff.1 hG'
        refine chk_loopB hns k (i + 1) fr' (by omega) (by omega) ⟨?_, ?_, ?_⟩
        · rw [hf 0 (by simp)]; simp -implicitDefEqProofs (maxDischargeDepth := 4) only [go_sem, ↓reduceIte, Nat.reduceLT, Nat.reduceAdd, Nat.reduceMul, Nat.reduceSub, Nat.reduceEqDiff, Nat.reduceLeDiff, Nat.reduceBEq, reduceCtorEq, Int.reduceLT, Int.reduceLE, Int.reduceEq, Int.reduceNe, Nat.reducePow, F.f0]
        · rw [hf 51 (by simp)]; simp -implicitDefEqProofs (maxDischargeDepth := 4) only [go_sem, ↓reduceIte, Nat.reduceLT, Nat.reduceAdd, Nat.reduceMul, Nat.reduceSub, Nat.reduceEqDiff, Nat.reduceLeDiff, Nat.reduceBEq, reduceCtorEq, Int.reduceLT, Int.reduceLE, Int.reduceEq, Int.reduceNe, Nat.reducePow, F.f51]
        · rw [hf 52 (by simp)]; simp -implicitDefEqProofs (maxDischargeDepth := 4) only [go_sem, ↓reduceIte, Nat.reduceLT, Nat.reduceAdd, Nat.reduceMul, Nat.reduceSub, Nat.reduceEqDiff, Nat.reduceLeDiff, Nat.reduceBEq, reduceCtorEq, Int.reduceLT, Int.reduceLE, Int.reduceEq, Int.reduceNe, Nat.reducePow]
theorem chk_call {ns : List Nd} {a : AV} (hns : NsOk ns a) : ∃ H', callB cx D 0 48 [a] [] = some (errV (chk ns), H') := by
  unfold chk errV
  rw [c48]
  by_cases h0 : ns.length = 0
  · have h0' : (ns.length : Int) = 0 := by omega
    rw [if_pos h0]
    simp -implicitDefEqProofs (maxDischargeDepth := 4) only [go_sem, ↓reduceIte, Nat.reduceLT, Nat.reduceAdd, Nat.reduceMul, Nat.reduceSub, Nat.reduceEqDiff, Nat.reduceLeDiff, Nat.reduceBEq, reduceCtorEq, Int.reduceLT, Int.reduceLE, Int.reduceEq, Int.reduceNe, Nat.reducePow, elAt_eq, stV_eq, cellsB_cells, hp_get_r, hp_get_r0, hp_get_l, hp_set_r, hp_set_r0, hp_set_l, hp_one, hp_ne, List.drop_succ_cons, List.drop_zero, List.take_succ_cons, List.take_zero, hns.sl.shr, hns.sl.notOwn, hns.sl.drp, alen_sl hns.sl, List.length_map, h0']
    exact ⟨_, rfl⟩
  rw [if_neg h0]
  by_cases h1 : 64 < ns.length
  · have h0' : ¬ (ns.length : Int) = 0 := by omega
    have h1' : (64 : Int) < (ns.length : Int) := by omega
    rw [if_pos h1]
    simp -implicitDefEqProofs (maxDischargeDepth := 4) only [go_sem, ↓reduceIte, Nat.reduceLT, Nat.reduceAdd, Nat.reduceMul, Nat.reduceSub, Nat.reduceEqDiff, Nat.reduceLeDiff, Nat.reduceBEq, reduceCtorEq, Int.reduceLT, Int.reduceLE, Int.reduceEq, Int.reduceNe, Nat.reducePow, elAt_eq, stV_eq, cellsB_cells, hp_get_r, hp_get_r0, hp_get_l, hp_set_r, hp_set_r0, hp_set_l, hp_one, hp_ne, List.drop_succ_cons, List.drop_zero, List.take_succ_cons, List.take_zero, hns.sl.shr, hns.sl.notOwn, hns.sl.drp, alen_sl hns.sl, List.length_map, h0', h1']
    exact ⟨_, rfl⟩
  rw [if_neg h1]
  have h0' : ¬ (ns.length : Int) = 0 := by omega
  have h1' : ¬ (64 : Int) < (ns.length : Int) := by omega
  obtain ⟨FA, hA⟩ := skol (fun (fr : PT) (h : fr.get 0 = a ∧ fr.get 3 = iv 0 ∧ fr.get 19 = a ∧ fr.get 20 = iv ns.length ∧ fr.get 21 = iv 0) => by
    obtain ⟨e, fr', G', q⟩ := chk_loopA hns ns.length 0 fr (by omega) (by omega) ⟨h.1, h.2.1, h.2.2.1, h.2.2.2.1, h.2.2.2.2⟩
    exact (⟨(e, fr', G'), q⟩ : ∃ q : Ex × PT × Hp, D.loop 0 48 66 l48_1 fr [] = some (q.1, q.2.1, q.2.2) ∧ ResA (chkA ns.length 0 (ns.drop 0)) a q.1 q.2.1 q.2.2))
  obtain ⟨FB, hB⟩ := skol (fun (fr : PT) (h : fr.get 0 = a ∧ fr.get 51 = iv ns.length ∧ fr.get 52 = iv 0) => by
    obtain ⟨fr', G', q⟩ := chk_loopB hns ns.length 0 fr (by omega) (by omega) ⟨h.1, h.2.1, h.2.2⟩
    exact (⟨(fr', G'), q⟩ : ∃ q : PT × Hp, D.loop 0 48 66 l48_3 fr [] = some (if (chkB ns ns.length 0).2 = 0 then .exit 5 else .ret, q.1, q.2) ∧ ((chkB ns ns.length 0).2 ≠ 0 → q.1.get 2 = iv (chkB ns ns.length 0).1 ∧ q.1.get 3 = iv (chkB ns ns.length 0).2)))
  rw [List.drop_zero] at hA
  have b1 := fun fr p q r => (hB fr ⟨p, q, r⟩).1
  cases hc : chkA ns.length 0 ns with
  | some r =>
    have hr := chkA_ne hc
    have aR := fun fr p0 p3 p19 p20 p21 => (show ∃ r', some r = some r' ∧ (FA fr).2.1.get 2 = iv r'.1 ∧ (FA fr).2.1.get 3 = iv r'.2 ∧ (FA fr).1 = (if r'.2 = 7 then Ex.ret else .exit 1) from by
      rcases (hA fr ⟨p0, p3, p19, p20, p21⟩).2 with ⟨r', h⟩ | ⟨h, _⟩
      · rw [hc] at h; exact ⟨r', h⟩
      · rw [hc] at h; cases h)
    have a1 : ∀ fr : PT, fr.get 0 = a → fr.get 3 = iv 0 → fr.get 19 = a → fr.get 20 = iv ns.length → fr.get 21 = iv 0 → D.loop 0 48 66 l48_1 fr [] = some (if r.2 = 7 then Ex.ret else .exit 1, (FA fr).2.1, (FA fr).2.2) := fun fr p0 p3 p19 p20 p21 => by
      obtain ⟨r', h1, _, _, h4⟩ := aR fr p0 p3 p19 p20 p21
      cases h1
      rw [(hA fr ⟨p0, p3, p19, p20, p21⟩).1, h4]
    have a2 : ∀ fr : PT, fr.get 0 = a → fr.get 3 = iv 0 → fr.get 19 = a → fr.get 20 = iv ns.length → fr.get 21 = iv 0 → (FA fr).2.1.get 2 = iv r.1 := fun fr p0 p3 p19 p20 p21 => by
      obtain ⟨r', h1, h2, _, _⟩ := aR fr p0 p3 p19 p20 p21
      cases h1; exact h2
    have a3 : ∀ fr : PT, fr.get 0 = a → fr.get 3 = iv 0 → fr.get 19 = a → fr.get 20 = iv ns.length → fr.get 21 = iv 0 → (FA fr).2.1.get 3 = iv r.2 := fun fr p0 p3 p19 p20 p21 => by
      obtain ⟨r', h1, _, h2, _⟩ := aR fr p0 p3 p19 p20 p21
      cases h1; exact h2
    by_cases h7 : r.2 = 7
    · simp only [h7, if_true] at a1
      simp -implicitDefEqProofs (maxDischargeDepth := 4) only [go_sem, ↓reduceIte, Nat.reduceLT, Nat.reduceAdd, Nat.reduceMul, Nat.reduceSub, Nat.reduceEqDiff, Nat.reduceLeDiff, Nat.reduceBEq, reduceCtorEq, Int.reduceLT, Int.reduceLE, Int.reduceEq, Int.reduceNe, Nat.reducePow, elAt_eq, stV_eq, cellsB_cells, hp_get_r, hp_get_r0, hp_get_l, hp_set_r, hp_set_r0, hp_set_l, hp_one, hp_ne, List.drop_succ_cons, List.drop_zero, List.take_succ_cons, List.take_zero, hns.sl.shr, hns.sl.notOwn, hns.sl.drp, alen_sl hns.sl, List.length_map, h0', h1', x_loop, a1, a2, a3]
      exact ⟨_, rfl⟩
    · simp only [h7, if_false] at a1
      simp -implicitDefEqProofs (maxDischargeDepth := 4) only [go_sem, ↓reduceIte, Nat.reduceLT, Nat.reduceAdd, Nat.reduceMul, Nat.reduceSub, Nat.reduceEqDiff, Nat.reduceLeDiff, Nat.reduceBEq, reduceCtorEq, Int.reduceLT, Int.reduceLE, Int.reduceEq, Int.reduceNe, Nat.reducePow, elAt_eq, stV_eq, cellsB_cells, hp_get_r, hp_get_r0, hp_get_l, hp_set_r, hp_set_r0, hp_set_l, hp_one, hp_ne, List.drop_succ_cons, List.drop_zero, List.take_succ_cons, List.take_zero, hns.sl.shr, hns.sl.notOwn, hns.sl.drp, alen_sl hns.sl, List.length_map, h0', h1', x_loop, a1, a2, a3, hr]
      exact ⟨_, rfl⟩
  | none =>
    have aR := fun fr p0 p3 p19 p20 p21 => (show (FA fr).1 = .exit 1 ∧ (FA fr).2.1.get 0 = a ∧ (FA fr).2.1.get 3 = iv 0 ∧ (FA fr).2.2 = [] from by
      rcases (hA fr ⟨p0, p3, p19, p20, p21⟩).2 with ⟨r', h, _⟩ | ⟨_, h⟩
      · rw [hc] at h; cases h
      · exact h)
    have a1 : ∀ fr : PT, fr.get 0 = a → fr.get 3 = iv 0 → fr.get 19 = a → fr.get 20 = iv ns.length → fr.get 21 = iv 0 → D.loop 0 48 66 l48_1 fr [] = some (.exit 1, (FA fr).2.1, []) := fun fr p0 p3 p19 p20 p21 => by
      obtain ⟨h1, _, _, h4⟩ := aR fr p0 p3 p19 p20 p21
      rw [(hA fr ⟨p0, p3, p19, p20, p21⟩).1, h1, h4]
    have a2 := fun fr p0 p3 p19 p20 p21 => (aR fr p0 p3 p19 p20 p21).2.1
    have a3 := fun fr p0 p3 p19 p20 p21 => (aR fr p0 p3 p19 p20 p21).2.2.1
    by_cases hz : (chkB ns ns.length 0).2 = 0
    · have hcb := chkB_zero hz
      simp only [hz, if_true] at b1
      simp -implicitDefEqProofs (maxDischargeDepth := 4) only [go_sem, ↓reduceIte, Nat.reduceLT, Nat.reduceAdd, Nat.reduceMul, Nat.reduceSub, Nat.reduceEqDiff, Nat.reduceLeDiff, Nat.reduceBEq, reduceCtorEq, Int.reduceLT, Int.reduceLE, Int.reduceEq, Int.reduceNe, Nat.reducePow, elAt_eq, stV_eq, cellsB_cells, hp_get_r, hp_get_r0, hp_get_l, hp_set_r, hp_set_r0, hp_set_l, hp_one, hp_ne, List.drop_succ_cons, List.drop_zero, List.take_succ_cons, List.take_zero, hns.sl.shr, hns.sl.notOwn, hns.sl.drp, alen_sl hns.sl, List.length_map, h0', h1', x_loop, a1, a2, a3, b1, hcb]
      exact ⟨_, rfl⟩
    · simp only [hz, if_false] at b1
      have b3 := fun fr p q r => ((hB fr ⟨p, q, r⟩).2 hz).1
      have b4 := fun fr p q r => ((hB fr ⟨p, q, r⟩).2 hz).2
      simp -implicitDefEqProofs (maxDischargeDepth := 4) only [go_sem, ↓reduceIte, Nat.reduceLT, Nat.reduceAdd, Nat.reduceMul, Nat.reduceSub, Nat.reduceEqDiff, Nat.reduceLeDiff, Nat.reduceBEq, reduceCtorEq, Int.reduceLT, Int.reduceLE, Int.reduceEq, Int.reduceNe, Nat.reducePow, elAt_eq, stV_eq, cellsB_cells, hp_get_r, hp_get_r0, hp_get_l, hp_set_r, hp_set_r0, hp_set_l, hp_one, hp_ne, List.drop_succ_cons, List.drop_zero, List.take_succ_cons, List.take_zero, hns.sl.shr, hns.sl.notOwn, hns.sl.drp, alen_sl hns.sl, List.length_map, h0', h1', x_loop, a1, a2, a3, b1, b3, b4]
      exact ⟨_, rfl⟩
theorem frz_err (r : Int × Int) (n : Nat) (H : Hp) : Abs.frz n H (errV r) = errV r := rfl
theorem chk_ok {ns : List Nd} {a : AV} (hns : NsOk ns a) : pcall D 48 [a] = some (errV (chk ns)) := by
  obtain ⟨H', h⟩ := chk_call hns
  rw [pcall_eq (v := errV (chk ns)) (H' := H') (by rw [List.map_cons, List.map_nil, hns.sl.cl2]; exact h), frz_err]
theorem rchk_ok {ns : List Nd} {a : AV} (hns : NsOk ns a) : pcall D 49 [a] = some (errV (chk ns)) := by
  rw [pcall_eq (v := errV (chk ns)) (H' := []) (by rw [List.map_cons, List.map_nil, hns.sl.cl2]; exact rchk_call hns), frz_err]
end Go.Abs.Tab

/- works, and the statement GraphShapes. -/
set_option linter.unusedVariables false
namespace Go.Abs.Tab
open Go.Gr
abbrev mkNd (k p : Int) (c : Bool) (t s : Int) (es : List (Int × Int)) : Nd := ⟨k, p, c, t, s, es, .vec 2 .exact (es.map ed)⟩
theorem mkNd_ok (k p : Int) (c : Bool) (t s : Int) (es : List (Int × Int)) : NdOk (mkNd k p c t s es) := .inl rfl
abbrev niN (k p : Int) (c : Bool) (t s : Int) : Nd := ⟨k, p, c, t, s, [], .lit (.slice none 0 0)⟩
theorem niN_ok (k p : Int) (c : Bool) (t s : Int) : NdOk (niN k p c t s) := .inr (.inr ⟨rfl, rfl⟩)
theorem build63' (a b : Int) : abuild cx.T 63 [(0, iv a), (1, iv b)] = some (ed (a, b)) := nr (by kernel_rfl)
theorem build66_k (k : Int) (l : List AV) : abuild cx.T 66 [(0, iv k), (4, .vec 2 .exact l)] = some (.agg [iv k, iv 0, bv false, iv 0, iv 0, .vec 2 .exact l]) := nr (by kernel_rfl)
theorem build66_0 : abuild cx.T 66 [] = some (.agg [iv 0, iv 0, bv false, iv 0, iv 0, .lit (.slice none 0 0)]) := nr (by kernel_rfl)
theorem build66_p (p : Int) : abuild cx.T 66 [(1, iv p)] = some (.agg [iv 0, iv p, bv false, iv 0, iv 0, .lit (.slice none 0 0)]) := nr (by kernel_rfl)
def wns : List Nd := [mkNd 5 0 false 0 0 [(1, 2)], mkNd 5 0 false 0 0 [(2, 3)], niN 0 0 false 0 0]
theorem wns_ok : NsOk wns (.vec 6 .exact [nodeV (mkNd 5 0 false 0 0 [(1, 2)]), nodeV (mkNd 5 0 false 0 0 [(2, 3)]), nodeV (niN 0 0 false 0 0)]) := by
  refine ⟨.inl rfl, fun x hx => ?_, by decide⟩
  simp only [wns, List.mem_cons, List.not_mem_nil, or_false] at hx
  rcases hx with rfl | rfl | rfl
  · exact mkNd_ok _ _ _ _ _ _
  · exact mkNd_ok _ _ _ _ _ _
  · exact niN_ok _ _ _ _ _
theorem w1_ok : NsOk [niN 0 1 false 0 0] (.vec 6 .exact [nodeV (niN 0 1 false 0 0)]) := by
  refine ⟨.inl rfl, fun x hx => ?_, by decide⟩
  simp only [List.mem_cons, List.not_mem_nil, or_false] at hx
  subst hx
  exact niN_ok _ _ _ _ _
abbrev wV : AV := .vec 6 .exact [.agg [iv 5, iv 0, bv false, iv 0, iv 0, .vec 2 .exact [.agg [iv 1, iv 2]]], .agg [iv 5, iv 0, bv false, iv 0, iv 0, .vec 2 .exact [.agg [iv 2, iv 3]]], .agg [iv 0, iv 0, bv false, iv 0, iv 0, .lit (.slice none 0 0)]]
@[go_sem] theorem cl0_vx (s : Nat) (l : List AV) : cl0 (.vec s .exact l) = .vec s .exact l := nr rfl
theorem works_call : callB cx D 0 50 [] [] = some (bv true, []) := by
  have h1 : pcall D 48 [wV] = some (.tup [iv (-1), iv 0]) := by
    have := chk_ok wns_ok
    rw [show chk wns = (-1, 0) by decide] at this
    exact this
  have h2 : pcall D 48 [.vec 6 .exact [.agg [iv 0, iv 1, bv false, iv 0, iv 0, .lit (.slice none 0 0)]]] = some (.tup [iv 0, iv 7]) := by
    have := chk_ok w1_ok
    rw [show chk [niN 0 1 false 0 0] = (0, 7) by decide] at this
    exact this
  have h3 : pcall D 51 [wV, .agg [iv 0, iv 4]] = some (.agg [iv 2, iv 9]) := by
    have := res51_ok wns_ok 0 4
    rw [show wlk wns wns.length 0 4 = (2, 9) by decide] at this
    exact this
  rw [c50]
  simp -implicitDefEqProofs (maxDischargeDepth := 4) only [go_sem, ↓reduceIte, Nat.reduceLT, Nat.reduceAdd, Nat.reduceMul, Nat.reduceSub, Nat.reduceEqDiff, Nat.reduceLeDiff, Nat.reduceBEq, reduceCtorEq, Int.reduceLT, Int.reduceLE, Int.reduceEq, Int.reduceNe, Nat.reducePow, elAt_eq, stV_eq, cellsB_cells, hp_get_r, hp_get_r0, hp_get_l, hp_set_r, hp_set_r0, hp_set_l, hp_one, hp_ne, List.drop_succ_cons, List.drop_zero, List.take_succ_cons, List.take_zero, build63', build66_k, build66_0, build66_p, h1, h2, h3, build61b, build61, pair_eql eqt61]

theorem works_ok : pcall D 50 [] = some (bv true) := by
  rw [pcall_eq (vs := []) (v := bv true) (H' := []) (by rw [List.map_nil]; exact works_call)]
  rfl
/-! ### what is cut -/
theorem min_lit (n m : Nat) : aminmax false [iv n, iv m] = some (iv ((min n m : Nat) : Int)) := by
  simp only [aminmax, aminmax.go, Bool.false_eq_true, if_false]
  by_cases h : m < n
  · rw [if_pos (by omega), Nat.min_eq_right (by omega)]
  · rw [if_neg (by omega), Nat.min_eq_left (by omega)]
theorem aslice_take {T : TypeId → Option TI} {t : TypeId} {sz n : Nat} {a : AV} {els : List AV} {e : TypeId} {te : TI} (h : Sl sz a els) (ht : slT T t = some (sz, e, te)) (hn : n ≤ els.length) :
    ∃ b, aslice T t a none (some (iv n)) none = some b ∧ Sl sz b (els.take n) := by
  have hnat : natOf (iv n) = some n := by simp [natOf]
  unfold slT at ht
  split at ht
  · rename_i e' _ hT
    cases he : T e' with
    | none => rw [he] at ht; cases ht
    | some te' =>
      rw [he] at ht
      simp only [Option.map_some, Option.some.injEq, Prod.mk.injEq] at ht
      obtain ⟨h1, rfl, rfl⟩ := ht
      rcases h with rfl | rfl | ⟨rfl, rfl⟩
      · by_cases hx : n = els.length
        · exact ⟨.vec sz .exact (els.take n), by subst hx; simp [aslice, hT, he, natOr, hnat, h1], .inl rfl⟩
        · exact ⟨.vec sz .shared (els.take n), by simp [aslice, hT, he, natOr, hnat, h1, hx, hn], .inr (.inl rfl)⟩
      · exact ⟨.vec sz .shared (els.take n), by simp [aslice, hT, he, natOr, hnat, h1, hn], .inr (.inl rfl)⟩
      · have : n = 0 := by simpa using hn
        subst this
        have h0 : natOf (iv 0) = some 0 := hnat
        exact ⟨.lit (.slice none 0 0), by simp [aslice, hT, he, natOr, h0], .inr (.inr ⟨rfl, rfl⟩)⟩
  · cases ht
end Go.Abs.Tab
