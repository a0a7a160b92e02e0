/- Are a slot's frames alike in both tables? -/
import Derived.Test.YtiinagmombigpaaPlayB
import Derived.Test.YtiinagmombigpaaPlayG
import Derived.Test.YtiinagmombigpaaOpen2
set_option linter.unusedSimpArgs false
set_option linter.unusedVariables false
set_option linter.unnecessarySimpa false

/- Are a slot's frames alike in both tables? -/
set_option linter.unusedVariables false
namespace Go.Abs.Tab

theorem words_loop {ro : Nat} {H : Hp} {a b : AV} {xs ys : List Int} (ha : Sl 1 a (xs.map iv)) (hb : Sl 1 b (ys.map iv)) (hl : xs.length = ys.length) (hx : xs.length < 2 ^ 62) : ∀ (m i : Nat) (fr : PT), xs.length - i = m → i ≤ xs.length →
    fr.get 0 = a → fr.get 1 = b → fr.get 5 = iv i → ∃ e fr', D.loop ro 115 26 l115_0 fr H = some (e, fr', H) ∧ (if xs.drop i = ys.drop i then e = .exit 0 else (e = .ret ∧ fr'.get 4 = .lit (.bool false)))
  | 0, i, fr, hm, hi, h0, h1, h5 => by
    have hn : ¬ ((i : Int) < (xs.length : Int)) := by omega
    rw [den_loop_x]
    unfold l115_0
    simp -implicitDefEqProofs (maxDischargeDepth := 4) only [go_sem, decide_true, decide_false, beq_self_eq_true, ↓reduceIte, Nat.reduceLT, Nat.reduceAdd, Nat.reduceMul, Nat.reduceSub, Nat.reduceEqDiff, Nat.reduceLeDiff, Nat.reduceBEq, reduceCtorEq, Nat.succ_ne_zero, Bool.not_true, Bool.not_false, Bool.true_eq_false, Bool.false_eq_true, Bool.true_beq, Bool.false_beq, Int.reduceLT, Int.reduceLE, Int.reduceEq, Int.reduceNe, ne_eq, not_false_eq_true, not_true_eq_false, List.getElem?_cons_zero, List.getElem?_cons_succ, List.length_cons, List.length_nil, List.all_cons, List.all_nil, Bool.and_true, Bool.and_self, Bool.true_and, Bool.false_and, Bool.and_false, Bool.or_true, Bool.or_false, Bool.true_or, Bool.false_or, Bool.or_self, List.elem_cons, List.elem_nil, Nat.add_zero, Nat.zero_add, or_self, or_false, false_or, true_or, or_true, and_true, true_and, and_false, false_and, and_self, List.mem_cons, List.not_mem_nil, Nat.reducePow, h0, h1, h5, ha.notOwn, ha.shr, hb.notOwn, hb.shr, alen_sl ha, List.length_map, sl39, Option.isSome_some, hn]
    refine ⟨_, _, rfl, ?_⟩
    rw [List.drop_eq_nil_of_le (by omega), List.drop_eq_nil_of_le (by omega)]
    simp
  | m + 1, i, fr, hm, hi, h0, h1, h5 => by
    have hn : ((i : Int) < (xs.length : Int)) := by omega
    have e1 : aindexAddr cx.T 39 a (iv i) = some (.vp (iv (xs.getD i 0)) 0) := by rw [aindexAddr_sl ha sl39 (by simp; omega) rfl, getD_map iv xs 0 (by omega)]
    have e2 : aindexAddr cx.T 39 b (iv i) = some (.vp (iv (ys.getD i 0)) 0) := by rw [aindexAddr_sl hb sl39 (by simp; omega) rfl, getD_map iv ys 0 (by omega)]
    have e3 : wrapK .i64 ((i : Int) + 1) = ((i + 1 : Nat) : Int) := by rw [wrapK_i64 (by omega) (by omega)]; rfl
    have d1 : xs.drop i = xs.getD i 0 :: xs.drop (i + 1) := by
      rw [List.drop_eq_getElem_cons (by omega)]; simp [List.getD_eq_getElem?_getD, List.getElem?_eq_getElem (show i < xs.length by omega)]
    have d2 : ys.drop i = ys.getD i 0 :: ys.drop (i + 1) := by
      rw [List.drop_eq_getElem_cons (by omega)]; simp [List.getD_eq_getElem?_getD, List.getElem?_eq_getElem (show i < ys.length by omega)]
    rw [den_loop_x]
    unfold l115_0
    by_cases hc : xs.getD i 0 = ys.getD i 0
    · simp only [d1, d2, hc, List.cons.injEq, true_and]
      simp -implicitDefEqProofs (maxDischargeDepth := 4) only [go_sem, decide_true, decide_false, beq_self_eq_true, ↓reduceIte, Nat.reduceLT, Nat.reduceAdd, Nat.reduceMul, Nat.reduceSub, Nat.reduceEqDiff, Nat.reduceLeDiff, Nat.reduceBEq, reduceCtorEq, Nat.succ_ne_zero, Bool.not_true, Bool.not_false, Bool.true_eq_false, Bool.false_eq_true, Bool.true_beq, Bool.false_beq, Int.reduceLT, Int.reduceLE, Int.reduceEq, Int.reduceNe, ne_eq, not_false_eq_true, not_true_eq_false, List.getElem?_cons_zero, List.getElem?_cons_succ, List.length_cons, List.length_nil, List.all_cons, List.all_nil, Bool.and_true, Bool.and_self, Bool.true_and, Bool.false_and, Bool.and_false, Bool.or_true, Bool.or_false, Bool.true_or, Bool.false_or, Bool.or_self, List.elem_cons, List.elem_nil, Nat.add_zero, Nat.zero_add, or_self, or_false, false_or, true_or, or_true, and_true, true_and, and_false, false_and, and_self, List.mem_cons, List.not_mem_nil, Nat.reducePow, h0, h1, h5, ha.notOwn, ha.shr, hb.notOwn, hb.shr, alen_sl ha, List.length_map, sl39, Option.isSome_some, hn, e1, e2, hc, e3]
      refine words_loop ha hb hl hx m (i + 1) _ (by omega) (by omega) ?_ ?_ ?_ <;> simp -implicitDefEqProofs (maxDischargeDepth := 4) only [go_sem, decide_true, decide_false, beq_self_eq_true, ↓reduceIte, Nat.reduceLT, Nat.reduceAdd, Nat.reduceMul, Nat.reduceSub, Nat.reduceEqDiff, Nat.reduceLeDiff, Nat.reduceBEq, reduceCtorEq, Nat.succ_ne_zero, Bool.not_true, Bool.not_false, Bool.true_eq_false, Bool.false_eq_true, Bool.true_beq, Bool.false_beq, Int.reduceLT, Int.reduceLE, Int.reduceEq, Int.reduceNe, ne_eq, not_false_eq_true, not_true_eq_false, List.getElem?_cons_zero, List.getElem?_cons_succ, List.length_cons, List.length_nil, List.all_cons, List.all_nil, Bool.and_true, Bool.and_self, Bool.true_and, Bool.false_and, Bool.and_false, Bool.or_true, Bool.or_false, Bool.true_or, Bool.false_or, Bool.or_self, List.elem_cons, List.elem_nil, Nat.add_zero, Nat.zero_add, or_self, or_false, false_or, true_or, or_true, and_true, true_and, and_false, false_and, and_self, List.mem_cons, List.not_mem_nil, Nat.reducePow, h0, h1]
    · simp -implicitDefEqProofs (maxDischargeDepth := 4) only [go_sem, decide_true, decide_false, beq_self_eq_true, ↓reduceIte, Nat.reduceLT, Nat.reduceAdd, Nat.reduceMul, Nat.reduceSub, Nat.reduceEqDiff, Nat.reduceLeDiff, Nat.reduceBEq, reduceCtorEq, Nat.succ_ne_zero, Bool.not_true, Bool.not_false, Bool.true_eq_false, Bool.false_eq_true, Bool.true_beq, Bool.false_beq, Int.reduceLT, Int.reduceLE, Int.reduceEq, Int.reduceNe, ne_eq, not_false_eq_true, not_true_eq_false, List.getElem?_cons_zero, List.getElem?_cons_succ, List.length_cons, List.length_nil, List.all_cons, List.all_nil, Bool.and_true, Bool.and_self, Bool.true_and, Bool.false_and, Bool.and_false, Bool.or_true, Bool.or_false, Bool.true_or, Bool.false_or, Bool.or_self, List.elem_cons, List.elem_nil, Nat.add_zero, Nat.zero_add, or_self, or_false, false_or, true_or, or_true, and_true, true_and, and_false, false_and, and_self, List.mem_cons, List.not_mem_nil, Nat.reducePow, h0, h1, h5, ha.notOwn, ha.shr, hb.notOwn, hb.shr, alen_sl ha, List.length_map, sl39, Option.isSome_some, hn, e1, e2, hc]
      refine ⟨_, _, rfl, ?_⟩
      rw [d1, d2]
      simp -implicitDefEqProofs (maxDischargeDepth := 4) only [go_sem, decide_true, decide_false, beq_self_eq_true, ↓reduceIte, Nat.reduceLT, Nat.reduceAdd, Nat.reduceMul, Nat.reduceSub, Nat.reduceEqDiff, Nat.reduceLeDiff, Nat.reduceBEq, reduceCtorEq, Nat.succ_ne_zero, Bool.not_true, Bool.not_false, Bool.true_eq_false, Bool.false_eq_true, Bool.true_beq, Bool.false_beq, Int.reduceLT, Int.reduceLE, Int.reduceEq, Int.reduceNe, ne_eq, not_false_eq_true, not_true_eq_false, List.getElem?_cons_zero, List.getElem?_cons_succ, List.length_cons, List.length_nil, List.all_cons, List.all_nil, Bool.and_true, Bool.and_self, Bool.true_and, Bool.false_and, Bool.and_false, Bool.or_true, Bool.or_false, Bool.true_or, Bool.false_or, Bool.or_self, List.elem_cons, List.elem_nil, Nat.add_zero, Nat.zero_add, or_self, or_false, false_or, true_or, or_true, and_true, true_and, and_false, false_and, and_self, List.mem_cons, List.not_mem_nil, Nat.reducePow, hc, List.cons.injEq, false_and, and_self]

theorem words_call {ro : Nat} {H : Hp} {a b : AV} {xs ys : List Int} (ha : Sl 1 a (xs.map iv)) (hb : Sl 1 b (ys.map iv)) (hx : xs.length < 2 ^ 62) : callB cx D ro 115 [a, b] H = some (bv (decide (xs = ys)), H) := by
  rw [c115]
  by_cases hl : xs.length = ys.length
  · have hl' : (xs.length : Int) = (ys.length : Int) := by omega
    obtain ⟨e, fr', h1, h2⟩ := words_loop (ro := ro) (H := H) ha hb hl hx xs.length 0 (((((((((PT.nil.set 0 a).set 1 b).set 4 (.lit (.bool false))).set 6 a).set 7 (.lit (.int .i64 (ys.length : Int)))).set 8 b).set 9 (.lit (.int .i64 (ys.length : Int)))).set 10 (.lit (.bool false))).set 5 (.lit (.int .i64 0))) (by omega) (by omega) (by simp -implicitDefEqProofs (maxDischargeDepth := 4) only [go_sem, decide_true, decide_false, beq_self_eq_true, ↓reduceIte, Nat.reduceLT, Nat.reduceAdd, Nat.reduceMul, Nat.reduceSub, Nat.reduceEqDiff, Nat.reduceLeDiff, Nat.reduceBEq, reduceCtorEq, Nat.succ_ne_zero, Bool.not_true, Bool.not_false, Bool.true_eq_false, Bool.false_eq_true, Bool.true_beq, Bool.false_beq, Int.reduceLT, Int.reduceLE, Int.reduceEq, Int.reduceNe, ne_eq, not_false_eq_true, not_true_eq_false, List.getElem?_cons_zero, List.getElem?_cons_succ, List.length_cons, List.length_nil, List.all_cons, List.all_nil, Bool.and_true, Bool.and_self, Bool.true_and, Bool.false_and, Bool.and_false, Bool.or_true, Bool.or_false, Bool.true_or, Bool.false_or, Bool.or_self, List.elem_cons, List.elem_nil, Nat.add_zero, Nat.zero_add, or_self, or_false, false_or, true_or, or_true, and_true, true_and, and_false, false_and, and_self, List.mem_cons, List.not_mem_nil, Nat.reducePow]) (by simp -implicitDefEqProofs (maxDischargeDepth := 4) only [go_sem, decide_true, decide_false, beq_self_eq_true, ↓reduceIte, Nat.reduceLT, Nat.reduceAdd, Nat.reduceMul, Nat.reduceSub, Nat.reduceEqDiff, Nat.reduceLeDiff, Nat.reduceBEq, reduceCtorEq, Nat.succ_ne_zero, Bool.not_true, Bool.not_false, Bool.true_eq_false, Bool.false_eq_true, Bool.true_beq, Bool.false_beq, Int.reduceLT, Int.reduceLE, Int.reduceEq, Int.reduceNe, ne_eq, not_false_eq_true, not_true_eq_false, List.getElem?_cons_zero, List.getElem?_cons_succ, List.length_cons, List.length_nil, List.all_cons, List.all_nil, Bool.and_true, Bool.and_self, Bool.true_and, Bool.false_and, Bool.and_false, Bool.or_true, Bool.or_false, Bool.true_or, Bool.false_or, Bool.or_self, List.elem_cons, List.elem_nil, Nat.add_zero, Nat.zero_add, or_self, or_false, false_or, true_or, or_true, and_true, true_and, and_false, false_and, and_self, List.mem_cons, List.not_mem_nil, Nat.reducePow]) (by simp -implicitDefEqProofs (maxDischargeDepth := 4) only [go_sem, decide_true, decide_false, beq_self_eq_true, ↓reduceIte, Nat.reduceLT, Nat.reduceAdd, Nat.reduceMul, Nat.reduceSub, Nat.reduceEqDiff, Nat.reduceLeDiff, Nat.reduceBEq, reduceCtorEq, Nat.succ_ne_zero, Bool.not_true, Bool.not_false, Bool.true_eq_false, Bool.false_eq_true, Bool.true_beq, Bool.false_beq, Int.reduceLT, Int.reduceLE, Int.reduceEq, Int.reduceNe, ne_eq, not_false_eq_true, not_true_eq_false, List.getElem?_cons_zero, List.getElem?_cons_succ, List.length_cons, List.length_nil, List.all_cons, List.all_nil, Bool.and_true, Bool.and_self, Bool.true_and, Bool.false_and, Bool.and_false, Bool.or_true, Bool.or_false, Bool.true_or, Bool.false_or, Bool.or_self, List.elem_cons, List.elem_nil, Nat.add_zero, Nat.zero_add, or_self, or_false, false_or, true_or, or_true, and_true, true_and, and_false, false_and, and_self, List.mem_cons, List.not_mem_nil, Nat.reducePow, Int.ofNat_zero])
    rw [List.drop_zero, List.drop_zero] at h2
    simp -implicitDefEqProofs (maxDischargeDepth := 4) only [go_sem, decide_true, decide_false, beq_self_eq_true, ↓reduceIte, Nat.reduceLT, Nat.reduceAdd, Nat.reduceMul, Nat.reduceSub, Nat.reduceEqDiff, Nat.reduceLeDiff, Nat.reduceBEq, reduceCtorEq, Nat.succ_ne_zero, Bool.not_true, Bool.not_false, Bool.true_eq_false, Bool.false_eq_true, Bool.true_beq, Bool.false_beq, Int.reduceLT, Int.reduceLE, Int.reduceEq, Int.reduceNe, ne_eq, not_false_eq_true, not_true_eq_false, List.getElem?_cons_zero, List.getElem?_cons_succ, List.length_cons, List.length_nil, List.all_cons, List.all_nil, Bool.and_true, Bool.and_self, Bool.true_and, Bool.false_and, Bool.and_false, Bool.or_true, Bool.or_false, Bool.true_or, Bool.false_or, Bool.or_self, List.elem_cons, List.elem_nil, Nat.add_zero, Nat.zero_add, or_self, or_false, false_or, true_or, or_true, and_true, true_and, and_false, false_and, and_self, List.mem_cons, List.not_mem_nil, Nat.reducePow, ha.notOwn, ha.shr, ha.drp, hb.drp, hb.notOwn, hb.shr, alen_sl ha, alen_sl hb, List.length_map, hl', x_loop, h1]
    by_cases hxy : xs = ys
    · rw [if_pos hxy] at h2
      subst h2
      simp -implicitDefEqProofs (maxDischargeDepth := 4) only [go_sem, decide_true, decide_false, beq_self_eq_true, ↓reduceIte, Nat.reduceLT, Nat.reduceAdd, Nat.reduceMul, Nat.reduceSub, Nat.reduceEqDiff, Nat.reduceLeDiff, Nat.reduceBEq, reduceCtorEq, Nat.succ_ne_zero, Bool.not_true, Bool.not_false, Bool.true_eq_false, Bool.false_eq_true, Bool.true_beq, Bool.false_beq, Int.reduceLT, Int.reduceLE, Int.reduceEq, Int.reduceNe, ne_eq, not_false_eq_true, not_true_eq_false, List.getElem?_cons_zero, List.getElem?_cons_succ, List.length_cons, List.length_nil, List.all_cons, List.all_nil, Bool.and_true, Bool.and_self, Bool.true_and, Bool.false_and, Bool.and_false, Bool.or_true, Bool.or_false, Bool.true_or, Bool.false_or, Bool.or_self, List.elem_cons, List.elem_nil, Nat.add_zero, Nat.zero_add, or_self, or_false, false_or, true_or, or_true, and_true, true_and, and_false, false_and, and_self, List.mem_cons, List.not_mem_nil, Nat.reducePow, hxy]
    · rw [if_neg hxy] at h2
      obtain ⟨rfl, h3⟩ := h2
      simp -implicitDefEqProofs (maxDischargeDepth := 4) only [go_sem, decide_true, decide_false, beq_self_eq_true, ↓reduceIte, Nat.reduceLT, Nat.reduceAdd, Nat.reduceMul, Nat.reduceSub, Nat.reduceEqDiff, Nat.reduceLeDiff, Nat.reduceBEq, reduceCtorEq, Nat.succ_ne_zero, Bool.not_true, Bool.not_false, Bool.true_eq_false, Bool.false_eq_true, Bool.true_beq, Bool.false_beq, Int.reduceLT, Int.reduceLE, Int.reduceEq, Int.reduceNe, ne_eq, not_false_eq_true, not_true_eq_false, List.getElem?_cons_zero, List.getElem?_cons_succ, List.length_cons, List.length_nil, List.all_cons, List.all_nil, Bool.and_true, Bool.and_self, Bool.true_and, Bool.false_and, Bool.and_false, Bool.or_true, Bool.or_false, Bool.true_or, Bool.false_or, Bool.or_self, List.elem_cons, List.elem_nil, Nat.add_zero, Nat.zero_add, or_self, or_false, false_or, true_or, or_true, and_true, true_and, and_false, false_and, and_self, List.mem_cons, List.not_mem_nil, Nat.reducePow, hxy, h3]
  · have hl' : ¬ (xs.length : Int) = (ys.length : Int) := by omega
    have hne : ¬ xs = ys := fun h => hl (by rw [h])
    simp -implicitDefEqProofs (maxDischargeDepth := 4) only [go_sem, decide_true, decide_false, beq_self_eq_true, ↓reduceIte, Nat.reduceLT, Nat.reduceAdd, Nat.reduceMul, Nat.reduceSub, Nat.reduceEqDiff, Nat.reduceLeDiff, Nat.reduceBEq, reduceCtorEq, Nat.succ_ne_zero, Bool.not_true, Bool.not_false, Bool.true_eq_false, Bool.false_eq_true, Bool.true_beq, Bool.false_beq, Int.reduceLT, Int.reduceLE, Int.reduceEq, Int.reduceNe, ne_eq, not_false_eq_true, not_true_eq_false, List.getElem?_cons_zero, List.getElem?_cons_succ, List.length_cons, List.length_nil, List.all_cons, List.all_nil, Bool.and_true, Bool.and_self, Bool.true_and, Bool.false_and, Bool.and_false, Bool.or_true, Bool.or_false, Bool.true_or, Bool.false_or, Bool.or_self, List.elem_cons, List.elem_nil, Nat.add_zero, Nat.zero_add, or_self, or_false, false_or, true_or, or_true, and_true, true_and, and_false, false_and, and_self, List.mem_cons, List.not_mem_nil, Nat.reducePow, ha.notOwn, ha.shr, ha.drp, hb.drp, hb.notOwn, hb.shr, alen_sl ha, alen_sl hb, List.length_map, hl', hne]
theorem words_ok {a b : AV} {xs ys : List Int} (ha : Sl 1 a (xs.map iv)) (hb : Sl 1 b (ys.map iv)) (hx : xs.length < 2 ^ 62) : pcall D 115 [a, b] = some (bv (decide (xs = ys))) := by
  exact pcall_eq (v := bv (decide (xs = ys))) (H' := []) (by rw [List.map_cons, List.map_cons, List.map_nil, ha.cl2, hb.cl2]; exact words_call ha hb hx)

theorem cellsEq_ints : ∀ (rg : List Int) (ks : List Bool), ks.length = rg.length → (∀ k ∈ ks, k = false) → cellsEq ks (rg.map iv) (rg.map iv) = some true
  | [], [], _, _ => rfl
  | n :: l, k :: ks, h, hk => by
    have h1 := cellsEq_ints l ks (by simpa using h) fun k' hk' => hk k' (List.mem_cons_of_mem _ hk')
    have h2 := hk k List.mem_cons_self
    subst h2
    simp only [List.map_cons, cellsEq, h1, cellEq]
    simp
theorem ints_of : ∀ l : List AV, (∀ x ∈ l, ∃ n, x = iv n) → ∃ rg : List Int, l = rg.map iv
  | [], _ => ⟨[], rfl⟩
  | x :: l, h => by
    obtain ⟨n, rfl⟩ := h x List.mem_cons_self
    obtain ⟨rg, rfl⟩ := ints_of l fun y hy => h y (List.mem_cons_of_mem _ hy)
    exact ⟨n :: rg, rfl⟩
theorem alike_core {ro g q i' : Nat} {H G K : Hp} {A B : List AV} {sv1 sv2 : AV} {st : List Int} (F1 : FrOk A sv1 st) (F2 : FrOk B sv2 st) (same : ∀ j, j ≠ 2 → A[j]? = B[j]?) {b1 c2 : Nat} {i : Int} {fl : Bool} (hst : st.length < 2 ^ 62)
    (h1 : callB cx D ro 46 [.ptr b1 0 0, iv i] H = some (.tup [.agg A, bv fl], G)) (hg : G.length = g)
    (h2 : callB cx D ro 114 [.ptr c2 0 0, iv i] (G ++ [.cells 19 44 [.agg A]]) = some (.tup [.agg B, bv fl], K)) (hk : K.length = q) (hK : K[g]? = some (.cells 19 44 [.agg A])) (r1 : ro ≤ g) (r2 : ro ≤ q) (hgq : g < q) :
    callB cx D ro 45 [.ptr b1 0 0, .ptr c2 0 0, iv i] H = some (bv true, K ++ [.cells 19 45 [.agg B]]) := by
  have e1 := F1.len
  have e2 := F1.take
  have e3 := F1.shr
  have e4 := F1.at2
  have f1 := F2.len
  have f2 := F2.take
  have f3 := F2.shr
  have f4 := F2.at2
  have d1 : ¬ (g < ro) := by omega
  have d2 : ¬ (q < ro) := by omega
  have k1 : ∀ L : Hp, (K ++ L)[g]? = some (.cells 19 44 [.agg A]) := fun L => by rw [hp_get_l (by omega), hK]
  obtain ⟨x0, a0⟩ := F1.num 0 _ (by decide) (List.getElem?_eq_getElem (by rw [e1]; decide))
  obtain ⟨x1, a1⟩ := F1.num 1 _ (by decide) (List.getElem?_eq_getElem (by rw [e1]; decide))
  have a0' : A[0]? = some (iv x0) := by rw [← a0, List.getElem?_eq_getElem]
  have a1' : A[1]? = some (iv x1) := by rw [← a1, List.getElem?_eq_getElem]
  have b0' : B[0]? = some (iv x0) := by rw [← same 0 (by decide), a0']
  have b1' : B[1]? = some (iv x1) := by rw [← same 1 (by decide), a1']
  have dr : B.drop 3 = A.drop 3 := by
    refine List.ext_getElem? fun j => ?_
    rw [List.getElem?_drop, List.getElem?_drop, same _ (by omega)]
  have rr : ∃ R, ((A.drop 3).take 16).map shr = R ∧ abin cx.T .eql 42 (.agg R) (.agg R) = some (bv true) := by
    obtain ⟨rg, hrg⟩ := ints_of ((A.drop 3).take 16) fun x hx => by
      obtain ⟨j, hj⟩ := List.getElem?_of_mem hx
      have hlt : j < 16 := by
        have := (List.getElem?_eq_some_iff.1 hj).1
        rw [List.length_take] at this; omega
      rw [List.getElem?_take_of_lt hlt, List.getElem?_drop] at hj
      exact F1.num _ x (by omega) hj
    have hlen : rg.length = 16 := by
      have := congrArg List.length hrg
      rw [List.length_take, List.length_drop, e1, List.length_map] at this; omega
    refine ⟨rg.map iv, by rw [hrg, List.map_map]; rfl, ?_⟩
    exact b_aeql eq42 (cellsEq_ints rg _ (by rw [hlen]; rfl) (by decide))
  obtain ⟨R, hR, hE⟩ := rr
  have hw := words_ok F1.sl F2.sl hst
  have hdec : decide (st = st) = true := by simp
  rw [hdec] at hw
  rw [c45]
  simp -implicitDefEqProofs (maxDischargeDepth := 4) only [go_sem, decide_true, decide_false, beq_self_eq_true, ↓reduceIte, Nat.reduceLT, Nat.reduceAdd, Nat.reduceMul, Nat.reduceSub, Nat.reduceEqDiff, Nat.reduceLeDiff, Nat.reduceBEq, reduceCtorEq, Nat.succ_ne_zero, Bool.not_true, Bool.not_false, Bool.true_eq_false, Bool.false_eq_true, Bool.true_beq, Bool.false_beq, Int.reduceLT, Int.reduceLE, Int.reduceEq, Int.reduceNe, ne_eq, not_false_eq_true, not_true_eq_false, List.getElem?_cons_zero, List.getElem?_cons_succ, List.length_cons, List.length_nil, List.all_cons, List.all_nil, Bool.and_true, Bool.and_self, Bool.true_and, Bool.false_and, Bool.and_false, Bool.or_true, Bool.or_false, Bool.true_or, Bool.false_or, Bool.or_self, List.elem_cons, List.elem_nil, Nat.add_zero, Nat.zero_add, or_self, or_false, false_or, true_or, or_true, and_true, true_and, and_false, false_and, and_self, List.mem_cons, List.not_mem_nil, Nat.reducePow, elAt_eq, stV_eq, cellsB_cells, hp_get_r, hp_get_r0, hp_get_l, hp_set_r, hp_set_r0, hp_set_l, hp_one, hp_ne, List.drop_succ_cons, List.drop_zero, List.take_succ_cons, List.take_zero, h1, hg, h2, hk, r1, r2, d1, d2, k1, e1, e2, e3, e4, f1, f2, f3, f4, a0', a1', b0', b1', dr, hR, hE, hw, F1.sl.shr, F2.sl.shr, F1.sl.shut1, F2.sl.shut1, F1.sl.notOwn, F2.sl.notOwn]

theorem alike_dead {ro : Nat} {H : Hp} {b1 b0 c2 c1 c0 : Nat} {sl es : List (List AV)} {us : List Bool} (T : TblAt H b1 b0 sl) (R : RefAt H c2 c1 c0 us es) (hrn : ro ≤ H.length) {i : Int} (hl : sl.length < 2 ^ 62) (hl2 : us.length < 2 ^ 62)
    (hi : i < 0 ∨ (sl.length : Int) ≤ i ∨ ∃ n : Nat, i = n ∧ ∃ c, sl[n]? = some c ∧ liveC c = false) (hu : usedB us i = false) :
    ∃ L, callB cx D ro 45 [.ptr b1 0 0, .ptr c2 0 0, iv i] H = some (bv true, H ++ L) := by
  obtain ⟨L1, h1⟩ := get_none T hrn hl hi
  obtain ⟨L2, h2⟩ := rget_none (ro := ro) (R.grow (L := L1 ++ [.cells 19 44 [.agg zeroF]])) (by rw [List.length_append]; omega) hl2 hu
  have hb : ro ≤ (H ++ L1).length := by rw [List.length_append]; omega
  refine ⟨L1 ++ [.cells 19 44 [.agg zeroF]] ++ L2 ++ [.cells 19 45 [.agg zeroF]], ?_⟩
  rw [alike_core (g := (H ++ L1).length) (q := (H ++ L1 ++ [ABlock.cells 19 44 [.agg zeroF]] ++ L2).length) (i' := 0) zeroF_ok zeroF_ok (fun _ _ => rfl) (by decide) h1 rfl (by first | (rw [List.append_assoc, h2]; done) | (rw [List.append_assoc, h2]; simp only [List.append_assoc])) rfl ?_ hb ?_ ?_]
  · simp only [List.append_assoc]
  · rw [List.append_assoc, hp_get_r0 rfl]; rfl
  · simp only [List.length_append] at hb ⊢; omega
  · simp only [List.length_append, List.length_cons, List.length_nil]; omega
theorem alike_live {ro : Nat} {H : Hp} {b1 b0 c2 c1 c0 : Nat} {sl es : List (List AV)} {us : List Bool} (T : TblAt H b1 b0 sl) (R : RefAt H c2 c1 c0 us es) (hrn : ro ≤ H.length) {i : Nat} (hl : sl.length < 2 ^ 62) (hl2 : us.length < 2 ^ 62)
    {A B : List AV} {sv1 sv2 : AV} {st : List Int} (F1 : FrOk A sv1 st) (F2 : FrOk B sv2 st) (hst : st.length ≤ 16) (same : ∀ j, j ≠ 2 → A[j]? = B[j]?) (hc : sl[i]? = some (A ++ [bv true])) (he : es[i]? = some B) (hu : usedB us i = true) :
    ∃ L, callB cx D ro 45 [.ptr b1 0 0, .ptr c2 0 0, iv i] H = some (bv true, H ++ L) := by
  obtain ⟨L1, x, hx, h1⟩ := get_live T hrn hl F1 (by omega) hc
  obtain ⟨L2, y, hy, h2⟩ := rget_live (ro := ro) (R.grow (L := L1 ++ [.cells 19 44 [.agg (A.set 2 x)]])) (by rw [List.length_append]; omega) hl2 hu F2 (by omega) he
  have hb : ro ≤ (H ++ L1).length := by rw [List.length_append]; omega
  refine ⟨L1 ++ [.cells 19 44 [.agg (A.set 2 x)]] ++ L2 ++ [.cells 19 45 [.agg (B.set 2 y)]], ?_⟩
  rw [alike_core (g := (H ++ L1).length) (q := (H ++ L1 ++ [ABlock.cells 19 44 [.agg (A.set 2 x)]] ++ L2).length) (i' := 0) (F1.set hx) (F2.set hy) (fun j hj => by rw [List.getElem?_set_ne (Ne.symm hj), List.getElem?_set_ne (Ne.symm hj), same j hj]) (by omega) h1 rfl (by first | (rw [List.append_assoc, h2]; done) | (rw [List.append_assoc, h2]; simp only [List.append_assoc])) rfl ?_ hb ?_ ?_]
  · simp only [List.append_assoc]
  · rw [List.append_assoc, hp_get_r0 rfl]; rfl
  · simp only [List.length_append] at hb ⊢; omega
  · simp only [List.length_append, List.length_cons, List.length_nil]; omega
end Go.Abs.Tab

/- ActorsPlays: both tables, act by act. -/
set_option linter.unusedVariables false
namespace Go.Abs.Tab

theorem add_long {ro b1 : Nat} {H : Hp} (hrn : ro ≤ H.length) {t : Int} {rg : AV} {xs : List Int} (hs : Sl 1 rg (xs.map iv)) (hx : 16 < xs.length) : ∃ L, callB cx D ro 35 [.ptr b1 0 0, iv t, rg] H = some (.tup [iv (-1), iv 2], H ++ L) := by
  obtain ⟨n, hn⟩ : ∃ n, H.length = n := ⟨_, rfl⟩
  have c1 : ∀ j, ro ≤ n + j := fun j => by omega
  have c2 : ∀ j, ¬ (n + j < ro) := fun j => by omega
  have c3 : ((16 : Int) < (xs.length : Int)) := by omega
  rw [hn] at hrn
  rw [c35]
  simp -implicitDefEqProofs (maxDischargeDepth := 4) only [go_sem, decide_true, decide_false, beq_self_eq_true, ↓reduceIte, Nat.reduceLT, Nat.reduceAdd, Nat.reduceMul, Nat.reduceSub, Nat.reduceEqDiff, Nat.reduceLeDiff, Nat.reduceBEq, reduceCtorEq, Nat.succ_ne_zero, Bool.not_true, Bool.not_false, Bool.true_eq_false, Bool.false_eq_true, Bool.true_beq, Bool.false_beq, Int.reduceLT, Int.reduceLE, Int.reduceEq, Int.reduceNe, ne_eq, not_false_eq_true, not_true_eq_false, List.getElem?_cons_zero, List.getElem?_cons_succ, List.length_cons, List.length_nil, List.all_cons, List.all_nil, Bool.and_true, Bool.and_self, Bool.true_and, Bool.false_and, Bool.and_false, Bool.or_true, Bool.or_false, Bool.true_or, Bool.false_or, Bool.or_self, List.elem_cons, List.elem_nil, Nat.add_zero, Nat.zero_add, or_self, or_false, false_or, true_or, or_true, and_true, true_and, and_false, false_and, and_self, List.mem_cons, List.not_mem_nil, Nat.reducePow, elAt_eq, stV_eq, cellsB_cells, hp_get_r, hp_get_r0, hp_get_l, hp_set_r, hp_set_r0, hp_set_l, hp_one, hp_ne, List.drop_succ_cons, List.drop_zero, List.take_succ_cons, List.take_zero, hn, hrn, c1, c2, hs.shr, hs.notOwn, hs.rdOf, hs.fitA, hs.drp, elP_Sl hs, alen_sl hs, List.length_map, c3]
  exact ⟨_, rfl⟩

/-- a slot in both tables -/
structure SlotR (c : List AV) (u : Bool) (e : List AV) : Prop where
  ex : ∃ A sv1 sv2 st, c = A ++ [bv u] ∧ FrOk A sv1 st ∧ FrOk e sv2 st ∧ st.length ≤ 16 ∧ ∀ j, j ≠ 2 → A[j]? = e[j]?
theorem live_app {A : List AV} {u : Bool} (h : A.length = 19) : liveC (A ++ [bv u]) = u := by
  have : (A ++ [bv u])[19]? = some (bv u) := by rw [List.getElem?_append_right (by rw [h]; exact Nat.le_refl _), h]; rfl
  simp only [liveC, this]
structure PSt (H : Hp) (n : Nat) (sl : List (List AV)) (us : List Bool) (es : List (List AV)) : Prop where
  T : TblAt H 1 0 sl
  R : RefAt H 4 3 2 us es
  ls : sl.length = n
  lu : us.length = n
  sr : ∀ (i : Nat) (c : List AV) (u : Bool) (e : List AV), sl[i]? = some c → us[i]? = some u → es[i]? = some e → SlotR c u e
theorem PSt.le {H : Hp} {n : Nat} {sl es : List (List AV)} {us : List Bool} (S : PSt H n sl us es) : es.length = n := by rw [S.R.le, S.lu]
theorem PSt.grow {H L : Hp} {n : Nat} {sl es : List (List AV)} {us : List Bool} (S : PSt H n sl us es) : PSt (H ++ L) n sl us es :=
  ⟨⟨by rw [hp_get_l (lt_of_get S.T.tb), S.T.tb], by rw [hp_get_l (lt_of_get S.T.sb), S.T.sb], S.T.ne, S.T.ok⟩, S.R.grow, S.ls, S.lu, S.sr⟩
theorem PSt.live {H : Hp} {n : Nat} {sl es : List (List AV)} {us : List Bool} (S : PSt H n sl us es) : sl.map liveC = us := by
  refine List.ext_getElem? fun i => ?_
  rw [List.getElem?_map]
  by_cases h : i < n
  · have h1 := List.getElem?_eq_getElem (show i < sl.length by rw [S.ls]; exact h)
    have h2 := List.getElem?_eq_getElem (show i < us.length by rw [S.lu]; exact h)
    have h3 := List.getElem?_eq_getElem (show i < es.length by rw [S.le]; exact h)
    obtain ⟨A, s1, s2, st, hc, F1, F2, _, _⟩ := (S.sr i _ _ _ h1 h2 h3).ex
    rw [h1, h2, Option.map_some, hc, live_app F1.len]
  · rw [List.getElem?_eq_none (by rw [S.ls]; omega), List.getElem?_eq_none (by rw [S.lu]; omega)]; rfl
/-- a slot is written in both tables -/
theorem PSt.put {H : Hp} {n : Nat} {sl es : List (List AV)} {us : List Bool} (S : PSt H n sl us es) {k : Nat} {c e : List AV} {u : Bool} (h : SlotR c u e) {L M : Hp} :
    PSt (((H.set 0 (.cells 20 185 ((sl.set k c).map .agg)) ++ L).set 2 (.cells 1 4 ((us.set k u).map bv))).set 3 (.cells 19 45 ((es.set k e).map .agg)) ++ M) n (sl.set k c) (us.set k u) (es.set k e) := by
  have h0 : 0 < H.length := lt_of_get S.T.sb
  have h2 : 2 < H.length := lt_of_get S.R.ub
  have h3 : 3 < H.length := lt_of_get S.R.lb
  have h4 : 4 < H.length := lt_of_get S.R.tb
  have e : ∀ j, j < H.length → j ≠ 0 → j ≠ 2 → j ≠ 3 → (((H.set 0 (.cells 20 185 ((sl.set k c).map .agg)) ++ L).set 2 (.cells 1 4 ((us.set k u).map bv))).set 3 (.cells 19 45 ((es.set k e).map .agg)) ++ M)[j]? = H[j]? := fun j hj a1 a2 a3 => by
    rw [hp_get_l (by simp only [List.length_set, List.length_append]; omega), hp_ne (Ne.symm a3), hp_ne (Ne.symm a2), hp_get_l (by simp only [List.length_set]; omega), hp_ne (Ne.symm a1)]
  refine ⟨⟨?_, ?_, by decide, ?_⟩, ⟨?_, ?_, ?_, by decide, by decide, by decide, ?_⟩, ?_, ?_, ?_⟩
  · rw [e 1 (by omega) (by decide) (by decide) (by decide), S.T.tb, List.length_set]
  · rw [hp_get_l (by simp only [List.length_set, List.length_append]; omega), hp_ne (by decide), hp_ne (by decide), hp_get_l (by simp only [List.length_set]; omega), hp_one h0]
  · intro d hd
    rcases List.mem_or_eq_of_mem_set hd with hd | rfl
    · exact S.T.ok d hd
    · obtain ⟨A, s1, s2, st, hc, F1, F2, _, _⟩ := h.ex
      rw [hc]
      refine ⟨by rw [List.length_append, F1.len]; rfl, ?_⟩
      rw [live_app F1.len, List.getElem?_append_right (by rw [F1.len]; exact Nat.le_refl _), F1.len]; rfl
  · rw [e 4 h4 (by decide) (by decide) (by decide), S.R.tb, List.length_set]
  · rw [hp_get_l (by simp only [List.length_set, List.length_append]; omega), hp_ne (by decide), hp_one (by simp only [List.length_set, List.length_append]; omega)]
  · rw [hp_get_l (by simp only [List.length_set, List.length_append]; omega), hp_one (by simp only [List.length_set, List.length_append]; omega)]
  · rw [List.length_set, List.length_set, S.R.le]
  · rw [List.length_set, S.ls]
  · rw [List.length_set, S.lu]
  · intro i c' u' e' h1 h2 h3
    by_cases hik : k = i
    · subst hik
      rw [List.getElem?_set] at h1 h2 h3
      simp only [if_true] at h1 h2 h3
      split at h1
      · split at h2
        · split at h3
          · cases h1; cases h2; cases h3; exact h
          · cases h3
        · cases h2
      · cases h1
    · rw [List.getElem?_set_ne hik] at h1 h2 h3
      exact S.sr i _ _ _ h1 h2 h3

theorem PSt.es19 {H : Hp} {n : Nat} {sl es : List (List AV)} {us : List Bool} (S : PSt H n sl us es) : ∀ e ∈ es, e.length = 19 := fun e he => by
  obtain ⟨i, hi⟩ := List.getElem?_of_mem he
  have hlt : i < n := by rw [← S.le]; exact (List.getElem?_eq_some_iff.1 hi).1
  have h1 := List.getElem?_eq_getElem (show i < sl.length by rw [S.ls]; exact hlt)
  have h2 := List.getElem?_eq_getElem (show i < us.length by rw [S.lu]; exact hlt)
  obtain ⟨A, s1, s2, st, hc, F1, F2, _, _⟩ := (S.sr i _ _ _ h1 h2 hi).ex
  exact F2.len

/-- what lies behind the tables is as it was -/
def Kept (H H1 : Hp) : Prop := ∀ j, 5 ≤ j → j < H.length → H1[j]? = H[j]?
theorem kept_refl (H : Hp) : Kept H H := fun _ _ _ => rfl
theorem kept_app (H L : Hp) : Kept H (H ++ L) := fun j _ h => hp_get_l h
theorem kept_set (H : Hp) (x : ABlock) : Kept H (H.set 0 x) := fun j h5 h => hp_ne (by omega)
theorem kept_setapp (H L : Hp) (x : ABlock) : Kept H (H.set 0 x ++ L) := fun j h5 h => by rw [hp_get_l (by rw [List.length_set]; exact h), hp_ne (by omega)]
theorem plays_add {H : Hp} {n : Nat} {sl es : List (List AV)} {us : List Bool} (S : PSt H n sl us es) (hn : n ≤ 32) {t : Int} {a : AV} {xs : List Int} (ha : Sl 1 a (xs.map iv)) :
    ∃ m e H1 H2 sl' us' es', callB cx D 0 35 [.ptr 1 0 0, iv t, a] H = some (.tup [iv m, iv e], H1) ∧ callB cx D 0 40 [.ptr 4 0 0, iv t, a] H1 = some (.tup [iv m, iv e], H2) ∧ PSt H2 n sl' us' es' ∧ Kept H H1 := by
  by_cases hx : 16 < xs.length
  · obtain ⟨L, h1⟩ := add_long (ro := 0) (b1 := 1) (H := H) (Nat.zero_le _) (t := t) ha hx
    exact ⟨-1, 2, _, _, sl, us, es, h1, radd_long S.grow.R ha hx, S.grow, kept_app _ _⟩
  · have hx' : xs.length ≤ 16 := by omega
    have hlive := S.live
    by_cases hlow : lowL 0 us = -1
    · obtain ⟨L, h1⟩ := add_none (ro := 0) S.T (Nat.zero_le _) (Nat.zero_le _) (by rw [S.ls]; omega) (t := t) ha hx' (fun j c hc => by
        refine (lowL_none 0 us).1 hlow j _ ?_
        rw [← hlive, List.getElem?_map, hc]; rfl)
      rcases radd_ok (ro := 0) (S.grow (L := L)).R (Nat.zero_le _) (Nat.zero_le _) (Nat.zero_le _) (by rw [S.lu]; omega) S.es19 (t := t) ha hx' with ⟨_, h2⟩ | ⟨k, hk, _⟩
      · exact ⟨-1, 22, _, _, sl, us, es, h1, h2, S.grow, kept_app _ _⟩
      · omega
    · obtain ⟨k, hk, hkf, hkt⟩ := lowL_some 0 us hlow
      rw [Nat.zero_add] at hk
      have hkn : k < n := by rw [← S.lu]; exact (List.getElem?_eq_some_iff.1 hkf).1
      obtain ⟨c, hc⟩ : ∃ c, sl[k]? = some c := ⟨_, List.getElem?_eq_getElem (by rw [S.ls]; exact hkn)⟩
      have hcl : liveC c = false := by
        rw [← hlive, List.getElem?_map, hc] at hkf
        simpa using hkf
      obtain ⟨L, h1⟩ := add_full (ro := 0) (k := k) S.T (Nat.zero_le _) (Nat.zero_le _) (by rw [S.ls]; omega) (t := t) ha hx' hc hcl (fun j c hj hc => by
        refine hkt j _ hj ?_
        rw [← hlive, List.getElem?_map, hc]; rfl)
      have hR : RefAt (H.set 0 (.cells 20 185 ((sl.set k (newC t xs)).map .agg)) ++ L) 4 3 2 us es := by
        have R := S.R
        have q : ∀ j, j ≠ 0 → j < H.length → (H.set 0 (.cells 20 185 ((sl.set k (newC t xs)).map .agg)) ++ L)[j]? = H[j]? := fun j h0 hj => by
          rw [hp_get_l (by rw [List.length_set]; exact hj), hp_ne (Ne.symm h0)]
        exact ⟨by rw [q 4 (by decide) (lt_of_get R.tb), R.tb], by rw [q 2 (by decide) (lt_of_get R.ub), R.ub], by rw [q 3 (by decide) (lt_of_get R.lb), R.lb], R.n01, R.n02, R.n12, R.le⟩
      rcases radd_ok (ro := 0) hR (Nat.zero_le _) (Nat.zero_le _) (Nat.zero_le _) (by rw [S.lu]; omega) S.es19 (t := t) ha hx' with ⟨hk2, _⟩ | ⟨k2, hk2, _, L2, h2⟩
      · omega
      · have : k2 = k := by omega
        subst this
        refine ⟨k2, 0, _, _, _, _, _, h1, h2, S.put ⟨_, _, _, _, newC_rbf hx', rbf_ok hx', rbf_ok hx', by simp, fun _ _ => rfl⟩, kept_setapp _ _ _⟩

/-- where a slot number leads -/
theorem PSt.at {H : Hp} {n : Nat} {sl es : List (List AV)} {us : List Bool} (S : PSt H n sl us es) (i : Int) :
    ((i < 0 ∨ (sl.length : Int) ≤ i ∨ ∃ n : Nat, i = n ∧ ∃ c, sl[n]? = some c ∧ liveC c = false) ∧ usedB us i = false) ∨
    ∃ (k : Nat) (A B : List AV) (sv1 sv2 : AV) (st : List Int), i = k ∧ k < n ∧ sl[k]? = some (A ++ [bv true]) ∧ es[k]? = some B ∧ usedB us k = true ∧ FrOk A sv1 st ∧ FrOk B sv2 st ∧ st.length ≤ 16 ∧ (∀ j, j ≠ 2 → A[j]? = B[j]?) ∧ us[k]? = some true := by
  by_cases h0 : i < 0
  · refine .inl ⟨.inl h0, ?_⟩
    unfold usedB; rw [if_neg (by omega)]
  obtain ⟨k, rfl⟩ : ∃ k : Nat, i = k := ⟨i.toNat, by omega⟩
  by_cases h1 : k < n
  · obtain ⟨c, hc⟩ : ∃ c, sl[k]? = some c := ⟨_, List.getElem?_eq_getElem (by rw [S.ls]; exact h1)⟩
    obtain ⟨u, hu⟩ : ∃ u, us[k]? = some u := ⟨_, List.getElem?_eq_getElem (by rw [S.lu]; exact h1)⟩
    obtain ⟨e, he⟩ : ∃ e, es[k]? = some e := ⟨_, List.getElem?_eq_getElem (by rw [S.le]; exact h1)⟩
    obtain ⟨A, s1, s2, st, rfl, F1, F2, hst, same⟩ := (S.sr k _ _ _ hc hu he).ex
    have hb : usedB us k = u := by
      unfold usedB
      rw [if_pos (by omega), Int.toNat_natCast, List.getD_eq_getElem?_getD, hu]; rfl
    cases u with
    | true => exact .inr ⟨k, A, e, s1, s2, st, rfl, h1, hc, he, hb, F1, F2, hst, same, hu⟩
    | false => exact .inl ⟨.inr (.inr ⟨k, rfl, _, hc, live_app F1.len⟩), hb⟩
  · refine .inl ⟨.inr (.inl (by rw [S.ls]; omega)), ?_⟩
    unfold usedB
    rw [if_pos (by omega), Int.toNat_natCast, List.getD_eq_getElem?_getD, List.getElem?_eq_none (by rw [S.lu]; omega)]; rfl

theorem plays_alike {H : Hp} {n : Nat} {sl es : List (List AV)} {us : List Bool} (S : PSt H n sl us es) (hn : n ≤ 32) (i : Int) :
    ∃ L, callB cx D 0 45 [.ptr 1 0 0, .ptr 4 0 0, iv i] H = some (bv true, H ++ L) := by
  rcases S.at i with ⟨h1, h2⟩ | ⟨k, A, B, s1, s2, st, rfl, hk, hc, he, hu, F1, F2, hst, same, _⟩
  · exact alike_dead S.T S.R (Nat.zero_le _) (by rw [S.ls]; omega) (by rw [S.lu]; omega) h1 h2
  · exact alike_live S.T S.R (Nat.zero_le _) (by rw [S.ls]; omega) (by rw [S.lu]; omega) F1 F2 hst same hc he hu

theorem set_same {α : Type} {l : List α} {k : Nat} {x : α} (h : l[k]? = some x) : l.set k x = l := by
  obtain ⟨hlt, h2⟩ := List.getElem?_eq_some_iff.1 h
  rw [← h2, List.set_getElem_self]
theorem hset_same {H : Hp} {b : Nat} {x : ABlock} (h : H[b]? = some x) : H.set b x = H := set_same h

theorem plays_drop {H : Hp} {n : Nat} {sl es : List (List AV)} {us : List Bool} (S : PSt H n sl us es) (hn : n ≤ 32) (i : Int) :
    ∃ e H1 H2 sl' us' es', callB cx D 0 36 [.ptr 1 0 0, iv i] H = some (iv e, H1) ∧ callB cx D 0 43 [.ptr 4 0 0, iv i] H1 = some (iv e, H2) ∧ PSt H2 n sl' us' es' ∧ Kept H H1 := by
  rcases S.at i with ⟨h1, h2⟩ | ⟨k, A, B, s1, s2, st, rfl, hk, hc, he, hu, F1, F2, hst, same, _⟩
  · exact ⟨24, _, _, sl, us, es, drop_none (ro := 0) S.T (by rw [S.ls]; omega) h1, rdrop_none (ro := 0) S.R (by rw [S.lu]; omega) h2, S, kept_refl _⟩
  · have hd := drop_live (ro := 0) S.T (Nat.zero_le _) (by rw [S.ls]; omega) hc (live_app F1.len)
    have hR : RefAt (H.set 0 (.cells 20 185 ((sl.set k zeroC).map .agg))) 4 3 2 us es := by
      have R := S.R
      exact ⟨by rw [hp_ne (by decide), R.tb], by rw [hp_ne (by decide), R.ub], by rw [hp_ne (by decide), R.lb], R.n01, R.n02, R.n12, R.le⟩
    have hr := rdrop_live (ro := 0) hR (Nat.zero_le _) (Nat.zero_le _) (i := k) (by rw [S.lu]; omega) hu F2.len he
    refine ⟨0, _, _, sl.set k zeroC, us.set k false, es.set k zeroF, hd, hr, ?_, kept_set _ _⟩
    have := S.put (k := k) (c := zeroC) (u := false) (e := zeroF) ⟨zeroF, _, _, _, rfl, zeroF_ok, zeroF_ok, by decide, fun _ _ => rfl⟩ (L := []) (M := [])
    simpa only [List.append_nil] using this

theorem plays_set {H : Hp} {n : Nat} {sl es : List (List AV)} {us : List Bool} (S : PSt H n sl us es) (hn : n ≤ 32) (i : Int) {P : List AV} {sv : AV} {st : List Int} (F : FrOk P sv st) :
    ∃ e H1 H2 sl' us' es', callB cx D 0 41 [.ptr 1 0 0, iv i, .agg P] H = some (iv e, H1) ∧ callB cx D 0 42 [.ptr 4 0 0, iv i, .agg P] H1 = some (iv e, H2) ∧ PSt H2 n sl' us' es' ∧ Kept H H1 := by
  rcases S.at i with ⟨h1, h2⟩ | ⟨k, A, B, s1, s2, st', rfl, hk, hc, he, hu, F1, F2, hst, same, hut⟩
  · obtain ⟨L, g1⟩ := set_none (ro := 0) S.T (Nat.zero_le _) (by rw [S.ls]; omega) F h1
    obtain ⟨L2, g2⟩ := rset_none (ro := 0) (S.grow (L := L)).R (Nat.zero_le _) (by rw [S.lu]; omega) h2 F
    exact ⟨24, _, _, sl, us, es, g1, g2, S.grow.grow, kept_app _ _⟩
  · by_cases hl : 16 < st.length
    · obtain ⟨L, g1⟩ := set_long (ro := 0) S.T (Nat.zero_le _) (by rw [S.ls]; omega) F hl hc (live_app F1.len)
      obtain ⟨L2, g2⟩ := rset_long (ro := 0) (S.grow (L := L)).R (Nat.zero_le _) (by rw [S.lu]; omega) hu F hl
      exact ⟨15, _, _, sl, us, es, g1, g2, S.grow.grow, kept_app _ _⟩
    · obtain ⟨L, x, hx, g1⟩ := set_live (ro := 0) S.T (Nat.zero_le _) (Nat.zero_le _) (by rw [S.ls]; omega) F (by omega) F1.len hc
      have hR : RefAt (H.set 0 (.cells 20 185 ((sl.set k (P.set 2 x ++ [bv true])).map .agg)) ++ L) 4 3 2 us es := by
        have R := S.R
        have q : ∀ j, j ≠ 0 → j < H.length → (H.set 0 (.cells 20 185 ((sl.set k (P.set 2 x ++ [bv true])).map .agg)) ++ L)[j]? = H[j]? := fun j h0 hj => by
          rw [hp_get_l (by rw [List.length_set]; exact hj), hp_ne (Ne.symm h0)]
        exact ⟨by rw [q 4 (by decide) (lt_of_get R.tb), R.tb], by rw [q 2 (by decide) (lt_of_get R.ub), R.ub], by rw [q 3 (by decide) (lt_of_get R.lb), R.lb], R.n01, R.n02, R.n12, R.le⟩
      obtain ⟨L2, y, hy, g2⟩ := rset_live (ro := 0) hR (Nat.zero_le _) (Nat.zero_le _) (by rw [S.lu]; omega) hu F (by omega) F2.len he
      refine ⟨0, _, _, sl.set k (P.set 2 x ++ [bv true]), us, es.set k (P.set 2 y), g1, g2, ?_, kept_setapp _ _ _⟩
      have := S.put (k := k) (c := P.set 2 x ++ [bv true]) (u := true) (e := P.set 2 y) ⟨_, _, _, _, rfl, F.set hx, F.set hy, by omega, fun j hj => by rw [List.getElem?_set_ne (Ne.symm hj), List.getElem?_set_ne (Ne.symm hj)]⟩ (L := L) (M := L2)
      rw [set_same hut] at this
      rw [hset_same (b := 2) (by rw [hR.ub])] at this
      exact this

theorem plays_live {H : Hp} {n : Nat} {sl es : List (List AV)} {us : List Bool} (S : PSt H n sl us es) (hn : n ≤ 32) :
    ∃ (L : Hp) (x y : AV) (xs : List Int), Sl 1 x (xs.map iv) ∧ Sl 1 y (xs.map iv) ∧ xs.length ≤ 32 ∧ callB cx D 0 38 [.ptr 1 0 0] H = some (x, H ++ L) ∧ callB cx D 0 44 [.ptr 4 0 0] (H ++ L) = some (y, H ++ L) := by
  obtain ⟨L, x, hx, h1⟩ := live_ok (ro := 0) S.T (Nat.zero_le _) (by rw [S.ls]; omega)
  obtain ⟨y, hy, h2⟩ := rlive_ok (ro := 0) (S.grow (L := L)).R (by rw [S.lu]; omega)
  rw [liveL_taken, S.live, takenL_map] at hx
  rw [takenL_map] at hy
  exact ⟨L, x, y, _, hx, hy, by have := takenI_len 0 us; rw [S.lu] at this; omega, h1, h2⟩
end Go.Abs.Tab

/- ActorsPlays: its code. -/
set_option linter.unusedVariables false
namespace Go.Abs.Tab

/-- an act, as its cells -/
def actC (w s N : Int) (wv : AV) : List AV := [.lit (.int .i8 w), .lit (.int .i8 s), iv N, wv]
structure PFr (fr : PT) (a : AV) (z : Int) (i : Nat) : Prop where
  f0 : fr.get 0 = iv z
  f1 : fr.get 1 = a
  f5 : fr.get 5 = .ptr 1 0 0
  f6 : fr.get 6 = .ptr 4 0 0
  f7 : fr.get 7 = iv i

theorem aslice_hi {T : TypeId → Option TI} {t : TypeId} {e : TypeId} {te : TI} (ht : slT T t = some (1, e, te)) {wv : AV} {xs : List Int} (h : Sl 1 wv (xs.map iv)) {k : Nat} (hk : k ≤ xs.length) :
    ∃ wv', aslice T t wv none (some (iv k)) none = some wv' ∧ Sl 1 wv' ((xs.take k).map iv) := by
  unfold slT at ht
  split at ht
  · rename_i e' _ hT
    cases he : T e' with
    | none => rw [he] at ht; cases ht
    | some te' =>
      rw [he] at ht
      simp only [Option.map_some, Option.some.injEq, Prod.mk.injEq] at ht
      obtain ⟨h1, rfl, rfl⟩ := ht
      have hk2 : k ≤ (xs.map iv).length := by rw [List.length_map]; exact hk
      rcases h with rfl | rfl | ⟨rfl, hnil⟩
      · refine ⟨.vec 1 (if k = (xs.map iv).length ∧ Kd.exact = .exact then .exact else .shared) ((xs.take k).map iv), ?_, ?_⟩
        · unfold aslice
          simp only [hT, he, Option.map_some, h1, natOr, natOf, Option.isSome_none, Bool.false_eq_true, false_implies, and_self, if_true]
          rw [if_pos (by omega)]
          simp only [Int.toNat_natCast, Nat.zero_le, hk2, and_self, if_true, List.drop_zero, Nat.sub_zero, List.map_take]
        · split
          · exact .inl rfl
          · exact .inr (.inl rfl)
      · refine ⟨.vec 1 (if k = (xs.map iv).length ∧ Kd.shared = .exact then .exact else .shared) ((xs.take k).map iv), ?_, ?_⟩
        · unfold aslice
          simp only [hT, he, Option.map_some, h1, natOr, natOf, Option.isSome_none, Bool.false_eq_true, false_implies, and_self, if_true]
          rw [if_pos (by omega)]
          simp only [Int.toNat_natCast, Nat.zero_le, hk2, true_and, if_true, List.drop_zero, Nat.sub_zero, List.map_take]
        · rw [if_neg (by simp)]; exact .inr (.inl rfl)
      · have hx : xs = [] := by simpa using hnil
        subst hx
        have hk0 : k = 0 := by simpa using hk
        subst hk0
        refine ⟨.lit (.slice none 0 0), ?_, .inr (.inr ⟨rfl, rfl⟩)⟩
        unfold aslice
        simp [hT, he, natOr, natOf]
  · cases ht

section
variable {a : AV} {z : Int} {i : Nat} {G : Hp} {els : List AV}
theorem play_x (ha : Sl 4 a els) (hi : i < els.length) {w s N : Int} {wv : AV} {xs : List Int} (he : els.getD i .dead = .agg (actC w s N wv)) (hw : Sl 1 wv (xs.map iv)) (hs : -128 ≤ s ∧ s < 128) {fr : PT} (F : PFr fr a z i) :
    ∃ fr' wv', ex cx D 0 4 160 (.seq (.region 7 g4_6 false) (.seq (.region 8 g4_7 false) (.region 9 g4_8 false))) fr G = some (.normal, fr', G ++ [.cells 4 41 [.agg (actC w s N wv)]]) ∧ PFr fr' a z i ∧ fr'.get 8 = .ptr G.length 0 0 ∧ fr'.get 9 = wv' ∧ Sl 1 wv' ((xs.take 20).map iv) ∧ fr'.get 10 = iv s := by
  obtain ⟨m, hm⟩ : ∃ m, G.length = m := ⟨_, rfl⟩
  have e1 : aindexAddr cx.T 35 a (iv i) = some (.vp (.agg (actC w s N wv)) 0) := by rw [aindexAddr_sl ha sl35 hi rfl, he]
  obtain ⟨wv', h1, h2⟩ := aslice_hi sl39 hw (k := min xs.length 20) (by omega)
  have h3 : xs.take (min xs.length 20) = xs.take 20 := by
    by_cases h : xs.length ≤ 20
    · rw [Nat.min_eq_left h, List.take_length, List.take_of_length_le h]
    · rw [Nat.min_eq_right (by omega)]
  rw [h3] at h2
  have e2 : aminmax false [.lit (.int .i64 (xs.length : Int)), .lit (.int .i64 20)] = some (iv ((min xs.length 20 : Nat) : Int)) := by
    have : (if (20 : Int) < (xs.length : Int) then (20 : Int) else (xs.length : Int)) = ((min xs.length 20 : Nat) : Int) := by
      split <;> omega
    rw [← this]; rfl
  have e3 : wrapK .i64 s = s := wrapK_i64 (by omega) (by omega)
  have d3 : ¬ (m < 0) := by omega
  unfold actC at e1 ⊢
  simp -implicitDefEqProofs (maxDischargeDepth := 4) only [go_sem, decide_true, decide_false, beq_self_eq_true, ↓reduceIte, Nat.reduceLT, Nat.reduceAdd, Nat.reduceMul, Nat.reduceSub, Nat.reduceEqDiff, Nat.reduceLeDiff, Nat.reduceBEq, reduceCtorEq, Nat.succ_ne_zero, Bool.not_true, Bool.not_false, Bool.true_eq_false, Bool.false_eq_true, Bool.true_beq, Bool.false_beq, Int.reduceLT, Int.reduceLE, Int.reduceEq, Int.reduceNe, ne_eq, not_false_eq_true, not_true_eq_false, List.getElem?_cons_zero, List.getElem?_cons_succ, List.length_cons, List.length_nil, List.all_cons, List.all_nil, Bool.and_true, Bool.and_self, Bool.true_and, Bool.false_and, Bool.and_false, Bool.or_true, Bool.or_false, Bool.true_or, Bool.false_or, Bool.or_self, List.elem_cons, List.elem_nil, Nat.add_zero, Nat.zero_add, or_self, or_false, false_or, true_or, or_true, and_true, true_and, and_false, false_and, and_self, List.mem_cons, List.not_mem_nil, Nat.reducePow, elAt_eq, stV_eq, cellsB_cells, hp_get_r, hp_get_r0, hp_get_l, hp_set_r, hp_set_r0, hp_set_l, hp_one, hp_ne, List.drop_succ_cons, List.drop_zero, List.take_succ_cons, List.take_zero, F.f0, F.f1, F.f5, F.f6, F.f7, ha.shr, ha.notOwn, e1, hm, Nat.zero_le, Nat.not_lt_zero, hw.shr, hw.notOwn, alen_sl hw, List.length_map, e2, h1, e3, h2.notOwn, h2.shr]
  refine ⟨_, wv', rfl, ?_, ?_, ?_, h2, ?_⟩
  · constructor <;> simp -implicitDefEqProofs (maxDischargeDepth := 4) only [go_sem, decide_true, decide_false, beq_self_eq_true, ↓reduceIte, Nat.reduceLT, Nat.reduceAdd, Nat.reduceMul, Nat.reduceSub, Nat.reduceEqDiff, Nat.reduceLeDiff, Nat.reduceBEq, reduceCtorEq, Nat.succ_ne_zero, Bool.not_true, Bool.not_false, Bool.true_eq_false, Bool.false_eq_true, Bool.true_beq, Bool.false_beq, Int.reduceLT, Int.reduceLE, Int.reduceEq, Int.reduceNe, ne_eq, not_false_eq_true, not_true_eq_false, List.getElem?_cons_zero, List.getElem?_cons_succ, List.length_cons, List.length_nil, List.all_cons, List.all_nil, Bool.and_true, Bool.and_self, Bool.true_and, Bool.false_and, Bool.and_false, Bool.or_true, Bool.or_false, Bool.true_or, Bool.false_or, Bool.or_self, List.elem_cons, List.elem_nil, Nat.add_zero, Nat.zero_add, or_self, or_false, false_or, true_or, or_true, and_true, true_and, and_false, false_and, and_self, List.mem_cons, List.not_mem_nil, Nat.reducePow, F.f0, F.f1, F.f5, F.f6, F.f7]
  · simp -implicitDefEqProofs (maxDischargeDepth := 4) only [go_sem, decide_true, decide_false, beq_self_eq_true, ↓reduceIte, Nat.reduceLT, Nat.reduceAdd, Nat.reduceMul, Nat.reduceSub, Nat.reduceEqDiff, Nat.reduceLeDiff, Nat.reduceBEq, reduceCtorEq, Nat.succ_ne_zero, Bool.not_true, Bool.not_false, Bool.true_eq_false, Bool.false_eq_true, Bool.true_beq, Bool.false_beq, Int.reduceLT, Int.reduceLE, Int.reduceEq, Int.reduceNe, ne_eq, not_false_eq_true, not_true_eq_false, List.getElem?_cons_zero, List.getElem?_cons_succ, List.length_cons, List.length_nil, List.all_cons, List.all_nil, Bool.and_true, Bool.and_self, Bool.true_and, Bool.false_and, Bool.and_false, Bool.or_true, Bool.or_false, Bool.true_or, Bool.false_or, Bool.or_self, List.elem_cons, List.elem_nil, Nat.add_zero, Nat.zero_add, or_self, or_false, false_or, true_or, or_true, and_true, true_and, and_false, false_and, and_self, List.mem_cons, List.not_mem_nil, Nat.reducePow]
  · simp -implicitDefEqProofs (maxDischargeDepth := 4) only [go_sem, decide_true, decide_false, beq_self_eq_true, ↓reduceIte, Nat.reduceLT, Nat.reduceAdd, Nat.reduceMul, Nat.reduceSub, Nat.reduceEqDiff, Nat.reduceLeDiff, Nat.reduceBEq, reduceCtorEq, Nat.succ_ne_zero, Bool.not_true, Bool.not_false, Bool.true_eq_false, Bool.false_eq_true, Bool.true_beq, Bool.false_beq, Int.reduceLT, Int.reduceLE, Int.reduceEq, Int.reduceNe, ne_eq, not_false_eq_true, not_true_eq_false, List.getElem?_cons_zero, List.getElem?_cons_succ, List.length_cons, List.length_nil, List.all_cons, List.all_nil, Bool.and_true, Bool.and_self, Bool.true_and, Bool.false_and, Bool.and_false, Bool.or_true, Bool.or_false, Bool.true_or, Bool.false_or, Bool.or_self, List.elem_cons, List.elem_nil, Nat.add_zero, Nat.zero_add, or_self, or_false, false_or, true_or, or_true, and_true, true_and, and_false, false_and, and_self, List.mem_cons, List.not_mem_nil, Nat.reducePow]
  · simp -implicitDefEqProofs (maxDischargeDepth := 4) only [go_sem, decide_true, decide_false, beq_self_eq_true, ↓reduceIte, Nat.reduceLT, Nat.reduceAdd, Nat.reduceMul, Nat.reduceSub, Nat.reduceEqDiff, Nat.reduceLeDiff, Nat.reduceBEq, reduceCtorEq, Nat.succ_ne_zero, Bool.not_true, Bool.not_false, Bool.true_eq_false, Bool.false_eq_true, Bool.true_beq, Bool.false_beq, Int.reduceLT, Int.reduceLE, Int.reduceEq, Int.reduceNe, ne_eq, not_false_eq_true, not_true_eq_false, List.getElem?_cons_zero, List.getElem?_cons_succ, List.length_cons, List.length_nil, List.all_cons, List.all_nil, Bool.and_true, Bool.and_self, Bool.true_and, Bool.false_and, Bool.and_false, Bool.or_true, Bool.or_false, Bool.true_or, Bool.false_or, Bool.or_self, List.elem_cons, List.elem_nil, Nat.add_zero, Nat.zero_add, or_self, or_false, false_or, true_or, or_true, and_true, true_and, and_false, false_and, and_self, List.mem_cons, List.not_mem_nil, Nat.reducePow]

/-- what is there behind the reading of the act -/
structure QFr (fr : PT) (a : AV) (z : Int) (i m : Nat) (wv : AV) (s : Int) : Prop extends PFr fr a z i where
  f8 : fr.get 8 = .ptr m 0 0
  f9 : fr.get 9 = wv
  f10 : fr.get 10 = iv s

/-- act 0, 1: Add -/
theorem play_add {n m : Nat} {sl es : List (List AV)} {us : List Bool} (S : PSt G n sl us es) (hn : n ≤ 32) {w s N : Int} {wv wv' : AV} {ws : List Int} (h5 : 5 ≤ m) (hm : G[m]? = some (.cells 4 41 [.agg (actC w s N wv)])) (hw : Sl 1 wv' (ws.map iv)) {fr : PT} (F : QFr fr a z i m wv' s) :
    ∃ fr' G' sl' us' es', ex cx D 0 4 160 (.seq (.region 15 g4_12 false) (.seq (.region 16 g4_13 false) (.seq (.region 17 g4_14 false) (.cond (.tmp 97) (.seq (.region 18 g4_15 false) .ret) .skip)))) fr G = some (.normal, fr', G') ∧ PFr fr' a z i ∧ fr'.get 10 = iv s ∧ PSt G' n sl' us' es' := by
  obtain ⟨mm, e, H1, H2, sl', us', es', h1, h2, S', kp⟩ := plays_add S hn (t := N) hw
  have e1 : elAt G m 0 = some (.agg (actC w s N wv)) := by rw [elAt_of hm]; rfl
  have e2 : elAt H1 m 0 = some (.agg (actC w s N wv)) := by rw [elAt_of (by rw [kp m h5 (lt_of_get hm)]; exact hm)]; rfl
  unfold actC at e1 e2
  simp -implicitDefEqProofs (maxDischargeDepth := 4) only [go_sem, decide_true, decide_false, beq_self_eq_true, ↓reduceIte, Nat.reduceLT, Nat.reduceAdd, Nat.reduceMul, Nat.reduceSub, Nat.reduceEqDiff, Nat.reduceLeDiff, Nat.reduceBEq, reduceCtorEq, Nat.succ_ne_zero, Bool.not_true, Bool.not_false, Bool.true_eq_false, Bool.false_eq_true, Bool.true_beq, Bool.false_beq, Int.reduceLT, Int.reduceLE, Int.reduceEq, Int.reduceNe, ne_eq, not_false_eq_true, not_true_eq_false, List.getElem?_cons_zero, List.getElem?_cons_succ, List.length_cons, List.length_nil, List.all_cons, List.all_nil, Bool.and_true, Bool.and_self, Bool.true_and, Bool.false_and, Bool.and_false, Bool.or_true, Bool.or_false, Bool.true_or, Bool.false_or, Bool.or_self, List.elem_cons, List.elem_nil, Nat.add_zero, Nat.zero_add, or_self, or_false, false_or, true_or, or_true, and_true, true_and, and_false, false_and, and_self, List.mem_cons, List.not_mem_nil, Nat.reducePow, F.f0, F.f1, F.f5, F.f6, F.f7, F.f8, F.f9, F.f10, e1, e2, hw.shr, hw.drp, hw.notOwn, h1, h2]
  refine ⟨_, _, sl', us', es', rfl, ?_, ?_, S'⟩
  · constructor <;> simp -implicitDefEqProofs (maxDischargeDepth := 4) only [go_sem, decide_true, decide_false, beq_self_eq_true, ↓reduceIte, Nat.reduceLT, Nat.reduceAdd, Nat.reduceMul, Nat.reduceSub, Nat.reduceEqDiff, Nat.reduceLeDiff, Nat.reduceBEq, reduceCtorEq, Nat.succ_ne_zero, Bool.not_true, Bool.not_false, Bool.true_eq_false, Bool.false_eq_true, Bool.true_beq, Bool.false_beq, Int.reduceLT, Int.reduceLE, Int.reduceEq, Int.reduceNe, ne_eq, not_false_eq_true, not_true_eq_false, List.getElem?_cons_zero, List.getElem?_cons_succ, List.length_cons, List.length_nil, List.all_cons, List.all_nil, Bool.and_true, Bool.and_self, Bool.true_and, Bool.false_and, Bool.and_false, Bool.or_true, Bool.or_false, Bool.true_or, Bool.false_or, Bool.or_self, List.elem_cons, List.elem_nil, Nat.add_zero, Nat.zero_add, or_self, or_false, false_or, true_or, or_true, and_true, true_and, and_false, false_and, and_self, List.mem_cons, List.not_mem_nil, Nat.reducePow, F.f0, F.f1, F.f5, F.f6, F.f7]
  · simp -implicitDefEqProofs (maxDischargeDepth := 4) only [go_sem, decide_true, decide_false, beq_self_eq_true, ↓reduceIte, Nat.reduceLT, Nat.reduceAdd, Nat.reduceMul, Nat.reduceSub, Nat.reduceEqDiff, Nat.reduceLeDiff, Nat.reduceBEq, reduceCtorEq, Nat.succ_ne_zero, Bool.not_true, Bool.not_false, Bool.true_eq_false, Bool.false_eq_true, Bool.true_beq, Bool.false_beq, Int.reduceLT, Int.reduceLE, Int.reduceEq, Int.reduceNe, ne_eq, not_false_eq_true, not_true_eq_false, List.getElem?_cons_zero, List.getElem?_cons_succ, List.length_cons, List.length_nil, List.all_cons, List.all_nil, Bool.and_true, Bool.and_self, Bool.true_and, Bool.false_and, Bool.and_false, Bool.or_true, Bool.or_false, Bool.true_or, Bool.false_or, Bool.or_self, List.elem_cons, List.elem_nil, Nat.add_zero, Nat.zero_add, or_self, or_false, false_or, true_or, or_true, and_true, true_and, and_false, false_and, and_self, List.mem_cons, List.not_mem_nil, Nat.reducePow, F.f10]

/-- act 3: Drop -/
theorem play_drop {n m : Nat} {sl es : List (List AV)} {us : List Bool} (S : PSt G n sl us es) (hn : n ≤ 32) {s : Int} {wv' : AV} {fr : PT} (F : QFr fr a z i m wv' s) :
    ∃ fr' G' sl' us' es', ex cx D 0 4 160 (.seq (.region 11 g4_24 false) (.cond (.tmp 70) (.seq (.region 12 g4_25 false) .ret) .skip)) fr G = some (.normal, fr', G') ∧ PFr fr' a z i ∧ fr'.get 10 = iv s ∧ PSt G' n sl' us' es' := by
  obtain ⟨e, H1, H2, sl', us', es', h1, h2, S', kp⟩ := plays_drop S hn s
  simp -implicitDefEqProofs (maxDischargeDepth := 4) only [go_sem, decide_true, decide_false, beq_self_eq_true, ↓reduceIte, Nat.reduceLT, Nat.reduceAdd, Nat.reduceMul, Nat.reduceSub, Nat.reduceEqDiff, Nat.reduceLeDiff, Nat.reduceBEq, reduceCtorEq, Nat.succ_ne_zero, Bool.not_true, Bool.not_false, Bool.true_eq_false, Bool.false_eq_true, Bool.true_beq, Bool.false_beq, Int.reduceLT, Int.reduceLE, Int.reduceEq, Int.reduceNe, ne_eq, not_false_eq_true, not_true_eq_false, List.getElem?_cons_zero, List.getElem?_cons_succ, List.length_cons, List.length_nil, List.all_cons, List.all_nil, Bool.and_true, Bool.and_self, Bool.true_and, Bool.false_and, Bool.and_false, Bool.or_true, Bool.or_false, Bool.true_or, Bool.false_or, Bool.or_self, List.elem_cons, List.elem_nil, Nat.add_zero, Nat.zero_add, or_self, or_false, false_or, true_or, or_true, and_true, true_and, and_false, false_and, and_self, List.mem_cons, List.not_mem_nil, Nat.reducePow, F.f0, F.f1, F.f5, F.f6, F.f7, F.f8, F.f9, F.f10, h1, h2]
  refine ⟨_, _, sl', us', es', rfl, ?_, ?_, S'⟩
  · constructor <;> simp -implicitDefEqProofs (maxDischargeDepth := 4) only [go_sem, decide_true, decide_false, beq_self_eq_true, ↓reduceIte, Nat.reduceLT, Nat.reduceAdd, Nat.reduceMul, Nat.reduceSub, Nat.reduceEqDiff, Nat.reduceLeDiff, Nat.reduceBEq, reduceCtorEq, Nat.succ_ne_zero, Bool.not_true, Bool.not_false, Bool.true_eq_false, Bool.false_eq_true, Bool.true_beq, Bool.false_beq, Int.reduceLT, Int.reduceLE, Int.reduceEq, Int.reduceNe, ne_eq, not_false_eq_true, not_true_eq_false, List.getElem?_cons_zero, List.getElem?_cons_succ, List.length_cons, List.length_nil, List.all_cons, List.all_nil, Bool.and_true, Bool.and_self, Bool.true_and, Bool.false_and, Bool.and_false, Bool.or_true, Bool.or_false, Bool.true_or, Bool.false_or, Bool.or_self, List.elem_cons, List.elem_nil, Nat.add_zero, Nat.zero_add, or_self, or_false, false_or, true_or, or_true, and_true, true_and, and_false, false_and, and_self, List.mem_cons, List.not_mem_nil, Nat.reducePow, F.f0, F.f1, F.f5, F.f6, F.f7]
  · simp -implicitDefEqProofs (maxDischargeDepth := 4) only [go_sem, decide_true, decide_false, beq_self_eq_true, ↓reduceIte, Nat.reduceLT, Nat.reduceAdd, Nat.reduceMul, Nat.reduceSub, Nat.reduceEqDiff, Nat.reduceLeDiff, Nat.reduceBEq, reduceCtorEq, Nat.succ_ne_zero, Bool.not_true, Bool.not_false, Bool.true_eq_false, Bool.false_eq_true, Bool.true_beq, Bool.false_beq, Int.reduceLT, Int.reduceLE, Int.reduceEq, Int.reduceNe, ne_eq, not_false_eq_true, not_true_eq_false, List.getElem?_cons_zero, List.getElem?_cons_succ, List.length_cons, List.length_nil, List.all_cons, List.all_nil, Bool.and_true, Bool.and_self, Bool.true_and, Bool.false_and, Bool.and_false, Bool.or_true, Bool.or_false, Bool.true_or, Bool.false_or, Bool.or_self, List.elem_cons, List.elem_nil, Nat.add_zero, Nat.zero_add, or_self, or_false, false_or, true_or, or_true, and_true, true_and, and_false, false_and, and_self, List.mem_cons, List.not_mem_nil, Nat.reducePow, F.f10]

/-- what is compared after each act -/
theorem play_live {n : Nat} {sl es : List (List AV)} {us : List Bool} (S : PSt G n sl us es) (hn : n ≤ 32) {s : Int} {fr : PT} (F : PFr fr a z i) (f10 : fr.get 10 = iv s) :
    ∃ fr' L, ex cx D 0 4 160 (.seq (.region 27 g4_26 false) (.cond (.tmp 144) (.seq (.region 28 g4_27 false) .ret) .skip)) fr G = some (.normal, fr', G ++ L) ∧ PFr fr' a z i := by
  obtain ⟨L, x, y, xs, hx, hy, hl, h1, h2⟩ := plays_live S hn
  have h3 := ints_ok hx hy (by omega)
  have hd : decide (xs = xs) = true := by simp
  rw [hd] at h3
  obtain ⟨L2, h4⟩ := plays_alike (S.grow (L := L)) hn s
  simp -implicitDefEqProofs (maxDischargeDepth := 4) only [go_sem, decide_true, decide_false, beq_self_eq_true, ↓reduceIte, Nat.reduceLT, Nat.reduceAdd, Nat.reduceMul, Nat.reduceSub, Nat.reduceEqDiff, Nat.reduceLeDiff, Nat.reduceBEq, reduceCtorEq, Nat.succ_ne_zero, Bool.not_true, Bool.not_false, Bool.true_eq_false, Bool.false_eq_true, Bool.true_beq, Bool.false_beq, Int.reduceLT, Int.reduceLE, Int.reduceEq, Int.reduceNe, ne_eq, not_false_eq_true, not_true_eq_false, List.getElem?_cons_zero, List.getElem?_cons_succ, List.length_cons, List.length_nil, List.all_cons, List.all_nil, Bool.and_true, Bool.and_self, Bool.true_and, Bool.false_and, Bool.and_false, Bool.or_true, Bool.or_false, Bool.true_or, Bool.false_or, Bool.or_self, List.elem_cons, List.elem_nil, Nat.add_zero, Nat.zero_add, or_self, or_false, false_or, true_or, or_true, and_true, true_and, and_false, false_and, and_self, List.mem_cons, List.not_mem_nil, Nat.reducePow, F.f0, F.f1, F.f5, F.f6, F.f7, f10, h1, h2, h3, h4, hx.shr, hy.shr, hx.shut1, hy.shut1, hx.notOwn, hy.notOwn]
  refine ⟨_, L ++ L2, rfl, ?_⟩
  constructor <;> simp -implicitDefEqProofs (maxDischargeDepth := 4) only [go_sem, decide_true, decide_false, beq_self_eq_true, ↓reduceIte, Nat.reduceLT, Nat.reduceAdd, Nat.reduceMul, Nat.reduceSub, Nat.reduceEqDiff, Nat.reduceLeDiff, Nat.reduceBEq, reduceCtorEq, Nat.succ_ne_zero, Bool.not_true, Bool.not_false, Bool.true_eq_false, Bool.false_eq_true, Bool.true_beq, Bool.false_beq, Int.reduceLT, Int.reduceLE, Int.reduceEq, Int.reduceNe, ne_eq, not_false_eq_true, not_true_eq_false, List.getElem?_cons_zero, List.getElem?_cons_succ, List.length_cons, List.length_nil, List.all_cons, List.all_nil, Bool.and_true, Bool.and_self, Bool.true_and, Bool.false_and, Bool.and_false, Bool.or_true, Bool.or_false, Bool.true_or, Bool.false_or, Bool.or_self, List.elem_cons, List.elem_nil, Nat.add_zero, Nat.zero_add, or_self, or_false, false_or, true_or, or_true, and_true, true_and, and_false, false_and, and_self, List.mem_cons, List.not_mem_nil, Nat.reducePow, F.f0, F.f1, F.f5, F.f6, F.f7]

theorem kill0_Sl {m : Nat} {sv : AV} {l : List AV} (h : Sl 1 sv l) : kill0 m sv = sv := by
  rcases h with rfl | rfl | ⟨rfl, _⟩ <;> rfl
theorem PSt.trim {n m : Nat} {sl es : List (List AV)} {us : List Bool} (S : PSt G n sl us es) (h5 : 5 ≤ m) : PSt ((G.take m).map (killB m)) n sl us es := by
  have get : ∀ k < 5, ((G.take m).map (killB m))[k]? = (G[k]?).map (killB m) := fun k hk => by
    rw [List.getElem?_map, List.getElem?_take_of_lt (by omega)]
  have ks : ∀ b z i l c, b < 5 → kill0 m (.sl b z i l c) = .sl b z i l c := fun b z i l c hb => by
    show (if b < m then _ else _) = _
    rw [if_pos (by omega)]
  have kc : ∀ c ∈ sl, c.map (kill0 m) = c := fun c hc => by
    obtain ⟨j, hj⟩ := List.getElem?_of_mem hc
    have hlt : j < n := by rw [← S.ls]; exact (List.getElem?_eq_some_iff.1 hj).1
    obtain ⟨u, hu⟩ : ∃ u, us[j]? = some u := ⟨_, List.getElem?_eq_getElem (by rw [S.lu]; exact hlt)⟩
    obtain ⟨e, he⟩ : ∃ e, es[j]? = some e := ⟨_, List.getElem?_eq_getElem (by rw [S.le]; exact hlt)⟩
    obtain ⟨A, s1, s2, st, rfl, F1, F2, _, _⟩ := (S.sr j _ _ _ hj hu he).ex
    rw [List.map_append, F1.map (g := kill0 m) (fun _ => rfl) (kill0_Sl F1.sl)]; rfl
  have ke : ∀ e ∈ es, e.map (kill0 m) = e := fun e hc => by
    obtain ⟨j, hj⟩ := List.getElem?_of_mem hc
    have hlt : j < n := by rw [← S.le]; exact (List.getElem?_eq_some_iff.1 hj).1
    obtain ⟨u, hu⟩ : ∃ u, us[j]? = some u := ⟨_, List.getElem?_eq_getElem (by rw [S.lu]; exact hlt)⟩
    obtain ⟨c, he⟩ : ∃ c, sl[j]? = some c := ⟨_, List.getElem?_eq_getElem (by rw [S.ls]; exact hlt)⟩
    obtain ⟨A, s1, s2, st, rfl, F1, F2, _, _⟩ := (S.sr j _ _ _ he hu hj).ex
    rw [F2.map (g := kill0 m) (fun _ => rfl) (kill0_Sl F2.sl)]
  have ka : ∀ l : List (List AV), (∀ c ∈ l, c.map (kill0 m) = c) → (l.map AV.agg).map (kill1 m) = l.map .agg := fun l hl => by
    rw [List.map_map]
    refine List.map_congr_left fun c hc => ?_
    show AV.agg (c.map (kill0 m)) = _
    rw [hl c hc]
  refine ⟨⟨?_, ?_, S.T.ne, S.T.ok⟩, ⟨?_, ?_, ?_, S.R.n01, S.R.n02, S.R.n12, S.R.le⟩, S.ls, S.lu, S.sr⟩
  · rw [get 1 (by decide), S.T.tb]
    simp only [Option.map_some, killB, List.map_cons, List.map_nil, kill1, ks 0 _ _ _ _ (by decide)]
  · rw [get 0 (by decide), S.T.sb]
    simp only [Option.map_some, killB, ka sl kc]
  · rw [get 4 (by decide), S.R.tb]
    simp only [Option.map_some, killB, List.map_cons, List.map_nil, kill1, ks 2 _ _ _ _ (by decide), ks 3 _ _ _ _ (by decide)]
  · rw [get 2 (by decide), S.R.ub]
    simp only [Option.map_some, killB, List.map_map]
    rfl
  · rw [get 3 (by decide), S.R.lb]
    simp only [Option.map_some, killB, ka es ke]
theorem PFr.trim {fr : PT} (F : PFr fr a z i) {m : Nat} (h5 : 5 ≤ m) (ha : kill m a = a) : PFr (fr.map (kill m)) a z i := by
  have k1 : kill m (.ptr 1 0 0) = .ptr 1 0 0 := by show (if 1 < m then _ else _) = _; rw [if_pos (by omega)]
  have k4 : kill m (.ptr 4 0 0) = .ptr 4 0 0 := by show (if 4 < m then _ else _) = _; rw [if_pos (by omega)]
  constructor <;> rw [get_mapkill]
  · rw [F.f0]; rfl
  · rw [F.f1, ha]
  · rw [F.f5, k1]
  · rw [F.f6, k4]
  · rw [F.f7]; rfl

theorem trim_P {P : Option Res → Prop} {k : PT → Hp → Option Res} {m n : Nat} {sl es : List (List AV)} {us : List Bool} (h5 : 5 ≤ m) (ha : ∀ m, kill m a = a) {fr : PT} (F : PFr fr a z i) (S : PSt G n sl us es) (hm : m ≤ G.length)
    {X : Option Int} (hX0 : ∀ x, X = some x → fr.get 17 = iv x) (hX : ∀ fr' G', G'.length = m → PFr fr' a z i → PSt G' n sl us es → (∀ x, X = some x → fr'.get 17 = iv x) → P (k fr' G')) : P (trimmed k m fr G) := by
  unfold trimmed
  split
  · rename_i h; exact hX _ _ h F S hX0
  · refine hX _ _ (by rw [List.length_map, List.length_take]; omega) (F.trim h5 (ha m)) (S.trim h5) fun x hx => ?_
    rw [get_mapkill, hX0 x hx]; rfl

/-- every slot is compared -/
theorem alike_loop {n : Nat} {sl es : List (List AV)} {us : List Bool} (hn : n ≤ 32) (ha : ∀ m, kill m a = a) {m : Nat} (h5 : 5 ≤ m) :
    ∀ (d : Nat) (k : Int), k + d = 9 → -1 ≤ k → ∀ (fr : PT) (G : Hp), G.length = m → PSt G n sl us es → PFr fr a z i → fr.get 17 = iv k →
      ∃ fr' G', D.loop 0 4 160 l4_0 fr G = some (.exit 3, fr', G') ∧ PFr fr' a z i ∧ PSt G' n sl us es ∧ G'.length = m := by
  intro d
  induction d with
  | zero =>
    intro k hk hk1 fr G hG S F h17
    have hk9 : k = 9 := by omega
    subst hk9
    rw [dl4_0]
    by_cases hz : (9 : Int) ≤ z
    · simp -implicitDefEqProofs (maxDischargeDepth := 4) only [go_sem, decide_true, decide_false, beq_self_eq_true, ↓reduceIte, Nat.reduceLT, Nat.reduceAdd, Nat.reduceMul, Nat.reduceSub, Nat.reduceEqDiff, Nat.reduceLeDiff, Nat.reduceBEq, reduceCtorEq, Nat.succ_ne_zero, Bool.not_true, Bool.not_false, Bool.true_eq_false, Bool.false_eq_true, Bool.true_beq, Bool.false_beq, Int.reduceLT, Int.reduceLE, Int.reduceEq, Int.reduceNe, ne_eq, not_false_eq_true, not_true_eq_false, List.getElem?_cons_zero, List.getElem?_cons_succ, List.length_cons, List.length_nil, List.all_cons, List.all_nil, Bool.and_true, Bool.and_self, Bool.true_and, Bool.false_and, Bool.and_false, Bool.or_true, Bool.or_false, Bool.true_or, Bool.false_or, Bool.or_self, List.elem_cons, List.elem_nil, Nat.add_zero, Nat.zero_add, or_self, or_false, false_or, true_or, or_true, and_true, true_and, and_false, false_and, and_self, List.mem_cons, List.not_mem_nil, Nat.reducePow, F.f0, F.f1, F.f5, F.f6, F.f7, h17, hz]
      refine ⟨_, _, rfl, ?_, S, hG⟩
      constructor <;> simp -implicitDefEqProofs (maxDischargeDepth := 4) only [go_sem, decide_true, decide_false, beq_self_eq_true, ↓reduceIte, Nat.reduceLT, Nat.reduceAdd, Nat.reduceMul, Nat.reduceSub, Nat.reduceEqDiff, Nat.reduceLeDiff, Nat.reduceBEq, reduceCtorEq, Nat.succ_ne_zero, Bool.not_true, Bool.not_false, Bool.true_eq_false, Bool.false_eq_true, Bool.true_beq, Bool.false_beq, Int.reduceLT, Int.reduceLE, Int.reduceEq, Int.reduceNe, ne_eq, not_false_eq_true, not_true_eq_false, List.getElem?_cons_zero, List.getElem?_cons_succ, List.length_cons, List.length_nil, List.all_cons, List.all_nil, Bool.and_true, Bool.and_self, Bool.true_and, Bool.false_and, Bool.and_false, Bool.or_true, Bool.or_false, Bool.true_or, Bool.false_or, Bool.or_self, List.elem_cons, List.elem_nil, Nat.add_zero, Nat.zero_add, or_self, or_false, false_or, true_or, or_true, and_true, true_and, and_false, false_and, and_self, List.mem_cons, List.not_mem_nil, Nat.reducePow, F.f0, F.f1, F.f5, F.f6, F.f7]
    · simp -implicitDefEqProofs (maxDischargeDepth := 4) only [go_sem, decide_true, decide_false, beq_self_eq_true, ↓reduceIte, Nat.reduceLT, Nat.reduceAdd, Nat.reduceMul, Nat.reduceSub, Nat.reduceEqDiff, Nat.reduceLeDiff, Nat.reduceBEq, reduceCtorEq, Nat.succ_ne_zero, Bool.not_true, Bool.not_false, Bool.true_eq_false, Bool.false_eq_true, Bool.true_beq, Bool.false_beq, Int.reduceLT, Int.reduceLE, Int.reduceEq, Int.reduceNe, ne_eq, not_false_eq_true, not_true_eq_false, List.getElem?_cons_zero, List.getElem?_cons_succ, List.length_cons, List.length_nil, List.all_cons, List.all_nil, Bool.and_true, Bool.and_self, Bool.true_and, Bool.false_and, Bool.and_false, Bool.or_true, Bool.or_false, Bool.true_or, Bool.false_or, Bool.or_self, List.elem_cons, List.elem_nil, Nat.add_zero, Nat.zero_add, or_self, or_false, false_or, true_or, or_true, and_true, true_and, and_false, false_and, and_self, List.mem_cons, List.not_mem_nil, Nat.reducePow, F.f0, F.f1, F.f5, F.f6, F.f7, h17, hz]
      refine ⟨_, _, rfl, ?_, S, hG⟩
      constructor <;> simp -implicitDefEqProofs (maxDischargeDepth := 4) only [go_sem, decide_true, decide_false, beq_self_eq_true, ↓reduceIte, Nat.reduceLT, Nat.reduceAdd, Nat.reduceMul, Nat.reduceSub, Nat.reduceEqDiff, Nat.reduceLeDiff, Nat.reduceBEq, reduceCtorEq, Nat.succ_ne_zero, Bool.not_true, Bool.not_false, Bool.true_eq_false, Bool.false_eq_true, Bool.true_beq, Bool.false_beq, Int.reduceLT, Int.reduceLE, Int.reduceEq, Int.reduceNe, ne_eq, not_false_eq_true, not_true_eq_false, List.getElem?_cons_zero, List.getElem?_cons_succ, List.length_cons, List.length_nil, List.all_cons, List.all_nil, Bool.and_true, Bool.and_self, Bool.true_and, Bool.false_and, Bool.and_false, Bool.or_true, Bool.or_false, Bool.true_or, Bool.false_or, Bool.or_self, List.elem_cons, List.elem_nil, Nat.add_zero, Nat.zero_add, or_self, or_false, false_or, true_or, or_true, and_true, true_and, and_false, false_and, and_self, List.mem_cons, List.not_mem_nil, Nat.reducePow, F.f0, F.f1, F.f5, F.f6, F.f7]
  | succ d ih =>
    intro k hk hk1 fr G hG S F h17
    rw [dl4_0, hG]
    by_cases hz : k ≤ z
    · have hk9 : k < 9 := by omega
      obtain ⟨L, h1⟩ := plays_alike S hn k
      have e5 : wrapK .i64 (k + 1) = k + 1 := wrapK_i64 (by omega) (by omega)
      simp -implicitDefEqProofs (maxDischargeDepth := 4) only [go_sem, decide_true, decide_false, beq_self_eq_true, ↓reduceIte, Nat.reduceLT, Nat.reduceAdd, Nat.reduceMul, Nat.reduceSub, Nat.reduceEqDiff, Nat.reduceLeDiff, Nat.reduceBEq, reduceCtorEq, Nat.succ_ne_zero, Bool.not_true, Bool.not_false, Bool.true_eq_false, Bool.false_eq_true, Bool.true_beq, Bool.false_beq, Int.reduceLT, Int.reduceLE, Int.reduceEq, Int.reduceNe, ne_eq, not_false_eq_true, not_true_eq_false, List.getElem?_cons_zero, List.getElem?_cons_succ, List.length_cons, List.length_nil, List.all_cons, List.all_nil, Bool.and_true, Bool.and_self, Bool.true_and, Bool.false_and, Bool.and_false, Bool.or_true, Bool.or_false, Bool.true_or, Bool.false_or, Bool.or_self, List.elem_cons, List.elem_nil, Nat.add_zero, Nat.zero_add, or_self, or_false, false_or, true_or, or_true, and_true, true_and, and_false, false_and, and_self, List.mem_cons, List.not_mem_nil, Nat.reducePow, F.f0, F.f1, F.f5, F.f6, F.f7, h17, hz, hk9, h1, e5]
      refine trim_P (P := fun o => ∃ fr' G', o = some (.exit 3, fr', G') ∧ PFr fr' a z i ∧ PSt G' n sl us es ∧ G'.length = m) h5 ha (X := some (k + 1)) ?_ S.grow (by rw [List.length_append]; omega) ?_ fun fr' G' hG' F' S' hx => ih (k + 1) (by omega) (by omega) fr' G' hG' S' F' (hx _ rfl)
      · constructor <;> simp -implicitDefEqProofs (maxDischargeDepth := 4) only [go_sem, decide_true, decide_false, beq_self_eq_true, ↓reduceIte, Nat.reduceLT, Nat.reduceAdd, Nat.reduceMul, Nat.reduceSub, Nat.reduceEqDiff, Nat.reduceLeDiff, Nat.reduceBEq, reduceCtorEq, Nat.succ_ne_zero, Bool.not_true, Bool.not_false, Bool.true_eq_false, Bool.false_eq_true, Bool.true_beq, Bool.false_beq, Int.reduceLT, Int.reduceLE, Int.reduceEq, Int.reduceNe, ne_eq, not_false_eq_true, not_true_eq_false, List.getElem?_cons_zero, List.getElem?_cons_succ, List.length_cons, List.length_nil, List.all_cons, List.all_nil, Bool.and_true, Bool.and_self, Bool.true_and, Bool.false_and, Bool.and_false, Bool.or_true, Bool.or_false, Bool.true_or, Bool.false_or, Bool.or_self, List.elem_cons, List.elem_nil, Nat.add_zero, Nat.zero_add, or_self, or_false, false_or, true_or, or_true, and_true, true_and, and_false, false_and, and_self, List.mem_cons, List.not_mem_nil, Nat.reducePow, F.f0, F.f1, F.f5, F.f6, F.f7]
      · intro x hx; cases hx; simp -implicitDefEqProofs (maxDischargeDepth := 4) only [go_sem, decide_true, decide_false, beq_self_eq_true, ↓reduceIte, Nat.reduceLT, Nat.reduceAdd, Nat.reduceMul, Nat.reduceSub, Nat.reduceEqDiff, Nat.reduceLeDiff, Nat.reduceBEq, reduceCtorEq, Nat.succ_ne_zero, Bool.not_true, Bool.not_false, Bool.true_eq_false, Bool.false_eq_true, Bool.true_beq, Bool.false_beq, Int.reduceLT, Int.reduceLE, Int.reduceEq, Int.reduceNe, ne_eq, not_false_eq_true, not_true_eq_false, List.getElem?_cons_zero, List.getElem?_cons_succ, List.length_cons, List.length_nil, List.all_cons, List.all_nil, Bool.and_true, Bool.and_self, Bool.true_and, Bool.false_and, Bool.and_false, Bool.or_true, Bool.or_false, Bool.true_or, Bool.false_or, Bool.or_self, List.elem_cons, List.elem_nil, Nat.add_zero, Nat.zero_add, or_self, or_false, false_or, true_or, or_true, and_true, true_and, and_false, false_and, and_self, List.mem_cons, List.not_mem_nil, Nat.reducePow]
    · simp -implicitDefEqProofs (maxDischargeDepth := 4) only [go_sem, decide_true, decide_false, beq_self_eq_true, ↓reduceIte, Nat.reduceLT, Nat.reduceAdd, Nat.reduceMul, Nat.reduceSub, Nat.reduceEqDiff, Nat.reduceLeDiff, Nat.reduceBEq, reduceCtorEq, Nat.succ_ne_zero, Bool.not_true, Bool.not_false, Bool.true_eq_false, Bool.false_eq_true, Bool.true_beq, Bool.false_beq, Int.reduceLT, Int.reduceLE, Int.reduceEq, Int.reduceNe, ne_eq, not_false_eq_true, not_true_eq_false, List.getElem?_cons_zero, List.getElem?_cons_succ, List.length_cons, List.length_nil, List.all_cons, List.all_nil, Bool.and_true, Bool.and_self, Bool.true_and, Bool.false_and, Bool.and_false, Bool.or_true, Bool.or_false, Bool.true_or, Bool.false_or, Bool.or_self, List.elem_cons, List.elem_nil, Nat.add_zero, Nat.zero_add, or_self, or_false, false_or, true_or, or_true, and_true, true_and, and_false, false_and, and_self, List.mem_cons, List.not_mem_nil, Nat.reducePow, F.f0, F.f1, F.f5, F.f6, F.f7, h17, hz]
      refine ⟨_, _, rfl, ?_, S, hG⟩
      constructor <;> simp -implicitDefEqProofs (maxDischargeDepth := 4) only [go_sem, decide_true, decide_false, beq_self_eq_true, ↓reduceIte, Nat.reduceLT, Nat.reduceAdd, Nat.reduceMul, Nat.reduceSub, Nat.reduceEqDiff, Nat.reduceLeDiff, Nat.reduceBEq, reduceCtorEq, Nat.succ_ne_zero, Bool.not_true, Bool.not_false, Bool.true_eq_false, Bool.false_eq_true, Bool.true_beq, Bool.false_beq, Int.reduceLT, Int.reduceLE, Int.reduceEq, Int.reduceNe, ne_eq, not_false_eq_true, not_true_eq_false, List.getElem?_cons_zero, List.getElem?_cons_succ, List.length_cons, List.length_nil, List.all_cons, List.all_nil, Bool.and_true, Bool.and_self, Bool.true_and, Bool.false_and, Bool.and_false, Bool.or_true, Bool.or_false, Bool.true_or, Bool.false_or, Bool.or_self, List.elem_cons, List.elem_nil, Nat.add_zero, Nat.zero_add, or_self, or_false, false_or, true_or, or_true, and_true, true_and, and_false, false_and, and_self, List.mem_cons, List.not_mem_nil, Nat.reducePow, F.f0, F.f1, F.f5, F.f6, F.f7]
end
end Go.Abs.Tab

/- ActorsPlays: Set. -/
set_option linter.unusedVariables false
namespace Go.Abs.Tab

/-- the frame that is set -/
def setC (s N : Int) (wv : AV) (x : Int) : List AV := [iv s, iv N, wv, iv 0, iv 0, iv 0, iv 0, iv 0, iv 0, iv 0, iv 0, iv 0, iv 0, iv 0, iv 0, iv 0, iv 0, iv 0, iv x]
theorem setC_ok {s N x : Int} {wv : AV} {ws : List Int} (hw : Sl 1 wv (ws.map iv)) : FrOk (setC s N wv x) wv ws := by
  refine ⟨rfl, rfl, hw, fun j y hj h => ?_⟩
  unfold setC at h
  match j, hj with
  | 0, _ => cases h; exact ⟨_, rfl⟩
  | 1, _ => cases h; exact ⟨_, rfl⟩
  | 2, hj => exact absurd rfl hj
  | j + 3, _ =>
    have hm : y ∈ List.replicate 15 (iv 0) ++ [iv x] := List.mem_of_getElem? (i := j) h
    rcases List.mem_append.1 hm with hm | hm
    · exact ⟨_, List.eq_of_mem_replicate hm⟩
    · exact ⟨x, by simpa using hm⟩
theorem build44s {s N : Int} {wv : AV} {ws : List Int} (hw : Sl 1 wv (ws.map iv)) : abuild cx.T 44 [(0, .lit (.int .i64 s)), (1, .lit (.int .i64 N)), (2, wv)] = some (.agg (setC s N wv 0)) := by
  rcases hw with rfl | rfl | ⟨rfl, _⟩ <;> kernel_rfl
theorem build45s {s N : Int} {wv : AV} {ws : List Int} (hw : Sl 1 wv (ws.map iv)) : abuild cx.T 45 [(0, .lit (.int .i64 s)), (1, .lit (.int .i64 N)), (2, wv)] = some (.agg (setC s N wv 0)) := by
  rcases hw with rfl | rfl | ⟨rfl, _⟩ <;> kernel_rfl

section
variable {a : AV} {z : Int} {i : Nat} {G : Hp} {els : List AV}
theorem play_set {n m : Nat} {sl es : List (List AV)} {us : List Bool} (S : PSt G n sl us es) (hn : n ≤ 32) {w s N : Int} {wv wv' : AV} {ws : List Int} (h5 : 5 ≤ m) (hm : G[m]? = some (.cells 4 41 [.agg (actC w s N wv)])) (hw : Sl 1 wv' (ws.map iv)) {fr : PT} (F : QFr fr a z i m wv' s) :
    ∃ fr' G' sl' us' es', ex cx D 0 4 160 (.seq (.region 20 g4_17 false) (.seq (.region 21 g4_18 false) (.seq (.seq (.region 22 g4_19 false) (.cond (.tmp 112) (.seq (.region 23 g4_20 false) (.region 24 g4_21 false)) .skip)) (.seq (.region 25 g4_22 true) (.cond (.tmp 131) (.seq (.region 26 g4_23 false) .ret) .skip))))) fr G = some (.normal, fr', G') ∧ PFr fr' a z i ∧ fr'.get 10 = iv s ∧ PSt G' n sl' us' es' := by
  obtain ⟨q, hq⟩ : ∃ q, G.length = q := ⟨_, rfl⟩
  have hmq : m < q := by rw [← hq]; exact lt_of_get hm
  have d1 : ∀ j, 0 ≤ q + j := fun j => Nat.zero_le _
  have g1 : ∀ L : Hp, (G ++ L)[m]? = some (.cells 4 41 [.agg (actC w s N wv)]) := fun L => by rw [hp_get_l (by omega), hm]
  unfold actC at g1 hm
  have b1 := build44s (s := s) (N := N) hw
  have b2 := build45s (s := s) (N := N) hw
  have fin : ∀ x : Int, ∃ e H1 H2 sl' us' es', callB cx D 0 41 [.ptr 1 0 0, iv s, .agg (setC s N wv' x)] (G ++ [.cells 19 44 [.agg (setC s N wv' x)], .cells 19 45 [.agg (setC s N wv' x)]]) = some (iv e, H1) ∧ callB cx D 0 42 [.ptr 4 0 0, iv s, .agg (setC s N wv' x)] H1 = some (iv e, H2) ∧ PSt H2 n sl' us' es' ∧ H1[q + 1]? = some (.cells 19 45 [.agg (setC s N wv' x)]) ∧ H1[q + 1]? = (G ++ [ABlock.cells 19 44 [.agg (setC s N wv' x)], .cells 19 45 [.agg (setC s N wv' x)]])[q + 1]? := fun x => by
    obtain ⟨e, H1, H2, sl', us', es', h1, h2, S', kp⟩ := plays_set (S.grow (L := [ABlock.cells 19 44 [.agg (setC s N wv' x)], .cells 19 45 [.agg (setC s N wv' x)]])) hn s (setC_ok (s := s) (N := N) (x := x) hw)
    have k1 := kp (q + 1) (by omega) (by rw [List.length_append, hq]; simp)
    exact ⟨e, H1, H2, sl', us', es', h1, h2, S', by rw [k1, hp_get_r hq]; rfl, k1⟩
  by_cases hl : 0 < ws.length
  · obtain ⟨x, ws', rfl⟩ : ∃ x ws', ws = x :: ws' := by
      cases ws with
      | nil => simp at hl
      | cons x l => exact ⟨x, l, rfl⟩
    have e1 : (0 : Int) < ((ws'.length + 1 : Nat) : Int) := by omega
    have e2 : aindexAddr cx.T 39 wv' (.lit (.int .i64 0)) = some (.vp (iv x) 0) := aindexAddr_sl hw sl39 (n := 0) (m := 0) (by simp) rfl
    have e3 : aindexAddr cx.T 42 (.ptr q 0 3) (.lit (.int .i64 15)) = some (.ptr q 0 18) := by
      have := aindexAddr_arr (n := 15) (k := .i64) ar42 (.ptr q 0 3); simpa using this
    have e4 : aindexAddr cx.T 42 (.ptr (q + 1) 0 3) (.lit (.int .i64 15)) = some (.ptr (q + 1) 0 18) := by
      have := aindexAddr_arr (n := 15) (k := .i64) ar42 (.ptr (q + 1) 0 3); simpa using this
    obtain ⟨e, H1, H2, sl', us', es', h1, h2, S', k1, k2⟩ := fin x
    unfold setC at b1 b2 h1 h2 k1 k2
    simp -implicitDefEqProofs (maxDischargeDepth := 4) only [go_sem, decide_true, decide_false, beq_self_eq_true, ↓reduceIte, Nat.reduceLT, Nat.reduceAdd, Nat.reduceMul, Nat.reduceSub, Nat.reduceEqDiff, Nat.reduceLeDiff, Nat.reduceBEq, reduceCtorEq, Nat.succ_ne_zero, Bool.not_true, Bool.not_false, Bool.true_eq_false, Bool.false_eq_true, Bool.true_beq, Bool.false_beq, Int.reduceLT, Int.reduceLE, Int.reduceEq, Int.reduceNe, ne_eq, not_false_eq_true, not_true_eq_false, List.getElem?_cons_zero, List.getElem?_cons_succ, List.length_cons, List.length_nil, List.all_cons, List.all_nil, Bool.and_true, Bool.and_self, Bool.true_and, Bool.false_and, Bool.and_false, Bool.or_true, Bool.or_false, Bool.true_or, Bool.false_or, Bool.or_self, List.elem_cons, List.elem_nil, Nat.add_zero, Nat.zero_add, or_self, or_false, false_or, true_or, or_true, and_true, true_and, and_false, false_and, and_self, List.mem_cons, List.not_mem_nil, Nat.reducePow, elAt_eq, stV_eq, cellsB_cells, hp_get_r, hp_get_r0, hp_get_l, hp_set_r, hp_set_r0, hp_set_l, hp_one, hp_ne, List.drop_succ_cons, List.drop_zero, List.take_succ_cons, List.take_zero, F.f0, F.f1, F.f5, F.f6, F.f7, F.f8, F.f9, F.f10, hq, Nat.zero_le, Nat.not_lt_zero, g1, hm, b1, b2, hw.shr, hw.drp, hw.notOwn, alen_sl hw, List.length_map, e1, e2, e3, e4, h1, h2, k1]
    refine ⟨_, _, sl', us', es', rfl, ?_, ?_, S'⟩
    · constructor <;> simp -implicitDefEqProofs (maxDischargeDepth := 4) only [go_sem, decide_true, decide_false, beq_self_eq_true, ↓reduceIte, Nat.reduceLT, Nat.reduceAdd, Nat.reduceMul, Nat.reduceSub, Nat.reduceEqDiff, Nat.reduceLeDiff, Nat.reduceBEq, reduceCtorEq, Nat.succ_ne_zero, Bool.not_true, Bool.not_false, Bool.true_eq_false, Bool.false_eq_true, Bool.true_beq, Bool.false_beq, Int.reduceLT, Int.reduceLE, Int.reduceEq, Int.reduceNe, ne_eq, not_false_eq_true, not_true_eq_false, List.getElem?_cons_zero, List.getElem?_cons_succ, List.length_cons, List.length_nil, List.all_cons, List.all_nil, Bool.and_true, Bool.and_self, Bool.true_and, Bool.false_and, Bool.and_false, Bool.or_true, Bool.or_false, Bool.true_or, Bool.false_or, Bool.or_self, List.elem_cons, List.elem_nil, Nat.add_zero, Nat.zero_add, or_self, or_false, false_or, true_or, or_true, and_true, true_and, and_false, false_and, and_self, List.mem_cons, List.not_mem_nil, Nat.reducePow, F.f0, F.f1, F.f5, F.f6, F.f7]
    · simp -implicitDefEqProofs (maxDischargeDepth := 4) only [go_sem, decide_true, decide_false, beq_self_eq_true, ↓reduceIte, Nat.reduceLT, Nat.reduceAdd, Nat.reduceMul, Nat.reduceSub, Nat.reduceEqDiff, Nat.reduceLeDiff, Nat.reduceBEq, reduceCtorEq, Nat.succ_ne_zero, Bool.not_true, Bool.not_false, Bool.true_eq_false, Bool.false_eq_true, Bool.true_beq, Bool.false_beq, Int.reduceLT, Int.reduceLE, Int.reduceEq, Int.reduceNe, ne_eq, not_false_eq_true, not_true_eq_false, List.getElem?_cons_zero, List.getElem?_cons_succ, List.length_cons, List.length_nil, List.all_cons, List.all_nil, Bool.and_true, Bool.and_self, Bool.true_and, Bool.false_and, Bool.and_false, Bool.or_true, Bool.or_false, Bool.true_or, Bool.false_or, Bool.or_self, List.elem_cons, List.elem_nil, Nat.add_zero, Nat.zero_add, or_self, or_false, false_or, true_or, or_true, and_true, true_and, and_false, false_and, and_self, List.mem_cons, List.not_mem_nil, Nat.reducePow, F.f10]
  · have e1 : ¬ (0 : Int) < ((ws.length : Nat) : Int) := by omega
    obtain ⟨e, H1, H2, sl', us', es', h1, h2, S', k1, k2⟩ := fin 0
    unfold setC at b1 b2 h1 h2 k1 k2
    simp -implicitDefEqProofs (maxDischargeDepth := 4) only [go_sem, decide_true, decide_false, beq_self_eq_true, ↓reduceIte, Nat.reduceLT, Nat.reduceAdd, Nat.reduceMul, Nat.reduceSub, Nat.reduceEqDiff, Nat.reduceLeDiff, Nat.reduceBEq, reduceCtorEq, Nat.succ_ne_zero, Bool.not_true, Bool.not_false, Bool.true_eq_false, Bool.false_eq_true, Bool.true_beq, Bool.false_beq, Int.reduceLT, Int.reduceLE, Int.reduceEq, Int.reduceNe, ne_eq, not_false_eq_true, not_true_eq_false, List.getElem?_cons_zero, List.getElem?_cons_succ, List.length_cons, List.length_nil, List.all_cons, List.all_nil, Bool.and_true, Bool.and_self, Bool.true_and, Bool.false_and, Bool.and_false, Bool.or_true, Bool.or_false, Bool.true_or, Bool.false_or, Bool.or_self, List.elem_cons, List.elem_nil, Nat.add_zero, Nat.zero_add, or_self, or_false, false_or, true_or, or_true, and_true, true_and, and_false, false_and, and_self, List.mem_cons, List.not_mem_nil, Nat.reducePow, elAt_eq, stV_eq, cellsB_cells, hp_get_r, hp_get_r0, hp_get_l, hp_set_r, hp_set_r0, hp_set_l, hp_one, hp_ne, List.drop_succ_cons, List.drop_zero, List.take_succ_cons, List.take_zero, F.f0, F.f1, F.f5, F.f6, F.f7, F.f8, F.f9, F.f10, hq, Nat.zero_le, Nat.not_lt_zero, g1, hm, b1, b2, hw.shr, hw.drp, hw.notOwn, alen_sl hw, List.length_map, e1, h1, h2, k1]
    refine ⟨_, _, sl', us', es', rfl, ?_, ?_, S'⟩
    · constructor <;> simp -implicitDefEqProofs (maxDischargeDepth := 4) only [go_sem, decide_true, decide_false, beq_self_eq_true, ↓reduceIte, Nat.reduceLT, Nat.reduceAdd, Nat.reduceMul, Nat.reduceSub, Nat.reduceEqDiff, Nat.reduceLeDiff, Nat.reduceBEq, reduceCtorEq, Nat.succ_ne_zero, Bool.not_true, Bool.not_false, Bool.true_eq_false, Bool.false_eq_true, Bool.true_beq, Bool.false_beq, Int.reduceLT, Int.reduceLE, Int.reduceEq, Int.reduceNe, ne_eq, not_false_eq_true, not_true_eq_false, List.getElem?_cons_zero, List.getElem?_cons_succ, List.length_cons, List.length_nil, List.all_cons, List.all_nil, Bool.and_true, Bool.and_self, Bool.true_and, Bool.false_and, Bool.and_false, Bool.or_true, Bool.or_false, Bool.true_or, Bool.false_or, Bool.or_self, List.elem_cons, List.elem_nil, Nat.add_zero, Nat.zero_add, or_self, or_false, false_or, true_or, or_true, and_true, true_and, and_false, false_and, and_self, List.mem_cons, List.not_mem_nil, Nat.reducePow, F.f0, F.f1, F.f5, F.f6, F.f7]
    · simp -implicitDefEqProofs (maxDischargeDepth := 4) only [go_sem, decide_true, decide_false, beq_self_eq_true, ↓reduceIte, Nat.reduceLT, Nat.reduceAdd, Nat.reduceMul, Nat.reduceSub, Nat.reduceEqDiff, Nat.reduceLeDiff, Nat.reduceBEq, reduceCtorEq, Nat.succ_ne_zero, Bool.not_true, Bool.not_false, Bool.true_eq_false, Bool.false_eq_true, Bool.true_beq, Bool.false_beq, Int.reduceLT, Int.reduceLE, Int.reduceEq, Int.reduceNe, ne_eq, not_false_eq_true, not_true_eq_false, List.getElem?_cons_zero, List.getElem?_cons_succ, List.length_cons, List.length_nil, List.all_cons, List.all_nil, Bool.and_true, Bool.and_self, Bool.true_and, Bool.false_and, Bool.and_false, Bool.or_true, Bool.or_false, Bool.true_or, Bool.false_or, Bool.or_self, List.elem_cons, List.elem_nil, Nat.add_zero, Nat.zero_add, or_self, or_false, false_or, true_or, or_true, and_true, true_and, and_false, false_and, and_self, List.mem_cons, List.not_mem_nil, Nat.reducePow, F.f10]
end
end Go.Abs.Tab

/- ActorsPlays: a round. -/
set_option linter.unusedVariables false
namespace Go.Abs.Tab
section
variable {a : AV} {z : Int} {i : Nat} {G : Hp} {els : List AV}
theorem QFr.same {m : Nat} {wv : AV} {s : Int} {fr : PT} (F : QFr fr a z i m wv s) {fr' : PT} (h : ∀ t, (t = 0 ∨ t = 1 ∨ t = 5 ∨ t = 6 ∨ t = 7 ∨ t = 8 ∨ t = 9 ∨ t = 10) → fr'.get t = fr.get t) : QFr fr' a z i m wv s :=
  ⟨⟨by rw [h 0 (by simp), F.f0], by rw [h 1 (by simp), F.f1], by rw [h 5 (by simp), F.f5], by rw [h 6 (by simp), F.f6], by rw [h 7 (by simp), F.f7]⟩, by rw [h 8 (by simp), F.f8], by rw [h 9 (by simp), F.f9], by rw [h 10 (by simp), F.f10]⟩

theorem play_sw {n m : Nat} {sl es : List (List AV)} {us : List Bool} (S : PSt G n sl us es) (hn : n ≤ 32) {w s N : Int} {wv wv' : AV} {ws : List Int} (h5 : 5 ≤ m) (hm : G[m]? = some (.cells 4 41 [.agg (actC w s N wv)])) (hw : Sl 1 wv' (ws.map iv)) {fr : PT} (F : QFr fr a z i m wv' s) :
    ∃ fr' G' sl' us' es', ex cx D 0 4 160 (.seq (.region 10 g4_9 false) (.block 2 (.seq (.seq (.region 13 g4_10 false) (.cond (.tmp 71) .skip (.region 14 g4_11 false))) (.cond (.tmp 71) (.seq (.region 15 g4_12 false) (.seq (.region 16 g4_13 false) (.seq (.region 17 g4_14 false) (.cond (.tmp 97) (.seq (.region 18 g4_15 false) .ret) .skip)))) (.seq (.region 19 g4_16 false) (.cond (.tmp 98) (.seq (.region 20 g4_17 false) (.seq (.region 21 g4_18 false) (.seq (.seq (.region 22 g4_19 false) (.cond (.tmp 112) (.seq (.region 23 g4_20 false) (.region 24 g4_21 false)) .skip)) (.seq (.region 25 g4_22 true) (.cond (.tmp 131) (.seq (.region 26 g4_23 false) .ret) .skip))))) (.seq (.region 11 g4_24 false) (.cond (.tmp 70) (.seq (.region 12 g4_25 false) .ret) .skip)))))))) fr G = some (.normal, fr', G') ∧ PFr fr' a z i ∧ fr'.get 10 = iv s ∧ PSt G' n sl' us' es' := by
  obtain ⟨v, hv⟩ : ∃ v, abin cx.T .and 38 (.lit (.int .i8 w)) (.lit (.int .i8 3)) = some (.lit (.int .i8 v)) := ⟨_, rfl⟩
  have e1 : elAt G m 0 = some (.agg (actC w s N wv)) := by rw [elAt_of hm]; rfl
  unfold actC at e1
  obtain ⟨fr1, h1, F1, f63⟩ : ∃ fr1, ex cx D 0 4 160 (.region 10 g4_9 false) fr G = some (.normal, fr1, G) ∧ QFr fr1 a z i m wv' s ∧ fr1.get 63 = .lit (.int .i8 v) := by
    simp -implicitDefEqProofs (maxDischargeDepth := 4) only [go_sem, decide_true, decide_false, beq_self_eq_true, ↓reduceIte, Nat.reduceLT, Nat.reduceAdd, Nat.reduceMul, Nat.reduceSub, Nat.reduceEqDiff, Nat.reduceLeDiff, Nat.reduceBEq, reduceCtorEq, Nat.succ_ne_zero, Bool.not_true, Bool.not_false, Bool.true_eq_false, Bool.false_eq_true, Bool.true_beq, Bool.false_beq, Int.reduceLT, Int.reduceLE, Int.reduceEq, Int.reduceNe, ne_eq, not_false_eq_true, not_true_eq_false, List.getElem?_cons_zero, List.getElem?_cons_succ, List.length_cons, List.length_nil, List.all_cons, List.all_nil, Bool.and_true, Bool.and_self, Bool.true_and, Bool.false_and, Bool.and_false, Bool.or_true, Bool.or_false, Bool.true_or, Bool.false_or, Bool.or_self, List.elem_cons, List.elem_nil, Nat.add_zero, Nat.zero_add, or_self, or_false, false_or, true_or, or_true, and_true, true_and, and_false, false_and, and_self, List.mem_cons, List.not_mem_nil, Nat.reducePow, F.f8, e1, hv]
    refine ⟨_, rfl, ?_, ?_⟩
    · refine F.same fun t ht => ?_
      rcases ht with rfl | rfl | rfl | rfl | rfl | rfl | rfl | rfl <;> simp -implicitDefEqProofs (maxDischargeDepth := 4) only [go_sem, decide_true, decide_false, beq_self_eq_true, ↓reduceIte, Nat.reduceLT, Nat.reduceAdd, Nat.reduceMul, Nat.reduceSub, Nat.reduceEqDiff, Nat.reduceLeDiff, Nat.reduceBEq, reduceCtorEq, Nat.succ_ne_zero, Bool.not_true, Bool.not_false, Bool.true_eq_false, Bool.false_eq_true, Bool.true_beq, Bool.false_beq, Int.reduceLT, Int.reduceLE, Int.reduceEq, Int.reduceNe, ne_eq, not_false_eq_true, not_true_eq_false, List.getElem?_cons_zero, List.getElem?_cons_succ, List.length_cons, List.length_nil, List.all_cons, List.all_nil, Bool.and_true, Bool.and_self, Bool.true_and, Bool.false_and, Bool.and_false, Bool.or_true, Bool.or_false, Bool.true_or, Bool.false_or, Bool.or_self, List.elem_cons, List.elem_nil, Nat.add_zero, Nat.zero_add, or_self, or_false, false_or, true_or, or_true, and_true, true_and, and_false, false_and, and_self, List.mem_cons, List.not_mem_nil, Nat.reducePow]
    · simp -implicitDefEqProofs (maxDischargeDepth := 4) only [go_sem, decide_true, decide_false, beq_self_eq_true, ↓reduceIte, Nat.reduceLT, Nat.reduceAdd, Nat.reduceMul, Nat.reduceSub, Nat.reduceEqDiff, Nat.reduceLeDiff, Nat.reduceBEq, reduceCtorEq, Nat.succ_ne_zero, Bool.not_true, Bool.not_false, Bool.true_eq_false, Bool.false_eq_true, Bool.true_beq, Bool.false_beq, Int.reduceLT, Int.reduceLE, Int.reduceEq, Int.reduceNe, ne_eq, not_false_eq_true, not_true_eq_false, List.getElem?_cons_zero, List.getElem?_cons_succ, List.length_cons, List.length_nil, List.all_cons, List.all_nil, Bool.and_true, Bool.and_self, Bool.true_and, Bool.false_and, Bool.and_false, Bool.or_true, Bool.or_false, Bool.true_or, Bool.false_or, Bool.or_self, List.elem_cons, List.elem_nil, Nat.add_zero, Nat.zero_add, or_self, or_false, false_or, true_or, or_true, and_true, true_and, and_false, false_and, and_self, List.mem_cons, List.not_mem_nil, Nat.reducePow]
  obtain ⟨fr2, h2, F2, f63', f71⟩ : ∃ fr2, ex cx D 0 4 160 (.seq (.region 13 g4_10 false) (.cond (.tmp 71) .skip (.region 14 g4_11 false))) fr1 G = some (.normal, fr2, G) ∧ QFr fr2 a z i m wv' s ∧ fr2.get 63 = .lit (.int .i8 v) ∧ fr2.get 71 = bv (decide (v = 0) || decide (v = 1)) := by
    by_cases h0 : v = 0
    · simp -implicitDefEqProofs (maxDischargeDepth := 4) only [go_sem, decide_true, decide_false, beq_self_eq_true, ↓reduceIte, Nat.reduceLT, Nat.reduceAdd, Nat.reduceMul, Nat.reduceSub, Nat.reduceEqDiff, Nat.reduceLeDiff, Nat.reduceBEq, reduceCtorEq, Nat.succ_ne_zero, Bool.not_true, Bool.not_false, Bool.true_eq_false, Bool.false_eq_true, Bool.true_beq, Bool.false_beq, Int.reduceLT, Int.reduceLE, Int.reduceEq, Int.reduceNe, ne_eq, not_false_eq_true, not_true_eq_false, List.getElem?_cons_zero, List.getElem?_cons_succ, List.length_cons, List.length_nil, List.all_cons, List.all_nil, Bool.and_true, Bool.and_self, Bool.true_and, Bool.false_and, Bool.and_false, Bool.or_true, Bool.or_false, Bool.true_or, Bool.false_or, Bool.or_self, List.elem_cons, List.elem_nil, Nat.add_zero, Nat.zero_add, or_self, or_false, false_or, true_or, or_true, and_true, true_and, and_false, false_and, and_self, List.mem_cons, List.not_mem_nil, Nat.reducePow, f63, h0]
      refine ⟨_, rfl, ?_, ?_, ?_⟩
      · refine F1.same fun t ht => ?_
        rcases ht with rfl | rfl | rfl | rfl | rfl | rfl | rfl | rfl <;> simp -implicitDefEqProofs (maxDischargeDepth := 4) only [go_sem, decide_true, decide_false, beq_self_eq_true, ↓reduceIte, Nat.reduceLT, Nat.reduceAdd, Nat.reduceMul, Nat.reduceSub, Nat.reduceEqDiff, Nat.reduceLeDiff, Nat.reduceBEq, reduceCtorEq, Nat.succ_ne_zero, Bool.not_true, Bool.not_false, Bool.true_eq_false, Bool.false_eq_true, Bool.true_beq, Bool.false_beq, Int.reduceLT, Int.reduceLE, Int.reduceEq, Int.reduceNe, ne_eq, not_false_eq_true, not_true_eq_false, List.getElem?_cons_zero, List.getElem?_cons_succ, List.length_cons, List.length_nil, List.all_cons, List.all_nil, Bool.and_true, Bool.and_self, Bool.true_and, Bool.false_and, Bool.and_false, Bool.or_true, Bool.or_false, Bool.true_or, Bool.false_or, Bool.or_self, List.elem_cons, List.elem_nil, Nat.add_zero, Nat.zero_add, or_self, or_false, false_or, true_or, or_true, and_true, true_and, and_false, false_and, and_self, List.mem_cons, List.not_mem_nil, Nat.reducePow]
      · simp -implicitDefEqProofs (maxDischargeDepth := 4) only [go_sem, decide_true, decide_false, beq_self_eq_true, ↓reduceIte, Nat.reduceLT, Nat.reduceAdd, Nat.reduceMul, Nat.reduceSub, Nat.reduceEqDiff, Nat.reduceLeDiff, Nat.reduceBEq, reduceCtorEq, Nat.succ_ne_zero, Bool.not_true, Bool.not_false, Bool.true_eq_false, Bool.false_eq_true, Bool.true_beq, Bool.false_beq, Int.reduceLT, Int.reduceLE, Int.reduceEq, Int.reduceNe, ne_eq, not_false_eq_true, not_true_eq_false, List.getElem?_cons_zero, List.getElem?_cons_succ, List.length_cons, List.length_nil, List.all_cons, List.all_nil, Bool.and_true, Bool.and_self, Bool.true_and, Bool.false_and, Bool.and_false, Bool.or_true, Bool.or_false, Bool.true_or, Bool.false_or, Bool.or_self, List.elem_cons, List.elem_nil, Nat.add_zero, Nat.zero_add, or_self, or_false, false_or, true_or, or_true, and_true, true_and, and_false, false_and, and_self, List.mem_cons, List.not_mem_nil, Nat.reducePow, f63, h0]
      · simp -implicitDefEqProofs (maxDischargeDepth := 4) only [go_sem, decide_true, decide_false, beq_self_eq_true, ↓reduceIte, Nat.reduceLT, Nat.reduceAdd, Nat.reduceMul, Nat.reduceSub, Nat.reduceEqDiff, Nat.reduceLeDiff, Nat.reduceBEq, reduceCtorEq, Nat.succ_ne_zero, Bool.not_true, Bool.not_false, Bool.true_eq_false, Bool.false_eq_true, Bool.true_beq, Bool.false_beq, Int.reduceLT, Int.reduceLE, Int.reduceEq, Int.reduceNe, ne_eq, not_false_eq_true, not_true_eq_false, List.getElem?_cons_zero, List.getElem?_cons_succ, List.length_cons, List.length_nil, List.all_cons, List.all_nil, Bool.and_true, Bool.and_self, Bool.true_and, Bool.false_and, Bool.and_false, Bool.or_true, Bool.or_false, Bool.true_or, Bool.false_or, Bool.or_self, List.elem_cons, List.elem_nil, Nat.add_zero, Nat.zero_add, or_self, or_false, false_or, true_or, or_true, and_true, true_and, and_false, false_and, and_self, List.mem_cons, List.not_mem_nil, Nat.reducePow, Bool.true_or]
    · simp -implicitDefEqProofs (maxDischargeDepth := 4) only [go_sem, decide_true, decide_false, beq_self_eq_true, ↓reduceIte, Nat.reduceLT, Nat.reduceAdd, Nat.reduceMul, Nat.reduceSub, Nat.reduceEqDiff, Nat.reduceLeDiff, Nat.reduceBEq, reduceCtorEq, Nat.succ_ne_zero, Bool.not_true, Bool.not_false, Bool.true_eq_false, Bool.false_eq_true, Bool.true_beq, Bool.false_beq, Int.reduceLT, Int.reduceLE, Int.reduceEq, Int.reduceNe, ne_eq, not_false_eq_true, not_true_eq_false, List.getElem?_cons_zero, List.getElem?_cons_succ, List.length_cons, List.length_nil, List.all_cons, List.all_nil, Bool.and_true, Bool.and_self, Bool.true_and, Bool.false_and, Bool.and_false, Bool.or_true, Bool.or_false, Bool.true_or, Bool.false_or, Bool.or_self, List.elem_cons, List.elem_nil, Nat.add_zero, Nat.zero_add, or_self, or_false, false_or, true_or, or_true, and_true, true_and, and_false, false_and, and_self, List.mem_cons, List.not_mem_nil, Nat.reducePow, f63, h0]
      refine ⟨_, rfl, ?_, ?_, ?_⟩
      · refine F1.same fun t ht => ?_
        rcases ht with rfl | rfl | rfl | rfl | rfl | rfl | rfl | rfl <;> simp -implicitDefEqProofs (maxDischargeDepth := 4) only [go_sem, decide_true, decide_false, beq_self_eq_true, ↓reduceIte, Nat.reduceLT, Nat.reduceAdd, Nat.reduceMul, Nat.reduceSub, Nat.reduceEqDiff, Nat.reduceLeDiff, Nat.reduceBEq, reduceCtorEq, Nat.succ_ne_zero, Bool.not_true, Bool.not_false, Bool.true_eq_false, Bool.false_eq_true, Bool.true_beq, Bool.false_beq, Int.reduceLT, Int.reduceLE, Int.reduceEq, Int.reduceNe, ne_eq, not_false_eq_true, not_true_eq_false, List.getElem?_cons_zero, List.getElem?_cons_succ, List.length_cons, List.length_nil, List.all_cons, List.all_nil, Bool.and_true, Bool.and_self, Bool.true_and, Bool.false_and, Bool.and_false, Bool.or_true, Bool.or_false, Bool.true_or, Bool.false_or, Bool.or_self, List.elem_cons, List.elem_nil, Nat.add_zero, Nat.zero_add, or_self, or_false, false_or, true_or, or_true, and_true, true_and, and_false, false_and, and_self, List.mem_cons, List.not_mem_nil, Nat.reducePow]
      · simp -implicitDefEqProofs (maxDischargeDepth := 4) only [go_sem, decide_true, decide_false, beq_self_eq_true, ↓reduceIte, Nat.reduceLT, Nat.reduceAdd, Nat.reduceMul, Nat.reduceSub, Nat.reduceEqDiff, Nat.reduceLeDiff, Nat.reduceBEq, reduceCtorEq, Nat.succ_ne_zero, Bool.not_true, Bool.not_false, Bool.true_eq_false, Bool.false_eq_true, Bool.true_beq, Bool.false_beq, Int.reduceLT, Int.reduceLE, Int.reduceEq, Int.reduceNe, ne_eq, not_false_eq_true, not_true_eq_false, List.getElem?_cons_zero, List.getElem?_cons_succ, List.length_cons, List.length_nil, List.all_cons, List.all_nil, Bool.and_true, Bool.and_self, Bool.true_and, Bool.false_and, Bool.and_false, Bool.or_true, Bool.or_false, Bool.true_or, Bool.false_or, Bool.or_self, List.elem_cons, List.elem_nil, Nat.add_zero, Nat.zero_add, or_self, or_false, false_or, true_or, or_true, and_true, true_and, and_false, false_and, and_self, List.mem_cons, List.not_mem_nil, Nat.reducePow, f63]
      · simp -implicitDefEqProofs (maxDischargeDepth := 4) only [go_sem, decide_true, decide_false, beq_self_eq_true, ↓reduceIte, Nat.reduceLT, Nat.reduceAdd, Nat.reduceMul, Nat.reduceSub, Nat.reduceEqDiff, Nat.reduceLeDiff, Nat.reduceBEq, reduceCtorEq, Nat.succ_ne_zero, Bool.not_true, Bool.not_false, Bool.true_eq_false, Bool.false_eq_true, Bool.true_beq, Bool.false_beq, Int.reduceLT, Int.reduceLE, Int.reduceEq, Int.reduceNe, ne_eq, not_false_eq_true, not_true_eq_false, List.getElem?_cons_zero, List.getElem?_cons_succ, List.length_cons, List.length_nil, List.all_cons, List.all_nil, Bool.and_true, Bool.and_self, Bool.true_and, Bool.false_and, Bool.and_false, Bool.or_true, Bool.or_false, Bool.true_or, Bool.false_or, Bool.or_self, List.elem_cons, List.elem_nil, Nat.add_zero, Nat.zero_add, or_self, or_false, false_or, true_or, or_true, and_true, true_and, and_false, false_and, and_self, List.mem_cons, List.not_mem_nil, Nat.reducePow, Bool.false_or]
  obtain ⟨fr3, h3, F3, f98⟩ : ∃ fr3, ex cx D 0 4 160 (.region 19 g4_16 false) fr2 G = some (.normal, fr3, G) ∧ QFr fr3 a z i m wv' s ∧ fr3.get 98 = bv (decide (v = 2)) := by
    simp -implicitDefEqProofs (maxDischargeDepth := 4) only [go_sem, decide_true, decide_false, beq_self_eq_true, ↓reduceIte, Nat.reduceLT, Nat.reduceAdd, Nat.reduceMul, Nat.reduceSub, Nat.reduceEqDiff, Nat.reduceLeDiff, Nat.reduceBEq, reduceCtorEq, Nat.succ_ne_zero, Bool.not_true, Bool.not_false, Bool.true_eq_false, Bool.false_eq_true, Bool.true_beq, Bool.false_beq, Int.reduceLT, Int.reduceLE, Int.reduceEq, Int.reduceNe, ne_eq, not_false_eq_true, not_true_eq_false, List.getElem?_cons_zero, List.getElem?_cons_succ, List.length_cons, List.length_nil, List.all_cons, List.all_nil, Bool.and_true, Bool.and_self, Bool.true_and, Bool.false_and, Bool.and_false, Bool.or_true, Bool.or_false, Bool.true_or, Bool.false_or, Bool.or_self, List.elem_cons, List.elem_nil, Nat.add_zero, Nat.zero_add, or_self, or_false, false_or, true_or, or_true, and_true, true_and, and_false, false_and, and_self, List.mem_cons, List.not_mem_nil, Nat.reducePow, f63']
    refine ⟨_, rfl, ?_, ?_⟩
    · refine F2.same fun t ht => ?_
      rcases ht with rfl | rfl | rfl | rfl | rfl | rfl | rfl | rfl <;> simp -implicitDefEqProofs (maxDischargeDepth := 4) only [go_sem, decide_true, decide_false, beq_self_eq_true, ↓reduceIte, Nat.reduceLT, Nat.reduceAdd, Nat.reduceMul, Nat.reduceSub, Nat.reduceEqDiff, Nat.reduceLeDiff, Nat.reduceBEq, reduceCtorEq, Nat.succ_ne_zero, Bool.not_true, Bool.not_false, Bool.true_eq_false, Bool.false_eq_true, Bool.true_beq, Bool.false_beq, Int.reduceLT, Int.reduceLE, Int.reduceEq, Int.reduceNe, ne_eq, not_false_eq_true, not_true_eq_false, List.getElem?_cons_zero, List.getElem?_cons_succ, List.length_cons, List.length_nil, List.all_cons, List.all_nil, Bool.and_true, Bool.and_self, Bool.true_and, Bool.false_and, Bool.and_false, Bool.or_true, Bool.or_false, Bool.true_or, Bool.false_or, Bool.or_self, List.elem_cons, List.elem_nil, Nat.add_zero, Nat.zero_add, or_self, or_false, false_or, true_or, or_true, and_true, true_and, and_false, false_and, and_self, List.mem_cons, List.not_mem_nil, Nat.reducePow]
    · simp -implicitDefEqProofs (maxDischargeDepth := 4) only [go_sem, decide_true, decide_false, beq_self_eq_true, ↓reduceIte, Nat.reduceLT, Nat.reduceAdd, Nat.reduceMul, Nat.reduceSub, Nat.reduceEqDiff, Nat.reduceLeDiff, Nat.reduceBEq, reduceCtorEq, Nat.succ_ne_zero, Bool.not_true, Bool.not_false, Bool.true_eq_false, Bool.false_eq_true, Bool.true_beq, Bool.false_beq, Int.reduceLT, Int.reduceLE, Int.reduceEq, Int.reduceNe, ne_eq, not_false_eq_true, not_true_eq_false, List.getElem?_cons_zero, List.getElem?_cons_succ, List.length_cons, List.length_nil, List.all_cons, List.all_nil, Bool.and_true, Bool.and_self, Bool.true_and, Bool.false_and, Bool.and_false, Bool.or_true, Bool.or_false, Bool.true_or, Bool.false_or, Bool.or_self, List.elem_cons, List.elem_nil, Nat.add_zero, Nat.zero_add, or_self, or_false, false_or, true_or, or_true, and_true, true_and, and_false, false_and, and_self, List.mem_cons, List.not_mem_nil, Nat.reducePow]
  rw [x_seq, h1, xbind_some, contR_normal, x_block, x_seq, h2, xbind_some, contR_normal, x_cond, ev_tmp, f71, shr_lit]
  by_cases hb : (decide (v = 0) || decide (v = 1)) = true
  · rw [hb, condX_true]
    obtain ⟨fr', G', sl', us', es', h, F', f10, S'⟩ := play_add S hn h5 hm hw F2
    rw [h, xbind_some, outB_normal]
    exact ⟨_, _, _, _, _, rfl, F', f10, S'⟩
  · have hb' : (decide (v = 0) || decide (v = 1)) = false := by simpa using hb
    rw [hb', condX_false, x_seq, h3, xbind_some, contR_normal, x_cond, ev_tmp, f98, shr_lit]
    by_cases hc : decide (v = 2) = true
    · rw [hc, condX_true]
      obtain ⟨fr', G', sl', us', es', h, F', f10, S'⟩ := play_set S hn h5 hm hw F3
      rw [h, xbind_some, outB_normal]
      exact ⟨_, _, _, _, _, rfl, F', f10, S'⟩
    · have hc' : decide (v = 2) = false := by simpa using hc
      rw [hc', condX_false]
      obtain ⟨fr', G', sl', us', es', h, F', f10, S'⟩ := play_drop S hn F3
      rw [h, xbind_some, outB_normal]
      exact ⟨_, _, _, _, _, rfl, F', f10, S'⟩

/-- what an element of the argument is -/
def ActAt (x : AV) : Prop := ∃ w s N wv xs, x = .agg (actC w s N wv) ∧ Sl 1 wv (List.map iv xs) ∧ -128 ≤ s ∧ s < 128

theorem play_loop (ha : Sl 4 a els) (hels : ∀ x ∈ els, ActAt x) (hka : ∀ m, kill m a = a) {n : Nat} (hn : n ≤ 32) :
    ∀ (d i : Nat), i + d = 50 → ∀ (fr : PT) (G : Hp) (sl es : List (List AV)) (us : List Bool), G.length = 5 → PSt G n sl us es → PFr fr a z i →
      ∃ fr' G', D.loop 0 4 160 l4_1 fr G = some (.exit 0, fr', G') := by
  intro d
  induction d with
  | zero =>
    intro i hi fr G sl es us hG S F
    rw [Nat.add_zero] at hi
    subst hi
    have e2 : ¬ (((50 : Nat) : Int) < 50) := by omega
    rw [dl4_1]
    by_cases hlt : 50 < els.length
    · have e1 : (((50 : Nat) : Int) < (els.length : Int)) := by omega
      simp -implicitDefEqProofs (maxDischargeDepth := 4) only [go_sem, decide_true, decide_false, beq_self_eq_true, ↓reduceIte, Nat.reduceLT, Nat.reduceAdd, Nat.reduceMul, Nat.reduceSub, Nat.reduceEqDiff, Nat.reduceLeDiff, Nat.reduceBEq, reduceCtorEq, Nat.succ_ne_zero, Bool.not_true, Bool.not_false, Bool.true_eq_false, Bool.false_eq_true, Bool.true_beq, Bool.false_beq, Int.reduceLT, Int.reduceLE, Int.reduceEq, Int.reduceNe, ne_eq, not_false_eq_true, not_true_eq_false, List.getElem?_cons_zero, List.getElem?_cons_succ, List.length_cons, List.length_nil, List.all_cons, List.all_nil, Bool.and_true, Bool.and_self, Bool.true_and, Bool.false_and, Bool.and_false, Bool.or_true, Bool.or_false, Bool.true_or, Bool.false_or, Bool.or_self, List.elem_cons, List.elem_nil, Nat.add_zero, Nat.zero_add, or_self, or_false, false_or, true_or, or_true, and_true, true_and, and_false, false_and, and_self, List.mem_cons, List.not_mem_nil, Nat.reducePow, F.f0, F.f1, F.f5, F.f6, F.f7, ha.notOwn, ha.shr, alen_sl ha, e1, e2]
      exact ⟨_, _, rfl⟩
    · have e1 : ¬ (((50 : Nat) : Int) < (els.length : Int)) := by omega
      simp -implicitDefEqProofs (maxDischargeDepth := 4) only [go_sem, decide_true, decide_false, beq_self_eq_true, ↓reduceIte, Nat.reduceLT, Nat.reduceAdd, Nat.reduceMul, Nat.reduceSub, Nat.reduceEqDiff, Nat.reduceLeDiff, Nat.reduceBEq, reduceCtorEq, Nat.succ_ne_zero, Bool.not_true, Bool.not_false, Bool.true_eq_false, Bool.false_eq_true, Bool.true_beq, Bool.false_beq, Int.reduceLT, Int.reduceLE, Int.reduceEq, Int.reduceNe, ne_eq, not_false_eq_true, not_true_eq_false, List.getElem?_cons_zero, List.getElem?_cons_succ, List.length_cons, List.length_nil, List.all_cons, List.all_nil, Bool.and_true, Bool.and_self, Bool.true_and, Bool.false_and, Bool.and_false, Bool.or_true, Bool.or_false, Bool.true_or, Bool.false_or, Bool.or_self, List.elem_cons, List.elem_nil, Nat.add_zero, Nat.zero_add, or_self, or_false, false_or, true_or, or_true, and_true, true_and, and_false, false_and, and_self, List.mem_cons, List.not_mem_nil, Nat.reducePow, F.f0, F.f1, F.f5, F.f6, F.f7, ha.notOwn, ha.shr, alen_sl ha, e1, e2]
      exact ⟨_, _, rfl⟩
  | succ d ih =>
    intro i hi fr G sl es us hG S F
    by_cases hlt : i < els.length
    · have e1 : ((i : Int) < (els.length : Int)) := by omega
      have e2 : ((i : Int) < 50) := by omega
      have e3 : wrapK .i64 ((i : Int) + 1) = ((i + 1 : Nat) : Int) := by rw [wrapK_i64 (by omega) (by omega)]; rfl
      obtain ⟨fr0, hA0, F0⟩ : ∃ fr0, ex cx D 0 4 160 (.seq (.region 5 g4_5 false) (.cond (.tmp 44) .skip (.exit 0))) fr G = some (.normal, fr0, G) ∧ PFr fr0 a z i := by
        simp -implicitDefEqProofs (maxDischargeDepth := 4) only [go_sem, decide_true, decide_false, beq_self_eq_true, ↓reduceIte, Nat.reduceLT, Nat.reduceAdd, Nat.reduceMul, Nat.reduceSub, Nat.reduceEqDiff, Nat.reduceLeDiff, Nat.reduceBEq, reduceCtorEq, Nat.succ_ne_zero, Bool.not_true, Bool.not_false, Bool.true_eq_false, Bool.false_eq_true, Bool.true_beq, Bool.false_beq, Int.reduceLT, Int.reduceLE, Int.reduceEq, Int.reduceNe, ne_eq, not_false_eq_true, not_true_eq_false, List.getElem?_cons_zero, List.getElem?_cons_succ, List.length_cons, List.length_nil, List.all_cons, List.all_nil, Bool.and_true, Bool.and_self, Bool.true_and, Bool.false_and, Bool.and_false, Bool.or_true, Bool.or_false, Bool.true_or, Bool.false_or, Bool.or_self, List.elem_cons, List.elem_nil, Nat.add_zero, Nat.zero_add, or_self, or_false, false_or, true_or, or_true, and_true, true_and, and_false, false_and, and_self, List.mem_cons, List.not_mem_nil, Nat.reducePow, F.f0, F.f1, F.f5, F.f6, F.f7, ha.notOwn, ha.shr, alen_sl ha, e1, e2]
        refine ⟨_, rfl, ?_⟩
        constructor <;> simp -implicitDefEqProofs (maxDischargeDepth := 4) only [go_sem, decide_true, decide_false, beq_self_eq_true, ↓reduceIte, Nat.reduceLT, Nat.reduceAdd, Nat.reduceMul, Nat.reduceSub, Nat.reduceEqDiff, Nat.reduceLeDiff, Nat.reduceBEq, reduceCtorEq, Nat.succ_ne_zero, Bool.not_true, Bool.not_false, Bool.true_eq_false, Bool.false_eq_true, Bool.true_beq, Bool.false_beq, Int.reduceLT, Int.reduceLE, Int.reduceEq, Int.reduceNe, ne_eq, not_false_eq_true, not_true_eq_false, List.getElem?_cons_zero, List.getElem?_cons_succ, List.length_cons, List.length_nil, List.all_cons, List.all_nil, Bool.and_true, Bool.and_self, Bool.true_and, Bool.false_and, Bool.and_false, Bool.or_true, Bool.or_false, Bool.true_or, Bool.false_or, Bool.or_self, List.elem_cons, List.elem_nil, Nat.add_zero, Nat.zero_add, or_self, or_false, false_or, true_or, or_true, and_true, true_and, and_false, false_and, and_self, List.mem_cons, List.not_mem_nil, Nat.reducePow, F.f0, F.f1, F.f5, F.f6, F.f7]
      obtain ⟨w, s, N, wv, xs, hel, hw, hs⟩ := hels (els.getD i .dead) (by rw [List.getD_eq_getElem?_getD, List.getElem?_eq_getElem hlt]; exact List.getElem_mem hlt)
      obtain ⟨fr1, wv', hA1, F1, f8, f9, hw', f10⟩ := play_x (z := z) (G := G) ha hlt hel hw hs F0
      rw [hG] at f8
      obtain ⟨fr2, G2, sl2, us2, es2, hA2, F2, f10', S2⟩ := play_sw (m := 5) (S.grow (L := [ABlock.cells 4 41 [.agg (actC w s N wv)]])) hn (Nat.le_refl _) (by rw [← hG, hp_get_r0 rfl]; rfl) hw' ⟨F1, f8, f9, f10⟩
      obtain ⟨fr3, L3, hA3, F3⟩ := play_live S2 hn F2 f10'
      obtain ⟨fr4, hA4, F4, f17⟩ : ∃ fr4, ex cx D 0 4 160 (.region 29 g4_28 false) fr3 (G2 ++ L3) = some (.normal, fr4, G2 ++ L3) ∧ PFr fr4 a z i ∧ fr4.get 17 = iv (-1) := by
        simp -implicitDefEqProofs (maxDischargeDepth := 4) only [go_sem, decide_true, decide_false, beq_self_eq_true, ↓reduceIte, Nat.reduceLT, Nat.reduceAdd, Nat.reduceMul, Nat.reduceSub, Nat.reduceEqDiff, Nat.reduceLeDiff, Nat.reduceBEq, reduceCtorEq, Nat.succ_ne_zero, Bool.not_true, Bool.not_false, Bool.true_eq_false, Bool.false_eq_true, Bool.true_beq, Bool.false_beq, Int.reduceLT, Int.reduceLE, Int.reduceEq, Int.reduceNe, ne_eq, not_false_eq_true, not_true_eq_false, List.getElem?_cons_zero, List.getElem?_cons_succ, List.length_cons, List.length_nil, List.all_cons, List.all_nil, Bool.and_true, Bool.and_self, Bool.true_and, Bool.false_and, Bool.and_false, Bool.or_true, Bool.or_false, Bool.true_or, Bool.false_or, Bool.or_self, List.elem_cons, List.elem_nil, Nat.add_zero, Nat.zero_add, or_self, or_false, false_or, true_or, or_true, and_true, true_and, and_false, false_and, and_self, List.mem_cons, List.not_mem_nil, Nat.reducePow]
        refine ⟨_, rfl, ?_, ?_⟩
        · constructor <;> simp -implicitDefEqProofs (maxDischargeDepth := 4) only [go_sem, decide_true, decide_false, beq_self_eq_true, ↓reduceIte, Nat.reduceLT, Nat.reduceAdd, Nat.reduceMul, Nat.reduceSub, Nat.reduceEqDiff, Nat.reduceLeDiff, Nat.reduceBEq, reduceCtorEq, Nat.succ_ne_zero, Bool.not_true, Bool.not_false, Bool.true_eq_false, Bool.false_eq_true, Bool.true_beq, Bool.false_beq, Int.reduceLT, Int.reduceLE, Int.reduceEq, Int.reduceNe, ne_eq, not_false_eq_true, not_true_eq_false, List.getElem?_cons_zero, List.getElem?_cons_succ, List.length_cons, List.length_nil, List.all_cons, List.all_nil, Bool.and_true, Bool.and_self, Bool.true_and, Bool.false_and, Bool.and_false, Bool.or_true, Bool.or_false, Bool.true_or, Bool.false_or, Bool.or_self, List.elem_cons, List.elem_nil, Nat.add_zero, Nat.zero_add, or_self, or_false, false_or, true_or, or_true, and_true, true_and, and_false, false_and, and_self, List.mem_cons, List.not_mem_nil, Nat.reducePow, F3.f0, F3.f1, F3.f5, F3.f6, F3.f7]
        · simp -implicitDefEqProofs (maxDischargeDepth := 4) only [go_sem, decide_true, decide_false, beq_self_eq_true, ↓reduceIte, Nat.reduceLT, Nat.reduceAdd, Nat.reduceMul, Nat.reduceSub, Nat.reduceEqDiff, Nat.reduceLeDiff, Nat.reduceBEq, reduceCtorEq, Nat.succ_ne_zero, Bool.not_true, Bool.not_false, Bool.true_eq_false, Bool.false_eq_true, Bool.true_beq, Bool.false_beq, Int.reduceLT, Int.reduceLE, Int.reduceEq, Int.reduceNe, ne_eq, not_false_eq_true, not_true_eq_false, List.getElem?_cons_zero, List.getElem?_cons_succ, List.length_cons, List.length_nil, List.all_cons, List.all_nil, Bool.and_true, Bool.and_self, Bool.true_and, Bool.false_and, Bool.and_false, Bool.or_true, Bool.or_false, Bool.true_or, Bool.false_or, Bool.or_self, List.elem_cons, List.elem_nil, Nat.add_zero, Nat.zero_add, or_self, or_false, false_or, true_or, or_true, and_true, true_and, and_false, false_and, and_self, List.mem_cons, List.not_mem_nil, Nat.reducePow]
      have h5 : 5 ≤ (G2 ++ L3).length := lt_of_get (S2.grow (L := L3)).R.tb
      obtain ⟨fr5, G5, hA5, F5, S5, hG5⟩ := alike_loop hn hka h5 10 (-1) (by omega) (by omega) fr4 (G2 ++ L3) rfl S2.grow F4 f17
      obtain ⟨fr6, hA6, F6⟩ : ∃ fr6, ex cx D 0 4 160 (.region 6 g4_33 false) fr5 G5 = some (.normal, fr6, G5) ∧ PFr fr6 a z (i + 1) := by
        simp -implicitDefEqProofs (maxDischargeDepth := 4) only [go_sem, decide_true, decide_false, beq_self_eq_true, ↓reduceIte, Nat.reduceLT, Nat.reduceAdd, Nat.reduceMul, Nat.reduceSub, Nat.reduceEqDiff, Nat.reduceLeDiff, Nat.reduceBEq, reduceCtorEq, Nat.succ_ne_zero, Bool.not_true, Bool.not_false, Bool.true_eq_false, Bool.false_eq_true, Bool.true_beq, Bool.false_beq, Int.reduceLT, Int.reduceLE, Int.reduceEq, Int.reduceNe, ne_eq, not_false_eq_true, not_true_eq_false, List.getElem?_cons_zero, List.getElem?_cons_succ, List.length_cons, List.length_nil, List.all_cons, List.all_nil, Bool.and_true, Bool.and_self, Bool.true_and, Bool.false_and, Bool.and_false, Bool.or_true, Bool.or_false, Bool.true_or, Bool.false_or, Bool.or_self, List.elem_cons, List.elem_nil, Nat.add_zero, Nat.zero_add, or_self, or_false, false_or, true_or, or_true, and_true, true_and, and_false, false_and, and_self, List.mem_cons, List.not_mem_nil, Nat.reducePow, F5.f7, e3]
        refine ⟨_, rfl, ?_⟩
        constructor <;> simp -implicitDefEqProofs (maxDischargeDepth := 4) only [go_sem, decide_true, decide_false, beq_self_eq_true, ↓reduceIte, Nat.reduceLT, Nat.reduceAdd, Nat.reduceMul, Nat.reduceSub, Nat.reduceEqDiff, Nat.reduceLeDiff, Nat.reduceBEq, reduceCtorEq, Nat.succ_ne_zero, Bool.not_true, Bool.not_false, Bool.true_eq_false, Bool.false_eq_true, Bool.true_beq, Bool.false_beq, Int.reduceLT, Int.reduceLE, Int.reduceEq, Int.reduceNe, ne_eq, not_false_eq_true, not_true_eq_false, List.getElem?_cons_zero, List.getElem?_cons_succ, List.length_cons, List.length_nil, List.all_cons, List.all_nil, Bool.and_true, Bool.and_self, Bool.true_and, Bool.false_and, Bool.and_false, Bool.or_true, Bool.or_false, Bool.true_or, Bool.false_or, Bool.or_self, List.elem_cons, List.elem_nil, Nat.add_zero, Nat.zero_add, or_self, or_false, false_or, true_or, or_true, and_true, true_and, and_false, false_and, and_self, List.mem_cons, List.not_mem_nil, Nat.reducePow, F5.f0, F5.f1, F5.f5, F5.f6, F5.f7]
      rw [dl4_1, hG, x_cont1 hA0, x_seq, x_block, x_cont3 hA1, x_cont1 hA2, x_cont1 hA3, x_cont1 hA4, x_block, x_loop, hA5]
      simp only [xbind_some, outB_exit, outB_normal, contR_normal, hA6, if_true]
      refine trim_P (P := fun o => ∃ fr' G', o = some (.exit 0, fr', G')) (Nat.le_refl 5) hka F6 S5 (by omega) (X := none) (fun x hx => by cases hx) fun fr' G' hG' F' S' _ => ih (i + 1) (by omega) fr' G' sl2 es2 us2 hG' S' F'
    · have e1 : ¬ ((i : Int) < (els.length : Int)) := by omega
      rw [dl4_1]
      simp -implicitDefEqProofs (maxDischargeDepth := 4) only [go_sem, decide_true, decide_false, beq_self_eq_true, ↓reduceIte, Nat.reduceLT, Nat.reduceAdd, Nat.reduceMul, Nat.reduceSub, Nat.reduceEqDiff, Nat.reduceLeDiff, Nat.reduceBEq, reduceCtorEq, Nat.succ_ne_zero, Bool.not_true, Bool.not_false, Bool.true_eq_false, Bool.false_eq_true, Bool.true_beq, Bool.false_beq, Int.reduceLT, Int.reduceLE, Int.reduceEq, Int.reduceNe, ne_eq, not_false_eq_true, not_true_eq_false, List.getElem?_cons_zero, List.getElem?_cons_succ, List.length_cons, List.length_nil, List.all_cons, List.all_nil, Bool.and_true, Bool.and_self, Bool.true_and, Bool.false_and, Bool.and_false, Bool.or_true, Bool.or_false, Bool.true_or, Bool.false_or, Bool.or_self, List.elem_cons, List.elem_nil, Nat.add_zero, Nat.zero_add, or_self, or_false, false_or, true_or, or_true, and_true, true_and, and_false, false_and, and_self, List.mem_cons, List.not_mem_nil, Nat.reducePow, F.f0, F.f1, F.f5, F.f6, F.f7, ha.notOwn, ha.shr, alen_sl ha, e1]
      exact ⟨_, _, rfl⟩

theorem fin4 {o : Option Res} (h : ∃ fr' G', o = some (.exit 0, fr', G')) (hw : pcall D 33 [] = some (bv true)) : ∃ H', returned cx [.tmp 4] (xbind (xbind o (outB 0)) (contR fun fr H => ex cx D 0 4 160 (.seq (.region 34 g4_34 false) .ret) fr H)) = some (bv true, H') := by
  obtain ⟨fr', G', rfl⟩ := h
  simp -implicitDefEqProofs (maxDischargeDepth := 4) only [go_sem, decide_true, decide_false, beq_self_eq_true, ↓reduceIte, Nat.reduceLT, Nat.reduceAdd, Nat.reduceMul, Nat.reduceSub, Nat.reduceEqDiff, Nat.reduceLeDiff, Nat.reduceBEq, reduceCtorEq, Nat.succ_ne_zero, Bool.not_true, Bool.not_false, Bool.true_eq_false, Bool.false_eq_true, Bool.true_beq, Bool.false_beq, Int.reduceLT, Int.reduceLE, Int.reduceEq, Int.reduceNe, ne_eq, not_false_eq_true, not_true_eq_false, List.getElem?_cons_zero, List.getElem?_cons_succ, List.length_cons, List.length_nil, List.all_cons, List.all_nil, Bool.and_true, Bool.and_self, Bool.true_and, Bool.false_and, Bool.and_false, Bool.or_true, Bool.or_false, Bool.true_or, Bool.false_or, Bool.or_self, List.elem_cons, List.elem_nil, Nat.add_zero, Nat.zero_add, or_self, or_false, false_or, true_or, or_true, and_true, true_and, and_false, false_and, and_self, List.mem_cons, List.not_mem_nil, Nat.reducePow, hw]
  exact ⟨_, rfl⟩
end
end Go.Abs.Tab

/- ActorsPlays: the whole. -/
set_option linter.unusedVariables false
namespace Go.Abs.Tab
theorem new_nil {ro : Nat} {H : Hp} {z : Int} (h : z < 1 ∨ 32 < z) : callB cx D ro 34 [iv z] H = some (.lit (.pointer none), H) := by
  rw [c34]
  by_cases h1 : z < 1
  · simp -implicitDefEqProofs (maxDischargeDepth := 4) only [go_sem, decide_true, decide_false, beq_self_eq_true, ↓reduceIte, Nat.reduceLT, Nat.reduceAdd, Nat.reduceMul, Nat.reduceSub, Nat.reduceEqDiff, Nat.reduceLeDiff, Nat.reduceBEq, reduceCtorEq, Nat.succ_ne_zero, Bool.not_true, Bool.not_false, Bool.true_eq_false, Bool.false_eq_true, Bool.true_beq, Bool.false_beq, Int.reduceLT, Int.reduceLE, Int.reduceEq, Int.reduceNe, ne_eq, not_false_eq_true, not_true_eq_false, List.getElem?_cons_zero, List.getElem?_cons_succ, List.length_cons, List.length_nil, List.all_cons, List.all_nil, Bool.and_true, Bool.and_self, Bool.true_and, Bool.false_and, Bool.and_false, Bool.or_true, Bool.or_false, Bool.true_or, Bool.false_or, Bool.or_self, List.elem_cons, List.elem_nil, Nat.add_zero, Nat.zero_add, or_self, or_false, false_or, true_or, or_true, and_true, true_and, and_false, false_and, and_self, List.mem_cons, List.not_mem_nil, Nat.reducePow, h1]
  · have h2 : 32 < z := by omega
    simp -implicitDefEqProofs (maxDischargeDepth := 4) only [go_sem, decide_true, decide_false, beq_self_eq_true, ↓reduceIte, Nat.reduceLT, Nat.reduceAdd, Nat.reduceMul, Nat.reduceSub, Nat.reduceEqDiff, Nat.reduceLeDiff, Nat.reduceBEq, reduceCtorEq, Nat.succ_ne_zero, Bool.not_true, Bool.not_false, Bool.true_eq_false, Bool.false_eq_true, Bool.true_beq, Bool.false_beq, Int.reduceLT, Int.reduceLE, Int.reduceEq, Int.reduceNe, ne_eq, not_false_eq_true, not_true_eq_false, List.getElem?_cons_zero, List.getElem?_cons_succ, List.length_cons, List.length_nil, List.all_cons, List.all_nil, Bool.and_true, Bool.and_self, Bool.true_and, Bool.false_and, Bool.and_false, Bool.or_true, Bool.or_false, Bool.true_or, Bool.false_or, Bool.or_self, List.elem_cons, List.elem_nil, Nat.add_zero, Nat.zero_add, or_self, or_false, false_or, true_or, or_true, and_true, true_and, and_false, false_and, and_self, List.mem_cons, List.not_mem_nil, Nat.reducePow, h1, h2]
theorem rnew_nil {ro : Nat} {H : Hp} {z : Int} (h : z < 1 ∨ 32 < z) : callB cx D ro 39 [iv z] H = some (.lit (.pointer none), H) := by
  rw [c39]
  by_cases h1 : z < 1
  · simp -implicitDefEqProofs (maxDischargeDepth := 4) only [go_sem, decide_true, decide_false, beq_self_eq_true, ↓reduceIte, Nat.reduceLT, Nat.reduceAdd, Nat.reduceMul, Nat.reduceSub, Nat.reduceEqDiff, Nat.reduceLeDiff, Nat.reduceBEq, reduceCtorEq, Nat.succ_ne_zero, Bool.not_true, Bool.not_false, Bool.true_eq_false, Bool.false_eq_true, Bool.true_beq, Bool.false_beq, Int.reduceLT, Int.reduceLE, Int.reduceEq, Int.reduceNe, ne_eq, not_false_eq_true, not_true_eq_false, List.getElem?_cons_zero, List.getElem?_cons_succ, List.length_cons, List.length_nil, List.all_cons, List.all_nil, Bool.and_true, Bool.and_self, Bool.true_and, Bool.false_and, Bool.and_false, Bool.or_true, Bool.or_false, Bool.true_or, Bool.false_or, Bool.or_self, List.elem_cons, List.elem_nil, Nat.add_zero, Nat.zero_add, or_self, or_false, false_or, true_or, or_true, and_true, true_and, and_false, false_and, and_self, List.mem_cons, List.not_mem_nil, Nat.reducePow, h1]
  · have h2 : 32 < z := by omega
    simp -implicitDefEqProofs (maxDischargeDepth := 4) only [go_sem, decide_true, decide_false, beq_self_eq_true, ↓reduceIte, Nat.reduceLT, Nat.reduceAdd, Nat.reduceMul, Nat.reduceSub, Nat.reduceEqDiff, Nat.reduceLeDiff, Nat.reduceBEq, reduceCtorEq, Nat.succ_ne_zero, Bool.not_true, Bool.not_false, Bool.true_eq_false, Bool.false_eq_true, Bool.true_beq, Bool.false_beq, Int.reduceLT, Int.reduceLE, Int.reduceEq, Int.reduceNe, ne_eq, not_false_eq_true, not_true_eq_false, List.getElem?_cons_zero, List.getElem?_cons_succ, List.length_cons, List.length_nil, List.all_cons, List.all_nil, Bool.and_true, Bool.and_self, Bool.true_and, Bool.false_and, Bool.and_false, Bool.or_true, Bool.or_false, Bool.true_or, Bool.false_or, Bool.or_self, List.elem_cons, List.elem_nil, Nat.add_zero, Nat.zero_add, or_self, or_false, false_or, true_or, or_true, and_true, true_and, and_false, false_and, and_self, List.mem_cons, List.not_mem_nil, Nat.reducePow, h1, h2]

theorem new_st {n : Nat} : PSt [.cells 20 185 (List.replicate n (.agg zeroC)), .cells 1 180 [.agg [.sl 0 20 0 n n]], .cells 1 4 (List.replicate n (bv false)), .cells 19 45 (List.replicate n (.agg zeroF)), .cells 2 192 [.agg [.sl 2 1 0 n n, .sl 3 19 0 n n]]] n (List.replicate n zeroC) (List.replicate n false) (List.replicate n zeroF) := by
  refine ⟨⟨by simp, by simp, by decide, ?_⟩, ⟨by simp, by simp, by simp, by decide, by decide, by decide, by simp⟩, by simp, by simp, ?_⟩
  · intro c hc; rw [List.eq_of_mem_replicate hc]; exact zeroC_ok
  · intro i c u e h1 h2 h3
    rw [List.eq_of_mem_replicate (List.mem_of_getElem? h1), List.eq_of_mem_replicate (List.mem_of_getElem? h2), List.eq_of_mem_replicate (List.mem_of_getElem? h3)]
    exact ⟨zeroF, _, _, [], rfl, zeroF_ok, zeroF_ok, by decide, fun _ _ => rfl⟩

theorem fin4b {o : Option Res} (h : ∃ fr' G', o = some (.exit 0, fr', G')) : ∃ H', returned cx [.tmp 4] (xbind (xbind o (outB 0)) (contR fun fr H => some (.ret, (fr.set 159 (bv true)).set 4 (bv true), H))) = some (bv true, H') := by
  obtain ⟨fr', G', rfl⟩ := h
  simp -implicitDefEqProofs (maxDischargeDepth := 4) only [go_sem, decide_true, decide_false, beq_self_eq_true, ↓reduceIte, Nat.reduceLT, Nat.reduceAdd, Nat.reduceMul, Nat.reduceSub, Nat.reduceEqDiff, Nat.reduceLeDiff, Nat.reduceBEq, reduceCtorEq, Nat.succ_ne_zero, Bool.not_true, Bool.not_false, Bool.true_eq_false, Bool.false_eq_true, Bool.true_beq, Bool.false_beq, Int.reduceLT, Int.reduceLE, Int.reduceEq, Int.reduceNe, ne_eq, not_false_eq_true, not_true_eq_false, List.getElem?_cons_zero, List.getElem?_cons_succ, List.length_cons, List.length_nil, List.all_cons, List.all_nil, Bool.and_true, Bool.and_self, Bool.true_and, Bool.false_and, Bool.and_false, Bool.or_true, Bool.or_false, Bool.true_or, Bool.false_or, Bool.or_self, List.elem_cons, List.elem_nil, Nat.add_zero, Nat.zero_add, or_self, or_false, false_or, true_or, or_true, and_true, true_and, and_false, false_and, and_self, List.mem_cons, List.not_mem_nil, Nat.reducePow]
  exact ⟨_, rfl⟩
theorem plays_ok {a : AV} {els : List AV} (ha : Sl 4 a els) (hels : ∀ x ∈ els, ActAt x) (hka : ∀ m, kill m a = a) (z : Int) :
    ∃ H', callB cx D 0 4 [iv z, a] [] = some (bv true, H') := by
  rw [c4]
  by_cases h : z < 1 ∨ 32 < z
  · have h1 := fun H => new_nil (ro := 0) (H := H) h
    have h2 := fun H => rnew_nil (ro := 0) (H := H) h
    simp -implicitDefEqProofs (maxDischargeDepth := 4) only [go_sem, decide_true, decide_false, beq_self_eq_true, ↓reduceIte, Nat.reduceLT, Nat.reduceAdd, Nat.reduceMul, Nat.reduceSub, Nat.reduceEqDiff, Nat.reduceLeDiff, Nat.reduceBEq, reduceCtorEq, Nat.succ_ne_zero, Bool.not_true, Bool.not_false, Bool.true_eq_false, Bool.false_eq_true, Bool.true_beq, Bool.false_beq, Int.reduceLT, Int.reduceLE, Int.reduceEq, Int.reduceNe, ne_eq, not_false_eq_true, not_true_eq_false, List.getElem?_cons_zero, List.getElem?_cons_succ, List.length_cons, List.length_nil, List.all_cons, List.all_nil, Bool.and_true, Bool.and_self, Bool.true_and, Bool.false_and, Bool.and_false, Bool.or_true, Bool.or_false, Bool.true_or, Bool.false_or, Bool.or_self, List.elem_cons, List.elem_nil, Nat.add_zero, Nat.zero_add, or_self, or_false, false_or, true_or, or_true, and_true, true_and, and_false, false_and, and_self, List.mem_cons, List.not_mem_nil, Nat.reducePow, h1, h2, works_ok, ha.drp]
    exact ⟨_, rfl⟩
  · obtain ⟨n, rfl⟩ : ∃ n : Nat, z = n := ⟨z.toNat, by omega⟩
    have hn1 : 1 ≤ n := by omega
    have hn2 : n ≤ 32 := by omega
    have hN := new_ok (ro := 0) (H := []) (n := n) (Nat.zero_le _) hn1 hn2
    rw [List.nil_append, List.length_nil, Nat.zero_add] at hN
    have hR := rnew_ok (ro := 0) (H := [.cells 20 185 (List.replicate n (.agg zeroC)), .cells 1 180 [.agg [.sl 0 20 0 n n]]]) (n := n) (Nat.zero_le _) hn1 hn2
    simp only [List.length_cons, List.length_nil, Nat.zero_add, Nat.reduceAdd, List.cons_append, List.nil_append] at hR
    have hS := new_st (n := n)
    simp -implicitDefEqProofs (maxDischargeDepth := 4) only [go_sem, decide_true, decide_false, beq_self_eq_true, ↓reduceIte, Nat.reduceLT, Nat.reduceAdd, Nat.reduceMul, Nat.reduceSub, Nat.reduceEqDiff, Nat.reduceLeDiff, Nat.reduceBEq, reduceCtorEq, Nat.succ_ne_zero, Bool.not_true, Bool.not_false, Bool.true_eq_false, Bool.false_eq_true, Bool.true_beq, Bool.false_beq, Int.reduceLT, Int.reduceLE, Int.reduceEq, Int.reduceNe, ne_eq, not_false_eq_true, not_true_eq_false, List.getElem?_cons_zero, List.getElem?_cons_succ, List.length_cons, List.length_nil, List.all_cons, List.all_nil, Bool.and_true, Bool.and_self, Bool.true_and, Bool.false_and, Bool.and_false, Bool.or_true, Bool.or_false, Bool.true_or, Bool.false_or, Bool.or_self, List.elem_cons, List.elem_nil, Nat.add_zero, Nat.zero_add, or_self, or_false, false_or, true_or, or_true, and_true, true_and, and_false, false_and, and_self, List.mem_cons, List.not_mem_nil, Nat.reducePow, elAt_eq, stV_eq, cellsB_cells, hp_get_r, hp_get_r0, hp_get_l, hp_set_r, hp_set_r0, hp_set_l, hp_one, hp_ne, List.drop_succ_cons, List.drop_zero, List.take_succ_cons, List.take_zero, hN, hR, ha.drp, works_ok, x_loop]
    refine fin4b (play_loop (z := (n : Int)) ha hels hka hn2 50 0 rfl _ _ _ _ _ rfl hS ?_)
    constructor <;> simp -implicitDefEqProofs (maxDischargeDepth := 4) only [go_sem, decide_true, decide_false, beq_self_eq_true, ↓reduceIte, Nat.reduceLT, Nat.reduceAdd, Nat.reduceMul, Nat.reduceSub, Nat.reduceEqDiff, Nat.reduceLeDiff, Nat.reduceBEq, reduceCtorEq, Nat.succ_ne_zero, Bool.not_true, Bool.not_false, Bool.true_eq_false, Bool.false_eq_true, Bool.true_beq, Bool.false_beq, Int.reduceLT, Int.reduceLE, Int.reduceEq, Int.reduceNe, ne_eq, not_false_eq_true, not_true_eq_false, List.getElem?_cons_zero, List.getElem?_cons_succ, List.length_cons, List.length_nil, List.all_cons, List.all_nil, Bool.and_true, Bool.and_self, Bool.true_and, Bool.false_and, Bool.and_false, Bool.or_true, Bool.or_false, Bool.true_or, Bool.false_or, Bool.or_self, List.elem_cons, List.elem_nil, Nat.add_zero, Nat.zero_add, or_self, or_false, false_or, true_or, or_true, and_true, true_and, and_false, false_and, and_self, List.mem_cons, List.not_mem_nil, Nat.reducePow, Int.ofNat_zero]
end Go.Abs.Tab

/- ActorsPlays: for every slots and acts, read as arguments. -/
set_option linter.unusedVariables false
namespace Go.Abs.Tab

theorem ints_read {d : Nat} {l : List AV} {t e : TypeId} (ht : Go.Proofs.Try.prog.underlying t = some (.slice e)) (he : Go.Proofs.Try.prog.underlying e = some (.int .i64)) (hc : Go.Proofs.Try.prog.cellsOf e = 1) (h : Rdd Go.Proofs.Try.prog (d + 2) t l) : ∃ a xs, l = [a] ∧ Sl 1 a (List.map iv xs) := by
  obtain ⟨a, ls, rfl, h1, h2, h3⟩ := rd_slice ht h
  rw [hc] at h3
  obtain ⟨ys, k1, k2, k3⟩ := sl_map (g := iv) (fun x hx => by
    obtain ⟨n, h4, rfl⟩ := rd_int he (h2 x hx)
    exact ⟨n, by rw [wrap_int he]; rfl⟩) h3
  exact ⟨a, ys, rfl, k3⟩
theorem act_read {d : Nat} {l : List AV} (h : Rdd Go.Proofs.Try.prog (d + 9) 41 l) : ActAt (.agg l) := by
  have h1 := rd_struct Go.Proofs.Try.underlying41 h
  obtain ⟨a1, b1, rfl, k1, h2⟩ := rdF_cons h1
  obtain ⟨w, w1, rfl⟩ := rd_int Go.Proofs.Try.underlying38 k1
  obtain ⟨a2, b2, rfl, k2, h3⟩ := rdF_cons h2
  obtain ⟨s, w2, rfl⟩ := rd_int Go.Proofs.Try.underlying38 k2
  obtain ⟨a3, b3, rfl, k3, h4⟩ := rdF_cons h3
  obtain ⟨n, w3, rfl⟩ := rd_int Go.Proofs.Try.underlying3 k3
  obtain ⟨a4, b4, rfl, k4, h5⟩ := rdF_cons h4
  obtain ⟨wv, xs, rfl, hs⟩ := ints_read Go.Proofs.Try.underlying39 Go.Proofs.Try.underlying2 (by kernel_rfl) k4
  obtain rfl := rdF_nil h5
  have hb := Go.bounds_i8 w2
  exact ⟨w, s, n, wv, xs, rfl, hs, by omega, by omega⟩
theorem kill_Sl' {sz : Nat} {a : AV} {els : List AV} (h : Sl sz a els) (m : Nat) : kill m a = a := by
  rcases h with rfl | rfl | ⟨rfl, _⟩ <;> rfl
theorem plays_row {l0 l1 : AV} (h0 : Rdd Go.Proofs.Try.prog 12 3 [l0]) (h1 : Rdd Go.Proofs.Try.prog 12 35 [l1]) : ∃ H', callB cx D 0 4 [l0, l1] [] = some (bv true, H') := by
  obtain ⟨z, _, e⟩ := rd_int Go.Proofs.Try.underlying3 h0
  cases e
  obtain ⟨a, ls, e, _, h2, h3⟩ := rd_slice Go.Proofs.Try.underlying35 h1
  cases e
  have hc : Go.Proofs.Try.prog.cellsOf 41 = 4 := by kernel_rfl
  rw [hc] at h3
  refine plays_ok h3 (fun x hx => ?_) (kill_Sl' h3) z
  obtain ⟨y, hy, rfl⟩ := List.mem_map.1 hx
  rw [wrap_struct Go.Proofs.Try.underlying41]
  exact act_read (d := 2) (h2 y hy)
end Go.Abs.Tab
