/- Duals: mates, kinds, moved edges. -/
import Derived.Test.YtiinagmombigpaaGraC
import Derived.Test.YtiinagmombigpaaGraF
set_option linter.unusedSimpArgs false
set_option linter.unusedVariables false
set_option linter.unnecessarySimpa false

/- Duals: mates, kinds, moved edges. -/
set_option linter.unusedVariables false
namespace Go.Abs.Tab
open Go.Gr
def mate (n m : Int) : Int := if n < 1 then -1 else if m < 0 then -1 else if wrapK .i64 (2 * n) ≤ m then -1 else if m < n then wrapK .i64 (m + n) else wrapK .i64 (m - n)
theorem mate_call {ro : Nat} {H : Hp} (n m : Int) : callB cx D ro 57 [iv n, iv m] H = some (iv (mate n m), H) := by
  unfold mate
  rw [c57]
  by_cases h1 : n < 1
  · simp -implicitDefEqProofs (maxDischargeDepth := 4) only [go_sem, ↓reduceIte, Nat.reduceLT, Nat.reduceAdd, Nat.reduceMul, Nat.reduceSub, Nat.reduceEqDiff, Nat.reduceLeDiff, Nat.reduceBEq, reduceCtorEq, Int.reduceLT, Int.reduceLE, Int.reduceEq, Int.reduceNe, Nat.reducePow, h1]
  by_cases h2 : m < 0
  · simp -implicitDefEqProofs (maxDischargeDepth := 4) only [go_sem, ↓reduceIte, Nat.reduceLT, Nat.reduceAdd, Nat.reduceMul, Nat.reduceSub, Nat.reduceEqDiff, Nat.reduceLeDiff, Nat.reduceBEq, reduceCtorEq, Int.reduceLT, Int.reduceLE, Int.reduceEq, Int.reduceNe, Nat.reducePow, h1, h2]
  by_cases h3 : wrapK .i64 (2 * n) ≤ m
  · simp -implicitDefEqProofs (maxDischargeDepth := 4) only [go_sem, ↓reduceIte, Nat.reduceLT, Nat.reduceAdd, Nat.reduceMul, Nat.reduceSub, Nat.reduceEqDiff, Nat.reduceLeDiff, Nat.reduceBEq, reduceCtorEq, Int.reduceLT, Int.reduceLE, Int.reduceEq, Int.reduceNe, Nat.reducePow, h1, h2, h3]
  by_cases h4 : m < n
  · simp -implicitDefEqProofs (maxDischargeDepth := 4) only [go_sem, ↓reduceIte, Nat.reduceLT, Nat.reduceAdd, Nat.reduceMul, Nat.reduceSub, Nat.reduceEqDiff, Nat.reduceLeDiff, Nat.reduceBEq, reduceCtorEq, Int.reduceLT, Int.reduceLE, Int.reduceEq, Int.reduceNe, Nat.reducePow, h1, h2, h3, h4]
  · simp -implicitDefEqProofs (maxDischargeDepth := 4) only [go_sem, ↓reduceIte, Nat.reduceLT, Nat.reduceAdd, Nat.reduceMul, Nat.reduceSub, Nat.reduceEqDiff, Nat.reduceLeDiff, Nat.reduceBEq, reduceCtorEq, Int.reduceLT, Int.reduceLE, Int.reduceEq, Int.reduceNe, Nat.reducePow, h1, h2, h3, h4]
theorem rmate_call {ro : Nat} {H : Hp} (n m : Int) : callB cx D ro 58 [iv n, iv m] H = some (iv (mate n m), H) := by
  unfold mate
  rw [c58]
  by_cases h1 : n < 1
  · simp -implicitDefEqProofs (maxDischargeDepth := 4) only [go_sem, ↓reduceIte, Nat.reduceLT, Nat.reduceAdd, Nat.reduceMul, Nat.reduceSub, Nat.reduceEqDiff, Nat.reduceLeDiff, Nat.reduceBEq, reduceCtorEq, Int.reduceLT, Int.reduceLE, Int.reduceEq, Int.reduceNe, Nat.reducePow, h1]
  by_cases h2 : m < 0
  · simp -implicitDefEqProofs (maxDischargeDepth := 4) only [go_sem, ↓reduceIte, Nat.reduceLT, Nat.reduceAdd, Nat.reduceMul, Nat.reduceSub, Nat.reduceEqDiff, Nat.reduceLeDiff, Nat.reduceBEq, reduceCtorEq, Int.reduceLT, Int.reduceLE, Int.reduceEq, Int.reduceNe, Nat.reducePow, h1, h2]
  by_cases h3 : wrapK .i64 (2 * n) ≤ m
  · simp -implicitDefEqProofs (maxDischargeDepth := 4) only [go_sem, ↓reduceIte, Nat.reduceLT, Nat.reduceAdd, Nat.reduceMul, Nat.reduceSub, Nat.reduceEqDiff, Nat.reduceLeDiff, Nat.reduceBEq, reduceCtorEq, Int.reduceLT, Int.reduceLE, Int.reduceEq, Int.reduceNe, Nat.reducePow, h1, h2, h3]
  by_cases h4 : m < n
  · simp -implicitDefEqProofs (maxDischargeDepth := 4) only [go_sem, ↓reduceIte, Nat.reduceLT, Nat.reduceAdd, Nat.reduceMul, Nat.reduceSub, Nat.reduceEqDiff, Nat.reduceLeDiff, Nat.reduceBEq, reduceCtorEq, Int.reduceLT, Int.reduceLE, Int.reduceEq, Int.reduceNe, Nat.reducePow, h1, h2, h3, h4]
  · simp -implicitDefEqProofs (maxDischargeDepth := 4) only [go_sem, ↓reduceIte, Nat.reduceLT, Nat.reduceAdd, Nat.reduceMul, Nat.reduceSub, Nat.reduceEqDiff, Nat.reduceLeDiff, Nat.reduceBEq, reduceCtorEq, Int.reduceLT, Int.reduceLE, Int.reduceEq, Int.reduceNe, Nat.reducePow, h1, h2, h3, h4]
theorem mate_ok (n m : Int) : pcall D 57 [iv n, iv m] = some (iv (mate n m)) := by
  exact pcall_eq (v := iv (mate n m)) (H' := []) (mate_call n m)
theorem rmate_ok (n m : Int) : pcall D 58 [iv n, iv m] = some (iv (mate n m)) := by
  exact pcall_eq (v := iv (mate n m)) (H' := []) (rmate_call n m)
def dk (k : Int) : Int := if k = 1 then 2 else if k = 2 then 1 else if k = 3 then 4 else if k = 4 then 3 else k
theorem kind_call {ro : Nat} {H : Hp} (k : Int) : callB cx D ro 124 [iv k] H = some (iv (dk k), H) := by
  unfold dk
  rw [c124]
  by_cases h1 : k = 1
  · simp -implicitDefEqProofs (maxDischargeDepth := 4) only [go_sem, ↓reduceIte, Nat.reduceLT, Nat.reduceAdd, Nat.reduceMul, Nat.reduceSub, Nat.reduceEqDiff, Nat.reduceLeDiff, Nat.reduceBEq, reduceCtorEq, Int.reduceLT, Int.reduceLE, Int.reduceEq, Int.reduceNe, Nat.reducePow, h1]
  by_cases h2 : k = 2
  · simp -implicitDefEqProofs (maxDischargeDepth := 4) only [go_sem, ↓reduceIte, Nat.reduceLT, Nat.reduceAdd, Nat.reduceMul, Nat.reduceSub, Nat.reduceEqDiff, Nat.reduceLeDiff, Nat.reduceBEq, reduceCtorEq, Int.reduceLT, Int.reduceLE, Int.reduceEq, Int.reduceNe, Nat.reducePow, h1, h2]
  by_cases h3 : k = 3
  · simp -implicitDefEqProofs (maxDischargeDepth := 4) only [go_sem, ↓reduceIte, Nat.reduceLT, Nat.reduceAdd, Nat.reduceMul, Nat.reduceSub, Nat.reduceEqDiff, Nat.reduceLeDiff, Nat.reduceBEq, reduceCtorEq, Int.reduceLT, Int.reduceLE, Int.reduceEq, Int.reduceNe, Nat.reducePow, h1, h2, h3]
  by_cases h4 : k = 4
  · simp -implicitDefEqProofs (maxDischargeDepth := 4) only [go_sem, ↓reduceIte, Nat.reduceLT, Nat.reduceAdd, Nat.reduceMul, Nat.reduceSub, Nat.reduceEqDiff, Nat.reduceLeDiff, Nat.reduceBEq, reduceCtorEq, Int.reduceLT, Int.reduceLE, Int.reduceEq, Int.reduceNe, Nat.reducePow, h1, h2, h3, h4]
  · simp -implicitDefEqProofs (maxDischargeDepth := 4) only [go_sem, ↓reduceIte, Nat.reduceLT, Nat.reduceAdd, Nat.reduceMul, Nat.reduceSub, Nat.reduceEqDiff, Nat.reduceLeDiff, Nat.reduceBEq, reduceCtorEq, Int.reduceLT, Int.reduceLE, Int.reduceEq, Int.reduceNe, Nat.reducePow, h1, h2, h3, h4]
theorem kind_ok (k : Int) : pcall D 124 [iv k] = some (iv (dk k)) := by
  exact pcall_eq (v := iv (dk k)) (H' := []) (kind_call k)
abbrev othC : List AV := [iv 0, iv 2, iv 1, iv 4, iv 3, iv 5]
theorem build209 : abuild cx.T 209 [(0, iv 0), (1, iv 2), (2, iv 1), (3, iv 4), (4, iv 3), (5, iv 5)] = some (.agg othC) := nr (by kernel_rfl)
theorem other_call : ∃ H', callB cx D 0 159 [] [] = some (.agg othC, H') := by
  rw [c159]
  simp -implicitDefEqProofs (maxDischargeDepth := 4) only [go_sem, ↓reduceIte, Nat.reduceLT, Nat.reduceAdd, Nat.reduceMul, Nat.reduceSub, Nat.reduceEqDiff, Nat.reduceLeDiff, Nat.reduceBEq, reduceCtorEq, Int.reduceLT, Int.reduceLE, Int.reduceEq, Int.reduceNe, Nat.reducePow, elAt_eq, stV_eq, cellsB_cells, hp_get_r, hp_get_r0, hp_get_l, hp_set_r, hp_set_r0, hp_set_l, hp_one, hp_ne, List.drop_succ_cons, List.drop_zero, List.take_succ_cons, List.take_zero, build209, Nat.le_refl]
  exact ⟨_, rfl⟩
theorem other_ok : pcall D 159 [] = some (.agg othC) := by
  obtain ⟨H', h⟩ := other_call
  rw [pcall_eq (vs := []) (v := .agg othC) (H' := H') (by rw [List.map_nil]; exact h)]
  simp only [Abs.frz, Abs.frz1, List.map_cons, List.map_nil, Abs.frz0, Abs.cl0]
/-- an edge, moved -/
def mv (far : Int) (e : Int × Int) : Int × Int := (wrapK .i64 (e.1 + far), e.2)
structure VFr (fr : PT) (b : AV) (p : Nat) (v : AV) (L i : Nat) : Prop where
  f1 : fr.get 1 = .ptr p 0 0
  f3 : fr.get 3 = v
  f6 : fr.get 6 = b
  f7 : fr.get 7 = iv L
  f8 : fr.get 8 = iv i
theorem moved_loop {ro m p : Nat} (hro : ro ≤ m) {b : AV} {es : List (Int × Int)} (hb : Sl 2 b (es.map ed)) (hl : es.length < 2 ^ 20) {far : Int} (hp : p < m) {R : List AV} (hR : (es.map (mv far)).map ed = R) :
    ∀ (d i : Nat) (fr : PT) (G : Hp) (v : AV) (L : List AV), es.length - i = d → i ≤ es.length → G.length = m → G[p]? = some (.cells 1 3 [iv far]) → VFr fr b p v es.length i → (((es.take i).map (mv far)).map ed) = L → Grow 2 v L →
    ∃ (fr' : PT) (G' : Hp) (v' : AV), D.loop ro 123 24 l123_0 fr G = some (.exit 0, fr', G') ∧ fr'.get 3 = v' ∧ Grow 2 v' R
  | 0, i, fr, G, v, L, hd, hi, hG, hg, F, hL, hv => by
    have hlt : ¬ ((i : Int) < (es.length : Int)) := by omega
    rw [List.take_of_length_le (by omega), hR] at hL
    subst hL
    rw [dl123_0]
    simp -implicitDefEqProofs (maxDischargeDepth := 4) only [go_sem, ↓reduceIte, Nat.reduceLT, Nat.reduceAdd, Nat.reduceMul, Nat.reduceSub, Nat.reduceEqDiff, Nat.reduceLeDiff, Nat.reduceBEq, reduceCtorEq, Int.reduceLT, Int.reduceLE, Int.reduceEq, Int.reduceNe, Nat.reducePow, elAt_eq, stV_eq, cellsB_cells, hp_get_r, hp_get_r0, hp_get_l, hp_set_r, hp_set_r0, hp_set_l, hp_one, hp_ne, List.drop_succ_cons, List.drop_zero, List.take_succ_cons, List.take_zero, F.f7, F.f8, hlt]
    exact ⟨_, _, v, rfl, by simp -implicitDefEqProofs (maxDischargeDepth := 4) only [go_sem, ↓reduceIte, Nat.reduceLT, Nat.reduceAdd, Nat.reduceMul, Nat.reduceSub, Nat.reduceEqDiff, Nat.reduceLeDiff, Nat.reduceBEq, reduceCtorEq, Int.reduceLT, Int.reduceLE, Int.reduceEq, Int.reduceNe, Nat.reducePow, F.f3], hv⟩
  | d + 1, i, fr, G, v, L, hd, hi, hG, hg, F, hL, hv => by
    have hlt : ((i : Int) < (es.length : Int)) := by omega
    have w3 : wrapK .i64 ((i : Int) + 1) = ((i + 1 : Nat) : Int) := by rw [wrapK_i64 (by omega) (by omega)]; rfl
    have e1 := at_ed hb (show i < es.length by omega)
    have hlen : L.length = i := by rw [← hL]; simp; omega
    have hlen2 : L.length < 2 ^ 20 := by omega
    have hnew : (((es.take (i + 1)).map (mv far)).map ed) = L ++ [ed (mv far (es.getD i (0, 0)))] := by
      rw [List.take_add_one, List.map_append, List.map_append, hL, List.getElem?_eq_getElem (by omega)]
      simp [List.getD_eq_getElem?_getD, List.getElem?_eq_getElem (show i < es.length by omega)]
    have c1 : ro ≤ m := hro
    have c2 : ¬ m < ro := by omega
    have next : ∀ (fr1 : PT) (G1 : Hp), m ≤ G1.length → G1[p]? = some (.cells 1 3 [iv far]) → VFr fr1 b p (.vec 2 .own (L ++ [ed (mv far (es.getD i (0, 0)))])) es.length (i + 1) →
        ∃ (fr' : PT) (G' : Hp) (v' : AV), trimmed (D.loop ro 123 24 l123_0) m fr1 G1 = some (.exit 0, fr', G') ∧ fr'.get 3 = v' ∧ Grow 2 v' R := fun fr1 G1 hm1 hg1 F1 => by
      refine trim_gen (P := fun w => ∃ (fr' : PT) (G' : Hp) (v' : AV), w = some (.exit 0, fr', G') ∧ fr'.get 3 = v' ∧ Grow 2 v' R) [1, 3, 6, 7, 8] hm1 (fun t ht => ?_) fun fr' G' hG' hf hk' => ?_
      · simp only [List.mem_cons, List.not_mem_nil, or_false] at ht
        rcases ht with rfl | rfl | rfl | rfl | rfl
        · rw [F1.f1, kill_ptr hp]
        · rw [F1.f3]; rfl
        · rw [F1.f6, kill_Sl hb]
        · rw [F1.f7]; rfl
        · rw [F1.f8]; rfl
      · exact moved_loop hro hb hl hp hR d (i + 1) fr' G' _ _ (nd1 hd) (nd2 hd) hG' (hk' p _ hp hg1 rfl) ⟨by rw [hf 1 (by simp), F1.f1], by rw [hf 3 (by simp), F1.f3], by rw [hf 6 (by simp), F1.f6], by rw [hf 7 (by simp), F1.f7], by rw [hf 8 (by simp), F1.f8]⟩ hnew (.inl rfl)
    rw [dl123_0]
    rcases hv with rfl | ⟨rfl, rfl⟩
    · have hap : ∀ y : AV, apV 2 16 [y] (.vec 2 .own L) = some (.vec 2 .own (L ++ [y])) := fun y => apV_own (ap_small hlen2) (by decide)
      simp -implicitDefEqProofs (maxDischargeDepth := 4) only [go_sem, ↓reduceIte, Nat.reduceLT, Nat.reduceAdd, Nat.reduceMul, Nat.reduceSub, Nat.reduceEqDiff, Nat.reduceLeDiff, Nat.reduceBEq, reduceCtorEq, Int.reduceLT, Int.reduceLE, Int.reduceEq, Int.reduceNe, Nat.reducePow, elAt_eq, stV_eq, cellsB_cells, hp_get_r, hp_get_r0, hp_get_l, hp_set_r, hp_set_r0, hp_set_l, hp_one, hp_ne, List.drop_succ_cons, List.drop_zero, List.take_succ_cons, List.take_zero, hG, F.f1, F.f3, F.f6, F.f7, F.f8, hlt, hb.notOwn, hb.shr, e1, c1, c2, hp, hg, build63', hap, w3]
      refine next _ _ ?_ ?_ ⟨?_, ?_, ?_, ?_, ?_⟩
      · rw [List.length_append, hG]; exact Nat.le_add_right _ _
      · rw [hp_get_l (by omega), hg]
      · simp -implicitDefEqProofs (maxDischargeDepth := 4) only [go_sem, ↓reduceIte, Nat.reduceLT, Nat.reduceAdd, Nat.reduceMul, Nat.reduceSub, Nat.reduceEqDiff, Nat.reduceLeDiff, Nat.reduceBEq, reduceCtorEq, Int.reduceLT, Int.reduceLE, Int.reduceEq, Int.reduceNe, Nat.reducePow, F.f1]
      · simp -implicitDefEqProofs (maxDischargeDepth := 4) only [go_sem, ↓reduceIte, Nat.reduceLT, Nat.reduceAdd, Nat.reduceMul, Nat.reduceSub, Nat.reduceEqDiff, Nat.reduceLeDiff, Nat.reduceBEq, reduceCtorEq, Int.reduceLT, Int.reduceLE, Int.reduceEq, Int.reduceNe, Nat.reducePow]
        rfl
      · simp -implicitDefEqProofs (maxDischargeDepth := 4) only [go_sem, ↓reduceIte, Nat.reduceLT, Nat.reduceAdd, Nat.reduceMul, Nat.reduceSub, Nat.reduceEqDiff, Nat.reduceLeDiff, Nat.reduceBEq, reduceCtorEq, Int.reduceLT, Int.reduceLE, Int.reduceEq, Int.reduceNe, Nat.reducePow, F.f6]
      · simp -implicitDefEqProofs (maxDischargeDepth := 4) only [go_sem, ↓reduceIte, Nat.reduceLT, Nat.reduceAdd, Nat.reduceMul, Nat.reduceSub, Nat.reduceEqDiff, Nat.reduceLeDiff, Nat.reduceBEq, reduceCtorEq, Int.reduceLT, Int.reduceLE, Int.reduceEq, Int.reduceNe, Nat.reducePow, F.f7]
      · simp -implicitDefEqProofs (maxDischargeDepth := 4) only [go_sem, ↓reduceIte, Nat.reduceLT, Nat.reduceAdd, Nat.reduceMul, Nat.reduceSub, Nat.reduceEqDiff, Nat.reduceLeDiff, Nat.reduceBEq, reduceCtorEq, Int.reduceLT, Int.reduceLE, Int.reduceEq, Int.reduceNe, Nat.reducePow]
    · have hap : ∀ y : AV, apV 2 16 [y] (.lit (.slice none 0 0)) = some (.vec 2 .own [y]) := fun y => apV_none (show (0 + 1) * (16 + 1) ≤ 1099511627776 by decide) (by decide)
      rw [List.nil_append] at next
      simp -implicitDefEqProofs (maxDischargeDepth := 4) only [go_sem, ↓reduceIte, Nat.reduceLT, Nat.reduceAdd, Nat.reduceMul, Nat.reduceSub, Nat.reduceEqDiff, Nat.reduceLeDiff, Nat.reduceBEq, reduceCtorEq, Int.reduceLT, Int.reduceLE, Int.reduceEq, Int.reduceNe, Nat.reducePow, elAt_eq, stV_eq, cellsB_cells, hp_get_r, hp_get_r0, hp_get_l, hp_set_r, hp_set_r0, hp_set_l, hp_one, hp_ne, List.drop_succ_cons, List.drop_zero, List.take_succ_cons, List.take_zero, hG, F.f1, F.f3, F.f6, F.f7, F.f8, hlt, hb.notOwn, hb.shr, e1, c1, c2, hp, hg, build63', hap, w3]
      refine next _ _ ?_ ?_ ⟨?_, ?_, ?_, ?_, ?_⟩
      · rw [List.length_append, hG]; exact Nat.le_add_right _ _
      · rw [hp_get_l (by omega), hg]
      · simp -implicitDefEqProofs (maxDischargeDepth := 4) only [go_sem, ↓reduceIte, Nat.reduceLT, Nat.reduceAdd, Nat.reduceMul, Nat.reduceSub, Nat.reduceEqDiff, Nat.reduceLeDiff, Nat.reduceBEq, reduceCtorEq, Int.reduceLT, Int.reduceLE, Int.reduceEq, Int.reduceNe, Nat.reducePow, F.f1]
      · simp -implicitDefEqProofs (maxDischargeDepth := 4) only [go_sem, ↓reduceIte, Nat.reduceLT, Nat.reduceAdd, Nat.reduceMul, Nat.reduceSub, Nat.reduceEqDiff, Nat.reduceLeDiff, Nat.reduceBEq, reduceCtorEq, Int.reduceLT, Int.reduceLE, Int.reduceEq, Int.reduceNe, Nat.reducePow]
        rfl
      · simp -implicitDefEqProofs (maxDischargeDepth := 4) only [go_sem, ↓reduceIte, Nat.reduceLT, Nat.reduceAdd, Nat.reduceMul, Nat.reduceSub, Nat.reduceEqDiff, Nat.reduceLeDiff, Nat.reduceBEq, reduceCtorEq, Int.reduceLT, Int.reduceLE, Int.reduceEq, Int.reduceNe, Nat.reducePow, F.f6]
      · simp -implicitDefEqProofs (maxDischargeDepth := 4) only [go_sem, ↓reduceIte, Nat.reduceLT, Nat.reduceAdd, Nat.reduceMul, Nat.reduceSub, Nat.reduceEqDiff, Nat.reduceLeDiff, Nat.reduceBEq, reduceCtorEq, Int.reduceLT, Int.reduceLE, Int.reduceEq, Int.reduceNe, Nat.reducePow, F.f7]
      · simp -implicitDefEqProofs (maxDischargeDepth := 4) only [go_sem, ↓reduceIte, Nat.reduceLT, Nat.reduceAdd, Nat.reduceMul, Nat.reduceSub, Nat.reduceEqDiff, Nat.reduceLeDiff, Nat.reduceBEq, reduceCtorEq, Int.reduceLT, Int.reduceLE, Int.reduceEq, Int.reduceNe, Nat.reducePow]
end Go.Abs.Tab

/- Duals: a node's edges are moved; what a round of the loop over halves does. -/
set_option linter.unusedVariables false
namespace Go.Abs.Tab
open Go.Gr
theorem xapply_quiet {cx : Cx} {ro : Nat} {g : FuncId} {cap vs : List AV} {H : Hp} (hp : cx.pol.pure g = false) (hq : cx.pol.quiet g = true) : xapply cx (den cx) ro (.fn g cap) vs H = purely (callB cx (den cx) H.length g ((vs ++ cap).map drp) H) H.length H := by
  have : way cx g (vs ++ cap) = .quiet := by simp [way, hp, hq]
  simp only [xapply, this, docall, den_call_eq]
theorem Sl.frz_id' {sz n : Nat} {a : AV} {els : List AV} {H : Hp} (h : Sl sz a els) : Abs.frz n H a = a := by
  rcases h with rfl | rfl | ⟨rfl, _⟩ <;> rfl
theorem moved_call {H : Hp} {b : AV} {es : List (Int × Int)} (hb : Sl 2 b (es.map ed)) (hl : es.length < 2 ^ 20) {far : Int} {p : Nat} (hg : H[p]? = some (.cells 1 3 [iv far])) :
    ∃ v H', callB cx D H.length 123 [b, .ptr p 0 0] H = some (v, H') ∧ Sl 2 v ((es.map (mv far)).map ed) := by
  have hp := lt_of_get hg
  obtain ⟨fr1, e1, F⟩ : ∃ fr1 : PT, ex cx D H.length 123 24 (.seq (.region 0 g123_0 false) (.region 1 g123_1 false)) ((PT.nil.set 0 (drp b)).set 1 (drp (.ptr p 0 0))) H = some (.normal, fr1, H) ∧ VFr fr1 b p (.lit (.slice none 0 0)) es.length 0 := by
    simp -implicitDefEqProofs (maxDischargeDepth := 4) only [go_sem, ↓reduceIte, Nat.reduceLT, Nat.reduceAdd, Nat.reduceMul, Nat.reduceSub, Nat.reduceEqDiff, Nat.reduceLeDiff, Nat.reduceBEq, reduceCtorEq, Int.reduceLT, Int.reduceLE, Int.reduceEq, Int.reduceNe, Nat.reducePow, elAt_eq, stV_eq, cellsB_cells, hp_get_r, hp_get_r0, hp_get_l, hp_set_r, hp_set_r0, hp_set_l, hp_one, hp_ne, List.drop_succ_cons, List.drop_zero, List.take_succ_cons, List.take_zero, hb.drp, hb.shr, hb.notOwn, alen_sl hb, List.length_map]
    refine ⟨_, rfl, ?_, ?_, ?_, ?_, ?_⟩ <;> simp -implicitDefEqProofs (maxDischargeDepth := 4) only [go_sem, ↓reduceIte, Nat.reduceLT, Nat.reduceAdd, Nat.reduceMul, Nat.reduceSub, Nat.reduceEqDiff, Nat.reduceLeDiff, Nat.reduceBEq, reduceCtorEq, Int.reduceLT, Int.reduceLE, Int.reduceEq, Int.reduceNe, Nat.reducePow, Int.ofNat_zero]
  obtain ⟨fr2, G2, v2, e2, f3, hv⟩ := moved_loop (ro := H.length) (Nat.le_refl _) hb hl (far := far) hp rfl es.length 0 fr1 H _ _ (by omega) (by omega) rfl hg F rfl (.inr ⟨rfl, rfl⟩)
  obtain ⟨_, _, p1, p2⟩ := x_split e1
  have e3 : ex cx D H.length 123 24 (.block 0 (.loop l123_0)) fr1 H = some (.normal, fr2, G2) := by simp -implicitDefEqProofs (maxDischargeDepth := 4) only [go_sem, ↓reduceIte, Nat.reduceLT, Nat.reduceAdd, Nat.reduceMul, Nat.reduceSub, Nat.reduceEqDiff, Nat.reduceLeDiff, Nat.reduceBEq, reduceCtorEq, Int.reduceLT, Int.reduceLE, Int.reduceEq, Int.reduceNe, Nat.reducePow, x_loop, e2]
  refine ⟨shr v2, G2, ?_, hv.sl⟩
  rw [c123, x_cont1 p1, x_assoc, x_cont1 p2, x_cont1 e3]
  rcases hv with rfl | ⟨rfl, _⟩ <;> simp -implicitDefEqProofs (maxDischargeDepth := 4) only [go_sem, ↓reduceIte, Nat.reduceLT, Nat.reduceAdd, Nat.reduceMul, Nat.reduceSub, Nat.reduceEqDiff, Nat.reduceLeDiff, Nat.reduceBEq, reduceCtorEq, Int.reduceLT, Int.reduceLE, Int.reduceEq, Int.reduceNe, Nat.reducePow, f3]
theorem moved_ok {ro : Nat} {H : Hp} {b : AV} {es : List (Int × Int)} (hb : Sl 2 b (es.map ed)) (hl : es.length < 2 ^ 20) {far : Int} {p : Nat} (hg : H[p]? = some (.cells 1 3 [iv far])) :
    ∃ v, xapply cx D ro (.fn 123 [.ptr p 0 0]) [b] H = some (v, H) ∧ Sl 2 v ((es.map (mv far)).map ed) := by
  obtain ⟨v, H', h1, h2⟩ := moved_call hb hl hg
  refine ⟨v, ?_, h2⟩
  rw [xapply_quiet pu123 qu123, List.cons_append, List.nil_append, List.map_cons, List.map_cons, List.map_nil, hb.drp, show drp (.ptr p 0 0) = .ptr p 0 0 from rfl, h1]
  simp only [purely, Sl.frz_id' h2]

/-- what a round has before it: the table, what is told so far, the loop -/
structure B54 (z : Int) (G : Hp) (a v : AV) (st : LS) : Prop where
  b0 : G[0]? = some (.cells 1 56 [a])
  b1 : G[1]? = some (.cells 1 56 [v])
  b2 : G[2]? = some (.cells 1 3 [iv z])
  lp : ∃ rfr, G[3]? = some (.loop { fn := 54, nt := 46, fr := rfr, params := [21, 22], assign := q54_1, body := r54_1, state := st, pending := none }) ∧ rfr.get 1 = .ptr 0 0 0 ∧ rfr.get 5 = .ptr 1 0 0
theorem B54.grow {z : Int} {G L : Hp} {a v : AV} {st : LS} (B : B54 z G a v st) : B54 z (G ++ L) a v st := by
  obtain ⟨h0, h1, hz, rfr, h2, h3⟩ := B
  exact ⟨by rw [hp_get_l (lt_of_get h0), h0], by rw [hp_get_l (lt_of_get h1), h1], by rw [hp_get_l (lt_of_get hz), hz], rfr, by rw [hp_get_l (lt_of_get h2), h2], h3⟩
theorem B54.set {z : Int} {G : Hp} {a v : AV} {st : LS} (B : B54 z G a v st) {j : Nat} {x : ABlock} (hj : 4 ≤ j) : B54 z (G.set j x) a v st := by
  obtain ⟨h0, h1, hz, rfr, h2, h3⟩ := B
  exact ⟨by rw [hp_ne (by omega), h0], by rw [hp_ne (by omega), h1], by rw [hp_ne (by omega), hz], rfr, by rw [hp_ne (by omega), h2], h3⟩
theorem B54.set1 {z : Int} {G : Hp} {a v w : AV} {st : LS} (B : B54 z G a v st) : B54 z (G.set 1 (.cells 1 56 [w])) a w st := by
  obtain ⟨h0, h1, hz, rfr, h2, h3⟩ := B
  exact ⟨by rw [hp_ne (by decide), h0], by rw [hp_one (lt_of_get h1)], by rw [hp_ne (by decide), hz], rfr, by rw [hp_ne (by decide), h2], h3⟩
theorem B54.trim {z : Int} {G : Hp} {a v : AV} {st : LS} (B : B54 z G a v st) {m : Nat} (hm : 4 ≤ m) (hG : m ≤ G.length) (ha : ∀ m, kill m a = a) (hv : ∀ m, kill m v = v) (ka : killB m (.cells 1 56 [a]) = .cells 1 56 [a]) (kv : killB m (.cells 1 56 [v]) = .cells 1 56 [v]) : B54 z ((G.take m).map (killB m)) a v st := by
  obtain ⟨h0, h1, hz, rfr, h2, h3, h4⟩ := B
  refine ⟨?_, ?_, ?_, rfr.map (kill m), ?_, ?_, ?_⟩
  · rw [List.getElem?_map, List.getElem?_take_of_lt (by omega), h0, Option.map_some, ka]
  · rw [List.getElem?_map, List.getElem?_take_of_lt (by omega), h1, Option.map_some, kv]
  · rw [List.getElem?_map, List.getElem?_take_of_lt (by omega), hz]; rfl
  · rw [List.getElem?_map, List.getElem?_take_of_lt (by omega), h2]; rfl
  · rw [get_mapkill, h3, kill_ptr (by omega)]
  · rw [get_mapkill, h4, kill_ptr (by omega)]
structure TFr (fr : PT) (a : AV) (p6 p7 n i : Nat) : Prop where
  f1 : fr.get 1 = .ptr 0 0 0
  f5 : fr.get 5 = .ptr 1 0 0
  f6 : fr.get 6 = .ptr p6 0 0
  f8 : fr.get 8 = .fn 123 [.ptr p7 0 0]
  f24 : fr.get 24 = a
  f25 : fr.get 25 = iv n
  f26 : fr.get 26 = iv i
/-- a node of a half -/
def half (ks : List Int) (far : Int) (x y : Nd) : Prop := ks[x.kind.toNat]? = some y.kind ∧ y.prio = x.prio ∧ y.chan = x.chan ∧ y.pt = x.pt ∧ y.ps = x.ps ∧ y.es = x.es.map (mv far) ∧ NdOk y
end Go.Abs.Tab

/- Duals: one half of a dual table. -/
set_option linter.unusedVariables false
namespace Go.Abs.Tab
open Go.Gr
theorem fmc_quiet {cx : Cx} {H H' : Hp} {g : FuncId} {cap vs : List AV} (hp : cx.pol.pure g = false) (hq : cx.pol.quiet g = true) : fmCall cx H H' (.fn g cap) vs = .rdAll := by
  simp [fmCall, way, hp, hq]
theorem killB_v {v : AV} {els : List AV} (h : Grow 6 v els) (m : Nat) : killB m (.cells 1 56 [v]) = .cells 1 56 [v] := by
  rcases h with rfl | ⟨rfl, _⟩ <;> rfl
theorem killB_6 (ks : List Int) (m : Nat) : killB m (.cells 6 209 [.agg (ks.map iv)]) = .cells 6 209 [.agg (ks.map iv)] := by
  have : (ks.map iv).map (kill0 m) = ks.map iv := by rw [List.map_map]; rfl
  show ABlock.cells 6 209 [.agg ((ks.map iv).map (kill0 m))] = _
  rw [this]
theorem at209 {m p : Nat} (h : m < 6) : aindexAddr cx.T 209 (.ptr p 0 0) (iv m) = some (.ptr p 0 m) := by
  rw [aindexAddr_arr (m := 6) (sz := 1) ar209, if_pos h]
  simp
theorem wrap_succ {i : Nat} (h : i ≤ 1000) : wrapK .i64 ((i : Int) + 1) = ((i + 1 : Nat) : Int) := by rw [wrapK_i64 (by omega) (by omega)]; rfl
theorem nd0 {n i l : Nat} (h : n - i = 0) (hi : i ≤ n) (hl : l = i) : l = n := by omega
theorem nd3 {n i l o : Nat} (h : o + n ≤ 200) (hi : i ≤ n) (hl : l = i) : o + l ≤ 200 := by omega
theorem nd4 {j l i : Nat} (h : ¬ j < l) (h2 : j - l < 0 + 1) (hl : l = i) : j = i := by omega
theorem nd5 {l i : Nat} (hl : l = i) : i - l = 0 := by omega
theorem nd6 {n i o : Nat} (h : o + n ≤ 200) (hi : i ≤ n) : i ≤ 1000 := by omega
theorem tab_loop {z : Int} {ns : List Nd} {a : AV} (hns : NsOk ns a) (hk : ∀ x ∈ ns, (0 ≤ x.kind ∧ x.kind ≤ 5) ∧ x.es.length ≤ 8) {ks : List Int} (hks : ks.length = 6) {far : Int} {m p6 p7 : Nat} (h6 : 4 ≤ p6 ∧ p6 < m) (h7 : 4 ≤ p7 ∧ p7 < m) {os0 : List Nd} (h0 : os0.length + ns.length ≤ 200) :
    ∀ (d i : Nat) (fr : PT) (G : Hp) (v : AV) (new : List Nd), ns.length - i = d → i ≤ ns.length → G.length = m → B54 z G a v .busy → G[p6]? = some (.cells 6 209 [.agg (ks.map iv)]) → G[p7]? = some (.cells 1 3 [iv far]) → TFr fr a p6 p7 ns.length i →
      Grow 6 v ((os0 ++ new).map nodeV) → new.length = i → (∀ (j : Nat) (x y : Nd), ns[j]? = some x → new[j]? = some y → half ks far x y) →
      ∃ (fr' : PT) (G' : Hp) (new' : List Nd) (v' : AV), D.loop 0 54 46 l54_0 fr G = some (.exit 2, fr', G') ∧ G'.length = m ∧ B54 z G' a v' .busy ∧ Grow 6 v' ((os0 ++ new').map nodeV) ∧ new'.length = ns.length ∧ ∀ (j : Nat) (x y : Nd), ns[j]? = some x → new'[j]? = some y → half ks far x y
  | 0, i, fr, G, v, new, hd, hi, hG, B, g6, g7, F, hv, hl, hnew => by
    have hlt : ¬ ((i : Int) < (ns.length : Int)) := by omega
    rw [dl54_0]
    simp -implicitDefEqProofs (maxDischargeDepth := 4) only [go_sem, ↓reduceIte, Nat.reduceLT, Nat.reduceAdd, Nat.reduceMul, Nat.reduceSub, Nat.reduceEqDiff, Nat.reduceLeDiff, Nat.reduceBEq, reduceCtorEq, Int.reduceLT, Int.reduceLE, Int.reduceEq, Int.reduceNe, Nat.reducePow, elAt_eq, stV_eq, cellsB_cells, hp_get_r, hp_get_r0, hp_get_l, hp_set_r, hp_set_r0, hp_set_l, hp_one, hp_ne, List.drop_succ_cons, List.drop_zero, List.take_succ_cons, List.take_zero, F.f25, F.f26, hlt]
    have hll := nd0 hd hi hl
    refine ⟨_, _, new, v, rfl, hG, B, hv, hll, hnew⟩
  | d + 1, i, fr, G, v, new, hd, hi, hG, B, g6, g7, F, hv, hl, hnew => by
    have hlt : ((i : Int) < (ns.length : Int)) := Int.ofNat_lt.2 (nd2 hd)
    have w3 := wrap_succ (nd6 h0 hi)
    obtain ⟨x, hx⟩ := ex_nd (ns := ns) (i := i) (nd2 hd)
    have hat := hns.at hx
    have hmem := List.mem_of_getElem? hx
    have hs : Sl 2 x.nx (x.es.map ed) := hns.ok x hmem
    obtain ⟨hkx, hex⟩ := hk x hmem
    obtain ⟨k, hkk⟩ : ∃ k : Nat, x.kind = k := ⟨x.kind.toNat, by omega⟩
    have hk6 : k < 6 := by omega
    obtain ⟨kk, hkv⟩ : ∃ kk, ks[k]? = some kk := ⟨_, List.getElem?_eq_getElem (by omega)⟩
    have hkv' : (ks.map iv)[k]? = some (iv kk) := by rw [List.getElem?_map, hkv]; rfl
    have hia : aindexAddr cx.T 209 (.ptr p6 0 0) (iv x.kind) = some (.ptr p6 0 k) := by rw [hkk]; exact at209 hk6
    obtain ⟨w, hw, hws⟩ := moved_ok (ro := 0) (H := G ++ [.cells 6 66 [nodeV x]]) hs (Nat.lt_of_le_of_lt hex (by decide)) (far := far) (p := p7) (by rw [hp_get_l (by omega), g7])
    have b0 := B.b0
    have b1 := B.b1
    have m0 : 0 < m := by omega
    have m1 : 1 < m := by omega
    have e6 := h6.2
    have e7 := h7.2
    have hlen1 : ((os0 ++ new).map nodeV).length ≤ 200 := by rw [List.length_map, List.length_append]; exact nd3 h0 hi hl
    have hlen2 : ((os0 ++ new).map nodeV).length < 2 ^ 20 := Nat.lt_of_le_of_lt hlen1 (by decide)
    -- what is appended
    have next : ∀ (fr1 : PT) (G1 : Hp), m ≤ G1.length → B54 z G1 a (.vec 6 .own ((os0 ++ new).map nodeV ++ [nodeV { x with kind := kk, es := x.es.map (mv far), nx := w }])) .busy → G1[p6]? = some (.cells 6 209 [.agg (ks.map iv)]) → G1[p7]? = some (.cells 1 3 [iv far]) → TFr fr1 a p6 p7 ns.length (i + 1) →
        ∃ (fr' : PT) (G' : Hp) (new' : List Nd) (v' : AV), trimmed (D.loop 0 54 46 l54_0) m fr1 G1 = some (.exit 2, fr', G') ∧ G'.length = m ∧ B54 z G' a v' .busy ∧ Grow 6 v' ((os0 ++ new').map nodeV) ∧ new'.length = ns.length ∧ ∀ (j : Nat) (x y : Nd), ns[j]? = some x → new'[j]? = some y → half ks far x y := fun fr1 G1 hm1 B1 k6 k7 F1 => by
      have hgr : Grow 6 (.vec 6 .own ((os0 ++ new).map nodeV ++ [nodeV { x with kind := kk, es := x.es.map (mv far), nx := w }])) ((os0 ++ (new ++ [{ x with kind := kk, es := x.es.map (mv far), nx := w }])).map nodeV) := .inl (by rw [← List.append_assoc, List.map_append (l₁ := os0 ++ new)]; rfl)
      refine trim_I (P := fun zz => ∃ (fr' : PT) (G' : Hp) (new' : List Nd) (v' : AV), zz = some (.exit 2, fr', G') ∧ G'.length = m ∧ B54 z G' a v' .busy ∧ Grow 6 v' ((os0 ++ new').map nodeV) ∧ new'.length = ns.length ∧ ∀ (j : Nat) (x y : Nd), ns[j]? = some x → new'[j]? = some y → half ks far x y)
        (I := fun G => B54 z G a (.vec 6 .own ((os0 ++ new).map nodeV ++ [nodeV { x with kind := kk, es := x.es.map (mv far), nx := w }])) .busy)
        (fun hB hl => hB.trim (by omega) hl (kill_Sl hns.sl) (fun _ => rfl) (killB_a hns m) (killB_v hgr m)) B1 [1, 5, 6, 8, 24, 25, 26] hm1 (fun t ht => ?_) fun fr' G' hG' hB' hf hk' => ?_
      · simp only [List.mem_cons, List.not_mem_nil, or_false] at ht
        rcases ht with rfl | rfl | rfl | rfl | rfl | rfl | rfl
        · rw [F1.f1, kill_ptr m0]
        · rw [F1.f5, kill_ptr m1]
        · rw [F1.f6, kill_ptr e6]
        · rw [F1.f8]
          show (if _ then _ else _) = _
          rw [if_pos (by simp [e7])]
        · rw [F1.f24, kill_Sl hns.sl]
        · rw [F1.f25]; rfl
        · rw [F1.f26]; rfl
      · refine tab_loop hns hk hks h6 h7 h0 d (i + 1) fr' G' _ (new ++ [{ x with kind := kk, es := x.es.map (mv far), nx := w }]) (nd1 hd) (nd2 hd) hG' hB' (hk' p6 _ e6 k6 (killB_6 ks m)) (hk' p7 _ e7 k7 rfl)
          ⟨by rw [hf 1 (by simp), F1.f1], by rw [hf 5 (by simp), F1.f5], by rw [hf 6 (by simp), F1.f6], by rw [hf 8 (by simp), F1.f8], by rw [hf 24 (by simp), F1.f24], by rw [hf 25 (by simp), F1.f25], by rw [hf 26 (by simp), F1.f26]⟩ hgr (by rw [List.length_append, hl]; rfl) fun j x' y hj hy => ?_
        rw [List.getElem?_append] at hy
        split at hy
        · exact hnew j x' y hj hy
        · rename_i hjl
          have hlt2 := (List.getElem?_eq_some_iff.1 hy).1
          simp only [List.length_cons, List.length_nil] at hlt2
          have hji : j = i := nd4 hjl hlt2 hl
          subst hji
          rw [hx] at hj
          cases hj
          rw [nd5 hl] at hy
          cases hy
          exact ⟨by rw [hkk, Int.toNat_natCast]; exact hkv, rfl, rfl, rfl, rfl, rfl, hws⟩
    rw [dl54_0]
    rcases hv with rfl | ⟨rfl, hz⟩
    · have hap : ∀ y : AV, apV 6 64 [y] (.vec 6 .own ((os0 ++ new).map nodeV)) = some (.vec 6 .own ((os0 ++ new).map nodeV ++ [y])) := fun y => apV_own (ap_small6 hlen2) (by decide)
      simp -implicitDefEqProofs (maxDischargeDepth := 4) only [go_sem, ↓reduceIte, Nat.reduceLT, Nat.reduceAdd, Nat.reduceMul, Nat.reduceSub, Nat.reduceEqDiff, Nat.reduceLeDiff, Nat.reduceBEq, reduceCtorEq, Int.reduceLT, Int.reduceLE, Int.reduceEq, Int.reduceNe, Nat.reducePow, elAt_eq, stV_eq, cellsB_cells, hp_get_r, hp_get_r0, hp_get_l, hp_set_r, hp_set_r0, hp_set_l, hp_one, hp_ne, List.drop_succ_cons, List.drop_zero, List.take_succ_cons, List.take_zero, F.f1, F.f5, F.f6, F.f8, F.f24, F.f25, F.f26, hlt, hG, hns.sl.shr, hns.sl.notOwn, hat, hs.shr, hs.notOwn, hs.drp, hs.fitA, elP_Sl hs, hia, hkv', hw, hws.shr, hws.notOwn, hws.drp, hws.fitA, hws.cl0, fmc_quiet, pu123, qu123, b0, b1, g6, m0, m1, e6, e7, Nat.zero_le, Nat.not_lt_zero, nbeq, w3, hap, layB_res]
      refine next _ _ ?_ ?_ ?_ ?_ ⟨?_, ?_, ?_, ?_, ?_, ?_, ?_⟩
      · simp only [List.length_append, List.length_set, hG]; exact Nat.le_add_right _ _
      · exact B.set1.set1.grow
      · rw [hp_get_l (by simp only [List.length_set]; omega), hp_ne (by omega), hp_ne (by omega), g6]
      · rw [hp_get_l (by simp only [List.length_set]; omega), hp_ne (by omega), hp_ne (by omega), g7]
      · simp -implicitDefEqProofs (maxDischargeDepth := 4) only [go_sem, ↓reduceIte, Nat.reduceLT, Nat.reduceAdd, Nat.reduceMul, Nat.reduceSub, Nat.reduceEqDiff, Nat.reduceLeDiff, Nat.reduceBEq, reduceCtorEq, Int.reduceLT, Int.reduceLE, Int.reduceEq, Int.reduceNe, Nat.reducePow, F.f1]
      · simp -implicitDefEqProofs (maxDischargeDepth := 4) only [go_sem, ↓reduceIte, Nat.reduceLT, Nat.reduceAdd, Nat.reduceMul, Nat.reduceSub, Nat.reduceEqDiff, Nat.reduceLeDiff, Nat.reduceBEq, reduceCtorEq, Int.reduceLT, Int.reduceLE, Int.reduceEq, Int.reduceNe, Nat.reducePow, F.f5]
      · simp -implicitDefEqProofs (maxDischargeDepth := 4) only [go_sem, ↓reduceIte, Nat.reduceLT, Nat.reduceAdd, Nat.reduceMul, Nat.reduceSub, Nat.reduceEqDiff, Nat.reduceLeDiff, Nat.reduceBEq, reduceCtorEq, Int.reduceLT, Int.reduceLE, Int.reduceEq, Int.reduceNe, Nat.reducePow, F.f6]
      · simp -implicitDefEqProofs (maxDischargeDepth := 4) only [go_sem, ↓reduceIte, Nat.reduceLT, Nat.reduceAdd, Nat.reduceMul, Nat.reduceSub, Nat.reduceEqDiff, Nat.reduceLeDiff, Nat.reduceBEq, reduceCtorEq, Int.reduceLT, Int.reduceLE, Int.reduceEq, Int.reduceNe, Nat.reducePow, F.f8]
      · simp -implicitDefEqProofs (maxDischargeDepth := 4) only [go_sem, ↓reduceIte, Nat.reduceLT, Nat.reduceAdd, Nat.reduceMul, Nat.reduceSub, Nat.reduceEqDiff, Nat.reduceLeDiff, Nat.reduceBEq, reduceCtorEq, Int.reduceLT, Int.reduceLE, Int.reduceEq, Int.reduceNe, Nat.reducePow, F.f24]
      · simp -implicitDefEqProofs (maxDischargeDepth := 4) only [go_sem, ↓reduceIte, Nat.reduceLT, Nat.reduceAdd, Nat.reduceMul, Nat.reduceSub, Nat.reduceEqDiff, Nat.reduceLeDiff, Nat.reduceBEq, reduceCtorEq, Int.reduceLT, Int.reduceLE, Int.reduceEq, Int.reduceNe, Nat.reducePow, F.f25]
      · simp -implicitDefEqProofs (maxDischargeDepth := 4) only [go_sem, ↓reduceIte, Nat.reduceLT, Nat.reduceAdd, Nat.reduceMul, Nat.reduceSub, Nat.reduceEqDiff, Nat.reduceLeDiff, Nat.reduceBEq, reduceCtorEq, Int.reduceLT, Int.reduceLE, Int.reduceEq, Int.reduceNe, Nat.reducePow]
    · have hap : ∀ y : AV, apV 6 64 [y] (.lit (.slice none 0 0)) = some (.vec 6 .own [y]) := fun y => apV_none (show (0 + 1) * (64 + 1) ≤ 1099511627776 by decide) (by decide)
      rw [hz, List.nil_append] at next
      simp -implicitDefEqProofs (maxDischargeDepth := 4) only [go_sem, ↓reduceIte, Nat.reduceLT, Nat.reduceAdd, Nat.reduceMul, Nat.reduceSub, Nat.reduceEqDiff, Nat.reduceLeDiff, Nat.reduceBEq, reduceCtorEq, Int.reduceLT, Int.reduceLE, Int.reduceEq, Int.reduceNe, Nat.reducePow, elAt_eq, stV_eq, cellsB_cells, hp_get_r, hp_get_r0, hp_get_l, hp_set_r, hp_set_r0, hp_set_l, hp_one, hp_ne, List.drop_succ_cons, List.drop_zero, List.take_succ_cons, List.take_zero, F.f1, F.f5, F.f6, F.f8, F.f24, F.f25, F.f26, hlt, hG, hns.sl.shr, hns.sl.notOwn, hat, hs.shr, hs.notOwn, hs.drp, hs.fitA, elP_Sl hs, hia, hkv', hw, hws.shr, hws.notOwn, hws.drp, hws.fitA, hws.cl0, fmc_quiet, pu123, qu123, b0, b1, g6, m0, m1, e6, e7, Nat.zero_le, Nat.not_lt_zero, nbeq, w3, hap, layB_res]
      refine next _ _ ?_ ?_ ?_ ?_ ⟨?_, ?_, ?_, ?_, ?_, ?_, ?_⟩
      · simp only [List.length_append, List.length_set, hG]; exact Nat.le_add_right _ _
      · exact B.set1.grow
      · rw [hp_get_l (by rw [List.length_set]; omega), hp_ne (by omega), g6]
      · rw [hp_get_l (by rw [List.length_set]; omega), hp_ne (by omega), g7]
      · simp -implicitDefEqProofs (maxDischargeDepth := 4) only [go_sem, ↓reduceIte, Nat.reduceLT, Nat.reduceAdd, Nat.reduceMul, Nat.reduceSub, Nat.reduceEqDiff, Nat.reduceLeDiff, Nat.reduceBEq, reduceCtorEq, Int.reduceLT, Int.reduceLE, Int.reduceEq, Int.reduceNe, Nat.reducePow, F.f1]
      · simp -implicitDefEqProofs (maxDischargeDepth := 4) only [go_sem, ↓reduceIte, Nat.reduceLT, Nat.reduceAdd, Nat.reduceMul, Nat.reduceSub, Nat.reduceEqDiff, Nat.reduceLeDiff, Nat.reduceBEq, reduceCtorEq, Int.reduceLT, Int.reduceLE, Int.reduceEq, Int.reduceNe, Nat.reducePow, F.f5]
      · simp -implicitDefEqProofs (maxDischargeDepth := 4) only [go_sem, ↓reduceIte, Nat.reduceLT, Nat.reduceAdd, Nat.reduceMul, Nat.reduceSub, Nat.reduceEqDiff, Nat.reduceLeDiff, Nat.reduceBEq, reduceCtorEq, Int.reduceLT, Int.reduceLE, Int.reduceEq, Int.reduceNe, Nat.reducePow, F.f6]
      · simp -implicitDefEqProofs (maxDischargeDepth := 4) only [go_sem, ↓reduceIte, Nat.reduceLT, Nat.reduceAdd, Nat.reduceMul, Nat.reduceSub, Nat.reduceEqDiff, Nat.reduceLeDiff, Nat.reduceBEq, reduceCtorEq, Int.reduceLT, Int.reduceLE, Int.reduceEq, Int.reduceNe, Nat.reducePow, F.f8]
      · simp -implicitDefEqProofs (maxDischargeDepth := 4) only [go_sem, ↓reduceIte, Nat.reduceLT, Nat.reduceAdd, Nat.reduceMul, Nat.reduceSub, Nat.reduceEqDiff, Nat.reduceLeDiff, Nat.reduceBEq, reduceCtorEq, Int.reduceLT, Int.reduceLE, Int.reduceEq, Int.reduceNe, Nat.reducePow, F.f24]
      · simp -implicitDefEqProofs (maxDischargeDepth := 4) only [go_sem, ↓reduceIte, Nat.reduceLT, Nat.reduceAdd, Nat.reduceMul, Nat.reduceSub, Nat.reduceEqDiff, Nat.reduceLeDiff, Nat.reduceBEq, reduceCtorEq, Int.reduceLT, Int.reduceLE, Int.reduceEq, Int.reduceNe, Nat.reducePow, F.f25]
      · simp -implicitDefEqProofs (maxDischargeDepth := 4) only [go_sem, ↓reduceIte, Nat.reduceLT, Nat.reduceAdd, Nat.reduceMul, Nat.reduceSub, Nat.reduceEqDiff, Nat.reduceLeDiff, Nat.reduceBEq, reduceCtorEq, Int.reduceLT, Int.reduceLE, Int.reduceEq, Int.reduceNe, Nat.reducePow]
end Go.Abs.Tab

/- Duals: a round over a half, both halves, the table. -/
set_option linter.unusedVariables false
namespace Go.Abs.Tab
open Go.Gr
noncomputable abbrev lp54 (rfr : PT) (st : LS) : ALoop := { fn := 54, nt := 46, fr := rfr, params := [21, 22], assign := q54_1, body := r54_1, state := st, pending := none }
theorem B54.st {z : Int} {G : Hp} {a v : AV} {st : LS} (B : B54 z G a v st) (st' : LS) : ∃ rfr, G[3]? = some (.loop (lp54 rfr st)) ∧ B54 z (G.set 3 (.loop (lp54 rfr st'))) a v st' ∧ rfr.get 1 = .ptr 0 0 0 ∧ rfr.get 5 = .ptr 1 0 0 := by
  obtain ⟨h0, h1, hz, rfr, h2, h3⟩ := B
  exact ⟨rfr, h2, ⟨by rw [hp_ne (by decide), h0], by rw [hp_ne (by decide), h1], by rw [hp_ne (by decide), hz], rfr, by rw [hp_one (lt_of_get h2)], h3⟩, h3⟩
theorem round54 {z : Int} {ns : List Nd} {a : AV} (hns : NsOk ns a) (hk : ∀ x ∈ ns, (0 ≤ x.kind ∧ x.kind ≤ 5) ∧ x.es.length ≤ 8) {ks : List Int} (hks : ks.length = 6) {far : Int} {os0 : List Nd} (h0 : os0.length + ns.length ≤ 200)
    {G : Hp} {v : AV} (hG : 4 ≤ G.length) (B : B54 z G a v .ready) (hv : Grow 6 v (os0.map nodeV)) :
    ∃ (G' : Hp) (new : List Nd) (v' : AV), round D 0 3 [.agg (ks.map iv), iv far] G = some (bv true, G') ∧ 4 ≤ G'.length ∧ B54 z G' a v' .ready ∧ Grow 6 v' ((os0 ++ new).map nodeV) ∧ new.length = ns.length ∧ ∀ (j : Nat) (x y : Nd), ns[j]? = some x → new[j]? = some y → half ks far x y := by
  obtain ⟨len, hlen⟩ : ∃ len, G.length = len := ⟨_, rfl⟩
  obtain ⟨rfr, hl1, B1, r1, r5⟩ := (B.grow (L := [.cells 6 209 [.agg (ks.map iv)], .cells 1 3 [iv far]])).st .busy
  have hl0 := hl1
  rw [hp_get_l (by omega)] at hl0
  have hpl : ((ks.map iv).map shr) = ks.map iv := by rw [List.map_map]; rfl
  obtain ⟨fr1, e1, f1, f5, f6, f7⟩ : ∃ fr1 : PT, ex cx D 0 54 46 q54_1 (setArgs [(21, .agg (ks.map iv)), (22, iv far)] rfr) G = some (.normal, fr1, G ++ [.cells 6 209 [.agg (ks.map iv)], .cells 1 3 [iv far]]) ∧ fr1.get 1 = .ptr 0 0 0 ∧ fr1.get 5 = .ptr 1 0 0 ∧ fr1.get 6 = .ptr len 0 0 ∧ fr1.get 7 = .ptr (len + 1) 0 0 := by
    unfold q54_1
    simp -implicitDefEqProofs (maxDischargeDepth := 4) only [go_sem, ↓reduceIte, Nat.reduceLT, Nat.reduceAdd, Nat.reduceMul, Nat.reduceSub, Nat.reduceEqDiff, Nat.reduceLeDiff, Nat.reduceBEq, reduceCtorEq, Int.reduceLT, Int.reduceLE, Int.reduceEq, Int.reduceNe, Nat.reducePow, elAt_eq, stV_eq, cellsB_cells, hp_get_r, hp_get_r0, hp_get_l, hp_set_r, hp_set_r0, hp_set_l, hp_one, hp_ne, List.drop_succ_cons, List.drop_zero, List.take_succ_cons, List.take_zero, hlen, Nat.zero_le, Nat.not_lt_zero, hpl, List.length_map, hks]
    exact ⟨_, rfl, by simp -implicitDefEqProofs (maxDischargeDepth := 4) only [go_sem, ↓reduceIte, Nat.reduceLT, Nat.reduceAdd, Nat.reduceMul, Nat.reduceSub, Nat.reduceEqDiff, Nat.reduceLeDiff, Nat.reduceBEq, reduceCtorEq, Int.reduceLT, Int.reduceLE, Int.reduceEq, Int.reduceNe, Nat.reducePow, r1], by simp -implicitDefEqProofs (maxDischargeDepth := 4) only [go_sem, ↓reduceIte, Nat.reduceLT, Nat.reduceAdd, Nat.reduceMul, Nat.reduceSub, Nat.reduceEqDiff, Nat.reduceLeDiff, Nat.reduceBEq, reduceCtorEq, Int.reduceLT, Int.reduceLE, Int.reduceEq, Int.reduceNe, Nat.reducePow, r5], by simp -implicitDefEqProofs (maxDischargeDepth := 4) only [go_sem, ↓reduceIte, Nat.reduceLT, Nat.reduceAdd, Nat.reduceMul, Nat.reduceSub, Nat.reduceEqDiff, Nat.reduceLeDiff, Nat.reduceBEq, reduceCtorEq, Int.reduceLT, Int.reduceLE, Int.reduceEq, Int.reduceNe, Nat.reducePow], by simp -implicitDefEqProofs (maxDischargeDepth := 4) only [go_sem, ↓reduceIte, Nat.reduceLT, Nat.reduceAdd, Nat.reduceMul, Nat.reduceSub, Nat.reduceEqDiff, Nat.reduceLeDiff, Nat.reduceBEq, reduceCtorEq, Int.reduceLT, Int.reduceLE, Int.reduceEq, Int.reduceNe, Nat.reducePow]⟩
  obtain ⟨G1, hG1⟩ : ∃ G1, (G ++ [ABlock.cells 6 209 [.agg (ks.map iv)], .cells 1 3 [iv far]]).set 3 (.loop (lp54 rfr .busy)) = G1 := ⟨_, rfl⟩
  rw [hG1] at B1
  have l1 : G1.length = len + 2 := by rw [← hG1, List.length_set, List.length_append, hlen]; rfl
  have g6 : G1[len]? = some (.cells 6 209 [.agg (ks.map iv)]) := by rw [← hG1, hp_ne (by omega), hp_get_r0 hlen]; rfl
  have g7 : G1[len + 1]? = some (.cells 1 3 [iv far]) := by rw [← hG1, hp_ne (by omega), hp_get_r hlen]; rfl
  have b0 := B1.b0
  have ea : elP false 1 a 0 = some a := elP_Sl hns.sl
  obtain ⟨fr2, e2, F2⟩ : ∃ fr2 : PT, ex cx D 0 54 46 (.seq (.region 8 g54_8 false) (.region 9 g54_9 false)) fr1 G1 = some (.normal, fr2, G1) ∧ TFr fr2 a len (len + 1) ns.length 0 := by
    simp -implicitDefEqProofs (maxDischargeDepth := 4) only [go_sem, ↓reduceIte, Nat.reduceLT, Nat.reduceAdd, Nat.reduceMul, Nat.reduceSub, Nat.reduceEqDiff, Nat.reduceLeDiff, Nat.reduceBEq, reduceCtorEq, Int.reduceLT, Int.reduceLE, Int.reduceEq, Int.reduceNe, Nat.reducePow, elAt_eq, stV_eq, cellsB_cells, hp_get_r, hp_get_r0, hp_get_l, hp_set_r, hp_set_r0, hp_set_l, hp_one, hp_ne, List.drop_succ_cons, List.drop_zero, List.take_succ_cons, List.take_zero, f1, f7, b0, ea, hns.sl.shr, hns.sl.notOwn, alen_sl hns.sl, List.length_map]
    refine ⟨_, rfl, ?_, ?_, ?_, ?_, ?_, ?_, ?_⟩ <;> simp -implicitDefEqProofs (maxDischargeDepth := 4) only [go_sem, ↓reduceIte, Nat.reduceLT, Nat.reduceAdd, Nat.reduceMul, Nat.reduceSub, Nat.reduceEqDiff, Nat.reduceLeDiff, Nat.reduceBEq, reduceCtorEq, Int.reduceLT, Int.reduceLE, Int.reduceEq, Int.reduceNe, Nat.reducePow, f1, f5, f6, f7, Int.ofNat_zero]
  obtain ⟨fr3, G3, new, v', e3, l3, B3, hv3, hn3, hh3⟩ := tab_loop hns hk hks (far := far) (m := len + 2) (p6 := len) (p7 := len + 1) (by omega) (by omega) h0 ns.length 0 fr2 G1 v [] (by omega) (by omega) l1 B1 g6 g7 F2 (by rw [List.append_nil]; exact hv) rfl (fun j x y _ h => by cases h)
  obtain ⟨rfr3, hl3, B4, _, _⟩ := B3.st .ready
  obtain ⟨_, _, p1, p2⟩ := x_split e2
  have eb : ex cx D 0 54 46 (.block 2 (.loop l54_0)) fr2 G1 = some (.normal, fr3, G3) := by simp -implicitDefEqProofs (maxDischargeDepth := 4) only [go_sem, ↓reduceIte, Nat.reduceLT, Nat.reduceAdd, Nat.reduceMul, Nat.reduceSub, Nat.reduceEqDiff, Nat.reduceLeDiff, Nat.reduceBEq, reduceCtorEq, Int.reduceLT, Int.reduceLE, Int.reduceEq, Int.reduceNe, Nat.reducePow, x_loop, e3]
  have eB : ex cx D 0 54 46 r54_1 fr1 G1 = some (.normal, fr3, G3) := by
    unfold r54_1
    rw [x_block, x_cont1 p1, x_cont1 p2, eb]; rfl
  refine ⟨_, new, v', ?_, ?_, B4, hv3, hn3, hh3⟩
  · rw [round_eq hl0 (Nat.zero_le _) rfl rfl rfl, show setArgs ((lp54 rfr .ready).params.zip [.agg (ks.map iv), iv far]) (lp54 rfr .ready).fr = setArgs [(21, .agg (ks.map iv)), (22, iv far)] rfr from rfl,
      show ex cx (den cx) 0 (lp54 rfr .ready).fn (lp54 rfr .ready).nt (lp54 rfr .ready).assign = ex cx D 0 54 46 q54_1 from rfl, e1, bodyRound_eq hl1 rfl, show ({ lp54 rfr .ready with state := .busy } : ALoop) = lp54 rfr .busy from rfl, hG1, show ex cx (den cx) 0 (lp54 rfr .ready).fn (lp54 rfr .ready).nt (lp54 rfr .ready).body = ex cx D 0 54 46 r54_1 from rfl, eB, endRound_normal hl3]
  · rw [List.length_set]; omega
end Go.Abs.Tab

/- Duals: both halves, the table. -/
set_option linter.unusedVariables false
namespace Go.Abs.Tab
open Go.Gr
theorem trimmed_l {k : PT → Hp → Option Res} {n : Nat} {fr : PT} {H : Hp} (h : H.length = n) : trimmed k n fr H = k fr H := by
  unfold trimmed; rw [if_pos h]
theorem idx6 {ks : List Int} (hl : ks.length = 6) (h : ∀ j : Nat, j < 6 → ks[j]? = some (j : Int)) : ks = [0, 1, 2, 3, 4, 5] := by
  refine List.ext_getElem? fun j => ?_
  by_cases hj : j < 6
  · rw [h j hj]
    match j, hj with
    | 0, _ => rfl
    | 1, _ => rfl
    | 2, _ => rfl
    | 3, _ => rfl
    | 4, _ => rfl
    | 5, _ => rfl
  · rw [List.getElem?_eq_none (by omega), List.getElem?_eq_none (by simp; omega)]
theorem own158 {G : Hp} (hG : G.length = 4) {y : AV} {p : AV} : ∀ (d k : Nat) (fr : PT) (ks : List Int), k + d = 6 → ks.length = 6 → (∀ j : Nat, j < k → ks[j]? = some (j : Int)) → fr.get 0 = y → fr.get 1 = p → fr.get 3 = .ptr 4 0 0 → fr.get 6 = iv k →
    ∃ fr' : PT, D.loop 0 158 20 l158_0 fr (G ++ [.cells 6 209 [.agg (ks.map iv)]]) = some (.exit 0, fr', G ++ [.cells 6 209 [.agg [iv 0, iv 1, iv 2, iv 3, iv 4, iv 5]]]) ∧ fr'.get 0 = y ∧ fr'.get 1 = p ∧ fr'.get 3 = .ptr 4 0 0
  | 0, k, fr, ks, hd, hl, hks, f0, f1, f3, f6 => by
    have hk : k = 6 := by omega
    subst hk
    rw [idx6 hl hks, dl158_0]
    have hlt : ¬ (((6 : Nat) : Int) < 6) := by decide
    simp -implicitDefEqProofs (maxDischargeDepth := 4) only [go_sem, ↓reduceIte, Nat.reduceLT, Nat.reduceAdd, Nat.reduceMul, Nat.reduceSub, Nat.reduceEqDiff, Nat.reduceLeDiff, Nat.reduceBEq, reduceCtorEq, Int.reduceLT, Int.reduceLE, Int.reduceEq, Int.reduceNe, Nat.reducePow, elAt_eq, stV_eq, cellsB_cells, hp_get_r, hp_get_r0, hp_get_l, hp_set_r, hp_set_r0, hp_set_l, hp_one, hp_ne, List.drop_succ_cons, List.drop_zero, List.take_succ_cons, List.take_zero, f6, hlt]
    exact ⟨_, rfl, by simp -implicitDefEqProofs (maxDischargeDepth := 4) only [go_sem, ↓reduceIte, Nat.reduceLT, Nat.reduceAdd, Nat.reduceMul, Nat.reduceSub, Nat.reduceEqDiff, Nat.reduceLeDiff, Nat.reduceBEq, reduceCtorEq, Int.reduceLT, Int.reduceLE, Int.reduceEq, Int.reduceNe, Nat.reducePow, f0], by simp -implicitDefEqProofs (maxDischargeDepth := 4) only [go_sem, ↓reduceIte, Nat.reduceLT, Nat.reduceAdd, Nat.reduceMul, Nat.reduceSub, Nat.reduceEqDiff, Nat.reduceLeDiff, Nat.reduceBEq, reduceCtorEq, Int.reduceLT, Int.reduceLE, Int.reduceEq, Int.reduceNe, Nat.reducePow, f1], by simp -implicitDefEqProofs (maxDischargeDepth := 4) only [go_sem, ↓reduceIte, Nat.reduceLT, Nat.reduceAdd, Nat.reduceMul, Nat.reduceSub, Nat.reduceEqDiff, Nat.reduceLeDiff, Nat.reduceBEq, reduceCtorEq, Int.reduceLT, Int.reduceLE, Int.reduceEq, Int.reduceNe, Nat.reducePow, f3]⟩
  | d + 1, k, fr, ks, hd, hl, hks, f0, f1, f3, f6 => by
    have hlt : ((k : Int) < 6) := by omega
    have hk6 : k < 6 := by omega
    have w3 := wrap_succ (show k ≤ 1000 by omega)
    have hia := at209 (p := 4) hk6
    have hset : (ks.map iv).set k (iv k) = (ks.set k k).map iv := by rw [List.map_set]
    have hlen : k < (ks.map iv).length := by rw [List.length_map]; omega
    rw [dl158_0]
    simp -implicitDefEqProofs (maxDischargeDepth := 4) only [go_sem, ↓reduceIte, Nat.reduceLT, Nat.reduceAdd, Nat.reduceMul, Nat.reduceSub, Nat.reduceEqDiff, Nat.reduceLeDiff, Nat.reduceBEq, reduceCtorEq, Int.reduceLT, Int.reduceLE, Int.reduceEq, Int.reduceNe, Nat.reducePow, elAt_eq, stV_eq, cellsB_cells, hp_get_r, hp_get_r0, hp_get_l, hp_set_r, hp_set_r0, hp_set_l, hp_one, hp_ne, List.drop_succ_cons, List.drop_zero, List.take_succ_cons, List.take_zero, f3, f6, hlt, hG, hia, elS_cell, hlen, hset, Nat.not_lt_zero, w3]
    have hT := fun (f : PT) (x : ABlock) => trimmed_l (k := D.loop 0 158 20 l158_0) (n := 5) (fr := f) (H := G ++ [x]) (by rw [List.length_append, hG]; rfl)
    rw [hT]
    refine own158 hG d (k + 1) _ (ks.set k k) (by omega) (by rw [List.length_set, hl]) (fun j hj => ?_) (by simp -implicitDefEqProofs (maxDischargeDepth := 4) only [go_sem, ↓reduceIte, Nat.reduceLT, Nat.reduceAdd, Nat.reduceMul, Nat.reduceSub, Nat.reduceEqDiff, Nat.reduceLeDiff, Nat.reduceBEq, reduceCtorEq, Int.reduceLT, Int.reduceLE, Int.reduceEq, Int.reduceNe, Nat.reducePow, f0]) (by simp -implicitDefEqProofs (maxDischargeDepth := 4) only [go_sem, ↓reduceIte, Nat.reduceLT, Nat.reduceAdd, Nat.reduceMul, Nat.reduceSub, Nat.reduceEqDiff, Nat.reduceLeDiff, Nat.reduceBEq, reduceCtorEq, Int.reduceLT, Int.reduceLE, Int.reduceEq, Int.reduceNe, Nat.reducePow, f1]) (by simp -implicitDefEqProofs (maxDischargeDepth := 4) only [go_sem, ↓reduceIte, Nat.reduceLT, Nat.reduceAdd, Nat.reduceMul, Nat.reduceSub, Nat.reduceEqDiff, Nat.reduceLeDiff, Nat.reduceBEq, reduceCtorEq, Int.reduceLT, Int.reduceLE, Int.reduceEq, Int.reduceNe, Nat.reducePow, f3]) (by simp -implicitDefEqProofs (maxDischargeDepth := 4) only [go_sem, ↓reduceIte, Nat.reduceLT, Nat.reduceAdd, Nat.reduceMul, Nat.reduceSub, Nat.reduceEqDiff, Nat.reduceLeDiff, Nat.reduceBEq, reduceCtorEq, Int.reduceLT, Int.reduceLE, Int.reduceEq, Int.reduceNe, Nat.reducePow])
    rw [List.getElem?_set]
    split
    · rename_i h; subst h; rw [if_pos (by omega)]
    · exact hks j (by omega)
theorem lt_hp {G : Hp} {m j : Nat} (hG : G.length = m) (h : j < m) : j < G.length := by omega
/-- dual.halves$1, with the loop of dual.Table -/
theorem halves_call {ns : List Nd} {a : AV} (hns : NsOk ns a) (hk : ∀ x ∈ ns, (0 ≤ x.kind ∧ x.kind ≤ 5) ∧ x.es.length ≤ 8) (hl : ns.length ≤ 64) {G : Hp} (hG : G.length = 4) (B : B54 ns.length G a (.lit (.slice none 0 0)) .ready) :
    ∃ (G' : Hp) (n1 n2 : List Nd) (v' : AV), callB cx D 0 158 [.yld 3, .ptr 2 0 0] G = some (.tup [], G') ∧ 4 ≤ G'.length ∧ B54 ns.length G' a v' .ready ∧ Grow 6 v' ((n1 ++ n2).map nodeV) ∧ n1.length = ns.length ∧ n2.length = ns.length ∧
      (∀ (j : Nat) (x y : Nd), ns[j]? = some x → n1[j]? = some y → half [0, 1, 2, 3, 4, 5] 0 x y) ∧ ∀ (j : Nat) (x y : Nd), ns[j]? = some x → n2[j]? = some y → half [0, 2, 1, 4, 3, 5] ns.length x y := by
  obtain ⟨fr1, e1, f0, f1, f3, f6⟩ : ∃ fr1 : PT, ex cx D 0 158 20 (.seq (.region 0 g158_0 false) (.region 1 g158_1 false)) ((PT.nil.set 0 (drp (.yld 3))).set 1 (drp (.ptr 2 0 0))) G = some (.normal, fr1, G ++ [.cells 6 209 [.agg (([0, 2, 1, 4, 3, 5] : List Int).map iv)]]) ∧ fr1.get 0 = .yld 3 ∧ fr1.get 1 = .ptr 2 0 0 ∧ fr1.get 3 = .ptr 4 0 0 ∧ fr1.get 6 = iv (0 : Nat) := by
    simp -implicitDefEqProofs (maxDischargeDepth := 4) only [go_sem, ↓reduceIte, Nat.reduceLT, Nat.reduceAdd, Nat.reduceMul, Nat.reduceSub, Nat.reduceEqDiff, Nat.reduceLeDiff, Nat.reduceBEq, reduceCtorEq, Int.reduceLT, Int.reduceLE, Int.reduceEq, Int.reduceNe, Nat.reducePow, elAt_eq, stV_eq, cellsB_cells, hp_get_r, hp_get_r0, hp_get_l, hp_set_r, hp_set_r0, hp_set_l, hp_one, hp_ne, List.drop_succ_cons, List.drop_zero, List.take_succ_cons, List.take_zero, other_ok, hG, Nat.zero_le, Nat.not_lt_zero]
    exact ⟨_, rfl, by simp -implicitDefEqProofs (maxDischargeDepth := 4) only [go_sem, ↓reduceIte, Nat.reduceLT, Nat.reduceAdd, Nat.reduceMul, Nat.reduceSub, Nat.reduceEqDiff, Nat.reduceLeDiff, Nat.reduceBEq, reduceCtorEq, Int.reduceLT, Int.reduceLE, Int.reduceEq, Int.reduceNe, Nat.reducePow], by simp -implicitDefEqProofs (maxDischargeDepth := 4) only [go_sem, ↓reduceIte, Nat.reduceLT, Nat.reduceAdd, Nat.reduceMul, Nat.reduceSub, Nat.reduceEqDiff, Nat.reduceLeDiff, Nat.reduceBEq, reduceCtorEq, Int.reduceLT, Int.reduceLE, Int.reduceEq, Int.reduceNe, Nat.reducePow], by simp -implicitDefEqProofs (maxDischargeDepth := 4) only [go_sem, ↓reduceIte, Nat.reduceLT, Nat.reduceAdd, Nat.reduceMul, Nat.reduceSub, Nat.reduceEqDiff, Nat.reduceLeDiff, Nat.reduceBEq, reduceCtorEq, Int.reduceLT, Int.reduceLE, Int.reduceEq, Int.reduceNe, Nat.reducePow], by simp -implicitDefEqProofs (maxDischargeDepth := 4) only [go_sem, ↓reduceIte, Nat.reduceLT, Nat.reduceAdd, Nat.reduceMul, Nat.reduceSub, Nat.reduceEqDiff, Nat.reduceLeDiff, Nat.reduceBEq, reduceCtorEq, Int.reduceLT, Int.reduceLE, Int.reduceEq, Int.reduceNe, Nat.reducePow, Int.ofNat_zero]⟩
  obtain ⟨fr2, e2, k0, k1, k3⟩ := own158 hG 6 0 fr1 [0, 2, 1, 4, 3, 5] rfl rfl (fun j h => by omega) f0 f1 f3 f6
  obtain ⟨G1, n1, v1, q1, l1, B1, hv1, hn1, hh1⟩ := round54 hns hk (ks := [0, 1, 2, 3, 4, 5]) rfl (far := 0) (os0 := []) (by simp; omega) (G := G ++ [.cells 6 209 [.agg [iv 0, iv 1, iv 2, iv 3, iv 4, iv 5]]]) (by rw [List.length_append, hG]; decide) B.grow (.inr ⟨rfl, rfl⟩)
  obtain ⟨G2, n2, v2, q2, l2, B2, hv2, hn2, hh2⟩ := round54 hns hk (ks := [0, 2, 1, 4, 3, 5]) rfl (far := ns.length) (os0 := n1) (by omega) l1 B1 (by rw [List.nil_append] at hv1; exact hv1)
  have z1 := B1.b2
  have z2 : G2[2]? = G1[2]? := by rw [B2.b2, B1.b2]
  obtain ⟨_, _, p1, p2⟩ := x_split e1
  have eb : ex cx D 0 158 20 (.block 0 (.loop l158_0)) fr1 (G ++ [.cells 6 209 [.agg (([0, 2, 1, 4, 3, 5] : List Int).map iv)]]) = some (.normal, fr2, G ++ [.cells 6 209 [.agg [iv 0, iv 1, iv 2, iv 3, iv 4, iv 5]]]) := by rw [x_block, x_loop, e2]; rfl
  refine ⟨G2, n1, n2, v2, ?_, l2, B2, hv2, hn1, hn2, hh1, hh2⟩
  simp only [List.map_cons, List.map_nil] at q1 q2
  rw [c158, x_cont1 p1, x_assoc, x_cont1 p2, x_cont1 eb]
  simp -implicitDefEqProofs (maxDischargeDepth := 4) only [go_sem, ↓reduceIte, Nat.reduceLT, Nat.reduceAdd, Nat.reduceMul, Nat.reduceSub, Nat.reduceEqDiff, Nat.reduceLeDiff, Nat.reduceBEq, reduceCtorEq, Int.reduceLT, Int.reduceLE, Int.reduceEq, Int.reduceNe, Nat.reducePow, elAt_eq, stV_eq, cellsB_cells, hp_get_r, hp_get_r0, hp_get_l, hp_set_r, hp_set_r0, hp_set_l, hp_one, hp_ne, List.drop_succ_cons, List.drop_zero, List.take_succ_cons, List.take_zero, k0, k1, k3, hG, q1, other_ok, z1, q2, kpAs_of, z2]
end Go.Abs.Tab

/- dual.Table. -/
set_option linter.unusedVariables false
namespace Go.Abs.Tab
open Go.Gr
theorem chkA_good {N : Int} : ∀ {l : List Nd} {i : Nat}, chkA N i l = none → ∀ x ∈ l, shp x = true ∧ opn N x = false
  | [], _, _, x, hx => by cases hx
  | y :: ys, i, h, x, hx => by
    simp only [chkA] at h
    split at h
    · cases h
    · rename_i h1
      split at h
      · cases h
      · rename_i h2
        rcases List.mem_cons.1 hx with rfl | hx
        · exact ⟨by simpa using h1, by simpa using h2⟩
        · exact chkA_good h x hx
structure Good (ns : List Nd) : Prop where
  pos : 1 ≤ ns.length
  le : ns.length ≤ 64
  sh : ∀ x ∈ ns, shp x = true
  cl : ∀ x ∈ ns, opn ns.length x = false
  nb : chkB ns ns.length 0 = (-1, 0)
theorem chk_good {ns : List Nd} (h : (chk ns).2 = 0) : Good ns := by
  unfold chk at h
  split at h
  · exact absurd h (show (2 : Int) ≠ 0 by decide)
  · split at h
    · exact absurd h (show (4 : Int) ≠ 0 by decide)
    · cases hc : chkA ns.length 0 ns with
      | some r => rw [hc] at h; exact absurd h (chkA_ne hc)
      | none =>
        rw [hc] at h
        have hg := chkA_good hc
        exact ⟨by omega, by omega, fun x hx => (hg x hx).1, fun x hx => (hg x hx).2, chkB_zero h⟩
theorem shp_kind {x : Nd} (h : shp x = true) : 0 ≤ x.kind ∧ x.kind ≤ 5 := by
  unfold shp at h
  simp only [Bool.and_eq_true] at h
  exact inB_iff.1 h.1.1.1.1.1
theorem halves_mk {ro : Nat} {H : Hp} (hro : ro ≤ H.length) (n : Int) : callB cx D ro 122 [iv n] H = some (.fn 158 [.ptr H.length 0 0], H ++ [.cells 1 3 [iv n]]) := by
  obtain ⟨m, hm⟩ : ∃ m, H.length = m := ⟨_, rfl⟩
  have c1 : ∀ j, ro ≤ m + j := fun j => by omega
  rw [hm] at hro ⊢
  rw [c122]
  simp -implicitDefEqProofs (maxDischargeDepth := 4) only [go_sem, ↓reduceIte, Nat.reduceLT, Nat.reduceAdd, Nat.reduceMul, Nat.reduceSub, Nat.reduceEqDiff, Nat.reduceLeDiff, Nat.reduceBEq, reduceCtorEq, Int.reduceLT, Int.reduceLE, Int.reduceEq, Int.reduceNe, Nat.reducePow, elAt_eq, stV_eq, cellsB_cells, hp_get_r, hp_get_r0, hp_get_l, hp_set_r, hp_set_r0, hp_set_l, hp_one, hp_ne, List.drop_succ_cons, List.drop_zero, List.take_succ_cons, List.take_zero, hm, hro, c1]
/-- the dual table of a table that may be -/
structure DualOk (ns : List Nd) (v : AV) (n1 n2 : List Nd) : Prop where
  sl : Sl 6 v ((n1 ++ n2).map nodeV)
  l1 : n1.length = ns.length
  l2 : n2.length = ns.length
  h1 : ∀ (j : Nat) (x y : Nd), ns[j]? = some x → n1[j]? = some y → half [0, 1, 2, 3, 4, 5] 0 x y
  h2 : ∀ (j : Nat) (x y : Nd), ns[j]? = some x → n2[j]? = some y → half [0, 2, 1, 4, 3, 5] ns.length x y
theorem table_bad {ns : List Nd} {a : AV} (hns : NsOk ns a) (h0 : ¬ (chk ns).2 = 0) : ∃ H', callB cx D 0 54 [a] [] = some (.lit (.slice none 0 0), H') := by
  have h48 := chk_ok hns
  unfold errV at h48
  have ea : elP false 1 a 0 = some a := elP_Sl hns.sl
  rw [c54]
  simp -implicitDefEqProofs (maxDischargeDepth := 4) only [go_sem, ↓reduceIte, Nat.reduceLT, Nat.reduceAdd, Nat.reduceMul, Nat.reduceSub, Nat.reduceEqDiff, Nat.reduceLeDiff, Nat.reduceBEq, reduceCtorEq, Int.reduceLT, Int.reduceLE, Int.reduceEq, Int.reduceNe, Nat.reducePow, elAt_eq, stV_eq, cellsB_cells, hp_get_r, hp_get_r0, hp_get_l, hp_set_r, hp_set_r0, hp_set_l, hp_one, hp_ne, List.drop_succ_cons, List.drop_zero, List.take_succ_cons, List.take_zero, hns.sl.shr, hns.sl.notOwn, hns.sl.drp, hns.sl.fitA, hns.sl.shut1, ea, h48, h0, Nat.zero_le, Nat.le_refl]
  exact ⟨_, rfl⟩
theorem table_call {ns : List Nd} {a : AV} (hns : NsOk ns a) (h0 : (chk ns).2 = 0) : ∃ v H' n1 n2, callB cx D 0 54 [a] [] = some (v, H') ∧ DualOk ns v n1 n2 := by
  have h48 := chk_ok hns
  unfold errV at h48
  have ea : elP false 1 a 0 = some a := elP_Sl hns.sl
  have hg := chk_good h0
  rw [h0] at h48
  have hk : ∀ x ∈ ns, (0 ≤ x.kind ∧ x.kind ≤ 5) ∧ x.es.length ≤ 8 := fun x hx => ⟨shp_kind (hg.sh x hx), shp_len (hg.sh x hx)⟩
  have hmk := halves_mk (ro := 0) (H := [.cells 1 56 [a], .cells 1 56 [.lit (.slice none 0 0)]]) (Nat.zero_le _) ns.length
  obtain ⟨fr0, e0, k1⟩ : ∃ fr0 : PT, ex cx D 0 54 46 (.region 0 g54_0 false) (PT.nil.set 0 (drp a)) [] = some (.normal, fr0, [.cells 1 56 [a]]) ∧ fr0.get 1 = .ptr 0 0 0 := by
    simp -implicitDefEqProofs (maxDischargeDepth := 4) only [go_sem, ↓reduceIte, Nat.reduceLT, Nat.reduceAdd, Nat.reduceMul, Nat.reduceSub, Nat.reduceEqDiff, Nat.reduceLeDiff, Nat.reduceBEq, reduceCtorEq, Int.reduceLT, Int.reduceLE, Int.reduceEq, Int.reduceNe, Nat.reducePow, elAt_eq, stV_eq, cellsB_cells, hp_get_r, hp_get_r0, hp_get_l, hp_set_r, hp_set_r0, hp_set_l, hp_one, hp_ne, List.drop_succ_cons, List.drop_zero, List.take_succ_cons, List.take_zero, hns.sl.shr, hns.sl.notOwn, hns.sl.drp, hns.sl.fitA, Nat.zero_le, Nat.le_refl]
    exact ⟨_, rfl, by simp -implicitDefEqProofs (maxDischargeDepth := 4) only [go_sem, ↓reduceIte, Nat.reduceLT, Nat.reduceAdd, Nat.reduceMul, Nat.reduceSub, Nat.reduceEqDiff, Nat.reduceLeDiff, Nat.reduceBEq, reduceCtorEq, Int.reduceLT, Int.reduceLE, Int.reduceEq, Int.reduceNe, Nat.reducePow]⟩
  obtain ⟨fr1, e1, j1⟩ : ∃ fr1 : PT, ex cx D 0 54 46 (.seq (.region 1 g54_1 false) (.seq (.region 2 g54_2 false) (.cond (.tmp 17) (.seq (.region 3 g54_3 false) .ret) .skip))) fr0 [.cells 1 56 [a]] = some (.normal, fr1, [.cells 1 56 [a]]) ∧ fr1.get 1 = .ptr 0 0 0 := by
    simp -implicitDefEqProofs (maxDischargeDepth := 4) only [go_sem, ↓reduceIte, Nat.reduceLT, Nat.reduceAdd, Nat.reduceMul, Nat.reduceSub, Nat.reduceEqDiff, Nat.reduceLeDiff, Nat.reduceBEq, reduceCtorEq, Int.reduceLT, Int.reduceLE, Int.reduceEq, Int.reduceNe, Nat.reducePow, elAt_eq, stV_eq, cellsB_cells, hp_get_r, hp_get_r0, hp_get_l, hp_set_r, hp_set_r0, hp_set_l, hp_one, hp_ne, List.drop_succ_cons, List.drop_zero, List.take_succ_cons, List.take_zero, k1, hns.sl.shr, hns.sl.notOwn, hns.sl.drp, hns.sl.shut1, ea, h48]
    exact ⟨_, rfl, by simp -implicitDefEqProofs (maxDischargeDepth := 4) only [go_sem, ↓reduceIte, Nat.reduceLT, Nat.reduceAdd, Nat.reduceMul, Nat.reduceSub, Nat.reduceEqDiff, Nat.reduceLeDiff, Nat.reduceBEq, reduceCtorEq, Int.reduceLT, Int.reduceLE, Int.reduceEq, Int.reduceNe, Nat.reducePow, k1]⟩
  obtain ⟨fr2, e2, f1, f5, f20⟩ : ∃ fr2 : PT, ex cx D 0 54 46 (.seq (.region 4 g54_4 false) (.region 5 g54_5 false)) fr1 [.cells 1 56 [a]] = some (.normal, fr2, [.cells 1 56 [a], .cells 1 56 [.lit (.slice none 0 0)], .cells 1 3 [iv ns.length]]) ∧ fr2.get 1 = .ptr 0 0 0 ∧ fr2.get 5 = .ptr 1 0 0 ∧ fr2.get 20 = .fn 158 [.ptr 2 0 0] := by
    simp -implicitDefEqProofs (maxDischargeDepth := 4) only [go_sem, ↓reduceIte, Nat.reduceLT, Nat.reduceAdd, Nat.reduceMul, Nat.reduceSub, Nat.reduceEqDiff, Nat.reduceLeDiff, Nat.reduceBEq, reduceCtorEq, Int.reduceLT, Int.reduceLE, Int.reduceEq, Int.reduceNe, Nat.reducePow, elAt_eq, stV_eq, cellsB_cells, hp_get_r, hp_get_r0, hp_get_l, hp_set_r, hp_set_r0, hp_set_l, hp_one, hp_ne, List.drop_succ_cons, List.drop_zero, List.take_succ_cons, List.take_zero, j1, hns.sl.shr, hns.sl.notOwn, hns.sl.drp, alen_sl hns.sl, List.length_map, ea, hmk, Nat.zero_le, Nat.le_refl]
    exact ⟨_, rfl, by simp -implicitDefEqProofs (maxDischargeDepth := 4) only [go_sem, ↓reduceIte, Nat.reduceLT, Nat.reduceAdd, Nat.reduceMul, Nat.reduceSub, Nat.reduceEqDiff, Nat.reduceLeDiff, Nat.reduceBEq, reduceCtorEq, Int.reduceLT, Int.reduceLE, Int.reduceEq, Int.reduceNe, Nat.reducePow, j1], by simp -implicitDefEqProofs (maxDischargeDepth := 4) only [go_sem, ↓reduceIte, Nat.reduceLT, Nat.reduceAdd, Nat.reduceMul, Nat.reduceSub, Nat.reduceEqDiff, Nat.reduceLeDiff, Nat.reduceBEq, reduceCtorEq, Int.reduceLT, Int.reduceLE, Int.reduceEq, Int.reduceNe, Nat.reducePow], by simp -implicitDefEqProofs (maxDischargeDepth := 4) only [go_sem, ↓reduceIte, Nat.reduceLT, Nat.reduceAdd, Nat.reduceMul, Nat.reduceSub, Nat.reduceEqDiff, Nat.reduceLeDiff, Nat.reduceBEq, reduceCtorEq, Int.reduceLT, Int.reduceLE, Int.reduceEq, Int.reduceNe, Nat.reducePow]⟩
  obtain ⟨G', n1, n2, v', q1, ql, B, hv, l1, l2, hh1, hh2⟩ := halves_call hns hk hg.le (G := [.cells 1 56 [a], .cells 1 56 [.lit (.slice none 0 0)], .cells 1 3 [iv ns.length], .loop (lp54 (fr2.map drp) .ready)]) rfl
    ⟨rfl, rfl, rfl, _, rfl, by rw [get_mapdrp, f1]; rfl, by rw [get_mapdrp, f5]; rfl⟩
  have q1' : D.call 0 158 [.yld 3, .ptr 2 0 0] [.cells 1 56 [a], .cells 1 56 [.lit (.slice none 0 0)], .cells 1 3 [iv ns.length], .loop (lp54 (fr2.map drp) .ready)] = some (.tup [], G') := by rw [den_call_eq]; exact q1
  obtain ⟨rfr, hl3, _, _, _⟩ := B.st .ready
  have q3 : ex cx D 0 54 46 (.block 0 (.rangeFunc (.tmp 20) #[21, 22] q54_1 r54_1)) fr2 [.cells 1 56 [a], .cells 1 56 [.lit (.slice none 0 0)], .cells 1 3 [iv ns.length]] = some (.normal, fr2, G'.set 3 (.loop { lp54 rfr .ready with state := .exhausted })) := by
    have : ex cx D 0 54 46 (.rangeFunc (.tmp 20) #[21, 22] q54_1 r54_1) fr2 [.cells 1 56 [a], .cells 1 56 [.lit (.slice none 0 0)], .cells 1 3 [iv ns.length]] = endLoop 3 fr2 (some (.tup [], G')) := by
      rw [x_range, ev_tmp, f20, shr_fn, ranged_fn, ← q1']; rfl
    rw [x_block, this, endLoop_eq hl3 (show LS.ready ≠ LS.busy by decide)]; rfl
  have b1 : (G'.set 3 (.loop { lp54 rfr .ready with state := .exhausted }))[1]? = some (.cells 1 56 [v']) := by rw [hp_ne (by decide), B.b1]
  obtain ⟨_, _, p4, p5⟩ := x_split e2
  obtain ⟨G4, hG4⟩ : ∃ G4, G'.set 3 (.loop { lp54 rfr .ready with state := .exhausted }) = G4 := ⟨_, rfl⟩
  rw [hG4] at q3 b1
  have run : callB cx D 0 54 [a] [] = some (shr v', G4) := by
    rw [c54, x_cont1 e0, x_cont1 e1, x_cont1 p4, x_assoc, x_cont1 p5, x_cont1 q3]
    rcases hv with rfl | ⟨rfl, _⟩ <;> simp -implicitDefEqProofs (maxDischargeDepth := 4) only [go_sem, ↓reduceIte, Nat.reduceLT, Nat.reduceAdd, Nat.reduceMul, Nat.reduceSub, Nat.reduceEqDiff, Nat.reduceLeDiff, Nat.reduceBEq, reduceCtorEq, Int.reduceLT, Int.reduceLE, Int.reduceEq, Int.reduceNe, Nat.reducePow, elAt_eq, stV_eq, cellsB_cells, hp_get_r, hp_get_r0, hp_get_l, hp_set_r, hp_set_r0, hp_set_l, hp_one, hp_ne, List.drop_succ_cons, List.drop_zero, List.take_succ_cons, List.take_zero, f5, b1]
  exact ⟨shr v', G4, n1, n2, run, hv.sl, l1, l2, hh1, hh2⟩
theorem table_ok {ns : List Nd} {a : AV} (hns : NsOk ns a) (h0 : (chk ns).2 = 0) : ∃ v n1 n2, pcall D 54 [a] = some v ∧ DualOk ns v n1 n2 := by
  obtain ⟨v, H', n1, n2, h1, h2⟩ := table_call hns h0
  refine ⟨v, n1, n2, ?_, h2⟩
  rw [pcall_eq (v := v) (H' := H') (by rw [List.map_cons, List.map_nil, hns.sl.cl2]; exact h1), Sl.frz_id' h2.sl]
theorem table_no {ns : List Nd} {a : AV} (hns : NsOk ns a) (h0 : ¬ (chk ns).2 = 0) : pcall D 54 [a] = some (.lit (.slice none 0 0)) := by
  obtain ⟨H', h1⟩ := table_bad hns h0
  rw [pcall_eq (v := .lit (.slice none 0 0)) (H' := H') (by rw [List.map_cons, List.map_nil, hns.sl.cl2]; exact h1)]
  rfl
end Go.Abs.Tab

/- Duals: mates, the chapter's second table. -/
set_option linter.unusedVariables false
namespace Go.Abs.Tab
open Go.Gr
def matesB (ns : List Nd) (x y : Int × Int) : Bool :=
  let r := wlk ns ns.length x.1 x.2
  let s := wlk ns ns.length y.1 y.2
  decide ((ns.length : Int).tmod 2 = 0) && decide (0 ≤ r.1) && decide (0 ≤ s.1) && decide (r.2 = s.2) && decide (mate (wrapK .i64 ((ns.length : Int).tdiv 2)) r.1 = s.1)
theorem mates_call {ns : List Nd} {a : AV} (hns : NsOk ns a) (x y : Int × Int) : ∃ H', callB cx D 0 61 [a, tyV x, tyV y] [] = some (bv (matesB ns x y), H') := by
  have r1 := res51_ok hns x.1 x.2
  have r2 := res51_ok hns y.1 y.2
  unfold matesB
  generalize wlk ns ns.length x.1 x.2 = r at *
  generalize wlk ns ns.length y.1 y.2 = s at *
  obtain ⟨x1, x2⟩ := x
  obtain ⟨y1, y2⟩ := y
  obtain ⟨m1, o1⟩ := r
  obtain ⟨m2, o2⟩ := s
  dsimp only at r1 r2 ⊢
  have h2 : (2 : Int) ≠ 0 := by decide
  have hm := fun p q => mate_ok p q
  rw [c61]
  cases d1 : decide ((ns.length : Int).tmod 2 = 0) with
  | false =>
    simp -implicitDefEqProofs (maxDischargeDepth := 4) only [go_sem, ↓reduceIte, Nat.reduceLT, Nat.reduceAdd, Nat.reduceMul, Nat.reduceSub, Nat.reduceEqDiff, Nat.reduceLeDiff, Nat.reduceBEq, reduceCtorEq, Int.reduceLT, Int.reduceLE, Int.reduceEq, Int.reduceNe, Nat.reducePow, elAt_eq, stV_eq, cellsB_cells, hp_get_r, hp_get_r0, hp_get_l, hp_set_r, hp_set_r0, hp_set_l, hp_one, hp_ne, List.drop_succ_cons, List.drop_zero, List.take_succ_cons, List.take_zero, hns.sl.shr, hns.sl.notOwn, hns.sl.drp, hns.sl.shut1, hns.sl.lenRd, alen_sl hns.sl, List.length_map, r1, r2, h2, hm, d1, Nat.zero_le, Nat.not_lt_zero, nbeq]
    exact ⟨_, rfl⟩
  | true =>
    cases d2 : decide (0 ≤ m1) with
    | false =>
      simp -implicitDefEqProofs (maxDischargeDepth := 4) only [go_sem, ↓reduceIte, Nat.reduceLT, Nat.reduceAdd, Nat.reduceMul, Nat.reduceSub, Nat.reduceEqDiff, Nat.reduceLeDiff, Nat.reduceBEq, reduceCtorEq, Int.reduceLT, Int.reduceLE, Int.reduceEq, Int.reduceNe, Nat.reducePow, elAt_eq, stV_eq, cellsB_cells, hp_get_r, hp_get_r0, hp_get_l, hp_set_r, hp_set_r0, hp_set_l, hp_one, hp_ne, List.drop_succ_cons, List.drop_zero, List.take_succ_cons, List.take_zero, hns.sl.shr, hns.sl.notOwn, hns.sl.drp, hns.sl.shut1, hns.sl.lenRd, alen_sl hns.sl, List.length_map, r1, r2, h2, hm, d1, d2, Nat.zero_le, Nat.not_lt_zero, nbeq]
      exact ⟨_, rfl⟩
    | true =>
      cases d3 : decide (0 ≤ m2) with
      | false =>
        simp -implicitDefEqProofs (maxDischargeDepth := 4) only [go_sem, ↓reduceIte, Nat.reduceLT, Nat.reduceAdd, Nat.reduceMul, Nat.reduceSub, Nat.reduceEqDiff, Nat.reduceLeDiff, Nat.reduceBEq, reduceCtorEq, Int.reduceLT, Int.reduceLE, Int.reduceEq, Int.reduceNe, Nat.reducePow, elAt_eq, stV_eq, cellsB_cells, hp_get_r, hp_get_r0, hp_get_l, hp_set_r, hp_set_r0, hp_set_l, hp_one, hp_ne, List.drop_succ_cons, List.drop_zero, List.take_succ_cons, List.take_zero, hns.sl.shr, hns.sl.notOwn, hns.sl.drp, hns.sl.shut1, hns.sl.lenRd, alen_sl hns.sl, List.length_map, r1, r2, h2, hm, d1, d2, d3, Nat.zero_le, Nat.not_lt_zero, nbeq]
        exact ⟨_, rfl⟩
      | true =>
        cases d4 : decide (o1 = o2) with
        | false =>
          simp -implicitDefEqProofs (maxDischargeDepth := 4) only [go_sem, ↓reduceIte, Nat.reduceLT, Nat.reduceAdd, Nat.reduceMul, Nat.reduceSub, Nat.reduceEqDiff, Nat.reduceLeDiff, Nat.reduceBEq, reduceCtorEq, Int.reduceLT, Int.reduceLE, Int.reduceEq, Int.reduceNe, Nat.reducePow, elAt_eq, stV_eq, cellsB_cells, hp_get_r, hp_get_r0, hp_get_l, hp_set_r, hp_set_r0, hp_set_l, hp_one, hp_ne, List.drop_succ_cons, List.drop_zero, List.take_succ_cons, List.take_zero, hns.sl.shr, hns.sl.notOwn, hns.sl.drp, hns.sl.shut1, hns.sl.lenRd, alen_sl hns.sl, List.length_map, r1, r2, h2, hm, d1, d2, d3, d4, Nat.zero_le, Nat.not_lt_zero, nbeq]
          exact ⟨_, rfl⟩
        | true =>
          simp -implicitDefEqProofs (maxDischargeDepth := 4) only [go_sem, ↓reduceIte, Nat.reduceLT, Nat.reduceAdd, Nat.reduceMul, Nat.reduceSub, Nat.reduceEqDiff, Nat.reduceLeDiff, Nat.reduceBEq, reduceCtorEq, Int.reduceLT, Int.reduceLE, Int.reduceEq, Int.reduceNe, Nat.reducePow, elAt_eq, stV_eq, cellsB_cells, hp_get_r, hp_get_r0, hp_get_l, hp_set_r, hp_set_r0, hp_set_l, hp_one, hp_ne, List.drop_succ_cons, List.drop_zero, List.take_succ_cons, List.take_zero, hns.sl.shr, hns.sl.notOwn, hns.sl.drp, hns.sl.shut1, hns.sl.lenRd, alen_sl hns.sl, List.length_map, r1, r2, h2, hm, d1, d2, d3, d4, Nat.zero_le, Nat.not_lt_zero, nbeq]
          exact ⟨_, rfl⟩
theorem mates_ok {ns : List Nd} {a : AV} (hns : NsOk ns a) (x y : Int × Int) : pcall D 61 [a, tyV x, tyV y] = some (bv (matesB ns x y)) := by
  obtain ⟨H', h⟩ := mates_call hns x y
  rw [pcall_eq (v := bv (matesB ns x y)) (H' := H') (by rw [List.map_cons, List.map_cons, List.map_cons, List.map_nil, hns.sl.cl2]; exact h)]
  rfl
end Go.Abs.Tab

/- Duals: the chapter's second table. -/
set_option linter.unusedVariables false
namespace Go.Abs.Tab
open Go.Gr
theorem build66_w (k : Int) (c : Bool) (t s : Int) (l : List AV) : abuild cx.T 66 [(0, iv k), (2, bv c), (3, .agg [iv t, iv s]), (4, .vec 2 .exact l)] = some (.agg [iv k, iv 0, bv c, iv t, iv s, .vec 2 .exact l]) := nr (by kernel_rfl)
def wds : List Nd := [mkNd 2 0 true 1 4 [(0, 1)], niN 0 0 false 0 0]
abbrev wdV : AV := .vec 6 .exact [.agg [iv 2, iv 0, bv true, iv 1, iv 4, .vec 2 .exact [.agg [iv 0, iv 1]]], .agg [iv 0, iv 0, bv false, iv 0, iv 0, .lit (.slice none 0 0)]]
theorem wds_ok : NsOk wds wdV := by
  refine ⟨.inl rfl, fun x hx => ?_, by decide⟩
  simp only [wds, List.mem_cons, List.not_mem_nil, or_false] at hx
  rcases hx with rfl | rfl
  · exact mkNd_ok _ _ _ _ _ _
  · exact niN_ok _ _ _ _ _
theorem DualOk.nsOk {ns n1 n2 : List Nd} {v : AV} (h : DualOk ns v n1 n2) (hl : ns.length ≤ 64) : NsOk (n1 ++ n2) v := by
  refine ⟨h.sl, fun y hy => ?_, ?_⟩
  · rw [List.mem_append] at hy
    rcases hy with hy | hy
    · obtain ⟨j, hj⟩ := List.getElem?_of_mem hy
      have hlt := (List.getElem?_eq_some_iff.1 hj).1
      obtain ⟨x, hx⟩ := ex_nd (ns := ns) (i := j) (by rw [← h.l1]; exact hlt)
      exact (h.h1 j x y hx hj).2.2.2.2.2.2
    · obtain ⟨j, hj⟩ := List.getElem?_of_mem hy
      have hlt := (List.getElem?_eq_some_iff.1 hj).1
      obtain ⟨x, hx⟩ := ex_nd (ns := ns) (i := j) (by rw [← h.l2]; exact hlt)
      exact (h.h2 j x y hx hj).2.2.2.2.2.2
  · rw [List.length_append, h.l1, h.l2]
    have : ns.length + ns.length ≤ 128 := by omega
    exact Nat.lt_of_le_of_lt this (by decide)
theorem dworks_call : ∃ H', callB cx D 0 59 [] [] = some (bv true, H') := by
  obtain ⟨v, n1, n2, h54, hd⟩ := table_ok wds_ok (by decide)
  have hos := hd.nsOk (by decide)
  obtain ⟨hsl, l1, l2, hh1, hh2⟩ := hd
  match n1, n2, l1, l2 with
  | [y0, y1], [y2, y3], _, _ =>
    have a0 := hh1 0 _ y0 rfl rfl
    have a2 := hh2 0 _ y2 rfl rfl
    have a3 := hh2 1 _ y3 rfl rfl
    obtain ⟨k0, p0, c0, t0, s0, e0, x0⟩ := y0
    obtain ⟨k2, p2, c2, t2, s2, e2, x2⟩ := y2
    obtain ⟨k3, p3, c3, t3, s3, e3, x3⟩ := y3
    obtain ⟨q1, q2, q3, q4, q5, q6, q7⟩ := a2
    obtain ⟨r1, _, _, _, _, _, _⟩ := a3
    obtain ⟨z1, _, _, _, _, _, _⟩ := a0
    have e1 : (1 : Int) = k2 := Option.some.inj q1
    have e3' : (0 : Int) = k3 := Option.some.inj r1
    have e0' : (2 : Int) = k0 := Option.some.inj z1
    subst e1 e3' e0'
    dsimp only [mkNd] at q2 q3 q4 q5 q6
    subst q2 q3 q4 q5 q6
    have hat2 := hos.at (m := 2) rfl
    have hat3 := hos.at (m := 3) rfl
    have hs2 : Sl 2 x2 (([(0, 1)].map (mv 2)).map ed) := q7
    have hat2' : aindexAddr cx.T 56 v (iv 2) = some (.vp (.agg [iv 1, iv 0, bv true, iv 1, iv 4, x2]) 0) := hat2
    have hat3' : aindexAddr cx.T 56 v (iv 3) = some (.vp (.agg [iv 0, iv p3, bv c3, iv t3, iv s3, x3]) 0) := hat3
    have hed : aindexAddr cx.T 64 x2 (iv 0) = some (.vp (.agg [iv 2, iv 1]) 0) := at_ed hs2 (show 0 < ([(0, 1)].map (mv 2)).length by decide)
    have hml := mates_ok hos (0, 7) (2, 7)
    have hmB : matesB (([⟨2, p0, c0, t0, s0, e0, x0⟩, y1] ++ [⟨1, 0, true, 1, 4, [(0, 1)].map (mv wds.length), x2⟩, ⟨0, p3, c3, t3, s3, e3, x3⟩]) : List Nd) (0, 7) (2, 7) = true := by
      have hw0 : wlk (([⟨2, p0, c0, t0, s0, e0, x0⟩, y1] ++ [⟨1, 0, true, 1, 4, [(0, 1)].map (mv wds.length), x2⟩, ⟨0, p3, c3, t3, s3, e3, x3⟩]) : List Nd) (([⟨2, p0, c0, t0, s0, e0, x0⟩, y1] ++ [⟨1, 0, true, 1, 4, [(0, 1)].map (mv wds.length), x2⟩, ⟨0, p3, c3, t3, s3, e3, x3⟩]) : List Nd).length ((0, 7) : Int × Int).1 ((0, 7) : Int × Int).2 = (0, 7) := wlk_ne (k := 3) (x := ⟨2, p0, c0, t0, s0, e0, x0⟩) rfl (show (2 : Int) ≠ 5 by decide)
      have hw2 : wlk (([⟨2, p0, c0, t0, s0, e0, x0⟩, y1] ++ [⟨1, 0, true, 1, 4, [(0, 1)].map (mv wds.length), x2⟩, ⟨0, p3, c3, t3, s3, e3, x3⟩]) : List Nd) (([⟨2, p0, c0, t0, s0, e0, x0⟩, y1] ++ [⟨1, 0, true, 1, 4, [(0, 1)].map (mv wds.length), x2⟩, ⟨0, p3, c3, t3, s3, e3, x3⟩]) : List Nd).length ((2, 7) : Int × Int).1 ((2, 7) : Int × Int).2 = (2, 7) := wlk_ne (k := 3) (x := ⟨1, 0, true, 1, 4, [(0, 1)].map (mv wds.length), x2⟩) rfl (show (1 : Int) ≠ 5 by decide)
      unfold matesB
      rw [hw0, hw2]
      show (decide (((4 : Nat) : Int).tmod 2 = 0) && decide ((0 : Int) ≤ 0) && decide ((0 : Int) ≤ 2) && decide ((7 : Int) = 7) && decide (mate (wrapK .i64 (((4 : Nat) : Int).tdiv 2)) 0 = 2)) = true
      decide
    rw [hmB] at hml
    have hm1 := mate_ok 2 0
    have hm2 := mate_ok 2 3
    rw [show mate 2 0 = 2 by decide] at hm1
    rw [show mate 2 3 = 1 by decide] at hm2
    have hpe := pair_eql eqt63
    have hl4 : ∀ H, alen cx.T 56 H v = some (iv 4) := fun H => alen_sl hos.sl (by rw [sl56]; rfl)
    have hl1 : ∀ H, alen cx.T 64 H x2 = some (iv 1) := fun H => alen_sl hs2 (by rw [sl64]; rfl)
    rw [c59]
    simp -implicitDefEqProofs (maxDischargeDepth := 4) only [go_sem, ↓reduceIte, Nat.reduceLT, Nat.reduceAdd, Nat.reduceMul, Nat.reduceSub, Nat.reduceEqDiff, Nat.reduceLeDiff, Nat.reduceBEq, reduceCtorEq, Int.reduceLT, Int.reduceLE, Int.reduceEq, Int.reduceNe, Nat.reducePow, elAt_eq, stV_eq, cellsB_cells, hp_get_r, hp_get_r0, hp_get_l, hp_set_r, hp_set_r0, hp_set_l, hp_one, hp_ne, List.drop_succ_cons, List.drop_zero, List.take_succ_cons, List.take_zero, build63', build66_w, build66_0, h54, hos.sl.shr, hos.sl.notOwn, hos.sl.shut1, hl4, hl1, hat2', hat3', hs2.shr, hs2.notOwn, elP_Sl hs2, hed, hpe, hm1, hm2, build61b, build61, hml]
    exact ⟨_, rfl⟩
end Go.Abs.Tab

/- Duals: nodes that are the same. -/
set_option linter.unusedVariables false
namespace Go.Abs.Tab
open Go.Gr
theorem dworks_ok : pcall D 59 [] = some (bv true) := by
  obtain ⟨H', h⟩ := dworks_call
  rw [pcall_eq (vs := []) (v := bv true) (H' := H') (by rw [List.map_nil]; exact h)]
  rfl
abbrev ndB (k p : Int) (c : Bool) (t s : Int) (v : AV) : ABlock := .cells 6 66 [.agg [iv k, iv p, bv c, iv t, iv s, v]]
theorem same_loop {k p pt ps : Int} {c : Bool} {nx ny : AV} {es : List (Int × Int)} (hx : Sl 2 nx (es.map ed)) (hy : Sl 2 ny (es.map ed)) (hl : es.length ≤ 8) :
    ∀ (m i : Nat) (fr : PT), es.length - i = m → i ≤ es.length → fr.get 2 = .ptr 0 0 0 → fr.get 3 = .ptr 1 0 0 → fr.get 5 = iv i →
    ∃ fr' : PT, D.loop 0 56 59 l56_0 fr [ndB k p c pt ps nx, ndB k p c pt ps ny] = some (.exit 0, fr', [ndB k p c pt ps nx, ndB k p c pt ps ny])
  | 0, i, fr, hm, hi, h2, h3, h5 => by
    have hn : ¬ ((i : Int) < (es.length : Int)) := by omega
    rw [dl56_0]
    simp -implicitDefEqProofs (maxDischargeDepth := 4) only [go_sem, ↓reduceIte, Nat.reduceLT, Nat.reduceAdd, Nat.reduceMul, Nat.reduceSub, Nat.reduceEqDiff, Nat.reduceLeDiff, Nat.reduceBEq, reduceCtorEq, Int.reduceLT, Int.reduceLE, Int.reduceEq, Int.reduceNe, Nat.reducePow, elAt_eq, stV_eq, cellsB_cells, hp_get_r, hp_get_r0, hp_get_l, hp_set_r, hp_set_r0, hp_set_l, hp_one, hp_ne, List.drop_succ_cons, List.drop_zero, List.take_succ_cons, List.take_zero, h2, h3, h5, hx.shr, elP_Sl hx, alen_sl hx, List.length_map, hn]
    exact ⟨_, rfl⟩
  | m + 1, i, fr, hm, hi, h2, h3, h5 => by
    have hn : ((i : Int) < (es.length : Int)) := by omega
    have e1 := at_ed hx (show i < es.length by omega)
    have e2 := at_ed hy (show i < es.length by omega)
    have w3 : wrapK .i64 ((i : Int) + 1) = ((i + 1 : Nat) : Int) := by rw [wrapK_i64 (by omega) (by omega)]; rfl
    have hpe := pair_neq eqt63
    rw [dl56_0]
    simp -implicitDefEqProofs (maxDischargeDepth := 4) only [go_sem, ↓reduceIte, Nat.reduceLT, Nat.reduceAdd, Nat.reduceMul, Nat.reduceSub, Nat.reduceEqDiff, Nat.reduceLeDiff, Nat.reduceBEq, reduceCtorEq, Int.reduceLT, Int.reduceLE, Int.reduceEq, Int.reduceNe, Nat.reducePow, elAt_eq, stV_eq, cellsB_cells, hp_get_r, hp_get_r0, hp_get_l, hp_set_r, hp_set_r0, hp_set_l, hp_one, hp_ne, List.drop_succ_cons, List.drop_zero, List.take_succ_cons, List.take_zero, h2, h3, h5, hx.shr, hy.shr, elP_Sl hx, elP_Sl hy, alen_sl hx, alen_sl hy, List.length_map, hn, e1, e2, hpe, w3, nbeq]
    exact same_loop hx hy hl m (i + 1) _ (by omega) (by omega) (by simp -implicitDefEqProofs (maxDischargeDepth := 4) only [go_sem, ↓reduceIte, Nat.reduceLT, Nat.reduceAdd, Nat.reduceMul, Nat.reduceSub, Nat.reduceEqDiff, Nat.reduceLeDiff, Nat.reduceBEq, reduceCtorEq, Int.reduceLT, Int.reduceLE, Int.reduceEq, Int.reduceNe, Nat.reducePow, h2]) (by simp -implicitDefEqProofs (maxDischargeDepth := 4) only [go_sem, ↓reduceIte, Nat.reduceLT, Nat.reduceAdd, Nat.reduceMul, Nat.reduceSub, Nat.reduceEqDiff, Nat.reduceLeDiff, Nat.reduceBEq, reduceCtorEq, Int.reduceLT, Int.reduceLE, Int.reduceEq, Int.reduceNe, Nat.reducePow, h3]) (by simp -implicitDefEqProofs (maxDischargeDepth := 4) only [go_sem, ↓reduceIte, Nat.reduceLT, Nat.reduceAdd, Nat.reduceMul, Nat.reduceSub, Nat.reduceEqDiff, Nat.reduceLeDiff, Nat.reduceBEq, reduceCtorEq, Int.reduceLT, Int.reduceLE, Int.reduceEq, Int.reduceNe, Nat.reducePow])
theorem same_call {k p pt ps : Int} {c : Bool} {nx ny : AV} {es : List (Int × Int)} (hx : Sl 2 nx (es.map ed)) (hy : Sl 2 ny (es.map ed)) (hl : es.length ≤ 8) :
    ∃ H', callB cx D 0 56 [.agg [iv k, iv p, bv c, iv pt, iv ps, nx], .agg [iv k, iv p, bv c, iv pt, iv ps, ny]] [] = some (bv true, H') := by
  obtain ⟨FL, hL⟩ := skol (fun (fr : PT) (h : fr.get 2 = .ptr 0 0 0 ∧ fr.get 3 = .ptr 1 0 0 ∧ fr.get 5 = iv 0) => same_loop (k := k) (p := p) (pt := pt) (ps := ps) (c := c) hx hy hl es.length 0 fr (by omega) (by omega) h.1 h.2.1 h.2.2)
  have c1 := fun (fr : PT) a b d => hL fr ⟨a, b, d⟩
  have hpe := pair_neq eqt63
  rw [c56]
  simp -implicitDefEqProofs (maxDischargeDepth := 4) only [go_sem, ↓reduceIte, Nat.reduceLT, Nat.reduceAdd, Nat.reduceMul, Nat.reduceSub, Nat.reduceEqDiff, Nat.reduceLeDiff, Nat.reduceBEq, reduceCtorEq, Int.reduceLT, Int.reduceLE, Int.reduceEq, Int.reduceNe, Nat.reducePow, elAt_eq, stV_eq, cellsB_cells, hp_get_r, hp_get_r0, hp_get_l, hp_set_r, hp_set_r0, hp_set_l, hp_one, hp_ne, List.drop_succ_cons, List.drop_zero, List.take_succ_cons, List.take_zero, hx.shr, hy.shr, hx.drp, hy.drp, hx.fitA, hy.fitA, hx.notOwn, hy.notOwn, elP_Sl hx, elP_Sl hy, alen_sl hx, alen_sl hy, List.length_map, hpe, x_loop, c1, Nat.zero_le, Nat.le_refl]
  exact ⟨_, rfl⟩
theorem same_ok {x y : Nd} (hx : NdOk x) (hy : NdOk y) (hl : x.es.length ≤ 8) (h1 : y.kind = x.kind) (h2 : y.prio = x.prio) (h3 : y.chan = x.chan) (h4 : y.pt = x.pt) (h5 : y.ps = x.ps) (h6 : y.es = x.es) : pcall D 56 [nodeV x, nodeV y] = some (bv true) := by
  obtain ⟨k, p, c, t, s, es, nx⟩ := x
  obtain ⟨k', p', c', t', s', es', ny⟩ := y
  dsimp only at h1 h2 h3 h4 h5 h6
  subst h1 h2 h3 h4 h5 h6
  have sx : Sl 2 nx (es'.map ed) := hx
  have sy : Sl 2 ny (es'.map ed) := hy
  obtain ⟨H', h⟩ := same_call (k := k') (p := p') (pt := t') (ps := s') (c := c') sx sy hl
  rw [pcall_eq (v := bv true) (H' := H') (by
    rw [List.map_cons, List.map_cons, List.map_nil]
    show callB cx D 0 56 [.agg ((nodeC ⟨k', p', c', t', s', es', nx⟩).map Abs.cl0), .agg ((nodeC ⟨k', p', c', t', s', es', ny⟩).map Abs.cl0)] [] = _
    simp only [List.map_cons, List.map_nil, cl0_lit, sx.cl0, sy.cl0]; exact h)]
  rfl
end Go.Abs.Tab
