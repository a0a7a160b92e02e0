/- Duals: the document's table. -/
import Derived.Test.YtiinagmombigpaaDuaB
set_option linter.unusedSimpArgs false
set_option linter.unusedVariables false
set_option linter.unnecessarySimpa false

/- Duals: the document's table. -/
set_option linter.unusedVariables false
namespace Go.Abs.Tab
open Go.Gr
abbrev ks1 : List Int := [0, 1, 2, 3, 4, 5]
abbrev ks2 : List Int := [0, 2, 1, 4, 3, 5]
theorem k6 {k : Int} (h : 0 ≤ k ∧ k ≤ 5) : k = 0 ∨ k = 1 ∨ k = 2 ∨ k = 3 ∨ k = 4 ∨ k = 5 := by omega
theorem ks1_at {k : Int} (h : 0 ≤ k ∧ k ≤ 5) : ks1[k.toNat]? = some k := by
  rcases k6 h with rfl | rfl | rfl | rfl | rfl | rfl <;> rfl
theorem ks2_at {k : Int} (h : 0 ≤ k ∧ k ≤ 5) : ks2[k.toNat]? = some (dk k) := by
  rcases k6 h with rfl | rfl | rfl | rfl | rfl | rfl <;> rfl
theorem mv_zero {n : Int} (hn : n ≤ 64) {x : Nd} (h : opn n x = false) : x.es.map (mv 0) = x.es := by
  have : ∀ e ∈ x.es, mv 0 e = e := fun e he => by
    unfold opn at h
    rw [Bool.or_eq_false_iff, List.any_eq_false] at h
    have h1 := h.1 e he
    simp only [outE, Bool.or_eq_true, decide_eq_true_eq, not_or] at h1
    unfold mv
    rw [Int.add_zero, wrapK_i64 (by omega) (by omega)]
  rw [List.map_congr_left this, List.map_id'']
  exact fun _ => rfl
structure H55 (ns ds : List Nd) (i : Nat) : Prop where
  ln : ds.length = ns.length + ns.length
  ok : ∀ y ∈ ds, NdOk y
  h1 : ∀ (j : Nat) (x y : Nd), j < i → ns[j]? = some x → ds[j]? = some y → half ks1 0 x y
  h2 : ∀ (j : Nat) (x y : Nd), j < i → ns[j]? = some x → ds[ns.length + j]? = some y → half ks2 ns.length x y
theorem H55.step {ns ds : List Nd} {i : Nat} (h : H55 ns ds i) {x y1 y2 : Nd} (hx : ns[i]? = some x) (hy1 : half ks1 0 x y1) (hy2 : half ks2 ns.length x y2) : H55 ns ((ds.set i y1).set (ns.length + i) y2) (i + 1) := by
  have hi := (List.getElem?_eq_some_iff.1 hx).1
  have hl := h.ln
  refine ⟨by simp only [List.length_set]; exact hl, fun y hy => ?_, fun j x' y hj hx' hy => ?_, fun j x' y hj hx' hy => ?_⟩
  · rcases List.mem_or_eq_of_mem_set hy with hy | rfl
    · rcases List.mem_or_eq_of_mem_set hy with hy | rfl
      · exact h.ok y hy
      · exact hy1.2.2.2.2.2.2
    · exact hy2.2.2.2.2.2.2
  · rw [List.getElem?_set_ne (by omega)] at hy
    by_cases e : j = i
    · subst e
      rw [hx] at hx'
      cases hx'
      rw [List.getElem?_set_self (by omega)] at hy
      cases hy
      exact hy1
    · rw [List.getElem?_set_ne (by omega)] at hy
      exact h.h1 j x' y (by omega) hx' hy
  · by_cases e : j = i
    · subst e
      rw [hx] at hx'
      cases hx'
      rw [List.getElem?_set_self (by rw [List.length_set]; omega)] at hy
      cases hy
      exact hy2
    · rw [List.getElem?_set_ne (by omega), List.getElem?_set_ne (by omega)] at hy
      exact h.h2 j x' y (by omega) hx' hy
theorem lp0 {m i : Nat} (h : m - i = 0) (hi : i ≤ m) : i = m := by omega
theorem lp1 {m i : Nat} (h : m - i = 0) (hi : i ≤ m) : ¬ ((i : Int) < (m : Int)) := by omega
theorem lp2 {m i d : Nat} (h : m - i = d + 1) : ((i : Int) < (m : Int)) := by omega
theorem lp3 {m i d : Nat} (h : m - i = d + 1) : i < m := by omega
theorem lp4 {m i d : Nat} (h : m - i = d + 1) : m + i < m + m := by omega
theorem lp5 {m i d : Nat} (h : m - i = d + 1) (hm : m ≤ 64) : i ≤ 1000 := by omega
structure Fit55 (n : Nat) (x : Nd) : Prop where
  k : 0 ≤ x.kind ∧ x.kind ≤ 5
  l : x.es.length ≤ 8
  z : x.es.map (mv 0) = x.es
theorem loop55 {ns : List Nd} {a : AV} (hns : NsOk ns a) (hk : ∀ x ∈ ns, Fit55 ns.length x) (hl : ns.length ≤ 64) :
    ∀ (d i : Nat) (fr : PT) (ds : List Nd), ns.length - i = d → i ≤ ns.length → H55 ns ds i → RFr fr a ns.length (ns.length + ns.length) i →
    ∃ (fr' : PT) (ds' : List Nd), D.loop 0 55 102 l55_1 fr [dsB ds] = some (.exit 0, fr', [dsB ds']) ∧ H55 ns ds' ns.length ∧ RFr fr' a ns.length (ns.length + ns.length) ns.length
  | 0, i, fr, ds, hd, hi, h, F => by
    have hlt := lp1 hd hi
    have := lp0 hd hi
    subst this
    rw [dl55_1]
    simp -implicitDefEqProofs (maxDischargeDepth := 4) only [go_sem, ↓reduceIte, Nat.reduceLT, Nat.reduceAdd, Nat.reduceMul, Nat.reduceSub, Nat.reduceEqDiff, Nat.reduceLeDiff, Nat.reduceBEq, reduceCtorEq, Int.reduceLT, Int.reduceLE, Int.reduceEq, Int.reduceNe, Nat.reducePow, elAt_eq, stV_eq, cellsB_cells, hp_get_r, hp_get_r0, hp_get_l, hp_set_r, hp_set_r0, hp_set_l, hp_one, hp_ne, List.drop_succ_cons, List.drop_zero, List.take_succ_cons, List.take_zero, F.f5, F.f7, hlt]
    refine ⟨_, ds, rfl, h, F.of fun t ht => ?_⟩
    rcases ht with rfl | rfl | rfl | rfl <;> simp -implicitDefEqProofs (maxDischargeDepth := 4) only [go_sem, ↓reduceIte, Nat.reduceLT, Nat.reduceAdd, Nat.reduceMul, Nat.reduceSub, Nat.reduceEqDiff, Nat.reduceLeDiff, Nat.reduceBEq, reduceCtorEq, Int.reduceLT, Int.reduceLE, Int.reduceEq, Int.reduceNe, Nat.reducePow]
  | d + 1, i, fr, ds, hd, hi, h, F => by
    have hlt := lp2 hd
    have w3 := wrap_succ (lp5 hd hl)
    obtain ⟨x, hx⟩ := ex_nd (lp3 hd)
    have hf := hk x (List.mem_of_getElem? hx)
    obtain ⟨fr1, e1, F1⟩ : ∃ fr1 : PT, ex cx D 0 55 102 (.seq (.region 7 g55_7 false) (.cond (.tmp 26) .skip (.exit 0))) fr [dsB ds] = some (.normal, fr1, [dsB ds]) ∧ RFr fr1 a ns.length (ns.length + ns.length) i := by
      simp -implicitDefEqProofs (maxDischargeDepth := 4) only [go_sem, ↓reduceIte, Nat.reduceLT, Nat.reduceAdd, Nat.reduceMul, Nat.reduceSub, Nat.reduceEqDiff, Nat.reduceLeDiff, Nat.reduceBEq, reduceCtorEq, Int.reduceLT, Int.reduceLE, Int.reduceEq, Int.reduceNe, Nat.reducePow, F.f5, F.f7, hlt]
      refine ⟨_, rfl, F.of fun t ht => ?_⟩
      rcases ht with rfl | rfl | rfl | rfl <;> simp -implicitDefEqProofs (maxDischargeDepth := 4) only [go_sem, ↓reduceIte, Nat.reduceLT, Nat.reduceAdd, Nat.reduceMul, Nat.reduceSub, Nat.reduceEqDiff, Nat.reduceLeDiff, Nat.reduceBEq, reduceCtorEq, Int.reduceLT, Int.reduceLE, Int.reduceEq, Int.reduceNe, Nat.reducePow]
    obtain ⟨fr2, e2, F2, g8, g9⟩ : ∃ fr2 : PT, ex cx D 0 55 102 (.region 9 g55_8 false) fr1 [dsB ds] = some (.normal, fr2, [dsB ds]) ∧ RFr fr2 a ns.length (ns.length + ns.length) i ∧ fr2.get 8 = .lit (.slice none 0 0) ∧ fr2.get 9 = .lit (.slice none 0 0) := by
      simp -implicitDefEqProofs (maxDischargeDepth := 4) only [go_sem, ↓reduceIte, Nat.reduceLT, Nat.reduceAdd, Nat.reduceMul, Nat.reduceSub, Nat.reduceEqDiff, Nat.reduceLeDiff, Nat.reduceBEq, reduceCtorEq, Int.reduceLT, Int.reduceLE, Int.reduceEq, Int.reduceNe, Nat.reducePow]
      refine ⟨_, rfl, F1.of fun t ht => ?_, by simp -implicitDefEqProofs (maxDischargeDepth := 4) only [go_sem, ↓reduceIte, Nat.reduceLT, Nat.reduceAdd, Nat.reduceMul, Nat.reduceSub, Nat.reduceEqDiff, Nat.reduceLeDiff, Nat.reduceBEq, reduceCtorEq, Int.reduceLT, Int.reduceLE, Int.reduceEq, Int.reduceNe, Nat.reducePow], by simp -implicitDefEqProofs (maxDischargeDepth := 4) only [go_sem, ↓reduceIte, Nat.reduceLT, Nat.reduceAdd, Nat.reduceMul, Nat.reduceSub, Nat.reduceEqDiff, Nat.reduceLeDiff, Nat.reduceBEq, reduceCtorEq, Int.reduceLT, Int.reduceLE, Int.reduceEq, Int.reduceNe, Nat.reducePow]⟩
      rcases ht with rfl | rfl | rfl | rfl <;> simp -implicitDefEqProofs (maxDischargeDepth := 4) only [go_sem, ↓reduceIte, Nat.reduceLT, Nat.reduceAdd, Nat.reduceMul, Nat.reduceSub, Nat.reduceEqDiff, Nat.reduceLeDiff, Nat.reduceBEq, reduceCtorEq, Int.reduceLT, Int.reduceLE, Int.reduceEq, Int.reduceNe, Nat.reducePow]
    obtain ⟨fr3, e3, F3, h8, h9, h10⟩ : ∃ fr3 : PT, ex cx D 0 55 102 (.region 10 g55_9 false) fr2 [dsB ds] = some (.normal, fr3, [dsB ds]) ∧ RFr fr3 a ns.length (ns.length + ns.length) i ∧ fr3.get 8 = .lit (.slice none 0 0) ∧ fr3.get 9 = .lit (.slice none 0 0) ∧ fr3.get 10 = iv (0 : Nat) := by
      simp -implicitDefEqProofs (maxDischargeDepth := 4) only [go_sem, ↓reduceIte, Nat.reduceLT, Nat.reduceAdd, Nat.reduceMul, Nat.reduceSub, Nat.reduceEqDiff, Nat.reduceLeDiff, Nat.reduceBEq, reduceCtorEq, Int.reduceLT, Int.reduceLE, Int.reduceEq, Int.reduceNe, Nat.reducePow]
      refine ⟨_, rfl, F2.of fun t ht => ?_, by simp -implicitDefEqProofs (maxDischargeDepth := 4) only [go_sem, ↓reduceIte, Nat.reduceLT, Nat.reduceAdd, Nat.reduceMul, Nat.reduceSub, Nat.reduceEqDiff, Nat.reduceLeDiff, Nat.reduceBEq, reduceCtorEq, Int.reduceLT, Int.reduceLE, Int.reduceEq, Int.reduceNe, Nat.reducePow, g8], by simp -implicitDefEqProofs (maxDischargeDepth := 4) only [go_sem, ↓reduceIte, Nat.reduceLT, Nat.reduceAdd, Nat.reduceMul, Nat.reduceSub, Nat.reduceEqDiff, Nat.reduceLeDiff, Nat.reduceBEq, reduceCtorEq, Int.reduceLT, Int.reduceLE, Int.reduceEq, Int.reduceNe, Nat.reducePow, g9], by simp -implicitDefEqProofs (maxDischargeDepth := 4) only [go_sem, ↓reduceIte, Nat.reduceLT, Nat.reduceAdd, Nat.reduceMul, Nat.reduceSub, Nat.reduceEqDiff, Nat.reduceLeDiff, Nat.reduceBEq, reduceCtorEq, Int.reduceLT, Int.reduceLE, Int.reduceEq, Int.reduceNe, Nat.reducePow]; rfl⟩
      rcases ht with rfl | rfl | rfl | rfl <;> simp -implicitDefEqProofs (maxDischargeDepth := 4) only [go_sem, ↓reduceIte, Nat.reduceLT, Nat.reduceAdd, Nat.reduceMul, Nat.reduceSub, Nat.reduceEqDiff, Nat.reduceLeDiff, Nat.reduceBEq, reduceCtorEq, Int.reduceLT, Int.reduceLE, Int.reduceEq, Int.reduceNe, Nat.reducePow]
    obtain ⟨fr4, w8, w9, e4, F4, q8, q9, G8, G9⟩ := edges55 hns hx hf.l (B := dsB ds) (killB_ds h.ok 1) rfl rfl x.es.length 0 fr3 _ _ [] [] (Nat.sub_zero _) (Nat.zero_le _) F3 h8 h9 h10 rfl rfl (.inr ⟨rfl, rfl⟩) (.inr ⟨rfl, rfl⟩)
    obtain ⟨fr5, e5, F5⟩ := write55 hns hl (lp3 hd) (lp4 hd) hx (w8 := w8) (w9 := w9) (es9 := x.es.map (mv ns.length)) G8 G9 h.ln (fr := fr4) ⟨F4, q8, q9⟩
    have hstep := h.step hx (y1 := { x with nx := shr w8 }) (y2 := { x with kind := dk x.kind, es := x.es.map (mv ns.length), nx := shr w9 })
      ⟨ks1_at hf.k, rfl, rfl, rfl, rfl, hf.z.symm, G8.sl⟩ ⟨ks2_at hf.k, rfl, rfl, rfl, rfl, rfl, G9.sl⟩
    generalize ((ds.set i { x with nx := shr w8 }).set (ns.length + i) { x with kind := dk x.kind, es := x.es.map (mv ns.length), nx := shr w9 }) = ds5 at e5 hstep
    obtain ⟨fr6, e6, F6⟩ : ∃ fr6 : PT, ex cx D 0 55 102 (.region 8 g55_20 false) fr5 [dsB ds5] = some (.normal, fr6, [dsB ds5]) ∧ RFr fr6 a ns.length (ns.length + ns.length) (i + 1) := by
      simp -implicitDefEqProofs (maxDischargeDepth := 4) only [go_sem, ↓reduceIte, Nat.reduceLT, Nat.reduceAdd, Nat.reduceMul, Nat.reduceSub, Nat.reduceEqDiff, Nat.reduceLeDiff, Nat.reduceBEq, reduceCtorEq, Int.reduceLT, Int.reduceLE, Int.reduceEq, Int.reduceNe, Nat.reducePow, F5.f7, w3]
      exact ⟨_, rfl, by simp -implicitDefEqProofs (maxDischargeDepth := 4) only [go_sem, ↓reduceIte, Nat.reduceLT, Nat.reduceAdd, Nat.reduceMul, Nat.reduceSub, Nat.reduceEqDiff, Nat.reduceLeDiff, Nat.reduceBEq, reduceCtorEq, Int.reduceLT, Int.reduceLE, Int.reduceEq, Int.reduceNe, Nat.reducePow, F5.f0], by simp -implicitDefEqProofs (maxDischargeDepth := 4) only [go_sem, ↓reduceIte, Nat.reduceLT, Nat.reduceAdd, Nat.reduceMul, Nat.reduceSub, Nat.reduceEqDiff, Nat.reduceLeDiff, Nat.reduceBEq, reduceCtorEq, Int.reduceLT, Int.reduceLE, Int.reduceEq, Int.reduceNe, Nat.reducePow, F5.f5], by simp -implicitDefEqProofs (maxDischargeDepth := 4) only [go_sem, ↓reduceIte, Nat.reduceLT, Nat.reduceAdd, Nat.reduceMul, Nat.reduceSub, Nat.reduceEqDiff, Nat.reduceLeDiff, Nat.reduceBEq, reduceCtorEq, Int.reduceLT, Int.reduceLE, Int.reduceEq, Int.reduceNe, Nat.reducePow, F5.f6], by simp -implicitDefEqProofs (maxDischargeDepth := 4) only [go_sem, ↓reduceIte, Nat.reduceLT, Nat.reduceAdd, Nat.reduceMul, Nat.reduceSub, Nat.reduceEqDiff, Nat.reduceLeDiff, Nat.reduceBEq, reduceCtorEq, Int.reduceLT, Int.reduceLE, Int.reduceEq, Int.reduceNe, Nat.reducePow]⟩
    rw [dl55_1, x_cont1 e1]
    have e34 : ex cx D 0 55 102 (.seq (.region 10 g55_9 false) (.block 2 (.loop l55_0))) fr2 [dsB ds] = some (.normal, fr4, [dsB ds]) := by
      rw [x_cont1 e3, x_block, x_loop, e4]
      rfl
    have eb : ex cx D 0 55 102 (.block 1 (.seq (.region 9 g55_8 false) (.seq (.seq (.region 10 g55_9 false) (.block 2 (.loop l55_0))) (.seq (.region 16 g55_15 false) (.seq (.region 17 g55_16 false) (.seq (.region 18 g55_17 false) (.seq (.region 19 g55_18 false) (.region 20 g55_19 false)))))))) fr1 [dsB ds] = some (.normal, fr5, [dsB ds5]) := by
      rw [x_block, x_cont1 e2, x_cont1 e34, e5]
      rfl
    rw [x_cont1 eb, e6, xbind_some, contR_normal]
    refine trim_gen (P := fun zz => ∃ (fr' : PT) (ds' : List Nd), zz = some (.exit 0, fr', [dsB ds']) ∧ H55 ns ds' ns.length ∧ RFr fr' a ns.length (ns.length + ns.length) ns.length) [0, 5, 6, 7] (by simp) (fun t ht => ?_) fun fr' G' hG' hf hk' => ?_
    · simp only [List.mem_cons, List.not_mem_nil, or_false] at ht
      rcases ht with rfl | rfl | rfl | rfl
      · rw [F6.f0, kill_Sl hns.sl]
      · rw [F6.f5]; rfl
      · rw [F6.f6]; rfl
      · rw [F6.f7]; rfl
    · have hGB : G' = [dsB ds5] := by
        match G', hG' with
        | [y], _ =>
          have := hk' 0 (dsB ds5) Nat.zero_lt_one rfl (killB_ds hstep.ok 1)
          cases this; rfl
      subst hGB
      exact loop55 hns hk hl d (i + 1) fr' ds5 (nd1 hd) (nd2 hd) hstep ⟨by rw [hf 0 (by simp), F6.f0], by rw [hf 5 (by simp), F6.f5], by rw [hf 6 (by simp), F6.f6], by rw [hf 7 (by simp), F6.f7]⟩
end Go.Abs.Tab

/- Duals: the document's table, called. -/
set_option linter.unusedVariables false
namespace Go.Abs.Tab
open Go.Gr
theorem rtab_bad {ns : List Nd} {a : AV} (hns : NsOk ns a) (h0 : ¬ (chk ns).2 = 0) : ∃ H', callB cx D 0 55 [a] [] = some (.lit (.slice none 0 0), H') := by
  have h49 := rchk_ok hns
  unfold errV at h49
  have ea : elP false 1 a 0 = some a := elP_Sl hns.sl
  rw [c55]
  simp -implicitDefEqProofs (maxDischargeDepth := 4) only [go_sem, ↓reduceIte, Nat.reduceLT, Nat.reduceAdd, Nat.reduceMul, Nat.reduceSub, Nat.reduceEqDiff, Nat.reduceLeDiff, Nat.reduceBEq, reduceCtorEq, Int.reduceLT, Int.reduceLE, Int.reduceEq, Int.reduceNe, Nat.reducePow, elAt_eq, stV_eq, cellsB_cells, hp_get_r, hp_get_r0, hp_get_l, hp_set_r, hp_set_r0, hp_set_l, hp_one, hp_ne, List.drop_succ_cons, List.drop_zero, List.take_succ_cons, List.take_zero, hns.sl.shr, hns.sl.notOwn, hns.sl.drp, hns.sl.fitA, hns.sl.shut1, ea, h49, h0, Nat.zero_le, Nat.le_refl]
  exact ⟨_, rfl⟩
theorem twice {n : Nat} (h : n ≤ 64) : wrapK .i64 (2 * (n : Int)) = ((n + n : Nat) : Int) := by rw [wrapK_i64 (by omega) (by omega)]; omega
theorem twice_le {n : Nat} (h : n ≤ 64) : (n + n) * (64 + 1) ≤ 1099511627776 := by omega
theorem rtab_call {ns : List Nd} {a : AV} (hns : NsOk ns a) (h0 : (chk ns).2 = 0) : ∃ ds, callB cx D 0 55 [a] [] = some (.sl 0 6 0 (ns.length + ns.length) (ns.length + ns.length), [dsB ds]) ∧ H55 ns ds ns.length := by
  have h49 := rchk_ok hns
  unfold errV at h49
  have ea : elP false 1 a 0 = some a := elP_Sl hns.sl
  have hg := chk_good h0
  rw [h0] at h49
  have w2 := twice hg.le
  have w4 := twice_le hg.le
  have hL : ∀ H, alen cx.T 56 H a = some (iv ns.length) := fun H => by rw [alen_sl hns.sl (by rw [sl56]; rfl), List.length_map]
  have hrep : List.replicate (ns.length + ns.length) (AV.agg [iv 0, iv 0, bv false, iv 0, iv 0, .lit (.slice none 0 0)]) = (List.replicate (ns.length + ns.length) (niN 0 0 false 0 0)).map nodeV := by rw [List.map_replicate]
  have hk : ∀ x ∈ ns, Fit55 ns.length x := fun x hx => ⟨shp_kind (hg.sh x hx), shp_len (hg.sh x hx), mv_zero (by have := hg.le; omega) (hg.cl x hx)⟩
  have h00 : H55 ns (List.replicate (ns.length + ns.length) (niN 0 0 false 0 0)) 0 := ⟨List.length_replicate, fun y hy => by rw [List.eq_of_mem_replicate hy]; exact niN_ok _ _ _ _ _, fun j x y hj => absurd hj (Nat.not_lt_zero _), fun j x y hj => absurd hj (Nat.not_lt_zero _)⟩
  obtain ⟨fr1, e1, F1⟩ : ∃ fr1 : PT, ex cx D 0 55 102 (.seq (.region 0 g55_0 false) (.seq (.region 1 g55_1 false) (.seq (.region 2 g55_2 false) (.cond (.tmp 18) (.seq (.region 3 g55_3 false) .ret) .skip)))) (PT.nil.set 0 (drp a)) [] = some (.normal, fr1, []) ∧ fr1.get 0 = a := by
    simp -implicitDefEqProofs (maxDischargeDepth := 4) only [go_sem, ↓reduceIte, Nat.reduceLT, Nat.reduceAdd, Nat.reduceMul, Nat.reduceSub, Nat.reduceEqDiff, Nat.reduceLeDiff, Nat.reduceBEq, reduceCtorEq, Int.reduceLT, Int.reduceLE, Int.reduceEq, Int.reduceNe, Nat.reducePow, elAt_eq, stV_eq, cellsB_cells, hp_get_r, hp_get_r0, hp_get_l, hp_set_r, hp_set_r0, hp_set_l, hp_one, hp_ne, List.drop_succ_cons, List.drop_zero, List.take_succ_cons, List.take_zero, hns.sl.shr, hns.sl.notOwn, hns.sl.drp, hns.sl.shut1, ea, h49]
    exact ⟨_, rfl, by simp -implicitDefEqProofs (maxDischargeDepth := 4) only [go_sem, ↓reduceIte, Nat.reduceLT, Nat.reduceAdd, Nat.reduceMul, Nat.reduceSub, Nat.reduceEqDiff, Nat.reduceLeDiff, Nat.reduceBEq, reduceCtorEq, Int.reduceLT, Int.reduceLE, Int.reduceEq, Int.reduceNe, Nat.reducePow]⟩
  obtain ⟨fr2, e2, F2, g2⟩ : ∃ fr2 : PT, ex cx D 0 55 102 (.region 4 g55_4 false) fr1 [] = some (.normal, fr2, []) ∧ fr2.get 0 = a ∧ fr2.get 5 = iv ns.length := by
    simp -implicitDefEqProofs (maxDischargeDepth := 4) only [go_sem, ↓reduceIte, Nat.reduceLT, Nat.reduceAdd, Nat.reduceMul, Nat.reduceSub, Nat.reduceEqDiff, Nat.reduceLeDiff, Nat.reduceBEq, reduceCtorEq, Int.reduceLT, Int.reduceLE, Int.reduceEq, Int.reduceNe, Nat.reducePow, elAt_eq, stV_eq, cellsB_cells, hp_get_r, hp_get_r0, hp_get_l, hp_set_r, hp_set_r0, hp_set_l, hp_one, hp_ne, List.drop_succ_cons, List.drop_zero, List.take_succ_cons, List.take_zero, F1, hns.sl.shr, hns.sl.notOwn, hL, ea]
    exact ⟨_, rfl, by simp -implicitDefEqProofs (maxDischargeDepth := 4) only [go_sem, ↓reduceIte, Nat.reduceLT, Nat.reduceAdd, Nat.reduceMul, Nat.reduceSub, Nat.reduceEqDiff, Nat.reduceLeDiff, Nat.reduceBEq, reduceCtorEq, Int.reduceLT, Int.reduceLE, Int.reduceEq, Int.reduceNe, Nat.reducePow, F1], by simp -implicitDefEqProofs (maxDischargeDepth := 4) only [go_sem, ↓reduceIte, Nat.reduceLT, Nat.reduceAdd, Nat.reduceMul, Nat.reduceSub, Nat.reduceEqDiff, Nat.reduceLeDiff, Nat.reduceBEq, reduceCtorEq, Int.reduceLT, Int.reduceLE, Int.reduceEq, Int.reduceNe, Nat.reducePow]⟩
  obtain ⟨fr3, e3, F3⟩ : ∃ fr3 : PT, ex cx D 0 55 102 (.seq (.region 5 g55_5 false) (.region 6 g55_6 false)) fr2 [] = some (.normal, fr3, [dsB (List.replicate (ns.length + ns.length) (niN 0 0 false 0 0))]) ∧ RFr fr3 a ns.length (ns.length + ns.length) (0 : Nat) := by
    simp -implicitDefEqProofs (maxDischargeDepth := 4) only [go_sem, ↓reduceIte, Nat.reduceLT, Nat.reduceAdd, Nat.reduceMul, Nat.reduceSub, Nat.reduceEqDiff, Nat.reduceLeDiff, Nat.reduceBEq, reduceCtorEq, Int.reduceLT, Int.reduceLE, Int.reduceEq, Int.reduceNe, Nat.reducePow, elAt_eq, stV_eq, cellsB_cells, hp_get_r, hp_get_r0, hp_get_l, hp_set_r, hp_set_r0, hp_set_l, hp_one, hp_ne, List.drop_succ_cons, List.drop_zero, List.take_succ_cons, List.take_zero, F2, g2, w2, w4, hrep, Nat.le_refl, Nat.zero_le]
    exact ⟨_, rfl, by simp -implicitDefEqProofs (maxDischargeDepth := 4) only [go_sem, ↓reduceIte, Nat.reduceLT, Nat.reduceAdd, Nat.reduceMul, Nat.reduceSub, Nat.reduceEqDiff, Nat.reduceLeDiff, Nat.reduceBEq, reduceCtorEq, Int.reduceLT, Int.reduceLE, Int.reduceEq, Int.reduceNe, Nat.reducePow, F2], by simp -implicitDefEqProofs (maxDischargeDepth := 4) only [go_sem, ↓reduceIte, Nat.reduceLT, Nat.reduceAdd, Nat.reduceMul, Nat.reduceSub, Nat.reduceEqDiff, Nat.reduceLeDiff, Nat.reduceBEq, reduceCtorEq, Int.reduceLT, Int.reduceLE, Int.reduceEq, Int.reduceNe, Nat.reducePow, g2], by simp -implicitDefEqProofs (maxDischargeDepth := 4) only [go_sem, ↓reduceIte, Nat.reduceLT, Nat.reduceAdd, Nat.reduceMul, Nat.reduceSub, Nat.reduceEqDiff, Nat.reduceLeDiff, Nat.reduceBEq, reduceCtorEq, Int.reduceLT, Int.reduceLE, Int.reduceEq, Int.reduceNe, Nat.reducePow], by simp -implicitDefEqProofs (maxDischargeDepth := 4) only [go_sem, ↓reduceIte, Nat.reduceLT, Nat.reduceAdd, Nat.reduceMul, Nat.reduceSub, Nat.reduceEqDiff, Nat.reduceLeDiff, Nat.reduceBEq, reduceCtorEq, Int.reduceLT, Int.reduceLE, Int.reduceEq, Int.reduceNe, Nat.reducePow]; rfl⟩
  obtain ⟨fr4, ds, e4, h4, F4⟩ := loop55 hns hk hg.le ns.length 0 fr3 _ (Nat.sub_zero _) (Nat.zero_le _) h00 F3
  refine ⟨ds, ?_, h4⟩
  obtain ⟨_, _, p1, p2⟩ := x_split e1
  obtain ⟨_, _, p3, p4⟩ := x_split p2
  obtain ⟨_, _, p5, p6⟩ := x_split e3
  have q : ∀ Z, ex cx D 0 55 102 (.seq (.seq (.region 6 g55_6 false) (.block 0 (.loop l55_1))) Z) _ _ = _ := fun Z => by rw [x_assoc, x_cont1 p6]
  have q2 : ex cx D 0 55 102 (.block 0 (.loop l55_1)) fr3 [dsB (List.replicate (ns.length + ns.length) (niN 0 0 false 0 0))] = some (.normal, fr4, [dsB ds]) := by
    rw [x_block, x_loop, e4]
    rfl
  rw [c55, x_cont1 p1, x_cont1 p3, x_cont1 p4, x_cont1 e2, x_cont1 p5, q, x_cont1 q2]
  simp -implicitDefEqProofs (maxDischargeDepth := 4) only [go_sem, ↓reduceIte, Nat.reduceLT, Nat.reduceAdd, Nat.reduceMul, Nat.reduceSub, Nat.reduceEqDiff, Nat.reduceLeDiff, Nat.reduceBEq, reduceCtorEq, Int.reduceLT, Int.reduceLE, Int.reduceEq, Int.reduceNe, Nat.reducePow, elAt_eq, stV_eq, cellsB_cells, hp_get_r, hp_get_r0, hp_get_l, hp_set_r, hp_set_r0, hp_set_l, hp_one, hp_ne, List.drop_succ_cons, List.drop_zero, List.take_succ_cons, List.take_zero, F4.f6]
theorem cl1_nodes {ds : List Nd} (h : ∀ y ∈ ds, NdOk y) : (ds.map nodeV).map Abs.cl1 = ds.map nodeV := by
  rw [List.map_map]
  refine List.map_congr_left fun y hy => ?_
  have hs : Sl 2 y.nx (y.es.map ed) := h y hy
  show AV.agg ((nodeC y).map Abs.cl0) = _
  simp only [List.map_cons, List.map_nil, cl0_lit, hs.cl0]
theorem H55.frz {ns ds : List Nd} (h : H55 ns ds ns.length) : Abs.frz 0 [dsB ds] (.sl 0 6 0 (ns.length + ns.length) (ns.length + ns.length)) = .vec 6 .shared (ds.map nodeV) := by
  show (if (0 : Nat) < 0 then AV.dead else if 0 + (ns.length + ns.length) ≤ (ds.map nodeV).length ∧ (ns.length + ns.length) ≤ (ns.length + ns.length) then AV.vec 6 .shared ((((ds.map nodeV).drop 0).take (ns.length + ns.length)).map cl1) else .dead) = _
  rw [if_neg (Nat.lt_irrefl 0)]
  show (if 0 + (ns.length + ns.length) ≤ (ds.map nodeV).length ∧ (ns.length + ns.length) ≤ (ns.length + ns.length) then AV.vec 6 .shared ((((ds.map nodeV).drop 0).take (ns.length + ns.length)).map cl1) else .dead) = _
  rw [if_pos (by rw [List.length_map, h.ln]; omega), List.drop_zero, List.take_of_length_le (by rw [List.length_map, h.ln]; omega), cl1_nodes h.ok]
theorem rtab_ok {ns : List Nd} {a : AV} (hns : NsOk ns a) (h0 : (chk ns).2 = 0) : ∃ ds, pcall D 55 [a] = some (.vec 6 .shared (ds.map nodeV)) ∧ H55 ns ds ns.length := by
  obtain ⟨ds, h1, h2⟩ := rtab_call hns h0
  exact ⟨ds, by rw [pcall_eq (v := .sl 0 6 0 (ns.length + ns.length) (ns.length + ns.length)) (H' := [dsB ds]) (by rw [List.map_cons, List.map_nil, hns.sl.cl2]; exact h1), h2.frz], h2⟩
theorem rtab_no {ns : List Nd} {a : AV} (hns : NsOk ns a) (h0 : ¬ (chk ns).2 = 0) : pcall D 55 [a] = some (.lit (.slice none 0 0)) := by
  obtain ⟨H', h1⟩ := rtab_bad hns h0
  rw [pcall_eq (v := .lit (.slice none 0 0)) (H' := H') (by rw [List.map_cons, List.map_nil, hns.sl.cl2]; exact h1)]
  rfl
end Go.Abs.Tab

/- Duals: the statement DualTables. -/
set_option linter.unusedVariables false
namespace Go.Abs.Tab
open Go.Gr
structure Eqs (x y : Nd) : Prop where
  k : y.kind = x.kind
  p : y.prio = x.prio
  c : y.chan = x.chan
  t : y.pt = x.pt
  s : y.ps = x.ps
  e : y.es = x.es
  l : x.es.length ≤ 8
  ox : NdOk x
  oy : NdOk y
theorem half_eqs {ks : List Int} {far : Int} {x y z : Nd} (h1 : half ks far x y) (h2 : half ks far x z) (hl : x.es.length ≤ 8) : Eqs y z := by
  obtain ⟨a1, a2, a3, a4, a5, a6, a7⟩ := h1
  obtain ⟨b1, b2, b3, b4, b5, b6, b7⟩ := h2
  refine ⟨?_, by rw [a2, b2], by rw [a3, b3], by rw [a4, b4], by rw [a5, b5], by rw [a6, b6], by rw [a6, List.length_map]; exact hl, a7, b7⟩
  rw [a1] at b1
  exact (Option.some.inj b1).symm
theorem both_eqs {ns n1 n2 ds : List Nd} {v : AV} (hd : DualOk ns v n1 n2) (h5 : H55 ns ds ns.length) (hk : ∀ x ∈ ns, x.es.length ≤ 8) {i : Nat} (hi : i < ns.length + ns.length) :
    ∃ y z, (n1 ++ n2)[i]? = some y ∧ ds[i]? = some z ∧ Eqs y z := by
  have hl1 := hd.l1
  have hl2 := hd.l2
  have hl3 := h5.ln
  obtain ⟨y, hy⟩ := ex_nd (ns := n1 ++ n2) (i := i) (by rw [List.length_append]; omega)
  obtain ⟨z, hz⟩ := ex_nd (ns := ds) (i := i) (by omega)
  refine ⟨y, z, hy, hz, ?_⟩
  by_cases h : i < ns.length
  · obtain ⟨x, hx⟩ := ex_nd h
    rw [List.getElem?_append_left (by omega)] at hy
    exact half_eqs (hd.h1 i x y hx hy) (h5.h1 i x z h hx hz) (hk x (List.mem_of_getElem? hx))
  · obtain ⟨j, rfl⟩ : ∃ j, i = ns.length + j := ⟨i - ns.length, by omega⟩
    obtain ⟨x, hx⟩ := ex_nd (ns := ns) (i := j) (by omega)
    rw [List.getElem?_append_right (by omega), hl1, Nat.add_sub_cancel_left] at hy
    exact half_eqs (hd.h2 j x y hx hy) (h5.h2 j x z (by omega) hx hz) (hk x (List.mem_of_getElem? hx))
theorem H55.nsOk {ns ds : List Nd} {i : Nat} (h : H55 ns ds i) (hl : ns.length ≤ 64) : NsOk ds (.vec 6 .shared (ds.map nodeV)) := by
  refine ⟨.inr (.inl rfl), h.ok, ?_⟩
  rw [h.ln]
  exact Nat.lt_of_le_of_lt (show ns.length + ns.length ≤ 128 by omega) (by decide)
theorem loop12 {ns ys zs : List Nd} {a v w : AV} (hns : NsOk ns a) (hv : NsOk ys v) (hw : NsOk zs w) {M : Nat} (hM : M ≤ 128) (hl : ys.length = M)
    (he : ∀ i, i < M → ∃ y z, ys[i]? = some y ∧ zs[i]? = some z ∧ Eqs y z) (z1 z2 : AV) :
    ∀ (d i : Nat) (fr : PT), M - i = d → i ≤ M → fr.get 0 = a → fr.get 1 = z1 → fr.get 2 = z2 → fr.get 7 = v → fr.get 8 = w → fr.get 9 = iv i →
    ∃ fr' : PT, D.loop 0 12 63 l12_0 fr [] = some (.exit 0, fr', []) ∧ fr'.get 0 = a ∧ fr'.get 1 = z1 ∧ fr'.get 2 = z2
  | 0, i, fr, hd, hi, f0, f1, f2, f7, f8, f9 => by
    have hlt := lp1 hd hi
    rw [dl12_0]
    simp -implicitDefEqProofs (maxDischargeDepth := 4) only [go_sem, ↓reduceIte, Nat.reduceLT, Nat.reduceAdd, Nat.reduceMul, Nat.reduceSub, Nat.reduceEqDiff, Nat.reduceLeDiff, Nat.reduceBEq, reduceCtorEq, Int.reduceLT, Int.reduceLE, Int.reduceEq, Int.reduceNe, Nat.reducePow, elAt_eq, stV_eq, cellsB_cells, hp_get_r, hp_get_r0, hp_get_l, hp_set_r, hp_set_r0, hp_set_l, hp_one, hp_ne, List.drop_succ_cons, List.drop_zero, List.take_succ_cons, List.take_zero, f7, f9, hv.sl.shr, hv.sl.notOwn, elP_Sl hv.sl, alen_sl hv.sl, List.length_map, hl, hlt]
    exact ⟨_, rfl, by simp -implicitDefEqProofs (maxDischargeDepth := 4) only [go_sem, ↓reduceIte, Nat.reduceLT, Nat.reduceAdd, Nat.reduceMul, Nat.reduceSub, Nat.reduceEqDiff, Nat.reduceLeDiff, Nat.reduceBEq, reduceCtorEq, Int.reduceLT, Int.reduceLE, Int.reduceEq, Int.reduceNe, Nat.reducePow, f0], by simp -implicitDefEqProofs (maxDischargeDepth := 4) only [go_sem, ↓reduceIte, Nat.reduceLT, Nat.reduceAdd, Nat.reduceMul, Nat.reduceSub, Nat.reduceEqDiff, Nat.reduceLeDiff, Nat.reduceBEq, reduceCtorEq, Int.reduceLT, Int.reduceLE, Int.reduceEq, Int.reduceNe, Nat.reducePow, f1], by simp -implicitDefEqProofs (maxDischargeDepth := 4) only [go_sem, ↓reduceIte, Nat.reduceLT, Nat.reduceAdd, Nat.reduceMul, Nat.reduceSub, Nat.reduceEqDiff, Nat.reduceLeDiff, Nat.reduceBEq, reduceCtorEq, Int.reduceLT, Int.reduceLE, Int.reduceEq, Int.reduceNe, Nat.reducePow, f2]⟩
  | d + 1, i, fr, hd, hi, f0, f1, f2, f7, f8, f9 => by
    have hlt := lp2 hd
    obtain ⟨y, z, hy, hz, e⟩ := he i (lp3 hd)
    have a1 := hv.at hy
    have a2 := hw.at hz
    have h56 : pcall D 56 [.agg (nodeC y), .agg (nodeC z)] = some (bv true) := same_ok e.ox e.oy e.l e.k e.p e.c e.t e.s e.e
    have sy : Sl 2 y.nx (y.es.map ed) := e.ox
    have sz : Sl 2 z.nx (z.es.map ed) := e.oy
    have w3 := wrap_succ (show i ≤ 1000 by have := lp3 hd; omega)
    have m1 := mate_ok ns.length i
    have m2 := rmate_ok ns.length i
    rw [dl12_0]
    simp -implicitDefEqProofs (maxDischargeDepth := 4) only [go_sem, ↓reduceIte, Nat.reduceLT, Nat.reduceAdd, Nat.reduceMul, Nat.reduceSub, Nat.reduceEqDiff, Nat.reduceLeDiff, Nat.reduceBEq, reduceCtorEq, Int.reduceLT, Int.reduceLE, Int.reduceEq, Int.reduceNe, Nat.reducePow, elAt_eq, stV_eq, cellsB_cells, hp_get_r, hp_get_r0, hp_get_l, hp_set_r, hp_set_r0, hp_set_l, hp_one, hp_ne, List.drop_succ_cons, List.drop_zero, List.take_succ_cons, List.take_zero, f0, f7, f8, f9, hns.sl.shr, hns.sl.notOwn, hv.sl.shr, hv.sl.notOwn, hw.sl.shr, hw.sl.notOwn, elP_Sl hv.sl, elP_Sl hw.sl, elP_Sl hns.sl, alen_sl hv.sl, alen_sl hns.sl, List.length_map, hl, hlt, a1, a2, sy.shr, sz.shr, hns.sl.lenRd, sy.shut0, sz.shut0, sy.shut1, sz.shut1, h56, m1, m2, w3, nbeq, u_not]
    exact loop12 hns hv hw hM hl he z1 z2 d (i + 1) _ (nd1 hd) (nd2 hd) (by simp -implicitDefEqProofs (maxDischargeDepth := 4) only [go_sem, ↓reduceIte, Nat.reduceLT, Nat.reduceAdd, Nat.reduceMul, Nat.reduceSub, Nat.reduceEqDiff, Nat.reduceLeDiff, Nat.reduceBEq, reduceCtorEq, Int.reduceLT, Int.reduceLE, Int.reduceEq, Int.reduceNe, Nat.reducePow, f0]) (by simp -implicitDefEqProofs (maxDischargeDepth := 4) only [go_sem, ↓reduceIte, Nat.reduceLT, Nat.reduceAdd, Nat.reduceMul, Nat.reduceSub, Nat.reduceEqDiff, Nat.reduceLeDiff, Nat.reduceBEq, reduceCtorEq, Int.reduceLT, Int.reduceLE, Int.reduceEq, Int.reduceNe, Nat.reducePow, f1]) (by simp -implicitDefEqProofs (maxDischargeDepth := 4) only [go_sem, ↓reduceIte, Nat.reduceLT, Nat.reduceAdd, Nat.reduceMul, Nat.reduceSub, Nat.reduceEqDiff, Nat.reduceLeDiff, Nat.reduceBEq, reduceCtorEq, Int.reduceLT, Int.reduceLE, Int.reduceEq, Int.reduceNe, Nat.reducePow, f2]) (by simp -implicitDefEqProofs (maxDischargeDepth := 4) only [go_sem, ↓reduceIte, Nat.reduceLT, Nat.reduceAdd, Nat.reduceMul, Nat.reduceSub, Nat.reduceEqDiff, Nat.reduceLeDiff, Nat.reduceBEq, reduceCtorEq, Int.reduceLT, Int.reduceLE, Int.reduceEq, Int.reduceNe, Nat.reducePow, f7]) (by simp -implicitDefEqProofs (maxDischargeDepth := 4) only [go_sem, ↓reduceIte, Nat.reduceLT, Nat.reduceAdd, Nat.reduceMul, Nat.reduceSub, Nat.reduceEqDiff, Nat.reduceLeDiff, Nat.reduceBEq, reduceCtorEq, Int.reduceLT, Int.reduceLE, Int.reduceEq, Int.reduceNe, Nat.reducePow, f8]) (by simp -implicitDefEqProofs (maxDischargeDepth := 4) only [go_sem, ↓reduceIte, Nat.reduceLT, Nat.reduceAdd, Nat.reduceMul, Nat.reduceSub, Nat.reduceEqDiff, Nat.reduceLeDiff, Nat.reduceBEq, reduceCtorEq, Int.reduceLT, Int.reduceLE, Int.reduceEq, Int.reduceNe, Nat.reducePow])
theorem tables_ok {v : AV} {m n : Int} (h : Rdd Go.Proofs.Try.prog 20 56 [v]) : ∃ H', callB cx D 0 12 [v, iv m, iv n] [] = some (bv true, H') := by
  obtain ⟨ns, hs, hok⟩ := nodes_read (d := 5) h
  obtain ⟨b, h1, hb⟩ := cut_nodes hs hok
  have hm : aminmax false [iv ns.length, iv 70] = some (iv ((min ns.length 70 : Nat) : Int)) := min_lit ns.length 70
  generalize ns.take 70 = cs at hb
  obtain ⟨p, q, ys, zs, M, h54, h55, hp, hq, hM, l1, l2, he⟩ : ∃ (p q : AV) (ys zs : List Nd) (M : Nat), pcall D 54 [b] = some p ∧ pcall D 55 [b] = some q ∧ NsOk ys p ∧ NsOk zs q ∧ M ≤ 128 ∧ ys.length = M ∧ zs.length = M ∧
      ∀ i, i < M → ∃ y z, ys[i]? = some y ∧ zs[i]? = some z ∧ Eqs y z := by
    by_cases h0 : (chk cs).2 = 0
    · have hg := chk_good h0
      obtain ⟨p, n1, n2, h54, hd⟩ := table_ok hb h0
      obtain ⟨ds, h55, h5⟩ := rtab_ok hb h0
      refine ⟨p, _, n1 ++ n2, ds, cs.length + cs.length, h54, h55, hd.nsOk hg.le, h5.nsOk hg.le, by have := hg.le; omega, by rw [List.length_append, hd.l1, hd.l2], h5.ln, fun i hi => both_eqs hd h5 (fun x hx => shp_len (hg.sh x hx)) hi⟩
    · have hn : NsOk [] (.lit (.slice none 0 0)) := ⟨.inr (.inr ⟨rfl, rfl⟩), fun x hx => (by cases hx), by decide⟩
      exact ⟨_, _, [], [], 0, table_no hb h0, rtab_no hb h0, hn, hn, by decide, rfl, rfl, fun i hi => absurd hi (Nat.not_lt_zero _)⟩
  obtain ⟨FL, hL⟩ := skol (fun (fr : PT) (h : fr.get 0 = b ∧ fr.get 1 = iv m ∧ fr.get 2 = iv n ∧ fr.get 7 = p ∧ fr.get 8 = q ∧ fr.get 9 = iv (0 : Nat)) => loop12 hb hp hq hM l1 he (iv m) (iv n) M 0 fr (Nat.sub_zero _) (Nat.zero_le _) h.1 h.2.1 h.2.2.1 h.2.2.2.1 h.2.2.2.2.1 h.2.2.2.2.2)
  have c1 := fun (fr : PT) a1 a2 a3 a4 a5 a6 => (hL fr ⟨a1, a2, a3, a4, a5, a6⟩).1
  have c2 := fun (fr : PT) a1 a2 a3 a4 a5 a6 => (hL fr ⟨a1, a2, a3, a4, a5, a6⟩).2.1
  have c3 := fun (fr : PT) a1 a2 a3 a4 a5 a6 => (hL fr ⟨a1, a2, a3, a4, a5, a6⟩).2.2.1
  have c4 := fun (fr : PT) a1 a2 a3 a4 a5 a6 => (hL fr ⟨a1, a2, a3, a4, a5, a6⟩).2.2.2
  have m1 := mate_ok (m.tmod 1000000000) n
  have m2 := rmate_ok (m.tmod 1000000000) n
  have h9 : (1000000000 : Int) ≠ 0 := by decide
  have z0 : ((0 : Nat) : Int) = 0 := rfl
  rw [c12]
  simp -implicitDefEqProofs (maxDischargeDepth := 4) only [go_sem, ↓reduceIte, Nat.reduceLT, Nat.reduceAdd, Nat.reduceMul, Nat.reduceSub, Nat.reduceEqDiff, Nat.reduceLeDiff, Nat.reduceBEq, reduceCtorEq, Int.reduceLT, Int.reduceLE, Int.reduceEq, Int.reduceNe, Nat.reducePow, elAt_eq, stV_eq, cellsB_cells, hp_get_r, hp_get_r0, hp_get_l, hp_set_r, hp_set_r0, hp_set_l, hp_one, hp_ne, List.drop_succ_cons, List.drop_zero, List.take_succ_cons, List.take_zero, hs.shr, hs.notOwn, hs.drp, alen_sl hs, List.length_map, hm, h1, hb.sl.shr, hb.sl.notOwn, hb.sl.shut1, h54, h55, hp.sl.shr, hp.sl.notOwn, hp.sl.drp, hq.sl.shr, hq.sl.notOwn, hq.sl.drp, alen_sl hp.sl, alen_sl hq.sl, l1, l2, x_loop, c1, c2, c3, c4, m1, m2, h9, z0, dworks_ok]
  exact ⟨_, rfl⟩
theorem tables_row {v0 v1 v2 : AV} (h0 : Rdd Go.Proofs.Try.prog 20 56 [v0]) (h1 : Rdd Go.Proofs.Try.prog 20 3 [v1]) (h2 : Rdd Go.Proofs.Try.prog 20 3 [v2]) : ∃ H', callB cx D 0 12 [v0, v1, v2] [] = some (bv true, H') := by
  obtain ⟨m, w1, e⟩ := rd_int Go.Proofs.Try.underlying3 h1
  cases e
  obtain ⟨n, w2, e⟩ := rd_int Go.Proofs.Try.underlying3 h2
  cases e
  exact tables_ok h0
end Go.Abs.Tab
