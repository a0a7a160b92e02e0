/- The statement GraphShapes; nodes, read as arguments. -/
import Derived.Test.YtiinagmombigpaaGraB
import Derived.Test.YtiinagmombigpaaOpen2
import Derived.Test.YtiinagmombigpaaGraF
set_option linter.unusedSimpArgs false
set_option linter.unusedVariables false
set_option linter.unnecessarySimpa false

/- The statement GraphShapes; nodes, read as arguments. -/
set_option linter.unusedVariables false
namespace Go.Abs.Tab
open Go.Gr
theorem map_mem {α : Type} {f : List AV → AV} {g : α → AV} {Q : α → Prop} : ∀ {ls : List (List AV)}, (∀ x ∈ ls, ∃ y, f x = g y ∧ Q y) → ∃ ys : List α, ls.length = ys.length ∧ (∀ y ∈ ys, Q y) ∧ ls.map f = ys.map g
  | [], _ => ⟨[], rfl, by simp, rfl⟩
  | x :: ls, h => by
    obtain ⟨y, h1, h2⟩ := h x (by simp)
    obtain ⟨ys, k1, k2, k3⟩ := map_mem (ls := ls) fun z hz => h z (List.mem_cons_of_mem _ hz)
    refine ⟨y :: ys, by simp [k1], fun z hz => ?_, by simp [h1, k3]⟩
    rcases List.mem_cons.1 hz with rfl | hz
    · exact h2
    · exact k2 z hz
theorem edge_read {d : Nat} {l : List AV} (h : Rdd Go.Proofs.Try.prog (d + 6) 63 l) : ∃ a b : Int, l = [iv a, iv b] := by
  have h1 := rd_struct Go.Proofs.Try.underlying63 h
  obtain ⟨a1, b1, rfl, k1, h2⟩ := rdF_cons h1
  obtain ⟨p, _, rfl⟩ := rd_int Go.Proofs.Try.underlying3 k1
  obtain ⟨a2, b2, rfl, k2, h3⟩ := rdF_cons h2
  obtain ⟨q, _, rfl⟩ := rd_int Go.Proofs.Try.underlying3 k2
  obtain rfl := rdF_nil h3
  exact ⟨p, q, rfl⟩
theorem type_read {d : Nat} {l : List AV} (h : Rdd Go.Proofs.Try.prog (d + 6) 61 l) : ∃ a b : Int, l = [iv a, iv b] := by
  have h1 := rd_struct Go.Proofs.Try.underlying61 h
  obtain ⟨a1, b1, rfl, k1, h2⟩ := rdF_cons h1
  obtain ⟨p, _, rfl⟩ := rd_int Go.Proofs.Try.underlying3 k1
  obtain ⟨a2, b2, rfl, k2, h3⟩ := rdF_cons h2
  obtain ⟨q, _, rfl⟩ := rd_int Go.Proofs.Try.underlying3 k2
  obtain rfl := rdF_nil h3
  exact ⟨p, q, rfl⟩
theorem cells63 : Go.Proofs.Try.prog.cellsOf 63 = 2 := by kernel_rfl
theorem cells66 : Go.Proofs.Try.prog.cellsOf 66 = 6 := by kernel_rfl
theorem node_read {d : Nat} {l : List AV} (h : Rdd Go.Proofs.Try.prog (d + 14) 66 l) : ∃ x : Nd, AV.agg l = nodeV x ∧ NdOk x := by
  have h1 := rd_struct Go.Proofs.Try.underlying66 h
  obtain ⟨a1, b1, rfl, k1, h2⟩ := rdF_cons h1
  obtain ⟨k, _, rfl⟩ := rd_int Go.Proofs.Try.underlying3 k1
  obtain ⟨a2, b2, rfl, k2, h3⟩ := rdF_cons h2
  obtain ⟨p, _, rfl⟩ := rd_int Go.Proofs.Try.underlying3 k2
  obtain ⟨a3, b3, rfl, k3, h4⟩ := rdF_cons h3
  obtain ⟨c, rfl⟩ := rd_bool Go.Proofs.Try.underlying4 k3
  obtain ⟨a4, b4, rfl, k4, h5⟩ := rdF_cons h4
  obtain ⟨t, s, rfl⟩ := edge_read (d := d + 3) k4
  obtain ⟨a5, b5, rfl, k5, h6⟩ := rdF_cons h5
  obtain ⟨nx, ls, rfl, _, e1, e2⟩ := rd_slice Go.Proofs.Try.underlying64 k5
  obtain rfl := rdF_nil h6
  rw [cells63] at e2
  obtain ⟨es, q1, q2, q3⟩ := map_mem (f := wrapAs Go.Proofs.Try.prog 63) (g := ed) (Q := fun _ => True) (ls := ls) fun y hy => by
    obtain ⟨u, v, rfl⟩ := edge_read (d := d + 1) (e1 y hy)
    exact ⟨(u, v), by rw [wrap_struct Go.Proofs.Try.underlying63], trivial⟩
  rw [q3] at e2
  exact ⟨⟨k, p, c, t, s, es, nx⟩, rfl, e2⟩
/-- a table that is read -/
theorem nodes_read {d : Nat} {v : AV} (h : Rdd Go.Proofs.Try.prog (d + 15) 56 [v]) : ∃ ns : List Nd, Sl 6 v (ns.map nodeV) ∧ ∀ x ∈ ns, NdOk x := by
  obtain ⟨a, ls, e, _, e1, e2⟩ := rd_slice Go.Proofs.Try.underlying56 h
  cases e
  rw [cells66] at e2
  obtain ⟨ns, q1, q2, q3⟩ := map_mem (f := wrapAs Go.Proofs.Try.prog 66) (g := nodeV) (Q := NdOk) (ls := ls) fun y hy => by
    obtain ⟨x, h1, h2⟩ := node_read (d := d) (e1 y hy)
    exact ⟨x, by rw [wrap_struct Go.Proofs.Try.underlying66]; exact h1, h2⟩
  rw [q3] at e2
  exact ⟨ns, e2, q2⟩
/-- the first seventy -/
theorem cut_nodes {v : AV} {ns : List Nd} (h : Sl 6 v (ns.map nodeV)) (hok : ∀ x ∈ ns, NdOk x) : ∃ b, aslice cx.T 56 v none (some (iv ((min ns.length 70 : Nat) : Int))) none = some b ∧ NsOk (ns.take 70) b := by
  obtain ⟨b, h1, h2⟩ := aslice_take (n := min ns.length 70) h sl56 (by rw [List.length_map]; omega)
  refine ⟨b, h1, ⟨?_, fun x hx => hok x (List.mem_of_mem_take hx), ?_⟩⟩
  · rw [← List.map_take] at h2
    have : ns.take (min ns.length 70) = ns.take 70 := by
      by_cases hl : ns.length ≤ 70
      · rw [Nat.min_eq_left hl, List.take_length, List.take_of_length_le hl]
      · rw [Nat.min_eq_right (by omega)]
    rw [this] at h2; exact h2
  · rw [List.length_take]; omega
end Go.Abs.Tab

/- The statement GraphLeads: its tables. -/
set_option linter.unusedVariables false
namespace Go.Abs.Tab
open Go.Gr
/-- a slice that is appended to -/
def Grow (sz : Nat) (v : AV) (els : List AV) : Prop := v = .vec sz .own els ∨ (v = .lit (.slice none 0 0) ∧ els = [])
theorem Grow.sl {sz : Nat} {v : AV} {els : List AV} (h : Grow sz v els) : Sl sz (Abs.shr v) els := by
  rcases h with rfl | ⟨rfl, rfl⟩
  · exact .inr (.inl rfl)
  · exact .inr (.inr ⟨rfl, rfl⟩)
theorem Grow.kill {sz : Nat} {v : AV} {els : List AV} (h : Grow sz v els) (m : Nat) : Abs.kill m v = v := by
  rcases h with rfl | ⟨rfl, rfl⟩ <;> rfl
theorem mvV_false {nt : Nat} {fr : PT} {H : Hp} {dd : Option Tmp} {t : Tmp} (v : AV) : mvV nt fr H dd t false v = setO nt dd fr H (shr v) := by
  unfold mvV
  split
  · rfl
  · rename_i h
    rw [shr_of_notOwn]
    cases v with
    | vec s k l => cases k with
      | own => exact absurd rfl (h s l)
      | _ => rfl
    | _ => rfl
structure OFr (fr : PT) (b : AV) (z : Int) (i : Nat) (v : AV) : Prop where
  f0 : fr.get 0 = b
  f1 : fr.get 1 = .lit (.int .u64 z)
  f5 : fr.get 5 = .ptr 0 0 0
  f7 : fr.get 7 = v
  f8 : fr.get 8 = iv i
theorem build66_5 (k : Int) (a : AV) (e : List AV) (h : a = .vec 2 .exact e) : abuild cx.T 66 [(0, iv k), (4, a)] = some (.agg [iv k, iv 0, bv false, iv 0, iv 0, a]) := by subst h; exact build66_k k e
theorem own_loop {ns : List Nd} {b : AV} (hns : NsOk ns b) (hL : ns.length ≤ 70) {z : Int} {T0 : ABlock} (hT0 : killB 1 T0 = T0) : ∀ (k i : Nat) (fr : PT) (G : Hp) (os : List Nd) (v : AV), ns.length - i = k → i ≤ ns.length → G.length = 1 → G[0]? = some T0 →
    OFr fr b z i v → Grow 6 v (os.map nodeV) → os.length = i → (∀ x ∈ os, NdOk x) →
    ∃ (fr' : PT) (G' : Hp) (os' : List Nd) (v' : AV), D.loop 0 8 127 l8_0 fr G = some (.exit 0, fr', G') ∧ G'.length = 1 ∧ G'[0]? = some T0 ∧ OFr fr' b z ns.length v' ∧ Grow 6 v' (os'.map nodeV) ∧ os'.length = ns.length ∧ ∀ x ∈ os', NdOk x
  | 0, i, fr, G, os, v, hk, hi, hG, hG0, F, hv, hos, hok => by
    have hie : i = ns.length := by omega
    subst hie
    have hn : ¬ ((ns.length : Int) < (ns.length : Int)) := by omega
    rw [dl8_0]
    simp -implicitDefEqProofs (maxDischargeDepth := 4) only [go_sem, ↓reduceIte, Nat.reduceLT, Nat.reduceAdd, Nat.reduceMul, Nat.reduceSub, Nat.reduceEqDiff, Nat.reduceLeDiff, Nat.reduceBEq, reduceCtorEq, Int.reduceLT, Int.reduceLE, Int.reduceEq, Int.reduceNe, Nat.reducePow, elAt_eq, stV_eq, cellsB_cells, hp_get_r, hp_get_r0, hp_get_l, hp_set_r, hp_set_r0, hp_set_l, hp_one, hp_ne, List.drop_succ_cons, List.drop_zero, List.take_succ_cons, List.take_zero, F.f0, F.f8, hns.sl.shr, hns.sl.notOwn, alen_sl hns.sl, List.length_map, hn]
    refine ⟨_, _, os, v, rfl, hG, hG0, ⟨?_, ?_, ?_, ?_, ?_⟩, hv, hos, hok⟩ <;> simp -implicitDefEqProofs (maxDischargeDepth := 4) only [go_sem, ↓reduceIte, Nat.reduceLT, Nat.reduceAdd, Nat.reduceMul, Nat.reduceSub, Nat.reduceEqDiff, Nat.reduceLeDiff, Nat.reduceBEq, reduceCtorEq, Int.reduceLT, Int.reduceLE, Int.reduceEq, Int.reduceNe, Nat.reducePow, F.f0, F.f1, F.f5, F.f7, F.f8]
  | k + 1, i, fr, G, os, v, hk, hi, hG, hG0, F, hv, hos, hok => by
    have hn : ((i : Int) < (ns.length : Int)) := by omega
    have e3 : wrapK .i64 ((i : Int) + 1) = ((i + 1 : Nat) : Int) := by rw [wrapK_i64 (by omega) (by omega)]; rfl
    obtain ⟨x, hx⟩ := ex_nd (ns := ns) (i := i) (by omega)
    have hat := hns.at hx
    have hxok := hns.ok x (List.mem_of_getElem? hx)
    have hs : Sl 2 x.nx (x.es.map ed) := hxok
    have h64 : (64 : Int) ≠ 0 := by decide
    obtain ⟨q, hq⟩ : ∃ q, abin cx.T .shr 59 (.lit (.int .u64 z)) (.lit (.int .i64 ((i : Int).tmod 64))) = some (.lit (.int .u64 q)) := by
      have hp : ¬ (i : Int).tmod 64 < 0 := by
        rw [Int.not_lt]; exact Int.tmod_nonneg _ (by omega)
      simp only [abin, binI, shiftI]
      rw [if_neg hp]
      exact ⟨_, rfl⟩
    obtain ⟨r, hr⟩ : ∃ r, abin cx.T .and 59 (.lit (.int .u64 q)) (.lit (.int .u64 1)) = some (.lit (.int .u64 r)) := ⟨_, rfl⟩
    -- one more of such nodes
    have next : ∀ (y : Nd) (fr1 : PT) (G1 : Hp), NdOk y → 1 ≤ G1.length → G1[0]? = some T0 → OFr fr1 b z (i + 1) (.vec 6 .own (os.map nodeV ++ [nodeV y])) →
        ∃ (fr' : PT) (G' : Hp) (os' : List Nd) (v' : AV), trimmed (D.loop 0 8 127 l8_0) 1 fr1 G1 = some (.exit 0, fr', G') ∧ G'.length = 1 ∧ G'[0]? = some T0 ∧ OFr fr' b z ns.length v' ∧ Grow 6 v' (os'.map nodeV) ∧ os'.length = ns.length ∧ ∀ x ∈ os', NdOk x := fun y fr1 G1 hy hl g0 F1 => by
      refine trim_gen (P := fun w => ∃ (fr' : PT) (G' : Hp) (os' : List Nd) (v' : AV), w = some (.exit 0, fr', G') ∧ G'.length = 1 ∧ G'[0]? = some T0 ∧ OFr fr' b z ns.length v' ∧ Grow 6 v' (os'.map nodeV) ∧ os'.length = ns.length ∧ ∀ x ∈ os', NdOk x)
        [0, 1, 5, 7, 8] hl (fun t ht => ?_) fun fr' G' hG' hf hk' => own_loop hns hL hT0 k (i + 1) fr' G' (os ++ [y]) (.vec 6 .own (os.map nodeV ++ [nodeV y])) (by omega) (by omega) hG' (hk' 0 _ (by decide) g0 hT0)
          ⟨by rw [hf 0 (by simp), F1.f0], by rw [hf 1 (by simp), F1.f1], by rw [hf 5 (by simp), F1.f5], by rw [hf 7 (by simp), F1.f7], by rw [hf 8 (by simp), F1.f8]⟩ (.inl (by rw [List.map_append]; rfl)) (by rw [List.length_append, hos]; rfl) fun w hw => ?_
      · simp only [List.mem_cons, List.not_mem_nil, or_false] at ht
        rcases ht with rfl | rfl | rfl | rfl | rfl
        · rw [F1.f0, kill_Sl hns.sl]
        · rw [F1.f1]; rfl
        · rw [F1.f5]; rfl
        · rw [F1.f7]; rfl
        · rw [F1.f8]; rfl
      · rw [List.mem_append, List.mem_singleton] at hw
        rcases hw with hw | rfl
        · exact hok w hw
        · exact hy
    have hap : ∀ y : AV, apV 6 64 [y] v = some (.vec 6 .own (os.map nodeV ++ [y])) := fun y => by
      rcases hv with rfl | ⟨rfl, he⟩
      · exact apV_own (by rw [List.length_map]; simp only [List.length_nil]; omega) (by decide)
      · rw [he]; exact apV_none (by simp only [List.length_nil]; omega) (by decide)
    rw [dl8_0]
    by_cases h1 : r = 1
    · by_cases h2 : 0 < (x.es.length : Int)
      · have e2 := at_ed hs (show 0 < x.es.length by omega)
        have e2' : aindexAddr cx.T 64 x.nx (iv 0) = some (.vp (ed (x.es.getD 0 (0, 0))) 0) := e2
        have hL0 : (ns.length : Int) ≠ 0 := by omega
        have h5 : (5 : Int) ≠ 0 := by decide
        rcases hv with rfl | ⟨rfl, he⟩
        · simp -implicitDefEqProofs (maxDischargeDepth := 4) only [go_sem, ↓reduceIte, Nat.reduceLT, Nat.reduceAdd, Nat.reduceMul, Nat.reduceSub, Nat.reduceEqDiff, Nat.reduceLeDiff, Nat.reduceBEq, reduceCtorEq, Int.reduceLT, Int.reduceLE, Int.reduceEq, Int.reduceNe, Nat.reducePow, elAt_eq, stV_eq, cellsB_cells, hp_get_r, hp_get_r0, hp_get_l, hp_set_r, hp_set_r0, hp_set_l, hp_one, hp_ne, List.drop_succ_cons, List.drop_zero, List.take_succ_cons, List.take_zero, F.f0, F.f1, F.f5, F.f7, F.f8, hns.sl.shr, hns.sl.notOwn, alen_sl hns.sl, List.length_map, hn, hat, hs.shr, hs.notOwn, hs.drp, hs.fitA, hG, Nat.zero_le, Nat.not_lt_zero, h64, hq, hr, elP_Sl hs, alen_sl hs, hs.cl0, hap, e3, h1, h2, e2', hL0, h5, build63', build66_k, hns.sl.lenRd, hs.lenRd, hs.rdOf, nbeq]
          refine next (mkNd 5 0 false 0 0 [((wrapK .i64 ((x.es.getD 0 (0, 0)).1.tmod ns.length + ns.length)).tmod ns.length, (x.es.getD 0 (0, 0)).2.tmod 5)]) _ _ (mkNd_ok _ _ _ _ _ _) ?_ ?_ ⟨?_, ?_, ?_, ?_, ?_⟩
          · simp [hG]
          · rw [hp_get_l (by rw [hG]; decide), hG0]
          · simp -implicitDefEqProofs (maxDischargeDepth := 4) only [go_sem, ↓reduceIte, Nat.reduceLT, Nat.reduceAdd, Nat.reduceMul, Nat.reduceSub, Nat.reduceEqDiff, Nat.reduceLeDiff, Nat.reduceBEq, reduceCtorEq, Int.reduceLT, Int.reduceLE, Int.reduceEq, Int.reduceNe, Nat.reducePow, F.f0]
          · simp -implicitDefEqProofs (maxDischargeDepth := 4) only [go_sem, ↓reduceIte, Nat.reduceLT, Nat.reduceAdd, Nat.reduceMul, Nat.reduceSub, Nat.reduceEqDiff, Nat.reduceLeDiff, Nat.reduceBEq, reduceCtorEq, Int.reduceLT, Int.reduceLE, Int.reduceEq, Int.reduceNe, Nat.reducePow, F.f1]
          · simp -implicitDefEqProofs (maxDischargeDepth := 4) only [go_sem, ↓reduceIte, Nat.reduceLT, Nat.reduceAdd, Nat.reduceMul, Nat.reduceSub, Nat.reduceEqDiff, Nat.reduceLeDiff, Nat.reduceBEq, reduceCtorEq, Int.reduceLT, Int.reduceLE, Int.reduceEq, Int.reduceNe, Nat.reducePow, F.f5]
          · simp -implicitDefEqProofs (maxDischargeDepth := 4) only [go_sem, ↓reduceIte, Nat.reduceLT, Nat.reduceAdd, Nat.reduceMul, Nat.reduceSub, Nat.reduceEqDiff, Nat.reduceLeDiff, Nat.reduceBEq, reduceCtorEq, Int.reduceLT, Int.reduceLE, Int.reduceEq, Int.reduceNe, Nat.reducePow]
            rfl
          · simp -implicitDefEqProofs (maxDischargeDepth := 4) only [go_sem, ↓reduceIte, Nat.reduceLT, Nat.reduceAdd, Nat.reduceMul, Nat.reduceSub, Nat.reduceEqDiff, Nat.reduceLeDiff, Nat.reduceBEq, reduceCtorEq, Int.reduceLT, Int.reduceLE, Int.reduceEq, Int.reduceNe, Nat.reducePow]
        · simp -implicitDefEqProofs (maxDischargeDepth := 4) only [go_sem, ↓reduceIte, Nat.reduceLT, Nat.reduceAdd, Nat.reduceMul, Nat.reduceSub, Nat.reduceEqDiff, Nat.reduceLeDiff, Nat.reduceBEq, reduceCtorEq, Int.reduceLT, Int.reduceLE, Int.reduceEq, Int.reduceNe, Nat.reducePow, elAt_eq, stV_eq, cellsB_cells, hp_get_r, hp_get_r0, hp_get_l, hp_set_r, hp_set_r0, hp_set_l, hp_one, hp_ne, List.drop_succ_cons, List.drop_zero, List.take_succ_cons, List.take_zero, F.f0, F.f1, F.f5, F.f7, F.f8, hns.sl.shr, hns.sl.notOwn, alen_sl hns.sl, List.length_map, hn, hat, hs.shr, hs.notOwn, hs.drp, hs.fitA, hG, Nat.zero_le, Nat.not_lt_zero, h64, hq, hr, elP_Sl hs, alen_sl hs, hs.cl0, hap, e3, h1, h2, e2', hL0, h5, build63', build66_k, hns.sl.lenRd, hs.lenRd, hs.rdOf, nbeq]
          refine next (mkNd 5 0 false 0 0 [((wrapK .i64 ((x.es.getD 0 (0, 0)).1.tmod ns.length + ns.length)).tmod ns.length, (x.es.getD 0 (0, 0)).2.tmod 5)]) _ _ (mkNd_ok _ _ _ _ _ _) ?_ ?_ ⟨?_, ?_, ?_, ?_, ?_⟩
          · simp [hG]
          · rw [hp_get_l (by rw [hG]; decide), hG0]
          · simp -implicitDefEqProofs (maxDischargeDepth := 4) only [go_sem, ↓reduceIte, Nat.reduceLT, Nat.reduceAdd, Nat.reduceMul, Nat.reduceSub, Nat.reduceEqDiff, Nat.reduceLeDiff, Nat.reduceBEq, reduceCtorEq, Int.reduceLT, Int.reduceLE, Int.reduceEq, Int.reduceNe, Nat.reducePow, F.f0]
          · simp -implicitDefEqProofs (maxDischargeDepth := 4) only [go_sem, ↓reduceIte, Nat.reduceLT, Nat.reduceAdd, Nat.reduceMul, Nat.reduceSub, Nat.reduceEqDiff, Nat.reduceLeDiff, Nat.reduceBEq, reduceCtorEq, Int.reduceLT, Int.reduceLE, Int.reduceEq, Int.reduceNe, Nat.reducePow, F.f1]
          · simp -implicitDefEqProofs (maxDischargeDepth := 4) only [go_sem, ↓reduceIte, Nat.reduceLT, Nat.reduceAdd, Nat.reduceMul, Nat.reduceSub, Nat.reduceEqDiff, Nat.reduceLeDiff, Nat.reduceBEq, reduceCtorEq, Int.reduceLT, Int.reduceLE, Int.reduceEq, Int.reduceNe, Nat.reducePow, F.f5]
          · simp -implicitDefEqProofs (maxDischargeDepth := 4) only [go_sem, ↓reduceIte, Nat.reduceLT, Nat.reduceAdd, Nat.reduceMul, Nat.reduceSub, Nat.reduceEqDiff, Nat.reduceLeDiff, Nat.reduceBEq, reduceCtorEq, Int.reduceLT, Int.reduceLE, Int.reduceEq, Int.reduceNe, Nat.reducePow]
            rfl
          · simp -implicitDefEqProofs (maxDischargeDepth := 4) only [go_sem, ↓reduceIte, Nat.reduceLT, Nat.reduceAdd, Nat.reduceMul, Nat.reduceSub, Nat.reduceEqDiff, Nat.reduceLeDiff, Nat.reduceBEq, reduceCtorEq, Int.reduceLT, Int.reduceLE, Int.reduceEq, Int.reduceNe, Nat.reducePow]
      · rcases hv with rfl | ⟨rfl, he⟩
        · simp -implicitDefEqProofs (maxDischargeDepth := 4) only [go_sem, ↓reduceIte, Nat.reduceLT, Nat.reduceAdd, Nat.reduceMul, Nat.reduceSub, Nat.reduceEqDiff, Nat.reduceLeDiff, Nat.reduceBEq, reduceCtorEq, Int.reduceLT, Int.reduceLE, Int.reduceEq, Int.reduceNe, Nat.reducePow, elAt_eq, stV_eq, cellsB_cells, hp_get_r, hp_get_r0, hp_get_l, hp_set_r, hp_set_r0, hp_set_l, hp_one, hp_ne, List.drop_succ_cons, List.drop_zero, List.take_succ_cons, List.take_zero, F.f0, F.f1, F.f5, F.f7, F.f8, hns.sl.shr, hns.sl.notOwn, alen_sl hns.sl, List.length_map, hn, hat, hs.shr, hs.notOwn, hs.drp, hs.fitA, hG, Nat.zero_le, Nat.not_lt_zero, h64, hq, hr, elP_Sl hs, alen_sl hs, hs.cl0, hap, e3, h1, h2]
          refine next x _ _ hxok ?_ ?_ ⟨?_, ?_, ?_, ?_, ?_⟩
          · simp [hG]
          · rw [hp_get_l (by rw [hG]; decide), hG0]
          · simp -implicitDefEqProofs (maxDischargeDepth := 4) only [go_sem, ↓reduceIte, Nat.reduceLT, Nat.reduceAdd, Nat.reduceMul, Nat.reduceSub, Nat.reduceEqDiff, Nat.reduceLeDiff, Nat.reduceBEq, reduceCtorEq, Int.reduceLT, Int.reduceLE, Int.reduceEq, Int.reduceNe, Nat.reducePow, F.f0]
          · simp -implicitDefEqProofs (maxDischargeDepth := 4) only [go_sem, ↓reduceIte, Nat.reduceLT, Nat.reduceAdd, Nat.reduceMul, Nat.reduceSub, Nat.reduceEqDiff, Nat.reduceLeDiff, Nat.reduceBEq, reduceCtorEq, Int.reduceLT, Int.reduceLE, Int.reduceEq, Int.reduceNe, Nat.reducePow, F.f1]
          · simp -implicitDefEqProofs (maxDischargeDepth := 4) only [go_sem, ↓reduceIte, Nat.reduceLT, Nat.reduceAdd, Nat.reduceMul, Nat.reduceSub, Nat.reduceEqDiff, Nat.reduceLeDiff, Nat.reduceBEq, reduceCtorEq, Int.reduceLT, Int.reduceLE, Int.reduceEq, Int.reduceNe, Nat.reducePow, F.f5]
          · simp -implicitDefEqProofs (maxDischargeDepth := 4) only [go_sem, ↓reduceIte, Nat.reduceLT, Nat.reduceAdd, Nat.reduceMul, Nat.reduceSub, Nat.reduceEqDiff, Nat.reduceLeDiff, Nat.reduceBEq, reduceCtorEq, Int.reduceLT, Int.reduceLE, Int.reduceEq, Int.reduceNe, Nat.reducePow]
          · simp -implicitDefEqProofs (maxDischargeDepth := 4) only [go_sem, ↓reduceIte, Nat.reduceLT, Nat.reduceAdd, Nat.reduceMul, Nat.reduceSub, Nat.reduceEqDiff, Nat.reduceLeDiff, Nat.reduceBEq, reduceCtorEq, Int.reduceLT, Int.reduceLE, Int.reduceEq, Int.reduceNe, Nat.reducePow]
        · simp -implicitDefEqProofs (maxDischargeDepth := 4) only [go_sem, ↓reduceIte, Nat.reduceLT, Nat.reduceAdd, Nat.reduceMul, Nat.reduceSub, Nat.reduceEqDiff, Nat.reduceLeDiff, Nat.reduceBEq, reduceCtorEq, Int.reduceLT, Int.reduceLE, Int.reduceEq, Int.reduceNe, Nat.reducePow, elAt_eq, stV_eq, cellsB_cells, hp_get_r, hp_get_r0, hp_get_l, hp_set_r, hp_set_r0, hp_set_l, hp_one, hp_ne, List.drop_succ_cons, List.drop_zero, List.take_succ_cons, List.take_zero, F.f0, F.f1, F.f5, F.f7, F.f8, hns.sl.shr, hns.sl.notOwn, alen_sl hns.sl, List.length_map, hn, hat, hs.shr, hs.notOwn, hs.drp, hs.fitA, hG, Nat.zero_le, Nat.not_lt_zero, h64, hq, hr, elP_Sl hs, alen_sl hs, hs.cl0, hap, e3, h1, h2]
          refine next x _ _ hxok ?_ ?_ ⟨?_, ?_, ?_, ?_, ?_⟩
          · simp [hG]
          · rw [hp_get_l (by rw [hG]; decide), hG0]
          · simp -implicitDefEqProofs (maxDischargeDepth := 4) only [go_sem, ↓reduceIte, Nat.reduceLT, Nat.reduceAdd, Nat.reduceMul, Nat.reduceSub, Nat.reduceEqDiff, Nat.reduceLeDiff, Nat.reduceBEq, reduceCtorEq, Int.reduceLT, Int.reduceLE, Int.reduceEq, Int.reduceNe, Nat.reducePow, F.f0]
          · simp -implicitDefEqProofs (maxDischargeDepth := 4) only [go_sem, ↓reduceIte, Nat.reduceLT, Nat.reduceAdd, Nat.reduceMul, Nat.reduceSub, Nat.reduceEqDiff, Nat.reduceLeDiff, Nat.reduceBEq, reduceCtorEq, Int.reduceLT, Int.reduceLE, Int.reduceEq, Int.reduceNe, Nat.reducePow, F.f1]
          · simp -implicitDefEqProofs (maxDischargeDepth := 4) only [go_sem, ↓reduceIte, Nat.reduceLT, Nat.reduceAdd, Nat.reduceMul, Nat.reduceSub, Nat.reduceEqDiff, Nat.reduceLeDiff, Nat.reduceBEq, reduceCtorEq, Int.reduceLT, Int.reduceLE, Int.reduceEq, Int.reduceNe, Nat.reducePow, F.f5]
          · simp -implicitDefEqProofs (maxDischargeDepth := 4) only [go_sem, ↓reduceIte, Nat.reduceLT, Nat.reduceAdd, Nat.reduceMul, Nat.reduceSub, Nat.reduceEqDiff, Nat.reduceLeDiff, Nat.reduceBEq, reduceCtorEq, Int.reduceLT, Int.reduceLE, Int.reduceEq, Int.reduceNe, Nat.reducePow]
          · simp -implicitDefEqProofs (maxDischargeDepth := 4) only [go_sem, ↓reduceIte, Nat.reduceLT, Nat.reduceAdd, Nat.reduceMul, Nat.reduceSub, Nat.reduceEqDiff, Nat.reduceLeDiff, Nat.reduceBEq, reduceCtorEq, Int.reduceLT, Int.reduceLE, Int.reduceEq, Int.reduceNe, Nat.reducePow]
    · rcases hv with rfl | ⟨rfl, he⟩
      · simp -implicitDefEqProofs (maxDischargeDepth := 4) only [go_sem, ↓reduceIte, Nat.reduceLT, Nat.reduceAdd, Nat.reduceMul, Nat.reduceSub, Nat.reduceEqDiff, Nat.reduceLeDiff, Nat.reduceBEq, reduceCtorEq, Int.reduceLT, Int.reduceLE, Int.reduceEq, Int.reduceNe, Nat.reducePow, elAt_eq, stV_eq, cellsB_cells, hp_get_r, hp_get_r0, hp_get_l, hp_set_r, hp_set_r0, hp_set_l, hp_one, hp_ne, List.drop_succ_cons, List.drop_zero, List.take_succ_cons, List.take_zero, F.f0, F.f1, F.f5, F.f7, F.f8, hns.sl.shr, hns.sl.notOwn, alen_sl hns.sl, List.length_map, hn, hat, hs.shr, hs.notOwn, hs.drp, hs.fitA, hG, Nat.zero_le, Nat.not_lt_zero, h64, hq, hr, elP_Sl hs, alen_sl hs, hs.cl0, hap, e3, h1]
        refine next x _ _ hxok ?_ ?_ ⟨?_, ?_, ?_, ?_, ?_⟩
        · simp [hG]
        · rw [hp_get_l (by rw [hG]; decide), hG0]
        · simp -implicitDefEqProofs (maxDischargeDepth := 4) only [go_sem, ↓reduceIte, Nat.reduceLT, Nat.reduceAdd, Nat.reduceMul, Nat.reduceSub, Nat.reduceEqDiff, Nat.reduceLeDiff, Nat.reduceBEq, reduceCtorEq, Int.reduceLT, Int.reduceLE, Int.reduceEq, Int.reduceNe, Nat.reducePow, F.f0]
        · simp -implicitDefEqProofs (maxDischargeDepth := 4) only [go_sem, ↓reduceIte, Nat.reduceLT, Nat.reduceAdd, Nat.reduceMul, Nat.reduceSub, Nat.reduceEqDiff, Nat.reduceLeDiff, Nat.reduceBEq, reduceCtorEq, Int.reduceLT, Int.reduceLE, Int.reduceEq, Int.reduceNe, Nat.reducePow, F.f1]
        · simp -implicitDefEqProofs (maxDischargeDepth := 4) only [go_sem, ↓reduceIte, Nat.reduceLT, Nat.reduceAdd, Nat.reduceMul, Nat.reduceSub, Nat.reduceEqDiff, Nat.reduceLeDiff, Nat.reduceBEq, reduceCtorEq, Int.reduceLT, Int.reduceLE, Int.reduceEq, Int.reduceNe, Nat.reducePow, F.f5]
        · simp -implicitDefEqProofs (maxDischargeDepth := 4) only [go_sem, ↓reduceIte, Nat.reduceLT, Nat.reduceAdd, Nat.reduceMul, Nat.reduceSub, Nat.reduceEqDiff, Nat.reduceLeDiff, Nat.reduceBEq, reduceCtorEq, Int.reduceLT, Int.reduceLE, Int.reduceEq, Int.reduceNe, Nat.reducePow]
        · simp -implicitDefEqProofs (maxDischargeDepth := 4) only [go_sem, ↓reduceIte, Nat.reduceLT, Nat.reduceAdd, Nat.reduceMul, Nat.reduceSub, Nat.reduceEqDiff, Nat.reduceLeDiff, Nat.reduceBEq, reduceCtorEq, Int.reduceLT, Int.reduceLE, Int.reduceEq, Int.reduceNe, Nat.reducePow]
      · simp -implicitDefEqProofs (maxDischargeDepth := 4) only [go_sem, ↓reduceIte, Nat.reduceLT, Nat.reduceAdd, Nat.reduceMul, Nat.reduceSub, Nat.reduceEqDiff, Nat.reduceLeDiff, Nat.reduceBEq, reduceCtorEq, Int.reduceLT, Int.reduceLE, Int.reduceEq, Int.reduceNe, Nat.reducePow, elAt_eq, stV_eq, cellsB_cells, hp_get_r, hp_get_r0, hp_get_l, hp_set_r, hp_set_r0, hp_set_l, hp_one, hp_ne, List.drop_succ_cons, List.drop_zero, List.take_succ_cons, List.take_zero, F.f0, F.f1, F.f5, F.f7, F.f8, hns.sl.shr, hns.sl.notOwn, alen_sl hns.sl, List.length_map, hn, hat, hs.shr, hs.notOwn, hs.drp, hs.fitA, hG, Nat.zero_le, Nat.not_lt_zero, h64, hq, hr, elP_Sl hs, alen_sl hs, hs.cl0, hap, e3, h1]
        refine next x _ _ hxok ?_ ?_ ⟨?_, ?_, ?_, ?_, ?_⟩
        · simp [hG]
        · rw [hp_get_l (by rw [hG]; decide), hG0]
        · simp -implicitDefEqProofs (maxDischargeDepth := 4) only [go_sem, ↓reduceIte, Nat.reduceLT, Nat.reduceAdd, Nat.reduceMul, Nat.reduceSub, Nat.reduceEqDiff, Nat.reduceLeDiff, Nat.reduceBEq, reduceCtorEq, Int.reduceLT, Int.reduceLE, Int.reduceEq, Int.reduceNe, Nat.reducePow, F.f0]
        · simp -implicitDefEqProofs (maxDischargeDepth := 4) only [go_sem, ↓reduceIte, Nat.reduceLT, Nat.reduceAdd, Nat.reduceMul, Nat.reduceSub, Nat.reduceEqDiff, Nat.reduceLeDiff, Nat.reduceBEq, reduceCtorEq, Int.reduceLT, Int.reduceLE, Int.reduceEq, Int.reduceNe, Nat.reducePow, F.f1]
        · simp -implicitDefEqProofs (maxDischargeDepth := 4) only [go_sem, ↓reduceIte, Nat.reduceLT, Nat.reduceAdd, Nat.reduceMul, Nat.reduceSub, Nat.reduceEqDiff, Nat.reduceLeDiff, Nat.reduceBEq, reduceCtorEq, Int.reduceLT, Int.reduceLE, Int.reduceEq, Int.reduceNe, Nat.reducePow, F.f5]
        · simp -implicitDefEqProofs (maxDischargeDepth := 4) only [go_sem, ↓reduceIte, Nat.reduceLT, Nat.reduceAdd, Nat.reduceMul, Nat.reduceSub, Nat.reduceEqDiff, Nat.reduceLeDiff, Nat.reduceBEq, reduceCtorEq, Int.reduceLT, Int.reduceLE, Int.reduceEq, Int.reduceNe, Nat.reducePow]
        · simp -implicitDefEqProofs (maxDischargeDepth := 4) only [go_sem, ↓reduceIte, Nat.reduceLT, Nat.reduceAdd, Nat.reduceMul, Nat.reduceSub, Nat.reduceEqDiff, Nat.reduceLeDiff, Nat.reduceBEq, reduceCtorEq, Int.reduceLT, Int.reduceLE, Int.reduceEq, Int.reduceNe, Nat.reducePow]

structure LFr8 (fr : PT) (b : AV) (i : Int) (v : AV) : Prop where
  f0 : fr.get 0 = b
  f5 : fr.get 5 = .ptr 0 0 0
  f7 : fr.get 7 = v
  f10 : fr.get 10 = iv i
theorem lead_loop {ns os : List Nd} {b v : AV} (hns : NsOk ns b) (hL : ns.length ≤ 70) (hos : NsOk os (shr v)) (hk : ∀ m, kill m v = v) {n o : Int} : ∀ (k : Nat) (i : Int) (fr : PT) (G : Hp), (ns.length : Int) + 1 - i = k → -1 ≤ i → G.length = 1 → G[0]? = some (.cells 2 61 [tyV (n, o)]) → LFr8 fr b i v →
    ∃ fr' G', D.loop 0 8 127 l8_1 fr G = some (.exit 2, fr', G') ∧ G'.length = 1 ∧ G'[0]? = some (.cells 2 61 [tyV (n, o)]) ∧ fr'.get 0 = b ∧ fr'.get 5 = .ptr 0 0 0 ∧ fr'.get 7 = v
  | 0, i, fr, G, hk0, hi, hG, hG0, F => by
    have hn : ¬ (i ≤ (ns.length : Int)) := by omega
    rw [dl8_1]
    simp -implicitDefEqProofs (maxDischargeDepth := 4) only [go_sem, ↓reduceIte, Nat.reduceLT, Nat.reduceAdd, Nat.reduceMul, Nat.reduceSub, Nat.reduceEqDiff, Nat.reduceLeDiff, Nat.reduceBEq, reduceCtorEq, Int.reduceLT, Int.reduceLE, Int.reduceEq, Int.reduceNe, Nat.reducePow, elAt_eq, stV_eq, cellsB_cells, hp_get_r, hp_get_r0, hp_get_l, hp_set_r, hp_set_r0, hp_set_l, hp_one, hp_ne, List.drop_succ_cons, List.drop_zero, List.take_succ_cons, List.take_zero, F.f0, F.f10, hns.sl.shr, hns.sl.notOwn, alen_sl hns.sl, List.length_map, hn]
    refine ⟨_, _, rfl, hG, hG0, ?_, ?_, ?_⟩ <;> simp -implicitDefEqProofs (maxDischargeDepth := 4) only [go_sem, ↓reduceIte, Nat.reduceLT, Nat.reduceAdd, Nat.reduceMul, Nat.reduceSub, Nat.reduceEqDiff, Nat.reduceLeDiff, Nat.reduceBEq, reduceCtorEq, Int.reduceLT, Int.reduceLE, Int.reduceEq, Int.reduceNe, Nat.reducePow, F.f0, F.f5, F.f7]
  | k + 1, i, fr, G, hk0, hi, hG, hG0, F => by
    have hn : i ≤ (ns.length : Int) := by omega
    have e3 : wrapK .i64 (i + 1) = i + 1 := wrapK_i64 (by omega) (by omega)
    have h1000 : (1000 : Int) ≠ 0 := by decide
    have r1 := res51_ok hos i (o.tmod 1000)
    have r2 := rres_ok hos i (o.tmod 1000)
    have r3 := res51_ok hns i (o.tmod 1000)
    have r4 := rres_ok hns i (o.tmod 1000)
    rw [dl8_1]
    simp -implicitDefEqProofs (maxDischargeDepth := 4) only [go_sem, ↓reduceIte, Nat.reduceLT, Nat.reduceAdd, Nat.reduceMul, Nat.reduceSub, Nat.reduceEqDiff, Nat.reduceLeDiff, Nat.reduceBEq, reduceCtorEq, Int.reduceLT, Int.reduceLE, Int.reduceEq, Int.reduceNe, Nat.reducePow, elAt_eq, stV_eq, cellsB_cells, hp_get_r, hp_get_r0, hp_get_l, hp_set_r, hp_set_r0, hp_set_l, hp_one, hp_ne, List.drop_succ_cons, List.drop_zero, List.take_succ_cons, List.take_zero, F.f0, F.f5, F.f7, F.f10, hns.sl.shr, hns.sl.notOwn, hns.sl.shut1, alen_sl hns.sl, List.length_map, hn, hG, hG0, h1000, Nat.zero_le, Nat.not_lt_zero, build61, mvV_false, hos.sl.shr, hos.sl.shut1, hos.sl.notOwn, r1, r2, r3, r4, pair_neq eqt61, Bool.not_true, e3]
    refine trim_gen (P := fun w => ∃ fr' G', w = some (.exit 2, fr', G') ∧ G'.length = 1 ∧ G'[0]? = some (.cells 2 61 [tyV (n, o)]) ∧ fr'.get 0 = b ∧ fr'.get 5 = .ptr 0 0 0 ∧ fr'.get 7 = v)
      [0, 5, 7, 10] ?_ (fun t ht => ?_) fun fr' G' hG' hf hk' => lead_loop hns hL hos hk k (i + 1) fr' G' (by omega) (by omega) hG' (hk' 0 _ (by decide) ?_ rfl) ⟨?_, ?_, ?_, ?_⟩
    · rw [List.length_append, hG]; exact Nat.le_add_right _ _
    · simp only [List.mem_cons, List.not_mem_nil, or_false] at ht
      rcases ht with rfl | rfl | rfl | rfl <;> simp -implicitDefEqProofs (maxDischargeDepth := 4) only [go_sem, ↓reduceIte, Nat.reduceLT, Nat.reduceAdd, Nat.reduceMul, Nat.reduceSub, Nat.reduceEqDiff, Nat.reduceLeDiff, Nat.reduceBEq, reduceCtorEq, Int.reduceLT, Int.reduceLE, Int.reduceEq, Int.reduceNe, Nat.reducePow, F.f0, F.f5, F.f7, kill_Sl hns.sl, hk, kill_lit, kill_ptr]
    · rw [hp_get_l (by rw [hG]; decide), hG0]
    · rw [hf 0 (by simp)]; simp -implicitDefEqProofs (maxDischargeDepth := 4) only [go_sem, ↓reduceIte, Nat.reduceLT, Nat.reduceAdd, Nat.reduceMul, Nat.reduceSub, Nat.reduceEqDiff, Nat.reduceLeDiff, Nat.reduceBEq, reduceCtorEq, Int.reduceLT, Int.reduceLE, Int.reduceEq, Int.reduceNe, Nat.reducePow, F.f0]
    · rw [hf 5 (by simp)]; simp -implicitDefEqProofs (maxDischargeDepth := 4) only [go_sem, ↓reduceIte, Nat.reduceLT, Nat.reduceAdd, Nat.reduceMul, Nat.reduceSub, Nat.reduceEqDiff, Nat.reduceLeDiff, Nat.reduceBEq, reduceCtorEq, Int.reduceLT, Int.reduceLE, Int.reduceEq, Int.reduceNe, Nat.reducePow, F.f5]
    · rw [hf 7 (by simp)]; simp -implicitDefEqProofs (maxDischargeDepth := 4) only [go_sem, ↓reduceIte, Nat.reduceLT, Nat.reduceAdd, Nat.reduceMul, Nat.reduceSub, Nat.reduceEqDiff, Nat.reduceLeDiff, Nat.reduceBEq, reduceCtorEq, Int.reduceLT, Int.reduceLE, Int.reduceEq, Int.reduceNe, Nat.reducePow, F.f7]
    · rw [hf 10 (by simp)]; simp -implicitDefEqProofs (maxDischargeDepth := 4) only [go_sem, ↓reduceIte, Nat.reduceLT, Nat.reduceAdd, Nat.reduceMul, Nat.reduceSub, Nat.reduceEqDiff, Nat.reduceLeDiff, Nat.reduceBEq, reduceCtorEq, Int.reduceLT, Int.reduceLE, Int.reduceEq, Int.reduceNe, Nat.reducePow]
theorem x_split {cx : Cx} {h : Hd} {ro fn nt : Nat} {fr fr' : PT} {H H' : Hp} {a b : Code} (e : ex cx h ro fn nt (.seq a b) fr H = some (.normal, fr', H')) : ∃ fr1 H1, ex cx h ro fn nt a fr H = some (.normal, fr1, H1) ∧ ex cx h ro fn nt b fr1 H1 = some (.normal, fr', H') := by
  rw [x_seq] at e
  cases ha : ex cx h ro fn nt a fr H with
  | none => rw [ha] at e; cases e
  | some r =>
    obtain ⟨x, fr1, H1⟩ := r
    rw [ha] at e
    cases x with
    | normal => rw [xbind_some, contR_normal] at e; exact ⟨fr1, H1, rfl, e⟩
    | _ => cases e
theorem leads_ok {v : AV} {ns : List Nd} (hs : Sl 6 v (ns.map nodeV)) (hok : ∀ x ∈ ns, NdOk x) (z n o : Int) : ∃ H', callB cx D 0 8 [v, .lit (.int .u64 z), tyV (n, o)] [] = some (bv true, H') := by
  obtain ⟨b, h1, hb⟩ := cut_nodes hs hok
  have hL : (ns.take 70).length ≤ 70 := by rw [List.length_take]; omega
  generalize ns.take 70 = ms at *
  have hm : aminmax false [iv ns.length, iv 70] = some (iv ((min ns.length 70 : Nat) : Int)) := min_lit ns.length 70
  obtain ⟨fr1, e1, f0, f1, f5, f7, f8⟩ : ∃ fr1, ex cx D 0 8 127 (.seq (.region 0 g8_0 false) (.seq (.region 1 g8_1 false) (.seq (.region 2 g8_2 false) (.region 3 g8_3 false)))) (((PT.nil.set 0 (drp v)).set 1 (drp (.lit (.int .u64 z)))).set 2 (drp (tyV (n, o)))) [] = some (.normal, fr1, [.cells 2 61 [tyV (n, o)]]) ∧
      fr1.get 0 = b ∧ fr1.get 1 = .lit (.int .u64 z) ∧ fr1.get 5 = .ptr 0 0 0 ∧ fr1.get 7 = .lit (.slice none 0 0) ∧ fr1.get 8 = iv 0 := by
    simp -implicitDefEqProofs (maxDischargeDepth := 4) only [go_sem, ↓reduceIte, Nat.reduceLT, Nat.reduceAdd, Nat.reduceMul, Nat.reduceSub, Nat.reduceEqDiff, Nat.reduceLeDiff, Nat.reduceBEq, reduceCtorEq, Int.reduceLT, Int.reduceLE, Int.reduceEq, Int.reduceNe, Nat.reducePow, elAt_eq, stV_eq, cellsB_cells, hp_get_r, hp_get_r0, hp_get_l, hp_set_r, hp_set_r0, hp_set_l, hp_one, hp_ne, List.drop_succ_cons, List.drop_zero, List.take_succ_cons, List.take_zero, hs.shr, hs.notOwn, hs.drp, alen_sl hs, List.length_map, hm, h1, hb.sl.notOwn, hb.sl.shr, Nat.zero_le, Nat.le_refl]
    exact ⟨_, rfl, by simp -implicitDefEqProofs (maxDischargeDepth := 4) only [go_sem, ↓reduceIte, Nat.reduceLT, Nat.reduceAdd, Nat.reduceMul, Nat.reduceSub, Nat.reduceEqDiff, Nat.reduceLeDiff, Nat.reduceBEq, reduceCtorEq, Int.reduceLT, Int.reduceLE, Int.reduceEq, Int.reduceNe, Nat.reducePow], by simp -implicitDefEqProofs (maxDischargeDepth := 4) only [go_sem, ↓reduceIte, Nat.reduceLT, Nat.reduceAdd, Nat.reduceMul, Nat.reduceSub, Nat.reduceEqDiff, Nat.reduceLeDiff, Nat.reduceBEq, reduceCtorEq, Int.reduceLT, Int.reduceLE, Int.reduceEq, Int.reduceNe, Nat.reducePow], by simp -implicitDefEqProofs (maxDischargeDepth := 4) only [go_sem, ↓reduceIte, Nat.reduceLT, Nat.reduceAdd, Nat.reduceMul, Nat.reduceSub, Nat.reduceEqDiff, Nat.reduceLeDiff, Nat.reduceBEq, reduceCtorEq, Int.reduceLT, Int.reduceLE, Int.reduceEq, Int.reduceNe, Nat.reducePow], by simp -implicitDefEqProofs (maxDischargeDepth := 4) only [go_sem, ↓reduceIte, Nat.reduceLT, Nat.reduceAdd, Nat.reduceMul, Nat.reduceSub, Nat.reduceEqDiff, Nat.reduceLeDiff, Nat.reduceBEq, reduceCtorEq, Int.reduceLT, Int.reduceLE, Int.reduceEq, Int.reduceNe, Nat.reducePow], by simp -implicitDefEqProofs (maxDischargeDepth := 4) only [go_sem, ↓reduceIte, Nat.reduceLT, Nat.reduceAdd, Nat.reduceMul, Nat.reduceSub, Nat.reduceEqDiff, Nat.reduceLeDiff, Nat.reduceBEq, reduceCtorEq, Int.reduceLT, Int.reduceLE, Int.reduceEq, Int.reduceNe, Nat.reducePow]⟩
  obtain ⟨fr2, G2, os, w, e2, l2, g2, F2, hw, hlen, hok2⟩ := own_loop hb hL (z := z) (T0 := .cells 2 61 [tyV (n, o)]) rfl ms.length 0 fr1 [.cells 2 61 [tyV (n, o)]] [] (.lit (.slice none 0 0)) (by omega) (by omega) rfl rfl ⟨f0, f1, f5, f7, f8⟩ (.inr ⟨rfl, rfl⟩) rfl (by simp)
  have hos : NsOk os (shr w) := ⟨hw.sl, hok2, by omega⟩
  obtain ⟨fr3, e3, F3⟩ : ∃ fr3, ex cx D 0 8 127 (.region 10 g8_10 false) fr2 G2 = some (.normal, fr3, G2) ∧ LFr8 fr3 b (-1) w := by
    simp -implicitDefEqProofs (maxDischargeDepth := 4) only [go_sem, ↓reduceIte, Nat.reduceLT, Nat.reduceAdd, Nat.reduceMul, Nat.reduceSub, Nat.reduceEqDiff, Nat.reduceLeDiff, Nat.reduceBEq, reduceCtorEq, Int.reduceLT, Int.reduceLE, Int.reduceEq, Int.reduceNe, Nat.reducePow, elAt_eq, stV_eq, cellsB_cells, hp_get_r, hp_get_r0, hp_get_l, hp_set_r, hp_set_r0, hp_set_l, hp_one, hp_ne, List.drop_succ_cons, List.drop_zero, List.take_succ_cons, List.take_zero,]
    refine ⟨_, rfl, ?_, ?_, ?_, ?_⟩ <;> simp -implicitDefEqProofs (maxDischargeDepth := 4) only [go_sem, ↓reduceIte, Nat.reduceLT, Nat.reduceAdd, Nat.reduceMul, Nat.reduceSub, Nat.reduceEqDiff, Nat.reduceLeDiff, Nat.reduceBEq, reduceCtorEq, Int.reduceLT, Int.reduceLE, Int.reduceEq, Int.reduceNe, Nat.reducePow, F2.f0, F2.f5, F2.f7]
  obtain ⟨fr4, G4, e4, l4, g4, k0, k5, k7⟩ := lead_loop hb hL hos hw.kill (n := n) (o := o) (ms.length + 2) (-1) fr3 G2 (by omega) (by omega) l2 g2 F3
  have r1 := chk_ok hos
  have r2 := rchk_ok hos
  unfold errV at r1 r2
  have r3 := res51_ok hb n o
  have r4 := rres_ok hb n o
  have e2' : ex cx D 0 8 127 (.block 0 (.loop l8_0)) fr1 [.cells 2 61 [tyV (n, o)]] = some (.normal, fr2, G2) := by simp -implicitDefEqProofs (maxDischargeDepth := 4) only [go_sem, ↓reduceIte, Nat.reduceLT, Nat.reduceAdd, Nat.reduceMul, Nat.reduceSub, Nat.reduceEqDiff, Nat.reduceLeDiff, Nat.reduceBEq, reduceCtorEq, Int.reduceLT, Int.reduceLE, Int.reduceEq, Int.reduceNe, Nat.reducePow, x_loop, e2]
  have e4' : ex cx D 0 8 127 (.block 2 (.loop l8_1)) fr3 G2 = some (.normal, fr4, G4) := by simp -implicitDefEqProofs (maxDischargeDepth := 4) only [go_sem, ↓reduceIte, Nat.reduceLT, Nat.reduceAdd, Nat.reduceMul, Nat.reduceSub, Nat.reduceEqDiff, Nat.reduceLeDiff, Nat.reduceBEq, reduceCtorEq, Int.reduceLT, Int.reduceLE, Int.reduceEq, Int.reduceNe, Nat.reducePow, x_loop, e4]
  have last : ∃ H', returned cx [.tmp 6] (ex cx D 0 8 127 (.seq (.region 16 g8_16 false) (.seq (.region 17 g8_17 false) (.seq (.region 18 g8_18 true) .ret))) fr4 G4) = some (bv true, H') := by
    simp -implicitDefEqProofs (maxDischargeDepth := 4) only [go_sem, ↓reduceIte, Nat.reduceLT, Nat.reduceAdd, Nat.reduceMul, Nat.reduceSub, Nat.reduceEqDiff, Nat.reduceLeDiff, Nat.reduceBEq, reduceCtorEq, Int.reduceLT, Int.reduceLE, Int.reduceEq, Int.reduceNe, Nat.reducePow, elAt_eq, stV_eq, cellsB_cells, hp_get_r, hp_get_r0, hp_get_l, hp_set_r, hp_set_r0, hp_set_l, hp_one, hp_ne, List.drop_succ_cons, List.drop_zero, List.take_succ_cons, List.take_zero, k0, k5, k7, mvV_false, hos.sl.shr, hos.sl.notOwn, hos.sl.shut1, hb.sl.shr, hb.sl.notOwn, hb.sl.shut1, r1, r2, r3, r4, g4, pair_eql eqt61, works_ok]
    exact ⟨_, rfl⟩
  obtain ⟨_, _, p1, q1⟩ := x_split e1
  obtain ⟨_, _, p2, q2⟩ := x_split q1
  obtain ⟨_, _, p3, q3⟩ := x_split q2
  rw [c8, x_cont1 p1, x_cont1 p2, x_cont1 p3, x_assoc, x_cont1 q3, x_cont1 e2', x_assoc, x_cont1 e3, x_cont1 e4']
  exact last
theorem leads_row {v0 v1 : AV} {l2 : List AV} (h0 : Rdd Go.Proofs.Try.prog 20 56 [v0]) (h1 : Rdd Go.Proofs.Try.prog 20 59 [v1]) (h2 : Rdd Go.Proofs.Try.prog 20 61 l2) : ∃ H', callB cx D 0 8 [v0, v1, .agg l2] [] = some (bv true, H') := by
  obtain ⟨ns, hs, hok⟩ := nodes_read (d := 5) h0
  obtain ⟨z, _, e⟩ := rd_int Go.Proofs.Try.underlying59 h1
  cases e
  obtain ⟨n, o, rfl⟩ := type_read (d := 14) h2
  exact leads_ok hs hok z n o
end Go.Abs.Tab
