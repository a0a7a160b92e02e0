/- The statement GraphShapes; nodes, read as arguments. -/
import Derived.Test.YtiinagmombigpaaGraB
import Derived.Test.YtiinagmombigpaaOpen2
import Derived.Test.YtiinagmombigpaaGraF
set_option linter.unusedSimpArgs false
set_option linter.unusedVariables false
set_option linter.unnecessarySimpa false

/- The statement GraphShapes; nodes, read as arguments. -/
set_option linter.unusedVariables false
namespace Go.Abs.Tab
open Go.Gr
theorem map_mem {α : Type} {f : List AV → AV} {g : α → AV} {Q : α → Prop} : ∀ {ls : List (List AV)}, (∀ x ∈ ls, ∃ y, f x = g y ∧ Q y) → ∃ ys : List α, ls.length = ys.length ∧ (∀ y ∈ ys, Q y) ∧ ls.map f = ys.map g
  | [], _ => ⟨[], rfl, by simp, rfl⟩
  | x :: ls, h => by
    obtain ⟨y, h1, h2⟩ := h x (by simp)
    obtain ⟨ys, k1, k2, k3⟩ := map_mem (ls := ls) fun z hz => h z (List.mem_cons_of_mem _ hz)
    refine ⟨y :: ys, by simp [k1], fun z hz => ?_, by simp [h1, k3]⟩
    rcases List.mem_cons.1 hz with rfl | hz
    · exact h2
    · exact k2 z hz
theorem edge_read {d : Nat} {l : List AV} (h : Rdd Go.Proofs.Try.prog (d + 6) 63 l) : ∃ a b : Int, l = [iv a, iv b] := by
  have h1 := rd_struct Go.Proofs.Try.underlying63 h
  obtain ⟨a1, b1, rfl, k1, h2⟩ := rdF_cons h1
  obtain ⟨p, _, rfl⟩ := rd_int Go.Proofs.Try.underlying3 k1
  obtain ⟨a2, b2, rfl, k2, h3⟩ := rdF_cons h2
  obtain ⟨q, _, rfl⟩ := rd_int Go.Proofs.Try.underlying3 k2
  obtain rfl := rdF_nil h3
  exact ⟨p, q, rfl⟩
theorem type_read {d : Nat} {l : List AV} (h : Rdd Go.Proofs.Try.prog (d + 6) 61 l) : ∃ a b : Int, l = [iv a, iv b] := by
  have h1 := rd_struct Go.Proofs.Try.underlying61 h
  obtain ⟨a1, b1, rfl, k1, h2⟩ := rdF_cons h1
  obtain ⟨p, _, rfl⟩ := rd_int Go.Proofs.Try.underlying3 k1
  obtain ⟨a2, b2, rfl, k2, h3⟩ := rdF_cons h2
  obtain ⟨q, _, rfl⟩ := rd_int Go.Proofs.Try.underlying3 k2
  obtain rfl := rdF_nil h3
  exact ⟨p, q, rfl⟩
theorem cells63 : Go.Proofs.Try.prog.cellsOf 63 = 2 := by kernel_rfl
theorem cells66 : Go.Proofs.Try.prog.cellsOf 66 = 6 := by kernel_rfl
theorem node_read {d : Nat} {l : List AV} (h : Rdd Go.Proofs.Try.prog (d + 14) 66 l) : ∃ x : Nd, AV.agg l = nodeV x ∧ NdOk x := by
  have h1 := rd_struct Go.Proofs.Try.underlying66 h
  obtain ⟨a1, b1, rfl, k1, h2⟩ := rdF_cons h1
  obtain ⟨k, _, rfl⟩ := rd_int Go.Proofs.Try.underlying3 k1
  obtain ⟨a2, b2, rfl, k2, h3⟩ := rdF_cons h2
  obtain ⟨p, _, rfl⟩ := rd_int Go.Proofs.Try.underlying3 k2
  obtain ⟨a3, b3, rfl, k3, h4⟩ := rdF_cons h3
  obtain ⟨c, rfl⟩ := rd_bool Go.Proofs.Try.underlying4 k3
  obtain ⟨a4, b4, rfl, k4, h5⟩ := rdF_cons h4
  obtain ⟨t, s, rfl⟩ := edge_read (d := d + 3) k4
  obtain ⟨a5, b5, rfl, k5, h6⟩ := rdF_cons h5
  obtain ⟨nx, ls, rfl, _, e1, e2⟩ := rd_slice Go.Proofs.Try.underlying64 k5
  obtain rfl := rdF_nil h6
  rw [cells63] at e2
  obtain ⟨es, q1, q2, q3⟩ := map_mem (f := wrapAs Go.Proofs.Try.prog 63) (g := ed) (Q := fun _ => True) (ls := ls) fun y hy => by
    obtain ⟨u, v, rfl⟩ := edge_read (d := d + 1) (e1 y hy)
    exact ⟨(u, v), by rw [wrap_struct Go.Proofs.Try.underlying63], trivial⟩
  rw [q3] at e2
  exact ⟨⟨k, p, c, t, s, es, nx⟩, rfl, e2⟩
/-- a table that is read -/
theorem nodes_read {d : Nat} {v : AV} (h : Rdd Go.Proofs.Try.prog (d + 15) 56 [v]) : ∃ ns : List Nd, Sl 6 v (ns.map nodeV) ∧ ∀ x ∈ ns, NdOk x := by
  obtain ⟨a, ls, e, _, e1, e2⟩ := rd_slice Go.Proofs.Try.underlying56 h
  cases e
  rw [cells66] at e2
  obtain ⟨ns, q1, q2, q3⟩ := map_mem (f := wrapAs Go.Proofs.Try.prog 66) (g := nodeV) (Q := NdOk) (ls := ls) fun y hy => by
    obtain ⟨x, h1, h2⟩ := node_read (d := d) (e1 y hy)
    exact ⟨x, by rw [wrap_struct Go.Proofs.Try.underlying66]; exact h1, h2⟩
  rw [q3] at e2
  exact ⟨ns, e2, q2⟩
/-- the first seventy -/
theorem cut_nodes {v : AV} {ns : List Nd} (h : Sl 6 v (ns.map nodeV)) (hok : ∀ x ∈ ns, NdOk x) : ∃ b, aslice cx.T 56 v none (some (iv ((min ns.length 70 : Nat) : Int))) none = some b ∧ NsOk (ns.take 70) b := by
  obtain ⟨b, h1, h2⟩ := aslice_take (n := min ns.length 70) h sl56 (by rw [List.length_map]; omega)
  refine ⟨b, h1, ⟨?_, fun x hx => hok x (List.mem_of_mem_take hx), ?_⟩⟩
  · rw [← List.map_take] at h2
    have : ns.take (min ns.length 70) = ns.take 70 := by
      by_cases hl : ns.length ≤ 70
      · rw [Nat.min_eq_left hl, List.take_length, List.take_of_length_le hl]
      · rw [Nat.min_eq_right (by omega)]
    rw [this] at h2; exact h2
  · rw [List.length_take]; omega
theorem shapes_row {v : AV} (h : Rdd Go.Proofs.Try.prog 20 56 [v]) : ∃ H', callB cx D 0 7 [v] [] = some (bv true, H') := by
  obtain ⟨ns, hs, hok⟩ := nodes_read (d := 5) h
  obtain ⟨b, h1, hb⟩ := cut_nodes hs hok
  have h2 := chk_ok hb
  have h3 := rchk_ok hb
  have hm : aminmax false [iv ns.length, iv 70] = some (iv ((min ns.length 70 : Nat) : Int)) := min_lit ns.length 70
  unfold errV at h2 h3
  rw [c7]
  simp -implicitDefEqProofs (maxDischargeDepth := 4) only [go_sem, decide_true, decide_false, beq_self_eq_true, ↓reduceIte, Nat.reduceLT, Nat.reduceAdd, Nat.reduceMul, Nat.reduceSub, Nat.reduceEqDiff, Nat.reduceLeDiff, Nat.reduceBEq, reduceCtorEq, Nat.succ_ne_zero, Bool.not_true, Bool.not_false, Bool.true_eq_false, Bool.false_eq_true, Bool.true_beq, Bool.false_beq, Int.reduceLT, Int.reduceLE, Int.reduceEq, Int.reduceNe, ne_eq, not_false_eq_true, not_true_eq_false, List.getElem?_cons_zero, List.getElem?_cons_succ, List.length_cons, List.length_nil, List.all_cons, List.all_nil, Bool.and_true, Bool.and_self, Bool.true_and, Bool.false_and, Bool.and_false, Bool.or_true, Bool.or_false, Bool.true_or, Bool.false_or, Bool.or_self, List.elem_cons, List.elem_nil, Nat.add_zero, Nat.zero_add, or_self, or_false, false_or, true_or, or_true, and_true, true_and, and_false, false_and, and_self, List.mem_cons, List.not_mem_nil, Nat.reducePow, elAt_eq, stV_eq, cellsB_cells, hp_get_r, hp_get_r0, hp_get_l, hp_set_r, hp_set_r0, hp_set_l, hp_one, hp_ne, List.drop_succ_cons, List.drop_zero, List.take_succ_cons, List.take_zero, hs.shr, hs.notOwn, hs.drp, alen_sl hs, List.length_map, hm, h1, hb.sl.shr, hb.sl.notOwn, hb.sl.shut1, h2, h3, works_ok]
  exact ⟨_, rfl⟩
end Go.Abs.Tab
