/- The statement GraphShapes; nodes, read as arguments. -/
import Derived.Test.YtiinagmombigpaaGraB
import Derived.Test.YtiinagmombigpaaOpen2
import Derived.Test.YtiinagmombigpaaGraF
set_option linter.unusedSimpArgs false
set_option linter.unusedVariables false
set_option linter.unnecessarySimpa false

/- The statement GraphShapes; nodes, read as arguments. -/
set_option linter.unusedVariables false
namespace Go.Abs.Tab
open Go.Gr
theorem map_mem {α : Type} {f : List AV → AV} {g : α → AV} {Q : α → Prop} : ∀ {ls : List (List AV)}, (∀ x ∈ ls, ∃ y, f x = g y ∧ Q y) → ∃ ys : List α, ls.length = ys.length ∧ (∀ y ∈ ys, Q y) ∧ ls.map f = ys.map g
  | [], _ => ⟨[], rfl, by simp, rfl⟩
  | x :: ls, h => by
    obtain ⟨y, h1, h2⟩ := h x (by simp)
    obtain ⟨ys, k1, k2, k3⟩ := map_mem (ls := ls) fun z hz => h z (List.mem_cons_of_mem _ hz)
    refine ⟨y :: ys, by simp [k1], fun z hz => ?_, by simp [h1, k3]⟩
    rcases List.mem_cons.1 hz with rfl | hz
    · exact h2
    · exact k2 z hz
theorem edge_read {d : Nat} {l : List AV} (h : Rdd Go.Proofs.Try.prog (d + 6) 63 l) : ∃ a b : Int, l = [iv a, iv b] := by
  have h1 := rd_struct Go.Proofs.Try.underlying63 h
  obtain ⟨a1, b1, rfl, k1, h2⟩ := rdF_cons h1
  obtain ⟨p, _, rfl⟩ := rd_int Go.Proofs.Try.underlying3 k1
  obtain ⟨a2, b2, rfl, k2, h3⟩ := rdF_cons h2
  obtain ⟨q, _, rfl⟩ := rd_int Go.Proofs.Try.underlying3 k2
  obtain rfl := rdF_nil h3
  exact ⟨p, q, rfl⟩
theorem type_read {d : Nat} {l : List AV} (h : Rdd Go.Proofs.Try.prog (d + 6) 61 l) : ∃ a b : Int, l = [iv a, iv b] := by
  have h1 := rd_struct Go.Proofs.Try.underlying61 h
  obtain ⟨a1, b1, rfl, k1, h2⟩ := rdF_cons h1
  obtain ⟨p, _, rfl⟩ := rd_int Go.Proofs.Try.underlying3 k1
  obtain ⟨a2, b2, rfl, k2, h3⟩ := rdF_cons h2
  obtain ⟨q, _, rfl⟩ := rd_int Go.Proofs.Try.underlying3 k2
  obtain rfl := rdF_nil h3
  exact ⟨p, q, rfl⟩
theorem cells63 : Go.Proofs.Try.prog.cellsOf 63 = 2 := by kernel_rfl
theorem cells66 : Go.Proofs.Try.prog.cellsOf 66 = 6 := by kernel_rfl
theorem node_read {d : Nat} {l : List AV} (h : Rdd Go.Proofs.Try.prog (d + 14) 66 l) : ∃ x : Nd, AV.agg l = nodeV x ∧ NdOk x := by
  have h1 := rd_struct Go.Proofs.Try.underlying66 h
  obtain ⟨a1, b1, rfl, k1, h2⟩ := rdF_cons h1
  obtain ⟨k, _, rfl⟩ := rd_int Go.Proofs.Try.underlying3 k1
  obtain ⟨a2, b2, rfl, k2, h3⟩ := rdF_cons h2
  obtain ⟨p, _, rfl⟩ := rd_int Go.Proofs.Try.underlying3 k2
  obtain ⟨a3, b3, rfl, k3, h4⟩ := rdF_cons h3
  obtain ⟨c, rfl⟩ := rd_bool Go.Proofs.Try.underlying4 k3
  obtain ⟨a4, b4, rfl, k4, h5⟩ := rdF_cons h4
  obtain ⟨t, s, rfl⟩ := edge_read (d := d + 3) k4
  obtain ⟨a5, b5, rfl, k5, h6⟩ := rdF_cons h5
  obtain ⟨nx, ls, rfl, _, e1, e2⟩ := rd_slice Go.Proofs.Try.underlying64 k5
  obtain rfl := rdF_nil h6
  rw [cells63] at e2
  obtain ⟨es, q1, q2, q3⟩ := map_mem (f := wrapAs Go.Proofs.Try.prog 63) (g := ed) (Q := fun _ => True) (ls := ls) fun y hy => by
    obtain ⟨u, v, rfl⟩ := edge_read (d := d + 1) (e1 y hy)
    exact ⟨(u, v), by rw [wrap_struct Go.Proofs.Try.underlying63], trivial⟩
  rw [q3] at e2
  exact ⟨⟨k, p, c, t, s, es, nx⟩, rfl, e2⟩
/-- a table that is read -/
theorem nodes_read {d : Nat} {v : AV} (h : Rdd Go.Proofs.Try.prog (d + 15) 56 [v]) : ∃ ns : List Nd, Sl 6 v (ns.map nodeV) ∧ ∀ x ∈ ns, NdOk x := by
  obtain ⟨a, ls, e, _, e1, e2⟩ := rd_slice Go.Proofs.Try.underlying56 h
  cases e
  rw [cells66] at e2
  obtain ⟨ns, q1, q2, q3⟩ := map_mem (f := wrapAs Go.Proofs.Try.prog 66) (g := nodeV) (Q := NdOk) (ls := ls) fun y hy => by
    obtain ⟨x, h1, h2⟩ := node_read (d := d) (e1 y hy)
    exact ⟨x, by rw [wrap_struct Go.Proofs.Try.underlying66]; exact h1, h2⟩
  rw [q3] at e2
  exact ⟨ns, e2, q2⟩
/-- the first seventy -/
theorem cut_nodes {v : AV} {ns : List Nd} (h : Sl 6 v (ns.map nodeV)) (hok : ∀ x ∈ ns, NdOk x) : ∃ b, aslice cx.T 56 v none (some (iv ((min ns.length 70 : Nat) : Int))) none = some b ∧ NsOk (ns.take 70) b := by
  obtain ⟨b, h1, h2⟩ := aslice_take (n := min ns.length 70) h sl56 (by rw [List.length_map]; omega)
  refine ⟨b, h1, ⟨?_, fun x hx => hok x (List.mem_of_mem_take hx), ?_⟩⟩
  · rw [← List.map_take] at h2
    have : ns.take (min ns.length 70) = ns.take 70 := by
      by_cases hl : ns.length ≤ 70
      · rw [Nat.min_eq_left hl, List.take_length, List.take_of_length_le hl]
      · rw [Nat.min_eq_right (by omega)]
    rw [this] at h2; exact h2
  · rw [List.length_take]; omega
end Go.Abs.Tab

/- Slices that are appended to. -/
set_option linter.unusedVariables false
namespace Go.Abs.Tab
open Go.Gr
/-- a slice that is appended to -/
def Grow (sz : Nat) (v : AV) (els : List AV) : Prop := v = .vec sz .own els ∨ (v = .lit (.slice none 0 0) ∧ els = [])
theorem Grow.sl {sz : Nat} {v : AV} {els : List AV} (h : Grow sz v els) : Sl sz (Abs.shr v) els := by
  rcases h with rfl | ⟨rfl, rfl⟩
  · exact .inr (.inl rfl)
  · exact .inr (.inr ⟨rfl, rfl⟩)
theorem Grow.kill {sz : Nat} {v : AV} {els : List AV} (h : Grow sz v els) (m : Nat) : Abs.kill m v = v := by
  rcases h with rfl | ⟨rfl, rfl⟩ <;> rfl
theorem mvV_false {nt : Nat} {fr : PT} {H : Hp} {dd : Option Tmp} {t : Tmp} (v : AV) : mvV nt fr H dd t false v = setO nt dd fr H (shr v) := by
  unfold mvV
  split
  · rfl
  · rename_i h
    rw [shr_of_notOwn]
    cases v with
    | vec s k l => cases k with
      | own => exact absurd rfl (h s l)
      | _ => rfl
    | _ => rfl
theorem x_split {cx : Cx} {h : Hd} {ro fn nt : Nat} {fr fr' : PT} {H H' : Hp} {a b : Code} (e : ex cx h ro fn nt (.seq a b) fr H = some (.normal, fr', H')) : ∃ fr1 H1, ex cx h ro fn nt a fr H = some (.normal, fr1, H1) ∧ ex cx h ro fn nt b fr1 H1 = some (.normal, fr', H') := by
  rw [x_seq] at e
  cases ha : ex cx h ro fn nt a fr H with
  | none => rw [ha] at e; cases e
  | some r =>
    obtain ⟨x, fr1, H1⟩ := r
    rw [ha] at e
    cases x with
    | normal => rw [xbind_some, contR_normal] at e; exact ⟨fr1, H1, rfl, e⟩
    | _ => cases e
end Go.Abs.Tab

/- Tables that are made: their nodes have their shape, their edges lead to nodes. -/
set_option linter.unusedVariables false
namespace Go.Abs.Tab
open Go.Gr
abbrev uv (n : Int) : AV := .lit (.int .u8 n)
structure Q4 where
  a : Int
  b : Int
  c : Int
  d : Int
def Q4.ok (q : Q4) : Prop := (0 ≤ q.a ∧ q.a ≤ 255) ∧ (0 ≤ q.b ∧ q.b ≤ 255) ∧ (0 ≤ q.c ∧ q.c ≤ 255) ∧ (0 ≤ q.d ∧ q.d ≤ 255)
abbrev arC (q : Q4) : List AV := [uv q.a, uv q.b, uv q.c, uv q.d]
/-- a node that is as it may be -/
structure Md (n : Nat) (x : Nd) : Prop where
  ok : NdOk x
  sh : shp x = true
  cl : opn n x = false

structure MFr (fr : PT) (a : AV) (n : Nat) (v : AV) (i : Nat) : Prop where
  f0 : fr.get 0 = a
  f1 : fr.get 1 = iv n
  f5 : fr.get 5 = v
  f6 : fr.get 6 = iv i
structure MFr2 (fr : PT) (a : AV) (n : Nat) (v : AV) (i : Nat) (k : Int) : Prop extends MFr fr a n v i where
  f7 : fr.get 7 = .ptr 0 0 0
  f8 : fr.get 8 = .ptr 1 0 0
  f9 : fr.get 9 = .ptr 2 0 0
  f41 : fr.get 41 = iv k
theorem MFr2.of {fr fr' : PT} {a v : AV} {n i : Nat} {k : Int} (F : MFr2 fr a n v i k) (h : ∀ t, (t = 0 ∨ t = 1 ∨ t = 5 ∨ t = 6 ∨ t = 7 ∨ t = 8 ∨ t = 9 ∨ t = 41) → fr'.get t = fr.get t) : MFr2 fr' a n v i k :=
  ⟨⟨by rw [h 0 (by simp), F.f0], by rw [h 1 (by simp), F.f1], by rw [h 5 (by simp), F.f5], by rw [h 6 (by simp), F.f6]⟩, by rw [h 7 (by simp), F.f7], by rw [h 8 (by simp), F.f8], by rw [h 9 (by simp), F.f9], by rw [h 41 (by simp), F.f41]⟩
abbrev arB (q : Q4) : ABlock := .cells 4 205 [.agg (arC q)]
abbrev edB (e : Int × Int) : ABlock := .cells 2 63 [ed e]
abbrev ndB (k p : Int) (c : Bool) (t s : Int) (v : AV) : ABlock := .cells 6 66 [.agg [iv k, iv p, bv c, iv t, iv s, v]]
/-- the edges of a choice -/
def chE (n : Nat) (e : Int × Int) (t : Nat) : Int × Int := ((e.1 + t).tmod n, e.2 + t)

theorem wrap_small {n : Int} (h1 : -1000000 ≤ n) (h2 : n ≤ 1000000) : wrapK .i64 n = n := wrapK_i64 (by omega) (by omega)
theorem at205 {m i : Nat} {j : Int} (hm : j = m) (h : m < 4) {b : Nat} : aindexAddr cx.T 205 (.ptr b 0 0) (iv j) = some (.ptr b 0 m) := by
  subst hm
  rw [aindexAddr_arr (m := 4) (sz := 1) ar205, if_pos h]
  simp

theorem trimmed_len {k : PT → Hp → Option Res} {n : Nat} {fr : PT} {H : Hp} (h : H.length = n) : trimmed k n fr H = k fr H := by
  unfold trimmed; rw [if_pos h]
theorem nx1 {m t d : Nat} (h : m + 1 - t = d + 1) : m + 1 - (t + 1) = d := by omega
theorem nx2 {m t d : Nat} (h : m + 1 - t = d + 1) : t + 1 ≤ m + 1 := by omega
theorem nx3 {m t d : Nat} (h : m + 1 - t = d + 1) (h8 : m < 8) : (t + (0 + 1)) * (16 + 1) ≤ 1099511627776 := by omega
theorem choice_loop {q : Q4} (hq : q.ok) {e : Int × Int} (he : (0 ≤ e.1 ∧ e.1 ≤ 1000) ∧ (0 ≤ e.2 ∧ e.2 ≤ 1000)) {a va : AV} {n i : Nat} (hn : 1 ≤ n) {k : Int} {m : Nat} (hm : q.d.tmod 8 = m) (hm8 : m < 8)
    {R : List AV} (hR : ((List.range (m + 1)).map (chE n e)).map ed = R) :
    ∀ (d t : Nat) (fr : PT) (v : AV) (L : List AV), m + 1 - t = d → t ≤ m + 1 → MFr2 fr a n va i k → fr.get 10 = iv t → ((List.range t).map (chE n e)).map ed = L → Grow 2 v L →
    ∃ (fr' : PT) (v' : AV), D.loop 0 53 104 l53_0 fr [arB q, edB e, ndB k 0 false 0 0 v] = some (.exit 3, fr', [arB q, edB e, ndB k 0 false 0 0 v']) ∧ MFr2 fr' a n va i k ∧ Grow 2 v' R
  | 0, t, fr, v, L, hd, ht, F, f10, hL, hv => by
    have htm : t = m + 1 := by omega
    subst htm
    rw [hR] at hL
    subst hL
    have h8 : (8 : Int) ≠ 0 := by decide
    have wd : wrapK .i64 q.d = q.d := wrap_small (by have := hq; unfold Q4.ok at this; omega) (by have := hq; unfold Q4.ok at this; omega)
    have hi := at205 (m := 3) (i := 0) (j := 3) (b := 0) rfl (by decide)
    have hlt : ¬ (((m + 1 : Nat) : Int) ≤ (m : Int)) := by omega
    rw [dl53_0]
    simp -implicitDefEqProofs (maxDischargeDepth := 4) only [go_sem, ↓reduceIte, Nat.reduceLT, Nat.reduceAdd, Nat.reduceMul, Nat.reduceSub, Nat.reduceEqDiff, Nat.reduceLeDiff, Nat.reduceBEq, reduceCtorEq, Int.reduceLT, Int.reduceLE, Int.reduceEq, Int.reduceNe, Nat.reducePow, elAt_eq, stV_eq, cellsB_cells, hp_get_r, hp_get_r0, hp_get_l, hp_set_r, hp_set_r0, hp_set_l, hp_one, hp_ne, List.drop_succ_cons, List.drop_zero, List.take_succ_cons, List.take_zero, f10, F.f7, hi, h8, wd, hm, hlt]
    refine ⟨_, _, rfl, F.of fun t ht => ?_, hv⟩
    rcases ht with rfl | rfl | rfl | rfl | rfl | rfl | rfl | rfl <;> simp -implicitDefEqProofs (maxDischargeDepth := 4) only [go_sem, ↓reduceIte, Nat.reduceLT, Nat.reduceAdd, Nat.reduceMul, Nat.reduceSub, Nat.reduceEqDiff, Nat.reduceLeDiff, Nat.reduceBEq, reduceCtorEq, Int.reduceLT, Int.reduceLE, Int.reduceEq, Int.reduceNe, Nat.reducePow]
  | d + 1, t, fr, v, L, hd, ht, F, f10, hL, hv => by
    have h8 : (8 : Int) ≠ 0 := by decide
    have wd : wrapK .i64 q.d = q.d := wrap_small (by have := hq; unfold Q4.ok at this; omega) (by have := hq; unfold Q4.ok at this; omega)
    have hi := at205 (m := 3) (i := 0) (j := 3) (b := 0) rfl (by decide)
    have hlt : ((t : Nat) : Int) ≤ (m : Int) := by omega
    have w1 : wrapK .i64 (e.1 + t) = e.1 + t := wrap_small (by omega) (by omega)
    have w2 : wrapK .i64 (e.2 + t) = e.2 + t := wrap_small (by omega) (by omega)
    have w3 : wrapK .i64 ((t : Int) + 1) = ((t + 1 : Nat) : Int) := by rw [wrap_small (by omega) (by omega)]; rfl
    have hn0 : (n : Int) ≠ 0 := by omega
    have hes : ((List.range (t + 1)).map (chE n e)).map ed = L ++ [ed (chE n e t)] := by
      rw [List.range_succ, List.map_append, List.map_append, hL]; rfl
    have hlen : L.length = t := by rw [← hL]; simp
    have hlen2 : (L.length + (0 + 1)) * (16 + 1) ≤ 1099511627776 := by rw [hlen]; exact nx3 hd hm8
    have next : ∀ fr1 : PT, MFr2 fr1 a n va i k → fr1.get 10 = iv (t + 1 : Nat) → ∃ (fr' : PT) (v' : AV), trimmed (D.loop 0 53 104 l53_0) 3 fr1 [arB q, edB e, ndB k 0 false 0 0 (.vec 2 .own (L ++ [ed (chE n e t)]))] = some (.exit 3, fr', [arB q, edB e, ndB k 0 false 0 0 v']) ∧ MFr2 fr' a n va i k ∧ Grow 2 v' R := fun fr1 F1 g10 => by
      have hT := fun (x : AV) => trimmed_len (k := D.loop 0 53 104 l53_0) (n := 3) (fr := fr1) (H := [arB q, edB e, ndB k 0 false 0 0 x]) rfl
      rw [hT]
      exact choice_loop hq he hn hm hm8 hR d (t + 1) fr1 _ _ (nx1 hd) (nx2 hd) F1 g10 hes (.inl rfl)
    rw [dl53_0]
    rcases hv with rfl | ⟨rfl, rfl⟩
    · have hap : ∀ y : AV, apV 2 16 [y] (.vec 2 .own L) = some (.vec 2 .own (L ++ [y])) := fun y => apV_own hlen2 (by decide)
      simp -implicitDefEqProofs (maxDischargeDepth := 4) only [go_sem, ↓reduceIte, Nat.reduceLT, Nat.reduceAdd, Nat.reduceMul, Nat.reduceSub, Nat.reduceEqDiff, Nat.reduceLeDiff, Nat.reduceBEq, reduceCtorEq, Int.reduceLT, Int.reduceLE, Int.reduceEq, Int.reduceNe, Nat.reducePow, elAt_eq, stV_eq, cellsB_cells, hp_get_r, hp_get_r0, hp_get_l, hp_set_r, hp_set_r0, hp_set_l, hp_one, hp_ne, List.drop_succ_cons, List.drop_zero, List.take_succ_cons, List.take_zero, f10, F.f7, F.f8, F.f9, F.f1, hi, h8, wd, hm, hlt, w1, w2, w3, hn0, build63', hap, nbeq, Nat.not_lt_zero]
      refine next _ (F.of fun t ht => ?_) (by simp -implicitDefEqProofs (maxDischargeDepth := 4) only [go_sem, ↓reduceIte, Nat.reduceLT, Nat.reduceAdd, Nat.reduceMul, Nat.reduceSub, Nat.reduceEqDiff, Nat.reduceLeDiff, Nat.reduceBEq, reduceCtorEq, Int.reduceLT, Int.reduceLE, Int.reduceEq, Int.reduceNe, Nat.reducePow])
      rcases ht with rfl | rfl | rfl | rfl | rfl | rfl | rfl | rfl <;> simp -implicitDefEqProofs (maxDischargeDepth := 4) only [go_sem, ↓reduceIte, Nat.reduceLT, Nat.reduceAdd, Nat.reduceMul, Nat.reduceSub, Nat.reduceEqDiff, Nat.reduceLeDiff, Nat.reduceBEq, reduceCtorEq, Int.reduceLT, Int.reduceLE, Int.reduceEq, Int.reduceNe, Nat.reducePow]
    · have hap : ∀ y : AV, apV 2 16 [y] (.lit (.slice none 0 0)) = some (.vec 2 .own [y]) := fun y => apV_none (show (0 + 1) * (16 + 1) ≤ 1099511627776 by decide) (by decide)
      rw [List.nil_append] at next
      simp -implicitDefEqProofs (maxDischargeDepth := 4) only [go_sem, ↓reduceIte, Nat.reduceLT, Nat.reduceAdd, Nat.reduceMul, Nat.reduceSub, Nat.reduceEqDiff, Nat.reduceLeDiff, Nat.reduceBEq, reduceCtorEq, Int.reduceLT, Int.reduceLE, Int.reduceEq, Int.reduceNe, Nat.reducePow, elAt_eq, stV_eq, cellsB_cells, hp_get_r, hp_get_r0, hp_get_l, hp_set_r, hp_set_r0, hp_set_l, hp_one, hp_ne, List.drop_succ_cons, List.drop_zero, List.take_succ_cons, List.take_zero, f10, F.f7, F.f8, F.f9, F.f1, hi, h8, wd, hm, hlt, w1, w2, w3, hn0, build63', hap, nbeq, Nat.not_lt_zero]
      refine next _ (F.of fun t ht => ?_) (by simp -implicitDefEqProofs (maxDischargeDepth := 4) only [go_sem, ↓reduceIte, Nat.reduceLT, Nat.reduceAdd, Nat.reduceMul, Nat.reduceSub, Nat.reduceEqDiff, Nat.reduceLeDiff, Nat.reduceBEq, reduceCtorEq, Int.reduceLT, Int.reduceLE, Int.reduceEq, Int.reduceNe, Nat.reducePow])
      rcases ht with rfl | rfl | rfl | rfl | rfl | rfl | rfl | rfl <;> simp -implicitDefEqProofs (maxDischargeDepth := 4) only [go_sem, ↓reduceIte, Nat.reduceLT, Nat.reduceAdd, Nat.reduceMul, Nat.reduceSub, Nat.reduceEqDiff, Nat.reduceLeDiff, Nat.reduceBEq, reduceCtorEq, Int.reduceLT, Int.reduceLE, Int.reduceEq, Int.reduceNe, Nat.reducePow]
end Go.Abs.Tab

/- Tables that are made, node by node. -/
set_option linter.unusedVariables false
namespace Go.Abs.Tab
open Go.Gr
theorem shp_of {x : Nd} (h1 : 0 ≤ x.kind ∧ x.kind ≤ 5) (h2 : (frm x.kind).1 ≤ (x.es.length : Int)) (h3 : (x.es.length : Int) ≤ (frm x.kind).2.1) (h4 : 0 ≤ x.prio ∧ x.prio ≤ 1000) (h5 : (frm x.kind).2.2.2 = true → x.prio = 0)
    (h6 : x.chan = true → (frm x.kind).2.2.1 = true) (h7 : x.chan = false → x.pt = 0 ∧ x.ps = 0) (h8 : ∀ e ∈ x.es, 0 ≤ e.2 ∧ e.2 ≤ 1000) (h9 : x.chan = true → 0 ≤ x.ps ∧ x.ps ≤ 1000) : shp x = true := by
  have hw : (edg x).any wide = false := by
    rw [any_edg, Bool.or_eq_false_iff]
    constructor
    · rw [List.any_eq_false]
      intro e he hw
      rw [wide_iff] at hw
      have := h8 e he; omega
    · cases hc : x.chan with
      | false => rfl
      | true =>
        have := h9 hc
        rw [Bool.true_and]
        cases hw : wide (x.pt, x.ps) with
        | false => rfl
        | true => rw [wide_iff] at hw; dsimp only at hw; omega
  have hk : inB x.kind 5 = true := inB_iff.2 h1
  have hp : inB x.prio 1000 = true := inB_iff.2 h4
  unfold shp
  rw [hw, hk, hp, decide_eq_false (show ¬ (x.es.length : Int) < (frm x.kind).1 by omega), decide_eq_false (show ¬ (frm x.kind).2.1 < (x.es.length : Int) by omega)]
  have e4 : ((frm x.kind).2.2.2 && decide (0 < x.prio)) = false := by
    cases hf : (frm x.kind).2.2.2 with
    | false => rfl
    | true => have := h5 hf; rw [Bool.true_and, decide_eq_false]; omega
  have e5 : (x.chan && !(frm x.kind).2.2.1 || !x.chan && !(decide (x.pt = 0) && decide (x.ps = 0))) = false := by
    cases hc : x.chan with
    | false => have := h7 hc; rw [this.1, this.2]; rfl
    | true => rw [h6 hc]; rfl
  rw [e4, e5]
  rfl
theorem cl_of {x : Nd} {n : Int} (h : ∀ e ∈ x.es, 0 ≤ e.1 ∧ e.1 < n) (h2 : x.chan = true → 0 ≤ x.pt ∧ x.pt < n) : opn n x = false := by
  unfold opn
  rw [Bool.or_eq_false_iff]
  constructor
  · rw [List.any_eq_false]
    intro e he hw
    have := h e he
    simp only [outE, Bool.or_eq_true, decide_eq_true_eq] at hw
    omega
  · cases hc : x.chan with
    | false => rfl
    | true =>
      have := h2 hc
      simp only [outE, Bool.true_and, Bool.or_eq_false_iff, decide_eq_false_iff_not]
      omega
theorem shp_mk {k p : Int} {c : Bool} {pt ps : Int} {es : List (Int × Int)} {nx : AV} {f1 f2 : Int} {f3 f4 : Bool} (hf : frm k = (f1, f2, f3, f4)) (h1 : 0 ≤ k ∧ k ≤ 5) (h2 : f1 ≤ (es.length : Int)) (h3 : (es.length : Int) ≤ f2) (h4 : 0 ≤ p ∧ p ≤ 1000) (h5 : f4 = true → p = 0)
    (h6 : c = true → f3 = true) (h7 : c = false → pt = 0 ∧ ps = 0) (h8 : ∀ e ∈ es, 0 ≤ e.2 ∧ e.2 ≤ 1000) (h9 : c = true → 0 ≤ ps ∧ ps ≤ 1000) : shp ⟨k, p, c, pt, ps, es, nx⟩ = true :=
  shp_of h1 (by dsimp only; rw [hf]; exact h2) (by dsimp only; rw [hf]; exact h3) h4 (by dsimp only; rw [hf]; exact h5) (by dsimp only; rw [hf]; exact h6) h7 h8 h9
theorem cl_mk {k p : Int} {c : Bool} {pt ps : Int} {es : List (Int × Int)} {nx : AV} {n : Int} (h : ∀ e ∈ es, 0 ≤ e.1 ∧ e.1 < n) (h2 : c = true → 0 ≤ pt ∧ pt < n) : opn n ⟨k, p, c, pt, ps, es, nx⟩ = false := cl_of h h2
theorem tmod_lt' {a : Int} {n : Nat} (h : 0 ≤ a) (hn : 1 ≤ n) : 0 ≤ a.tmod n ∧ a.tmod n < n := ⟨Int.tmod_nonneg _ h, Int.tmod_lt_of_pos _ (by omega)⟩

theorem switch_ok {q : Q4} (hq : q.ok) {e : Int × Int} {a va : AV} {n i : Nat} (hn : 1 ≤ n) (hn40 : n ≤ 40) (he : (0 ≤ e.1 ∧ e.1 < n) ∧ (0 ≤ e.2 ∧ e.2 ≤ 6)) {k : Int} (hk : 0 ≤ k ∧ k ≤ 5) {fr : PT} (F : MFr2 fr a n va i k) :
    ∃ (fr' : PT) (x : Nd) (cells : List AV), ex cx D 0 53 104 (.block 2 (.seq (.seq (.region 9 g53_8 false) (.cond (.tmp 42) .skip (.region 10 g53_9 false))) (.cond (.tmp 42) (.seq (.region 11 g53_10 false) (.seq (.region 12 g53_11 false) (.seq (.region 13 g53_12 false) (.cond (.tmp 55) (.seq (.region 14 g53_13 false) (.region 15 g53_14 true)) .skip)))) (.seq (.seq (.region 16 g53_15 false) (.cond (.tmp 67) .skip (.region 17 g53_16 false))) (.cond (.tmp 67) (.seq (.region 18 g53_17 false) (.block 3 (.loop l53_0))) (.seq (.region 22 g53_21 false) (.cond (.tmp 94) (.region 23 g53_22 false) .skip))))))) fr [arB q, edB e, ndB k 0 false 0 0 (.lit (.slice none 0 0))] = some (.normal, fr', [arB q, edB e, .cells 6 66 [.agg cells]]) ∧ MFr2 fr' a n va i k ∧ cells.map shr = nodeC x ∧ Md n x ∧ x.kind = k := by
  have hq' := hq
  unfold Q4.ok at hq'
  have h2n : (2 : Int) ≠ 0 := by decide
  have wc : wrapK .i64 q.c = q.c := wrap_small (by omega) (by omega)
  have wd : wrapK .i64 q.d = q.d := wrap_small (by omega) (by omega)
  have hn0 : (n : Int) ≠ 0 := by omega
  have hi3 := at205 (m := 3) (i := 0) (j := 3) (b := 0) rfl (by decide)
  have hi2 := at205 (m := 2) (i := 0) (j := 2) (b := 0) rfl (by decide)
  have hk6 : k = 0 ∨ k = 1 ∨ k = 2 ∨ k = 3 ∨ k = 4 ∨ k = 5 := by omega
  rcases hk6 with rfl | rfl | rfl | rfl | rfl | rfl
  · simp -implicitDefEqProofs (maxDischargeDepth := 4) only [go_sem, ↓reduceIte, Nat.reduceLT, Nat.reduceAdd, Nat.reduceMul, Nat.reduceSub, Nat.reduceEqDiff, Nat.reduceLeDiff, Nat.reduceBEq, reduceCtorEq, Int.reduceLT, Int.reduceLE, Int.reduceEq, Int.reduceNe, Nat.reducePow, elAt_eq, stV_eq, cellsB_cells, hp_get_r, hp_get_r0, hp_get_l, hp_set_r, hp_set_r0, hp_set_l, hp_one, hp_ne, List.drop_succ_cons, List.drop_zero, List.take_succ_cons, List.take_zero, F.f1, F.f7, F.f8, F.f9, F.f41]
    refine ⟨_, niN 0 0 false 0 0, _, rfl, F.of fun t ht => ?_, rfl, ⟨niN_ok _ _ _ _ _, rfl, rfl⟩, rfl⟩
    rcases ht with rfl | rfl | rfl | rfl | rfl | rfl | rfl | rfl <;> simp -implicitDefEqProofs (maxDischargeDepth := 4) only [go_sem, ↓reduceIte, Nat.reduceLT, Nat.reduceAdd, Nat.reduceMul, Nat.reduceSub, Nat.reduceEqDiff, Nat.reduceLeDiff, Nat.reduceBEq, reduceCtorEq, Int.reduceLT, Int.reduceLE, Int.reduceEq, Int.reduceNe, Nat.reducePow]
  · by_cases hd2 : q.d.tmod 2 = 0
    · simp -implicitDefEqProofs (maxDischargeDepth := 4) only [go_sem, ↓reduceIte, Nat.reduceLT, Nat.reduceAdd, Nat.reduceMul, Nat.reduceSub, Nat.reduceEqDiff, Nat.reduceLeDiff, Nat.reduceBEq, reduceCtorEq, Int.reduceLT, Int.reduceLE, Int.reduceEq, Int.reduceNe, Nat.reducePow, elAt_eq, stV_eq, cellsB_cells, hp_get_r, hp_get_r0, hp_get_l, hp_set_r, hp_set_r0, hp_set_l, hp_one, hp_ne, List.drop_succ_cons, List.drop_zero, List.take_succ_cons, List.take_zero, F.f1, F.f7, F.f8, F.f9, F.f41, hi2, hi3, h2n, wc, wd, hn0, build63', Nat.not_lt_zero, nbeq, hd2]
      refine ⟨_, mkNd 1 q.d true (q.d.tmod n) q.c [e], _, rfl, F.of fun t ht => ?_, rfl, ⟨mkNd_ok _ _ _ _ _ _, ?_, ?_⟩, rfl⟩
      · rcases ht with rfl | rfl | rfl | rfl | rfl | rfl | rfl | rfl <;> simp -implicitDefEqProofs (maxDischargeDepth := 4) only [go_sem, ↓reduceIte, Nat.reduceLT, Nat.reduceAdd, Nat.reduceMul, Nat.reduceSub, Nat.reduceEqDiff, Nat.reduceLeDiff, Nat.reduceBEq, reduceCtorEq, Int.reduceLT, Int.reduceLE, Int.reduceEq, Int.reduceNe, Nat.reducePow]
      · refine shp_mk (f1 := 1) (f2 := 1) (f3 := true) (f4 := false) (by decide) (by decide) (by simp) (by simp) ⟨hq'.2.2.2.1, by omega⟩ (fun h => by cases h) (fun _ => rfl) (fun h => by cases h) (fun y hy => ?_) fun _ => ⟨hq'.2.2.1.1, by omega⟩
        rw [List.mem_singleton] at hy; subst hy; omega
      · refine cl_mk (fun y hy => ?_) fun _ => tmod_lt' hq'.2.2.2.1 hn
        rw [List.mem_singleton] at hy; subst hy; omega
    · simp -implicitDefEqProofs (maxDischargeDepth := 4) only [go_sem, ↓reduceIte, Nat.reduceLT, Nat.reduceAdd, Nat.reduceMul, Nat.reduceSub, Nat.reduceEqDiff, Nat.reduceLeDiff, Nat.reduceBEq, reduceCtorEq, Int.reduceLT, Int.reduceLE, Int.reduceEq, Int.reduceNe, Nat.reducePow, elAt_eq, stV_eq, cellsB_cells, hp_get_r, hp_get_r0, hp_get_l, hp_set_r, hp_set_r0, hp_set_l, hp_one, hp_ne, List.drop_succ_cons, List.drop_zero, List.take_succ_cons, List.take_zero, F.f1, F.f7, F.f8, F.f9, F.f41, hi2, hi3, h2n, wc, wd, hn0, build63', Nat.not_lt_zero, nbeq, hd2]
      refine ⟨_, mkNd 1 q.d false 0 0 [e], _, rfl, F.of fun t ht => ?_, rfl, ⟨mkNd_ok _ _ _ _ _ _, ?_, ?_⟩, rfl⟩
      · rcases ht with rfl | rfl | rfl | rfl | rfl | rfl | rfl | rfl <;> simp -implicitDefEqProofs (maxDischargeDepth := 4) only [go_sem, ↓reduceIte, Nat.reduceLT, Nat.reduceAdd, Nat.reduceMul, Nat.reduceSub, Nat.reduceEqDiff, Nat.reduceLeDiff, Nat.reduceBEq, reduceCtorEq, Int.reduceLT, Int.reduceLE, Int.reduceEq, Int.reduceNe, Nat.reducePow]
      · refine shp_mk (f1 := 1) (f2 := 1) (f3 := true) (f4 := false) (by decide) (by decide) (by simp) (by simp) ⟨hq'.2.2.2.1, by omega⟩ (fun h => by cases h) (fun h => by cases h) (fun _ => ⟨rfl, rfl⟩) (fun y hy => ?_) fun h => by cases h
        rw [List.mem_singleton] at hy; subst hy; omega
      · refine cl_mk (fun y hy => ?_) fun h => by cases h
        rw [List.mem_singleton] at hy; subst hy; omega
  · by_cases hd2 : q.d.tmod 2 = 0
    · simp -implicitDefEqProofs (maxDischargeDepth := 4) only [go_sem, ↓reduceIte, Nat.reduceLT, Nat.reduceAdd, Nat.reduceMul, Nat.reduceSub, Nat.reduceEqDiff, Nat.reduceLeDiff, Nat.reduceBEq, reduceCtorEq, Int.reduceLT, Int.reduceLE, Int.reduceEq, Int.reduceNe, Nat.reducePow, elAt_eq, stV_eq, cellsB_cells, hp_get_r, hp_get_r0, hp_get_l, hp_set_r, hp_set_r0, hp_set_l, hp_one, hp_ne, List.drop_succ_cons, List.drop_zero, List.take_succ_cons, List.take_zero, F.f1, F.f7, F.f8, F.f9, F.f41, hi2, hi3, h2n, wc, wd, hn0, build63', Nat.not_lt_zero, nbeq, hd2]
      refine ⟨_, mkNd 2 q.d true (q.d.tmod n) q.c [e], _, rfl, F.of fun t ht => ?_, rfl, ⟨mkNd_ok _ _ _ _ _ _, ?_, ?_⟩, rfl⟩
      · rcases ht with rfl | rfl | rfl | rfl | rfl | rfl | rfl | rfl <;> simp -implicitDefEqProofs (maxDischargeDepth := 4) only [go_sem, ↓reduceIte, Nat.reduceLT, Nat.reduceAdd, Nat.reduceMul, Nat.reduceSub, Nat.reduceEqDiff, Nat.reduceLeDiff, Nat.reduceBEq, reduceCtorEq, Int.reduceLT, Int.reduceLE, Int.reduceEq, Int.reduceNe, Nat.reducePow]
      · refine shp_mk (f1 := 1) (f2 := 1) (f3 := true) (f4 := false) (by decide) (by decide) (by simp) (by simp) ⟨hq'.2.2.2.1, by omega⟩ (fun h => by cases h) (fun _ => rfl) (fun h => by cases h) (fun y hy => ?_) fun _ => ⟨hq'.2.2.1.1, by omega⟩
        rw [List.mem_singleton] at hy; subst hy; omega
      · refine cl_mk (fun y hy => ?_) fun _ => tmod_lt' hq'.2.2.2.1 hn
        rw [List.mem_singleton] at hy; subst hy; omega
    · simp -implicitDefEqProofs (maxDischargeDepth := 4) only [go_sem, ↓reduceIte, Nat.reduceLT, Nat.reduceAdd, Nat.reduceMul, Nat.reduceSub, Nat.reduceEqDiff, Nat.reduceLeDiff, Nat.reduceBEq, reduceCtorEq, Int.reduceLT, Int.reduceLE, Int.reduceEq, Int.reduceNe, Nat.reducePow, elAt_eq, stV_eq, cellsB_cells, hp_get_r, hp_get_r0, hp_get_l, hp_set_r, hp_set_r0, hp_set_l, hp_one, hp_ne, List.drop_succ_cons, List.drop_zero, List.take_succ_cons, List.take_zero, F.f1, F.f7, F.f8, F.f9, F.f41, hi2, hi3, h2n, wc, wd, hn0, build63', Nat.not_lt_zero, nbeq, hd2]
      refine ⟨_, mkNd 2 q.d false 0 0 [e], _, rfl, F.of fun t ht => ?_, rfl, ⟨mkNd_ok _ _ _ _ _ _, ?_, ?_⟩, rfl⟩
      · rcases ht with rfl | rfl | rfl | rfl | rfl | rfl | rfl | rfl <;> simp -implicitDefEqProofs (maxDischargeDepth := 4) only [go_sem, ↓reduceIte, Nat.reduceLT, Nat.reduceAdd, Nat.reduceMul, Nat.reduceSub, Nat.reduceEqDiff, Nat.reduceLeDiff, Nat.reduceBEq, reduceCtorEq, Int.reduceLT, Int.reduceLE, Int.reduceEq, Int.reduceNe, Nat.reducePow]
      · refine shp_mk (f1 := 1) (f2 := 1) (f3 := true) (f4 := false) (by decide) (by decide) (by simp) (by simp) ⟨hq'.2.2.2.1, by omega⟩ (fun h => by cases h) (fun h => by cases h) (fun _ => ⟨rfl, rfl⟩) (fun y hy => ?_) fun h => by cases h
        rw [List.mem_singleton] at hy; subst hy; omega
      · refine cl_mk (fun y hy => ?_) fun h => by cases h
        rw [List.mem_singleton] at hy; subst hy; omega
  · obtain ⟨m, hm⟩ : ∃ m : Nat, q.d.tmod 8 = m := ⟨(q.d.tmod 8).toNat, by have := Int.tmod_nonneg (a := q.d) 8 hq'.2.2.2.1; omega⟩
    have hm8 : m < 8 := by have := Int.tmod_lt_of_pos q.d (show (0 : Int) < 8 by decide); omega
    obtain ⟨CF, hCF⟩ := skol (fun (fr1 : PT) (h : MFr2 fr1 a n va i 3 ∧ fr1.get 10 = iv (0 : Nat)) => by
      obtain ⟨fr', v', q1, q2, q3⟩ := choice_loop hq (e := e) ⟨⟨he.1.1, by omega⟩, ⟨he.2.1, by omega⟩⟩ hn hm hm8 rfl (m + 1) 0 fr1 (.lit (.slice none 0 0)) [] (by omega) (by omega) h.1 h.2 rfl (.inr ⟨rfl, rfl⟩)
      exact (⟨(fr', v'), q1, q2, q3⟩ : ∃ p : PT × AV, D.loop 0 53 104 l53_0 fr1 [arB q, edB e, ndB 3 0 false 0 0 (.lit (.slice none 0 0))] = some (.exit 3, p.1, [arB q, edB e, ndB 3 0 false 0 0 p.2]) ∧ MFr2 p.1 a n va i 3 ∧ Grow 2 p.2 (((List.range (m + 1)).map (chE n e)).map ed)))
    have c1 : ∀ fr1 : PT, fr1.get 0 = a → fr1.get 1 = iv n → fr1.get 5 = va → fr1.get 6 = iv i → fr1.get 7 = .ptr 0 0 0 → fr1.get 8 = .ptr 1 0 0 → fr1.get 9 = .ptr 2 0 0 → fr1.get 41 = iv 3 → fr1.get 10 = iv 0 →
        D.loop 0 53 104 l53_0 fr1 [arB q, edB e, ndB 3 0 false 0 0 (.lit (.slice none 0 0))] = some (.exit 3, (CF fr1).1, [arB q, edB e, ndB 3 0 false 0 0 (CF fr1).2]) := fun fr1 a0 a1 a5 a6 a7 a8 a9 a41 a10 => (hCF fr1 ⟨⟨⟨a0, a1, a5, a6⟩, a7, a8, a9, a41⟩, a10⟩).1
    simp -implicitDefEqProofs (maxDischargeDepth := 4) only [go_sem, ↓reduceIte, Nat.reduceLT, Nat.reduceAdd, Nat.reduceMul, Nat.reduceSub, Nat.reduceEqDiff, Nat.reduceLeDiff, Nat.reduceBEq, reduceCtorEq, Int.reduceLT, Int.reduceLE, Int.reduceEq, Int.reduceNe, Nat.reducePow, elAt_eq, stV_eq, cellsB_cells, hp_get_r, hp_get_r0, hp_get_l, hp_set_r, hp_set_r0, hp_set_l, hp_one, hp_ne, List.drop_succ_cons, List.drop_zero, List.take_succ_cons, List.take_zero, F.f0, F.f1, F.f5, F.f6, F.f7, F.f8, F.f9, F.f41, x_loop, c1, Int.ofNat_zero]
    refine ⟨_, ⟨3, 0, false, 0, 0, (List.range (m + 1)).map (chE n e), _⟩, _, rfl, ?_, rfl, ⟨?_, ?_, ?_⟩, rfl⟩
    · refine (hCF _ ⟨⟨⟨?_, ?_, ?_, ?_⟩, ?_, ?_, ?_, ?_⟩, ?_⟩).2.1 <;> simp -implicitDefEqProofs (maxDischargeDepth := 4) only [go_sem, ↓reduceIte, Nat.reduceLT, Nat.reduceAdd, Nat.reduceMul, Nat.reduceSub, Nat.reduceEqDiff, Nat.reduceLeDiff, Nat.reduceBEq, reduceCtorEq, Int.reduceLT, Int.reduceLE, Int.reduceEq, Int.reduceNe, Nat.reducePow, F.f0, F.f1, F.f5, F.f6, F.f7, F.f8, F.f9, F.f41, Int.ofNat_zero]
    · refine (hCF _ ⟨⟨⟨?_, ?_, ?_, ?_⟩, ?_, ?_, ?_, ?_⟩, ?_⟩).2.2.sl <;> simp -implicitDefEqProofs (maxDischargeDepth := 4) only [go_sem, ↓reduceIte, Nat.reduceLT, Nat.reduceAdd, Nat.reduceMul, Nat.reduceSub, Nat.reduceEqDiff, Nat.reduceLeDiff, Nat.reduceBEq, reduceCtorEq, Int.reduceLT, Int.reduceLE, Int.reduceEq, Int.reduceNe, Nat.reducePow, F.f0, F.f1, F.f5, F.f6, F.f7, F.f8, F.f9, F.f41, Int.ofNat_zero]
    · refine shp_mk (f1 := 1) (f2 := 8) (f3 := false) (f4 := false) (by decide) (by decide) (by simp; omega) (by simp; omega) (by decide) (fun _ => rfl) (fun h => by cases h) (fun _ => ⟨rfl, rfl⟩) (fun y hy => ?_) fun h => by cases h
      obtain ⟨t, ht, rfl⟩ := List.mem_map.1 hy
      rw [List.mem_range] at ht
      simp only [chE]; omega
    · refine cl_mk (fun y hy => ?_) fun h => by cases h
      obtain ⟨t, ht, rfl⟩ := List.mem_map.1 hy
      exact tmod_lt' (by omega) hn
  · obtain ⟨m, hm⟩ : ∃ m : Nat, q.d.tmod 8 = m := ⟨(q.d.tmod 8).toNat, by have := Int.tmod_nonneg (a := q.d) 8 hq'.2.2.2.1; omega⟩
    have hm8 : m < 8 := by have := Int.tmod_lt_of_pos q.d (show (0 : Int) < 8 by decide); omega
    obtain ⟨CF, hCF⟩ := skol (fun (fr1 : PT) (h : MFr2 fr1 a n va i 4 ∧ fr1.get 10 = iv (0 : Nat)) => by
      obtain ⟨fr', v', q1, q2, q3⟩ := choice_loop hq (e := e) ⟨⟨he.1.1, by omega⟩, ⟨he.2.1, by omega⟩⟩ hn hm hm8 rfl (m + 1) 0 fr1 (.lit (.slice none 0 0)) [] (by omega) (by omega) h.1 h.2 rfl (.inr ⟨rfl, rfl⟩)
      exact (⟨(fr', v'), q1, q2, q3⟩ : ∃ p : PT × AV, D.loop 0 53 104 l53_0 fr1 [arB q, edB e, ndB 4 0 false 0 0 (.lit (.slice none 0 0))] = some (.exit 3, p.1, [arB q, edB e, ndB 4 0 false 0 0 p.2]) ∧ MFr2 p.1 a n va i 4 ∧ Grow 2 p.2 (((List.range (m + 1)).map (chE n e)).map ed)))
    have c1 : ∀ fr1 : PT, fr1.get 0 = a → fr1.get 1 = iv n → fr1.get 5 = va → fr1.get 6 = iv i → fr1.get 7 = .ptr 0 0 0 → fr1.get 8 = .ptr 1 0 0 → fr1.get 9 = .ptr 2 0 0 → fr1.get 41 = iv 4 → fr1.get 10 = iv 0 →
        D.loop 0 53 104 l53_0 fr1 [arB q, edB e, ndB 4 0 false 0 0 (.lit (.slice none 0 0))] = some (.exit 3, (CF fr1).1, [arB q, edB e, ndB 4 0 false 0 0 (CF fr1).2]) := fun fr1 a0 a1 a5 a6 a7 a8 a9 a41 a10 => (hCF fr1 ⟨⟨⟨a0, a1, a5, a6⟩, a7, a8, a9, a41⟩, a10⟩).1
    simp -implicitDefEqProofs (maxDischargeDepth := 4) only [go_sem, ↓reduceIte, Nat.reduceLT, Nat.reduceAdd, Nat.reduceMul, Nat.reduceSub, Nat.reduceEqDiff, Nat.reduceLeDiff, Nat.reduceBEq, reduceCtorEq, Int.reduceLT, Int.reduceLE, Int.reduceEq, Int.reduceNe, Nat.reducePow, elAt_eq, stV_eq, cellsB_cells, hp_get_r, hp_get_r0, hp_get_l, hp_set_r, hp_set_r0, hp_set_l, hp_one, hp_ne, List.drop_succ_cons, List.drop_zero, List.take_succ_cons, List.take_zero, F.f0, F.f1, F.f5, F.f6, F.f7, F.f8, F.f9, F.f41, x_loop, c1, Int.ofNat_zero]
    refine ⟨_, ⟨4, 0, false, 0, 0, (List.range (m + 1)).map (chE n e), _⟩, _, rfl, ?_, rfl, ⟨?_, ?_, ?_⟩, rfl⟩
    · refine (hCF _ ⟨⟨⟨?_, ?_, ?_, ?_⟩, ?_, ?_, ?_, ?_⟩, ?_⟩).2.1 <;> simp -implicitDefEqProofs (maxDischargeDepth := 4) only [go_sem, ↓reduceIte, Nat.reduceLT, Nat.reduceAdd, Nat.reduceMul, Nat.reduceSub, Nat.reduceEqDiff, Nat.reduceLeDiff, Nat.reduceBEq, reduceCtorEq, Int.reduceLT, Int.reduceLE, Int.reduceEq, Int.reduceNe, Nat.reducePow, F.f0, F.f1, F.f5, F.f6, F.f7, F.f8, F.f9, F.f41, Int.ofNat_zero]
    · refine (hCF _ ⟨⟨⟨?_, ?_, ?_, ?_⟩, ?_, ?_, ?_, ?_⟩, ?_⟩).2.2.sl <;> simp -implicitDefEqProofs (maxDischargeDepth := 4) only [go_sem, ↓reduceIte, Nat.reduceLT, Nat.reduceAdd, Nat.reduceMul, Nat.reduceSub, Nat.reduceEqDiff, Nat.reduceLeDiff, Nat.reduceBEq, reduceCtorEq, Int.reduceLT, Int.reduceLE, Int.reduceEq, Int.reduceNe, Nat.reducePow, F.f0, F.f1, F.f5, F.f6, F.f7, F.f8, F.f9, F.f41, Int.ofNat_zero]
    · refine shp_mk (f1 := 1) (f2 := 8) (f3 := false) (f4 := false) (by decide) (by decide) (by simp; omega) (by simp; omega) (by decide) (fun _ => rfl) (fun h => by cases h) (fun _ => ⟨rfl, rfl⟩) (fun y hy => ?_) fun h => by cases h
      obtain ⟨t, ht, rfl⟩ := List.mem_map.1 hy
      rw [List.mem_range] at ht
      simp only [chE]; omega
    · refine cl_mk (fun y hy => ?_) fun h => by cases h
      obtain ⟨t, ht, rfl⟩ := List.mem_map.1 hy
      exact tmod_lt' (by omega) hn
  · simp -implicitDefEqProofs (maxDischargeDepth := 4) only [go_sem, ↓reduceIte, Nat.reduceLT, Nat.reduceAdd, Nat.reduceMul, Nat.reduceSub, Nat.reduceEqDiff, Nat.reduceLeDiff, Nat.reduceBEq, reduceCtorEq, Int.reduceLT, Int.reduceLE, Int.reduceEq, Int.reduceNe, Nat.reducePow, elAt_eq, stV_eq, cellsB_cells, hp_get_r, hp_get_r0, hp_get_l, hp_set_r, hp_set_r0, hp_set_l, hp_one, hp_ne, List.drop_succ_cons, List.drop_zero, List.take_succ_cons, List.take_zero, F.f1, F.f7, F.f8, F.f9, F.f41, hi2, hi3, h2n, wc, wd, hn0, build63', Nat.not_lt_zero, nbeq]
    refine ⟨_, mkNd 5 0 false 0 0 [e], _, rfl, F.of fun t ht => ?_, rfl, ⟨mkNd_ok _ _ _ _ _ _, ?_, ?_⟩, rfl⟩
    · rcases ht with rfl | rfl | rfl | rfl | rfl | rfl | rfl | rfl <;> simp -implicitDefEqProofs (maxDischargeDepth := 4) only [go_sem, ↓reduceIte, Nat.reduceLT, Nat.reduceAdd, Nat.reduceMul, Nat.reduceSub, Nat.reduceEqDiff, Nat.reduceLeDiff, Nat.reduceBEq, reduceCtorEq, Int.reduceLT, Int.reduceLE, Int.reduceEq, Int.reduceNe, Nat.reducePow]
    · refine shp_mk (f1 := 1) (f2 := 1) (f3 := false) (f4 := true) (by decide) (by decide) (by simp) (by simp) (by decide) (fun _ => rfl) (fun h => by cases h) (fun _ => ⟨rfl, rfl⟩) (fun y hy => ?_) fun h => by cases h
      rw [List.mem_singleton] at hy; subst hy; omega
    · refine cl_mk (fun y hy => ?_) fun h => by cases h
      rw [List.mem_singleton] at hy; subst hy; omega
end Go.Abs.Tab

/- Tables that are made. -/
set_option linter.unusedVariables false
namespace Go.Abs.Tab
open Go.Gr
abbrev arV (q : Q4) : AV := .agg (arC q)
structure QsOk (qs : List Q4) (a : AV) : Prop where
  sl : Sl 4 a (qs.map arV)
  ok : ∀ q ∈ qs, q.ok
  ne : 0 < qs.length
theorem build66_k' (k : Int) : abuild cx.T 66 [(0, iv k)] = some (.agg [iv k, iv 0, bv false, iv 0, iv 0, .lit (.slice none 0 0)]) := nr (by kernel_rfl)
theorem QsOk.at {qs : List Q4} {a : AV} (h : QsOk qs a) (i : Nat) : ∃ q : Q4, q.ok ∧ aindexAddr cx.T 69 a (iv ((i : Int).tmod qs.length)) = some (.vp (arV q) 0) := by
  have hne := h.ne
  obtain ⟨h1, h2⟩ := tmod_lt' (a := (i : Int)) (n := qs.length) (by omega) hne
  obtain ⟨j, hj⟩ : ∃ j : Nat, (i : Int).tmod qs.length = j := ⟨((i : Int).tmod qs.length).toNat, by omega⟩
  rw [hj] at h2 ⊢
  have hlt : j < qs.length := by omega
  refine ⟨qs[j], h.ok _ (List.getElem_mem hlt), ?_⟩
  rw [aindexAddr_sl h.sl sl69 (by rw [List.length_map]; exact hlt) rfl]
  rw [List.getD_eq_getElem?_getD, List.getElem?_map, List.getElem?_eq_getElem hlt]; rfl
theorem at205v {q : Q4} {m : Nat} {j : Int} (hm : j = m) (h : m < 4) {b : Nat} : aindexAddr cx.T 205 (.ptr b 0 0) (iv j) = some (.ptr b 0 m) := at205 (i := 0) hm h

theorem made_start {qs : List Q4} {a : AV} (hqs : QsOk qs a) {n i : Nat} (hn : 1 ≤ n) (hn40 : n ≤ 40) (hi : i < n) {v : AV} {fr : PT} (F : MFr fr a n v i) :
    ∃ (fr' : PT) (q : Q4) (e : Int × Int) (k : Int), ex cx D 0 53 104 (.seq (.region 5 g53_4 false) (.seq (.region 6 g53_5 true) (.seq (.region 7 g53_6 false) (.region 8 g53_7 false)))) fr [] = some (.normal, fr', [arB q, edB e, ndB k 0 false 0 0 (.lit (.slice none 0 0))]) ∧
      MFr2 fr' a n v i k ∧ q.ok ∧ ((0 ≤ e.1 ∧ e.1 < n) ∧ (0 ≤ e.2 ∧ e.2 ≤ 6)) ∧ (0 ≤ k ∧ k ≤ 5) := by
  obtain ⟨q, hq, hat⟩ := hqs.at i
  have hq' := hq
  unfold Q4.ok at hq'
  have hne := hqs.ne
  have hL0 : (qs.length : Int) ≠ 0 := by omega
  have hn0 : (n : Int) ≠ 0 := by omega
  have h70 : (7 : Int) ≠ 0 := by decide
  have h60 : (6 : Int) ≠ 0 := by decide
  have wa : wrapK .i64 q.a = q.a := wrap_small (by omega) (by omega)
  have wb : wrapK .i64 q.b = q.b := wrap_small (by omega) (by omega)
  have wc : wrapK .i64 q.c = q.c := wrap_small (by omega) (by omega)
  have wbi : wrapK .i64 (q.b + i) = q.b + i := wrap_small (by omega) (by omega)
  have i0 := at205 (m := 0) (i := 0) (j := 0) (b := 0) rfl (by decide)
  have i1 := at205 (m := 1) (i := 0) (j := 1) (b := 0) rfl (by decide)
  have i2 := at205 (m := 2) (i := 0) (j := 2) (b := 0) rfl (by decide)
  obtain ⟨fr', e1, F'⟩ : ∃ fr' : PT, ex cx D 0 53 104 (.seq (.region 5 g53_4 false) (.seq (.region 6 g53_5 true) (.seq (.region 7 g53_6 false) (.region 8 g53_7 false)))) fr [] = some (.normal, fr', [arB q, edB ((q.b + i).tmod n, q.c.tmod 7), ndB (q.a.tmod 6) 0 false 0 0 (.lit (.slice none 0 0))]) ∧ MFr2 fr' a n v i (q.a.tmod 6) := by
    simp -implicitDefEqProofs (maxDischargeDepth := 4) only [go_sem, ↓reduceIte, Nat.reduceLT, Nat.reduceAdd, Nat.reduceMul, Nat.reduceSub, Nat.reduceEqDiff, Nat.reduceLeDiff, Nat.reduceBEq, reduceCtorEq, Int.reduceLT, Int.reduceLE, Int.reduceEq, Int.reduceNe, Nat.reducePow, elAt_eq, stV_eq, cellsB_cells, hp_get_r, hp_get_r0, hp_get_l, hp_set_r, hp_set_r0, hp_set_l, hp_one, hp_ne, List.drop_succ_cons, List.drop_zero, List.take_succ_cons, List.take_zero, F.f0, F.f1, F.f6, hqs.sl.shr, hqs.sl.notOwn, alen_sl hqs.sl, List.length_map, hL0, hat, hn0, h70, h60, wa, wb, wc, wbi, i0, i1, i2, build63', build66_k', layB_res, Nat.zero_le, Nat.le_refl, Nat.not_lt_zero, nbeq]
    refine ⟨_, rfl, ⟨?_, ?_, ?_, ?_⟩, ?_, ?_, ?_, ?_⟩ <;> simp -implicitDefEqProofs (maxDischargeDepth := 4) only [go_sem, ↓reduceIte, Nat.reduceLT, Nat.reduceAdd, Nat.reduceMul, Nat.reduceSub, Nat.reduceEqDiff, Nat.reduceLeDiff, Nat.reduceBEq, reduceCtorEq, Int.reduceLT, Int.reduceLE, Int.reduceEq, Int.reduceNe, Nat.reducePow, F.f0, F.f1, F.f5, F.f6]
  exact ⟨fr', q, _, _, e1, F', hq, ⟨tmod_lt' (by omega) hn, Int.tmod_nonneg _ (by omega), by have := Int.tmod_lt_of_pos q.c (show (0 : Int) < 7 by decide); dsimp only; omega⟩, Int.tmod_nonneg _ (by omega), by have := Int.tmod_lt_of_pos q.a (show (0 : Int) < 6 by decide); omega⟩
theorem nd1 {n i d : Nat} (h : n - i = d + 1) : n - (i + 1) = d := by omega
theorem nd2 {n i d : Nat} (h : n - i = d + 1) : i + 1 ≤ n := by omega
theorem made_loop {qs : List Q4} {a : AV} (hqs : QsOk qs a) {n : Nat} (hn : 1 ≤ n) (hn40 : n ≤ 40) : ∀ (d i : Nat) (fr : PT) (os : List Nd) (v : AV), n - i = d → i ≤ n → MFr fr a n v i → Grow 6 v (os.map nodeV) → os.length = i → (∀ x ∈ os, Md n x) →
    ∃ (fr' : PT) (os' : List Nd) (v' : AV), D.loop 0 53 104 l53_1 fr [] = some (.exit 0, fr', []) ∧ fr'.get 5 = v' ∧ Grow 6 v' (os'.map nodeV) ∧ os'.length = n ∧ ∀ x ∈ os', Md n x
  | 0, i, fr, os, v, hd, hi, F, hv, hos, hok => by
    have hin : i = n := by omega
    subst hin
    have hlt : ¬ ((i : Int) < (i : Int)) := by omega
    rw [dl53_1]
    simp -implicitDefEqProofs (maxDischargeDepth := 4) only [go_sem, ↓reduceIte, Nat.reduceLT, Nat.reduceAdd, Nat.reduceMul, Nat.reduceSub, Nat.reduceEqDiff, Nat.reduceLeDiff, Nat.reduceBEq, reduceCtorEq, Int.reduceLT, Int.reduceLE, Int.reduceEq, Int.reduceNe, Nat.reducePow, elAt_eq, stV_eq, cellsB_cells, hp_get_r, hp_get_r0, hp_get_l, hp_set_r, hp_set_r0, hp_set_l, hp_one, hp_ne, List.drop_succ_cons, List.drop_zero, List.take_succ_cons, List.take_zero, F.f1, F.f6, hlt]
    exact ⟨_, os, v, rfl, by simp -implicitDefEqProofs (maxDischargeDepth := 4) only [go_sem, ↓reduceIte, Nat.reduceLT, Nat.reduceAdd, Nat.reduceMul, Nat.reduceSub, Nat.reduceEqDiff, Nat.reduceLeDiff, Nat.reduceBEq, reduceCtorEq, Int.reduceLT, Int.reduceLE, Int.reduceEq, Int.reduceNe, Nat.reducePow, F.f5], hv, hos, hok⟩
  | d + 1, i, fr, os, v, hd, hi, F, hv, hos, hok => by
    have hlt : ((i : Int) < (n : Int)) := by omega
    obtain ⟨fr1, e1, F1⟩ : ∃ fr1 : PT, ex cx D 0 53 104 (.seq (.region 3 g53_3 false) (.cond (.tmp 13) .skip (.exit 0))) fr [] = some (.normal, fr1, []) ∧ MFr fr1 a n v i := by
      simp -implicitDefEqProofs (maxDischargeDepth := 4) only [go_sem, ↓reduceIte, Nat.reduceLT, Nat.reduceAdd, Nat.reduceMul, Nat.reduceSub, Nat.reduceEqDiff, Nat.reduceLeDiff, Nat.reduceBEq, reduceCtorEq, Int.reduceLT, Int.reduceLE, Int.reduceEq, Int.reduceNe, Nat.reducePow, elAt_eq, stV_eq, cellsB_cells, hp_get_r, hp_get_r0, hp_get_l, hp_set_r, hp_set_r0, hp_set_l, hp_one, hp_ne, List.drop_succ_cons, List.drop_zero, List.take_succ_cons, List.take_zero, F.f1, F.f6, hlt]
      refine ⟨_, rfl, ?_, ?_, ?_, ?_⟩ <;> simp -implicitDefEqProofs (maxDischargeDepth := 4) only [go_sem, ↓reduceIte, Nat.reduceLT, Nat.reduceAdd, Nat.reduceMul, Nat.reduceSub, Nat.reduceEqDiff, Nat.reduceLeDiff, Nat.reduceBEq, reduceCtorEq, Int.reduceLT, Int.reduceLE, Int.reduceEq, Int.reduceNe, Nat.reducePow, F.f0, F.f1, F.f5, F.f6]
    obtain ⟨fr2, q, e, k, e2, F2, hq, he, hk⟩ := made_start hqs hn hn40 (by omega) F1
    obtain ⟨fr3, x, cells, e3, F3, hc, hx, _⟩ := switch_ok hq hn hn40 he hk F2
    have hs : Sl 2 x.nx (x.es.map ed) := hx.ok
    have hlen : cells.length = 6 := by
      have := congrArg List.length hc
      simpa using this
    have hlen2 : ((os.map nodeV).length + (0 + 1)) * (64 + 1) ≤ 1099511627776 := by rw [List.length_map, hos]; exact Nat.le_trans (Nat.mul_le_mul (show i + (0 + 1) ≤ 40 by omega) (Nat.le_refl 65)) (by decide)
    have hdr : (((cells.drop 0).take 6).map shr) = nodeC x := by rw [List.drop_zero, List.take_of_length_le (by omega), hc]
    have hld : elP true 6 (.agg cells) 0 = some (nodeV x) := by rw [elP_agg, if_pos (by omega), hdr]
    obtain ⟨fr4, e4, F4⟩ : ∃ fr4 : PT, ex cx D 0 53 104 (.region 24 g53_23 false) fr3 [arB q, edB e, .cells 6 66 [.agg cells]] = some (.normal, fr4, [arB q, edB e, .cells 6 66 [.agg cells]]) ∧ MFr fr4 a n (.vec 6 .own (os.map nodeV ++ [nodeV x])) i := by
      rcases hv with rfl | ⟨rfl, hz⟩
      · have hap : ∀ y : AV, apV 6 64 [y] (.vec 6 .own (os.map nodeV)) = some (.vec 6 .own (os.map nodeV ++ [y])) := fun y => apV_own hlen2 (by decide)
        simp -implicitDefEqProofs (maxDischargeDepth := 4) only [go_sem, ↓reduceIte, Nat.reduceLT, Nat.reduceAdd, Nat.reduceMul, Nat.reduceSub, Nat.reduceEqDiff, Nat.reduceLeDiff, Nat.reduceBEq, reduceCtorEq, Int.reduceLT, Int.reduceLE, Int.reduceEq, Int.reduceNe, Nat.reducePow, elAt_eq, stV_eq, cellsB_cells, hp_get_r, hp_get_r0, hp_get_l, hp_set_r, hp_set_r0, hp_set_l, hp_one, hp_ne, List.drop_succ_cons, List.drop_zero, List.take_succ_cons, List.take_zero, F3.f5, F3.f9, hld, hs.cl0, hap]
        refine ⟨_, rfl, ?_, ?_, ?_, ?_⟩ <;> simp -implicitDefEqProofs (maxDischargeDepth := 4) only [go_sem, ↓reduceIte, Nat.reduceLT, Nat.reduceAdd, Nat.reduceMul, Nat.reduceSub, Nat.reduceEqDiff, Nat.reduceLeDiff, Nat.reduceBEq, reduceCtorEq, Int.reduceLT, Int.reduceLE, Int.reduceEq, Int.reduceNe, Nat.reducePow, F3.f0, F3.f1, F3.f6]
      · have hap : ∀ y : AV, apV 6 64 [y] (.lit (.slice none 0 0)) = some (.vec 6 .own [y]) := fun y => apV_none (show (0 + 1) * (64 + 1) ≤ 1099511627776 by decide) (by decide)
        rw [hz, List.nil_append]
        simp -implicitDefEqProofs (maxDischargeDepth := 4) only [go_sem, ↓reduceIte, Nat.reduceLT, Nat.reduceAdd, Nat.reduceMul, Nat.reduceSub, Nat.reduceEqDiff, Nat.reduceLeDiff, Nat.reduceBEq, reduceCtorEq, Int.reduceLT, Int.reduceLE, Int.reduceEq, Int.reduceNe, Nat.reducePow, elAt_eq, stV_eq, cellsB_cells, hp_get_r, hp_get_r0, hp_get_l, hp_set_r, hp_set_r0, hp_set_l, hp_one, hp_ne, List.drop_succ_cons, List.drop_zero, List.take_succ_cons, List.take_zero, F3.f5, F3.f9, hld, hs.cl0, hap]
        refine ⟨_, rfl, ?_, ?_, ?_, ?_⟩ <;> simp -implicitDefEqProofs (maxDischargeDepth := 4) only [go_sem, ↓reduceIte, Nat.reduceLT, Nat.reduceAdd, Nat.reduceMul, Nat.reduceSub, Nat.reduceEqDiff, Nat.reduceLeDiff, Nat.reduceBEq, reduceCtorEq, Int.reduceLT, Int.reduceLE, Int.reduceEq, Int.reduceNe, Nat.reducePow, F3.f0, F3.f1, F3.f6]
    obtain ⟨_, _, p1, r1⟩ := x_split e2
    obtain ⟨_, _, p2, r2⟩ := x_split r1
    obtain ⟨_, _, p3, p4⟩ := x_split r2
    have eB : ex cx D 0 53 104 (.block 1 (.seq (.region 5 g53_4 false) (.seq (.region 6 g53_5 true) (.seq (.region 7 g53_6 false) (.seq (.seq (.region 8 g53_7 false) (.block 2 (.seq (.seq (.region 9 g53_8 false) (.cond (.tmp 42) .skip (.region 10 g53_9 false))) (.cond (.tmp 42) (.seq (.region 11 g53_10 false) (.seq (.region 12 g53_11 false) (.seq (.region 13 g53_12 false) (.cond (.tmp 55) (.seq (.region 14 g53_13 false) (.region 15 g53_14 true)) .skip)))) (.seq (.seq (.region 16 g53_15 false) (.cond (.tmp 67) .skip (.region 17 g53_16 false))) (.cond (.tmp 67) (.seq (.region 18 g53_17 false) (.block 3 (.loop l53_0))) (.seq (.region 22 g53_21 false) (.cond (.tmp 94) (.region 23 g53_22 false) .skip)))))))) (.region 24 g53_23 false)))))) fr1 [] = some (.normal, fr4, [arB q, edB e, .cells 6 66 [.agg cells]]) := by
      rw [x_block, x_cont1 p1, x_cont1 p2, x_cont1 p3, x_assoc, x_cont1 p4, x_cont1 e3, e4]; rfl
    have w3 : wrapK .i64 ((i : Int) + 1) = ((i + 1 : Nat) : Int) := by rw [wrap_small (by omega) (by omega)]; rfl
    obtain ⟨fr5, e5, F5⟩ : ∃ fr5 : PT, ex cx D 0 53 104 (.region 4 g53_24 false) fr4 [arB q, edB e, .cells 6 66 [.agg cells]] = some (.normal, fr5, [arB q, edB e, .cells 6 66 [.agg cells]]) ∧ MFr fr5 a n (.vec 6 .own (os.map nodeV ++ [nodeV x])) (i + 1) := by
      simp -implicitDefEqProofs (maxDischargeDepth := 4) only [go_sem, ↓reduceIte, Nat.reduceLT, Nat.reduceAdd, Nat.reduceMul, Nat.reduceSub, Nat.reduceEqDiff, Nat.reduceLeDiff, Nat.reduceBEq, reduceCtorEq, Int.reduceLT, Int.reduceLE, Int.reduceEq, Int.reduceNe, Nat.reducePow, elAt_eq, stV_eq, cellsB_cells, hp_get_r, hp_get_r0, hp_get_l, hp_set_r, hp_set_r0, hp_set_l, hp_one, hp_ne, List.drop_succ_cons, List.drop_zero, List.take_succ_cons, List.take_zero, F4.f6, w3]
      refine ⟨_, rfl, ?_, ?_, ?_, ?_⟩ <;> simp -implicitDefEqProofs (maxDischargeDepth := 4) only [go_sem, ↓reduceIte, Nat.reduceLT, Nat.reduceAdd, Nat.reduceMul, Nat.reduceSub, Nat.reduceEqDiff, Nat.reduceLeDiff, Nat.reduceBEq, reduceCtorEq, Int.reduceLT, Int.reduceLE, Int.reduceEq, Int.reduceNe, Nat.reducePow, F4.f0, F4.f1, F4.f5]
    rw [dl53_1, x_cont1 e1, x_cont1 eB, e5, xbind_some, contR_normal]
    refine trim_gen (P := fun w => ∃ (fr' : PT) (os' : List Nd) (v' : AV), w = some (.exit 0, fr', []) ∧ fr'.get 5 = v' ∧ Grow 6 v' (os'.map nodeV) ∧ os'.length = n ∧ ∀ x ∈ os', Md n x)
      [0, 1, 5, 6] (Nat.zero_le _) (fun t ht => ?_) fun fr' G' hG' hf _ => ?_
    · simp only [List.mem_cons, List.not_mem_nil, or_false] at ht
      rcases ht with rfl | rfl | rfl | rfl
      · rw [F5.f0, kill_Sl hqs.sl]
      · rw [F5.f1]; rfl
      · rw [F5.f5]; rfl
      · rw [F5.f6]; rfl
    · obtain rfl := List.length_eq_zero_iff.1 hG'
      refine made_loop hqs hn hn40 d (i + 1) fr' (os ++ [x]) _ (nd1 hd) (nd2 hd) ⟨by rw [hf 0 (by simp), F5.f0], by rw [hf 1 (by simp), F5.f1], by rw [hf 5 (by simp), F5.f5], by rw [hf 6 (by simp), F5.f6]⟩ (.inl (by rw [List.map_append]; rfl)) (by rw [List.length_append, hos]; rfl) fun w hw => ?_
      rw [List.mem_append, List.mem_singleton] at hw
      rcases hw with hw | rfl
      · exact hok w hw
      · exact hx
theorem made_call {qs : List Q4} {a : AV} (hqs : QsOk qs a) {n : Nat} (hn : 1 ≤ n) (hn40 : n ≤ 40) : ∃ (os : List Nd) (v : AV), callB cx D 0 53 [a, iv n] [] = some (v, []) ∧ Sl 6 v (os.map nodeV) ∧ os.length = n ∧ ∀ x ∈ os, Md n x := by
  obtain ⟨fr1, e1, F1⟩ : ∃ fr1 : PT, ex cx D 0 53 104 (.seq (.region 0 g53_0 false) (.seq (.region 1 g53_1 false) (.region 2 g53_2 false))) ((PT.nil.set 0 (drp a)).set 1 (drp (iv n))) [] = some (.normal, fr1, []) ∧ MFr fr1 a n (.lit (.slice none 0 0)) 0 := by
    simp -implicitDefEqProofs (maxDischargeDepth := 4) only [go_sem, ↓reduceIte, Nat.reduceLT, Nat.reduceAdd, Nat.reduceMul, Nat.reduceSub, Nat.reduceEqDiff, Nat.reduceLeDiff, Nat.reduceBEq, reduceCtorEq, Int.reduceLT, Int.reduceLE, Int.reduceEq, Int.reduceNe, Nat.reducePow, elAt_eq, stV_eq, cellsB_cells, hp_get_r, hp_get_r0, hp_get_l, hp_set_r, hp_set_r0, hp_set_l, hp_one, hp_ne, List.drop_succ_cons, List.drop_zero, List.take_succ_cons, List.take_zero,]
    refine ⟨_, rfl, ?_, ?_, ?_, ?_⟩ <;> simp -implicitDefEqProofs (maxDischargeDepth := 4) only [go_sem, ↓reduceIte, Nat.reduceLT, Nat.reduceAdd, Nat.reduceMul, Nat.reduceSub, Nat.reduceEqDiff, Nat.reduceLeDiff, Nat.reduceBEq, reduceCtorEq, Int.reduceLT, Int.reduceLE, Int.reduceEq, Int.reduceNe, Nat.reducePow, hqs.sl.drp, Int.ofNat_zero]
  obtain ⟨fr2, os, v, e2, f5, hv, hl, hok⟩ := made_loop hqs hn hn40 n 0 fr1 [] (.lit (.slice none 0 0)) (by omega) (by omega) F1 (.inr ⟨rfl, rfl⟩) rfl (by simp)
  obtain ⟨_, _, p1, r1⟩ := x_split e1
  obtain ⟨_, _, p2, p3⟩ := x_split r1
  have e3 : ex cx D 0 53 104 (.block 0 (.loop l53_1)) fr1 [] = some (.normal, fr2, []) := by simp -implicitDefEqProofs (maxDischargeDepth := 4) only [go_sem, ↓reduceIte, Nat.reduceLT, Nat.reduceAdd, Nat.reduceMul, Nat.reduceSub, Nat.reduceEqDiff, Nat.reduceLeDiff, Nat.reduceBEq, reduceCtorEq, Int.reduceLT, Int.reduceLE, Int.reduceEq, Int.reduceNe, Nat.reducePow, x_loop, e2]
  refine ⟨os, shr v, ?_, hv.sl, hl, hok⟩
  rw [c53, x_cont1 p1, x_cont1 p2, x_assoc, x_cont1 p3, x_cont1 e3]
  rcases hv with rfl | ⟨rfl, _⟩ <;> simp -implicitDefEqProofs (maxDischargeDepth := 4) only [go_sem, ↓reduceIte, Nat.reduceLT, Nat.reduceAdd, Nat.reduceMul, Nat.reduceSub, Nat.reduceEqDiff, Nat.reduceLeDiff, Nat.reduceBEq, reduceCtorEq, Int.reduceLT, Int.reduceLE, Int.reduceEq, Int.reduceNe, Nat.reducePow, f5]
theorem Sl.frz_id {sz n : Nat} {a : AV} {els : List AV} {H : Hp} (h : Sl sz a els) : Abs.frz n H a = a := by
  rcases h with rfl | rfl | ⟨rfl, _⟩ <;> rfl
theorem made_ok {qs : List Q4} {a : AV} (hqs : QsOk qs a) {n : Nat} (hn : 1 ≤ n) (hn40 : n ≤ 40) : ∃ (os : List Nd) (v : AV), pcall D 53 [a, iv n] = some v ∧ Sl 6 v (os.map nodeV) ∧ os.length = n ∧ ∀ x ∈ os, Md n x := by
  obtain ⟨os, v, h1, h2, h3, h4⟩ := made_call hqs hn hn40
  refine ⟨os, v, ?_, h2, h3, h4⟩
  rw [pcall_eq (v := v) (H' := []) (by rw [List.map_cons, List.map_cons, List.map_nil, hqs.sl.cl2]; exact h1), Sl.frz_id h2]
end Go.Abs.Tab

/- Where types lead in tables as they may be: the plain law of GraphWays. -/
set_option linter.unusedVariables false
namespace Go.Abs.Tab
open Go.Gr
theorem wlk_cases {ns : List Nd} : ∀ (k : Nat) (n o : Int), wlk ns k n o = (-1, 0) ∨ ∃ (m : Nat) (x : Nd) (o' : Int), wlk ns k n o = ((m : Int), o') ∧ ns[m]? = some x ∧ atN ns m = some x ∧ x.kind ≠ 5
  | 0, n, o => .inl rfl
  | k + 1, n, o => by
    rcases atN_cases (ns := ns) n with ⟨ha, _⟩ | ⟨m, x, rfl, hm, hx, ha⟩
    · exact .inl (wlk_out ha)
    · by_cases h5 : x.kind = 5
      · by_cases h1 : x.es.length = 1
        · obtain ⟨e, he⟩ := List.length_eq_one_iff.1 h1
          rw [wlk_one ha h5 he]
          exact wlk_cases k _ _
        · exact .inl (wlk_bad ha h5 h1)
      · exact .inr ⟨m, x, o, wlk_ne ha h5, hx, ha, h5⟩
theorem wlk_mono {ns : List Nd} : ∀ {k : Nat} {n o m o' : Int}, wlk ns k n o = (m, o') → 0 ≤ m → wlk ns (k + 1) n o = (m, o')
  | 0, n, o, m, o', h, hm => by simp only [wlk, Prod.mk.injEq] at h; omega
  | k + 1, n, o, m, o', h, hm => by
    rcases atN_cases (ns := ns) n with ⟨ha, _⟩ | ⟨q, x, rfl, hq, hx, ha⟩
    · rw [wlk_out ha] at h ⊢; exact h
    · by_cases h5 : x.kind = 5
      · by_cases h1 : x.es.length = 1
        · obtain ⟨e, he⟩ := List.length_eq_one_iff.1 h1
          rw [wlk_one ha h5 he] at h ⊢
          exact wlk_mono h hm
        · rw [wlk_bad ha h5 h1] at h ⊢; exact h
      · rw [wlk_ne ha h5] at h ⊢; exact h
/-- edges' shifts are small -/
def Small (ns : List Nd) : Prop := ∀ x ∈ ns, ∀ e ∈ x.es, 0 ≤ e.2 ∧ e.2 ≤ 1000
theorem wlk_add {ns : List Nd} (hs : Small ns) {d : Int} (hd : 0 ≤ d ∧ d ≤ 100000) : ∀ {k : Nat} {n o m o' : Int}, wlk ns k n o = (m, o') → 0 ≤ m → 0 ≤ o → o + 1000 * k ≤ 800000 → wlk ns k n (o + d) = (m, o' + d) ∧ 0 ≤ o' ∧ o' ≤ 800000
  | 0, n, o, m, o', h, hm, h0, h1 => by simp only [wlk, Prod.mk.injEq] at h; omega
  | k + 1, n, o, m, o', h, hm, h0, h1 => by
    rcases atN_cases (ns := ns) n with ⟨ha, _⟩ | ⟨q, x, rfl, hq, hx, ha⟩
    · rw [wlk_out ha] at h; cases h; omega
    · by_cases h5 : x.kind = 5
      · by_cases hl : x.es.length = 1
        · obtain ⟨e, he⟩ := List.length_eq_one_iff.1 hl
          have hse := hs x (List.mem_of_getElem? hx) e (by rw [he]; simp)
          rw [wlk_one ha h5 he] at h ⊢
          rw [wrap_small (by omega) (by omega)] at h ⊢
          have := wlk_add hs hd h hm (by omega) (by omega)
          rw [show o + d + e.2 = o + e.2 + d by omega]
          exact this
        · rw [wlk_bad ha h5 hl] at h; cases h; omega
      · rw [wlk_ne ha h5] at h ⊢; cases h
        exact ⟨rfl, by omega, by omega⟩
theorem chkA_none {N : Int} : ∀ {l : List Nd} {i : Nat}, (∀ x ∈ l, shp x = true ∧ opn N x = false) → chkA N i l = none
  | [], _, _ => rfl
  | x :: xs, i, h => by
    obtain ⟨h1, h2⟩ := h x (by simp)
    simp only [chkA, h1, h2, Bool.true_eq_false, Bool.false_eq_true, if_false]
    exact chkA_none fun y hy => h y (List.mem_cons_of_mem _ hy)
theorem chkB_spec {ns : List Nd} : ∀ (k i : Nat), (chkB ns k i = (-1, 0) ∧ ∀ j : Nat, i ≤ j → j < i + k → bad ns j = false) ∨ ∃ w : Nat, chkB ns k i = ((w : Int), 9) ∧ i ≤ w ∧ w < i + k ∧ bad ns w = true ∧ ∀ j : Nat, i ≤ j → j < w → bad ns j = false
  | 0, i => .inl ⟨rfl, fun j h1 h2 => by omega⟩
  | k + 1, i => by
    simp only [chkB]
    cases hb : bad ns i with
    | true => exact .inr ⟨i, by simp, by omega, by omega, hb, fun j h1 h2 => by omega⟩
    | false =>
      simp only [Bool.false_eq_true, if_false]
      rcases chkB_spec k (i + 1) with ⟨h1, h2⟩ | ⟨w, h1, h2, h3, h4, h5⟩
      · refine .inl ⟨h1, fun j a b => ?_⟩
        by_cases hj : j = i
        · subst hj; exact hb
        · exact h2 j (by omega) (by omega)
      · refine .inr ⟨w, h1, by omega, by omega, h4, fun j a b => ?_⟩
        by_cases hj : j = i
        · subst hj; exact hb
        · exact h5 j (by omega) (by omega)
/-- what is told of such a table -/
structure Told (ns : List Nd) (w e : Int) : Prop where
  bad : ∀ j : Nat, j < ns.length → bad ns j = true → e = 9 ∧ ¬ (j : Int) < w
  good : ∀ j : Nat, j < ns.length → Tab.bad ns j = false → ¬ (j : Int) = w
  fin : (e = 0 ∧ w = -1) ∨ (e = 9 ∧ ¬ w = -1)
theorem told_chk {ns : List Nd} (h1 : 1 ≤ ns.length) (h2 : ns.length ≤ 40) (hok : ∀ x ∈ ns, Md ns.length x) : Told ns (chk ns).1 (chk ns).2 := by
  unfold chk
  rw [if_neg (by omega), if_neg (by omega), chkA_none fun x hx => ⟨(hok x hx).sh, (hok x hx).cl⟩]
  dsimp only
  rcases chkB_spec (ns := ns) ns.length 0 with ⟨e, h⟩ | ⟨w, e, _, _, hb, h⟩
  · rw [e]
    exact ⟨fun j hj hb => (by rw [h j (by omega) (by omega)] at hb; cases hb), fun j _ _ => (by dsimp only; omega), .inl ⟨rfl, rfl⟩⟩
  · rw [e]
    refine ⟨fun j hj hb' => ⟨rfl, fun hlt => ?_⟩, fun j hj hb' e' => ?_, .inr ⟨rfl, by dsimp only; omega⟩⟩
    · rw [h j (by omega) (by dsimp only at hlt; omega)] at hb'; cases hb'
    · have : j = w := by dsimp only at e'; omega
      subst this; rw [hb] at hb'; cases hb'
theorem shp_small {x : Nd} (h : shp x = true) : ∀ e ∈ x.es, 0 ≤ e.2 ∧ e.2 ≤ 1000 := by
  unfold shp at h
  simp only [Bool.and_eq_true, Bool.not_eq_true'] at h
  have hw := h.2
  rw [any_edg, Bool.or_eq_false_iff] at hw
  intro e he
  have := hw.1
  rw [List.any_eq_false] at this
  have h2 := this e he
  rw [wide_iff] at h2
  omega
theorem shp_alias {x : Nd} (h : shp x = true) (h5 : x.kind = 5) : x.es.length = 1 := by
  unfold shp at h
  rw [h5] at h
  simp only [Bool.and_eq_true, Bool.not_eq_true', Bool.or_eq_false_iff, decide_eq_false_iff_not] at h
  have : frm 5 = (1, 1, false, true) := by decide
  rw [this] at h
  dsimp only at h
  omega
end Go.Abs.Tab

/- The statement GraphWays. -/
set_option linter.unusedVariables false
namespace Go.Abs.Tab
open Go.Gr
structure WyFr (fr : PT) (v : AV) (off : Int) (n : Nat) (w e : Int) (i : Nat) : Prop where
  f2 : fr.get 2 = .lit (.int .u16 off)
  f7 : fr.get 7 = iv n
  f8 : fr.get 8 = v
  f9 : fr.get 9 = iv w
  f10 : fr.get 10 = iv e
  f11 : fr.get 11 = iv i
theorem WyFr.of {fr fr' : PT} {v : AV} {off w e : Int} {n i : Nat} (F : WyFr fr v off n w e i) (h : ∀ t, (t = 2 ∨ t = 7 ∨ t = 8 ∨ t = 9 ∨ t = 10) → fr'.get t = fr.get t) (h11 : fr'.get 11 = iv (i + 1 : Nat)) : WyFr fr' v off n w e (i + 1) :=
  ⟨by rw [h 2 (by simp), F.f2], by rw [h 7 (by simp), F.f7], by rw [h 8 (by simp), F.f8], by rw [h 9 (by simp), F.f9], by rw [h 10 (by simp), F.f10], h11⟩
theorem ways_loop {os : List Nd} {v : AV} (hos : NsOk os v) (hmd : ∀ x ∈ os, Md os.length x) (h40 : os.length ≤ 40) {w e : Int} (T : Told os w e) {off : Int} (ho : 0 ≤ off ∧ off ≤ 65535) :
    ∀ (d i : Nat) (fr : PT), os.length - i = d → i ≤ os.length → WyFr fr v off os.length w e i → ∃ fr' : PT, D.loop 0 9 133 l9_0 fr [] = some (.exit 0, fr', [])
  | 0, i, fr, hd, hi, F => by
    have hlt : ¬ ((i : Int) < (os.length : Int)) := by omega
    rw [dl9_0]
    simp -implicitDefEqProofs (maxDischargeDepth := 4) only [go_sem, ↓reduceIte, Nat.reduceLT, Nat.reduceAdd, Nat.reduceMul, Nat.reduceSub, Nat.reduceEqDiff, Nat.reduceLeDiff, Nat.reduceBEq, reduceCtorEq, Int.reduceLT, Int.reduceLE, Int.reduceEq, Int.reduceNe, Nat.reducePow, elAt_eq, stV_eq, cellsB_cells, hp_get_r, hp_get_r0, hp_get_l, hp_set_r, hp_set_r0, hp_set_l, hp_one, hp_ne, List.drop_succ_cons, List.drop_zero, List.take_succ_cons, List.take_zero, F.f7, F.f11, hlt]
    exact ⟨_, rfl⟩
  | d + 1, i, fr, hd, hi, F => by
    have hlt : ((i : Int) < (os.length : Int)) := by omega
    have w3 : wrapK .i64 ((i : Int) + 1) = ((i + 1 : Nat) : Int) := by rw [wrap_small (by omega) (by omega)]; rfl
    obtain ⟨y, hy⟩ := ex_nd (ns := os) (i := i) (by omega)
    have haty := hos.at hy
    have hmy := hmd y (List.mem_of_getElem? hy)
    have hsy : Sl 2 y.nx (y.es.map ed) := hmy.ok
    have r1 := res51_ok hos i 0
    have next : ∀ (fr1 : PT) (G1 : Hp), WyFr fr1 v off os.length w e (i + 1) → ∃ fr' : PT, trimmed (D.loop 0 9 133 l9_0) 0 fr1 G1 = some (.exit 0, fr', []) := fun fr1 G1 F1 => by
      refine trim_gen (P := fun z => ∃ fr' : PT, z = some (.exit 0, fr', [])) [2, 7, 8, 9, 10, 11] (Nat.zero_le _) (fun t ht => ?_) fun fr' G' hG' hf _ => ?_
      · simp only [List.mem_cons, List.not_mem_nil, or_false] at ht
        rcases ht with rfl | rfl | rfl | rfl | rfl | rfl
        · rw [F1.f2]; rfl
        · rw [F1.f7]; rfl
        · rw [F1.f8, kill_Sl hos.sl]
        · rw [F1.f9]; rfl
        · rw [F1.f10]; rfl
        · rw [F1.f11]; rfl
      · obtain rfl := List.length_eq_zero_iff.1 hG'
        exact ways_loop hos hmd h40 T ho d (i + 1) fr' (nd1 hd) (nd2 hd) ⟨by rw [hf 2 (by simp), F1.f2], by rw [hf 7 (by simp), F1.f7], by rw [hf 8 (by simp), F1.f8], by rw [hf 9 (by simp), F1.f9], by rw [hf 10 (by simp), F1.f10], by rw [hf 11 (by simp), F1.f11]⟩
    rw [dl9_0]
    rcases wlk_cases (ns := os) os.length i 0 with hr | ⟨m, x, o', hr, hx, ha, hk⟩
    · have hb : bad os i = true := by unfold bad; rw [hr]; decide
      obtain ⟨rfl, hw⟩ := T.bad i (by omega) hb
      have hk5 : y.kind = 5 := by
        by_cases h5 : y.kind = 5
        · exact h5
        · rw [not_bad hy h5] at hb; cases hb
      rw [hr] at r1
      simp -implicitDefEqProofs (maxDischargeDepth := 4) only [go_sem, ↓reduceIte, Nat.reduceLT, Nat.reduceAdd, Nat.reduceMul, Nat.reduceSub, Nat.reduceEqDiff, Nat.reduceLeDiff, Nat.reduceBEq, reduceCtorEq, Int.reduceLT, Int.reduceLE, Int.reduceEq, Int.reduceNe, Nat.reducePow, elAt_eq, stV_eq, cellsB_cells, hp_get_r, hp_get_r0, hp_get_l, hp_set_r, hp_set_r0, hp_set_l, hp_one, hp_ne, List.drop_succ_cons, List.drop_zero, List.take_succ_cons, List.take_zero, F.f7, F.f8, F.f9, F.f10, F.f11, hlt, hos.sl.shr, hos.sl.notOwn, hos.sl.shut1, build61a, r1, Nat.zero_le, Nat.le_refl, Nat.not_lt_zero, haty, hk5, hw, w3]
      refine next _ _ (F.of (fun t ht => ?_) ?_)
      · rcases ht with rfl | rfl | rfl | rfl | rfl <;> simp -implicitDefEqProofs (maxDischargeDepth := 4) only [go_sem, ↓reduceIte, Nat.reduceLT, Nat.reduceAdd, Nat.reduceMul, Nat.reduceSub, Nat.reduceEqDiff, Nat.reduceLeDiff, Nat.reduceBEq, reduceCtorEq, Int.reduceLT, Int.reduceLE, Int.reduceEq, Int.reduceNe, Nat.reducePow]
      · simp -implicitDefEqProofs (maxDischargeDepth := 4) only [go_sem, ↓reduceIte, Nat.reduceLT, Nat.reduceAdd, Nat.reduceMul, Nat.reduceSub, Nat.reduceEqDiff, Nat.reduceLeDiff, Nat.reduceBEq, reduceCtorEq, Int.reduceLT, Int.reduceLE, Int.reduceEq, Int.reduceNe, Nat.reducePow]
    · have hb : bad os i = false := wlk_found hr ha
      have hw := T.good i (by omega) hb
      have hm := (List.getElem?_eq_some_iff.1 hx).1
      have hm0 : ¬ (m : Int) < 0 := by omega
      have hmn : ¬ ((os.length : Int) ≤ (m : Int)) := by omega
      have hatm := hos.at hx
      have hsm : Small os := fun z hz => shp_small (hmd z hz).sh
      have hpos : 0 < os.length := by omega
      obtain ⟨k1, hk1⟩ : ∃ k1, os.length = k1 + 1 := ⟨os.length - 1, by omega⟩
      obtain ⟨hadd, ho0, ho1⟩ := wlk_add hsm (d := off) ⟨ho.1, by omega⟩ hr (by omega) (by omega) (by omega)
      rw [Int.zero_add] at hadd
      have r2 := res51_ok hos m o'
      rw [show wlk os os.length m o' = ((m : Int), o') by rw [hk1]; exact wlk_ne ha hk] at r2
      have r3 := res51_ok hos i off
      rw [hadd] at r3
      rw [hr] at r1
      have woff : wrapK .i64 off = off := wrap_small (by omega) (by omega)
      have wo2 : wrapK .i64 (o' + off) = o' + off := wrap_small (by omega) (by omega)
      by_cases h5 : y.kind = 5
      · obtain ⟨e1, he⟩ := List.length_eq_one_iff.1 (shp_alias hmy.sh h5)
        have hse := shp_small hmy.sh e1 (by rw [he]; simp)
        have hat2 : aindexAddr cx.T 64 y.nx (iv 0) = some (.vp (ed e1) 0) := by
          have := at_ed hsy (show 0 < y.es.length by rw [he]; exact Nat.one_pos)
          rw [he] at this; exact this
        have hay : atN os i = some y := by unfold atN; rw [if_neg (by omega), Int.toNat_natCast]; exact hy
        have r4 := res51_ok hos e1.1 e1.2
        have hr4 : wlk os os.length e1.1 e1.2 = ((m : Int), o') := by
          rw [hk1] at hr ⊢
          rw [wlk_one hay h5 he, Int.zero_add, wrap_small (by omega) (by omega)] at hr
          exact wlk_mono hr (by omega)
        rw [hr4] at r4
        simp -implicitDefEqProofs (maxDischargeDepth := 4) only [go_sem, ↓reduceIte, Nat.reduceLT, Nat.reduceAdd, Nat.reduceMul, Nat.reduceSub, Nat.reduceEqDiff, Nat.reduceLeDiff, Nat.reduceBEq, reduceCtorEq, Int.reduceLT, Int.reduceLE, Int.reduceEq, Int.reduceNe, Nat.reducePow, elAt_eq, stV_eq, cellsB_cells, hp_get_r, hp_get_r0, hp_get_l, hp_set_r, hp_set_r0, hp_set_l, hp_one, hp_ne, List.drop_succ_cons, List.drop_zero, List.take_succ_cons, List.take_zero, F.f2, F.f7, F.f8, F.f9, F.f10, F.f11, hlt, hos.sl.shr, hos.sl.notOwn, hos.sl.shut1, build61a, build61, r1, r2, r3, Nat.zero_le, Nat.le_refl, Nat.not_lt_zero, haty, hw, w3, hm0, hmn, hatm, hk, pair_neq eqt61, woff, wo2, nbeq, h5, hat2, r4, hsy.shr, hsy.notOwn, elP_Sl hsy]
        refine next _ _ (F.of (fun t ht => ?_) ?_)
        · rcases ht with rfl | rfl | rfl | rfl | rfl <;> simp -implicitDefEqProofs (maxDischargeDepth := 4) only [go_sem, ↓reduceIte, Nat.reduceLT, Nat.reduceAdd, Nat.reduceMul, Nat.reduceSub, Nat.reduceEqDiff, Nat.reduceLeDiff, Nat.reduceBEq, reduceCtorEq, Int.reduceLT, Int.reduceLE, Int.reduceEq, Int.reduceNe, Nat.reducePow]
        · simp -implicitDefEqProofs (maxDischargeDepth := 4) only [go_sem, ↓reduceIte, Nat.reduceLT, Nat.reduceAdd, Nat.reduceMul, Nat.reduceSub, Nat.reduceEqDiff, Nat.reduceLeDiff, Nat.reduceBEq, reduceCtorEq, Int.reduceLT, Int.reduceLE, Int.reduceEq, Int.reduceNe, Nat.reducePow]
      · simp -implicitDefEqProofs (maxDischargeDepth := 4) only [go_sem, ↓reduceIte, Nat.reduceLT, Nat.reduceAdd, Nat.reduceMul, Nat.reduceSub, Nat.reduceEqDiff, Nat.reduceLeDiff, Nat.reduceBEq, reduceCtorEq, Int.reduceLT, Int.reduceLE, Int.reduceEq, Int.reduceNe, Nat.reducePow, elAt_eq, stV_eq, cellsB_cells, hp_get_r, hp_get_r0, hp_get_l, hp_set_r, hp_set_r0, hp_set_l, hp_one, hp_ne, List.drop_succ_cons, List.drop_zero, List.take_succ_cons, List.take_zero, F.f2, F.f7, F.f8, F.f9, F.f10, F.f11, hlt, hos.sl.shr, hos.sl.notOwn, hos.sl.shut1, build61a, build61, r1, r2, r3, Nat.zero_le, Nat.le_refl, Nat.not_lt_zero, haty, hw, w3, hm0, hmn, hatm, hk, pair_neq eqt61, woff, wo2, nbeq, h5]
        refine next _ _ (F.of (fun t ht => ?_) ?_)
        · rcases ht with rfl | rfl | rfl | rfl | rfl <;> simp -implicitDefEqProofs (maxDischargeDepth := 4) only [go_sem, ↓reduceIte, Nat.reduceLT, Nat.reduceAdd, Nat.reduceMul, Nat.reduceSub, Nat.reduceEqDiff, Nat.reduceLeDiff, Nat.reduceBEq, reduceCtorEq, Int.reduceLT, Int.reduceLE, Int.reduceEq, Int.reduceNe, Nat.reducePow]
        · simp -implicitDefEqProofs (maxDischargeDepth := 4) only [go_sem, ↓reduceIte, Nat.reduceLT, Nat.reduceAdd, Nat.reduceMul, Nat.reduceSub, Nat.reduceEqDiff, Nat.reduceLeDiff, Nat.reduceBEq, reduceCtorEq, Int.reduceLT, Int.reduceLE, Int.reduceEq, Int.reduceNe, Nat.reducePow]
theorem ways_ok {qs : List Q4} {a : AV} (hq : Sl 4 a (qs.map arV)) (hqo : ∀ q ∈ qs, q.ok) {size off : Int} (hs : 0 ≤ size ∧ size ≤ 255) (ho : 0 ≤ off ∧ off ≤ 65535) : ∃ H', callB cx D 0 9 [a, uv size, .lit (.int .u16 off)] [] = some (bv true, H') := by
  rw [c9]
  by_cases h0 : qs.length = 0
  · have h0' : (qs.length : Int) = 0 := by omega
    simp -implicitDefEqProofs (maxDischargeDepth := 4) only [go_sem, ↓reduceIte, Nat.reduceLT, Nat.reduceAdd, Nat.reduceMul, Nat.reduceSub, Nat.reduceEqDiff, Nat.reduceLeDiff, Nat.reduceBEq, reduceCtorEq, Int.reduceLT, Int.reduceLE, Int.reduceEq, Int.reduceNe, Nat.reducePow, elAt_eq, stV_eq, cellsB_cells, hp_get_r, hp_get_r0, hp_get_l, hp_set_r, hp_set_r0, hp_set_l, hp_one, hp_ne, List.drop_succ_cons, List.drop_zero, List.take_succ_cons, List.take_zero, works_ok, u_not, hq.drp, hq.shr, hq.notOwn, alen_sl hq, List.length_map, h0']
    exact ⟨_, rfl⟩
  · have h0' : ¬ (qs.length : Int) = 0 := by omega
    have hqs : QsOk qs a := ⟨hq, hqo, by omega⟩
    have wsz : wrapK .i64 size = size := wrap_small (by omega) (by omega)
    have h40 : (40 : Int) ≠ 0 := by decide
    have hb0 := Int.tmod_nonneg (a := size) 40 hs.1
    have hb1 := Int.tmod_lt_of_pos size (show (0 : Int) < 40 by decide)
    obtain ⟨n, hn'⟩ : ∃ n : Nat, 1 + size.tmod 40 = n := ⟨(1 + size.tmod 40).toNat, by omega⟩
    have hn : wrapK .i64 (1 + size.tmod 40) = (n : Int) := by rw [wrap_small (by omega) (by omega), hn']
    obtain ⟨os, v, hm, hv, hl, hmd⟩ := made_ok hqs (n := n) (by omega) (by omega)
    have hos : NsOk os v := ⟨hv, fun x hx => (hmd x hx).ok, by omega⟩
    have hmd' : ∀ x ∈ os, Md os.length x := by rw [hl]; exact hmd
    have T := told_chk (by omega) (by omega) hmd'
    have h1 := chk_ok hos
    have hfin := T.fin
    generalize chk os = r at *
    obtain ⟨w, e⟩ := r
    unfold errV at h1
    dsimp only at T h1 hfin
    obtain ⟨FL, hL⟩ := skol (fun (fr : PT) (h : WyFr fr v off os.length w e 0) => ways_loop hos hmd' (by omega) T ho os.length 0 fr (by omega) (by omega) h)
    have c1 : ∀ fr : PT, fr.get 2 = .lit (.int .u16 off) → fr.get 7 = iv n → fr.get 8 = v → fr.get 9 = iv w → fr.get 10 = iv e → fr.get 11 = iv 0 → D.loop 0 9 133 l9_0 fr [] = some (.exit 0, FL fr, []) := fun fr a2 a7 a8 a9 a10 a11 => hL fr ⟨a2, by rw [a7, hl], a8, a9, a10, a11⟩
    rcases hfin with ⟨rfl, rfl⟩ | ⟨rfl, hw⟩
    · simp -implicitDefEqProofs (maxDischargeDepth := 4) only [go_sem, ↓reduceIte, Nat.reduceLT, Nat.reduceAdd, Nat.reduceMul, Nat.reduceSub, Nat.reduceEqDiff, Nat.reduceLeDiff, Nat.reduceBEq, reduceCtorEq, Int.reduceLT, Int.reduceLE, Int.reduceEq, Int.reduceNe, Nat.reducePow, elAt_eq, stV_eq, cellsB_cells, hp_get_r, hp_get_r0, hp_get_l, hp_set_r, hp_set_r0, hp_set_l, hp_one, hp_ne, List.drop_succ_cons, List.drop_zero, List.take_succ_cons, List.take_zero, works_ok, u_not, hq.drp, hq.shr, hq.notOwn, hq.shut1, alen_sl hq, List.length_map, h0', wsz, h40, hn, hm, h1, hos.sl.shr, hos.sl.notOwn, hos.sl.drp, hos.sl.shut1, x_loop, c1]
      exact ⟨_, rfl⟩
    · simp -implicitDefEqProofs (maxDischargeDepth := 4) only [go_sem, ↓reduceIte, Nat.reduceLT, Nat.reduceAdd, Nat.reduceMul, Nat.reduceSub, Nat.reduceEqDiff, Nat.reduceLeDiff, Nat.reduceBEq, reduceCtorEq, Int.reduceLT, Int.reduceLE, Int.reduceEq, Int.reduceNe, Nat.reducePow, elAt_eq, stV_eq, cellsB_cells, hp_get_r, hp_get_r0, hp_get_l, hp_set_r, hp_set_r0, hp_set_l, hp_one, hp_ne, List.drop_succ_cons, List.drop_zero, List.take_succ_cons, List.take_zero, works_ok, u_not, hq.drp, hq.shr, hq.notOwn, hq.shut1, alen_sl hq, List.length_map, h0', wsz, h40, hn, hm, h1, hos.sl.shr, hos.sl.notOwn, hos.sl.drp, hos.sl.shut1, x_loop, c1, hw]
      exact ⟨_, rfl⟩
theorem quads_read {d : Nat} {v : AV} (h : Rdd Go.Proofs.Try.prog (d + 6) 69 [v]) : ∃ qs : List Q4, Sl 4 v (qs.map arV) ∧ ∀ q ∈ qs, q.ok := by
  have hc : Go.Proofs.Try.prog.cellsOf 205 = 4 := by kernel_rfl
  obtain ⟨a, ls, e, _, e1, e2⟩ := rd_slice Go.Proofs.Try.underlying69 h
  cases e
  rw [hc] at e2
  obtain ⟨qs, q1, q2, q3⟩ := map_mem (f := wrapAs Go.Proofs.Try.prog 205) (g := arV) (Q := Q4.ok) (ls := ls) fun y hy => by
    obtain ⟨zs, z1, z2, rfl⟩ := rd_array Go.Proofs.Try.underlying205 (e1 y hy)
    have each : ∀ z ∈ zs, ∃ n : Int, (0 ≤ n ∧ n ≤ 255) ∧ z = [uv n] := fun z hz => by
      obtain ⟨n, w, rfl⟩ := rd_int Go.Proofs.Try.underlying5 (z2 z hz)
      exact ⟨n, Go.bounds_u8 w, rfl⟩
    match zs, z1, each with
    | [a, b, c, d], _, each =>
      obtain ⟨n1, b1, rfl⟩ := each a (by simp)
      obtain ⟨n2, b2, rfl⟩ := each b (by simp)
      obtain ⟨n3, b3, rfl⟩ := each c (by simp)
      obtain ⟨n4, b4, rfl⟩ := each d (by simp)
      exact ⟨⟨n1, n2, n3, n4⟩, by rw [wrap_array Go.Proofs.Try.underlying205]; rfl, ⟨b1, b2, b3, b4⟩⟩
  rw [q3] at e2
  exact ⟨qs, e2, q2⟩
theorem ways_row {v0 v1 v2 : AV} (h0 : Rdd Go.Proofs.Try.prog 20 69 [v0]) (h1 : Rdd Go.Proofs.Try.prog 20 5 [v1]) (h2 : Rdd Go.Proofs.Try.prog 20 70 [v2]) : ∃ H', callB cx D 0 9 [v0, v1, v2] [] = some (bv true, H') := by
  obtain ⟨qs, hq, hqo⟩ := quads_read (d := 14) h0
  obtain ⟨size, w1, e⟩ := rd_int Go.Proofs.Try.underlying5 h1
  cases e
  obtain ⟨off, w2, e⟩ := rd_int Go.Proofs.Try.underlying70 h2
  cases e
  have b1 := Go.bounds_u8 w1
  have b2 := Go.bounds_u16 w2
  exact ways_ok hq hqo b1 b2
end Go.Abs.Tab
