/- The table of actors: where a slot is. -/
import Derived.Test.YtiinagmombigpaaPlayF
import Derived.Test.YtiinagmombigpaaEvS
set_option linter.unusedSimpArgs false
set_option linter.unusedVariables false
set_option linter.unnecessarySimpa false

/- The table of actors: where a slot is. -/
set_option linter.unusedVariables false
namespace Go.Abs.Tab
abbrev iv (n : Int) : AV := .lit (.int .i64 n)
abbrev bv (b : Bool) : AV := .lit (.bool b)
noncomputable abbrev D : Hd := den cx

/-- is a slot live? -/
def liveC (c : List AV) : Bool := match (c[19]? : Option AV) with
  | some (.lit (.bool b)) => b
  | _ => false
def SlotOk (c : List AV) : Prop := c.length = 20 ∧ c[19]? = some (bv (liveC c))
structure TblAt (H : Hp) (b1 b0 : Nat) (sl : List (List AV)) : Prop where
  tb : H[b1]? = some (.cells 1 180 [.agg [.sl b0 20 0 sl.length sl.length]])
  sb : H[b0]? = some (.cells 20 185 (sl.map .agg))
  ne : b0 ≠ b1
  ok : ∀ c ∈ sl, SlotOk c

theorem at_neg {ro : Nat} {H : Hp} {b1 b0 : Nat} {sl : List (List AV)} (h : TblAt H b1 b0 sl) {i : Int} (hi : i < 0) :
    callB cx D ro 109 [.ptr b1 0 0, iv i] H = some (.tup [.lit (.pointer none), iv 24], H) := by
  rw [c109]
  simp -implicitDefEqProofs (maxDischargeDepth := 4) only [go_sem, decide_true, decide_false, beq_self_eq_true, ↓reduceIte, Nat.reduceLT, Nat.reduceAdd, Nat.reduceMul, Nat.reduceSub, Nat.reduceEqDiff, Nat.reduceLeDiff, Nat.reduceBEq, reduceCtorEq, Nat.succ_ne_zero, Bool.not_true, Bool.not_false, Bool.true_eq_false, Bool.false_eq_true, Bool.true_beq, Bool.false_beq, Int.reduceLT, Int.reduceLE, Int.reduceEq, Int.reduceNe, ne_eq, not_false_eq_true, not_true_eq_false, List.getElem?_cons_zero, List.getElem?_cons_succ, List.length_cons, List.length_nil, List.all_cons, List.all_nil, Bool.and_true, Bool.and_self, Bool.true_and, Bool.false_and, Bool.and_false, Bool.or_true, Bool.or_false, Bool.true_or, Bool.false_or, Bool.or_self, List.elem_cons, List.elem_nil, Nat.add_zero, Nat.zero_add, or_self, or_false, false_or, true_or, or_true, and_true, true_and, and_false, false_and, and_self, List.mem_cons, List.not_mem_nil, Nat.reducePow, hi]
theorem at_big {ro : Nat} {H : Hp} {b1 b0 : Nat} {sl : List (List AV)} (h : TblAt H b1 b0 sl) {i : Int} (hi : (sl.length : Int) ≤ i) :
    callB cx D ro 109 [.ptr b1 0 0, iv i] H = some (.tup [.lit (.pointer none), iv 24], H) := by
  have h1 : ¬ i < 0 := by omega
  rw [c109]
  simp -implicitDefEqProofs (maxDischargeDepth := 4) only [go_sem, decide_true, decide_false, beq_self_eq_true, ↓reduceIte, Nat.reduceLT, Nat.reduceAdd, Nat.reduceMul, Nat.reduceSub, Nat.reduceEqDiff, Nat.reduceLeDiff, Nat.reduceBEq, reduceCtorEq, Nat.succ_ne_zero, Bool.not_true, Bool.not_false, Bool.true_eq_false, Bool.false_eq_true, Bool.true_beq, Bool.false_beq, Int.reduceLT, Int.reduceLE, Int.reduceEq, Int.reduceNe, ne_eq, not_false_eq_true, not_true_eq_false, List.getElem?_cons_zero, List.getElem?_cons_succ, List.length_cons, List.length_nil, List.all_cons, List.all_nil, Bool.and_true, Bool.and_self, Bool.true_and, Bool.false_and, Bool.and_false, Bool.or_true, Bool.or_false, Bool.true_or, Bool.false_or, Bool.or_self, List.elem_cons, List.elem_nil, Nat.add_zero, Nat.zero_add, or_self, or_false, false_or, true_or, or_true, and_true, true_and, and_false, false_and, and_self, List.mem_cons, List.not_mem_nil, Nat.reducePow, h1, hi, elAt_of h.tb]
theorem at_in {ro : Nat} {H : Hp} {b1 b0 : Nat} {sl : List (List AV)} (h : TblAt H b1 b0 sl) {n : Nat} (hn : n < sl.length) (hl : sl.length < 2 ^ 62) {c : List AV} (hc : sl[n]? = some c) :
    callB cx D ro 109 [.ptr b1 0 0, iv n] H = some (if liveC c then .tup [.ptr b0 n 0, iv 0] else .tup [.lit (.pointer none), iv 24], H) := by
  have h1 : ¬ (n : Int) < 0 := by omega
  have h2 : ¬ (sl.length : Int) ≤ (n : Int) := by omega
  have e1 : aindexAddr cx.T 178 (.sl b0 20 0 sl.length sl.length) (iv n) = some (.ptr b0 n 0) := by rw [aindexAddr_blk sl178 rfl hn, Nat.zero_add]
  have e2 : elAt H b0 n = some (.agg c) := by rw [elAt_of h.sb, List.getElem?_map, hc]; rfl
  have e3 := (h.ok c (List.mem_of_getElem? hc)).2
  rw [c109]
  cases hlv : liveC c with
  | true =>
    rw [hlv] at e3
    simp -implicitDefEqProofs (maxDischargeDepth := 4) only [go_sem, decide_true, decide_false, beq_self_eq_true, ↓reduceIte, Nat.reduceLT, Nat.reduceAdd, Nat.reduceMul, Nat.reduceSub, Nat.reduceEqDiff, Nat.reduceLeDiff, Nat.reduceBEq, reduceCtorEq, Nat.succ_ne_zero, Bool.not_true, Bool.not_false, Bool.true_eq_false, Bool.false_eq_true, Bool.true_beq, Bool.false_beq, Int.reduceLT, Int.reduceLE, Int.reduceEq, Int.reduceNe, ne_eq, not_false_eq_true, not_true_eq_false, List.getElem?_cons_zero, List.getElem?_cons_succ, List.length_cons, List.length_nil, List.all_cons, List.all_nil, Bool.and_true, Bool.and_self, Bool.true_and, Bool.false_and, Bool.and_false, Bool.or_true, Bool.or_false, Bool.true_or, Bool.false_or, Bool.or_self, List.elem_cons, List.elem_nil, Nat.add_zero, Nat.zero_add, or_self, or_false, false_or, true_or, or_true, and_true, true_and, and_false, false_and, and_self, List.mem_cons, List.not_mem_nil, Nat.reducePow, h1, h2, elAt_of h.tb, e1, e2, e3]
  | false =>
    rw [hlv] at e3
    simp -implicitDefEqProofs (maxDischargeDepth := 4) only [go_sem, decide_true, decide_false, beq_self_eq_true, ↓reduceIte, Nat.reduceLT, Nat.reduceAdd, Nat.reduceMul, Nat.reduceSub, Nat.reduceEqDiff, Nat.reduceLeDiff, Nat.reduceBEq, reduceCtorEq, Nat.succ_ne_zero, Bool.not_true, Bool.not_false, Bool.true_eq_false, Bool.false_eq_true, Bool.true_beq, Bool.false_beq, Int.reduceLT, Int.reduceLE, Int.reduceEq, Int.reduceNe, ne_eq, not_false_eq_true, not_true_eq_false, List.getElem?_cons_zero, List.getElem?_cons_succ, List.length_cons, List.length_nil, List.all_cons, List.all_nil, Bool.and_true, Bool.and_self, Bool.true_and, Bool.false_and, Bool.and_false, Bool.or_true, Bool.or_false, Bool.true_or, Bool.false_or, Bool.or_self, List.elem_cons, List.elem_nil, Nat.add_zero, Nat.zero_add, or_self, or_false, false_or, true_or, or_true, and_true, true_and, and_false, false_and, and_self, List.mem_cons, List.not_mem_nil, Nat.reducePow, h1, h2, elAt_of h.tb, e1, e2, e3]
end Go.Abs.Tab

/- The table of actors: Drop, New. -/
set_option linter.unusedVariables false
namespace Go.Abs.Tab

def zeroC : List AV := [iv 0, iv 0, .lit (.slice none 0 0), iv 0, iv 0, iv 0, iv 0, iv 0, iv 0, iv 0, iv 0, iv 0, iv 0, iv 0, iv 0, iv 0, iv 0, iv 0, iv 0, bv false]
theorem zeroC_ok : SlotOk zeroC := ⟨rfl, rfl⟩
theorem build185 : abuild cx.T 185 [] = some (.agg zeroC) := nr (by kernel_rfl)

theorem drop_none {ro : Nat} {H : Hp} {b1 b0 : Nat} {sl : List (List AV)} (h : TblAt H b1 b0 sl) {i : Int} (hl : sl.length < 2 ^ 62) (hi : i < 0 ∨ (sl.length : Int) ≤ i ∨ ∃ n : Nat, i = n ∧ ∃ c, sl[n]? = some c ∧ liveC c = false) :
    callB cx D ro 36 [.ptr b1 0 0, iv i] H = some (iv 24, H) := by
  have key : callB cx D ro 109 [.ptr b1 0 0, iv i] H = some (.tup [.lit (.pointer none), iv 24], H) := by
    rcases hi with hi | hi | ⟨n, rfl, c, hc, hd⟩
    · exact at_neg h hi
    · exact at_big h hi
    · rw [at_in h (List.getElem?_eq_some_iff.1 hc).1 hl hc, hd]; rfl
  rw [c36]
  simp -implicitDefEqProofs (maxDischargeDepth := 4) only [go_sem, decide_true, decide_false, beq_self_eq_true, ↓reduceIte, Nat.reduceLT, Nat.reduceAdd, Nat.reduceMul, Nat.reduceSub, Nat.reduceEqDiff, Nat.reduceLeDiff, Nat.reduceBEq, reduceCtorEq, Nat.succ_ne_zero, Bool.not_true, Bool.not_false, Bool.true_eq_false, Bool.false_eq_true, Bool.true_beq, Bool.false_beq, Int.reduceLT, Int.reduceLE, Int.reduceEq, Int.reduceNe, ne_eq, not_false_eq_true, not_true_eq_false, List.getElem?_cons_zero, List.getElem?_cons_succ, List.length_cons, List.length_nil, List.all_cons, List.all_nil, Bool.and_true, Bool.and_self, Bool.true_and, Bool.false_and, Bool.and_false, Bool.or_true, Bool.or_false, Bool.true_or, Bool.false_or, Bool.or_self, List.elem_cons, List.elem_nil, Nat.add_zero, Nat.zero_add, or_self, or_false, false_or, true_or, or_true, and_true, true_and, and_false, false_and, and_self, List.mem_cons, List.not_mem_nil, Nat.reducePow, key]
theorem drop_live {ro : Nat} {H : Hp} {b1 b0 : Nat} {sl : List (List AV)} (h : TblAt H b1 b0 sl) (hr : ro ≤ b0) (hl : sl.length < 2 ^ 62) {n : Nat} {c : List AV} (hc : sl[n]? = some c) (hd : liveC c = true) :
    callB cx D ro 36 [.ptr b1 0 0, iv n] H = some (iv 0, H.set b0 (.cells 20 185 ((sl.set n zeroC).map .agg))) := by
  have key : callB cx D ro 109 [.ptr b1 0 0, iv n] H = some (.tup [.ptr b0 n 0, iv 0], H) := by
    rw [at_in h (List.getElem?_eq_some_iff.1 hc).1 hl hc, hd]; rfl
  have e1 : stV ro H true 20 (.ptr b0 n 0) (.agg zeroC) = some (H.set b0 (.cells 20 185 ((sl.set n zeroC).map .agg))) := by
    rw [stV_ptr hr h.sb (by rw [List.getElem?_map, hc]; rfl) (elS_whole (sz := 20) (c := zeroC) rfl (h.ok c (List.mem_of_getElem? hc)).1), List.map_set]
  have e2 : zeroC.map shr = zeroC := rfl
  rw [c36]
  simp -implicitDefEqProofs (maxDischargeDepth := 4) only [go_sem, decide_true, decide_false, beq_self_eq_true, ↓reduceIte, Nat.reduceLT, Nat.reduceAdd, Nat.reduceMul, Nat.reduceSub, Nat.reduceEqDiff, Nat.reduceLeDiff, Nat.reduceBEq, reduceCtorEq, Nat.succ_ne_zero, Bool.not_true, Bool.not_false, Bool.true_eq_false, Bool.false_eq_true, Bool.true_beq, Bool.false_beq, Int.reduceLT, Int.reduceLE, Int.reduceEq, Int.reduceNe, ne_eq, not_false_eq_true, not_true_eq_false, List.getElem?_cons_zero, List.getElem?_cons_succ, List.length_cons, List.length_nil, List.all_cons, List.all_nil, Bool.and_true, Bool.and_self, Bool.true_and, Bool.false_and, Bool.and_false, Bool.or_true, Bool.or_false, Bool.true_or, Bool.false_or, Bool.or_self, List.elem_cons, List.elem_nil, Nat.add_zero, Nat.zero_add, or_self, or_false, false_or, true_or, or_true, and_true, true_and, and_false, false_and, and_self, List.mem_cons, List.not_mem_nil, Nat.reducePow, key, build185, e1, e2]

theorem build180 (b s i l c : Nat) : abuild cx.T 180 [(0, .sl b s i l c)] = some (.agg [.sl b s i l c]) := nr (by kernel_rfl)
theorem new_ok {ro : Nat} {H : Hp} {n : Nat} (hr : ro ≤ H.length) (h1 : 1 ≤ n) (h2 : n ≤ 32) :
    callB cx D ro 34 [iv n] H = some (.ptr (H.length + 1) 0 0, H ++ [.cells 20 185 (List.replicate n (.agg zeroC)), .cells 1 180 [.agg [.sl H.length 20 0 n n]]]) := by
  have e1 : ¬ (n : Int) < 1 := by omega
  have e2 : ¬ 32 < (n : Int) := by omega
  have e3 : n * 177 ≤ 1099511627776 := by omega
  have e4 : ∀ k, ro ≤ H.length + k := fun k => by omega
  rw [c34]
  simp -implicitDefEqProofs (maxDischargeDepth := 4) only [go_sem, decide_true, decide_false, beq_self_eq_true, ↓reduceIte, Nat.reduceLT, Nat.reduceAdd, Nat.reduceMul, Nat.reduceSub, Nat.reduceEqDiff, Nat.reduceLeDiff, Nat.reduceBEq, reduceCtorEq, Nat.succ_ne_zero, Bool.not_true, Bool.not_false, Bool.true_eq_false, Bool.false_eq_true, Bool.true_beq, Bool.false_beq, Int.reduceLT, Int.reduceLE, Int.reduceEq, Int.reduceNe, ne_eq, not_false_eq_true, not_true_eq_false, List.getElem?_cons_zero, List.getElem?_cons_succ, List.length_cons, List.length_nil, List.all_cons, List.all_nil, Bool.and_true, Bool.and_self, Bool.true_and, Bool.false_and, Bool.and_false, Bool.or_true, Bool.or_false, Bool.true_or, Bool.false_or, Bool.or_self, List.elem_cons, List.elem_nil, Nat.add_zero, Nat.zero_add, or_self, or_false, false_or, true_or, or_true, and_true, true_and, and_false, false_and, and_self, List.mem_cons, List.not_mem_nil, Nat.reducePow, e1, e2, e3, build180, hr, e4, zeroC]
theorem all_ok {ro : Nat} {H : Hp} {b1 : Nat} {l : Bool} (hr : ro ≤ H.length) :
    callB cx D ro 108 [.ptr b1 0 0, bv l] H = some (.fn 150 [.ptr H.length 0 0, .ptr (H.length + 1) 0 0], H ++ [.cells 1 24 [.ptr b1 0 0], .cells 1 4 [bv l]]) := by
  have e4 : ∀ k, ro ≤ H.length + k := fun k => by omega
  rw [c108]
  simp -implicitDefEqProofs (maxDischargeDepth := 4) only [go_sem, decide_true, decide_false, beq_self_eq_true, ↓reduceIte, Nat.reduceLT, Nat.reduceAdd, Nat.reduceMul, Nat.reduceSub, Nat.reduceEqDiff, Nat.reduceLeDiff, Nat.reduceBEq, reduceCtorEq, Nat.succ_ne_zero, Bool.not_true, Bool.not_false, Bool.true_eq_false, Bool.false_eq_true, Bool.true_beq, Bool.false_beq, Int.reduceLT, Int.reduceLE, Int.reduceEq, Int.reduceNe, ne_eq, not_false_eq_true, not_true_eq_false, List.getElem?_cons_zero, List.getElem?_cons_succ, List.length_cons, List.length_nil, List.all_cons, List.all_nil, Bool.and_true, Bool.and_self, Bool.true_and, Bool.false_and, Bool.and_false, Bool.or_true, Bool.or_false, Bool.true_or, Bool.false_or, Bool.or_self, List.elem_cons, List.elem_nil, Nat.add_zero, Nat.zero_add, or_self, or_false, false_or, true_or, or_true, and_true, true_and, and_false, false_and, and_self, List.mem_cons, List.not_mem_nil, Nat.reducePow, hr, e4]
end Go.Abs.Tab

/- The table of actors: its slots, one by one (all). -/
set_option linter.unusedVariables false
namespace Go.Abs.Tab

structure AllCtx (G : Hp) (pb qb b1 b0 : Nat) (sl : List (List AV)) (want : Bool) : Prop extends TblAt G b1 b0 sl where
  ht : G[pb]? = some (.cells 1 24 [.ptr b1 0 0])
  hl : G[qb]? = some (.cells 1 4 [bv want])
structure AllFr (fr : PT) (l pb qb len i : Nat) : Prop where
  f0 : fr.get 0 = .yld l
  f1 : fr.get 1 = .ptr pb 0 0
  f2 : fr.get 2 = .ptr qb 0 0
  f9 : fr.get 9 = iv len
  f10 : fr.get 10 = iv i

section
variable {ro l pb qb b1 b0 : Nat} {G : Hp} {sl : List (List AV)} {want : Bool}
theorem all_end (C : AllCtx G pb qb b1 b0 sl want) {fr : PT} (F : AllFr fr l pb qb sl.length sl.length) : ∃ fr', D.loop ro 150 30 l150_0 fr G = some (.exit 0, fr', G) := by
  have hn : ¬ ((sl.length : Int) < (sl.length : Int)) := by omega
  rw [dl150_0]
  simp -implicitDefEqProofs (maxDischargeDepth := 4) only [go_sem, decide_true, decide_false, beq_self_eq_true, ↓reduceIte, Nat.reduceLT, Nat.reduceAdd, Nat.reduceMul, Nat.reduceSub, Nat.reduceEqDiff, Nat.reduceLeDiff, Nat.reduceBEq, reduceCtorEq, Nat.succ_ne_zero, Bool.not_true, Bool.not_false, Bool.true_eq_false, Bool.false_eq_true, Bool.true_beq, Bool.false_beq, Int.reduceLT, Int.reduceLE, Int.reduceEq, Int.reduceNe, ne_eq, not_false_eq_true, not_true_eq_false, List.getElem?_cons_zero, List.getElem?_cons_succ, List.length_cons, List.length_nil, List.all_cons, List.all_nil, Bool.and_true, Bool.and_self, Bool.true_and, Bool.false_and, Bool.and_false, Bool.or_true, Bool.or_false, Bool.true_or, Bool.false_or, Bool.or_self, List.elem_cons, List.elem_nil, Nat.add_zero, Nat.zero_add, or_self, or_false, false_or, true_or, or_true, and_true, true_and, and_false, false_and, and_self, List.mem_cons, List.not_mem_nil, Nat.reducePow, F.f9, F.f10, hn]
  exact ⟨_, rfl⟩

theorem all_no (C : AllCtx G pb qb b1 b0 sl want) (hl : sl.length < 2 ^ 62) {fr : PT} {i : Nat} (F : AllFr fr l pb qb sl.length i) (hi : i < sl.length) {c : List AV} (hc : sl[i]? = some c) (hw : liveC c ≠ want) {P : Option Res → Prop}
    (hX : ∀ fr', AllFr fr' l pb qb sl.length (i + 1) → P (D.loop ro 150 30 l150_0 fr' G)) : P (D.loop ro 150 30 l150_0 fr G) := by
  have hn : ((i : Int) < (sl.length : Int)) := by omega
  have e1 : aindexAddr cx.T 178 (.sl b0 20 0 sl.length sl.length) (iv i) = some (.ptr b0 i 0) := by rw [aindexAddr_blk sl178 rfl hi, Nat.zero_add]
  have e2 : elAt G b0 i = some (.agg c) := by rw [elAt_of C.sb, List.getElem?_map, hc]; rfl
  have e3 := (C.ok c (List.mem_of_getElem? hc)).2
  have e4 : (liveC c == want) = false := by simpa using hw
  have e5 : wrapK .i64 ((i : Int) + 1) = ((i + 1 : Nat) : Int) := by rw [wrapK_i64 (by omega) (by omega)]; rfl
  rw [dl150_0]
  simp -implicitDefEqProofs (maxDischargeDepth := 4) only [go_sem, decide_true, decide_false, beq_self_eq_true, ↓reduceIte, Nat.reduceLT, Nat.reduceAdd, Nat.reduceMul, Nat.reduceSub, Nat.reduceEqDiff, Nat.reduceLeDiff, Nat.reduceBEq, reduceCtorEq, Nat.succ_ne_zero, Bool.not_true, Bool.not_false, Bool.true_eq_false, Bool.false_eq_true, Bool.true_beq, Bool.false_beq, Int.reduceLT, Int.reduceLE, Int.reduceEq, Int.reduceNe, ne_eq, not_false_eq_true, not_true_eq_false, List.getElem?_cons_zero, List.getElem?_cons_succ, List.length_cons, List.length_nil, List.all_cons, List.all_nil, Bool.and_true, Bool.and_self, Bool.true_and, Bool.false_and, Bool.and_false, Bool.or_true, Bool.or_false, Bool.true_or, Bool.false_or, Bool.or_self, List.elem_cons, List.elem_nil, Nat.add_zero, Nat.zero_add, or_self, or_false, false_or, true_or, or_true, and_true, true_and, and_false, false_and, and_self, List.mem_cons, List.not_mem_nil, Nat.reducePow, F.f0, F.f1, F.f2, F.f9, F.f10, hn, elAt_of C.ht, elAt_of C.hl, elAt_of C.tb, e1, e2, e3, e4, e5]
  refine hX _ ?_
  constructor <;> simp -implicitDefEqProofs (maxDischargeDepth := 4) only [go_sem, decide_true, decide_false, beq_self_eq_true, ↓reduceIte, Nat.reduceLT, Nat.reduceAdd, Nat.reduceMul, Nat.reduceSub, Nat.reduceEqDiff, Nat.reduceLeDiff, Nat.reduceBEq, reduceCtorEq, Nat.succ_ne_zero, Bool.not_true, Bool.not_false, Bool.true_eq_false, Bool.false_eq_true, Bool.true_beq, Bool.false_beq, Int.reduceLT, Int.reduceLE, Int.reduceEq, Int.reduceNe, ne_eq, not_false_eq_true, not_true_eq_false, List.getElem?_cons_zero, List.getElem?_cons_succ, List.length_cons, List.length_nil, List.all_cons, List.all_nil, Bool.and_true, Bool.and_self, Bool.true_and, Bool.false_and, Bool.and_false, Bool.or_true, Bool.or_false, Bool.true_or, Bool.false_or, Bool.or_self, List.elem_cons, List.elem_nil, Nat.add_zero, Nat.zero_add, or_self, or_false, false_or, true_or, or_true, and_true, true_and, and_false, false_and, and_self, List.mem_cons, List.not_mem_nil, Nat.reducePow, F.f0, F.f1, F.f2, F.f9, F.f10]

theorem all_yes (C : AllCtx G pb qb b1 b0 sl want) (hl : sl.length < 2 ^ 62) {fr : PT} {i : Nat} (F : AllFr fr l pb qb sl.length i) (hi : i < sl.length) {c : List AV} (hc : sl[i]? = some c) (hw : liveC c = want) {G' : Hp}
    (hr : round D ro l [iv i] G = some (bv true, G')) {P : Option Res → Prop} (hX : ∀ fr', AllFr fr' l pb qb sl.length (i + 1) → P (trimmed (D.loop ro 150 30 l150_0) G.length fr' G')) : P (D.loop ro 150 30 l150_0 fr G) := by
  have hn : ((i : Int) < (sl.length : Int)) := by omega
  have e1 : aindexAddr cx.T 178 (.sl b0 20 0 sl.length sl.length) (iv i) = some (.ptr b0 i 0) := by rw [aindexAddr_blk sl178 rfl hi, Nat.zero_add]
  have e2 : elAt G b0 i = some (.agg c) := by rw [elAt_of C.sb, List.getElem?_map, hc]; rfl
  have e3 := (C.ok c (List.mem_of_getElem? hc)).2
  have e4 : (liveC c == want) = true := by simpa using hw
  have e5 : wrapK .i64 ((i : Int) + 1) = ((i + 1 : Nat) : Int) := by rw [wrapK_i64 (by omega) (by omega)]; rfl
  rw [dl150_0]
  simp -implicitDefEqProofs (maxDischargeDepth := 4) only [go_sem, decide_true, decide_false, beq_self_eq_true, ↓reduceIte, Nat.reduceLT, Nat.reduceAdd, Nat.reduceMul, Nat.reduceSub, Nat.reduceEqDiff, Nat.reduceLeDiff, Nat.reduceBEq, reduceCtorEq, Nat.succ_ne_zero, Bool.not_true, Bool.not_false, Bool.true_eq_false, Bool.false_eq_true, Bool.true_beq, Bool.false_beq, Int.reduceLT, Int.reduceLE, Int.reduceEq, Int.reduceNe, ne_eq, not_false_eq_true, not_true_eq_false, List.getElem?_cons_zero, List.getElem?_cons_succ, List.length_cons, List.length_nil, List.all_cons, List.all_nil, Bool.and_true, Bool.and_self, Bool.true_and, Bool.false_and, Bool.and_false, Bool.or_true, Bool.or_false, Bool.true_or, Bool.false_or, Bool.or_self, List.elem_cons, List.elem_nil, Nat.add_zero, Nat.zero_add, or_self, or_false, false_or, true_or, or_true, and_true, true_and, and_false, false_and, and_self, List.mem_cons, List.not_mem_nil, Nat.reducePow, F.f0, F.f1, F.f2, F.f9, F.f10, hn, elAt_of C.ht, elAt_of C.hl, elAt_of C.tb, e1, e2, e3, e4, e5, hr]
  refine hX _ ?_
  constructor <;> simp -implicitDefEqProofs (maxDischargeDepth := 4) only [go_sem, decide_true, decide_false, beq_self_eq_true, ↓reduceIte, Nat.reduceLT, Nat.reduceAdd, Nat.reduceMul, Nat.reduceSub, Nat.reduceEqDiff, Nat.reduceLeDiff, Nat.reduceBEq, reduceCtorEq, Nat.succ_ne_zero, Bool.not_true, Bool.not_false, Bool.true_eq_false, Bool.false_eq_true, Bool.true_beq, Bool.false_beq, Int.reduceLT, Int.reduceLE, Int.reduceEq, Int.reduceNe, ne_eq, not_false_eq_true, not_true_eq_false, List.getElem?_cons_zero, List.getElem?_cons_succ, List.length_cons, List.length_nil, List.all_cons, List.all_nil, Bool.and_true, Bool.and_self, Bool.true_and, Bool.false_and, Bool.and_false, Bool.or_true, Bool.or_false, Bool.true_or, Bool.false_or, Bool.or_self, List.elem_cons, List.elem_nil, Nat.add_zero, Nat.zero_add, or_self, or_false, false_or, true_or, or_true, and_true, true_and, and_false, false_and, and_self, List.mem_cons, List.not_mem_nil, Nat.reducePow, F.f0, F.f1, F.f2, F.f9, F.f10]

theorem all_stop (C : AllCtx G pb qb b1 b0 sl want) (hl : sl.length < 2 ^ 62) {fr : PT} {i : Nat} (F : AllFr fr l pb qb sl.length i) (hi : i < sl.length) {c : List AV} (hc : sl[i]? = some c) (hw : liveC c = want) {G' : Hp}
    (hr : round D ro l [iv i] G = some (bv false, G')) : ∃ fr', D.loop ro 150 30 l150_0 fr G = some (.ret, fr', G') := by
  have hn : ((i : Int) < (sl.length : Int)) := by omega
  have e1 : aindexAddr cx.T 178 (.sl b0 20 0 sl.length sl.length) (iv i) = some (.ptr b0 i 0) := by rw [aindexAddr_blk sl178 rfl hi, Nat.zero_add]
  have e2 : elAt G b0 i = some (.agg c) := by rw [elAt_of C.sb, List.getElem?_map, hc]; rfl
  have e3 := (C.ok c (List.mem_of_getElem? hc)).2
  have e4 : (liveC c == want) = true := by simpa using hw
  rw [dl150_0]
  simp -implicitDefEqProofs (maxDischargeDepth := 4) only [go_sem, decide_true, decide_false, beq_self_eq_true, ↓reduceIte, Nat.reduceLT, Nat.reduceAdd, Nat.reduceMul, Nat.reduceSub, Nat.reduceEqDiff, Nat.reduceLeDiff, Nat.reduceBEq, reduceCtorEq, Nat.succ_ne_zero, Bool.not_true, Bool.not_false, Bool.true_eq_false, Bool.false_eq_true, Bool.true_beq, Bool.false_beq, Int.reduceLT, Int.reduceLE, Int.reduceEq, Int.reduceNe, ne_eq, not_false_eq_true, not_true_eq_false, List.getElem?_cons_zero, List.getElem?_cons_succ, List.length_cons, List.length_nil, List.all_cons, List.all_nil, Bool.and_true, Bool.and_self, Bool.true_and, Bool.false_and, Bool.and_false, Bool.or_true, Bool.or_false, Bool.true_or, Bool.false_or, Bool.or_self, List.elem_cons, List.elem_nil, Nat.add_zero, Nat.zero_add, or_self, or_false, false_or, true_or, or_true, and_true, true_and, and_false, false_and, and_self, List.mem_cons, List.not_mem_nil, Nat.reducePow, F.f0, F.f1, F.f2, F.f9, F.f10, hn, elAt_of C.ht, elAt_of C.hl, elAt_of C.tb, e1, e2, e3, e4, hr]
  exact ⟨_, rfl⟩
end
end Go.Abs.Tab

/- The table of actors: Add. -/
set_option linter.unusedVariables false
namespace Go.Abs.Tab

/-- a new slot's cells, ahead of the registers that are handed in -/
def baseC (t : Int) : List AV := [iv t, iv 0, .lit (.slice none 0 0), iv 0, iv 0, iv 0, iv 0, iv 0, iv 0, iv 0, iv 0, iv 0, iv 0, iv 0, iv 0, iv 0, iv 0, iv 0, iv 0, bv true]
def newC (t : Int) (xs : List Int) : List AV := (baseC t).take 3 ++ xs.map iv ++ (baseC t).drop (3 + xs.length)
theorem newC_len {t : Int} {xs : List Int} (h : xs.length ≤ 16) : (newC t xs).length = 20 := by
  simp only [newC, List.length_append, List.length_map, List.length_take, List.length_drop]
  have : (baseC t).length = 20 := rfl
  omega
theorem newC_live {t : Int} {xs : List Int} (h : xs.length ≤ 16) : (newC t xs)[19]? = some (bv true) := by
  have h1 : ((baseC t).take 3 ++ xs.map iv).length = 3 + xs.length := by simp [baseC]; omega
  rw [newC, List.getElem?_append_right (by omega), h1, List.getElem?_drop]
  have : 3 + xs.length + (19 - (3 + xs.length)) = 19 := by omega
  rw [this]; rfl
theorem newC_ok {t : Int} {xs : List Int} (h : xs.length ≤ 16) : SlotOk (newC t xs) ∧ liveC (newC t xs) = true := by
  have h1 : liveC (newC t xs) = true := by simp [liveC, newC_live h]
  exact ⟨⟨newC_len h, by rw [h1]; exact newC_live h⟩, h1⟩

theorem cells_iv (xs : List Int) : (xs.map iv).flatMap cellsOf = xs.map iv := by
  induction xs with
  | nil => rfl
  | cons a l ih => simp only [List.map_cons, List.flatMap_cons, ih]; rfl
theorem build185t : abuild cx.T 185 [(1, .lit (.bool true))] = some (.agg (zeroC.take 19 ++ [bv true])) := nr (by kernel_rfl)

/-- the heap of Add behind H: its boxes -/
def addL (b1 : Nat) (t : Int) (rg r1 r2 : AV) : List ABlock := [.cells 1 24 [.ptr b1 0 0], .cells 1 3 [iv t], .cells 1 39 [rg], .cells 1 3 [r1], .cells 1 27 [r2], .cells 1 24 [.ptr b1 0 0], .cells 1 4 [bv false]]

theorem add_body {ro n b1 b0 k : Nat} {H : Hp} {sl : List (List AV)} (T : TblAt H b1 b0 sl) (hn : H.length = n) (hr : ro ≤ b0) (hrn : ro ≤ n) {t : Int} {rg : AV} {xs : List Int} (hs : Sl 1 rg (xs.map iv)) (hx : xs.length ≤ 16) (hk : k < sl.length) {fr : PT} {r0 : ALoop}
    (f3 : fr.get 3 = .ptr n 0 0) (f4 : fr.get 4 = .ptr (n + 1) 0 0) (f5 : fr.get 5 = .ptr (n + 2) 0 0) (f6 : fr.get 6 = .ptr (n + 3) 0 0) (f7 : fr.get 7 = .ptr (n + 4) 0 0) (f8 : fr.get 8 = iv k) :
    ∃ fr', ex cx (den cx) ro 35 35 r35_0 fr (H ++ (addL b1 t rg (iv 0) (iv 0) ++ [.loop r0])) = some (.ret, fr', H.set b0 (.cells 20 185 ((sl.set k (newC t xs)).map .agg)) ++ (addL b1 t rg (iv k) (iv 0) ++ [.loop r0, .cells 20 185 [.agg (newC t xs)]])) := by
  have hb0 : b0 < H.length := lt_of_get T.sb
  have hb1 : b1 < H.length := lt_of_get T.tb
  have c1 : ∀ j, ro ≤ n + j := fun j => by omega
  have c2 : ∀ j, ¬ (n + j < ro) := fun j => by omega
  have e1 := hs.items
  have e2 : (xs.map iv).all (fit T2) = true := by
    rw [List.all_eq_true]; intro x hx'; rw [List.mem_map] at hx'; obtain ⟨m, _, rfl⟩ := hx'; rfl
  have e3 : cpA 3 1 16 (xs.map iv) true (.agg (baseC t)) = some (.agg (newC t xs)) := by
    have h1 : min (xs.map iv).length 16 = xs.length := by simp; omega
    have h2 : (baseC t).length = 20 := rfl
    have h3 := cells_iv xs
    have h4 : (xs.map iv).take xs.length = xs.map iv := List.take_of_length_le (by simp)
    simp only [cpA, h1, h2, Nat.mul_one]
    rw [if_pos ⟨by omega, trivial⟩, h4, h3]
    simp only [newC, List.append_assoc]
  have e4 : min (xs.map iv).length 16 = xs.length := by simp; omega
  have e5 := hs.rdOf
  simp only [baseC, iv, bv] at e3
  have e6 : ∀ L : Hp, (H ++ L)[b1]? = some (.cells 1 180 [.agg [.sl b0 20 0 sl.length sl.length]]) := fun L => by rw [hp_get_l hb1, T.tb]
  have e7 : aindexAddr cx.T 178 (.sl b0 20 0 sl.length sl.length) (iv k) = some (.ptr b0 k 0) := by rw [aindexAddr_blk sl178 rfl hk, Nat.zero_add]
  have hk' : sl[k]? = some sl[k] := List.getElem?_eq_getElem hk
  have e8 : ∀ L : Hp, (H ++ L)[b0]? = some (.cells 20 185 (sl.map .agg)) := fun L => by rw [hp_get_l hb0, T.sb]
  have e8a : ¬ (b0 < ro) := by omega
  have e8b : (sl.map AV.agg)[k]? = some (.agg sl[k]) := by rw [List.getElem?_map, hk']; rfl
  have e8c : elS true 20 (.agg sl[k]) 0 (.agg (newC t xs)) = some (.agg (newC t xs)) := elS_whole (newC_len hx) (T.ok _ (List.mem_of_getElem? hk')).1
  have e8d : (newC t xs).take 20 = newC t xs := List.take_of_length_le (by rw [newC_len hx]; exact Nat.le_refl _)
  have e8e : ∀ (L : Hp) (x : ABlock), (H ++ L).set b0 x = H.set b0 x ++ L := fun L x => hp_set_l hb0
  have e8f : (sl.map AV.agg).set k (.agg (newC t xs)) = (sl.set k (newC t xs)).map .agg := (List.map_set).symm
  have e9 : (newC t xs).length = 20 := newC_len hx
  have e10 : (newC t xs).map shr = newC t xs := by
    simp only [newC, List.map_append, List.map_map, List.map_take, List.map_drop]
    rfl
  have e11 : (H.set b0 (.cells 20 185 ((sl.set k (newC t xs)).map .agg))).length = n := by rw [List.length_set, hn]
  unfold r35_0 addL
  simp -implicitDefEqProofs (maxDischargeDepth := 4) only [go_sem, decide_true, decide_false, beq_self_eq_true, ↓reduceIte, Nat.reduceLT, Nat.reduceAdd, Nat.reduceMul, Nat.reduceSub, Nat.reduceEqDiff, Nat.reduceLeDiff, Nat.reduceBEq, reduceCtorEq, Nat.succ_ne_zero, Bool.not_true, Bool.not_false, Bool.true_eq_false, Bool.false_eq_true, Bool.true_beq, Bool.false_beq, Int.reduceLT, Int.reduceLE, Int.reduceEq, Int.reduceNe, ne_eq, not_false_eq_true, not_true_eq_false, List.getElem?_cons_zero, List.getElem?_cons_succ, List.length_cons, List.length_nil, List.all_cons, List.all_nil, Bool.and_true, Bool.and_self, Bool.true_and, Bool.false_and, Bool.and_false, Bool.or_true, Bool.or_false, Bool.true_or, Bool.false_or, Bool.or_self, List.elem_cons, List.elem_nil, Nat.add_zero, Nat.zero_add, or_self, or_false, false_or, true_or, or_true, and_true, true_and, and_false, false_and, and_self, List.mem_cons, List.not_mem_nil, Nat.reducePow, elAt_eq, stV_eq, cellsB_cells, hp_get_r, hp_get_r0, hp_get_l, hp_set_r, hp_set_r0, hp_set_l, hp_one, hp_ne, List.drop_succ_cons, List.drop_zero, List.take_succ_cons, List.take_zero, f3, f4, f5, f6, f7, f8, build185t, zeroC, hn, hrn, c1, c2, hs.shr, hs.notOwn, elP_Sl hs, e1, e2, e3, e4, e5, e6, e7, e8, e8a, e8b, e8c, e8d, e8e, e8f, e9, e10, e11]
  exact ⟨_, rfl⟩
end Go.Abs.Tab

/- The table of actors: Add, as a whole. -/
set_option linter.unusedVariables false
namespace Go.Abs.Tab

section
variable {ro l pb qb b1 b0 : Nat} {G : Hp} {sl : List (List AV)} {want : Bool}
theorem all_first (C : AllCtx G pb qb b1 b0 sl want) (hl : sl.length < 2 ^ 62) {k : Nat} (hk : k ≤ sl.length) {P : Option Res → Prop}
    (hX : ∀ fr', AllFr fr' l pb qb sl.length k → P (D.loop ro 150 30 l150_0 fr' G)) :
    ∀ (d i : Nat), i + d = k → (∀ j c, i ≤ j → j < k → sl[j]? = some c → liveC c ≠ want) → ∀ fr, AllFr fr l pb qb sl.length i → P (D.loop ro 150 30 l150_0 fr G) := by
  intro d
  induction d with
  | zero => intro i hi _ fr F; rw [Nat.add_zero] at hi; subst hi; exact hX fr F
  | succ d ih =>
    intro i hi hw fr F
    have hi' : i < sl.length := by omega
    exact all_no C hl F hi' (List.getElem?_eq_getElem hi') (hw i _ (Nat.le_refl _) (by omega) (List.getElem?_eq_getElem hi')) fun fr' F' => ih (i + 1) (by omega) (fun j c h1 h2 => hw j c (by omega) h2) fr' F'

/-- the iterator, from its start to its loop -/
theorem all_start (C : AllCtx G pb qb b1 b0 sl want) {X : Option (AV × Hp)}
    (hX : ∀ fr', AllFr fr' l pb qb sl.length 0 → returned cx [] (xbind (D.loop ro 150 30 l150_0 fr' G) (outB 0)) = X) : callB cx D ro 150 [.yld l, .ptr pb 0 0, .ptr qb 0 0] G = X := by
  rw [c150]
  simp -implicitDefEqProofs (maxDischargeDepth := 4) only [go_sem, decide_true, decide_false, beq_self_eq_true, ↓reduceIte, Nat.reduceLT, Nat.reduceAdd, Nat.reduceMul, Nat.reduceSub, Nat.reduceEqDiff, Nat.reduceLeDiff, Nat.reduceBEq, reduceCtorEq, Nat.succ_ne_zero, Bool.not_true, Bool.not_false, Bool.true_eq_false, Bool.false_eq_true, Bool.true_beq, Bool.false_beq, Int.reduceLT, Int.reduceLE, Int.reduceEq, Int.reduceNe, ne_eq, not_false_eq_true, not_true_eq_false, List.getElem?_cons_zero, List.getElem?_cons_succ, List.length_cons, List.length_nil, List.all_cons, List.all_nil, Bool.and_true, Bool.and_self, Bool.true_and, Bool.false_and, Bool.and_false, Bool.or_true, Bool.or_false, Bool.true_or, Bool.false_or, Bool.or_self, List.elem_cons, List.elem_nil, Nat.add_zero, Nat.zero_add, or_self, or_false, false_or, true_or, or_true, and_true, true_and, and_false, false_and, and_self, List.mem_cons, List.not_mem_nil, Nat.reducePow, elAt_of C.ht, elAt_of C.tb]
  rw [x_loop]
  refine hX _ ?_
  constructor <;> simp -implicitDefEqProofs (maxDischargeDepth := 4) only [go_sem, decide_true, decide_false, beq_self_eq_true, ↓reduceIte, Nat.reduceLT, Nat.reduceAdd, Nat.reduceMul, Nat.reduceSub, Nat.reduceEqDiff, Nat.reduceLeDiff, Nat.reduceBEq, reduceCtorEq, Nat.succ_ne_zero, Bool.not_true, Bool.not_false, Bool.true_eq_false, Bool.false_eq_true, Bool.true_beq, Bool.false_beq, Int.reduceLT, Int.reduceLE, Int.reduceEq, Int.reduceNe, ne_eq, not_false_eq_true, not_true_eq_false, List.getElem?_cons_zero, List.getElem?_cons_succ, List.length_cons, List.length_nil, List.all_cons, List.all_nil, Bool.and_true, Bool.and_self, Bool.true_and, Bool.false_and, Bool.and_false, Bool.or_true, Bool.or_false, Bool.true_or, Bool.false_or, Bool.or_self, List.elem_cons, List.elem_nil, Nat.add_zero, Nat.zero_add, or_self, or_false, false_or, true_or, or_true, and_true, true_and, and_false, false_and, and_self, List.mem_cons, List.not_mem_nil, Nat.reducePow, Int.ofNat_zero]
end

theorem all_ret {ro l pb qb b1 b0 : Nat} {G G' : Hp} {sl : List (List AV)} {want : Bool} (C : AllCtx G pb qb b1 b0 sl want) (hl : sl.length < 2 ^ 62) {k : Nat} (hk : k < sl.length)
    (hw : ∀ (j : Nat) (c : List AV), j < k → sl[j]? = some c → liveC c ≠ want) {c : List AV} (hc : sl[k]? = some c) (hy : liveC c = want) (hr : round D ro l [iv k] G = some (bv false, G')) :
    callB cx D ro 150 [.yld l, .ptr pb 0 0, .ptr qb 0 0] G = some (.tup [], G') := by
  refine all_start C fun fr F => ?_
  have : ∃ fr', D.loop ro 150 30 l150_0 fr G = some (.ret, fr', G') :=
    all_first (P := fun o => ∃ fr', o = some (.ret, fr', G')) C hl (Nat.le_of_lt hk) (fun fr' F' => all_stop C hl F' hk hc hy hr) k 0 (by omega) (fun j c _ h => hw j c h) fr F
  obtain ⟨fr', h⟩ := this
  rw [h]
  simp -implicitDefEqProofs (maxDischargeDepth := 4) only [go_sem, decide_true, decide_false, beq_self_eq_true, ↓reduceIte, Nat.reduceLT, Nat.reduceAdd, Nat.reduceMul, Nat.reduceSub, Nat.reduceEqDiff, Nat.reduceLeDiff, Nat.reduceBEq, reduceCtorEq, Nat.succ_ne_zero, Bool.not_true, Bool.not_false, Bool.true_eq_false, Bool.false_eq_true, Bool.true_beq, Bool.false_beq, Int.reduceLT, Int.reduceLE, Int.reduceEq, Int.reduceNe, ne_eq, not_false_eq_true, not_true_eq_false, List.getElem?_cons_zero, List.getElem?_cons_succ, List.length_cons, List.length_nil, List.all_cons, List.all_nil, Bool.and_true, Bool.and_self, Bool.true_and, Bool.false_and, Bool.and_false, Bool.or_true, Bool.or_false, Bool.true_or, Bool.false_or, Bool.or_self, List.elem_cons, List.elem_nil, Nat.add_zero, Nat.zero_add, or_self, or_false, false_or, true_or, or_true, and_true, true_and, and_false, false_and, and_self, List.mem_cons, List.not_mem_nil, Nat.reducePow]
theorem all_done {ro l pb qb b1 b0 : Nat} {G : Hp} {sl : List (List AV)} {want : Bool} (C : AllCtx G pb qb b1 b0 sl want) (hl : sl.length < 2 ^ 62)
    (hw : ∀ (j : Nat) (c : List AV), sl[j]? = some c → liveC c ≠ want) :
    callB cx D ro 150 [.yld l, .ptr pb 0 0, .ptr qb 0 0] G = some (.tup [], G) := by
  refine all_start C fun fr F => ?_
  have : ∃ fr', D.loop ro 150 30 l150_0 fr G = some (.exit 0, fr', G) :=
    all_first (P := fun o => ∃ fr', o = some (.exit 0, fr', G)) C hl (Nat.le_refl _) (fun fr' F' => all_end C F') sl.length 0 (by omega) (fun j c _ _ h => hw j c h) fr F
  obtain ⟨fr', h⟩ := this
  rw [h]
  simp -implicitDefEqProofs (maxDischargeDepth := 4) only [go_sem, decide_true, decide_false, beq_self_eq_true, ↓reduceIte, Nat.reduceLT, Nat.reduceAdd, Nat.reduceMul, Nat.reduceSub, Nat.reduceEqDiff, Nat.reduceLeDiff, Nat.reduceBEq, reduceCtorEq, Nat.succ_ne_zero, Bool.not_true, Bool.not_false, Bool.true_eq_false, Bool.false_eq_true, Bool.true_beq, Bool.false_beq, Int.reduceLT, Int.reduceLE, Int.reduceEq, Int.reduceNe, ne_eq, not_false_eq_true, not_true_eq_false, List.getElem?_cons_zero, List.getElem?_cons_succ, List.length_cons, List.length_nil, List.all_cons, List.all_nil, Bool.and_true, Bool.and_self, Bool.true_and, Bool.false_and, Bool.and_false, Bool.or_true, Bool.or_false, Bool.true_or, Bool.false_or, Bool.or_self, List.elem_cons, List.elem_nil, Nat.add_zero, Nat.zero_add, or_self, or_false, false_or, true_or, or_true, and_true, true_and, and_false, false_and, and_self, List.mem_cons, List.not_mem_nil, Nat.reducePow]

def loopOf : Option ABlock → Option ALoop
  | some (.loop r) => some r
  | _ => none
theorem loopOf_loop (r : ALoop) : loopOf (some (.loop r)) = some r := nr rfl
theorem endLoop_x (l : Nat) (fr : PT) (v : AV) (H : Hp) : endLoop l fr (some (v, H)) = xbind (loopOf H[l]?) fun r => if r.state = .busy then none else some (r.pending.getD .normal, fr, H.set l (.loop { r with state := .exhausted })) := by
  simp only [endLoop]
  cases H[l]? with
  | none => rfl
  | some b => cases b <;> rfl

/-- the loop of Add -/
structure AddR (r : ALoop) (n : Nat) : Prop where
  fn : r.fn = 35
  nt : r.nt = 35
  ps : r.params = [17]
  asg : r.assign = q35_0
  bd : r.body = r35_0
  st : r.state = .ready
  pd : r.pending = none
  f3 : r.fr.get 3 = .ptr n 0 0
  f4 : r.fr.get 4 = .ptr (n + 1) 0 0
  f5 : r.fr.get 5 = .ptr (n + 2) 0 0
  f6 : r.fr.get 6 = .ptr (n + 3) 0 0
  f7 : r.fr.get 7 = .ptr (n + 4) 0 0

theorem add_ctx {b1 b0 : Nat} {H : Hp} {sl : List (List AV)} (T : TblAt H b1 b0 sl) {n : Nat} (hn : H.length = n) {t : Int} {rg r1 r2 : AV} {L : List ABlock} : AllCtx (H ++ (addL b1 t rg r1 r2 ++ L)) (n + 5) (n + 6) b1 b0 sl false := by
  have hb0 : b0 < H.length := lt_of_get T.sb
  have hb1 : b1 < H.length := lt_of_get T.tb
  refine ⟨⟨by rw [hp_get_l hb1, T.tb], by rw [hp_get_l hb0, T.sb], T.ne, T.ok⟩, ?_, ?_⟩
  · rw [hp_get_r hn]; rfl
  · rw [hp_get_r hn]; rfl

theorem add_round {ro n b1 b0 k : Nat} {H : Hp} {sl : List (List AV)} (T : TblAt H b1 b0 sl) (hn : H.length = n) (hr : ro ≤ b0) (hrn : ro ≤ n) {t : Int} {rg : AV} {xs : List Int} (hs : Sl 1 rg (xs.map iv)) (hx : xs.length ≤ 16) (hk : k < sl.length) {r : ALoop} (R : AddR r n) :
    round D ro (n + 7) [iv k] (H ++ (addL b1 t rg (iv 0) (iv 0) ++ [ABlock.loop r])) = some (bv false, H.set b0 (.cells 20 185 ((sl.set k (newC t xs)).map .agg)) ++ (addL b1 t rg (iv k) (iv 0) ++ [.loop { r with state := .done, pending := some .ret }, .cells 20 185 [.agg (newC t xs)]])) := by
  obtain ⟨rfn, rnt, rfr, rps, ras, rbd, rst, rpd⟩ := r
  obtain ⟨h1, h2, h3, h4, h5, h6, h7, g3, g4, g5, g6, g7⟩ := R
  dsimp only at h1 h2 h3 h4 h5 h6 h7 g3 g4 g5 g6 g7
  subst h1 h2 h3 h4 h5 h6 h7
  let r : ALoop := { fn := 35, nt := 35, fr := rfr, params := [17], assign := q35_0, body := r35_0, state := .ready, pending := none }
  have hl : ∀ (q : ALoop) (M : List ABlock) (a b : AV), (H ++ (addL b1 t rg a b ++ ABlock.loop q :: M))[n + 7]? = some (ABlock.loop q) := fun q M a b => by rw [hp_get_r hn]; rfl
  have e1 : ex cx D ro 35 35 q35_0 (setArgs [(17, iv k)] rfr) (H ++ (addL b1 t rg (iv 0) (iv 0) ++ [ABlock.loop r])) = some (.normal, (rfr.set 17 (iv k)).set 8 (iv k), H ++ (addL b1 t rg (iv 0) (iv 0) ++ [ABlock.loop r])) := by
    unfold q35_0
    simp -implicitDefEqProofs (maxDischargeDepth := 4) only [go_sem, decide_true, decide_false, beq_self_eq_true, ↓reduceIte, Nat.reduceLT, Nat.reduceAdd, Nat.reduceMul, Nat.reduceSub, Nat.reduceEqDiff, Nat.reduceLeDiff, Nat.reduceBEq, reduceCtorEq, Nat.succ_ne_zero, Bool.not_true, Bool.not_false, Bool.true_eq_false, Bool.false_eq_true, Bool.true_beq, Bool.false_beq, Int.reduceLT, Int.reduceLE, Int.reduceEq, Int.reduceNe, ne_eq, not_false_eq_true, not_true_eq_false, List.getElem?_cons_zero, List.getElem?_cons_succ, List.length_cons, List.length_nil, List.all_cons, List.all_nil, Bool.and_true, Bool.and_self, Bool.true_and, Bool.false_and, Bool.and_false, Bool.or_true, Bool.or_false, Bool.true_or, Bool.false_or, Bool.or_self, List.elem_cons, List.elem_nil, Nat.add_zero, Nat.zero_add, or_self, or_false, false_or, true_or, or_true, and_true, true_and, and_false, false_and, and_self, List.mem_cons, List.not_mem_nil, Nat.reducePow, elAt_eq, stV_eq, cellsB_cells, hp_get_r, hp_get_r0, hp_get_l, hp_set_r, hp_set_r0, hp_set_l, hp_one, hp_ne, List.drop_succ_cons, List.drop_zero, List.take_succ_cons, List.take_zero,]
  have e2 : (H ++ (addL b1 t rg (iv 0) (iv 0) ++ [ABlock.loop r])).set (n + 7) (ABlock.loop { r with state := .busy }) = H ++ (addL b1 t rg (iv 0) (iv 0) ++ [ABlock.loop { r with state := .busy }]) := by
    rw [hp_set_r hn]; rfl
  obtain ⟨fr', e3⟩ := add_body T hn hr hrn (t := t) hs hx hk (fr := (rfr.set 17 (iv k)).set 8 (iv k)) (r0 := { r with state := .busy }) (by simp -implicitDefEqProofs (maxDischargeDepth := 4) only [go_sem, decide_true, decide_false, beq_self_eq_true, ↓reduceIte, Nat.reduceLT, Nat.reduceAdd, Nat.reduceMul, Nat.reduceSub, Nat.reduceEqDiff, Nat.reduceLeDiff, Nat.reduceBEq, reduceCtorEq, Nat.succ_ne_zero, Bool.not_true, Bool.not_false, Bool.true_eq_false, Bool.false_eq_true, Bool.true_beq, Bool.false_beq, Int.reduceLT, Int.reduceLE, Int.reduceEq, Int.reduceNe, ne_eq, not_false_eq_true, not_true_eq_false, List.getElem?_cons_zero, List.getElem?_cons_succ, List.length_cons, List.length_nil, List.all_cons, List.all_nil, Bool.and_true, Bool.and_self, Bool.true_and, Bool.false_and, Bool.and_false, Bool.or_true, Bool.or_false, Bool.true_or, Bool.false_or, Bool.or_self, List.elem_cons, List.elem_nil, Nat.add_zero, Nat.zero_add, or_self, or_false, false_or, true_or, or_true, and_true, true_and, and_false, false_and, and_self, List.mem_cons, List.not_mem_nil, Nat.reducePow, g3]) (by simp -implicitDefEqProofs (maxDischargeDepth := 4) only [go_sem, decide_true, decide_false, beq_self_eq_true, ↓reduceIte, Nat.reduceLT, Nat.reduceAdd, Nat.reduceMul, Nat.reduceSub, Nat.reduceEqDiff, Nat.reduceLeDiff, Nat.reduceBEq, reduceCtorEq, Nat.succ_ne_zero, Bool.not_true, Bool.not_false, Bool.true_eq_false, Bool.false_eq_true, Bool.true_beq, Bool.false_beq, Int.reduceLT, Int.reduceLE, Int.reduceEq, Int.reduceNe, ne_eq, not_false_eq_true, not_true_eq_false, List.getElem?_cons_zero, List.getElem?_cons_succ, List.length_cons, List.length_nil, List.all_cons, List.all_nil, Bool.and_true, Bool.and_self, Bool.true_and, Bool.false_and, Bool.and_false, Bool.or_true, Bool.or_false, Bool.true_or, Bool.false_or, Bool.or_self, List.elem_cons, List.elem_nil, Nat.add_zero, Nat.zero_add, or_self, or_false, false_or, true_or, or_true, and_true, true_and, and_false, false_and, and_self, List.mem_cons, List.not_mem_nil, Nat.reducePow, g4]) (by simp -implicitDefEqProofs (maxDischargeDepth := 4) only [go_sem, decide_true, decide_false, beq_self_eq_true, ↓reduceIte, Nat.reduceLT, Nat.reduceAdd, Nat.reduceMul, Nat.reduceSub, Nat.reduceEqDiff, Nat.reduceLeDiff, Nat.reduceBEq, reduceCtorEq, Nat.succ_ne_zero, Bool.not_true, Bool.not_false, Bool.true_eq_false, Bool.false_eq_true, Bool.true_beq, Bool.false_beq, Int.reduceLT, Int.reduceLE, Int.reduceEq, Int.reduceNe, ne_eq, not_false_eq_true, not_true_eq_false, List.getElem?_cons_zero, List.getElem?_cons_succ, List.length_cons, List.length_nil, List.all_cons, List.all_nil, Bool.and_true, Bool.and_self, Bool.true_and, Bool.false_and, Bool.and_false, Bool.or_true, Bool.or_false, Bool.true_or, Bool.false_or, Bool.or_self, List.elem_cons, List.elem_nil, Nat.add_zero, Nat.zero_add, or_self, or_false, false_or, true_or, or_true, and_true, true_and, and_false, false_and, and_self, List.mem_cons, List.not_mem_nil, Nat.reducePow, g5]) (by simp -implicitDefEqProofs (maxDischargeDepth := 4) only [go_sem, decide_true, decide_false, beq_self_eq_true, ↓reduceIte, Nat.reduceLT, Nat.reduceAdd, Nat.reduceMul, Nat.reduceSub, Nat.reduceEqDiff, Nat.reduceLeDiff, Nat.reduceBEq, reduceCtorEq, Nat.succ_ne_zero, Bool.not_true, Bool.not_false, Bool.true_eq_false, Bool.false_eq_true, Bool.true_beq, Bool.false_beq, Int.reduceLT, Int.reduceLE, Int.reduceEq, Int.reduceNe, ne_eq, not_false_eq_true, not_true_eq_false, List.getElem?_cons_zero, List.getElem?_cons_succ, List.length_cons, List.length_nil, List.all_cons, List.all_nil, Bool.and_true, Bool.and_self, Bool.true_and, Bool.false_and, Bool.and_false, Bool.or_true, Bool.or_false, Bool.true_or, Bool.false_or, Bool.or_self, List.elem_cons, List.elem_nil, Nat.add_zero, Nat.zero_add, or_self, or_false, false_or, true_or, or_true, and_true, true_and, and_false, false_and, and_self, List.mem_cons, List.not_mem_nil, Nat.reducePow, g6]) (by simp -implicitDefEqProofs (maxDischargeDepth := 4) only [go_sem, decide_true, decide_false, beq_self_eq_true, ↓reduceIte, Nat.reduceLT, Nat.reduceAdd, Nat.reduceMul, Nat.reduceSub, Nat.reduceEqDiff, Nat.reduceLeDiff, Nat.reduceBEq, reduceCtorEq, Nat.succ_ne_zero, Bool.not_true, Bool.not_false, Bool.true_eq_false, Bool.false_eq_true, Bool.true_beq, Bool.false_beq, Int.reduceLT, Int.reduceLE, Int.reduceEq, Int.reduceNe, ne_eq, not_false_eq_true, not_true_eq_false, List.getElem?_cons_zero, List.getElem?_cons_succ, List.length_cons, List.length_nil, List.all_cons, List.all_nil, Bool.and_true, Bool.and_self, Bool.true_and, Bool.false_and, Bool.and_false, Bool.or_true, Bool.or_false, Bool.true_or, Bool.false_or, Bool.or_self, List.elem_cons, List.elem_nil, Nat.add_zero, Nat.zero_add, or_self, or_false, false_or, true_or, or_true, and_true, true_and, and_false, false_and, and_self, List.mem_cons, List.not_mem_nil, Nat.reducePow, g7]) (by simp -implicitDefEqProofs (maxDischargeDepth := 4) only [go_sem, decide_true, decide_false, beq_self_eq_true, ↓reduceIte, Nat.reduceLT, Nat.reduceAdd, Nat.reduceMul, Nat.reduceSub, Nat.reduceEqDiff, Nat.reduceLeDiff, Nat.reduceBEq, reduceCtorEq, Nat.succ_ne_zero, Bool.not_true, Bool.not_false, Bool.true_eq_false, Bool.false_eq_true, Bool.true_beq, Bool.false_beq, Int.reduceLT, Int.reduceLE, Int.reduceEq, Int.reduceNe, ne_eq, not_false_eq_true, not_true_eq_false, List.getElem?_cons_zero, List.getElem?_cons_succ, List.length_cons, List.length_nil, List.all_cons, List.all_nil, Bool.and_true, Bool.and_self, Bool.true_and, Bool.false_and, Bool.and_false, Bool.or_true, Bool.or_false, Bool.true_or, Bool.false_or, Bool.or_self, List.elem_cons, List.elem_nil, Nat.add_zero, Nat.zero_add, or_self, or_false, false_or, true_or, or_true, and_true, true_and, and_false, false_and, and_self, List.mem_cons, List.not_mem_nil, Nat.reducePow])
  rw [round_eq (hl r [] _ _) (by omega) rfl rfl rfl]
  rw [show setArgs (r.params.zip [iv k]) r.fr = setArgs [(17, iv k)] rfr from rfl, show ex cx (den cx) ro r.fn r.nt r.assign = ex cx D ro 35 35 q35_0 from rfl, e1, bodyRound_eq (hl r [] _ _) rfl]
  rw [e2, show ex cx (den cx) ro r.fn r.nt r.body = ex cx D ro 35 35 r35_0 from rfl, e3]
  have hn' : (H.set b0 (.cells 20 185 ((sl.set k (newC t xs)).map .agg))).length = n := by rw [List.length_set, hn]
  rw [endRound_other (r := { r with state := .busy }) (by rw [hp_get_r hn']; rfl) (by decide), hp_set_r hn']
  rfl

theorem AddR_of {n : Nat} {fr : PT} (g3 : fr.get 3 = .ptr n 0 0) (g4 : fr.get 4 = .ptr (n + 1) 0 0) (g5 : fr.get 5 = .ptr (n + 2) 0 0) (g6 : fr.get 6 = .ptr (n + 3) 0 0) (g7 : fr.get 7 = .ptr (n + 4) 0 0) :
    AddR { fn := 35, nt := 35, fr := fr, params := [17], assign := q35_0, body := r35_0, state := .ready, pending := none } n := ⟨rfl, rfl, rfl, rfl, rfl, rfl, rfl, g3, g4, g5, g6, g7⟩

theorem add_none {ro b1 b0 : Nat} {H : Hp} {sl : List (List AV)} (T : TblAt H b1 b0 sl) (hr : ro ≤ b0) (hrn : ro ≤ H.length) (hl : sl.length < 2 ^ 62) {t : Int} {rg : AV} {xs : List Int} (hs : Sl 1 rg (xs.map iv)) (hx : xs.length ≤ 16)
    (hw : ∀ (j : Nat) (c : List AV), sl[j]? = some c → liveC c = true) : ∃ L, callB cx D ro 35 [.ptr b1 0 0, iv t, rg] H = some (.tup [iv (-1), iv 22], H ++ L) := by
  have hb0 : b0 < H.length := lt_of_get T.sb
  have hb1 : b1 < H.length := lt_of_get T.tb
  obtain ⟨n, hn⟩ : ∃ n, H.length = n := ⟨_, rfl⟩
  have c1 : ∀ j, ro ≤ n + j := fun j => by omega
  have c2 : ∀ j, ¬ (n + j < ro) := fun j => by omega
  have c3 : ¬ ((16 : Int) < (xs.length : Int)) := by omega
  have eA := fun r => all_done (ro := ro) (l := n + 7) (add_ctx T hn (t := t) (rg := rg) (r1 := iv 0) (r2 := iv 0) (L := [.loop r])) hl (fun j c h => by rw [hw j c h]; decide)
  simp only [addL, List.cons_append, List.nil_append] at eA
  rw [hn] at hrn
  rw [c35]
  simp -implicitDefEqProofs (maxDischargeDepth := 4) only [go_sem, decide_true, decide_false, beq_self_eq_true, ↓reduceIte, Nat.reduceLT, Nat.reduceAdd, Nat.reduceMul, Nat.reduceSub, Nat.reduceEqDiff, Nat.reduceLeDiff, Nat.reduceBEq, reduceCtorEq, Nat.succ_ne_zero, Bool.not_true, Bool.not_false, Bool.true_eq_false, Bool.false_eq_true, Bool.true_beq, Bool.false_beq, Int.reduceLT, Int.reduceLE, Int.reduceEq, Int.reduceNe, ne_eq, not_false_eq_true, not_true_eq_false, List.getElem?_cons_zero, List.getElem?_cons_succ, List.length_cons, List.length_nil, List.all_cons, List.all_nil, Bool.and_true, Bool.and_self, Bool.true_and, Bool.false_and, Bool.and_false, Bool.or_true, Bool.or_false, Bool.true_or, Bool.false_or, Bool.or_self, List.elem_cons, List.elem_nil, Nat.add_zero, Nat.zero_add, or_self, or_false, false_or, true_or, or_true, and_true, true_and, and_false, false_and, and_self, List.mem_cons, List.not_mem_nil, Nat.reducePow, elAt_eq, stV_eq, cellsB_cells, hp_get_r, hp_get_r0, hp_get_l, hp_set_r, hp_set_r0, hp_set_l, hp_one, hp_ne, List.drop_succ_cons, List.drop_zero, List.take_succ_cons, List.take_zero, hn, hrn, c1, c2, hs.shr, hs.notOwn, hs.rdOf, hs.fitA, hs.drp, elP_Sl hs, alen_sl hs, List.length_map, c3, all_ok, x_range, ranged_fn, Nat.add_assoc, den_call_eq, eA, endLoop_x, loopOf_loop, Option.getD_none, Option.getD_some]
  exact ⟨_, rfl⟩

theorem add_full {ro b1 b0 k : Nat} {H : Hp} {sl : List (List AV)} (T : TblAt H b1 b0 sl) (hr : ro ≤ b0) (hrn : ro ≤ H.length) (hl : sl.length < 2 ^ 62) {t : Int} {rg : AV} {xs : List Int} (hs : Sl 1 rg (xs.map iv)) (hx : xs.length ≤ 16)
    {c : List AV} (hc : sl[k]? = some c) (hd : liveC c = false) (hw : ∀ (j : Nat) (c : List AV), j < k → sl[j]? = some c → liveC c = true) :
    ∃ L, callB cx D ro 35 [.ptr b1 0 0, iv t, rg] H = some (.tup [iv k, iv 0], H.set b0 (.cells 20 185 ((sl.set k (newC t xs)).map .agg)) ++ L) := by
  have hb0 : b0 < H.length := lt_of_get T.sb
  have hb1 : b1 < H.length := lt_of_get T.tb
  obtain ⟨n, hn⟩ : ∃ n, H.length = n := ⟨_, rfl⟩
  have hk : k < sl.length := (List.getElem?_eq_some_iff.1 hc).1
  have c1 : ∀ j, ro ≤ n + j := fun j => by omega
  have c2 : ∀ j, ¬ (n + j < ro) := fun j => by omega
  have c3 : ¬ ((16 : Int) < (xs.length : Int)) := by omega
  rw [hn] at hrn
  have eA : ∀ r, AddR r n → _ := fun r R => all_ret (ro := ro) (l := n + 7) (add_ctx T hn (t := t) (rg := rg) (r1 := iv 0) (r2 := iv 0) (L := [.loop r])) hl hk (fun j c hj h => by rw [hw j c hj h]; decide) hc hd (add_round T hn hr hrn hs hx hk R)
  obtain ⟨H', hH'⟩ : ∃ H', H.set b0 (.cells 20 185 ((sl.set k (newC t xs)).map .agg)) = H' := ⟨_, rfl⟩
  have hn' : H'.length = n := by rw [← hH', List.length_set, hn]
  rw [hH'] at eA ⊢
  simp only [addL, List.cons_append, List.nil_append] at eA
  rw [c35]
  simp -implicitDefEqProofs (maxDischargeDepth := 4) only [go_sem, decide_true, decide_false, beq_self_eq_true, ↓reduceIte, Nat.reduceLT, Nat.reduceAdd, Nat.reduceMul, Nat.reduceSub, Nat.reduceEqDiff, Nat.reduceLeDiff, Nat.reduceBEq, reduceCtorEq, Nat.succ_ne_zero, Bool.not_true, Bool.not_false, Bool.true_eq_false, Bool.false_eq_true, Bool.true_beq, Bool.false_beq, Int.reduceLT, Int.reduceLE, Int.reduceEq, Int.reduceNe, ne_eq, not_false_eq_true, not_true_eq_false, List.getElem?_cons_zero, List.getElem?_cons_succ, List.length_cons, List.length_nil, List.all_cons, List.all_nil, Bool.and_true, Bool.and_self, Bool.true_and, Bool.false_and, Bool.and_false, Bool.or_true, Bool.or_false, Bool.true_or, Bool.false_or, Bool.or_self, List.elem_cons, List.elem_nil, Nat.add_zero, Nat.zero_add, or_self, or_false, false_or, true_or, or_true, and_true, true_and, and_false, false_and, and_self, List.mem_cons, List.not_mem_nil, Nat.reducePow, elAt_eq, stV_eq, cellsB_cells, hp_get_r, hp_get_r0, hp_get_l, hp_set_r, hp_set_r0, hp_set_l, hp_one, hp_ne, List.drop_succ_cons, List.drop_zero, List.take_succ_cons, List.take_zero, hn, hn', hrn, c1, c2, hs.shr, hs.notOwn, hs.rdOf, hs.fitA, hs.drp, elP_Sl hs, alen_sl hs, List.length_map, c3, all_ok, x_range, ranged_fn, Nat.add_assoc, den_call_eq, eA, AddR_of, endLoop_x, loopOf_loop, Option.getD_none, Option.getD_some]
  exact ⟨_, rfl⟩
end Go.Abs.Tab

/- The table of actors: Live. -/
set_option linter.unusedVariables false
namespace Go.Abs.Tab

/-- a list that grows -/
def Gr (x : AV) (els : List AV) : Prop := x = .vec 1 .own els ∨ (x = .lit (.slice none 0 0) ∧ els = [])

theorem seq_body {ro m : Nat} {G : Hp} (hm : G.length = m) (hr : ro ≤ m) {x : AV} {els : List AV} (hx : Gr x els) {fr : PT} {r0 : ALoop} {i : Nat} (f2 : fr.get 2 = .ptr m 0 0) (f5 : fr.get 5 = iv i) (hL : els.length < 2 ^ 20) :
    ∃ fr', ex cx (den cx) ro 151 13 r151_0 fr (G ++ [.cells 1 31 [x], .loop r0]) = some (.normal, fr', G ++ [.cells 1 31 [.vec 1 .own (els ++ [iv i])], .loop r0]) := by
  have c0 : (els.length + 1) * 9 ≤ 1099511627776 := by omega
  have c1 : ∀ j, ro ≤ m + j := fun j => by omega
  have c2 : ∀ j, ¬ (m + j < ro) := fun j => by omega
  have c3 : ¬ (m < ro) := by omega
  unfold r151_0
  rcases hx with rfl | ⟨rfl, rfl⟩
  · simp -implicitDefEqProofs (maxDischargeDepth := 4) only [go_sem, decide_true, decide_false, beq_self_eq_true, ↓reduceIte, Nat.reduceLT, Nat.reduceAdd, Nat.reduceMul, Nat.reduceSub, Nat.reduceEqDiff, Nat.reduceLeDiff, Nat.reduceBEq, reduceCtorEq, Nat.succ_ne_zero, Bool.not_true, Bool.not_false, Bool.true_eq_false, Bool.false_eq_true, Bool.true_beq, Bool.false_beq, Int.reduceLT, Int.reduceLE, Int.reduceEq, Int.reduceNe, ne_eq, not_false_eq_true, not_true_eq_false, List.getElem?_cons_zero, List.getElem?_cons_succ, List.length_cons, List.length_nil, List.all_cons, List.all_nil, Bool.and_true, Bool.and_self, Bool.true_and, Bool.false_and, Bool.and_false, Bool.or_true, Bool.or_false, Bool.true_or, Bool.false_or, Bool.or_self, List.elem_cons, List.elem_nil, Nat.add_zero, Nat.zero_add, or_self, or_false, false_or, true_or, or_true, and_true, true_and, and_false, false_and, and_self, List.mem_cons, List.not_mem_nil, Nat.reducePow, elAt_eq, stV_eq, cellsB_cells, hp_get_r, hp_get_r0, hp_get_l, hp_set_r, hp_set_r0, hp_set_l, hp_one, hp_ne, List.drop_succ_cons, List.drop_zero, List.take_succ_cons, List.take_zero, f2, f5, hm, hr, c0, c1, c2, c3]
    exact ⟨_, rfl⟩
  · simp -implicitDefEqProofs (maxDischargeDepth := 4) only [go_sem, decide_true, decide_false, beq_self_eq_true, ↓reduceIte, Nat.reduceLT, Nat.reduceAdd, Nat.reduceMul, Nat.reduceSub, Nat.reduceEqDiff, Nat.reduceLeDiff, Nat.reduceBEq, reduceCtorEq, Nat.succ_ne_zero, Bool.not_true, Bool.not_false, Bool.true_eq_false, Bool.false_eq_true, Bool.true_beq, Bool.false_beq, Int.reduceLT, Int.reduceLE, Int.reduceEq, Int.reduceNe, ne_eq, not_false_eq_true, not_true_eq_false, List.getElem?_cons_zero, List.getElem?_cons_succ, List.length_cons, List.length_nil, List.all_cons, List.all_nil, Bool.and_true, Bool.and_self, Bool.true_and, Bool.false_and, Bool.and_false, Bool.or_true, Bool.or_false, Bool.true_or, Bool.false_or, Bool.or_self, List.elem_cons, List.elem_nil, Nat.add_zero, Nat.zero_add, or_self, or_false, false_or, true_or, or_true, and_true, true_and, and_false, false_and, and_self, List.mem_cons, List.not_mem_nil, Nat.reducePow, elAt_eq, stV_eq, cellsB_cells, hp_get_r, hp_get_r0, hp_get_l, hp_set_r, hp_set_r0, hp_set_l, hp_one, hp_ne, List.drop_succ_cons, List.drop_zero, List.take_succ_cons, List.take_zero, f2, f5, hm, hr, c0, c1, c2, c3]
    exact ⟨_, rfl⟩

/-- AppendSeq's loop -/
noncomputable def seqR (rfr : PT) : ALoop := { fn := 151, nt := 13, fr := rfr, params := [7], assign := q151_0, body := r151_0, state := .ready, pending := none }

theorem seq_round {ro m : Nat} {G : Hp} (hm : G.length = m) (hr : ro ≤ m) {x : AV} {els : List AV} (hx : Gr x els) {rfr : PT} {i : Nat} (f2 : rfr.get 2 = .ptr m 0 0) (hL : els.length < 2 ^ 20) :
    round D ro (m + 1) [iv i] (G ++ [.cells 1 31 [x], .loop (seqR rfr)]) = some (bv true, G ++ [.cells 1 31 [.vec 1 .own (els ++ [iv i])], .loop (seqR rfr)]) := by
  have hl : ∀ (q : ALoop) (a : AV), (G ++ [.cells 1 31 [a], ABlock.loop q])[m + 1]? = some (ABlock.loop q) := fun q a => by rw [hp_get_r hm]; rfl
  have e1 : ex cx D ro 151 13 q151_0 (setArgs [(7, iv i)] rfr) (G ++ [.cells 1 31 [x], .loop (seqR rfr)]) = some (.normal, (rfr.set 7 (iv i)).set 5 (iv i), G ++ [.cells 1 31 [x], .loop (seqR rfr)]) := by
    unfold q151_0
    simp -implicitDefEqProofs (maxDischargeDepth := 4) only [go_sem, decide_true, decide_false, beq_self_eq_true, ↓reduceIte, Nat.reduceLT, Nat.reduceAdd, Nat.reduceMul, Nat.reduceSub, Nat.reduceEqDiff, Nat.reduceLeDiff, Nat.reduceBEq, reduceCtorEq, Nat.succ_ne_zero, Bool.not_true, Bool.not_false, Bool.true_eq_false, Bool.false_eq_true, Bool.true_beq, Bool.false_beq, Int.reduceLT, Int.reduceLE, Int.reduceEq, Int.reduceNe, ne_eq, not_false_eq_true, not_true_eq_false, List.getElem?_cons_zero, List.getElem?_cons_succ, List.length_cons, List.length_nil, List.all_cons, List.all_nil, Bool.and_true, Bool.and_self, Bool.true_and, Bool.false_and, Bool.and_false, Bool.or_true, Bool.or_false, Bool.true_or, Bool.false_or, Bool.or_self, List.elem_cons, List.elem_nil, Nat.add_zero, Nat.zero_add, or_self, or_false, false_or, true_or, or_true, and_true, true_and, and_false, false_and, and_self, List.mem_cons, List.not_mem_nil, Nat.reducePow, elAt_eq, stV_eq, cellsB_cells, hp_get_r, hp_get_r0, hp_get_l, hp_set_r, hp_set_r0, hp_set_l, hp_one, hp_ne, List.drop_succ_cons, List.drop_zero, List.take_succ_cons, List.take_zero,]
  have e2 : (G ++ [.cells 1 31 [x], ABlock.loop (seqR rfr)]).set (m + 1) (ABlock.loop { seqR rfr with state := .busy }) = G ++ [.cells 1 31 [x], ABlock.loop { seqR rfr with state := .busy }] := by
    rw [hp_set_r hm]; rfl
  obtain ⟨fr', e3⟩ := seq_body hm hr hx (fr := (rfr.set 7 (iv i)).set 5 (iv i)) (r0 := { seqR rfr with state := .busy }) (i := i) (by simp -implicitDefEqProofs (maxDischargeDepth := 4) only [go_sem, decide_true, decide_false, beq_self_eq_true, ↓reduceIte, Nat.reduceLT, Nat.reduceAdd, Nat.reduceMul, Nat.reduceSub, Nat.reduceEqDiff, Nat.reduceLeDiff, Nat.reduceBEq, reduceCtorEq, Nat.succ_ne_zero, Bool.not_true, Bool.not_false, Bool.true_eq_false, Bool.false_eq_true, Bool.true_beq, Bool.false_beq, Int.reduceLT, Int.reduceLE, Int.reduceEq, Int.reduceNe, ne_eq, not_false_eq_true, not_true_eq_false, List.getElem?_cons_zero, List.getElem?_cons_succ, List.length_cons, List.length_nil, List.all_cons, List.all_nil, Bool.and_true, Bool.and_self, Bool.true_and, Bool.false_and, Bool.and_false, Bool.or_true, Bool.or_false, Bool.true_or, Bool.false_or, Bool.or_self, List.elem_cons, List.elem_nil, Nat.add_zero, Nat.zero_add, or_self, or_false, false_or, true_or, or_true, and_true, true_and, and_false, false_and, and_self, List.mem_cons, List.not_mem_nil, Nat.reducePow, f2]) (by simp -implicitDefEqProofs (maxDischargeDepth := 4) only [go_sem, decide_true, decide_false, beq_self_eq_true, ↓reduceIte, Nat.reduceLT, Nat.reduceAdd, Nat.reduceMul, Nat.reduceSub, Nat.reduceEqDiff, Nat.reduceLeDiff, Nat.reduceBEq, reduceCtorEq, Nat.succ_ne_zero, Bool.not_true, Bool.not_false, Bool.true_eq_false, Bool.false_eq_true, Bool.true_beq, Bool.false_beq, Int.reduceLT, Int.reduceLE, Int.reduceEq, Int.reduceNe, ne_eq, not_false_eq_true, not_true_eq_false, List.getElem?_cons_zero, List.getElem?_cons_succ, List.length_cons, List.length_nil, List.all_cons, List.all_nil, Bool.and_true, Bool.and_self, Bool.true_and, Bool.false_and, Bool.and_false, Bool.or_true, Bool.or_false, Bool.true_or, Bool.false_or, Bool.or_self, List.elem_cons, List.elem_nil, Nat.add_zero, Nat.zero_add, or_self, or_false, false_or, true_or, or_true, and_true, true_and, and_false, false_and, and_self, List.mem_cons, List.not_mem_nil, Nat.reducePow]) hL
  rw [round_eq (hl (seqR rfr) _) (by omega) rfl rfl rfl]
  rw [show setArgs ((seqR rfr).params.zip [iv i]) (seqR rfr).fr = setArgs [(7, iv i)] rfr from rfl, show ex cx (den cx) ro (seqR rfr).fn (seqR rfr).nt (seqR rfr).assign = ex cx D ro 151 13 q151_0 from rfl, e1, bodyRound_eq (hl (seqR rfr) _) rfl]
  rw [e2, show ex cx (den cx) ro (seqR rfr).fn (seqR rfr).nt (seqR rfr).body = ex cx D ro 151 13 r151_0 from rfl, e3]
  rw [endRound_normal (r := { seqR rfr with state := .busy }) (hl _ _), hp_set_r hm]
  rfl

/-- the live slots' places -/
def liveL : Nat → List (List AV) → List AV
  | _, [] => []
  | i, c :: l => if liveC c = true then iv i :: liveL (i + 1) l else liveL (i + 1) l
theorem liveL_len : ∀ (i : Nat) (l : List (List AV)), (liveL i l).length ≤ l.length
  | _, [] => Nat.le_refl _
  | i, c :: l => by
    have := liveL_len (i + 1) l
    simp only [liveL]
    split <;> simp only [List.length_cons] <;> omega

/-- the list that has grown from nothing -/
def grV : List AV → AV
  | [] => .lit (.slice none 0 0)
  | x :: l => .vec 1 .own (x :: l)
theorem grV_gr : ∀ els, Gr (grV els) els
  | [] => .inr ⟨rfl, rfl⟩
  | _ :: _ => .inl rfl
theorem grV_app (x : AV) : ∀ els, grV (els ++ [x]) = .vec 1 .own (els ++ [x])
  | [] => rfl
  | _ :: _ => rfl

theorem live_loop {ro m pb qb b1 b0 : Nat} {G : Hp} {sl : List (List AV)} (C : ∀ M, AllCtx (G ++ M) pb qb b1 b0 sl true) (hl : sl.length < 2 ^ 19) (hm : G.length = m) (hr : ro ≤ m) {rfr : PT} (f2 : rfr.get 2 = .ptr m 0 0) :
    ∀ (d i : Nat), i + d = sl.length → ∀ (els : List AV), els.length ≤ i → ∀ fr, AllFr fr (m + 1) pb qb sl.length i →
      ∃ fr', D.loop ro 150 30 l150_0 fr (G ++ [.cells 1 31 [grV els], .loop (seqR rfr)]) = some (.exit 0, fr', G ++ [.cells 1 31 [grV (els ++ liveL i (sl.drop i))], .loop (seqR rfr)]) := by
  intro d
  induction d with
  | zero =>
    intro i hi els he fr F
    rw [Nat.add_zero] at hi
    subst hi
    obtain ⟨fr', h⟩ := all_end (ro := ro) (C _) F
    refine ⟨fr', ?_⟩
    rw [List.drop_length, liveL, List.append_nil]
    exact h
  | succ d ih =>
    intro i hi els he fr F
    have hi' : i < sl.length := by omega
    have hc := List.getElem?_eq_getElem hi'
    rw [List.drop_eq_getElem_cons hi', liveL]
    by_cases hv : liveC sl[i] = true
    · rw [if_pos hv]
      refine all_yes (P := fun o => ∃ fr', o = some (.exit 0, fr', G ++ [.cells 1 31 [grV (els ++ iv i :: liveL (i + 1) (sl.drop (i + 1)))], .loop (seqR rfr)])) (C _) (by omega) F hi' hc hv (seq_round hm hr (grV_gr els) f2 (by omega)) fun fr' F' => ?_
      have hlen : (G ++ [ABlock.cells 1 31 [grV els], .loop (seqR rfr)]).length = (G ++ [ABlock.cells 1 31 [.vec 1 .own (els ++ [iv i])], .loop (seqR rfr)]).length := by simp
      rw [hlen, trimmed_same, ← grV_app]
      obtain ⟨fr2, h2⟩ := ih (i + 1) (by omega) (els ++ [iv i]) (by simp; omega) fr' F'
      refine ⟨fr2, ?_⟩
      rw [List.append_assoc] at h2
      exact h2
    · rw [if_neg hv]
      exact all_no (P := fun o => ∃ fr', o = some (.exit 0, fr', G ++ [.cells 1 31 [grV (els ++ liveL (i + 1) (sl.drop (i + 1)))], .loop (seqR rfr)])) (C _) (by omega) F hi' hc hv fun fr' F' => ih (i + 1) (by omega) els (by omega) fr' F'

theorem live_call {ro n b1 b0 : Nat} {H : Hp} {sl : List (List AV)} (T : TblAt H b1 b0 sl) (hn : H.length = n) (hr : ro ≤ n) (hl : sl.length < 2 ^ 19) {rfr : PT} (f2 : rfr.get 2 = .ptr (n + 2) 0 0) :
    callB cx D ro 150 [.yld (n + 3), .ptr n 0 0, .ptr (n + 1) 0 0] (H ++ [.cells 1 24 [.ptr b1 0 0], .cells 1 4 [bv true], .cells 1 31 [.lit (.slice none 0 0)], .loop { fn := 151, nt := 13, fr := rfr, params := [7], assign := q151_0, body := r151_0, state := .ready, pending := none }]) =
      some (.tup [], H ++ [.cells 1 24 [.ptr b1 0 0], .cells 1 4 [bv true], .cells 1 31 [grV (liveL 0 sl)], .loop (seqR rfr)]) := by
  have hb0 : b0 < H.length := lt_of_get T.sb
  have hb1 : b1 < H.length := lt_of_get T.tb
  let G : Hp := H ++ [.cells 1 24 [.ptr b1 0 0], .cells 1 4 [bv true]]
  have hG : G.length = n + 2 := by simp [G, hn]
  have C : ∀ M, AllCtx (G ++ M) n (n + 1) b1 b0 sl true := fun M => by
    have e : G ++ M = H ++ (.cells 1 24 [.ptr b1 0 0] :: .cells 1 4 [bv true] :: M) := by simp [G]
    rw [e]
    exact ⟨⟨by rw [hp_get_l hb1, T.tb], by rw [hp_get_l hb0, T.sb], T.ne, T.ok⟩, by rw [hp_get_r0 hn]; rfl, by rw [hp_get_r hn]; rfl⟩
  have e : ∀ x : AV, ∀ q : ALoop, H ++ [.cells 1 24 [.ptr b1 0 0], .cells 1 4 [bv true], .cells 1 31 [x], .loop q] = G ++ [.cells 1 31 [x], .loop q] := fun x q => by simp [G]
  rw [e, e]
  refine all_start (C _) fun fr F => ?_
  obtain ⟨fr2, h⟩ := live_loop (ro := ro) C hl hG (by omega) f2 sl.length 0 (by omega) [] (Nat.le_refl _) fr F
  rw [show grV [] = .lit (.slice none 0 0) from rfl] at h
  rw [show D.loop ro 150 30 l150_0 fr (G ++ [.cells 1 31 [.lit (.slice none 0 0)], .loop { fn := 151, nt := 13, fr := rfr, params := [7], assign := q151_0, body := r151_0, state := .ready, pending := none }]) = _ from h]
  simp -implicitDefEqProofs (maxDischargeDepth := 4) only [go_sem, decide_true, decide_false, beq_self_eq_true, ↓reduceIte, Nat.reduceLT, Nat.reduceAdd, Nat.reduceMul, Nat.reduceSub, Nat.reduceEqDiff, Nat.reduceLeDiff, Nat.reduceBEq, reduceCtorEq, Nat.succ_ne_zero, Bool.not_true, Bool.not_false, Bool.true_eq_false, Bool.false_eq_true, Bool.true_beq, Bool.false_beq, Int.reduceLT, Int.reduceLE, Int.reduceEq, Int.reduceNe, ne_eq, not_false_eq_true, not_true_eq_false, List.getElem?_cons_zero, List.getElem?_cons_succ, List.length_cons, List.length_nil, List.all_cons, List.all_nil, Bool.and_true, Bool.and_self, Bool.true_and, Bool.false_and, Bool.and_false, Bool.or_true, Bool.or_false, Bool.true_or, Bool.false_or, Bool.or_self, List.elem_cons, List.elem_nil, Nat.add_zero, Nat.zero_add, or_self, or_false, false_or, true_or, or_true, and_true, true_and, and_false, false_and, and_self, List.mem_cons, List.not_mem_nil, Nat.reducePow, List.drop_zero, List.nil_append]

theorem live_ok {ro b1 b0 : Nat} {H : Hp} {sl : List (List AV)} (T : TblAt H b1 b0 sl) (hr : ro ≤ H.length) (hl : sl.length < 2 ^ 19) :
    ∃ L x, Sl 1 x (liveL 0 sl) ∧ callB cx D ro 38 [.ptr b1 0 0] H = some (x, H ++ L) := by
  obtain ⟨n, hn⟩ : ∃ n, H.length = n := ⟨_, rfl⟩
  have c1 : ∀ j, ro ≤ n + j := fun j => by omega
  have c2 : ∀ j, ¬ (n + j < ro) := fun j => by omega
  rw [hn] at hr
  have key : ∀ rfr : PT, rfr.get 2 = .ptr (n + 2) 0 0 → _ := fun rfr f2 => live_call T hn hr hl f2
  simp only [seqR] at key
  obtain ⟨g, hg⟩ : ∃ g, grV (liveL 0 sl) = g := ⟨_, rfl⟩
  rw [hg] at key
  have hgr : Gr g (liveL 0 sl) := hg ▸ grV_gr _
  rw [c38]
  rcases hgr with hgr | ⟨hgr, hnil⟩
  · subst hgr
    simp -implicitDefEqProofs (maxDischargeDepth := 4) only [go_sem, decide_true, decide_false, beq_self_eq_true, ↓reduceIte, Nat.reduceLT, Nat.reduceAdd, Nat.reduceMul, Nat.reduceSub, Nat.reduceEqDiff, Nat.reduceLeDiff, Nat.reduceBEq, reduceCtorEq, Nat.succ_ne_zero, Bool.not_true, Bool.not_false, Bool.true_eq_false, Bool.false_eq_true, Bool.true_beq, Bool.false_beq, Int.reduceLT, Int.reduceLE, Int.reduceEq, Int.reduceNe, ne_eq, not_false_eq_true, not_true_eq_false, List.getElem?_cons_zero, List.getElem?_cons_succ, List.length_cons, List.length_nil, List.all_cons, List.all_nil, Bool.and_true, Bool.and_self, Bool.true_and, Bool.false_and, Bool.and_false, Bool.or_true, Bool.or_false, Bool.true_or, Bool.false_or, Bool.or_self, List.elem_cons, List.elem_nil, Nat.add_zero, Nat.zero_add, or_self, or_false, false_or, true_or, or_true, and_true, true_and, and_false, false_and, and_self, List.mem_cons, List.not_mem_nil, Nat.reducePow, elAt_eq, stV_eq, cellsB_cells, hp_get_r, hp_get_r0, hp_get_l, hp_set_r, hp_set_r0, hp_set_l, hp_one, hp_ne, List.drop_succ_cons, List.drop_zero, List.take_succ_cons, List.take_zero, hn, hr, c1, c2, all_ok, Nat.add_assoc, c110, c151, x_range, ranged_fn, den_call_eq, key, endLoop_x, loopOf_loop, Option.getD_none, Option.getD_some]
    exact ⟨_, _, .inr (.inl rfl), rfl⟩
  · subst hgr
    rw [hnil]
    simp -implicitDefEqProofs (maxDischargeDepth := 4) only [go_sem, decide_true, decide_false, beq_self_eq_true, ↓reduceIte, Nat.reduceLT, Nat.reduceAdd, Nat.reduceMul, Nat.reduceSub, Nat.reduceEqDiff, Nat.reduceLeDiff, Nat.reduceBEq, reduceCtorEq, Nat.succ_ne_zero, Bool.not_true, Bool.not_false, Bool.true_eq_false, Bool.false_eq_true, Bool.true_beq, Bool.false_beq, Int.reduceLT, Int.reduceLE, Int.reduceEq, Int.reduceNe, ne_eq, not_false_eq_true, not_true_eq_false, List.getElem?_cons_zero, List.getElem?_cons_succ, List.length_cons, List.length_nil, List.all_cons, List.all_nil, Bool.and_true, Bool.and_self, Bool.true_and, Bool.false_and, Bool.and_false, Bool.or_true, Bool.or_false, Bool.true_or, Bool.false_or, Bool.or_self, List.elem_cons, List.elem_nil, Nat.add_zero, Nat.zero_add, or_self, or_false, false_or, true_or, or_true, and_true, true_and, and_false, false_and, and_self, List.mem_cons, List.not_mem_nil, Nat.reducePow, elAt_eq, stV_eq, cellsB_cells, hp_get_r, hp_get_r0, hp_get_l, hp_set_r, hp_set_r0, hp_set_l, hp_one, hp_ne, List.drop_succ_cons, List.drop_zero, List.take_succ_cons, List.take_zero, hn, hr, c1, c2, all_ok, Nat.add_assoc, c110, c151, x_range, ranged_fn, den_call_eq, key, endLoop_x, loopOf_loop, Option.getD_none, Option.getD_some]
    exact ⟨_, _, .inr (.inr ⟨rfl, rfl⟩), rfl⟩
end Go.Abs.Tab

/- Are two lists of numbers alike? (ints) -/
set_option linter.unusedVariables false
namespace Go.Abs.Tab

theorem ints_loop {ro : Nat} {H : Hp} {a b : AV} {xs ys : List Int} (ha : Sl 1 a (xs.map iv)) (hb : Sl 1 b (ys.map iv)) (hl : xs.length = ys.length) (hx : xs.length < 2 ^ 62) : ∀ (m i : Nat) (fr : PT), xs.length - i = m → i ≤ xs.length →
    fr.get 0 = a → fr.get 1 = b → fr.get 5 = iv i → ∃ e fr', D.loop ro 37 26 l37_0 fr H = some (e, fr', H) ∧ (if xs.drop i = ys.drop i then e = .exit 0 else (e = .ret ∧ fr'.get 4 = .lit (.bool false)))
  | 0, i, fr, hm, hi, h0, h1, h5 => by
    have hn : ¬ ((i : Int) < (xs.length : Int)) := by omega
    rw [den_loop_x]
    unfold l37_0
    simp -implicitDefEqProofs (maxDischargeDepth := 4) only [go_sem, decide_true, decide_false, beq_self_eq_true, ↓reduceIte, Nat.reduceLT, Nat.reduceAdd, Nat.reduceMul, Nat.reduceSub, Nat.reduceEqDiff, Nat.reduceLeDiff, Nat.reduceBEq, reduceCtorEq, Nat.succ_ne_zero, Bool.not_true, Bool.not_false, Bool.true_eq_false, Bool.false_eq_true, Bool.true_beq, Bool.false_beq, Int.reduceLT, Int.reduceLE, Int.reduceEq, Int.reduceNe, ne_eq, not_false_eq_true, not_true_eq_false, List.getElem?_cons_zero, List.getElem?_cons_succ, List.length_cons, List.length_nil, List.all_cons, List.all_nil, Bool.and_true, Bool.and_self, Bool.true_and, Bool.false_and, Bool.and_false, Bool.or_true, Bool.or_false, Bool.true_or, Bool.false_or, Bool.or_self, List.elem_cons, List.elem_nil, Nat.add_zero, Nat.zero_add, or_self, or_false, false_or, true_or, or_true, and_true, true_and, and_false, false_and, and_self, List.mem_cons, List.not_mem_nil, Nat.reducePow, h0, h1, h5, ha.notOwn, ha.shr, hb.notOwn, hb.shr, alen_sl ha, List.length_map, sl31, Option.isSome_some, hn]
    refine ⟨_, _, rfl, ?_⟩
    rw [List.drop_eq_nil_of_le (by omega), List.drop_eq_nil_of_le (by omega)]
    simp
  | m + 1, i, fr, hm, hi, h0, h1, h5 => by
    have hn : ((i : Int) < (xs.length : Int)) := by omega
    have e1 : aindexAddr cx.T 31 a (iv i) = some (.vp (iv (xs.getD i 0)) 0) := by rw [aindexAddr_sl ha sl31 (by simp; omega) rfl, getD_map iv xs 0 (by omega)]
    have e2 : aindexAddr cx.T 31 b (iv i) = some (.vp (iv (ys.getD i 0)) 0) := by rw [aindexAddr_sl hb sl31 (by simp; omega) rfl, getD_map iv ys 0 (by omega)]
    have e3 : wrapK .i64 ((i : Int) + 1) = ((i + 1 : Nat) : Int) := by rw [wrapK_i64 (by omega) (by omega)]; rfl
    have d1 : xs.drop i = xs.getD i 0 :: xs.drop (i + 1) := by
      rw [List.drop_eq_getElem_cons (by omega)]; simp [List.getD_eq_getElem?_getD, List.getElem?_eq_getElem (show i < xs.length by omega)]
    have d2 : ys.drop i = ys.getD i 0 :: ys.drop (i + 1) := by
      rw [List.drop_eq_getElem_cons (by omega)]; simp [List.getD_eq_getElem?_getD, List.getElem?_eq_getElem (show i < ys.length by omega)]
    rw [den_loop_x]
    unfold l37_0
    by_cases hc : xs.getD i 0 = ys.getD i 0
    · simp only [d1, d2, hc, List.cons.injEq, true_and]
      simp -implicitDefEqProofs (maxDischargeDepth := 4) only [go_sem, decide_true, decide_false, beq_self_eq_true, ↓reduceIte, Nat.reduceLT, Nat.reduceAdd, Nat.reduceMul, Nat.reduceSub, Nat.reduceEqDiff, Nat.reduceLeDiff, Nat.reduceBEq, reduceCtorEq, Nat.succ_ne_zero, Bool.not_true, Bool.not_false, Bool.true_eq_false, Bool.false_eq_true, Bool.true_beq, Bool.false_beq, Int.reduceLT, Int.reduceLE, Int.reduceEq, Int.reduceNe, ne_eq, not_false_eq_true, not_true_eq_false, List.getElem?_cons_zero, List.getElem?_cons_succ, List.length_cons, List.length_nil, List.all_cons, List.all_nil, Bool.and_true, Bool.and_self, Bool.true_and, Bool.false_and, Bool.and_false, Bool.or_true, Bool.or_false, Bool.true_or, Bool.false_or, Bool.or_self, List.elem_cons, List.elem_nil, Nat.add_zero, Nat.zero_add, or_self, or_false, false_or, true_or, or_true, and_true, true_and, and_false, false_and, and_self, List.mem_cons, List.not_mem_nil, Nat.reducePow, h0, h1, h5, ha.notOwn, ha.shr, hb.notOwn, hb.shr, alen_sl ha, List.length_map, sl31, Option.isSome_some, hn, e1, e2, hc, e3]
      refine ints_loop ha hb hl hx m (i + 1) _ (by omega) (by omega) ?_ ?_ ?_ <;> simp -implicitDefEqProofs (maxDischargeDepth := 4) only [go_sem, decide_true, decide_false, beq_self_eq_true, ↓reduceIte, Nat.reduceLT, Nat.reduceAdd, Nat.reduceMul, Nat.reduceSub, Nat.reduceEqDiff, Nat.reduceLeDiff, Nat.reduceBEq, reduceCtorEq, Nat.succ_ne_zero, Bool.not_true, Bool.not_false, Bool.true_eq_false, Bool.false_eq_true, Bool.true_beq, Bool.false_beq, Int.reduceLT, Int.reduceLE, Int.reduceEq, Int.reduceNe, ne_eq, not_false_eq_true, not_true_eq_false, List.getElem?_cons_zero, List.getElem?_cons_succ, List.length_cons, List.length_nil, List.all_cons, List.all_nil, Bool.and_true, Bool.and_self, Bool.true_and, Bool.false_and, Bool.and_false, Bool.or_true, Bool.or_false, Bool.true_or, Bool.false_or, Bool.or_self, List.elem_cons, List.elem_nil, Nat.add_zero, Nat.zero_add, or_self, or_false, false_or, true_or, or_true, and_true, true_and, and_false, false_and, and_self, List.mem_cons, List.not_mem_nil, Nat.reducePow, h0, h1]
    · simp -implicitDefEqProofs (maxDischargeDepth := 4) only [go_sem, decide_true, decide_false, beq_self_eq_true, ↓reduceIte, Nat.reduceLT, Nat.reduceAdd, Nat.reduceMul, Nat.reduceSub, Nat.reduceEqDiff, Nat.reduceLeDiff, Nat.reduceBEq, reduceCtorEq, Nat.succ_ne_zero, Bool.not_true, Bool.not_false, Bool.true_eq_false, Bool.false_eq_true, Bool.true_beq, Bool.false_beq, Int.reduceLT, Int.reduceLE, Int.reduceEq, Int.reduceNe, ne_eq, not_false_eq_true, not_true_eq_false, List.getElem?_cons_zero, List.getElem?_cons_succ, List.length_cons, List.length_nil, List.all_cons, List.all_nil, Bool.and_true, Bool.and_self, Bool.true_and, Bool.false_and, Bool.and_false, Bool.or_true, Bool.or_false, Bool.true_or, Bool.false_or, Bool.or_self, List.elem_cons, List.elem_nil, Nat.add_zero, Nat.zero_add, or_self, or_false, false_or, true_or, or_true, and_true, true_and, and_false, false_and, and_self, List.mem_cons, List.not_mem_nil, Nat.reducePow, h0, h1, h5, ha.notOwn, ha.shr, hb.notOwn, hb.shr, alen_sl ha, List.length_map, sl31, Option.isSome_some, hn, e1, e2, hc]
      refine ⟨_, _, rfl, ?_⟩
      rw [d1, d2]
      simp -implicitDefEqProofs (maxDischargeDepth := 4) only [go_sem, decide_true, decide_false, beq_self_eq_true, ↓reduceIte, Nat.reduceLT, Nat.reduceAdd, Nat.reduceMul, Nat.reduceSub, Nat.reduceEqDiff, Nat.reduceLeDiff, Nat.reduceBEq, reduceCtorEq, Nat.succ_ne_zero, Bool.not_true, Bool.not_false, Bool.true_eq_false, Bool.false_eq_true, Bool.true_beq, Bool.false_beq, Int.reduceLT, Int.reduceLE, Int.reduceEq, Int.reduceNe, ne_eq, not_false_eq_true, not_true_eq_false, List.getElem?_cons_zero, List.getElem?_cons_succ, List.length_cons, List.length_nil, List.all_cons, List.all_nil, Bool.and_true, Bool.and_self, Bool.true_and, Bool.false_and, Bool.and_false, Bool.or_true, Bool.or_false, Bool.true_or, Bool.false_or, Bool.or_self, List.elem_cons, List.elem_nil, Nat.add_zero, Nat.zero_add, or_self, or_false, false_or, true_or, or_true, and_true, true_and, and_false, false_and, and_self, List.mem_cons, List.not_mem_nil, Nat.reducePow, hc, List.cons.injEq, false_and, and_self]

theorem ints_call {ro : Nat} {H : Hp} {a b : AV} {xs ys : List Int} (ha : Sl 1 a (xs.map iv)) (hb : Sl 1 b (ys.map iv)) (hx : xs.length < 2 ^ 62) : callB cx D ro 37 [a, b] H = some (bv (decide (xs = ys)), H) := by
  rw [c37]
  by_cases hl : xs.length = ys.length
  · have hl' : (xs.length : Int) = (ys.length : Int) := by omega
    obtain ⟨e, fr', h1, h2⟩ := ints_loop (ro := ro) (H := H) ha hb hl hx xs.length 0 (((((((((PT.nil.set 0 a).set 1 b).set 4 (.lit (.bool false))).set 6 a).set 7 (.lit (.int .i64 (ys.length : Int)))).set 8 b).set 9 (.lit (.int .i64 (ys.length : Int)))).set 10 (.lit (.bool false))).set 5 (.lit (.int .i64 0))) (by omega) (by omega) (by simp -implicitDefEqProofs (maxDischargeDepth := 4) only [go_sem, decide_true, decide_false, beq_self_eq_true, ↓reduceIte, Nat.reduceLT, Nat.reduceAdd, Nat.reduceMul, Nat.reduceSub, Nat.reduceEqDiff, Nat.reduceLeDiff, Nat.reduceBEq, reduceCtorEq, Nat.succ_ne_zero, Bool.not_true, Bool.not_false, Bool.true_eq_false, Bool.false_eq_true, Bool.true_beq, Bool.false_beq, Int.reduceLT, Int.reduceLE, Int.reduceEq, Int.reduceNe, ne_eq, not_false_eq_true, not_true_eq_false, List.getElem?_cons_zero, List.getElem?_cons_succ, List.length_cons, List.length_nil, List.all_cons, List.all_nil, Bool.and_true, Bool.and_self, Bool.true_and, Bool.false_and, Bool.and_false, Bool.or_true, Bool.or_false, Bool.true_or, Bool.false_or, Bool.or_self, List.elem_cons, List.elem_nil, Nat.add_zero, Nat.zero_add, or_self, or_false, false_or, true_or, or_true, and_true, true_and, and_false, false_and, and_self, List.mem_cons, List.not_mem_nil, Nat.reducePow]) (by simp -implicitDefEqProofs (maxDischargeDepth := 4) only [go_sem, decide_true, decide_false, beq_self_eq_true, ↓reduceIte, Nat.reduceLT, Nat.reduceAdd, Nat.reduceMul, Nat.reduceSub, Nat.reduceEqDiff, Nat.reduceLeDiff, Nat.reduceBEq, reduceCtorEq, Nat.succ_ne_zero, Bool.not_true, Bool.not_false, Bool.true_eq_false, Bool.false_eq_true, Bool.true_beq, Bool.false_beq, Int.reduceLT, Int.reduceLE, Int.reduceEq, Int.reduceNe, ne_eq, not_false_eq_true, not_true_eq_false, List.getElem?_cons_zero, List.getElem?_cons_succ, List.length_cons, List.length_nil, List.all_cons, List.all_nil, Bool.and_true, Bool.and_self, Bool.true_and, Bool.false_and, Bool.and_false, Bool.or_true, Bool.or_false, Bool.true_or, Bool.false_or, Bool.or_self, List.elem_cons, List.elem_nil, Nat.add_zero, Nat.zero_add, or_self, or_false, false_or, true_or, or_true, and_true, true_and, and_false, false_and, and_self, List.mem_cons, List.not_mem_nil, Nat.reducePow]) (by simp -implicitDefEqProofs (maxDischargeDepth := 4) only [go_sem, decide_true, decide_false, beq_self_eq_true, ↓reduceIte, Nat.reduceLT, Nat.reduceAdd, Nat.reduceMul, Nat.reduceSub, Nat.reduceEqDiff, Nat.reduceLeDiff, Nat.reduceBEq, reduceCtorEq, Nat.succ_ne_zero, Bool.not_true, Bool.not_false, Bool.true_eq_false, Bool.false_eq_true, Bool.true_beq, Bool.false_beq, Int.reduceLT, Int.reduceLE, Int.reduceEq, Int.reduceNe, ne_eq, not_false_eq_true, not_true_eq_false, List.getElem?_cons_zero, List.getElem?_cons_succ, List.length_cons, List.length_nil, List.all_cons, List.all_nil, Bool.and_true, Bool.and_self, Bool.true_and, Bool.false_and, Bool.and_false, Bool.or_true, Bool.or_false, Bool.true_or, Bool.false_or, Bool.or_self, List.elem_cons, List.elem_nil, Nat.add_zero, Nat.zero_add, or_self, or_false, false_or, true_or, or_true, and_true, true_and, and_false, false_and, and_self, List.mem_cons, List.not_mem_nil, Nat.reducePow, Int.ofNat_zero])
    rw [List.drop_zero, List.drop_zero] at h2
    simp -implicitDefEqProofs (maxDischargeDepth := 4) only [go_sem, decide_true, decide_false, beq_self_eq_true, ↓reduceIte, Nat.reduceLT, Nat.reduceAdd, Nat.reduceMul, Nat.reduceSub, Nat.reduceEqDiff, Nat.reduceLeDiff, Nat.reduceBEq, reduceCtorEq, Nat.succ_ne_zero, Bool.not_true, Bool.not_false, Bool.true_eq_false, Bool.false_eq_true, Bool.true_beq, Bool.false_beq, Int.reduceLT, Int.reduceLE, Int.reduceEq, Int.reduceNe, ne_eq, not_false_eq_true, not_true_eq_false, List.getElem?_cons_zero, List.getElem?_cons_succ, List.length_cons, List.length_nil, List.all_cons, List.all_nil, Bool.and_true, Bool.and_self, Bool.true_and, Bool.false_and, Bool.and_false, Bool.or_true, Bool.or_false, Bool.true_or, Bool.false_or, Bool.or_self, List.elem_cons, List.elem_nil, Nat.add_zero, Nat.zero_add, or_self, or_false, false_or, true_or, or_true, and_true, true_and, and_false, false_and, and_self, List.mem_cons, List.not_mem_nil, Nat.reducePow, ha.notOwn, ha.shr, ha.drp, hb.drp, hb.notOwn, hb.shr, alen_sl ha, alen_sl hb, List.length_map, hl', x_loop, h1]
    by_cases hxy : xs = ys
    · rw [if_pos hxy] at h2
      subst h2
      simp -implicitDefEqProofs (maxDischargeDepth := 4) only [go_sem, decide_true, decide_false, beq_self_eq_true, ↓reduceIte, Nat.reduceLT, Nat.reduceAdd, Nat.reduceMul, Nat.reduceSub, Nat.reduceEqDiff, Nat.reduceLeDiff, Nat.reduceBEq, reduceCtorEq, Nat.succ_ne_zero, Bool.not_true, Bool.not_false, Bool.true_eq_false, Bool.false_eq_true, Bool.true_beq, Bool.false_beq, Int.reduceLT, Int.reduceLE, Int.reduceEq, Int.reduceNe, ne_eq, not_false_eq_true, not_true_eq_false, List.getElem?_cons_zero, List.getElem?_cons_succ, List.length_cons, List.length_nil, List.all_cons, List.all_nil, Bool.and_true, Bool.and_self, Bool.true_and, Bool.false_and, Bool.and_false, Bool.or_true, Bool.or_false, Bool.true_or, Bool.false_or, Bool.or_self, List.elem_cons, List.elem_nil, Nat.add_zero, Nat.zero_add, or_self, or_false, false_or, true_or, or_true, and_true, true_and, and_false, false_and, and_self, List.mem_cons, List.not_mem_nil, Nat.reducePow, hxy]
    · rw [if_neg hxy] at h2
      obtain ⟨rfl, h3⟩ := h2
      simp -implicitDefEqProofs (maxDischargeDepth := 4) only [go_sem, decide_true, decide_false, beq_self_eq_true, ↓reduceIte, Nat.reduceLT, Nat.reduceAdd, Nat.reduceMul, Nat.reduceSub, Nat.reduceEqDiff, Nat.reduceLeDiff, Nat.reduceBEq, reduceCtorEq, Nat.succ_ne_zero, Bool.not_true, Bool.not_false, Bool.true_eq_false, Bool.false_eq_true, Bool.true_beq, Bool.false_beq, Int.reduceLT, Int.reduceLE, Int.reduceEq, Int.reduceNe, ne_eq, not_false_eq_true, not_true_eq_false, List.getElem?_cons_zero, List.getElem?_cons_succ, List.length_cons, List.length_nil, List.all_cons, List.all_nil, Bool.and_true, Bool.and_self, Bool.true_and, Bool.false_and, Bool.and_false, Bool.or_true, Bool.or_false, Bool.true_or, Bool.false_or, Bool.or_self, List.elem_cons, List.elem_nil, Nat.add_zero, Nat.zero_add, or_self, or_false, false_or, true_or, or_true, and_true, true_and, and_false, false_and, and_self, List.mem_cons, List.not_mem_nil, Nat.reducePow, hxy, h3]
  · have hl' : ¬ (xs.length : Int) = (ys.length : Int) := by omega
    have hne : ¬ xs = ys := fun h => hl (by rw [h])
    simp -implicitDefEqProofs (maxDischargeDepth := 4) only [go_sem, decide_true, decide_false, beq_self_eq_true, ↓reduceIte, Nat.reduceLT, Nat.reduceAdd, Nat.reduceMul, Nat.reduceSub, Nat.reduceEqDiff, Nat.reduceLeDiff, Nat.reduceBEq, reduceCtorEq, Nat.succ_ne_zero, Bool.not_true, Bool.not_false, Bool.true_eq_false, Bool.false_eq_true, Bool.true_beq, Bool.false_beq, Int.reduceLT, Int.reduceLE, Int.reduceEq, Int.reduceNe, ne_eq, not_false_eq_true, not_true_eq_false, List.getElem?_cons_zero, List.getElem?_cons_succ, List.length_cons, List.length_nil, List.all_cons, List.all_nil, Bool.and_true, Bool.and_self, Bool.true_and, Bool.false_and, Bool.and_false, Bool.or_true, Bool.or_false, Bool.true_or, Bool.false_or, Bool.or_self, List.elem_cons, List.elem_nil, Nat.add_zero, Nat.zero_add, or_self, or_false, false_or, true_or, or_true, and_true, true_and, and_false, false_and, and_self, List.mem_cons, List.not_mem_nil, Nat.reducePow, ha.notOwn, ha.shr, ha.drp, hb.drp, hb.notOwn, hb.shr, alen_sl ha, alen_sl hb, List.length_map, hl', hne]
theorem ints_ok {a b : AV} {xs ys : List Int} (ha : Sl 1 a (xs.map iv)) (hb : Sl 1 b (ys.map iv)) (hx : xs.length < 2 ^ 62) : pcall D 37 [a, b] = some (bv (decide (xs = ys))) := by
  exact pcall_eq (v := bv (decide (xs = ys))) (H' := []) (by rw [List.map_cons, List.map_cons, List.map_nil, ha.cl2, hb.cl2]; exact ints_call ha hb hx)
/-! ### places, free and taken -/
/-- the first free place -/
def lowL : Nat → List Bool → Int
  | _, [] => -1
  | i, b :: l => if b = false then i else lowL (i + 1) l
/-- the places that are taken -/
def takenL : Nat → List Bool → List AV
  | _, [] => []
  | i, b :: l => if b = true then iv i :: takenL (i + 1) l else takenL (i + 1) l

theorem lowL_none : ∀ (i : Nat) (l : List Bool), lowL i l = -1 ↔ ∀ (j : Nat) (b : Bool), l[j]? = some b → b = true
  | i, [] => by simp [lowL]
  | i, b :: l => by
    simp only [lowL]
    cases b with
    | false =>
      simp only [if_true]
      refine ⟨fun h => by omega, fun h => ?_⟩
      have := h 0 false rfl
      cases this
    | true =>
      simp only [Bool.true_eq_false, if_false]
      rw [lowL_none (i + 1) l]
      refine ⟨fun h j b hj => ?_, fun h j b hj => h (j + 1) b hj⟩
      cases j with
      | zero => cases hj; rfl
      | succ j => exact h j b hj
theorem lowL_some : ∀ (i : Nat) (l : List Bool), lowL i l ≠ -1 → ∃ k, lowL i l = ((i + k : Nat) : Int) ∧ l[k]? = some false ∧ ∀ (j : Nat) (b : Bool), j < k → l[j]? = some b → b = true
  | i, [], h => absurd rfl h
  | i, b :: l, h => by
    simp only [lowL] at h ⊢
    cases b with
    | false =>
      simp only [if_true] at h ⊢
      exact ⟨0, rfl, rfl, fun j b hj => absurd hj (by omega)⟩
    | true =>
      simp only [Bool.true_eq_false, if_false] at h ⊢
      obtain ⟨k, h1, h2, h3⟩ := lowL_some (i + 1) l h
      refine ⟨k + 1, by rw [h1]; congr 1; omega, h2, fun j b hj hb => ?_⟩
      cases j with
      | zero => cases hb; rfl
      | succ j => exact h3 j b (by omega) hb

theorem nil_sl : Sl 1 (.lit (.slice none 0 0)) (([] : List Int).map iv) := .inr (.inr ⟨rfl, rfl⟩)

theorem liveL_taken : ∀ (i : Nat) (sl : List (List AV)), liveL i sl = takenL i (sl.map liveC)
  | _, [] => rfl
  | i, c :: l => by simp only [liveL, List.map_cons, takenL, liveL_taken (i + 1) l]
/-- the places that are taken, as numbers -/
def takenI : Nat → List Bool → List Int
  | _, [] => []
  | i, b :: l => if b = true then (i : Int) :: takenI (i + 1) l else takenI (i + 1) l
theorem takenL_map : ∀ (i : Nat) (l : List Bool), takenL i l = (takenI i l).map iv
  | _, [] => rfl
  | i, b :: l => by
    simp only [takenL, takenI, takenL_map (i + 1) l]
    split <;> rfl
theorem takenI_len : ∀ (i : Nat) (l : List Bool), (takenI i l).length ≤ l.length
  | _, [] => Nat.le_refl _
  | i, b :: l => by
    have := takenI_len (i + 1) l
    simp only [takenI]
    split <;> simp only [List.length_cons] <;> omega

theorem map_set_bv {bs : List Bool} (k : Nat) (b : Bool) : (bs.map bv).set k (bv b) = (bs.set k b).map bv := (List.map_set).symm

theorem works_ok : pcall D 33 [] = some (bv true) := by
  have h : isTrue ((lvl cx 3000).call 0 33 [] []) = true := by kernel_rfl
  obtain ⟨H, h⟩ := isTrue_spec h
  have h2 := den_call.2 ⟨3000, h⟩
  unfold pcall
  rw [show ([] : List AV).map cl2 = [] from rfl, h2]
  rfl

end Go.Abs.Tab
