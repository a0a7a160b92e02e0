/- The table of actors: Live. -/
import Derived.Test.YtiinagmombigpaaLowA
import Derived.Test.YtiinagmombigpaaEvS
import Derived.Test.YtiinagmombigpaaLowF
set_option linter.unusedSimpArgs false
set_option linter.unusedVariables false
set_option linter.unnecessarySimpa false

/- The table of actors: Live. -/
set_option linter.unusedVariables false
namespace Go.Abs.Tab

/-- a list that grows -/
def Gr (x : AV) (els : List AV) : Prop := x = .vec 1 .own els ∨ (x = .lit (.slice none 0 0) ∧ els = [])

theorem seq_body {ro m : Nat} {G : Hp} (hm : G.length = m) (hr : ro ≤ m) {x : AV} {els : List AV} (hx : Gr x els) {fr : PT} {r0 : ALoop} {i : Nat} (f2 : fr.get 2 = .ptr m 0 0) (f5 : fr.get 5 = iv i) (hL : els.length < 2 ^ 20) :
    ∃ fr', ex cx (den cx) ro 151 13 r151_0 fr (G ++ [.cells 1 31 [x], .loop r0]) = some (.normal, fr', G ++ [.cells 1 31 [.vec 1 .own (els ++ [iv i])], .loop r0]) := by
  have c0 : (els.length + 1) * 9 ≤ 1099511627776 := by omega
  have c1 : ∀ j, ro ≤ m + j := fun j => by omega
  have c2 : ∀ j, ¬ (m + j < ro) := fun j => by omega
  have c3 : ¬ (m < ro) := by omega
  unfold r151_0
  rcases hx with rfl | ⟨rfl, rfl⟩
  · simp -implicitDefEqProofs (maxDischargeDepth := 4) only [go_sem, decide_true, decide_false, beq_self_eq_true, ↓reduceIte, Nat.reduceLT, Nat.reduceAdd, Nat.reduceMul, Nat.reduceSub, Nat.reduceEqDiff, Nat.reduceLeDiff, Nat.reduceBEq, reduceCtorEq, Nat.succ_ne_zero, Bool.not_true, Bool.not_false, Bool.true_eq_false, Bool.false_eq_true, Bool.true_beq, Bool.false_beq, Int.reduceLT, Int.reduceLE, Int.reduceEq, Int.reduceNe, ne_eq, not_false_eq_true, not_true_eq_false, List.getElem?_cons_zero, List.getElem?_cons_succ, List.length_cons, List.length_nil, List.all_cons, List.all_nil, Bool.and_true, Bool.and_self, Bool.true_and, Bool.false_and, Bool.and_false, Bool.or_true, Bool.or_false, Bool.true_or, Bool.false_or, Bool.or_self, List.elem_cons, List.elem_nil, Nat.add_zero, Nat.zero_add, or_self, or_false, false_or, true_or, or_true, and_true, true_and, and_false, false_and, and_self, List.mem_cons, List.not_mem_nil, Nat.reducePow, elAt_eq, stV_eq, cellsB_cells, hp_get_r, hp_get_r0, hp_get_l, hp_set_r, hp_set_r0, hp_set_l, hp_one, hp_ne, List.drop_succ_cons, List.drop_zero, List.take_succ_cons, List.take_zero, f2, f5, hm, hr, c0, c1, c2, c3]
    exact ⟨_, rfl⟩
  · simp -implicitDefEqProofs (maxDischargeDepth := 4) only [go_sem, decide_true, decide_false, beq_self_eq_true, ↓reduceIte, Nat.reduceLT, Nat.reduceAdd, Nat.reduceMul, Nat.reduceSub, Nat.reduceEqDiff, Nat.reduceLeDiff, Nat.reduceBEq, reduceCtorEq, Nat.succ_ne_zero, Bool.not_true, Bool.not_false, Bool.true_eq_false, Bool.false_eq_true, Bool.true_beq, Bool.false_beq, Int.reduceLT, Int.reduceLE, Int.reduceEq, Int.reduceNe, ne_eq, not_false_eq_true, not_true_eq_false, List.getElem?_cons_zero, List.getElem?_cons_succ, List.length_cons, List.length_nil, List.all_cons, List.all_nil, Bool.and_true, Bool.and_self, Bool.true_and, Bool.false_and, Bool.and_false, Bool.or_true, Bool.or_false, Bool.true_or, Bool.false_or, Bool.or_self, List.elem_cons, List.elem_nil, Nat.add_zero, Nat.zero_add, or_self, or_false, false_or, true_or, or_true, and_true, true_and, and_false, false_and, and_self, List.mem_cons, List.not_mem_nil, Nat.reducePow, elAt_eq, stV_eq, cellsB_cells, hp_get_r, hp_get_r0, hp_get_l, hp_set_r, hp_set_r0, hp_set_l, hp_one, hp_ne, List.drop_succ_cons, List.drop_zero, List.take_succ_cons, List.take_zero, f2, f5, hm, hr, c0, c1, c2, c3]
    exact ⟨_, rfl⟩

/-- AppendSeq's loop -/
noncomputable def seqR (rfr : PT) : ALoop := { fn := 151, nt := 13, fr := rfr, params := [7], assign := q151_0, body := r151_0, state := .ready, pending := none }

theorem seq_round {ro m : Nat} {G : Hp} (hm : G.length = m) (hr : ro ≤ m) {x : AV} {els : List AV} (hx : Gr x els) {rfr : PT} {i : Nat} (f2 : rfr.get 2 = .ptr m 0 0) (hL : els.length < 2 ^ 20) :
    round D ro (m + 1) [iv i] (G ++ [.cells 1 31 [x], .loop (seqR rfr)]) = some (bv true, G ++ [.cells 1 31 [.vec 1 .own (els ++ [iv i])], .loop (seqR rfr)]) := by
  have hl : ∀ (q : ALoop) (a : AV), (G ++ [.cells 1 31 [a], ABlock.loop q])[m + 1]? = some (ABlock.loop q) := fun q a => by rw [hp_get_r hm]; rfl
  have e1 : ex cx D ro 151 13 q151_0 (setArgs [(7, iv i)] rfr) (G ++ [.cells 1 31 [x], .loop (seqR rfr)]) = some (.normal, (rfr.set 7 (iv i)).set 5 (iv i), G ++ [.cells 1 31 [x], .loop (seqR rfr)]) := by
    unfold q151_0
    simp -implicitDefEqProofs (maxDischargeDepth := 4) only [go_sem, decide_true, decide_false, beq_self_eq_true, ↓reduceIte, Nat.reduceLT, Nat.reduceAdd, Nat.reduceMul, Nat.reduceSub, Nat.reduceEqDiff, Nat.reduceLeDiff, Nat.reduceBEq, reduceCtorEq, Nat.succ_ne_zero, Bool.not_true, Bool.not_false, Bool.true_eq_false, Bool.false_eq_true, Bool.true_beq, Bool.false_beq, Int.reduceLT, Int.reduceLE, Int.reduceEq, Int.reduceNe, ne_eq, not_false_eq_true, not_true_eq_false, List.getElem?_cons_zero, List.getElem?_cons_succ, List.length_cons, List.length_nil, List.all_cons, List.all_nil, Bool.and_true, Bool.and_self, Bool.true_and, Bool.false_and, Bool.and_false, Bool.or_true, Bool.or_false, Bool.true_or, Bool.false_or, Bool.or_self, List.elem_cons, List.elem_nil, Nat.add_zero, Nat.zero_add, or_self, or_false, false_or, true_or, or_true, and_true, true_and, and_false, false_and, and_self, List.mem_cons, List.not_mem_nil, Nat.reducePow, elAt_eq, stV_eq, cellsB_cells, hp_get_r, hp_get_r0, hp_get_l, hp_set_r, hp_set_r0, hp_set_l, hp_one, hp_ne, List.drop_succ_cons, List.drop_zero, List.take_succ_cons, List.take_zero,]
  have e2 : (G ++ [.cells 1 31 [x], ABlock.loop (seqR rfr)]).set (m + 1) (ABlock.loop { seqR rfr with state := .busy }) = G ++ [.cells 1 31 [x], ABlock.loop { seqR rfr with state := .busy }] := by
    rw [hp_set_r hm]; rfl
  obtain ⟨fr', e3⟩ := seq_body hm hr hx (fr := (rfr.set 7 (iv i)).set 5 (iv i)) (r0 := { seqR rfr with state := .busy }) (i := i) (by simp -implicitDefEqProofs (maxDischargeDepth := 4) only [go_sem, decide_true, decide_false, beq_self_eq_true, ↓reduceIte, Nat.reduceLT, Nat.reduceAdd, Nat.reduceMul, Nat.reduceSub, Nat.reduceEqDiff, Nat.reduceLeDiff, Nat.reduceBEq, reduceCtorEq, Nat.succ_ne_zero, Bool.not_true, Bool.not_false, Bool.true_eq_false, Bool.false_eq_true, Bool.true_beq, Bool.false_beq, Int.reduceLT, Int.reduceLE, Int.reduceEq, Int.reduceNe, ne_eq, not_false_eq_true, not_true_eq_false, List.getElem?_cons_zero, List.getElem?_cons_succ, List.length_cons, List.length_nil, List.all_cons, List.all_nil, Bool.and_true, Bool.and_self, Bool.true_and, Bool.false_and, Bool.and_false, Bool.or_true, Bool.or_false, Bool.true_or, Bool.false_or, Bool.or_self, List.elem_cons, List.elem_nil, Nat.add_zero, Nat.zero_add, or_self, or_false, false_or, true_or, or_true, and_true, true_and, and_false, false_and, and_self, List.mem_cons, List.not_mem_nil, Nat.reducePow, f2]) (by simp -implicitDefEqProofs (maxDischargeDepth := 4) only [go_sem, decide_true, decide_false, beq_self_eq_true, ↓reduceIte, Nat.reduceLT, Nat.reduceAdd, Nat.reduceMul, Nat.reduceSub, Nat.reduceEqDiff, Nat.reduceLeDiff, Nat.reduceBEq, reduceCtorEq, Nat.succ_ne_zero, Bool.not_true, Bool.not_false, Bool.true_eq_false, Bool.false_eq_true, Bool.true_beq, Bool.false_beq, Int.reduceLT, Int.reduceLE, Int.reduceEq, Int.reduceNe, ne_eq, not_false_eq_true, not_true_eq_false, List.getElem?_cons_zero, List.getElem?_cons_succ, List.length_cons, List.length_nil, List.all_cons, List.all_nil, Bool.and_true, Bool.and_self, Bool.true_and, Bool.false_and, Bool.and_false, Bool.or_true, Bool.or_false, Bool.true_or, Bool.false_or, Bool.or_self, List.elem_cons, List.elem_nil, Nat.add_zero, Nat.zero_add, or_self, or_false, false_or, true_or, or_true, and_true, true_and, and_false, false_and, and_self, List.mem_cons, List.not_mem_nil, Nat.reducePow]) hL
  rw [round_eq (hl (seqR rfr) _) (by omega) rfl rfl rfl]
  rw [show setArgs ((seqR rfr).params.zip [iv i]) (seqR rfr).fr = setArgs [(7, iv i)] rfr from rfl, show ex cx (den cx) ro (seqR rfr).fn (seqR rfr).nt (seqR rfr).assign = ex cx D ro 151 13 q151_0 from rfl, e1, bodyRound_eq (hl (seqR rfr) _) rfl]
  rw [e2, show ex cx (den cx) ro (seqR rfr).fn (seqR rfr).nt (seqR rfr).body = ex cx D ro 151 13 r151_0 from rfl, e3]
  rw [endRound_normal (r := { seqR rfr with state := .busy }) (hl _ _), hp_set_r hm]
  rfl

/-- the live slots' places -/
def liveL : Nat → List (List AV) → List AV
  | _, [] => []
  | i, c :: l => if liveC c = true then iv i :: liveL (i + 1) l else liveL (i + 1) l
theorem liveL_len : ∀ (i : Nat) (l : List (List AV)), (liveL i l).length ≤ l.length
  | _, [] => Nat.le_refl _
  | i, c :: l => by
    have := liveL_len (i + 1) l
    simp only [liveL]
    split <;> simp only [List.length_cons] <;> omega

/-- the list that has grown from nothing -/
def grV : List AV → AV
  | [] => .lit (.slice none 0 0)
  | x :: l => .vec 1 .own (x :: l)
theorem grV_gr : ∀ els, Gr (grV els) els
  | [] => .inr ⟨rfl, rfl⟩
  | _ :: _ => .inl rfl
theorem grV_app (x : AV) : ∀ els, grV (els ++ [x]) = .vec 1 .own (els ++ [x])
  | [] => rfl
  | _ :: _ => rfl

theorem live_loop {ro m pb qb b1 b0 : Nat} {G : Hp} {sl : List (List AV)} (C : ∀ M, AllCtx (G ++ M) pb qb b1 b0 sl true) (hl : sl.length < 2 ^ 19) (hm : G.length = m) (hr : ro ≤ m) {rfr : PT} (f2 : rfr.get 2 = .ptr m 0 0) :
    ∀ (d i : Nat), i + d = sl.length → ∀ (els : List AV), els.length ≤ i → ∀ fr, AllFr fr (m + 1) pb qb sl.length i →
      ∃ fr', D.loop ro 150 30 l150_0 fr (G ++ [.cells 1 31 [grV els], .loop (seqR rfr)]) = some (.exit 0, fr', G ++ [.cells 1 31 [grV (els ++ liveL i (sl.drop i))], .loop (seqR rfr)]) := by
  intro d
  induction d with
  | zero =>
    intro i hi els he fr F
    rw [Nat.add_zero] at hi
    subst hi
    obtain ⟨fr', h⟩ := all_end (ro := ro) (C _) F
    refine ⟨fr', ?_⟩
    rw [List.drop_length, liveL, List.append_nil]
    exact h
  | succ d ih =>
    intro i hi els he fr F
    have hi' : i < sl.length := by omega
    have hc := List.getElem?_eq_getElem hi'
    rw [List.drop_eq_getElem_cons hi', liveL]
    by_cases hv : liveC sl[i] = true
    · rw [if_pos hv]
      refine all_yes (P := fun o => ∃ fr', o = some (.exit 0, fr', G ++ [.cells 1 31 [grV (els ++ iv i :: liveL (i + 1) (sl.drop (i + 1)))], .loop (seqR rfr)])) (C _) (by omega) F hi' hc hv (seq_round hm hr (grV_gr els) f2 (by omega)) fun fr' F' => ?_
      have hlen : (G ++ [ABlock.cells 1 31 [grV els], .loop (seqR rfr)]).length = (G ++ [ABlock.cells 1 31 [.vec 1 .own (els ++ [iv i])], .loop (seqR rfr)]).length := by simp
      rw [hlen, trimmed_same, ← grV_app]
      obtain ⟨fr2, h2⟩ := ih (i + 1) (by omega) (els ++ [iv i]) (by simp; omega) fr' F'
      refine ⟨fr2, ?_⟩
      rw [List.append_assoc] at h2
      exact h2
    · rw [if_neg hv]
      exact all_no (P := fun o => ∃ fr', o = some (.exit 0, fr', G ++ [.cells 1 31 [grV (els ++ liveL (i + 1) (sl.drop (i + 1)))], .loop (seqR rfr)])) (C _) (by omega) F hi' hc hv fun fr' F' => ih (i + 1) (by omega) els (by omega) fr' F'

theorem live_call {ro n b1 b0 : Nat} {H : Hp} {sl : List (List AV)} (T : TblAt H b1 b0 sl) (hn : H.length = n) (hr : ro ≤ n) (hl : sl.length < 2 ^ 19) {rfr : PT} (f2 : rfr.get 2 = .ptr (n + 2) 0 0) :
    callB cx D ro 150 [.yld (n + 3), .ptr n 0 0, .ptr (n + 1) 0 0] (H ++ [.cells 1 24 [.ptr b1 0 0], .cells 1 4 [bv true], .cells 1 31 [.lit (.slice none 0 0)], .loop { fn := 151, nt := 13, fr := rfr, params := [7], assign := q151_0, body := r151_0, state := .ready, pending := none }]) =
      some (.tup [], H ++ [.cells 1 24 [.ptr b1 0 0], .cells 1 4 [bv true], .cells 1 31 [grV (liveL 0 sl)], .loop (seqR rfr)]) := by
  have hb0 : b0 < H.length := lt_of_get T.sb
  have hb1 : b1 < H.length := lt_of_get T.tb
  let G : Hp := H ++ [.cells 1 24 [.ptr b1 0 0], .cells 1 4 [bv true]]
  have hG : G.length = n + 2 := by simp [G, hn]
  have C : ∀ M, AllCtx (G ++ M) n (n + 1) b1 b0 sl true := fun M => by
    have e : G ++ M = H ++ (.cells 1 24 [.ptr b1 0 0] :: .cells 1 4 [bv true] :: M) := by simp [G]
    rw [e]
    exact ⟨⟨by rw [hp_get_l hb1, T.tb], by rw [hp_get_l hb0, T.sb], T.ne, T.ok⟩, by rw [hp_get_r0 hn]; rfl, by rw [hp_get_r hn]; rfl⟩
  have e : ∀ x : AV, ∀ q : ALoop, H ++ [.cells 1 24 [.ptr b1 0 0], .cells 1 4 [bv true], .cells 1 31 [x], .loop q] = G ++ [.cells 1 31 [x], .loop q] := fun x q => by simp [G]
  rw [e, e]
  refine all_start (C _) fun fr F => ?_
  obtain ⟨fr2, h⟩ := live_loop (ro := ro) C hl hG (by omega) f2 sl.length 0 (by omega) [] (Nat.le_refl _) fr F
  rw [show grV [] = .lit (.slice none 0 0) from rfl] at h
  rw [show D.loop ro 150 30 l150_0 fr (G ++ [.cells 1 31 [.lit (.slice none 0 0)], .loop { fn := 151, nt := 13, fr := rfr, params := [7], assign := q151_0, body := r151_0, state := .ready, pending := none }]) = _ from h]
  simp -implicitDefEqProofs (maxDischargeDepth := 4) only [go_sem, decide_true, decide_false, beq_self_eq_true, ↓reduceIte, Nat.reduceLT, Nat.reduceAdd, Nat.reduceMul, Nat.reduceSub, Nat.reduceEqDiff, Nat.reduceLeDiff, Nat.reduceBEq, reduceCtorEq, Nat.succ_ne_zero, Bool.not_true, Bool.not_false, Bool.true_eq_false, Bool.false_eq_true, Bool.true_beq, Bool.false_beq, Int.reduceLT, Int.reduceLE, Int.reduceEq, Int.reduceNe, ne_eq, not_false_eq_true, not_true_eq_false, List.getElem?_cons_zero, List.getElem?_cons_succ, List.length_cons, List.length_nil, List.all_cons, List.all_nil, Bool.and_true, Bool.and_self, Bool.true_and, Bool.false_and, Bool.and_false, Bool.or_true, Bool.or_false, Bool.true_or, Bool.false_or, Bool.or_self, List.elem_cons, List.elem_nil, Nat.add_zero, Nat.zero_add, or_self, or_false, false_or, true_or, or_true, and_true, true_and, and_false, false_and, and_self, List.mem_cons, List.not_mem_nil, Nat.reducePow, List.drop_zero, List.nil_append]

theorem live_ok {ro b1 b0 : Nat} {H : Hp} {sl : List (List AV)} (T : TblAt H b1 b0 sl) (hr : ro ≤ H.length) (hl : sl.length < 2 ^ 19) :
    ∃ L x, Sl 1 x (liveL 0 sl) ∧ callB cx D ro 38 [.ptr b1 0 0] H = some (x, H ++ L) := by
  obtain ⟨n, hn⟩ : ∃ n, H.length = n := ⟨_, rfl⟩
  have c1 : ∀ j, ro ≤ n + j := fun j => by omega
  have c2 : ∀ j, ¬ (n + j < ro) := fun j => by omega
  rw [hn] at hr
  have key : ∀ rfr : PT, rfr.get 2 = .ptr (n + 2) 0 0 → _ := fun rfr f2 => live_call T hn hr hl f2
  simp only [seqR] at key
  obtain ⟨g, hg⟩ : ∃ g, grV (liveL 0 sl) = g := ⟨_, rfl⟩
  rw [hg] at key
  have hgr : Gr g (liveL 0 sl) := hg ▸ grV_gr _
  rw [c38]
  rcases hgr with hgr | ⟨hgr, hnil⟩
  · subst hgr
    simp -implicitDefEqProofs (maxDischargeDepth := 4) only [go_sem, decide_true, decide_false, beq_self_eq_true, ↓reduceIte, Nat.reduceLT, Nat.reduceAdd, Nat.reduceMul, Nat.reduceSub, Nat.reduceEqDiff, Nat.reduceLeDiff, Nat.reduceBEq, reduceCtorEq, Nat.succ_ne_zero, Bool.not_true, Bool.not_false, Bool.true_eq_false, Bool.false_eq_true, Bool.true_beq, Bool.false_beq, Int.reduceLT, Int.reduceLE, Int.reduceEq, Int.reduceNe, ne_eq, not_false_eq_true, not_true_eq_false, List.getElem?_cons_zero, List.getElem?_cons_succ, List.length_cons, List.length_nil, List.all_cons, List.all_nil, Bool.and_true, Bool.and_self, Bool.true_and, Bool.false_and, Bool.and_false, Bool.or_true, Bool.or_false, Bool.true_or, Bool.false_or, Bool.or_self, List.elem_cons, List.elem_nil, Nat.add_zero, Nat.zero_add, or_self, or_false, false_or, true_or, or_true, and_true, true_and, and_false, false_and, and_self, List.mem_cons, List.not_mem_nil, Nat.reducePow, elAt_eq, stV_eq, cellsB_cells, hp_get_r, hp_get_r0, hp_get_l, hp_set_r, hp_set_r0, hp_set_l, hp_one, hp_ne, List.drop_succ_cons, List.drop_zero, List.take_succ_cons, List.take_zero, hn, hr, c1, c2, all_ok, Nat.add_assoc, c110, c151, x_range, ranged_fn, den_call_eq, key, endLoop_x, loopOf_loop, Option.getD_none, Option.getD_some]
    exact ⟨_, _, .inr (.inl rfl), rfl⟩
  · subst hgr
    rw [hnil]
    simp -implicitDefEqProofs (maxDischargeDepth := 4) only [go_sem, decide_true, decide_false, beq_self_eq_true, ↓reduceIte, Nat.reduceLT, Nat.reduceAdd, Nat.reduceMul, Nat.reduceSub, Nat.reduceEqDiff, Nat.reduceLeDiff, Nat.reduceBEq, reduceCtorEq, Nat.succ_ne_zero, Bool.not_true, Bool.not_false, Bool.true_eq_false, Bool.false_eq_true, Bool.true_beq, Bool.false_beq, Int.reduceLT, Int.reduceLE, Int.reduceEq, Int.reduceNe, ne_eq, not_false_eq_true, not_true_eq_false, List.getElem?_cons_zero, List.getElem?_cons_succ, List.length_cons, List.length_nil, List.all_cons, List.all_nil, Bool.and_true, Bool.and_self, Bool.true_and, Bool.false_and, Bool.and_false, Bool.or_true, Bool.or_false, Bool.true_or, Bool.false_or, Bool.or_self, List.elem_cons, List.elem_nil, Nat.add_zero, Nat.zero_add, or_self, or_false, false_or, true_or, or_true, and_true, true_and, and_false, false_and, and_self, List.mem_cons, List.not_mem_nil, Nat.reducePow, elAt_eq, stV_eq, cellsB_cells, hp_get_r, hp_get_r0, hp_get_l, hp_set_r, hp_set_r0, hp_set_l, hp_one, hp_ne, List.drop_succ_cons, List.drop_zero, List.take_succ_cons, List.take_zero, hn, hr, c1, c2, all_ok, Nat.add_assoc, c110, c151, x_range, ranged_fn, den_call_eq, key, endLoop_x, loopOf_loop, Option.getD_none, Option.getD_some]
    exact ⟨_, _, .inr (.inr ⟨rfl, rfl⟩), rfl⟩
end Go.Abs.Tab

/- Are two lists of numbers alike? (ints) -/
set_option linter.unusedVariables false
namespace Go.Abs.Tab

theorem ints_loop {ro : Nat} {H : Hp} {a b : AV} {xs ys : List Int} (ha : Sl 1 a (xs.map iv)) (hb : Sl 1 b (ys.map iv)) (hl : xs.length = ys.length) (hx : xs.length < 2 ^ 62) : ∀ (m i : Nat) (fr : PT), xs.length - i = m → i ≤ xs.length →
    fr.get 0 = a → fr.get 1 = b → fr.get 5 = iv i → ∃ e fr', D.loop ro 37 26 l37_0 fr H = some (e, fr', H) ∧ (if xs.drop i = ys.drop i then e = .exit 0 else (e = .ret ∧ fr'.get 4 = .lit (.bool false)))
  | 0, i, fr, hm, hi, h0, h1, h5 => by
    have hn : ¬ ((i : Int) < (xs.length : Int)) := by omega
    rw [den_loop_x]
    unfold l37_0
    simp -implicitDefEqProofs (maxDischargeDepth := 4) only [go_sem, decide_true, decide_false, beq_self_eq_true, ↓reduceIte, Nat.reduceLT, Nat.reduceAdd, Nat.reduceMul, Nat.reduceSub, Nat.reduceEqDiff, Nat.reduceLeDiff, Nat.reduceBEq, reduceCtorEq, Nat.succ_ne_zero, Bool.not_true, Bool.not_false, Bool.true_eq_false, Bool.false_eq_true, Bool.true_beq, Bool.false_beq, Int.reduceLT, Int.reduceLE, Int.reduceEq, Int.reduceNe, ne_eq, not_false_eq_true, not_true_eq_false, List.getElem?_cons_zero, List.getElem?_cons_succ, List.length_cons, List.length_nil, List.all_cons, List.all_nil, Bool.and_true, Bool.and_self, Bool.true_and, Bool.false_and, Bool.and_false, Bool.or_true, Bool.or_false, Bool.true_or, Bool.false_or, Bool.or_self, List.elem_cons, List.elem_nil, Nat.add_zero, Nat.zero_add, or_self, or_false, false_or, true_or, or_true, and_true, true_and, and_false, false_and, and_self, List.mem_cons, List.not_mem_nil, Nat.reducePow, h0, h1, h5, ha.notOwn, ha.shr, hb.notOwn, hb.shr, alen_sl ha, List.length_map, sl31, Option.isSome_some, hn]
    refine ⟨_, _, rfl, ?_⟩
    rw [List.drop_eq_nil_of_le (by omega), List.drop_eq_nil_of_le (by omega)]
    simp
  | m + 1, i, fr, hm, hi, h0, h1, h5 => by
    have hn : ((i : Int) < (xs.length : Int)) := by omega
    have e1 : aindexAddr cx.T 31 a (iv i) = some (.vp (iv (xs.getD i 0)) 0) := by rw [aindexAddr_sl ha sl31 (by simp; omega) rfl, getD_map iv xs 0 (by omega)]
    have e2 : aindexAddr cx.T 31 b (iv i) = some (.vp (iv (ys.getD i 0)) 0) := by rw [aindexAddr_sl hb sl31 (by simp; omega) rfl, getD_map iv ys 0 (by omega)]
    have e3 : wrapK .i64 ((i : Int) + 1) = ((i + 1 : Nat) : Int) := by rw [wrapK_i64 (by omega) (by omega)]; rfl
    have d1 : xs.drop i = xs.getD i 0 :: xs.drop (i + 1) := by
      rw [List.drop_eq_getElem_cons (by omega)]; simp [List.getD_eq_getElem?_getD, List.getElem?_eq_getElem (show i < xs.length by omega)]
    have d2 : ys.drop i = ys.getD i 0 :: ys.drop (i + 1) := by
      rw [List.drop_eq_getElem_cons (by omega)]; simp [List.getD_eq_getElem?_getD, List.getElem?_eq_getElem (show i < ys.length by omega)]
    rw [den_loop_x]
    unfold l37_0
    by_cases hc : xs.getD i 0 = ys.getD i 0
    · simp only [d1, d2, hc, List.cons.injEq, true_and]
      simp -implicitDefEqProofs (maxDischargeDepth := 4) only [go_sem, decide_true, decide_false, beq_self_eq_true, ↓reduceIte, Nat.reduceLT, Nat.reduceAdd, Nat.reduceMul, Nat.reduceSub, Nat.reduceEqDiff, Nat.reduceLeDiff, Nat.reduceBEq, reduceCtorEq, Nat.succ_ne_zero, Bool.not_true, Bool.not_false, Bool.true_eq_false, Bool.false_eq_true, Bool.true_beq, Bool.false_beq, Int.reduceLT, Int.reduceLE, Int.reduceEq, Int.reduceNe, ne_eq, not_false_eq_true, not_true_eq_false, List.getElem?_cons_zero, List.getElem?_cons_succ, List.length_cons, List.length_nil, List.all_cons, List.all_nil, Bool.and_true, Bool.and_self, Bool.true_and, Bool.false_and, Bool.and_false, Bool.or_true, Bool.or_false, Bool.true_or, Bool.false_or, Bool.or_self, List.elem_cons, List.elem_nil, Nat.add_zero, Nat.zero_add, or_self, or_false, false_or, true_or, or_true, and_true, true_and, and_false, false_and, and_self, List.mem_cons, List.not_mem_nil, Nat.reducePow, h0, h1, h5, ha.notOwn, ha.shr, hb.notOwn, hb.shr, alen_sl ha, List.length_map, sl31, Option.isSome_some, hn, e1, e2, hc, e3]
      refine ints_loop ha hb hl hx m (i + 1) _ (by omega) (by omega) ?_ ?_ ?_ <;> simp -implicitDefEqProofs (maxDischargeDepth := 4) only [go_sem, decide_true, decide_false, beq_self_eq_true, ↓reduceIte, Nat.reduceLT, Nat.reduceAdd, Nat.reduceMul, Nat.reduceSub, Nat.reduceEqDiff, Nat.reduceLeDiff, Nat.reduceBEq, reduceCtorEq, Nat.succ_ne_zero, Bool.not_true, Bool.not_false, Bool.true_eq_false, Bool.false_eq_true, Bool.true_beq, Bool.false_beq, Int.reduceLT, Int.reduceLE, Int.reduceEq, Int.reduceNe, ne_eq, not_false_eq_true, not_true_eq_false, List.getElem?_cons_zero, List.getElem?_cons_succ, List.length_cons, List.length_nil, List.all_cons, List.all_nil, Bool.and_true, Bool.and_self, Bool.true_and, Bool.false_and, Bool.and_false, Bool.or_true, Bool.or_false, Bool.true_or, Bool.false_or, Bool.or_self, List.elem_cons, List.elem_nil, Nat.add_zero, Nat.zero_add, or_self, or_false, false_or, true_or, or_true, and_true, true_and, and_false, false_and, and_self, List.mem_cons, List.not_mem_nil, Nat.reducePow, h0, h1]
    · simp -implicitDefEqProofs (maxDischargeDepth := 4) only [go_sem, decide_true, decide_false, beq_self_eq_true, ↓reduceIte, Nat.reduceLT, Nat.reduceAdd, Nat.reduceMul, Nat.reduceSub, Nat.reduceEqDiff, Nat.reduceLeDiff, Nat.reduceBEq, reduceCtorEq, Nat.succ_ne_zero, Bool.not_true, Bool.not_false, Bool.true_eq_false, Bool.false_eq_true, Bool.true_beq, Bool.false_beq, Int.reduceLT, Int.reduceLE, Int.reduceEq, Int.reduceNe, ne_eq, not_false_eq_true, not_true_eq_false, List.getElem?_cons_zero, List.getElem?_cons_succ, List.length_cons, List.length_nil, List.all_cons, List.all_nil, Bool.and_true, Bool.and_self, Bool.true_and, Bool.false_and, Bool.and_false, Bool.or_true, Bool.or_false, Bool.true_or, Bool.false_or, Bool.or_self, List.elem_cons, List.elem_nil, Nat.add_zero, Nat.zero_add, or_self, or_false, false_or, true_or, or_true, and_true, true_and, and_false, false_and, and_self, List.mem_cons, List.not_mem_nil, Nat.reducePow, h0, h1, h5, ha.notOwn, ha.shr, hb.notOwn, hb.shr, alen_sl ha, List.length_map, sl31, Option.isSome_some, hn, e1, e2, hc]
      refine ⟨_, _, rfl, ?_⟩
      rw [d1, d2]
      simp -implicitDefEqProofs (maxDischargeDepth := 4) only [go_sem, decide_true, decide_false, beq_self_eq_true, ↓reduceIte, Nat.reduceLT, Nat.reduceAdd, Nat.reduceMul, Nat.reduceSub, Nat.reduceEqDiff, Nat.reduceLeDiff, Nat.reduceBEq, reduceCtorEq, Nat.succ_ne_zero, Bool.not_true, Bool.not_false, Bool.true_eq_false, Bool.false_eq_true, Bool.true_beq, Bool.false_beq, Int.reduceLT, Int.reduceLE, Int.reduceEq, Int.reduceNe, ne_eq, not_false_eq_true, not_true_eq_false, List.getElem?_cons_zero, List.getElem?_cons_succ, List.length_cons, List.length_nil, List.all_cons, List.all_nil, Bool.and_true, Bool.and_self, Bool.true_and, Bool.false_and, Bool.and_false, Bool.or_true, Bool.or_false, Bool.true_or, Bool.false_or, Bool.or_self, List.elem_cons, List.elem_nil, Nat.add_zero, Nat.zero_add, or_self, or_false, false_or, true_or, or_true, and_true, true_and, and_false, false_and, and_self, List.mem_cons, List.not_mem_nil, Nat.reducePow, hc, List.cons.injEq, false_and, and_self]

theorem ints_call {ro : Nat} {H : Hp} {a b : AV} {xs ys : List Int} (ha : Sl 1 a (xs.map iv)) (hb : Sl 1 b (ys.map iv)) (hx : xs.length < 2 ^ 62) : callB cx D ro 37 [a, b] H = some (bv (decide (xs = ys)), H) := by
  rw [c37]
  by_cases hl : xs.length = ys.length
  · have hl' : (xs.length : Int) = (ys.length : Int) := by omega
    obtain ⟨e, fr', h1, h2⟩ := ints_loop (ro := ro) (H := H) ha hb hl hx xs.length 0 (((((((((PT.nil.set 0 a).set 1 b).set 4 (.lit (.bool false))).set 6 a).set 7 (.lit (.int .i64 (ys.length : Int)))).set 8 b).set 9 (.lit (.int .i64 (ys.length : Int)))).set 10 (.lit (.bool false))).set 5 (.lit (.int .i64 0))) (by omega) (by omega) (by simp -implicitDefEqProofs (maxDischargeDepth := 4) only [go_sem, decide_true, decide_false, beq_self_eq_true, ↓reduceIte, Nat.reduceLT, Nat.reduceAdd, Nat.reduceMul, Nat.reduceSub, Nat.reduceEqDiff, Nat.reduceLeDiff, Nat.reduceBEq, reduceCtorEq, Nat.succ_ne_zero, Bool.not_true, Bool.not_false, Bool.true_eq_false, Bool.false_eq_true, Bool.true_beq, Bool.false_beq, Int.reduceLT, Int.reduceLE, Int.reduceEq, Int.reduceNe, ne_eq, not_false_eq_true, not_true_eq_false, List.getElem?_cons_zero, List.getElem?_cons_succ, List.length_cons, List.length_nil, List.all_cons, List.all_nil, Bool.and_true, Bool.and_self, Bool.true_and, Bool.false_and, Bool.and_false, Bool.or_true, Bool.or_false, Bool.true_or, Bool.false_or, Bool.or_self, List.elem_cons, List.elem_nil, Nat.add_zero, Nat.zero_add, or_self, or_false, false_or, true_or, or_true, and_true, true_and, and_false, false_and, and_self, List.mem_cons, List.not_mem_nil, Nat.reducePow]) (by simp -implicitDefEqProofs (maxDischargeDepth := 4) only [go_sem, decide_true, decide_false, beq_self_eq_true, ↓reduceIte, Nat.reduceLT, Nat.reduceAdd, Nat.reduceMul, Nat.reduceSub, Nat.reduceEqDiff, Nat.reduceLeDiff, Nat.reduceBEq, reduceCtorEq, Nat.succ_ne_zero, Bool.not_true, Bool.not_false, Bool.true_eq_false, Bool.false_eq_true, Bool.true_beq, Bool.false_beq, Int.reduceLT, Int.reduceLE, Int.reduceEq, Int.reduceNe, ne_eq, not_false_eq_true, not_true_eq_false, List.getElem?_cons_zero, List.getElem?_cons_succ, List.length_cons, List.length_nil, List.all_cons, List.all_nil, Bool.and_true, Bool.and_self, Bool.true_and, Bool.false_and, Bool.and_false, Bool.or_true, Bool.or_false, Bool.true_or, Bool.false_or, Bool.or_self, List.elem_cons, List.elem_nil, Nat.add_zero, Nat.zero_add, or_self, or_false, false_or, true_or, or_true, and_true, true_and, and_false, false_and, and_self, List.mem_cons, List.not_mem_nil, Nat.reducePow]) (by simp -implicitDefEqProofs (maxDischargeDepth := 4) only [go_sem, decide_true, decide_false, beq_self_eq_true, ↓reduceIte, Nat.reduceLT, Nat.reduceAdd, Nat.reduceMul, Nat.reduceSub, Nat.reduceEqDiff, Nat.reduceLeDiff, Nat.reduceBEq, reduceCtorEq, Nat.succ_ne_zero, Bool.not_true, Bool.not_false, Bool.true_eq_false, Bool.false_eq_true, Bool.true_beq, Bool.false_beq, Int.reduceLT, Int.reduceLE, Int.reduceEq, Int.reduceNe, ne_eq, not_false_eq_true, not_true_eq_false, List.getElem?_cons_zero, List.getElem?_cons_succ, List.length_cons, List.length_nil, List.all_cons, List.all_nil, Bool.and_true, Bool.and_self, Bool.true_and, Bool.false_and, Bool.and_false, Bool.or_true, Bool.or_false, Bool.true_or, Bool.false_or, Bool.or_self, List.elem_cons, List.elem_nil, Nat.add_zero, Nat.zero_add, or_self, or_false, false_or, true_or, or_true, and_true, true_and, and_false, false_and, and_self, List.mem_cons, List.not_mem_nil, Nat.reducePow, Int.ofNat_zero])
    rw [List.drop_zero, List.drop_zero] at h2
    simp -implicitDefEqProofs (maxDischargeDepth := 4) only [go_sem, decide_true, decide_false, beq_self_eq_true, ↓reduceIte, Nat.reduceLT, Nat.reduceAdd, Nat.reduceMul, Nat.reduceSub, Nat.reduceEqDiff, Nat.reduceLeDiff, Nat.reduceBEq, reduceCtorEq, Nat.succ_ne_zero, Bool.not_true, Bool.not_false, Bool.true_eq_false, Bool.false_eq_true, Bool.true_beq, Bool.false_beq, Int.reduceLT, Int.reduceLE, Int.reduceEq, Int.reduceNe, ne_eq, not_false_eq_true, not_true_eq_false, List.getElem?_cons_zero, List.getElem?_cons_succ, List.length_cons, List.length_nil, List.all_cons, List.all_nil, Bool.and_true, Bool.and_self, Bool.true_and, Bool.false_and, Bool.and_false, Bool.or_true, Bool.or_false, Bool.true_or, Bool.false_or, Bool.or_self, List.elem_cons, List.elem_nil, Nat.add_zero, Nat.zero_add, or_self, or_false, false_or, true_or, or_true, and_true, true_and, and_false, false_and, and_self, List.mem_cons, List.not_mem_nil, Nat.reducePow, ha.notOwn, ha.shr, ha.drp, hb.drp, hb.notOwn, hb.shr, alen_sl ha, alen_sl hb, List.length_map, hl', x_loop, h1]
    by_cases hxy : xs = ys
    · rw [if_pos hxy] at h2
      subst h2
      simp -implicitDefEqProofs (maxDischargeDepth := 4) only [go_sem, decide_true, decide_false, beq_self_eq_true, ↓reduceIte, Nat.reduceLT, Nat.reduceAdd, Nat.reduceMul, Nat.reduceSub, Nat.reduceEqDiff, Nat.reduceLeDiff, Nat.reduceBEq, reduceCtorEq, Nat.succ_ne_zero, Bool.not_true, Bool.not_false, Bool.true_eq_false, Bool.false_eq_true, Bool.true_beq, Bool.false_beq, Int.reduceLT, Int.reduceLE, Int.reduceEq, Int.reduceNe, ne_eq, not_false_eq_true, not_true_eq_false, List.getElem?_cons_zero, List.getElem?_cons_succ, List.length_cons, List.length_nil, List.all_cons, List.all_nil, Bool.and_true, Bool.and_self, Bool.true_and, Bool.false_and, Bool.and_false, Bool.or_true, Bool.or_false, Bool.true_or, Bool.false_or, Bool.or_self, List.elem_cons, List.elem_nil, Nat.add_zero, Nat.zero_add, or_self, or_false, false_or, true_or, or_true, and_true, true_and, and_false, false_and, and_self, List.mem_cons, List.not_mem_nil, Nat.reducePow, hxy]
    · rw [if_neg hxy] at h2
      obtain ⟨rfl, h3⟩ := h2
      simp -implicitDefEqProofs (maxDischargeDepth := 4) only [go_sem, decide_true, decide_false, beq_self_eq_true, ↓reduceIte, Nat.reduceLT, Nat.reduceAdd, Nat.reduceMul, Nat.reduceSub, Nat.reduceEqDiff, Nat.reduceLeDiff, Nat.reduceBEq, reduceCtorEq, Nat.succ_ne_zero, Bool.not_true, Bool.not_false, Bool.true_eq_false, Bool.false_eq_true, Bool.true_beq, Bool.false_beq, Int.reduceLT, Int.reduceLE, Int.reduceEq, Int.reduceNe, ne_eq, not_false_eq_true, not_true_eq_false, List.getElem?_cons_zero, List.getElem?_cons_succ, List.length_cons, List.length_nil, List.all_cons, List.all_nil, Bool.and_true, Bool.and_self, Bool.true_and, Bool.false_and, Bool.and_false, Bool.or_true, Bool.or_false, Bool.true_or, Bool.false_or, Bool.or_self, List.elem_cons, List.elem_nil, Nat.add_zero, Nat.zero_add, or_self, or_false, false_or, true_or, or_true, and_true, true_and, and_false, false_and, and_self, List.mem_cons, List.not_mem_nil, Nat.reducePow, hxy, h3]
  · have hl' : ¬ (xs.length : Int) = (ys.length : Int) := by omega
    have hne : ¬ xs = ys := fun h => hl (by rw [h])
    simp -implicitDefEqProofs (maxDischargeDepth := 4) only [go_sem, decide_true, decide_false, beq_self_eq_true, ↓reduceIte, Nat.reduceLT, Nat.reduceAdd, Nat.reduceMul, Nat.reduceSub, Nat.reduceEqDiff, Nat.reduceLeDiff, Nat.reduceBEq, reduceCtorEq, Nat.succ_ne_zero, Bool.not_true, Bool.not_false, Bool.true_eq_false, Bool.false_eq_true, Bool.true_beq, Bool.false_beq, Int.reduceLT, Int.reduceLE, Int.reduceEq, Int.reduceNe, ne_eq, not_false_eq_true, not_true_eq_false, List.getElem?_cons_zero, List.getElem?_cons_succ, List.length_cons, List.length_nil, List.all_cons, List.all_nil, Bool.and_true, Bool.and_self, Bool.true_and, Bool.false_and, Bool.and_false, Bool.or_true, Bool.or_false, Bool.true_or, Bool.false_or, Bool.or_self, List.elem_cons, List.elem_nil, Nat.add_zero, Nat.zero_add, or_self, or_false, false_or, true_or, or_true, and_true, true_and, and_false, false_and, and_self, List.mem_cons, List.not_mem_nil, Nat.reducePow, ha.notOwn, ha.shr, ha.drp, hb.drp, hb.notOwn, hb.shr, alen_sl ha, alen_sl hb, List.length_map, hl', hne]
theorem ints_ok {a b : AV} {xs ys : List Int} (ha : Sl 1 a (xs.map iv)) (hb : Sl 1 b (ys.map iv)) (hx : xs.length < 2 ^ 62) : pcall D 37 [a, b] = some (bv (decide (xs = ys))) := by
  exact pcall_eq (v := bv (decide (xs = ys))) (H' := []) (by rw [List.map_cons, List.map_cons, List.map_nil, ha.cl2, hb.cl2]; exact ints_call ha hb hx)
end Go.Abs.Tab

/- ActorsLowest: its inner loops. -/
set_option linter.unusedVariables false
namespace Go.Abs.Tab

/-- the first free place -/
def lowL : Nat → List Bool → Int
  | _, [] => -1
  | i, b :: l => if b = false then i else lowL (i + 1) l
/-- the places that are taken -/
def takenL : Nat → List Bool → List AV
  | _, [] => []
  | i, b :: l => if b = true then iv i :: takenL (i + 1) l else takenL (i + 1) l

structure LFr (fr : PT) (a : AV) (n i : Nat) : Prop where
  f1 : fr.get 1 = a
  f5 : fr.get 5 = iv n
  f6 : fr.get 6 = .ptr 1 0 0
  f7 : fr.get 7 = .sl 2 1 0 n n
  f8 : fr.get 8 = iv i
structure HIs (G : Hp) (sl : List (List AV)) (bs : List Bool) : Prop extends TblAt G 1 0 sl where
  hb : G[2]? = some (.cells 1 4 (bs.map bv))
  kl : ∀ c ∈ sl, c.map (kill0 3) = c

section
variable {a : AV} {n i : Nat} {G : Hp} {sl : List (List AV)} {bs : List Bool}
theorem low_loop (ha : isOwn a = false) (K : HIs G sl bs) (hn : bs.length = n) (hn2 : n ≤ 32) : ∀ (k : Nat), k ≤ n → ∀ fr, LFr fr a n i → fr.get 10 = iv ((k : Int) - 1) → fr.get 9 = iv (lowL k (bs.drop k)) →
    ∃ fr', D.loop 0 3 113 l3_0 fr G = some (.exit 2, fr', G) ∧ LFr fr' a n i ∧ fr'.get 9 = iv (lowL 0 bs) := by
  intro k
  induction k with
  | zero =>
    intro _ fr F h10 h9
    have e1 : ¬ ((0 : Int) ≤ ((0 : Nat) : Int) - 1) := by omega
    rw [dl3_0]
    simp -implicitDefEqProofs (maxDischargeDepth := 4) only [go_sem, decide_true, decide_false, beq_self_eq_true, ↓reduceIte, Nat.reduceLT, Nat.reduceAdd, Nat.reduceMul, Nat.reduceSub, Nat.reduceEqDiff, Nat.reduceLeDiff, Nat.reduceBEq, reduceCtorEq, Nat.succ_ne_zero, Bool.not_true, Bool.not_false, Bool.true_eq_false, Bool.false_eq_true, Bool.true_beq, Bool.false_beq, Int.reduceLT, Int.reduceLE, Int.reduceEq, Int.reduceNe, ne_eq, not_false_eq_true, not_true_eq_false, List.getElem?_cons_zero, List.getElem?_cons_succ, List.length_cons, List.length_nil, List.all_cons, List.all_nil, Bool.and_true, Bool.and_self, Bool.true_and, Bool.false_and, Bool.and_false, Bool.or_true, Bool.or_false, Bool.true_or, Bool.false_or, Bool.or_self, List.elem_cons, List.elem_nil, Nat.add_zero, Nat.zero_add, or_self, or_false, false_or, true_or, or_true, and_true, true_and, and_false, false_and, and_self, List.mem_cons, List.not_mem_nil, Nat.reducePow, F.f1, F.f5, F.f6, F.f7, F.f8, h10, h9, e1]
    refine ⟨_, rfl, ?_, ?_⟩
    · constructor <;> simp -implicitDefEqProofs (maxDischargeDepth := 4) only [go_sem, decide_true, decide_false, beq_self_eq_true, ↓reduceIte, Nat.reduceLT, Nat.reduceAdd, Nat.reduceMul, Nat.reduceSub, Nat.reduceEqDiff, Nat.reduceLeDiff, Nat.reduceBEq, reduceCtorEq, Nat.succ_ne_zero, Bool.not_true, Bool.not_false, Bool.true_eq_false, Bool.false_eq_true, Bool.true_beq, Bool.false_beq, Int.reduceLT, Int.reduceLE, Int.reduceEq, Int.reduceNe, ne_eq, not_false_eq_true, not_true_eq_false, List.getElem?_cons_zero, List.getElem?_cons_succ, List.length_cons, List.length_nil, List.all_cons, List.all_nil, Bool.and_true, Bool.and_self, Bool.true_and, Bool.false_and, Bool.and_false, Bool.or_true, Bool.or_false, Bool.true_or, Bool.false_or, Bool.or_self, List.elem_cons, List.elem_nil, Nat.add_zero, Nat.zero_add, or_self, or_false, false_or, true_or, or_true, and_true, true_and, and_false, false_and, and_self, List.mem_cons, List.not_mem_nil, Nat.reducePow, F.f1, F.f5, F.f6, F.f7, F.f8]
    · simp -implicitDefEqProofs (maxDischargeDepth := 4) only [go_sem, decide_true, decide_false, beq_self_eq_true, ↓reduceIte, Nat.reduceLT, Nat.reduceAdd, Nat.reduceMul, Nat.reduceSub, Nat.reduceEqDiff, Nat.reduceLeDiff, Nat.reduceBEq, reduceCtorEq, Nat.succ_ne_zero, Bool.not_true, Bool.not_false, Bool.true_eq_false, Bool.false_eq_true, Bool.true_beq, Bool.false_beq, Int.reduceLT, Int.reduceLE, Int.reduceEq, Int.reduceNe, ne_eq, not_false_eq_true, not_true_eq_false, List.getElem?_cons_zero, List.getElem?_cons_succ, List.length_cons, List.length_nil, List.all_cons, List.all_nil, Bool.and_true, Bool.and_self, Bool.true_and, Bool.false_and, Bool.and_false, Bool.or_true, Bool.or_false, Bool.true_or, Bool.false_or, Bool.or_self, List.elem_cons, List.elem_nil, Nat.add_zero, Nat.zero_add, or_self, or_false, false_or, true_or, or_true, and_true, true_and, and_false, false_and, and_self, List.mem_cons, List.not_mem_nil, Nat.reducePow, h9, List.drop_zero]
  | succ k ih =>
    intro hk fr F h10 h9
    have hkb : k < bs.length := by omega
    have e0 : ((k + 1 : Nat) : Int) - 1 = (k : Int) := by omega
    have e1 : ((0 : Int) ≤ (k : Int)) := by omega
    have e2 : aindexAddr cx.T 26 (.sl 2 1 0 n n) (iv k) = some (.ptr 2 k 0) := by rw [aindexAddr_blk sl26 rfl (by omega), Nat.zero_add]
    have e3 : elAt G 2 k = some (bv bs[k]) := by rw [elAt_of K.hb, List.getElem?_map, List.getElem?_eq_getElem hkb]; rfl
    have e4 : wrapK .i64 ((k : Int) - 1) = (k : Int) - 1 := wrapK_i64 (by omega) (by omega)
    have e5 : lowL k (bs.drop k) = if bs[k] = false then (k : Int) else lowL (k + 1) (bs.drop (k + 1)) := by rw [List.drop_eq_getElem_cons hkb, lowL]
    rw [e0] at h10
    rw [dl3_0]
    cases hb : bs[k] with
    | true =>
      rw [hb] at e3 e5
      simp -implicitDefEqProofs (maxDischargeDepth := 4) only [go_sem, decide_true, decide_false, beq_self_eq_true, ↓reduceIte, Nat.reduceLT, Nat.reduceAdd, Nat.reduceMul, Nat.reduceSub, Nat.reduceEqDiff, Nat.reduceLeDiff, Nat.reduceBEq, reduceCtorEq, Nat.succ_ne_zero, Bool.not_true, Bool.not_false, Bool.true_eq_false, Bool.false_eq_true, Bool.true_beq, Bool.false_beq, Int.reduceLT, Int.reduceLE, Int.reduceEq, Int.reduceNe, ne_eq, not_false_eq_true, not_true_eq_false, List.getElem?_cons_zero, List.getElem?_cons_succ, List.length_cons, List.length_nil, List.all_cons, List.all_nil, Bool.and_true, Bool.and_self, Bool.true_and, Bool.false_and, Bool.and_false, Bool.or_true, Bool.or_false, Bool.true_or, Bool.false_or, Bool.or_self, List.elem_cons, List.elem_nil, Nat.add_zero, Nat.zero_add, or_self, or_false, false_or, true_or, or_true, and_true, true_and, and_false, false_and, and_self, List.mem_cons, List.not_mem_nil, Nat.reducePow, F.f1, F.f5, F.f6, F.f7, F.f8, h10, h9, e1, e2, e3, e4]
      refine ih (by omega) _ ?_ ?_ ?_
      · constructor <;> simp -implicitDefEqProofs (maxDischargeDepth := 4) only [go_sem, decide_true, decide_false, beq_self_eq_true, ↓reduceIte, Nat.reduceLT, Nat.reduceAdd, Nat.reduceMul, Nat.reduceSub, Nat.reduceEqDiff, Nat.reduceLeDiff, Nat.reduceBEq, reduceCtorEq, Nat.succ_ne_zero, Bool.not_true, Bool.not_false, Bool.true_eq_false, Bool.false_eq_true, Bool.true_beq, Bool.false_beq, Int.reduceLT, Int.reduceLE, Int.reduceEq, Int.reduceNe, ne_eq, not_false_eq_true, not_true_eq_false, List.getElem?_cons_zero, List.getElem?_cons_succ, List.length_cons, List.length_nil, List.all_cons, List.all_nil, Bool.and_true, Bool.and_self, Bool.true_and, Bool.false_and, Bool.and_false, Bool.or_true, Bool.or_false, Bool.true_or, Bool.false_or, Bool.or_self, List.elem_cons, List.elem_nil, Nat.add_zero, Nat.zero_add, or_self, or_false, false_or, true_or, or_true, and_true, true_and, and_false, false_and, and_self, List.mem_cons, List.not_mem_nil, Nat.reducePow, F.f1, F.f5, F.f6, F.f7, F.f8]
      · simp -implicitDefEqProofs (maxDischargeDepth := 4) only [go_sem, decide_true, decide_false, beq_self_eq_true, ↓reduceIte, Nat.reduceLT, Nat.reduceAdd, Nat.reduceMul, Nat.reduceSub, Nat.reduceEqDiff, Nat.reduceLeDiff, Nat.reduceBEq, reduceCtorEq, Nat.succ_ne_zero, Bool.not_true, Bool.not_false, Bool.true_eq_false, Bool.false_eq_true, Bool.true_beq, Bool.false_beq, Int.reduceLT, Int.reduceLE, Int.reduceEq, Int.reduceNe, ne_eq, not_false_eq_true, not_true_eq_false, List.getElem?_cons_zero, List.getElem?_cons_succ, List.length_cons, List.length_nil, List.all_cons, List.all_nil, Bool.and_true, Bool.and_self, Bool.true_and, Bool.false_and, Bool.and_false, Bool.or_true, Bool.or_false, Bool.true_or, Bool.false_or, Bool.or_self, List.elem_cons, List.elem_nil, Nat.add_zero, Nat.zero_add, or_self, or_false, false_or, true_or, or_true, and_true, true_and, and_false, false_and, and_self, List.mem_cons, List.not_mem_nil, Nat.reducePow]
      · simp -implicitDefEqProofs (maxDischargeDepth := 4) only [go_sem, decide_true, decide_false, beq_self_eq_true, ↓reduceIte, Nat.reduceLT, Nat.reduceAdd, Nat.reduceMul, Nat.reduceSub, Nat.reduceEqDiff, Nat.reduceLeDiff, Nat.reduceBEq, reduceCtorEq, Nat.succ_ne_zero, Bool.not_true, Bool.not_false, Bool.true_eq_false, Bool.false_eq_true, Bool.true_beq, Bool.false_beq, Int.reduceLT, Int.reduceLE, Int.reduceEq, Int.reduceNe, ne_eq, not_false_eq_true, not_true_eq_false, List.getElem?_cons_zero, List.getElem?_cons_succ, List.length_cons, List.length_nil, List.all_cons, List.all_nil, Bool.and_true, Bool.and_self, Bool.true_and, Bool.false_and, Bool.and_false, Bool.or_true, Bool.or_false, Bool.true_or, Bool.false_or, Bool.or_self, List.elem_cons, List.elem_nil, Nat.add_zero, Nat.zero_add, or_self, or_false, false_or, true_or, or_true, and_true, true_and, and_false, false_and, and_self, List.mem_cons, List.not_mem_nil, Nat.reducePow, h9, e5]
    | false =>
      rw [hb] at e3 e5
      simp -implicitDefEqProofs (maxDischargeDepth := 4) only [go_sem, decide_true, decide_false, beq_self_eq_true, ↓reduceIte, Nat.reduceLT, Nat.reduceAdd, Nat.reduceMul, Nat.reduceSub, Nat.reduceEqDiff, Nat.reduceLeDiff, Nat.reduceBEq, reduceCtorEq, Nat.succ_ne_zero, Bool.not_true, Bool.not_false, Bool.true_eq_false, Bool.false_eq_true, Bool.true_beq, Bool.false_beq, Int.reduceLT, Int.reduceLE, Int.reduceEq, Int.reduceNe, ne_eq, not_false_eq_true, not_true_eq_false, List.getElem?_cons_zero, List.getElem?_cons_succ, List.length_cons, List.length_nil, List.all_cons, List.all_nil, Bool.and_true, Bool.and_self, Bool.true_and, Bool.false_and, Bool.and_false, Bool.or_true, Bool.or_false, Bool.true_or, Bool.false_or, Bool.or_self, List.elem_cons, List.elem_nil, Nat.add_zero, Nat.zero_add, or_self, or_false, false_or, true_or, or_true, and_true, true_and, and_false, false_and, and_self, List.mem_cons, List.not_mem_nil, Nat.reducePow, F.f1, F.f5, F.f6, F.f7, F.f8, h10, h9, e1, e2, e3, e4]
      refine ih (by omega) _ ?_ ?_ ?_
      · constructor <;> simp -implicitDefEqProofs (maxDischargeDepth := 4) only [go_sem, decide_true, decide_false, beq_self_eq_true, ↓reduceIte, Nat.reduceLT, Nat.reduceAdd, Nat.reduceMul, Nat.reduceSub, Nat.reduceEqDiff, Nat.reduceLeDiff, Nat.reduceBEq, reduceCtorEq, Nat.succ_ne_zero, Bool.not_true, Bool.not_false, Bool.true_eq_false, Bool.false_eq_true, Bool.true_beq, Bool.false_beq, Int.reduceLT, Int.reduceLE, Int.reduceEq, Int.reduceNe, ne_eq, not_false_eq_true, not_true_eq_false, List.getElem?_cons_zero, List.getElem?_cons_succ, List.length_cons, List.length_nil, List.all_cons, List.all_nil, Bool.and_true, Bool.and_self, Bool.true_and, Bool.false_and, Bool.and_false, Bool.or_true, Bool.or_false, Bool.true_or, Bool.false_or, Bool.or_self, List.elem_cons, List.elem_nil, Nat.add_zero, Nat.zero_add, or_self, or_false, false_or, true_or, or_true, and_true, true_and, and_false, false_and, and_self, List.mem_cons, List.not_mem_nil, Nat.reducePow, F.f1, F.f5, F.f6, F.f7, F.f8]
      · simp -implicitDefEqProofs (maxDischargeDepth := 4) only [go_sem, decide_true, decide_false, beq_self_eq_true, ↓reduceIte, Nat.reduceLT, Nat.reduceAdd, Nat.reduceMul, Nat.reduceSub, Nat.reduceEqDiff, Nat.reduceLeDiff, Nat.reduceBEq, reduceCtorEq, Nat.succ_ne_zero, Bool.not_true, Bool.not_false, Bool.true_eq_false, Bool.false_eq_true, Bool.true_beq, Bool.false_beq, Int.reduceLT, Int.reduceLE, Int.reduceEq, Int.reduceNe, ne_eq, not_false_eq_true, not_true_eq_false, List.getElem?_cons_zero, List.getElem?_cons_succ, List.length_cons, List.length_nil, List.all_cons, List.all_nil, Bool.and_true, Bool.and_self, Bool.true_and, Bool.false_and, Bool.and_false, Bool.or_true, Bool.or_false, Bool.true_or, Bool.false_or, Bool.or_self, List.elem_cons, List.elem_nil, Nat.add_zero, Nat.zero_add, or_self, or_false, false_or, true_or, or_true, and_true, true_and, and_false, false_and, and_self, List.mem_cons, List.not_mem_nil, Nat.reducePow]
      · simp -implicitDefEqProofs (maxDischargeDepth := 4) only [go_sem, decide_true, decide_false, beq_self_eq_true, ↓reduceIte, Nat.reduceLT, Nat.reduceAdd, Nat.reduceMul, Nat.reduceSub, Nat.reduceEqDiff, Nat.reduceLeDiff, Nat.reduceBEq, reduceCtorEq, Nat.succ_ne_zero, Bool.not_true, Bool.not_false, Bool.true_eq_false, Bool.false_eq_true, Bool.true_beq, Bool.false_beq, Int.reduceLT, Int.reduceLE, Int.reduceEq, Int.reduceNe, ne_eq, not_false_eq_true, not_true_eq_false, List.getElem?_cons_zero, List.getElem?_cons_succ, List.length_cons, List.length_nil, List.all_cons, List.all_nil, Bool.and_true, Bool.and_self, Bool.true_and, Bool.false_and, Bool.and_false, Bool.or_true, Bool.or_false, Bool.true_or, Bool.false_or, Bool.or_self, List.elem_cons, List.elem_nil, Nat.add_zero, Nat.zero_add, or_self, or_false, false_or, true_or, or_true, and_true, true_and, and_false, false_and, and_self, List.mem_cons, List.not_mem_nil, Nat.reducePow, h9, e5]

theorem part_low (ha : isOwn a = false) (K : HIs G sl bs) (hn : bs.length = n) (h1 : 1 ≤ n) (hn2 : n ≤ 32) {fr : PT} (F : LFr fr a n i) :
    ∃ fr', ex cx D 0 3 113 (.seq (.region 11 g3_10 false) (.seq (.region 12 g3_11 false) (.block 2 (.loop l3_0)))) fr G = some (.normal, fr', G) ∧ LFr fr' a n i ∧ fr'.get 9 = iv (lowL 0 bs) := by
  have e4 : wrapK .i64 ((n : Int) - 1) = (n : Int) - 1 := wrapK_i64 (by omega) (by omega)
  obtain ⟨fr', h, F', h9⟩ := low_loop (i := i) ha K hn hn2 n (Nat.le_refl _) ((((fr.set 9 (.lit (.int .i64 (-1)))).set 38 (iv n)).set 39 (.lit (.int .i64 ((n : Int) - 1)))).set 10 (.lit (.int .i64 ((n : Int) - 1)))) (by constructor <;> simp -implicitDefEqProofs (maxDischargeDepth := 4) only [go_sem, decide_true, decide_false, beq_self_eq_true, ↓reduceIte, Nat.reduceLT, Nat.reduceAdd, Nat.reduceMul, Nat.reduceSub, Nat.reduceEqDiff, Nat.reduceLeDiff, Nat.reduceBEq, reduceCtorEq, Nat.succ_ne_zero, Bool.not_true, Bool.not_false, Bool.true_eq_false, Bool.false_eq_true, Bool.true_beq, Bool.false_beq, Int.reduceLT, Int.reduceLE, Int.reduceEq, Int.reduceNe, ne_eq, not_false_eq_true, not_true_eq_false, List.getElem?_cons_zero, List.getElem?_cons_succ, List.length_cons, List.length_nil, List.all_cons, List.all_nil, Bool.and_true, Bool.and_self, Bool.true_and, Bool.false_and, Bool.and_false, Bool.or_true, Bool.or_false, Bool.true_or, Bool.false_or, Bool.or_self, List.elem_cons, List.elem_nil, Nat.add_zero, Nat.zero_add, or_self, or_false, false_or, true_or, or_true, and_true, true_and, and_false, false_and, and_self, List.mem_cons, List.not_mem_nil, Nat.reducePow, F.f1, F.f5, F.f6, F.f7, F.f8]) (by simp -implicitDefEqProofs (maxDischargeDepth := 4) only [go_sem, decide_true, decide_false, beq_self_eq_true, ↓reduceIte, Nat.reduceLT, Nat.reduceAdd, Nat.reduceMul, Nat.reduceSub, Nat.reduceEqDiff, Nat.reduceLeDiff, Nat.reduceBEq, reduceCtorEq, Nat.succ_ne_zero, Bool.not_true, Bool.not_false, Bool.true_eq_false, Bool.false_eq_true, Bool.true_beq, Bool.false_beq, Int.reduceLT, Int.reduceLE, Int.reduceEq, Int.reduceNe, ne_eq, not_false_eq_true, not_true_eq_false, List.getElem?_cons_zero, List.getElem?_cons_succ, List.length_cons, List.length_nil, List.all_cons, List.all_nil, Bool.and_true, Bool.and_self, Bool.true_and, Bool.false_and, Bool.and_false, Bool.or_true, Bool.or_false, Bool.true_or, Bool.false_or, Bool.or_self, List.elem_cons, List.elem_nil, Nat.add_zero, Nat.zero_add, or_self, or_false, false_or, true_or, or_true, and_true, true_and, and_false, false_and, and_self, List.mem_cons, List.not_mem_nil, Nat.reducePow]) (by rw [← hn, List.drop_length]; simp -implicitDefEqProofs (maxDischargeDepth := 4) only [go_sem, decide_true, decide_false, beq_self_eq_true, ↓reduceIte, Nat.reduceLT, Nat.reduceAdd, Nat.reduceMul, Nat.reduceSub, Nat.reduceEqDiff, Nat.reduceLeDiff, Nat.reduceBEq, reduceCtorEq, Nat.succ_ne_zero, Bool.not_true, Bool.not_false, Bool.true_eq_false, Bool.false_eq_true, Bool.true_beq, Bool.false_beq, Int.reduceLT, Int.reduceLE, Int.reduceEq, Int.reduceNe, ne_eq, not_false_eq_true, not_true_eq_false, List.getElem?_cons_zero, List.getElem?_cons_succ, List.length_cons, List.length_nil, List.all_cons, List.all_nil, Bool.and_true, Bool.and_self, Bool.true_and, Bool.false_and, Bool.and_false, Bool.or_true, Bool.or_false, Bool.true_or, Bool.false_or, Bool.or_self, List.elem_cons, List.elem_nil, Nat.add_zero, Nat.zero_add, or_self, or_false, false_or, true_or, or_true, and_true, true_and, and_false, false_and, and_self, List.mem_cons, List.not_mem_nil, Nat.reducePow, lowL])
  refine ⟨fr', ?_, F', h9⟩
  simp -implicitDefEqProofs (maxDischargeDepth := 4) only [go_sem, decide_true, decide_false, beq_self_eq_true, ↓reduceIte, Nat.reduceLT, Nat.reduceAdd, Nat.reduceMul, Nat.reduceSub, Nat.reduceEqDiff, Nat.reduceLeDiff, Nat.reduceBEq, reduceCtorEq, Nat.succ_ne_zero, Bool.not_true, Bool.not_false, Bool.true_eq_false, Bool.false_eq_true, Bool.true_beq, Bool.false_beq, Int.reduceLT, Int.reduceLE, Int.reduceEq, Int.reduceNe, ne_eq, not_false_eq_true, not_true_eq_false, List.getElem?_cons_zero, List.getElem?_cons_succ, List.length_cons, List.length_nil, List.all_cons, List.all_nil, Bool.and_true, Bool.and_self, Bool.true_and, Bool.false_and, Bool.and_false, Bool.or_true, Bool.or_false, Bool.true_or, Bool.false_or, Bool.or_self, List.elem_cons, List.elem_nil, Nat.add_zero, Nat.zero_add, or_self, or_false, false_or, true_or, or_true, and_true, true_and, and_false, false_and, and_self, List.mem_cons, List.not_mem_nil, Nat.reducePow, F.f1, F.f5, F.f6, F.f7, F.f8, e4, x_loop, h]

theorem taken_loop (ha : isOwn a = false) (K : HIs G sl bs) (hn : bs.length = n) (hn2 : n ≤ 32) {w : AV} : ∀ (d k : Nat), k + d = n → ∀ (els : List AV), els.length ≤ k → ∀ fr, LFr fr a n i → fr.get 15 = iv k → fr.get 14 = grV els →
    ∃ fr', D.loop 0 3 113 l3_1 fr G = some (.exit 4, fr', G) ∧ LFr fr' a n i ∧ fr'.get 14 = grV (els ++ takenL k (bs.drop k)) := by
  intro d
  induction d with
  | zero =>
    intro k hk els he fr F h15 h14
    rw [Nat.add_zero] at hk
    subst hk
    have e1 : ¬ ((k : Int) < (k : Int)) := by omega
    rw [dl3_1]
    simp -implicitDefEqProofs (maxDischargeDepth := 4) only [go_sem, decide_true, decide_false, beq_self_eq_true, ↓reduceIte, Nat.reduceLT, Nat.reduceAdd, Nat.reduceMul, Nat.reduceSub, Nat.reduceEqDiff, Nat.reduceLeDiff, Nat.reduceBEq, reduceCtorEq, Nat.succ_ne_zero, Bool.not_true, Bool.not_false, Bool.true_eq_false, Bool.false_eq_true, Bool.true_beq, Bool.false_beq, Int.reduceLT, Int.reduceLE, Int.reduceEq, Int.reduceNe, ne_eq, not_false_eq_true, not_true_eq_false, List.getElem?_cons_zero, List.getElem?_cons_succ, List.length_cons, List.length_nil, List.all_cons, List.all_nil, Bool.and_true, Bool.and_self, Bool.true_and, Bool.false_and, Bool.and_false, Bool.or_true, Bool.or_false, Bool.true_or, Bool.false_or, Bool.or_self, List.elem_cons, List.elem_nil, Nat.add_zero, Nat.zero_add, or_self, or_false, false_or, true_or, or_true, and_true, true_and, and_false, false_and, and_self, List.mem_cons, List.not_mem_nil, Nat.reducePow, F.f1, F.f5, F.f6, F.f7, F.f8, h15, h14, e1]
    refine ⟨_, rfl, ?_, ?_⟩
    · constructor <;> simp -implicitDefEqProofs (maxDischargeDepth := 4) only [go_sem, decide_true, decide_false, beq_self_eq_true, ↓reduceIte, Nat.reduceLT, Nat.reduceAdd, Nat.reduceMul, Nat.reduceSub, Nat.reduceEqDiff, Nat.reduceLeDiff, Nat.reduceBEq, reduceCtorEq, Nat.succ_ne_zero, Bool.not_true, Bool.not_false, Bool.true_eq_false, Bool.false_eq_true, Bool.true_beq, Bool.false_beq, Int.reduceLT, Int.reduceLE, Int.reduceEq, Int.reduceNe, ne_eq, not_false_eq_true, not_true_eq_false, List.getElem?_cons_zero, List.getElem?_cons_succ, List.length_cons, List.length_nil, List.all_cons, List.all_nil, Bool.and_true, Bool.and_self, Bool.true_and, Bool.false_and, Bool.and_false, Bool.or_true, Bool.or_false, Bool.true_or, Bool.false_or, Bool.or_self, List.elem_cons, List.elem_nil, Nat.add_zero, Nat.zero_add, or_self, or_false, false_or, true_or, or_true, and_true, true_and, and_false, false_and, and_self, List.mem_cons, List.not_mem_nil, Nat.reducePow, F.f1, F.f5, F.f6, F.f7, F.f8]
    · simp -implicitDefEqProofs (maxDischargeDepth := 4) only [go_sem, decide_true, decide_false, beq_self_eq_true, ↓reduceIte, Nat.reduceLT, Nat.reduceAdd, Nat.reduceMul, Nat.reduceSub, Nat.reduceEqDiff, Nat.reduceLeDiff, Nat.reduceBEq, reduceCtorEq, Nat.succ_ne_zero, Bool.not_true, Bool.not_false, Bool.true_eq_false, Bool.false_eq_true, Bool.true_beq, Bool.false_beq, Int.reduceLT, Int.reduceLE, Int.reduceEq, Int.reduceNe, ne_eq, not_false_eq_true, not_true_eq_false, List.getElem?_cons_zero, List.getElem?_cons_succ, List.length_cons, List.length_nil, List.all_cons, List.all_nil, Bool.and_true, Bool.and_self, Bool.true_and, Bool.false_and, Bool.and_false, Bool.or_true, Bool.or_false, Bool.true_or, Bool.false_or, Bool.or_self, List.elem_cons, List.elem_nil, Nat.add_zero, Nat.zero_add, or_self, or_false, false_or, true_or, or_true, and_true, true_and, and_false, false_and, and_self, List.mem_cons, List.not_mem_nil, Nat.reducePow, h14]
      rw [← hn, List.drop_length, takenL, List.append_nil]
  | succ d ih =>
    intro k hk els he fr F h15 h14
    have hkb : k < bs.length := by omega
    have e1 : ((k : Int) < (n : Int)) := by omega
    have e2 : aindexAddr cx.T 26 (.sl 2 1 0 n n) (iv k) = some (.ptr 2 k 0) := by rw [aindexAddr_blk sl26 rfl (by omega), Nat.zero_add]
    have e3 : elAt G 2 k = some (bv bs[k]) := by rw [elAt_of K.hb, List.getElem?_map, List.getElem?_eq_getElem hkb]; rfl
    have e4 : wrapK .i64 ((k : Int) + 1) = ((k + 1 : Nat) : Int) := by rw [wrapK_i64 (by omega) (by omega)]; rfl
    have e6 : (els.length + 1) * 9 ≤ 1099511627776 := by omega
    rw [List.drop_eq_getElem_cons hkb, takenL, dl3_1]
    cases hb : bs[k] with
    | true =>
      rw [hb] at e3
      have key := fun fr' F' h15' h14' => ih (k + 1) (by omega) (els ++ [iv k]) (by simp; omega) fr' F' h15' h14'
      simp only [List.append_assoc, List.cons_append, List.nil_append] at key
      simp only [if_true]
      rcases grV_gr els with hg | ⟨hg, rfl⟩
      · rw [hg] at h14
        simp -implicitDefEqProofs (maxDischargeDepth := 4) only [go_sem, decide_true, decide_false, beq_self_eq_true, ↓reduceIte, Nat.reduceLT, Nat.reduceAdd, Nat.reduceMul, Nat.reduceSub, Nat.reduceEqDiff, Nat.reduceLeDiff, Nat.reduceBEq, reduceCtorEq, Nat.succ_ne_zero, Bool.not_true, Bool.not_false, Bool.true_eq_false, Bool.false_eq_true, Bool.true_beq, Bool.false_beq, Int.reduceLT, Int.reduceLE, Int.reduceEq, Int.reduceNe, ne_eq, not_false_eq_true, not_true_eq_false, List.getElem?_cons_zero, List.getElem?_cons_succ, List.length_cons, List.length_nil, List.all_cons, List.all_nil, Bool.and_true, Bool.and_self, Bool.true_and, Bool.false_and, Bool.and_false, Bool.or_true, Bool.or_false, Bool.true_or, Bool.false_or, Bool.or_self, List.elem_cons, List.elem_nil, Nat.add_zero, Nat.zero_add, or_self, or_false, false_or, true_or, or_true, and_true, true_and, and_false, false_and, and_self, List.mem_cons, List.not_mem_nil, Nat.reducePow, F.f1, F.f5, F.f6, F.f7, F.f8, h15, h14, e1, e2, e3, e4, e6]
        refine key _ ?_ ?_ ?_
        · constructor <;> simp -implicitDefEqProofs (maxDischargeDepth := 4) only [go_sem, decide_true, decide_false, beq_self_eq_true, ↓reduceIte, Nat.reduceLT, Nat.reduceAdd, Nat.reduceMul, Nat.reduceSub, Nat.reduceEqDiff, Nat.reduceLeDiff, Nat.reduceBEq, reduceCtorEq, Nat.succ_ne_zero, Bool.not_true, Bool.not_false, Bool.true_eq_false, Bool.false_eq_true, Bool.true_beq, Bool.false_beq, Int.reduceLT, Int.reduceLE, Int.reduceEq, Int.reduceNe, ne_eq, not_false_eq_true, not_true_eq_false, List.getElem?_cons_zero, List.getElem?_cons_succ, List.length_cons, List.length_nil, List.all_cons, List.all_nil, Bool.and_true, Bool.and_self, Bool.true_and, Bool.false_and, Bool.and_false, Bool.or_true, Bool.or_false, Bool.true_or, Bool.false_or, Bool.or_self, List.elem_cons, List.elem_nil, Nat.add_zero, Nat.zero_add, or_self, or_false, false_or, true_or, or_true, and_true, true_and, and_false, false_and, and_self, List.mem_cons, List.not_mem_nil, Nat.reducePow, F.f1, F.f5, F.f6, F.f7, F.f8]
        · simp -implicitDefEqProofs (maxDischargeDepth := 4) only [go_sem, decide_true, decide_false, beq_self_eq_true, ↓reduceIte, Nat.reduceLT, Nat.reduceAdd, Nat.reduceMul, Nat.reduceSub, Nat.reduceEqDiff, Nat.reduceLeDiff, Nat.reduceBEq, reduceCtorEq, Nat.succ_ne_zero, Bool.not_true, Bool.not_false, Bool.true_eq_false, Bool.false_eq_true, Bool.true_beq, Bool.false_beq, Int.reduceLT, Int.reduceLE, Int.reduceEq, Int.reduceNe, ne_eq, not_false_eq_true, not_true_eq_false, List.getElem?_cons_zero, List.getElem?_cons_succ, List.length_cons, List.length_nil, List.all_cons, List.all_nil, Bool.and_true, Bool.and_self, Bool.true_and, Bool.false_and, Bool.and_false, Bool.or_true, Bool.or_false, Bool.true_or, Bool.false_or, Bool.or_self, List.elem_cons, List.elem_nil, Nat.add_zero, Nat.zero_add, or_self, or_false, false_or, true_or, or_true, and_true, true_and, and_false, false_and, and_self, List.mem_cons, List.not_mem_nil, Nat.reducePow]
        · simp -implicitDefEqProofs (maxDischargeDepth := 4) only [go_sem, decide_true, decide_false, beq_self_eq_true, ↓reduceIte, Nat.reduceLT, Nat.reduceAdd, Nat.reduceMul, Nat.reduceSub, Nat.reduceEqDiff, Nat.reduceLeDiff, Nat.reduceBEq, reduceCtorEq, Nat.succ_ne_zero, Bool.not_true, Bool.not_false, Bool.true_eq_false, Bool.false_eq_true, Bool.true_beq, Bool.false_beq, Int.reduceLT, Int.reduceLE, Int.reduceEq, Int.reduceNe, ne_eq, not_false_eq_true, not_true_eq_false, List.getElem?_cons_zero, List.getElem?_cons_succ, List.length_cons, List.length_nil, List.all_cons, List.all_nil, Bool.and_true, Bool.and_self, Bool.true_and, Bool.false_and, Bool.and_false, Bool.or_true, Bool.or_false, Bool.true_or, Bool.false_or, Bool.or_self, List.elem_cons, List.elem_nil, Nat.add_zero, Nat.zero_add, or_self, or_false, false_or, true_or, or_true, and_true, true_and, and_false, false_and, and_self, List.mem_cons, List.not_mem_nil, Nat.reducePow, h14, grV_app]
      · rw [hg] at h14
        simp -implicitDefEqProofs (maxDischargeDepth := 4) only [go_sem, decide_true, decide_false, beq_self_eq_true, ↓reduceIte, Nat.reduceLT, Nat.reduceAdd, Nat.reduceMul, Nat.reduceSub, Nat.reduceEqDiff, Nat.reduceLeDiff, Nat.reduceBEq, reduceCtorEq, Nat.succ_ne_zero, Bool.not_true, Bool.not_false, Bool.true_eq_false, Bool.false_eq_true, Bool.true_beq, Bool.false_beq, Int.reduceLT, Int.reduceLE, Int.reduceEq, Int.reduceNe, ne_eq, not_false_eq_true, not_true_eq_false, List.getElem?_cons_zero, List.getElem?_cons_succ, List.length_cons, List.length_nil, List.all_cons, List.all_nil, Bool.and_true, Bool.and_self, Bool.true_and, Bool.false_and, Bool.and_false, Bool.or_true, Bool.or_false, Bool.true_or, Bool.false_or, Bool.or_self, List.elem_cons, List.elem_nil, Nat.add_zero, Nat.zero_add, or_self, or_false, false_or, true_or, or_true, and_true, true_and, and_false, false_and, and_self, List.mem_cons, List.not_mem_nil, Nat.reducePow, F.f1, F.f5, F.f6, F.f7, F.f8, h15, h14, e1, e2, e3, e4, e6]
        refine key _ ?_ ?_ ?_
        · constructor <;> simp -implicitDefEqProofs (maxDischargeDepth := 4) only [go_sem, decide_true, decide_false, beq_self_eq_true, ↓reduceIte, Nat.reduceLT, Nat.reduceAdd, Nat.reduceMul, Nat.reduceSub, Nat.reduceEqDiff, Nat.reduceLeDiff, Nat.reduceBEq, reduceCtorEq, Nat.succ_ne_zero, Bool.not_true, Bool.not_false, Bool.true_eq_false, Bool.false_eq_true, Bool.true_beq, Bool.false_beq, Int.reduceLT, Int.reduceLE, Int.reduceEq, Int.reduceNe, ne_eq, not_false_eq_true, not_true_eq_false, List.getElem?_cons_zero, List.getElem?_cons_succ, List.length_cons, List.length_nil, List.all_cons, List.all_nil, Bool.and_true, Bool.and_self, Bool.true_and, Bool.false_and, Bool.and_false, Bool.or_true, Bool.or_false, Bool.true_or, Bool.false_or, Bool.or_self, List.elem_cons, List.elem_nil, Nat.add_zero, Nat.zero_add, or_self, or_false, false_or, true_or, or_true, and_true, true_and, and_false, false_and, and_self, List.mem_cons, List.not_mem_nil, Nat.reducePow, F.f1, F.f5, F.f6, F.f7, F.f8]
        · simp -implicitDefEqProofs (maxDischargeDepth := 4) only [go_sem, decide_true, decide_false, beq_self_eq_true, ↓reduceIte, Nat.reduceLT, Nat.reduceAdd, Nat.reduceMul, Nat.reduceSub, Nat.reduceEqDiff, Nat.reduceLeDiff, Nat.reduceBEq, reduceCtorEq, Nat.succ_ne_zero, Bool.not_true, Bool.not_false, Bool.true_eq_false, Bool.false_eq_true, Bool.true_beq, Bool.false_beq, Int.reduceLT, Int.reduceLE, Int.reduceEq, Int.reduceNe, ne_eq, not_false_eq_true, not_true_eq_false, List.getElem?_cons_zero, List.getElem?_cons_succ, List.length_cons, List.length_nil, List.all_cons, List.all_nil, Bool.and_true, Bool.and_self, Bool.true_and, Bool.false_and, Bool.and_false, Bool.or_true, Bool.or_false, Bool.true_or, Bool.false_or, Bool.or_self, List.elem_cons, List.elem_nil, Nat.add_zero, Nat.zero_add, or_self, or_false, false_or, true_or, or_true, and_true, true_and, and_false, false_and, and_self, List.mem_cons, List.not_mem_nil, Nat.reducePow]
        · simp -implicitDefEqProofs (maxDischargeDepth := 4) only [go_sem, decide_true, decide_false, beq_self_eq_true, ↓reduceIte, Nat.reduceLT, Nat.reduceAdd, Nat.reduceMul, Nat.reduceSub, Nat.reduceEqDiff, Nat.reduceLeDiff, Nat.reduceBEq, reduceCtorEq, Nat.succ_ne_zero, Bool.not_true, Bool.not_false, Bool.true_eq_false, Bool.false_eq_true, Bool.true_beq, Bool.false_beq, Int.reduceLT, Int.reduceLE, Int.reduceEq, Int.reduceNe, ne_eq, not_false_eq_true, not_true_eq_false, List.getElem?_cons_zero, List.getElem?_cons_succ, List.length_cons, List.length_nil, List.all_cons, List.all_nil, Bool.and_true, Bool.and_self, Bool.true_and, Bool.false_and, Bool.and_false, Bool.or_true, Bool.or_false, Bool.true_or, Bool.false_or, Bool.or_self, List.elem_cons, List.elem_nil, Nat.add_zero, Nat.zero_add, or_self, or_false, false_or, true_or, or_true, and_true, true_and, and_false, false_and, and_self, List.mem_cons, List.not_mem_nil, Nat.reducePow, grV]
    | false =>
      rw [hb] at e3
      simp only [Bool.false_eq_true, if_false]
      simp -implicitDefEqProofs (maxDischargeDepth := 4) only [go_sem, decide_true, decide_false, beq_self_eq_true, ↓reduceIte, Nat.reduceLT, Nat.reduceAdd, Nat.reduceMul, Nat.reduceSub, Nat.reduceEqDiff, Nat.reduceLeDiff, Nat.reduceBEq, reduceCtorEq, Nat.succ_ne_zero, Bool.not_true, Bool.not_false, Bool.true_eq_false, Bool.false_eq_true, Bool.true_beq, Bool.false_beq, Int.reduceLT, Int.reduceLE, Int.reduceEq, Int.reduceNe, ne_eq, not_false_eq_true, not_true_eq_false, List.getElem?_cons_zero, List.getElem?_cons_succ, List.length_cons, List.length_nil, List.all_cons, List.all_nil, Bool.and_true, Bool.and_self, Bool.true_and, Bool.false_and, Bool.and_false, Bool.or_true, Bool.or_false, Bool.true_or, Bool.false_or, Bool.or_self, List.elem_cons, List.elem_nil, Nat.add_zero, Nat.zero_add, or_self, or_false, false_or, true_or, or_true, and_true, true_and, and_false, false_and, and_self, List.mem_cons, List.not_mem_nil, Nat.reducePow, F.f1, F.f5, F.f6, F.f7, F.f8, h15, h14, e1, e2, e3, e4]
      refine ih (k + 1) (by omega) els (by omega) _ ?_ ?_ ?_
      · constructor <;> simp -implicitDefEqProofs (maxDischargeDepth := 4) only [go_sem, decide_true, decide_false, beq_self_eq_true, ↓reduceIte, Nat.reduceLT, Nat.reduceAdd, Nat.reduceMul, Nat.reduceSub, Nat.reduceEqDiff, Nat.reduceLeDiff, Nat.reduceBEq, reduceCtorEq, Nat.succ_ne_zero, Bool.not_true, Bool.not_false, Bool.true_eq_false, Bool.false_eq_true, Bool.true_beq, Bool.false_beq, Int.reduceLT, Int.reduceLE, Int.reduceEq, Int.reduceNe, ne_eq, not_false_eq_true, not_true_eq_false, List.getElem?_cons_zero, List.getElem?_cons_succ, List.length_cons, List.length_nil, List.all_cons, List.all_nil, Bool.and_true, Bool.and_self, Bool.true_and, Bool.false_and, Bool.and_false, Bool.or_true, Bool.or_false, Bool.true_or, Bool.false_or, Bool.or_self, List.elem_cons, List.elem_nil, Nat.add_zero, Nat.zero_add, or_self, or_false, false_or, true_or, or_true, and_true, true_and, and_false, false_and, and_self, List.mem_cons, List.not_mem_nil, Nat.reducePow, F.f1, F.f5, F.f6, F.f7, F.f8]
      · simp -implicitDefEqProofs (maxDischargeDepth := 4) only [go_sem, decide_true, decide_false, beq_self_eq_true, ↓reduceIte, Nat.reduceLT, Nat.reduceAdd, Nat.reduceMul, Nat.reduceSub, Nat.reduceEqDiff, Nat.reduceLeDiff, Nat.reduceBEq, reduceCtorEq, Nat.succ_ne_zero, Bool.not_true, Bool.not_false, Bool.true_eq_false, Bool.false_eq_true, Bool.true_beq, Bool.false_beq, Int.reduceLT, Int.reduceLE, Int.reduceEq, Int.reduceNe, ne_eq, not_false_eq_true, not_true_eq_false, List.getElem?_cons_zero, List.getElem?_cons_succ, List.length_cons, List.length_nil, List.all_cons, List.all_nil, Bool.and_true, Bool.and_self, Bool.true_and, Bool.false_and, Bool.and_false, Bool.or_true, Bool.or_false, Bool.true_or, Bool.false_or, Bool.or_self, List.elem_cons, List.elem_nil, Nat.add_zero, Nat.zero_add, or_self, or_false, false_or, true_or, or_true, and_true, true_and, and_false, false_and, and_self, List.mem_cons, List.not_mem_nil, Nat.reducePow]
      · simp -implicitDefEqProofs (maxDischargeDepth := 4) only [go_sem, decide_true, decide_false, beq_self_eq_true, ↓reduceIte, Nat.reduceLT, Nat.reduceAdd, Nat.reduceMul, Nat.reduceSub, Nat.reduceEqDiff, Nat.reduceLeDiff, Nat.reduceBEq, reduceCtorEq, Nat.succ_ne_zero, Bool.not_true, Bool.not_false, Bool.true_eq_false, Bool.false_eq_true, Bool.true_beq, Bool.false_beq, Int.reduceLT, Int.reduceLE, Int.reduceEq, Int.reduceNe, ne_eq, not_false_eq_true, not_true_eq_false, List.getElem?_cons_zero, List.getElem?_cons_succ, List.length_cons, List.length_nil, List.all_cons, List.all_nil, Bool.and_true, Bool.and_self, Bool.true_and, Bool.false_and, Bool.and_false, Bool.or_true, Bool.or_false, Bool.true_or, Bool.false_or, Bool.or_self, List.elem_cons, List.elem_nil, Nat.add_zero, Nat.zero_add, or_self, or_false, false_or, true_or, or_true, and_true, true_and, and_false, false_and, and_self, List.mem_cons, List.not_mem_nil, Nat.reducePow, h14]
end
end Go.Abs.Tab

/- ActorsLowest: a round of its loop. -/
set_option linter.unusedVariables false
namespace Go.Abs.Tab
section
variable {a : AV} {n i : Nat} {G : Hp} {sl : List (List AV)} {bs : List Bool}
theorem lowL_none : ∀ (i : Nat) (l : List Bool), lowL i l = -1 ↔ ∀ (j : Nat) (b : Bool), l[j]? = some b → b = true
  | i, [] => by simp [lowL]
  | i, b :: l => by
    simp only [lowL]
    cases b with
    | false =>
      simp only [if_true]
      refine ⟨fun h => by omega, fun h => ?_⟩
      have := h 0 false rfl
      cases this
    | true =>
      simp only [Bool.true_eq_false, if_false]
      rw [lowL_none (i + 1) l]
      refine ⟨fun h j b hj => ?_, fun h j b hj => h (j + 1) b hj⟩
      cases j with
      | zero => cases hj; rfl
      | succ j => exact h j b hj
theorem lowL_some : ∀ (i : Nat) (l : List Bool), lowL i l ≠ -1 → ∃ k, lowL i l = ((i + k : Nat) : Int) ∧ l[k]? = some false ∧ ∀ (j : Nat) (b : Bool), j < k → l[j]? = some b → b = true
  | i, [], h => absurd rfl h
  | i, b :: l, h => by
    simp only [lowL] at h ⊢
    cases b with
    | false =>
      simp only [if_true] at h ⊢
      exact ⟨0, rfl, rfl, fun j b hj => absurd hj (by omega)⟩
    | true =>
      simp only [Bool.true_eq_false, if_false] at h ⊢
      obtain ⟨k, h1, h2, h3⟩ := lowL_some (i + 1) l h
      refine ⟨k + 1, by rw [h1]; congr 1; omega, h2, fun j b hj hb => ?_⟩
      cases j with
      | zero => cases hb; rfl
      | succ j => exact h3 j b (by omega) hb

theorem nil_sl : Sl 1 (.lit (.slice none 0 0)) (([] : List Int).map iv) := .inr (.inr ⟨rfl, rfl⟩)

theorem HIs.grow {L : Hp} (K : HIs G sl bs) : HIs (G ++ L) sl bs :=
  ⟨⟨by rw [hp_get_l (lt_of_get K.tb)]; exact K.tb, by rw [hp_get_l (lt_of_get K.sb)]; exact K.sb, K.ne, K.ok⟩, by rw [hp_get_l (lt_of_get K.hb)]; exact K.hb, K.kl⟩
theorem HIs.slot (K : HIs G sl bs) {k : Nat} {c : List AV} (hok : SlotOk c) (hkl : c.map (kill0 3) = c) : HIs (G.set 0 (.cells 20 185 ((sl.set k c).map .agg))) (sl.set k c) bs := by
  refine ⟨⟨?_, ?_, K.ne, ?_⟩, ?_, ?_⟩
  · rw [hp_ne (by decide), K.tb, List.length_set]
  · rw [hp_one (lt_of_get K.sb)]
  · intro d hd
    rcases List.mem_or_eq_of_mem_set hd with h | rfl
    · exact K.ok d h
    · exact hok
  · rw [hp_ne (by decide), K.hb]
  · intro d hd
    rcases List.mem_or_eq_of_mem_set hd with h | rfl
    · exact K.kl d h
    · exact hkl
theorem HIs.mark (K : HIs G sl bs) {k : Nat} {b : Bool} : HIs (G.set 2 (.cells 1 4 ((bs.set k b).map bv))) sl (bs.set k b) := by
  refine ⟨⟨?_, ?_, K.ne, K.ok⟩, ?_, K.kl⟩
  · rw [hp_ne (by decide), K.tb]
  · rw [hp_ne (by decide), K.sb]
  · rw [hp_one (lt_of_get K.hb)]

theorem map_set_bv (k : Nat) (b : Bool) : (bs.map bv).set k (bv b) = (bs.set k b).map bv := (List.map_set).symm

/-- Add, and what is asked of its answer -/
theorem part_add (ha : isOwn a = false) (K : HIs G sl bs) (hlv : sl.map liveC = bs) (hn : sl.length = n) (h1 : 1 ≤ n) (hn2 : n ≤ 32) (hi : i ≤ 40) {fr : PT} (F : LFr fr a n i) (h9 : fr.get 9 = iv (lowL 0 bs)) :
    ∃ fr' G' sl' bs', ex cx D 0 3 113 (.seq (.region 17 g3_16 false) (.seq (.seq (.region 18 g3_17 false) (.cond (.tmp 65) (.seq (.region 19 g3_18 false) .ret) .skip)) (.seq (.region 20 g3_19 false) (.cond (.tmp 67) (.region 21 g3_20 false) .skip)))) fr G = some (.normal, fr', G') ∧ LFr fr' a n i ∧ HIs G' sl' bs' ∧ sl'.map liveC = bs' ∧ sl'.length = n := by
  by_cases hlow : lowL 0 bs = -1
  · obtain ⟨L, hA⟩ := add_none (ro := 0) K.toTblAt (Nat.zero_le _) (Nat.zero_le _) (by omega) (t := i) nil_sl (by simp) (fun j c hc => by
      refine (lowL_none 0 bs).1 hlow j _ ?_
      rw [← hlv, List.getElem?_map, hc]; rfl)
    rw [hlow] at h9
    simp -implicitDefEqProofs (maxDischargeDepth := 4) only [go_sem, decide_true, decide_false, beq_self_eq_true, ↓reduceIte, Nat.reduceLT, Nat.reduceAdd, Nat.reduceMul, Nat.reduceSub, Nat.reduceEqDiff, Nat.reduceLeDiff, Nat.reduceBEq, reduceCtorEq, Nat.succ_ne_zero, Bool.not_true, Bool.not_false, Bool.true_eq_false, Bool.false_eq_true, Bool.true_beq, Bool.false_beq, Int.reduceLT, Int.reduceLE, Int.reduceEq, Int.reduceNe, ne_eq, not_false_eq_true, not_true_eq_false, List.getElem?_cons_zero, List.getElem?_cons_succ, List.length_cons, List.length_nil, List.all_cons, List.all_nil, Bool.and_true, Bool.and_self, Bool.true_and, Bool.false_and, Bool.and_false, Bool.or_true, Bool.or_false, Bool.true_or, Bool.false_or, Bool.or_self, List.elem_cons, List.elem_nil, Nat.add_zero, Nat.zero_add, or_self, or_false, false_or, true_or, or_true, and_true, true_and, and_false, false_and, and_self, List.mem_cons, List.not_mem_nil, Nat.reducePow, F.f1, F.f5, F.f6, F.f7, F.f8, h9, hA]
    refine ⟨_, _, sl, bs, rfl, ?_, K.grow, hlv, hn⟩
    constructor <;> simp -implicitDefEqProofs (maxDischargeDepth := 4) only [go_sem, decide_true, decide_false, beq_self_eq_true, ↓reduceIte, Nat.reduceLT, Nat.reduceAdd, Nat.reduceMul, Nat.reduceSub, Nat.reduceEqDiff, Nat.reduceLeDiff, Nat.reduceBEq, reduceCtorEq, Nat.succ_ne_zero, Bool.not_true, Bool.not_false, Bool.true_eq_false, Bool.false_eq_true, Bool.true_beq, Bool.false_beq, Int.reduceLT, Int.reduceLE, Int.reduceEq, Int.reduceNe, ne_eq, not_false_eq_true, not_true_eq_false, List.getElem?_cons_zero, List.getElem?_cons_succ, List.length_cons, List.length_nil, List.all_cons, List.all_nil, Bool.and_true, Bool.and_self, Bool.true_and, Bool.false_and, Bool.and_false, Bool.or_true, Bool.or_false, Bool.true_or, Bool.false_or, Bool.or_self, List.elem_cons, List.elem_nil, Nat.add_zero, Nat.zero_add, or_self, or_false, false_or, true_or, or_true, and_true, true_and, and_false, false_and, and_self, List.mem_cons, List.not_mem_nil, Nat.reducePow, F.f1, F.f5, F.f6, F.f7, F.f8]
  · obtain ⟨k, hk, hkf, hkt⟩ := lowL_some 0 bs hlow
    rw [Nat.zero_add] at hk
    rw [hk] at h9
    have hbn : bs.length = n := by rw [← hlv, List.length_map, hn]
    have hkb : k < bs.length := (List.getElem?_eq_some_iff.1 hkf).1
    have hks : k < sl.length := by omega
    have hc := List.getElem?_eq_getElem hks
    have hcl : liveC sl[k] = false := by
      rw [← hlv, List.getElem?_map, hc] at hkf
      simpa using hkf
    obtain ⟨L, hA⟩ := add_full (ro := 0) (k := k) K.toTblAt (Nat.zero_le _) (Nat.zero_le _) (by omega) (t := i) nil_sl (by simp) hc hcl (fun j c hj hc => by
      refine hkt j _ hj ?_
      rw [← hlv, List.getElem?_map, hc]; rfl)
    have hok := newC_ok (t := i) (xs := []) (by simp)
    have K1 : HIs (G.set 0 (.cells 20 185 ((sl.set k (newC i [])).map .agg)) ++ L) (sl.set k (newC i [])) bs := (K.slot hok.1 rfl).grow
    obtain ⟨G1, hG1⟩ : ∃ G1, G.set 0 (.cells 20 185 ((sl.set k (newC i [])).map .agg)) ++ L = G1 := ⟨_, rfl⟩
    rw [hG1] at hA K1
    have e1 : ((0 : Int) ≤ (k : Int)) := by omega
    have e2 : aindexAddr cx.T 26 (.sl 2 1 0 n n) (iv k) = some (.ptr 2 k 0) := by rw [aindexAddr_blk sl26 rfl (by omega), Nat.zero_add]
    have e3 : (bs.map bv)[k]? = some (bv bs[k]) := by rw [List.getElem?_map, List.getElem?_eq_getElem hkb]; rfl
    simp -implicitDefEqProofs (maxDischargeDepth := 4) only [go_sem, decide_true, decide_false, beq_self_eq_true, ↓reduceIte, Nat.reduceLT, Nat.reduceAdd, Nat.reduceMul, Nat.reduceSub, Nat.reduceEqDiff, Nat.reduceLeDiff, Nat.reduceBEq, reduceCtorEq, Nat.succ_ne_zero, Bool.not_true, Bool.not_false, Bool.true_eq_false, Bool.false_eq_true, Bool.true_beq, Bool.false_beq, Int.reduceLT, Int.reduceLE, Int.reduceEq, Int.reduceNe, ne_eq, not_false_eq_true, not_true_eq_false, List.getElem?_cons_zero, List.getElem?_cons_succ, List.length_cons, List.length_nil, List.all_cons, List.all_nil, Bool.and_true, Bool.and_self, Bool.true_and, Bool.false_and, Bool.and_false, Bool.or_true, Bool.or_false, Bool.true_or, Bool.false_or, Bool.or_self, List.elem_cons, List.elem_nil, Nat.add_zero, Nat.zero_add, or_self, or_false, false_or, true_or, or_true, and_true, true_and, and_false, false_and, and_self, List.mem_cons, List.not_mem_nil, Nat.reducePow, elAt_eq, stV_eq, cellsB_cells, hp_get_r, hp_get_r0, hp_get_l, hp_set_r, hp_set_r0, hp_set_l, hp_one, hp_ne, List.drop_succ_cons, List.drop_zero, List.take_succ_cons, List.take_zero, F.f1, F.f5, F.f6, F.f7, F.f8, h9, hA, e1, e2, e3, K1.hb]
    rw [map_set_bv]
    refine ⟨_, _, sl.set k (newC i []), bs.set k true, rfl, ?_, K1.mark, ?_, ?_⟩
    · constructor <;> simp -implicitDefEqProofs (maxDischargeDepth := 4) only [go_sem, decide_true, decide_false, beq_self_eq_true, ↓reduceIte, Nat.reduceLT, Nat.reduceAdd, Nat.reduceMul, Nat.reduceSub, Nat.reduceEqDiff, Nat.reduceLeDiff, Nat.reduceBEq, reduceCtorEq, Nat.succ_ne_zero, Bool.not_true, Bool.not_false, Bool.true_eq_false, Bool.false_eq_true, Bool.true_beq, Bool.false_beq, Int.reduceLT, Int.reduceLE, Int.reduceEq, Int.reduceNe, ne_eq, not_false_eq_true, not_true_eq_false, List.getElem?_cons_zero, List.getElem?_cons_succ, List.length_cons, List.length_nil, List.all_cons, List.all_nil, Bool.and_true, Bool.and_self, Bool.true_and, Bool.false_and, Bool.and_false, Bool.or_true, Bool.or_false, Bool.true_or, Bool.false_or, Bool.or_self, List.elem_cons, List.elem_nil, Nat.add_zero, Nat.zero_add, or_self, or_false, false_or, true_or, or_true, and_true, true_and, and_false, false_and, and_self, List.mem_cons, List.not_mem_nil, Nat.reducePow, F.f1, F.f5, F.f6, F.f7, F.f8]
    · rw [← hlv, List.map_set, hok.2]
    · rw [List.length_set, hn]

abbrev uv (n : Int) : AV := .lit (.int .u8 n)
/-- Drop, where the input asks for it -/
theorem part_drop {xs : List Int} (ha : Sl 1 a (xs.map uv)) (hxs : ∀ x ∈ xs, 0 ≤ x ∧ x < 256) (K : HIs G sl bs) (hlv : sl.map liveC = bs) (hn : sl.length = n) (h1 : 1 ≤ n) (hn2 : n ≤ 32) (hi : i < xs.length) {fr : PT} (F : LFr fr a n i) :
    ∃ fr' G' sl' bs', ex cx D 0 3 113 (.seq (.region 22 g3_21 false) (.cond (.tmp 75) (.seq (.region 23 g3_22 false) (.seq (.seq (.region 24 g3_23 true) (.cond (.tmp 91) (.seq (.region 25 g3_24 false) .ret) .skip)) (.region 26 g3_25 false))) .skip)) fr G = some (.normal, fr', G') ∧ LFr fr' a n i ∧ HIs G' sl' bs' ∧ sl'.map liveC = bs' ∧ sl'.length = n := by
  have e1 : aindexAddr cx.T 22 a (iv i) = some (.vp (uv (xs.getD i 0)) 0) := by rw [aindexAddr_sl ha sl22 (by simp; omega) rfl, getD_map uv xs 0 (by omega)]
  have hx : 0 ≤ xs.getD i 0 ∧ xs.getD i 0 < 256 := by
    have : xs.getD i 0 = xs[i] := by simp [List.getD_eq_getElem?_getD, List.getElem?_eq_getElem hi]
    rw [this]; exact hxs _ (List.getElem_mem hi)
  by_cases hbig : 99 < xs.getD i 0
  · obtain ⟨v, hv⟩ : ∃ v, xs.getD i 0 = v := ⟨_, rfl⟩
    rw [hv] at e1 hx hbig
    obtain ⟨k, hk, hkn⟩ : ∃ k : Nat, v.tmod (n : Int) = (k : Int) ∧ k < n := ⟨(v.tmod (n : Int)).toNat, by have := Int.tmod_nonneg (n : Int) hx.1; omega, by have := Int.tmod_lt_of_pos v (show (0 : Int) < (n : Int) by omega); have := Int.tmod_nonneg (n : Int) hx.1; omega⟩
    have hbn : bs.length = n := by rw [← hlv, List.length_map, hn]
    have hkb : k < bs.length := by omega
    have hks : k < sl.length := by omega
    have hc := List.getElem?_eq_getElem hks
    have e2 : aindexAddr cx.T 26 (.sl 2 1 0 n n) (iv k) = some (.ptr 2 k 0) := by rw [aindexAddr_blk sl26 rfl (by omega), Nat.zero_add]
    have e3 : (bs.map bv)[k]? = some (bv bs[k]) := by rw [List.getElem?_map, List.getElem?_eq_getElem hkb]; rfl
    have e4 : wrapK .i64 v = v := wrapK_i64 (by omega) (by omega)
    have e5 : ¬ (n : Int) = 0 := by omega
    have e6 : liveC sl[k] = bs[k] := by
      have : (sl.map liveC)[k]? = bs[k]? := by rw [hlv]
      rw [List.getElem?_map, hc, List.getElem?_eq_getElem hkb] at this
      simpa using this
    cases hb : bs[k] with
    | true =>
      rw [hb] at e3 e6
      have hD := drop_live (ro := 0) K.toTblAt (Nat.zero_le _) (by omega) hc e6
      have K1 : HIs (G.set 0 (.cells 20 185 ((sl.set k zeroC).map .agg))) (sl.set k zeroC) bs := K.slot zeroC_ok rfl
      have e7 : (G.set 0 (.cells 20 185 ((sl.set k zeroC).map .agg)))[2]? = G[2]? := hp_ne (by decide)
      obtain ⟨G1, hG1⟩ : ∃ G1, G.set 0 (.cells 20 185 ((sl.set k zeroC).map .agg)) = G1 := ⟨_, rfl⟩
      rw [hG1] at hD K1 e7
      have e8 := K.hb
      simp -implicitDefEqProofs (maxDischargeDepth := 4) only [go_sem, decide_true, decide_false, beq_self_eq_true, ↓reduceIte, Nat.reduceLT, Nat.reduceAdd, Nat.reduceMul, Nat.reduceSub, Nat.reduceEqDiff, Nat.reduceLeDiff, Nat.reduceBEq, reduceCtorEq, Nat.succ_ne_zero, Bool.not_true, Bool.not_false, Bool.true_eq_false, Bool.false_eq_true, Bool.true_beq, Bool.false_beq, Int.reduceLT, Int.reduceLE, Int.reduceEq, Int.reduceNe, ne_eq, not_false_eq_true, not_true_eq_false, List.getElem?_cons_zero, List.getElem?_cons_succ, List.length_cons, List.length_nil, List.all_cons, List.all_nil, Bool.and_true, Bool.and_self, Bool.true_and, Bool.false_and, Bool.and_false, Bool.or_true, Bool.or_false, Bool.true_or, Bool.false_or, Bool.or_self, List.elem_cons, List.elem_nil, Nat.add_zero, Nat.zero_add, or_self, or_false, false_or, true_or, or_true, and_true, true_and, and_false, false_and, and_self, List.mem_cons, List.not_mem_nil, Nat.reducePow, elAt_eq, stV_eq, cellsB_cells, hp_get_r, hp_get_r0, hp_get_l, hp_set_r, hp_set_r0, hp_set_l, hp_one, hp_ne, List.drop_succ_cons, List.drop_zero, List.take_succ_cons, List.take_zero, F.f1, F.f5, F.f6, F.f7, F.f8, ha.notOwn, ha.shr, e1, hbig, e4, b_rem, e5, hk, hD, e2, e3, e7, e8, Nat.ble_eq]
      rw [map_set_bv]
      refine ⟨_, _, sl.set k zeroC, bs.set k false, rfl, ?_, K1.mark, ?_, ?_⟩
      · constructor <;> simp -implicitDefEqProofs (maxDischargeDepth := 4) only [go_sem, decide_true, decide_false, beq_self_eq_true, ↓reduceIte, Nat.reduceLT, Nat.reduceAdd, Nat.reduceMul, Nat.reduceSub, Nat.reduceEqDiff, Nat.reduceLeDiff, Nat.reduceBEq, reduceCtorEq, Nat.succ_ne_zero, Bool.not_true, Bool.not_false, Bool.true_eq_false, Bool.false_eq_true, Bool.true_beq, Bool.false_beq, Int.reduceLT, Int.reduceLE, Int.reduceEq, Int.reduceNe, ne_eq, not_false_eq_true, not_true_eq_false, List.getElem?_cons_zero, List.getElem?_cons_succ, List.length_cons, List.length_nil, List.all_cons, List.all_nil, Bool.and_true, Bool.and_self, Bool.true_and, Bool.false_and, Bool.and_false, Bool.or_true, Bool.or_false, Bool.true_or, Bool.false_or, Bool.or_self, List.elem_cons, List.elem_nil, Nat.add_zero, Nat.zero_add, or_self, or_false, false_or, true_or, or_true, and_true, true_and, and_false, false_and, and_self, List.mem_cons, List.not_mem_nil, Nat.reducePow, F.f1, F.f5, F.f6, F.f7, F.f8]
      · rw [← hlv, List.map_set]; rfl
      · rw [List.length_set, hn]
    | false =>
      rw [hb] at e3 e6
      have hD := drop_none (ro := 0) K.toTblAt (i := (k : Int)) (by omega) (.inr (.inr ⟨k, rfl, _, hc, e6⟩))
      have e8 := K.hb
      simp -implicitDefEqProofs (maxDischargeDepth := 4) only [go_sem, decide_true, decide_false, beq_self_eq_true, ↓reduceIte, Nat.reduceLT, Nat.reduceAdd, Nat.reduceMul, Nat.reduceSub, Nat.reduceEqDiff, Nat.reduceLeDiff, Nat.reduceBEq, reduceCtorEq, Nat.succ_ne_zero, Bool.not_true, Bool.not_false, Bool.true_eq_false, Bool.false_eq_true, Bool.true_beq, Bool.false_beq, Int.reduceLT, Int.reduceLE, Int.reduceEq, Int.reduceNe, ne_eq, not_false_eq_true, not_true_eq_false, List.getElem?_cons_zero, List.getElem?_cons_succ, List.length_cons, List.length_nil, List.all_cons, List.all_nil, Bool.and_true, Bool.and_self, Bool.true_and, Bool.false_and, Bool.and_false, Bool.or_true, Bool.or_false, Bool.true_or, Bool.false_or, Bool.or_self, List.elem_cons, List.elem_nil, Nat.add_zero, Nat.zero_add, or_self, or_false, false_or, true_or, or_true, and_true, true_and, and_false, false_and, and_self, List.mem_cons, List.not_mem_nil, Nat.reducePow, elAt_eq, stV_eq, cellsB_cells, hp_get_r, hp_get_r0, hp_get_l, hp_set_r, hp_set_r0, hp_set_l, hp_one, hp_ne, List.drop_succ_cons, List.drop_zero, List.take_succ_cons, List.take_zero, F.f1, F.f5, F.f6, F.f7, F.f8, ha.notOwn, ha.shr, e1, hbig, e4, b_rem, e5, hk, hD, e2, e3, e8]
      rw [map_set_bv]
      refine ⟨_, _, sl, bs.set k false, rfl, ?_, K.mark, ?_, hn⟩
      · constructor <;> simp -implicitDefEqProofs (maxDischargeDepth := 4) only [go_sem, decide_true, decide_false, beq_self_eq_true, ↓reduceIte, Nat.reduceLT, Nat.reduceAdd, Nat.reduceMul, Nat.reduceSub, Nat.reduceEqDiff, Nat.reduceLeDiff, Nat.reduceBEq, reduceCtorEq, Nat.succ_ne_zero, Bool.not_true, Bool.not_false, Bool.true_eq_false, Bool.false_eq_true, Bool.true_beq, Bool.false_beq, Int.reduceLT, Int.reduceLE, Int.reduceEq, Int.reduceNe, ne_eq, not_false_eq_true, not_true_eq_false, List.getElem?_cons_zero, List.getElem?_cons_succ, List.length_cons, List.length_nil, List.all_cons, List.all_nil, Bool.and_true, Bool.and_self, Bool.true_and, Bool.false_and, Bool.and_false, Bool.or_true, Bool.or_false, Bool.true_or, Bool.false_or, Bool.or_self, List.elem_cons, List.elem_nil, Nat.add_zero, Nat.zero_add, or_self, or_false, false_or, true_or, or_true, and_true, true_and, and_false, false_and, and_self, List.mem_cons, List.not_mem_nil, Nat.reducePow, F.f1, F.f5, F.f6, F.f7, F.f8]
      · rw [← hb, List.set_getElem_self, hlv]
  · simp -implicitDefEqProofs (maxDischargeDepth := 4) only [go_sem, decide_true, decide_false, beq_self_eq_true, ↓reduceIte, Nat.reduceLT, Nat.reduceAdd, Nat.reduceMul, Nat.reduceSub, Nat.reduceEqDiff, Nat.reduceLeDiff, Nat.reduceBEq, reduceCtorEq, Nat.succ_ne_zero, Bool.not_true, Bool.not_false, Bool.true_eq_false, Bool.false_eq_true, Bool.true_beq, Bool.false_beq, Int.reduceLT, Int.reduceLE, Int.reduceEq, Int.reduceNe, ne_eq, not_false_eq_true, not_true_eq_false, List.getElem?_cons_zero, List.getElem?_cons_succ, List.length_cons, List.length_nil, List.all_cons, List.all_nil, Bool.and_true, Bool.and_self, Bool.true_and, Bool.false_and, Bool.and_false, Bool.or_true, Bool.or_false, Bool.true_or, Bool.false_or, Bool.or_self, List.elem_cons, List.elem_nil, Nat.add_zero, Nat.zero_add, or_self, or_false, false_or, true_or, or_true, and_true, true_and, and_false, false_and, and_self, List.mem_cons, List.not_mem_nil, Nat.reducePow, F.f1, F.f5, F.f6, F.f7, F.f8, ha.notOwn, ha.shr, e1, hbig]
    refine ⟨_, _, sl, bs, rfl, ?_, K, hlv, hn⟩
    constructor <;> simp -implicitDefEqProofs (maxDischargeDepth := 4) only [go_sem, decide_true, decide_false, beq_self_eq_true, ↓reduceIte, Nat.reduceLT, Nat.reduceAdd, Nat.reduceMul, Nat.reduceSub, Nat.reduceEqDiff, Nat.reduceLeDiff, Nat.reduceBEq, reduceCtorEq, Nat.succ_ne_zero, Bool.not_true, Bool.not_false, Bool.true_eq_false, Bool.false_eq_true, Bool.true_beq, Bool.false_beq, Int.reduceLT, Int.reduceLE, Int.reduceEq, Int.reduceNe, ne_eq, not_false_eq_true, not_true_eq_false, List.getElem?_cons_zero, List.getElem?_cons_succ, List.length_cons, List.length_nil, List.all_cons, List.all_nil, Bool.and_true, Bool.and_self, Bool.true_and, Bool.false_and, Bool.and_false, Bool.or_true, Bool.or_false, Bool.true_or, Bool.false_or, Bool.or_self, List.elem_cons, List.elem_nil, Nat.add_zero, Nat.zero_add, or_self, or_false, false_or, true_or, or_true, and_true, true_and, and_false, false_and, and_self, List.mem_cons, List.not_mem_nil, Nat.reducePow, F.f1, F.f5, F.f6, F.f7, F.f8]

theorem liveL_taken : ∀ (i : Nat) (sl : List (List AV)), liveL i sl = takenL i (sl.map liveC)
  | _, [] => rfl
  | i, c :: l => by simp only [liveL, List.map_cons, takenL, liveL_taken (i + 1) l]
/-- the places that are taken, as numbers -/
def takenI : Nat → List Bool → List Int
  | _, [] => []
  | i, b :: l => if b = true then (i : Int) :: takenI (i + 1) l else takenI (i + 1) l
theorem takenL_map : ∀ (i : Nat) (l : List Bool), takenL i l = (takenI i l).map iv
  | _, [] => rfl
  | i, b :: l => by
    simp only [takenL, takenI, takenL_map (i + 1) l]
    split <;> rfl
theorem takenI_len : ∀ (i : Nat) (l : List Bool), (takenI i l).length ≤ l.length
  | _, [] => Nat.le_refl _
  | i, b :: l => by
    have := takenI_len (i + 1) l
    simp only [takenI]
    split <;> simp only [List.length_cons] <;> omega

/-- what is live is what is taken -/
theorem part_live (ha : isOwn a = false) (K : HIs G sl bs) (hlv : sl.map liveC = bs) (hn : sl.length = n) (h1 : 1 ≤ n) (hn2 : n ≤ 32) {fr : PT} (F : LFr fr a n i) :
    ∃ fr' L, ex cx D 0 3 113 (.seq (.region 27 g3_26 false) (.seq (.seq (.region 28 g3_27 false) (.block 4 (.loop l3_1))) (.seq (.region 33 g3_32 false) (.cond (.tmp 112) (.seq (.region 34 g3_33 false) .ret) .skip)))) fr G = some (.normal, fr', G ++ L) ∧ LFr fr' a n i := by
  have hbn : bs.length = n := by rw [← hlv, List.length_map, hn]
  obtain ⟨fr1, h, F1, h14⟩ := taken_loop (i := i) (w := .dead) ha K hbn hn2 n 0 (by omega) [] (Nat.le_refl _) ((fr.set 14 (.lit (.slice none 0 0))).set 15 (.lit (.int .i64 0))) (by constructor <;> simp -implicitDefEqProofs (maxDischargeDepth := 4) only [go_sem, decide_true, decide_false, beq_self_eq_true, ↓reduceIte, Nat.reduceLT, Nat.reduceAdd, Nat.reduceMul, Nat.reduceSub, Nat.reduceEqDiff, Nat.reduceLeDiff, Nat.reduceBEq, reduceCtorEq, Nat.succ_ne_zero, Bool.not_true, Bool.not_false, Bool.true_eq_false, Bool.false_eq_true, Bool.true_beq, Bool.false_beq, Int.reduceLT, Int.reduceLE, Int.reduceEq, Int.reduceNe, ne_eq, not_false_eq_true, not_true_eq_false, List.getElem?_cons_zero, List.getElem?_cons_succ, List.length_cons, List.length_nil, List.all_cons, List.all_nil, Bool.and_true, Bool.and_self, Bool.true_and, Bool.false_and, Bool.and_false, Bool.or_true, Bool.or_false, Bool.true_or, Bool.false_or, Bool.or_self, List.elem_cons, List.elem_nil, Nat.add_zero, Nat.zero_add, or_self, or_false, false_or, true_or, or_true, and_true, true_and, and_false, false_and, and_self, List.mem_cons, List.not_mem_nil, Nat.reducePow, F.f1, F.f5, F.f6, F.f7, F.f8]) (by simp -implicitDefEqProofs (maxDischargeDepth := 4) only [go_sem, decide_true, decide_false, beq_self_eq_true, ↓reduceIte, Nat.reduceLT, Nat.reduceAdd, Nat.reduceMul, Nat.reduceSub, Nat.reduceEqDiff, Nat.reduceLeDiff, Nat.reduceBEq, reduceCtorEq, Nat.succ_ne_zero, Bool.not_true, Bool.not_false, Bool.true_eq_false, Bool.false_eq_true, Bool.true_beq, Bool.false_beq, Int.reduceLT, Int.reduceLE, Int.reduceEq, Int.reduceNe, ne_eq, not_false_eq_true, not_true_eq_false, List.getElem?_cons_zero, List.getElem?_cons_succ, List.length_cons, List.length_nil, List.all_cons, List.all_nil, Bool.and_true, Bool.and_self, Bool.true_and, Bool.false_and, Bool.and_false, Bool.or_true, Bool.or_false, Bool.true_or, Bool.false_or, Bool.or_self, List.elem_cons, List.elem_nil, Nat.add_zero, Nat.zero_add, or_self, or_false, false_or, true_or, or_true, and_true, true_and, and_false, false_and, and_self, List.mem_cons, List.not_mem_nil, Nat.reducePow, Int.ofNat_zero]) (by simp -implicitDefEqProofs (maxDischargeDepth := 4) only [go_sem, decide_true, decide_false, beq_self_eq_true, ↓reduceIte, Nat.reduceLT, Nat.reduceAdd, Nat.reduceMul, Nat.reduceSub, Nat.reduceEqDiff, Nat.reduceLeDiff, Nat.reduceBEq, reduceCtorEq, Nat.succ_ne_zero, Bool.not_true, Bool.not_false, Bool.true_eq_false, Bool.false_eq_true, Bool.true_beq, Bool.false_beq, Int.reduceLT, Int.reduceLE, Int.reduceEq, Int.reduceNe, ne_eq, not_false_eq_true, not_true_eq_false, List.getElem?_cons_zero, List.getElem?_cons_succ, List.length_cons, List.length_nil, List.all_cons, List.all_nil, Bool.and_true, Bool.and_self, Bool.true_and, Bool.false_and, Bool.and_false, Bool.or_true, Bool.or_false, Bool.true_or, Bool.false_or, Bool.or_self, List.elem_cons, List.elem_nil, Nat.add_zero, Nat.zero_add, or_self, or_false, false_or, true_or, or_true, and_true, true_and, and_false, false_and, and_self, List.mem_cons, List.not_mem_nil, Nat.reducePow, grV])
  rw [List.drop_zero, List.nil_append, takenL_map] at h14
  obtain ⟨L, x, hx, hL⟩ := live_ok (ro := 0) K.toTblAt (Nat.zero_le _) (by omega)
  rw [liveL_taken, hlv, takenL_map] at hx
  have hlen := takenI_len 0 bs
  have hdec : decide (takenI 0 bs = takenI 0 bs) = true := by simp
  rcases grV_gr ((takenI 0 bs).map iv) with hg | ⟨hg, hnil⟩
  · rw [hg] at h14
    have hsh : Sl 1 (.vec 1 .shared ((takenI 0 bs).map iv)) ((takenI 0 bs).map iv) := .inr (.inl rfl)
    have hI := ints_ok hx hsh (by omega)
    rw [hdec] at hI
    simp -implicitDefEqProofs (maxDischargeDepth := 4) only [go_sem, decide_true, decide_false, beq_self_eq_true, ↓reduceIte, Nat.reduceLT, Nat.reduceAdd, Nat.reduceMul, Nat.reduceSub, Nat.reduceEqDiff, Nat.reduceLeDiff, Nat.reduceBEq, reduceCtorEq, Nat.succ_ne_zero, Bool.not_true, Bool.not_false, Bool.true_eq_false, Bool.false_eq_true, Bool.true_beq, Bool.false_beq, Int.reduceLT, Int.reduceLE, Int.reduceEq, Int.reduceNe, ne_eq, not_false_eq_true, not_true_eq_false, List.getElem?_cons_zero, List.getElem?_cons_succ, List.length_cons, List.length_nil, List.all_cons, List.all_nil, Bool.and_true, Bool.and_self, Bool.true_and, Bool.false_and, Bool.and_false, Bool.or_true, Bool.or_false, Bool.true_or, Bool.false_or, Bool.or_self, List.elem_cons, List.elem_nil, Nat.add_zero, Nat.zero_add, or_self, or_false, false_or, true_or, or_true, and_true, true_and, and_false, false_and, and_self, List.mem_cons, List.not_mem_nil, Nat.reducePow, F.f1, F.f5, F.f6, F.f7, F.f8, x_loop, h, F1.f1, F1.f5, F1.f6, F1.f7, F1.f8, h14, hL, hx.shr, hx.notOwn, hx.shut1, hsh.shut1, hI]
    refine ⟨_, L, rfl, ?_⟩
    constructor <;> simp -implicitDefEqProofs (maxDischargeDepth := 4) only [go_sem, decide_true, decide_false, beq_self_eq_true, ↓reduceIte, Nat.reduceLT, Nat.reduceAdd, Nat.reduceMul, Nat.reduceSub, Nat.reduceEqDiff, Nat.reduceLeDiff, Nat.reduceBEq, reduceCtorEq, Nat.succ_ne_zero, Bool.not_true, Bool.not_false, Bool.true_eq_false, Bool.false_eq_true, Bool.true_beq, Bool.false_beq, Int.reduceLT, Int.reduceLE, Int.reduceEq, Int.reduceNe, ne_eq, not_false_eq_true, not_true_eq_false, List.getElem?_cons_zero, List.getElem?_cons_succ, List.length_cons, List.length_nil, List.all_cons, List.all_nil, Bool.and_true, Bool.and_self, Bool.true_and, Bool.false_and, Bool.and_false, Bool.or_true, Bool.or_false, Bool.true_or, Bool.false_or, Bool.or_self, List.elem_cons, List.elem_nil, Nat.add_zero, Nat.zero_add, or_self, or_false, false_or, true_or, or_true, and_true, true_and, and_false, false_and, and_self, List.mem_cons, List.not_mem_nil, Nat.reducePow, F1.f1, F1.f5, F1.f6, F1.f7, F1.f8]
  · rw [hg] at h14
    have hsh : Sl 1 (.lit (.slice none 0 0)) ((takenI 0 bs).map iv) := .inr (.inr ⟨rfl, hnil⟩)
    have hI := ints_ok hx hsh (by omega)
    rw [hdec] at hI
    simp -implicitDefEqProofs (maxDischargeDepth := 4) only [go_sem, decide_true, decide_false, beq_self_eq_true, ↓reduceIte, Nat.reduceLT, Nat.reduceAdd, Nat.reduceMul, Nat.reduceSub, Nat.reduceEqDiff, Nat.reduceLeDiff, Nat.reduceBEq, reduceCtorEq, Nat.succ_ne_zero, Bool.not_true, Bool.not_false, Bool.true_eq_false, Bool.false_eq_true, Bool.true_beq, Bool.false_beq, Int.reduceLT, Int.reduceLE, Int.reduceEq, Int.reduceNe, ne_eq, not_false_eq_true, not_true_eq_false, List.getElem?_cons_zero, List.getElem?_cons_succ, List.length_cons, List.length_nil, List.all_cons, List.all_nil, Bool.and_true, Bool.and_self, Bool.true_and, Bool.false_and, Bool.and_false, Bool.or_true, Bool.or_false, Bool.true_or, Bool.false_or, Bool.or_self, List.elem_cons, List.elem_nil, Nat.add_zero, Nat.zero_add, or_self, or_false, false_or, true_or, or_true, and_true, true_and, and_false, false_and, and_self, List.mem_cons, List.not_mem_nil, Nat.reducePow, F.f1, F.f5, F.f6, F.f7, F.f8, x_loop, h, F1.f1, F1.f5, F1.f6, F1.f7, F1.f8, h14, hL, hx.shr, hx.notOwn, hx.shut1, hsh.shut1, hI]
    refine ⟨_, L, rfl, ?_⟩
    constructor <;> simp -implicitDefEqProofs (maxDischargeDepth := 4) only [go_sem, decide_true, decide_false, beq_self_eq_true, ↓reduceIte, Nat.reduceLT, Nat.reduceAdd, Nat.reduceMul, Nat.reduceSub, Nat.reduceEqDiff, Nat.reduceLeDiff, Nat.reduceBEq, reduceCtorEq, Nat.succ_ne_zero, Bool.not_true, Bool.not_false, Bool.true_eq_false, Bool.false_eq_true, Bool.true_beq, Bool.false_beq, Int.reduceLT, Int.reduceLE, Int.reduceEq, Int.reduceNe, ne_eq, not_false_eq_true, not_true_eq_false, List.getElem?_cons_zero, List.getElem?_cons_succ, List.length_cons, List.length_nil, List.all_cons, List.all_nil, Bool.and_true, Bool.and_self, Bool.true_and, Bool.false_and, Bool.and_false, Bool.or_true, Bool.or_false, Bool.true_or, Bool.false_or, Bool.or_self, List.elem_cons, List.elem_nil, Nat.add_zero, Nat.zero_add, or_self, or_false, false_or, true_or, or_true, and_true, true_and, and_false, false_and, and_self, List.mem_cons, List.not_mem_nil, Nat.reducePow, F1.f1, F1.f5, F1.f6, F1.f7, F1.f8]
end
end Go.Abs.Tab

/- ActorsLowest: its loop, and the whole. -/
set_option linter.unusedVariables false
namespace Go.Abs
section
variable {cx : Cx} {h : Hd} {ro fn nt : Nat} {fr fr' : PT} {H H' : Hp} {a b b1 c : Code}
theorem x_cont1 (e : ex cx h ro fn nt a fr H = some (.normal, fr', H')) : ex cx h ro fn nt (.seq a c) fr H = ex cx h ro fn nt c fr' H' := by
  rw [x_seq, e, xbind_some, contR_normal]
theorem x_cont2 (e : ex cx h ro fn nt (.seq a b) fr H = some (.normal, fr', H')) : ex cx h ro fn nt (.seq a (.seq b c)) fr H = ex cx h ro fn nt c fr' H' := by
  rw [x_seq] at e ⊢
  cases ha : ex cx h ro fn nt a fr H with
  | none => rw [ha] at e; cases e
  | some r =>
    obtain ⟨x, fr1, H1⟩ := r
    rw [ha] at e
    cases x with
    | normal =>
      rw [xbind_some, contR_normal] at e ⊢
      exact x_cont1 e
    | _ => cases e
theorem x_cont3 (e : ex cx h ro fn nt (.seq a (.seq b b1)) fr H = some (.normal, fr', H')) : ex cx h ro fn nt (.seq a (.seq b (.seq b1 c))) fr H = ex cx h ro fn nt c fr' H' := by
  rw [x_seq] at e ⊢
  cases ha : ex cx h ro fn nt a fr H with
  | none => rw [ha] at e; cases e
  | some r =>
    obtain ⟨x, fr1, H1⟩ := r
    rw [ha] at e
    cases x with
    | normal =>
      rw [xbind_some, contR_normal] at e ⊢
      exact x_cont2 e
    | _ => cases e
end
namespace Tab
section
variable {a : AV} {n i : Nat} {G : Hp} {sl : List (List AV)} {bs : List Bool}
theorem kill_Sl {f : Int → AV} (hf : ∀ x, kill0 3 (f x) = f x) {xs : List Int} (ha : Sl 1 a (xs.map f)) : kill 3 a = a := by
  rcases ha with rfl | rfl | ⟨rfl, _⟩ <;> rfl
theorem LFr.killed (ha : kill 3 a = a) {fr : PT} (F : LFr fr a n i) : LFr (fr.map (kill 3)) a n i := by
  constructor <;> rw [get_mapkill]
  · rw [F.f1, ha]
  · rw [F.f5]; rfl
  · rw [F.f6]; rfl
  · rw [F.f7]; rfl
  · rw [F.f8]; rfl
theorem HIs.killed (K : HIs G sl bs) : HIs ((G.take 3).map (killB 3)) sl bs := by
  have get : ∀ k < 3, ((G.take 3).map (killB 3))[k]? = (G[k]?).map (killB 3) := fun k hk => by
    rw [List.getElem?_map, List.getElem?_take_of_lt hk]
  refine ⟨⟨?_, ?_, K.ne, K.ok⟩, ?_, K.kl⟩
  · rw [get 1 (by decide), K.tb]; rfl
  · rw [get 0 (by decide), K.sb]
    simp only [Option.map_some, killB, List.map_map]
    congr 2
    refine List.map_congr_left fun c hc => ?_
    show kill1 3 (.agg c) = .agg c
    simp only [kill1, K.kl c hc]
  · rw [get 2 (by decide), K.hb]
    simp only [Option.map_some, killB, List.map_map]
    rfl
theorem trim_ok {P : Option Res → Prop} {k : PT → Hp → Option Res} (ha : kill 3 a = a) {fr : PT} (F : LFr fr a n i) (K : HIs G sl bs) (hX : ∀ fr' G', G'.length = 3 → LFr fr' a n i → HIs G' sl bs → P (k fr' G')) : P (trimmed k 3 fr G) := by
  unfold trimmed
  split
  · rename_i h; exact hX _ _ h F K
  · refine hX _ _ ?_ (F.killed ha) K.killed
    have := lt_of_get K.hb
    rw [List.length_map, List.length_take]; omega

theorem lowest_loop {xs : List Int} (ha : Sl 1 a (xs.map uv)) (hxs : ∀ x ∈ xs, 0 ≤ x ∧ x < 256) (h1 : 1 ≤ n) (hn2 : n ≤ 32) :
    ∀ (m i : Nat), i + m = 40 → ∀ (fr : PT) (G : Hp) (sl : List (List AV)) (bs : List Bool), G.length = 3 → LFr fr a n i → HIs G sl bs → sl.map liveC = bs → sl.length = n →
      ∃ fr' G', D.loop 0 3 113 l3_2 fr G = some (.exit 0, fr', G') := by
  intro m
  induction m with
  | zero =>
    intro i hi fr G sl bs hG F K hlv hn
    rw [Nat.add_zero] at hi
    subst hi
    have e2 : ¬ (((40 : Nat) : Int) < 40) := by omega
    rw [dl3_2]
    by_cases hlt : 40 < xs.length
    · have e1 : (((40 : Nat) : Int) < (xs.length : Int)) := by omega
      simp -implicitDefEqProofs (maxDischargeDepth := 4) only [go_sem, decide_true, decide_false, beq_self_eq_true, ↓reduceIte, Nat.reduceLT, Nat.reduceAdd, Nat.reduceMul, Nat.reduceSub, Nat.reduceEqDiff, Nat.reduceLeDiff, Nat.reduceBEq, reduceCtorEq, Nat.succ_ne_zero, Bool.not_true, Bool.not_false, Bool.true_eq_false, Bool.false_eq_true, Bool.true_beq, Bool.false_beq, Int.reduceLT, Int.reduceLE, Int.reduceEq, Int.reduceNe, ne_eq, not_false_eq_true, not_true_eq_false, List.getElem?_cons_zero, List.getElem?_cons_succ, List.length_cons, List.length_nil, List.all_cons, List.all_nil, Bool.and_true, Bool.and_self, Bool.true_and, Bool.false_and, Bool.and_false, Bool.or_true, Bool.or_false, Bool.true_or, Bool.false_or, Bool.or_self, List.elem_cons, List.elem_nil, Nat.add_zero, Nat.zero_add, or_self, or_false, false_or, true_or, or_true, and_true, true_and, and_false, false_and, and_self, List.mem_cons, List.not_mem_nil, Nat.reducePow, F.f1, F.f5, F.f6, F.f7, F.f8, ha.notOwn, ha.shr, alen_sl ha, List.length_map, e1, e2]
      exact ⟨_, _, rfl⟩
    · have e1 : ¬ (((40 : Nat) : Int) < (xs.length : Int)) := by omega
      simp -implicitDefEqProofs (maxDischargeDepth := 4) only [go_sem, decide_true, decide_false, beq_self_eq_true, ↓reduceIte, Nat.reduceLT, Nat.reduceAdd, Nat.reduceMul, Nat.reduceSub, Nat.reduceEqDiff, Nat.reduceLeDiff, Nat.reduceBEq, reduceCtorEq, Nat.succ_ne_zero, Bool.not_true, Bool.not_false, Bool.true_eq_false, Bool.false_eq_true, Bool.true_beq, Bool.false_beq, Int.reduceLT, Int.reduceLE, Int.reduceEq, Int.reduceNe, ne_eq, not_false_eq_true, not_true_eq_false, List.getElem?_cons_zero, List.getElem?_cons_succ, List.length_cons, List.length_nil, List.all_cons, List.all_nil, Bool.and_true, Bool.and_self, Bool.true_and, Bool.false_and, Bool.and_false, Bool.or_true, Bool.or_false, Bool.true_or, Bool.false_or, Bool.or_self, List.elem_cons, List.elem_nil, Nat.add_zero, Nat.zero_add, or_self, or_false, false_or, true_or, or_true, and_true, true_and, and_false, false_and, and_self, List.mem_cons, List.not_mem_nil, Nat.reducePow, F.f1, F.f5, F.f6, F.f7, F.f8, ha.notOwn, ha.shr, alen_sl ha, List.length_map, e1, e2]
      exact ⟨_, _, rfl⟩
  | succ m ih =>
    intro i hi fr G sl bs hG F K hlv hn
    have hbn : bs.length = n := by rw [← hlv, List.length_map, hn]
    by_cases hlt : i < xs.length
    · have e1 : ((i : Int) < (xs.length : Int)) := by omega
      have e2 : ((i : Int) < 40) := by omega
      have e3 : wrapK .i64 ((i : Int) + 1) = ((i + 1 : Nat) : Int) := by rw [wrapK_i64 (by omega) (by omega)]; rfl
      obtain ⟨fr0, hA0, F0⟩ : ∃ fr0, ex cx D 0 3 113 (.seq (.region 9 g3_9 false) (.cond (.tmp 35) .skip (.exit 0))) fr G = some (.normal, fr0, G) ∧ LFr fr0 a n i := by
        simp -implicitDefEqProofs (maxDischargeDepth := 4) only [go_sem, decide_true, decide_false, beq_self_eq_true, ↓reduceIte, Nat.reduceLT, Nat.reduceAdd, Nat.reduceMul, Nat.reduceSub, Nat.reduceEqDiff, Nat.reduceLeDiff, Nat.reduceBEq, reduceCtorEq, Nat.succ_ne_zero, Bool.not_true, Bool.not_false, Bool.true_eq_false, Bool.false_eq_true, Bool.true_beq, Bool.false_beq, Int.reduceLT, Int.reduceLE, Int.reduceEq, Int.reduceNe, ne_eq, not_false_eq_true, not_true_eq_false, List.getElem?_cons_zero, List.getElem?_cons_succ, List.length_cons, List.length_nil, List.all_cons, List.all_nil, Bool.and_true, Bool.and_self, Bool.true_and, Bool.false_and, Bool.and_false, Bool.or_true, Bool.or_false, Bool.true_or, Bool.false_or, Bool.or_self, List.elem_cons, List.elem_nil, Nat.add_zero, Nat.zero_add, or_self, or_false, false_or, true_or, or_true, and_true, true_and, and_false, false_and, and_self, List.mem_cons, List.not_mem_nil, Nat.reducePow, F.f1, F.f5, F.f6, F.f7, F.f8, ha.notOwn, ha.shr, alen_sl ha, List.length_map, e1, e2]
        refine ⟨_, rfl, ?_⟩
        constructor <;> simp -implicitDefEqProofs (maxDischargeDepth := 4) only [go_sem, decide_true, decide_false, beq_self_eq_true, ↓reduceIte, Nat.reduceLT, Nat.reduceAdd, Nat.reduceMul, Nat.reduceSub, Nat.reduceEqDiff, Nat.reduceLeDiff, Nat.reduceBEq, reduceCtorEq, Nat.succ_ne_zero, Bool.not_true, Bool.not_false, Bool.true_eq_false, Bool.false_eq_true, Bool.true_beq, Bool.false_beq, Int.reduceLT, Int.reduceLE, Int.reduceEq, Int.reduceNe, ne_eq, not_false_eq_true, not_true_eq_false, List.getElem?_cons_zero, List.getElem?_cons_succ, List.length_cons, List.length_nil, List.all_cons, List.all_nil, Bool.and_true, Bool.and_self, Bool.true_and, Bool.false_and, Bool.and_false, Bool.or_true, Bool.or_false, Bool.true_or, Bool.false_or, Bool.or_self, List.elem_cons, List.elem_nil, Nat.add_zero, Nat.zero_add, or_self, or_false, false_or, true_or, or_true, and_true, true_and, and_false, false_and, and_self, List.mem_cons, List.not_mem_nil, Nat.reducePow, F.f1, F.f5, F.f6, F.f7, F.f8]
      obtain ⟨fr1, hA1, F1, h9⟩ := part_low ha.notOwn K hbn h1 hn2 F0
      obtain ⟨fr2, G2, sl2, bs2, hA2, F2, K2, hlv2, hn2'⟩ := part_add ha.notOwn K hlv hn h1 hn2 (by omega) F1 h9
      obtain ⟨fr3, G3, sl3, bs3, hA3, F3, K3, hlv3, hn3⟩ := part_drop ha hxs K2 hlv2 hn2' h1 hn2 hlt F2
      obtain ⟨fr4, L, hA4, F4⟩ := part_live ha.notOwn K3 hlv3 hn3 h1 hn2 F3
      have hB : ex cx D 0 3 113 (.region 10 g3_34 false) fr4 (G3 ++ L) = some (.normal, ((fr4.set 36 (iv i)).set 37 (iv ((i + 1 : Nat) : Int))).set 8 (iv ((i + 1 : Nat) : Int)), G3 ++ L) := by
        simp -implicitDefEqProofs (maxDischargeDepth := 4) only [go_sem, decide_true, decide_false, beq_self_eq_true, ↓reduceIte, Nat.reduceLT, Nat.reduceAdd, Nat.reduceMul, Nat.reduceSub, Nat.reduceEqDiff, Nat.reduceLeDiff, Nat.reduceBEq, reduceCtorEq, Nat.succ_ne_zero, Bool.not_true, Bool.not_false, Bool.true_eq_false, Bool.false_eq_true, Bool.true_beq, Bool.false_beq, Int.reduceLT, Int.reduceLE, Int.reduceEq, Int.reduceNe, ne_eq, not_false_eq_true, not_true_eq_false, List.getElem?_cons_zero, List.getElem?_cons_succ, List.length_cons, List.length_nil, List.all_cons, List.all_nil, Bool.and_true, Bool.and_self, Bool.true_and, Bool.false_and, Bool.and_false, Bool.or_true, Bool.or_false, Bool.true_or, Bool.false_or, Bool.or_self, List.elem_cons, List.elem_nil, Nat.add_zero, Nat.zero_add, or_self, or_false, false_or, true_or, or_true, and_true, true_and, and_false, false_and, and_self, List.mem_cons, List.not_mem_nil, Nat.reducePow, F4.f1, F4.f5, F4.f6, F4.f7, F4.f8, e3]
      rw [dl3_2, hG, x_cont1 hA0, x_seq, x_block, x_cont2 hA1, x_cont3 hA2, x_cont1 hA3, hA4]
      simp only [xbind_some, outB_normal, contR_normal, hB]
      refine trim_ok (P := fun o => ∃ fr' G', o = some (.exit 0, fr', G')) (a := a) (n := n) (i := i + 1) (sl := sl3) (bs := bs3) (kill_Sl (fun _ => rfl) ha) ?_ K3.grow fun fr' G' hG' F' K' => ih (i + 1) (by omega) fr' G' sl3 bs3 hG' F' K' hlv3 hn3
      constructor <;> simp -implicitDefEqProofs (maxDischargeDepth := 4) only [go_sem, decide_true, decide_false, beq_self_eq_true, ↓reduceIte, Nat.reduceLT, Nat.reduceAdd, Nat.reduceMul, Nat.reduceSub, Nat.reduceEqDiff, Nat.reduceLeDiff, Nat.reduceBEq, reduceCtorEq, Nat.succ_ne_zero, Bool.not_true, Bool.not_false, Bool.true_eq_false, Bool.false_eq_true, Bool.true_beq, Bool.false_beq, Int.reduceLT, Int.reduceLE, Int.reduceEq, Int.reduceNe, ne_eq, not_false_eq_true, not_true_eq_false, List.getElem?_cons_zero, List.getElem?_cons_succ, List.length_cons, List.length_nil, List.all_cons, List.all_nil, Bool.and_true, Bool.and_self, Bool.true_and, Bool.false_and, Bool.and_false, Bool.or_true, Bool.or_false, Bool.true_or, Bool.false_or, Bool.or_self, List.elem_cons, List.elem_nil, Nat.add_zero, Nat.zero_add, or_self, or_false, false_or, true_or, or_true, and_true, true_and, and_false, false_and, and_self, List.mem_cons, List.not_mem_nil, Nat.reducePow, F4.f1, F4.f5, F4.f6, F4.f7, F4.f8]
    · have e1 : ¬ ((i : Int) < (xs.length : Int)) := by omega
      rw [dl3_2]
      simp -implicitDefEqProofs (maxDischargeDepth := 4) only [go_sem, decide_true, decide_false, beq_self_eq_true, ↓reduceIte, Nat.reduceLT, Nat.reduceAdd, Nat.reduceMul, Nat.reduceSub, Nat.reduceEqDiff, Nat.reduceLeDiff, Nat.reduceBEq, reduceCtorEq, Nat.succ_ne_zero, Bool.not_true, Bool.not_false, Bool.true_eq_false, Bool.false_eq_true, Bool.true_beq, Bool.false_beq, Int.reduceLT, Int.reduceLE, Int.reduceEq, Int.reduceNe, ne_eq, not_false_eq_true, not_true_eq_false, List.getElem?_cons_zero, List.getElem?_cons_succ, List.length_cons, List.length_nil, List.all_cons, List.all_nil, Bool.and_true, Bool.and_self, Bool.true_and, Bool.false_and, Bool.and_false, Bool.or_true, Bool.or_false, Bool.true_or, Bool.false_or, Bool.or_self, List.elem_cons, List.elem_nil, Nat.add_zero, Nat.zero_add, or_self, or_false, false_or, true_or, or_true, and_true, true_and, and_false, false_and, and_self, List.mem_cons, List.not_mem_nil, Nat.reducePow, F.f1, F.f5, F.f6, F.f7, F.f8, ha.notOwn, ha.shr, alen_sl ha, List.length_map, e1]
      exact ⟨_, _, rfl⟩

theorem works_ok : pcall D 33 [] = some (bv true) := by
  have h : isTrue ((lvl cx 3000).call 0 33 [] []) = true := by kernel_rfl
  obtain ⟨H, h⟩ := isTrue_spec h
  have h2 := den_call.2 ⟨3000, h⟩
  unfold pcall
  rw [show ([] : List AV).map cl2 = [] from rfl, h2]
  rfl

theorem fin_ok {o : Option Res} (h : ∃ fr' G', o = some (.exit 0, fr', G')) : ∃ H', returned cx [.tmp 4] (xbind (xbind o (outB 0)) (contR fun fr H => some (.ret, fr.set 4 (.lit (.bool true)), H))) = some (bv true, H') := by
  obtain ⟨fr', G', rfl⟩ := h
  simp -implicitDefEqProofs (maxDischargeDepth := 4) only [go_sem, decide_true, decide_false, beq_self_eq_true, ↓reduceIte, Nat.reduceLT, Nat.reduceAdd, Nat.reduceMul, Nat.reduceSub, Nat.reduceEqDiff, Nat.reduceLeDiff, Nat.reduceBEq, reduceCtorEq, Nat.succ_ne_zero, Bool.not_true, Bool.not_false, Bool.true_eq_false, Bool.false_eq_true, Bool.true_beq, Bool.false_beq, Int.reduceLT, Int.reduceLE, Int.reduceEq, Int.reduceNe, ne_eq, not_false_eq_true, not_true_eq_false, List.getElem?_cons_zero, List.getElem?_cons_succ, List.length_cons, List.length_nil, List.all_cons, List.all_nil, Bool.and_true, Bool.and_self, Bool.true_and, Bool.false_and, Bool.and_false, Bool.or_true, Bool.or_false, Bool.true_or, Bool.false_or, Bool.or_self, List.elem_cons, List.elem_nil, Nat.add_zero, Nat.zero_add, or_self, or_false, false_or, true_or, or_true, and_true, true_and, and_false, false_and, and_self, List.mem_cons, List.not_mem_nil, Nat.reducePow]
  exact ⟨_, rfl⟩
theorem lowest_ok {xs : List Int} (ha : Sl 1 a (xs.map uv)) (hxs : ∀ x ∈ xs, 0 ≤ x ∧ x < 256) {b : Int} (hb : 0 ≤ b ∧ b < 256) :
    ∃ H', callB cx D 0 3 [uv b, a] [] = some (bv true, H') := by
  obtain ⟨k, hk, hk32⟩ : ∃ k : Nat, b.tmod 32 = (k : Int) ∧ k < 32 := ⟨(b.tmod 32).toNat, by have := Int.tmod_nonneg 32 hb.1; omega, by have := Int.tmod_lt_of_pos b (show (0 : Int) < 32 by omega); have := Int.tmod_nonneg 32 hb.1; omega⟩
  have e1 : wrapK .i64 (k : Int) = (k : Int) := wrapK_i64 (by omega) (by omega)
  have e2 : wrapK .i64 (1 + (k : Int)) = ((k + 1 : Nat) : Int) := by rw [wrapK_i64 (by omega) (by omega)]; omega
  have hN := new_ok (ro := 0) (H := []) (n := k + 1) (Nat.zero_le _) (by omega) (by omega)
  rw [List.nil_append, List.length_nil, Nat.zero_add] at hN
  rw [c3]
  have e5 : (k + 1) * 2 ≤ 1099511627776 := by omega
  simp -implicitDefEqProofs (maxDischargeDepth := 4) only [go_sem, decide_true, decide_false, beq_self_eq_true, ↓reduceIte, Nat.reduceLT, Nat.reduceAdd, Nat.reduceMul, Nat.reduceSub, Nat.reduceEqDiff, Nat.reduceLeDiff, Nat.reduceBEq, reduceCtorEq, Nat.succ_ne_zero, Bool.not_true, Bool.not_false, Bool.true_eq_false, Bool.false_eq_true, Bool.true_beq, Bool.false_beq, Int.reduceLT, Int.reduceLE, Int.reduceEq, Int.reduceNe, ne_eq, not_false_eq_true, not_true_eq_false, List.getElem?_cons_zero, List.getElem?_cons_succ, List.length_cons, List.length_nil, List.all_cons, List.all_nil, Bool.and_true, Bool.and_self, Bool.true_and, Bool.false_and, Bool.and_false, Bool.or_true, Bool.or_false, Bool.true_or, Bool.false_or, Bool.or_self, List.elem_cons, List.elem_nil, Nat.add_zero, Nat.zero_add, or_self, or_false, false_or, true_or, or_true, and_true, true_and, and_false, false_and, and_self, List.mem_cons, List.not_mem_nil, Nat.reducePow, elAt_eq, stV_eq, cellsB_cells, hp_get_r, hp_get_r0, hp_get_l, hp_set_r, hp_set_r0, hp_set_l, hp_one, hp_ne, List.drop_succ_cons, List.drop_zero, List.take_succ_cons, List.take_zero, works_ok, ha.notOwn, ha.shr, ha.drp, b_rem, hk, e1, e2, hN, e5, x_loop]
  have hz : List.map AV.agg (List.replicate k zeroC) = List.replicate k (AV.agg zeroC) := List.map_replicate
  have hf : List.map bv (List.replicate k false) = List.replicate k (bv false) := List.map_replicate
  refine fin_ok (lowest_loop (a := a) (n := k + 1) ha hxs (by omega) (by omega) 40 0 rfl _ _ (zeroC :: List.replicate k zeroC) (false :: List.replicate k false) rfl ?_ ?_ ?_ ?_)
  · constructor <;> simp -implicitDefEqProofs (maxDischargeDepth := 4) only [go_sem, decide_true, decide_false, beq_self_eq_true, ↓reduceIte, Nat.reduceLT, Nat.reduceAdd, Nat.reduceMul, Nat.reduceSub, Nat.reduceEqDiff, Nat.reduceLeDiff, Nat.reduceBEq, reduceCtorEq, Nat.succ_ne_zero, Bool.not_true, Bool.not_false, Bool.true_eq_false, Bool.false_eq_true, Bool.true_beq, Bool.false_beq, Int.reduceLT, Int.reduceLE, Int.reduceEq, Int.reduceNe, ne_eq, not_false_eq_true, not_true_eq_false, List.getElem?_cons_zero, List.getElem?_cons_succ, List.length_cons, List.length_nil, List.all_cons, List.all_nil, Bool.and_true, Bool.and_self, Bool.true_and, Bool.false_and, Bool.and_false, Bool.or_true, Bool.or_false, Bool.true_or, Bool.false_or, Bool.or_self, List.elem_cons, List.elem_nil, Nat.add_zero, Nat.zero_add, or_self, or_false, false_or, true_or, or_true, and_true, true_and, and_false, false_and, and_self, List.mem_cons, List.not_mem_nil, Nat.reducePow, Int.ofNat_zero]
  · refine ⟨⟨?_, ?_, by decide, ?_⟩, ?_, ?_⟩
    · simp
    · simp
    · intro c hc
      have : c = zeroC := by simp at hc; rcases hc with h | ⟨_, h⟩ <;> exact h
      rw [this]; exact zeroC_ok
    · simp
    · intro c hc
      have : c = zeroC := by simp at hc; rcases hc with h | ⟨_, h⟩ <;> exact h
      rw [this]; rfl
  · simp [liveC, zeroC]
  · simp
end
end Tab
end Go.Abs
