/- Frames: what is copied of them. -/
import Derived.Test.YtiinagmombigpaaPlayA
import Derived.Test.YtiinagmombigpaaPlayG
set_option linter.unusedSimpArgs false
set_option linter.unusedVariables false
set_option linter.unnecessarySimpa false

/- Frames: what is copied of them. -/
set_option linter.unusedVariables false
namespace Go.Abs.Tab

/-- a frame's cells: numbers, and a list of numbers in the third -/
structure FrOk (d : List AV) (sv : AV) (st : List Int) : Prop where
  len : d.length = 19
  at2 : d[2]? = some sv
  sl : Sl 1 sv (st.map iv)
  num : ∀ (j : Nat) (x : AV), j ≠ 2 → d[j]? = some x → ∃ n, x = iv n
theorem FrOk.map {d : List AV} {sv : AV} {st : List Int} (F : FrOk d sv st) {g : AV → AV} (hn : ∀ n, g (iv n) = iv n) (hs : g sv = sv) : d.map g = d := by
  refine List.ext_getElem? fun j => ?_
  rw [List.getElem?_map]
  cases h : d[j]? with
  | none => rfl
  | some x =>
    by_cases hj : j = 2
    · subst hj; rw [F.at2] at h; cases h; rw [Option.map_some, hs]
    · obtain ⟨n, rfl⟩ := F.num j x hj h; rw [Option.map_some, hn]
theorem FrOk.shr {d : List AV} {sv : AV} {st : List Int} (F : FrOk d sv st) : d.map Abs.shr = d := F.map (fun _ => rfl) F.sl.shr
theorem FrOk.cl0 {d : List AV} {sv : AV} {st : List Int} (F : FrOk d sv st) : d.map Abs.cl0 = d := F.map (fun _ => rfl) F.sl.cl0
theorem FrOk.shut {d : List AV} {sv : AV} {st : List Int} (F : FrOk d sv st) : shut1 (.agg d) = true := by
  show d.all shut0 = true
  rw [List.all_eq_true]
  intro x hx
  obtain ⟨j, hj⟩ := List.getElem?_of_mem hx
  by_cases h2 : j = 2
  · subst h2; rw [F.at2] at hj; cases hj; exact F.sl.shut0
  · obtain ⟨n, rfl⟩ := F.num j x h2 hj; rfl
theorem FrOk.take {d : List AV} {sv : AV} {st : List Int} (F : FrOk d sv st) : d.take 19 = d := List.take_of_length_le (by rw [F.len]; exact Nat.le_refl _)
theorem FrOk.set {d : List AV} {sv x : AV} {st xs : List Int} (F : FrOk d sv st) (hx : Sl 1 x (xs.map iv)) : FrOk (d.set 2 x) x xs := by
  refine ⟨by rw [List.length_set, F.len], by rw [List.getElem?_set_self (by rw [F.len]; decide)], hx, fun j y hj h => ?_⟩
  rw [List.getElem?_set_ne (Ne.symm hj)] at h
  exact F.num j y hj h

theorem aslice_00 {T : TypeId → Option TI} {t : TypeId} {sz : Nat} {e : TypeId} {te : TI} (ht : slT T t = some (sz, e, te)) {k : Kd} {els : List AV} {k1 k2 : IntKind} : aslice T t (.vec sz k els) none (some (.lit (.int k1 0))) (some (.lit (.int k2 0))) = some (.vec sz .exact []) := by
  unfold slT at ht
  split at ht
  · rename_i e' _ hT
    cases he : T e' with
    | none => rw [he] at ht; cases ht
    | some te' =>
      rw [he] at ht
      simp only [Option.map_some, Option.some.injEq, Prod.mk.injEq] at ht
      obtain ⟨rfl, rfl, rfl⟩ := ht
      unfold aslice
      simp [hT, he, natOr, natOf]
  · cases ht
theorem aslice_n0 {T : TypeId → Option TI} {t : TypeId} {sz : Nat} {e : TypeId} {te : TI} (ht : slT T t = some (sz, e, te)) {k1 k2 : IntKind} : aslice T t (.lit (.slice none 0 0)) none (some (.lit (.int k1 0))) (some (.lit (.int k2 0))) = some (.lit (.slice none 0 0)) := by
  unfold slT at ht
  split at ht
  · rename_i e' _ hT
    cases he : T e' with
    | none => rw [he] at ht; cases ht
    | some te' =>
      unfold aslice
      simp [hT, he, natOr, natOf]
  · cases ht

theorem own_ok {d : List AV} {sv : AV} {st : List Int} (F : FrOk d sv st) (hst : st.length ≤ 32) : ∃ sv', pcall D 111 [.agg d] = some (.agg (d.set 2 sv')) ∧ Sl 1 sv' (st.map iv) := by
  have hcl : [AV.agg d].map cl2 = [.agg d] := by simp only [List.map_cons, List.map_nil, cl2, cl1, F.cl0]
  have e1 : d.length = 19 := F.len
  have e2 := F.at2
  have e3 := F.shr
  have e4 := F.take
  have e5 : ∀ x, (d.set 2 x).take 19 = d.set 2 x := fun x => List.take_of_length_le (by rw [List.length_set, e1]; exact Nat.le_refl _)
  have fin : ∀ sv', Sl 1 sv' (st.map iv) → (∃ H', callB cx D 0 111 [.agg d] [] = some (.agg (d.set 2 sv'), H')) → pcall D 111 [.agg d] = some (.agg (d.set 2 sv')) := fun sv' hs ⟨H', h⟩ => by
    rw [pcall_eq (cx := cx) (v := .agg (d.set 2 sv')) (H' := H') (by rw [hcl]; exact h)]
    show some (AV.agg ((d.set 2 sv').map (frz0 0 H'))) = _
    rw [(F.set hs).map (fun _ => rfl) (hs.fr0 _ _)]
  have c1 : ∀ k els, aslice cx.T 39 (.vec 1 k els) none (some (.lit (.int .i64 0))) (some (.lit (.int .i64 0))) = some (.vec 1 .exact []) := fun k els => aslice_00 sl39
  have c2 : aslice cx.T 39 (.lit (.slice none 0 0)) none (some (.lit (.int .i64 0))) (some (.lit (.int .i64 0))) = some (.lit (.slice none 0 0)) := aslice_n0 sl39
  rcases F.sl with hv | hv | ⟨hv, hnil⟩
  · subst hv
    cases st with
    | nil =>
      have c3 : apV 1 8 (([] : List Int).map iv) (.vec 1 .exact []) = some (.vec 1 .exact []) := rfl
      rw [List.map_nil] at c3 e2
      refine ⟨_, fin (.vec 1 .exact []) (.inl rfl) ?_, .inl rfl⟩
      rw [c111]
      simp -implicitDefEqProofs (maxDischargeDepth := 4) only [go_sem, decide_true, decide_false, beq_self_eq_true, ↓reduceIte, Nat.reduceLT, Nat.reduceAdd, Nat.reduceMul, Nat.reduceSub, Nat.reduceEqDiff, Nat.reduceLeDiff, Nat.reduceBEq, reduceCtorEq, Nat.succ_ne_zero, Bool.not_true, Bool.not_false, Bool.true_eq_false, Bool.false_eq_true, Bool.true_beq, Bool.false_beq, Int.reduceLT, Int.reduceLE, Int.reduceEq, Int.reduceNe, ne_eq, not_false_eq_true, not_true_eq_false, List.getElem?_cons_zero, List.getElem?_cons_succ, List.length_cons, List.length_nil, List.all_cons, List.all_nil, Bool.and_true, Bool.and_self, Bool.true_and, Bool.false_and, Bool.and_false, Bool.or_true, Bool.or_false, Bool.true_or, Bool.false_or, Bool.or_self, List.elem_cons, List.elem_nil, Nat.add_zero, Nat.zero_add, or_self, or_false, false_or, true_or, or_true, and_true, true_and, and_false, false_and, and_self, List.mem_cons, List.not_mem_nil, Nat.reducePow, elAt_eq, stV_eq, cellsB_cells, hp_get_r, hp_get_r0, hp_get_l, hp_set_r, hp_set_r0, hp_set_l, hp_one, hp_ne, List.drop_succ_cons, List.drop_zero, List.take_succ_cons, List.take_zero, e1, e2, e3, e4, e5, c1, c3, List.map_set]
      exact ⟨_, rfl⟩
    | cons y l =>
      have c3 : apV 1 8 ((y :: l).map iv) (.vec 1 .exact []) = some (.vec 1 .own ((y :: l).map iv)) := apV_exact (by simp only [List.length_map, List.length_nil, List.length_cons] at hst ⊢; omega) (by decide)
      refine ⟨_, fin (.vec 1 .shared ((y :: l).map iv)) (.inr (.inl rfl)) ?_, .inr (.inl rfl)⟩
      rw [c111]
      rw [List.map_cons] at c3 e2 ⊢
      simp -implicitDefEqProofs (maxDischargeDepth := 4) only [go_sem, decide_true, decide_false, beq_self_eq_true, ↓reduceIte, Nat.reduceLT, Nat.reduceAdd, Nat.reduceMul, Nat.reduceSub, Nat.reduceEqDiff, Nat.reduceLeDiff, Nat.reduceBEq, reduceCtorEq, Nat.succ_ne_zero, Bool.not_true, Bool.not_false, Bool.true_eq_false, Bool.false_eq_true, Bool.true_beq, Bool.false_beq, Int.reduceLT, Int.reduceLE, Int.reduceEq, Int.reduceNe, ne_eq, not_false_eq_true, not_true_eq_false, List.getElem?_cons_zero, List.getElem?_cons_succ, List.length_cons, List.length_nil, List.all_cons, List.all_nil, Bool.and_true, Bool.and_self, Bool.true_and, Bool.false_and, Bool.and_false, Bool.or_true, Bool.or_false, Bool.true_or, Bool.false_or, Bool.or_self, List.elem_cons, List.elem_nil, Nat.add_zero, Nat.zero_add, or_self, or_false, false_or, true_or, or_true, and_true, true_and, and_false, false_and, and_self, List.mem_cons, List.not_mem_nil, Nat.reducePow, elAt_eq, stV_eq, cellsB_cells, hp_get_r, hp_get_r0, hp_get_l, hp_set_r, hp_set_r0, hp_set_l, hp_one, hp_ne, List.drop_succ_cons, List.drop_zero, List.take_succ_cons, List.take_zero, e1, e2, e3, e4, e5, c1, c3, List.map_set]
      exact ⟨_, rfl⟩
  · subst hv
    cases st with
    | nil =>
      have c3 : apV 1 8 (([] : List Int).map iv) (.vec 1 .exact []) = some (.vec 1 .exact []) := rfl
      rw [List.map_nil] at c3 e2
      refine ⟨_, fin (.vec 1 .exact []) (.inl rfl) ?_, .inl rfl⟩
      rw [c111]
      simp -implicitDefEqProofs (maxDischargeDepth := 4) only [go_sem, decide_true, decide_false, beq_self_eq_true, ↓reduceIte, Nat.reduceLT, Nat.reduceAdd, Nat.reduceMul, Nat.reduceSub, Nat.reduceEqDiff, Nat.reduceLeDiff, Nat.reduceBEq, reduceCtorEq, Nat.succ_ne_zero, Bool.not_true, Bool.not_false, Bool.true_eq_false, Bool.false_eq_true, Bool.true_beq, Bool.false_beq, Int.reduceLT, Int.reduceLE, Int.reduceEq, Int.reduceNe, ne_eq, not_false_eq_true, not_true_eq_false, List.getElem?_cons_zero, List.getElem?_cons_succ, List.length_cons, List.length_nil, List.all_cons, List.all_nil, Bool.and_true, Bool.and_self, Bool.true_and, Bool.false_and, Bool.and_false, Bool.or_true, Bool.or_false, Bool.true_or, Bool.false_or, Bool.or_self, List.elem_cons, List.elem_nil, Nat.add_zero, Nat.zero_add, or_self, or_false, false_or, true_or, or_true, and_true, true_and, and_false, false_and, and_self, List.mem_cons, List.not_mem_nil, Nat.reducePow, elAt_eq, stV_eq, cellsB_cells, hp_get_r, hp_get_r0, hp_get_l, hp_set_r, hp_set_r0, hp_set_l, hp_one, hp_ne, List.drop_succ_cons, List.drop_zero, List.take_succ_cons, List.take_zero, e1, e2, e3, e4, e5, c1, c3, List.map_set]
      exact ⟨_, rfl⟩
    | cons y l =>
      have c3 : apV 1 8 ((y :: l).map iv) (.vec 1 .exact []) = some (.vec 1 .own ((y :: l).map iv)) := apV_exact (by simp only [List.length_map, List.length_nil, List.length_cons] at hst ⊢; omega) (by decide)
      refine ⟨_, fin (.vec 1 .shared ((y :: l).map iv)) (.inr (.inl rfl)) ?_, .inr (.inl rfl)⟩
      rw [c111]
      rw [List.map_cons] at c3 e2 ⊢
      simp -implicitDefEqProofs (maxDischargeDepth := 4) only [go_sem, decide_true, decide_false, beq_self_eq_true, ↓reduceIte, Nat.reduceLT, Nat.reduceAdd, Nat.reduceMul, Nat.reduceSub, Nat.reduceEqDiff, Nat.reduceLeDiff, Nat.reduceBEq, reduceCtorEq, Nat.succ_ne_zero, Bool.not_true, Bool.not_false, Bool.true_eq_false, Bool.false_eq_true, Bool.true_beq, Bool.false_beq, Int.reduceLT, Int.reduceLE, Int.reduceEq, Int.reduceNe, ne_eq, not_false_eq_true, not_true_eq_false, List.getElem?_cons_zero, List.getElem?_cons_succ, List.length_cons, List.length_nil, List.all_cons, List.all_nil, Bool.and_true, Bool.and_self, Bool.true_and, Bool.false_and, Bool.and_false, Bool.or_true, Bool.or_false, Bool.true_or, Bool.false_or, Bool.or_self, List.elem_cons, List.elem_nil, Nat.add_zero, Nat.zero_add, or_self, or_false, false_or, true_or, or_true, and_true, true_and, and_false, false_and, and_self, List.mem_cons, List.not_mem_nil, Nat.reducePow, elAt_eq, stV_eq, cellsB_cells, hp_get_r, hp_get_r0, hp_get_l, hp_set_r, hp_set_r0, hp_set_l, hp_one, hp_ne, List.drop_succ_cons, List.drop_zero, List.take_succ_cons, List.take_zero, e1, e2, e3, e4, e5, c1, c3, List.map_set]
      exact ⟨_, rfl⟩
  · subst hv
    have c3 : apV 1 8 [] (.lit (.slice none 0 0)) = some (.lit (.slice none 0 0)) := rfl
    refine ⟨_, fin (.lit (.slice none 0 0)) (.inr (.inr ⟨rfl, hnil⟩)) ?_, .inr (.inr ⟨rfl, hnil⟩)⟩
    rw [c111]
    simp -implicitDefEqProofs (maxDischargeDepth := 4) only [go_sem, decide_true, decide_false, beq_self_eq_true, ↓reduceIte, Nat.reduceLT, Nat.reduceAdd, Nat.reduceMul, Nat.reduceSub, Nat.reduceEqDiff, Nat.reduceLeDiff, Nat.reduceBEq, reduceCtorEq, Nat.succ_ne_zero, Bool.not_true, Bool.not_false, Bool.true_eq_false, Bool.false_eq_true, Bool.true_beq, Bool.false_beq, Int.reduceLT, Int.reduceLE, Int.reduceEq, Int.reduceNe, ne_eq, not_false_eq_true, not_true_eq_false, List.getElem?_cons_zero, List.getElem?_cons_succ, List.length_cons, List.length_nil, List.all_cons, List.all_nil, Bool.and_true, Bool.and_self, Bool.true_and, Bool.false_and, Bool.and_false, Bool.or_true, Bool.or_false, Bool.true_or, Bool.false_or, Bool.or_self, List.elem_cons, List.elem_nil, Nat.add_zero, Nat.zero_add, or_self, or_false, false_or, true_or, or_true, and_true, true_and, and_false, false_and, and_self, List.mem_cons, List.not_mem_nil, Nat.reducePow, elAt_eq, stV_eq, cellsB_cells, hp_get_r, hp_get_r0, hp_get_l, hp_set_r, hp_set_r0, hp_set_l, hp_one, hp_ne, List.drop_succ_cons, List.drop_zero, List.take_succ_cons, List.take_zero, e1, e2, e3, e4, e5, c2, c3, List.map_set]
    exact ⟨_, rfl⟩
end Go.Abs.Tab

/- The table of actors: Get. -/
set_option linter.unusedVariables false
namespace Go.Abs.Tab

def zeroF : List AV := [iv 0, iv 0, .lit (.slice none 0 0), iv 0, iv 0, iv 0, iv 0, iv 0, iv 0, iv 0, iv 0, iv 0, iv 0, iv 0, iv 0, iv 0, iv 0, iv 0, iv 0]
theorem build44 : abuild cx.T 44 [] = some (.agg zeroF) := nr (by kernel_rfl)
theorem build45 : abuild cx.T 45 [] = some (.agg zeroF) := nr (by kernel_rfl)
theorem zeroF_ok : FrOk zeroF (.lit (.slice none 0 0)) [] := by
  refine ⟨rfl, rfl, .inr (.inr ⟨rfl, rfl⟩), fun j x hj h => ?_⟩
  have hlt := (List.getElem?_eq_some_iff.1 h).1
  have hlt' : j < 19 := hlt
  unfold zeroF at h
  match j, hlt', hj with
  | 0, _, _ => cases h; exact ⟨_, rfl⟩
  | 1, _, _ => cases h; exact ⟨_, rfl⟩
  | 2, _, hj => exact absurd rfl hj
  | j + 3, hlt', _ =>
    have : x = iv 0 := by
      have hm : x ∈ List.replicate 16 (iv 0) := List.mem_of_getElem? (i := j) h
      exact List.eq_of_mem_replicate hm
    exact ⟨0, this⟩

theorem get_none {ro : Nat} {H : Hp} {b1 b0 : Nat} {sl : List (List AV)} (T : TblAt H b1 b0 sl) (hrn : ro ≤ H.length) {i : Int} (hl : sl.length < 2 ^ 62) (hi : i < 0 ∨ (sl.length : Int) ≤ i ∨ ∃ n : Nat, i = n ∧ ∃ c, sl[n]? = some c ∧ liveC c = false) :
    ∃ L, callB cx D ro 46 [.ptr b1 0 0, iv i] H = some (.tup [.agg zeroF, bv false], H ++ L) := by
  obtain ⟨n, hn⟩ : ∃ n, H.length = n := ⟨_, rfl⟩
  rw [hn] at hrn
  have c1 : ∀ j, ro ≤ n + j := fun j => by omega
  have c2 : ∀ j, ¬ (n + j < ro) := fun j => by omega
  have c3 : ¬ (n < ro) := by omega
  have hb1 : b1 < H.length := lt_of_get T.tb
  have hb0 : b0 < H.length := lt_of_get T.sb
  have key : ∀ L, callB cx D ro 109 [.ptr b1 0 0, iv i] (H ++ L) = some (.tup [.lit (.pointer none), iv 24], H ++ L) := fun L => by
    have T' : TblAt (H ++ L) b1 b0 sl := ⟨by rw [hp_get_l hb1, T.tb], by rw [hp_get_l hb0, T.sb], T.ne, T.ok⟩
    rcases hi with hi | hi | ⟨n, rfl, c, hc, hd⟩
    · exact at_neg T' hi
    · exact at_big T' hi
    · rw [at_in T' (List.getElem?_eq_some_iff.1 hc).1 hl hc, hd]; rfl
  rw [c46]
  simp -implicitDefEqProofs (maxDischargeDepth := 4) only [go_sem, decide_true, decide_false, beq_self_eq_true, ↓reduceIte, Nat.reduceLT, Nat.reduceAdd, Nat.reduceMul, Nat.reduceSub, Nat.reduceEqDiff, Nat.reduceLeDiff, Nat.reduceBEq, reduceCtorEq, Nat.succ_ne_zero, Bool.not_true, Bool.not_false, Bool.true_eq_false, Bool.false_eq_true, Bool.true_beq, Bool.false_beq, Int.reduceLT, Int.reduceLE, Int.reduceEq, Int.reduceNe, ne_eq, not_false_eq_true, not_true_eq_false, List.getElem?_cons_zero, List.getElem?_cons_succ, List.length_cons, List.length_nil, List.all_cons, List.all_nil, Bool.and_true, Bool.and_self, Bool.true_and, Bool.false_and, Bool.and_false, Bool.or_true, Bool.or_false, Bool.true_or, Bool.false_or, Bool.or_self, List.elem_cons, List.elem_nil, Nat.add_zero, Nat.zero_add, or_self, or_false, false_or, true_or, or_true, and_true, true_and, and_false, false_and, and_self, List.mem_cons, List.not_mem_nil, Nat.reducePow, elAt_eq, stV_eq, cellsB_cells, hp_get_r, hp_get_r0, hp_get_l, hp_set_r, hp_set_r0, hp_set_l, hp_one, hp_ne, List.drop_succ_cons, List.drop_zero, List.take_succ_cons, List.take_zero, hn, hrn, c1, c2, c3, key, build44, zeroF]
  exact ⟨_, rfl⟩

theorem get_live {ro : Nat} {H : Hp} {b1 b0 : Nat} {sl : List (List AV)} (T : TblAt H b1 b0 sl) (hrn : ro ≤ H.length) {i : Nat} (hl : sl.length < 2 ^ 62) {d : List AV} {sv : AV} {st : List Int} (F : FrOk d sv st) (hst : st.length ≤ 32) (hc : sl[i]? = some (d ++ [bv true])) :
    ∃ L sv', Sl 1 sv' (st.map iv) ∧ callB cx D ro 46 [.ptr b1 0 0, iv i] H = some (.tup [.agg (d.set 2 sv'), bv true], H ++ L) := by
  obtain ⟨n, hn⟩ : ∃ n, H.length = n := ⟨_, rfl⟩
  rw [hn] at hrn
  have c1 : ∀ j, ro ≤ n + j := fun j => by omega
  have c2 : ∀ j, ¬ (n + j < ro) := fun j => by omega
  have c3 : ¬ (n < ro) := by omega
  have hb1 : b1 < H.length := lt_of_get T.tb
  have hb0 : b0 < H.length := lt_of_get T.sb
  have hlv : liveC (d ++ [bv true]) = true := by
    have : (d ++ [bv true])[19]? = some (bv true) := by rw [List.getElem?_append_right (by rw [F.len]; exact Nat.le_refl _), F.len]; rfl
    simp only [liveC, this]
  have key : ∀ L, callB cx D ro 109 [.ptr b1 0 0, iv i] (H ++ L) = some (.tup [.ptr b0 i 0, iv 0], H ++ L) := fun L => by
    have T' : TblAt (H ++ L) b1 b0 sl := ⟨by rw [hp_get_l hb1, T.tb], by rw [hp_get_l hb0, T.sb], T.ne, T.ok⟩
    rw [at_in T' (List.getElem?_eq_some_iff.1 hc).1 hl hc, hlv]; rfl
  obtain ⟨sv', ho, hs'⟩ := own_ok F hst
  have F' := F.set hs'
  have e1 : ∀ L : Hp, (H ++ L)[b0]? = some (.cells 20 185 (sl.map .agg)) := fun L => by rw [hp_get_l hb0, T.sb]
  have e2 : (sl.map AV.agg)[i]? = some (.agg (d ++ [bv true])) := by rw [List.getElem?_map, hc]; rfl
  have e3 : (d ++ [bv true]).length = 20 := by rw [List.length_append, F.len]; rfl
  have e4 : (d ++ [bv true]).take 19 = d := by rw [List.take_append_of_le_length (by rw [F.len]; exact Nat.le_refl _), F.take]
  have e5 := F.shr
  have e6 : (d.set 2 sv').length = 19 := F'.len
  have e7 := F'.shr
  have e8 := F'.take
  have e9 := F.shut
  rw [c46]
  simp -implicitDefEqProofs (maxDischargeDepth := 4) only [go_sem, decide_true, decide_false, beq_self_eq_true, ↓reduceIte, Nat.reduceLT, Nat.reduceAdd, Nat.reduceMul, Nat.reduceSub, Nat.reduceEqDiff, Nat.reduceLeDiff, Nat.reduceBEq, reduceCtorEq, Nat.succ_ne_zero, Bool.not_true, Bool.not_false, Bool.true_eq_false, Bool.false_eq_true, Bool.true_beq, Bool.false_beq, Int.reduceLT, Int.reduceLE, Int.reduceEq, Int.reduceNe, ne_eq, not_false_eq_true, not_true_eq_false, List.getElem?_cons_zero, List.getElem?_cons_succ, List.length_cons, List.length_nil, List.all_cons, List.all_nil, Bool.and_true, Bool.and_self, Bool.true_and, Bool.false_and, Bool.and_false, Bool.or_true, Bool.or_false, Bool.true_or, Bool.false_or, Bool.or_self, List.elem_cons, List.elem_nil, Nat.add_zero, Nat.zero_add, or_self, or_false, false_or, true_or, or_true, and_true, true_and, and_false, false_and, and_self, List.mem_cons, List.not_mem_nil, Nat.reducePow, elAt_eq, stV_eq, cellsB_cells, hp_get_r, hp_get_r0, hp_get_l, hp_set_r, hp_set_r0, hp_set_l, hp_one, hp_ne, List.drop_succ_cons, List.drop_zero, List.take_succ_cons, List.take_zero, hn, hrn, c1, c2, c3, key, ho, e1, e2, e3, e4, e5, e6, e7, e8, e9]
  exact ⟨_, _, hs', rfl⟩

theorem elS_head {sz : Nat} {d d' l : List AV} (h1 : d.length = sz) (h2 : d'.length = sz) : elS true sz (.agg (d ++ l)) 0 (.agg d') = some (.agg (d' ++ l)) := by
  subst h1
  simp [elS, fitA, cellsOf, h2]

theorem set_none {ro : Nat} {H : Hp} {b1 b0 : Nat} {sl : List (List AV)} (T : TblAt H b1 b0 sl) (hrn : ro ≤ H.length) {i : Int} (hl : sl.length < 2 ^ 62) {d : List AV} {sv : AV} {st : List Int} (F : FrOk d sv st) (hi : i < 0 ∨ (sl.length : Int) ≤ i ∨ ∃ n : Nat, i = n ∧ ∃ c, sl[n]? = some c ∧ liveC c = false) :
    ∃ L, callB cx D ro 41 [.ptr b1 0 0, iv i, .agg d] H = some (iv 24, H ++ L) := by
  obtain ⟨n, hn⟩ : ∃ n, H.length = n := ⟨_, rfl⟩
  rw [hn] at hrn
  have c1 : ∀ j, ro ≤ n + j := fun j => by omega
  have c2 : ∀ j, ¬ (n + j < ro) := fun j => by omega
  have c3 : ¬ (n < ro) := by omega
  have hb1 : b1 < H.length := lt_of_get T.tb
  have hb0 : b0 < H.length := lt_of_get T.sb
  have key : ∀ L, callB cx D ro 109 [.ptr b1 0 0, iv i] (H ++ L) = some (.tup [.lit (.pointer none), iv 24], H ++ L) := fun L => by
    have T' : TblAt (H ++ L) b1 b0 sl := ⟨by rw [hp_get_l hb1, T.tb], by rw [hp_get_l hb0, T.sb], T.ne, T.ok⟩
    rcases hi with hi | hi | ⟨n, rfl, c, hc, hd⟩
    · exact at_neg T' hi
    · exact at_big T' hi
    · rw [at_in T' (List.getElem?_eq_some_iff.1 hc).1 hl hc, hd]; rfl
  have e1 := F.len
  have e2 := F.shr
  have e3 := F.take
  rw [c41]
  simp -implicitDefEqProofs (maxDischargeDepth := 4) only [go_sem, decide_true, decide_false, beq_self_eq_true, ↓reduceIte, Nat.reduceLT, Nat.reduceAdd, Nat.reduceMul, Nat.reduceSub, Nat.reduceEqDiff, Nat.reduceLeDiff, Nat.reduceBEq, reduceCtorEq, Nat.succ_ne_zero, Bool.not_true, Bool.not_false, Bool.true_eq_false, Bool.false_eq_true, Bool.true_beq, Bool.false_beq, Int.reduceLT, Int.reduceLE, Int.reduceEq, Int.reduceNe, ne_eq, not_false_eq_true, not_true_eq_false, List.getElem?_cons_zero, List.getElem?_cons_succ, List.length_cons, List.length_nil, List.all_cons, List.all_nil, Bool.and_true, Bool.and_self, Bool.true_and, Bool.false_and, Bool.and_false, Bool.or_true, Bool.or_false, Bool.true_or, Bool.false_or, Bool.or_self, List.elem_cons, List.elem_nil, Nat.add_zero, Nat.zero_add, or_self, or_false, false_or, true_or, or_true, and_true, true_and, and_false, false_and, and_self, List.mem_cons, List.not_mem_nil, Nat.reducePow, elAt_eq, stV_eq, cellsB_cells, hp_get_r, hp_get_r0, hp_get_l, hp_set_r, hp_set_r0, hp_set_l, hp_one, hp_ne, List.drop_succ_cons, List.drop_zero, List.take_succ_cons, List.take_zero, hn, hrn, c1, c2, c3, key, e1, e2, e3]
  exact ⟨_, rfl⟩

theorem set_long {ro : Nat} {H : Hp} {b1 b0 : Nat} {sl : List (List AV)} (T : TblAt H b1 b0 sl) (hrn : ro ≤ H.length) {i : Nat} (hl : sl.length < 2 ^ 62) {d : List AV} {sv : AV} {st : List Int} (F : FrOk d sv st) (hst : 16 < st.length) {c : List AV} (hc : sl[i]? = some c) (hlv : liveC c = true) :
    ∃ L, callB cx D ro 41 [.ptr b1 0 0, iv i, .agg d] H = some (iv 15, H ++ L) := by
  obtain ⟨n, hn⟩ : ∃ n, H.length = n := ⟨_, rfl⟩
  rw [hn] at hrn
  have c1 : ∀ j, ro ≤ n + j := fun j => by omega
  have c2 : ∀ j, ¬ (n + j < ro) := fun j => by omega
  have c3 : ¬ (n < ro) := by omega
  have hb1 : b1 < H.length := lt_of_get T.tb
  have hb0 : b0 < H.length := lt_of_get T.sb
  have key : ∀ L, callB cx D ro 109 [.ptr b1 0 0, iv i] (H ++ L) = some (.tup [.ptr b0 i 0, iv 0], H ++ L) := fun L => by
    have T' : TblAt (H ++ L) b1 b0 sl := ⟨by rw [hp_get_l hb1, T.tb], by rw [hp_get_l hb0, T.sb], T.ne, T.ok⟩
    rw [at_in T' (List.getElem?_eq_some_iff.1 hc).1 hl hc, hlv]; rfl
  have e1 := F.len
  have e2 := F.shr
  have e3 := F.take
  have e4 := F.at2
  have e5 : (16 : Int) < (st.length : Int) := by omega
  rw [c41]
  simp -implicitDefEqProofs (maxDischargeDepth := 4) only [go_sem, decide_true, decide_false, beq_self_eq_true, ↓reduceIte, Nat.reduceLT, Nat.reduceAdd, Nat.reduceMul, Nat.reduceSub, Nat.reduceEqDiff, Nat.reduceLeDiff, Nat.reduceBEq, reduceCtorEq, Nat.succ_ne_zero, Bool.not_true, Bool.not_false, Bool.true_eq_false, Bool.false_eq_true, Bool.true_beq, Bool.false_beq, Int.reduceLT, Int.reduceLE, Int.reduceEq, Int.reduceNe, ne_eq, not_false_eq_true, not_true_eq_false, List.getElem?_cons_zero, List.getElem?_cons_succ, List.length_cons, List.length_nil, List.all_cons, List.all_nil, Bool.and_true, Bool.and_self, Bool.true_and, Bool.false_and, Bool.and_false, Bool.or_true, Bool.or_false, Bool.true_or, Bool.false_or, Bool.or_self, List.elem_cons, List.elem_nil, Nat.add_zero, Nat.zero_add, or_self, or_false, false_or, true_or, or_true, and_true, true_and, and_false, false_and, and_self, List.mem_cons, List.not_mem_nil, Nat.reducePow, elAt_eq, stV_eq, cellsB_cells, hp_get_r, hp_get_r0, hp_get_l, hp_set_r, hp_set_r0, hp_set_l, hp_one, hp_ne, List.drop_succ_cons, List.drop_zero, List.take_succ_cons, List.take_zero, hn, hrn, c1, c2, c3, key, e1, e2, e3, e4, F.sl.shr, F.sl.notOwn, alen_sl F.sl, List.length_map, e5]
  exact ⟨_, rfl⟩

theorem set_live {ro : Nat} {H : Hp} {b1 b0 : Nat} {sl : List (List AV)} (T : TblAt H b1 b0 sl) (hr : ro ≤ b0) (hrn : ro ≤ H.length) {i : Nat} (hl : sl.length < 2 ^ 62) {d d0 : List AV} {sv : AV} {st : List Int} (F : FrOk d sv st) (hst : st.length ≤ 16) (hd0 : d0.length = 19) (hc : sl[i]? = some (d0 ++ [bv true])) :
    ∃ L sv', Sl 1 sv' (st.map iv) ∧ callB cx D ro 41 [.ptr b1 0 0, iv i, .agg d] H = some (iv 0, H.set b0 (.cells 20 185 ((sl.set i (d.set 2 sv' ++ [bv true])).map .agg)) ++ L) := by
  obtain ⟨n, hn⟩ : ∃ n, H.length = n := ⟨_, rfl⟩
  rw [hn] at hrn
  have c1 : ∀ j, ro ≤ n + j := fun j => by omega
  have c2 : ∀ j, ¬ (n + j < ro) := fun j => by omega
  have c3 : ¬ (n < ro) := by omega
  have c4 : ¬ (b0 < ro) := by omega
  have hb1 : b1 < H.length := lt_of_get T.tb
  have hb0 : b0 < H.length := lt_of_get T.sb
  have hlv : liveC (d0 ++ [bv true]) = true := by
    have : (d0 ++ [bv true])[19]? = some (bv true) := by rw [List.getElem?_append_right (by rw [hd0]; exact Nat.le_refl _), hd0]; rfl
    simp only [liveC, this]
  have key : ∀ L, callB cx D ro 109 [.ptr b1 0 0, iv i] (H ++ L) = some (.tup [.ptr b0 i 0, iv 0], H ++ L) := fun L => by
    have T' : TblAt (H ++ L) b1 b0 sl := ⟨by rw [hp_get_l hb1, T.tb], by rw [hp_get_l hb0, T.sb], T.ne, T.ok⟩
    rw [at_in T' (List.getElem?_eq_some_iff.1 hc).1 hl hc, hlv]; rfl
  obtain ⟨sv', ho, hs'⟩ := own_ok F (by omega)
  have F' := F.set hs'
  have e1 := F.len
  have e2 := F.shr
  have e3 := F.take
  have e4 := F.at2
  have e5 : ¬ (16 : Int) < (st.length : Int) := by omega
  have f1 : ∀ L : Hp, (H ++ L)[b0]? = some (.cells 20 185 (sl.map .agg)) := fun L => by rw [hp_get_l hb0, T.sb]
  have f2 : (sl.map AV.agg)[i]? = some (.agg (d0 ++ [bv true])) := by rw [List.getElem?_map, hc]; rfl
  have f3 : elS true 19 (.agg (d0 ++ [bv true])) 0 (.agg (d.set 2 sv')) = some (.agg (d.set 2 sv' ++ [bv true])) := elS_head hd0 F'.len
  have f4 : ∀ (L : Hp) (x : ABlock), (H ++ L).set b0 x = H.set b0 x ++ L := fun L x => hp_set_l hb0
  have f5 : (sl.map AV.agg).set i (.agg (d.set 2 sv' ++ [bv true])) = (sl.set i (d.set 2 sv' ++ [bv true])).map .agg := (List.map_set).symm
  have f6 := F'.shr
  have f7 := F.shut
  rw [c41]
  simp -implicitDefEqProofs (maxDischargeDepth := 4) only [go_sem, decide_true, decide_false, beq_self_eq_true, ↓reduceIte, Nat.reduceLT, Nat.reduceAdd, Nat.reduceMul, Nat.reduceSub, Nat.reduceEqDiff, Nat.reduceLeDiff, Nat.reduceBEq, reduceCtorEq, Nat.succ_ne_zero, Bool.not_true, Bool.not_false, Bool.true_eq_false, Bool.false_eq_true, Bool.true_beq, Bool.false_beq, Int.reduceLT, Int.reduceLE, Int.reduceEq, Int.reduceNe, ne_eq, not_false_eq_true, not_true_eq_false, List.getElem?_cons_zero, List.getElem?_cons_succ, List.length_cons, List.length_nil, List.all_cons, List.all_nil, Bool.and_true, Bool.and_self, Bool.true_and, Bool.false_and, Bool.and_false, Bool.or_true, Bool.or_false, Bool.true_or, Bool.false_or, Bool.or_self, List.elem_cons, List.elem_nil, Nat.add_zero, Nat.zero_add, or_self, or_false, false_or, true_or, or_true, and_true, true_and, and_false, false_and, and_self, List.mem_cons, List.not_mem_nil, Nat.reducePow, elAt_eq, stV_eq, cellsB_cells, hp_get_r, hp_get_r0, hp_get_l, hp_set_r, hp_set_r0, hp_set_l, hp_one, hp_ne, List.drop_succ_cons, List.drop_zero, List.take_succ_cons, List.take_zero, hn, hrn, c1, c2, c3, c4, key, ho, e1, e2, e3, e4, e5, F.sl.shr, F.sl.notOwn, alen_sl F.sl, List.length_map, f1, f2, f3, f4, f5, f6, f7]
  exact ⟨_, _, hs', rfl⟩
end Go.Abs.Tab

/- The document's table of actors (reference). -/
set_option linter.unusedVariables false
namespace Go.Abs.Tab

theorem copied_ok {d : List AV} {sv : AV} {st : List Int} (F : FrOk d sv st) (hst : st.length ≤ 32) : ∃ sv', pcall D 113 [.agg d] = some (.agg (d.set 2 sv')) ∧ Sl 1 sv' (st.map iv) := by
  have hcl : [AV.agg d].map cl2 = [.agg d] := by simp only [List.map_cons, List.map_nil, cl2, cl1, F.cl0]
  have e1 : d.length = 19 := F.len
  have e2 := F.at2
  have e3 := F.shr
  have e4 := F.take
  have e5 : ∀ x, (d.set 2 x).take 19 = d.set 2 x := fun x => List.take_of_length_le (by rw [List.length_set, e1]; exact Nat.le_refl _)
  have fin : ∀ sv', Sl 1 sv' (st.map iv) → (∃ H', callB cx D 0 113 [.agg d] [] = some (.agg (d.set 2 sv'), H')) → pcall D 113 [.agg d] = some (.agg (d.set 2 sv')) := fun sv' hs ⟨H', h⟩ => by
    rw [pcall_eq (cx := cx) (v := .agg (d.set 2 sv')) (H' := H') (by rw [hcl]; exact h)]
    show some (AV.agg ((d.set 2 sv').map (frz0 0 H'))) = _
    rw [(F.set hs).map (fun _ => rfl) (hs.fr0 _ _)]
  cases st with
  | nil =>
    have c3 : apV 1 8 [] (.vec 1 .exact []) = some (.vec 1 .exact []) := rfl
    refine ⟨_, fin (.vec 1 .exact []) (.inl rfl) ?_, .inl rfl⟩
    rcases F.sl with hv | hv | ⟨hv, hnil⟩
    all_goals
      subst hv
      rw [c113]
      try rw [List.map_nil] at e2
      simp -implicitDefEqProofs (maxDischargeDepth := 4) only [go_sem, decide_true, decide_false, beq_self_eq_true, ↓reduceIte, Nat.reduceLT, Nat.reduceAdd, Nat.reduceMul, Nat.reduceSub, Nat.reduceEqDiff, Nat.reduceLeDiff, Nat.reduceBEq, reduceCtorEq, Nat.succ_ne_zero, Bool.not_true, Bool.not_false, Bool.true_eq_false, Bool.false_eq_true, Bool.true_beq, Bool.false_beq, Int.reduceLT, Int.reduceLE, Int.reduceEq, Int.reduceNe, ne_eq, not_false_eq_true, not_true_eq_false, List.getElem?_cons_zero, List.getElem?_cons_succ, List.length_cons, List.length_nil, List.all_cons, List.all_nil, Bool.and_true, Bool.and_self, Bool.true_and, Bool.false_and, Bool.and_false, Bool.or_true, Bool.or_false, Bool.true_or, Bool.false_or, Bool.or_self, List.elem_cons, List.elem_nil, Nat.add_zero, Nat.zero_add, or_self, or_false, false_or, true_or, or_true, and_true, true_and, and_false, false_and, and_self, List.mem_cons, List.not_mem_nil, Nat.reducePow, elAt_eq, stV_eq, cellsB_cells, hp_get_r, hp_get_r0, hp_get_l, hp_set_r, hp_set_r0, hp_set_l, hp_one, hp_ne, List.drop_succ_cons, List.drop_zero, List.take_succ_cons, List.take_zero, e1, e2, e3, e4, e5, c3, List.map_set]
      exact ⟨_, rfl⟩
  | cons y l =>
    have c3 : apV 1 8 ((y :: l).map iv) (.vec 1 .exact []) = some (.vec 1 .own ((y :: l).map iv)) := apV_exact (by simp only [List.length_map, List.length_nil, List.length_cons] at hst ⊢; omega) (by decide)
    refine ⟨_, fin (.vec 1 .shared ((y :: l).map iv)) (.inr (.inl rfl)) ?_, .inr (.inl rfl)⟩
    rcases F.sl with hv | hv | ⟨hv, hnil⟩
    · subst hv
      rw [c113]
      rw [List.map_cons] at c3 e2 ⊢
      simp -implicitDefEqProofs (maxDischargeDepth := 4) only [go_sem, decide_true, decide_false, beq_self_eq_true, ↓reduceIte, Nat.reduceLT, Nat.reduceAdd, Nat.reduceMul, Nat.reduceSub, Nat.reduceEqDiff, Nat.reduceLeDiff, Nat.reduceBEq, reduceCtorEq, Nat.succ_ne_zero, Bool.not_true, Bool.not_false, Bool.true_eq_false, Bool.false_eq_true, Bool.true_beq, Bool.false_beq, Int.reduceLT, Int.reduceLE, Int.reduceEq, Int.reduceNe, ne_eq, not_false_eq_true, not_true_eq_false, List.getElem?_cons_zero, List.getElem?_cons_succ, List.length_cons, List.length_nil, List.all_cons, List.all_nil, Bool.and_true, Bool.and_self, Bool.true_and, Bool.false_and, Bool.and_false, Bool.or_true, Bool.or_false, Bool.true_or, Bool.false_or, Bool.or_self, List.elem_cons, List.elem_nil, Nat.add_zero, Nat.zero_add, or_self, or_false, false_or, true_or, or_true, and_true, true_and, and_false, false_and, and_self, List.mem_cons, List.not_mem_nil, Nat.reducePow, elAt_eq, stV_eq, cellsB_cells, hp_get_r, hp_get_r0, hp_get_l, hp_set_r, hp_set_r0, hp_set_l, hp_one, hp_ne, List.drop_succ_cons, List.drop_zero, List.take_succ_cons, List.take_zero, e1, e2, e3, e4, e5, c3, List.map_set]
      exact ⟨_, rfl⟩
    · subst hv
      rw [c113]
      rw [List.map_cons] at c3 e2 ⊢
      simp -implicitDefEqProofs (maxDischargeDepth := 4) only [go_sem, decide_true, decide_false, beq_self_eq_true, ↓reduceIte, Nat.reduceLT, Nat.reduceAdd, Nat.reduceMul, Nat.reduceSub, Nat.reduceEqDiff, Nat.reduceLeDiff, Nat.reduceBEq, reduceCtorEq, Nat.succ_ne_zero, Bool.not_true, Bool.not_false, Bool.true_eq_false, Bool.false_eq_true, Bool.true_beq, Bool.false_beq, Int.reduceLT, Int.reduceLE, Int.reduceEq, Int.reduceNe, ne_eq, not_false_eq_true, not_true_eq_false, List.getElem?_cons_zero, List.getElem?_cons_succ, List.length_cons, List.length_nil, List.all_cons, List.all_nil, Bool.and_true, Bool.and_self, Bool.true_and, Bool.false_and, Bool.and_false, Bool.or_true, Bool.or_false, Bool.true_or, Bool.false_or, Bool.or_self, List.elem_cons, List.elem_nil, Nat.add_zero, Nat.zero_add, or_self, or_false, false_or, true_or, or_true, and_true, true_and, and_false, false_and, and_self, List.mem_cons, List.not_mem_nil, Nat.reducePow, elAt_eq, stV_eq, cellsB_cells, hp_get_r, hp_get_r0, hp_get_l, hp_set_r, hp_set_r0, hp_set_l, hp_one, hp_ne, List.drop_succ_cons, List.drop_zero, List.take_succ_cons, List.take_zero, e1, e2, e3, e4, e5, c3, List.map_set]
      exact ⟨_, rfl⟩
    · cases hnil

structure RefAt (H : Hp) (c2 c1 c0 : Nat) (us : List Bool) (es : List (List AV)) : Prop where
  tb : H[c2]? = some (.cells 2 192 [.agg [.sl c0 1 0 us.length us.length, .sl c1 19 0 us.length us.length]])
  ub : H[c0]? = some (.cells 1 4 (us.map bv))
  lb : H[c1]? = some (.cells 19 45 (es.map .agg))
  n01 : c0 ≠ c1
  n02 : c0 ≠ c2
  n12 : c1 ≠ c2
  le : es.length = us.length
theorem RefAt.grow {H L : Hp} {c2 c1 c0 : Nat} {us : List Bool} {es : List (List AV)} (R : RefAt H c2 c1 c0 us es) : RefAt (H ++ L) c2 c1 c0 us es :=
  ⟨by rw [hp_get_l (lt_of_get R.tb), R.tb], by rw [hp_get_l (lt_of_get R.ub), R.ub], by rw [hp_get_l (lt_of_get R.lb), R.lb], R.n01, R.n02, R.n12, R.le⟩

/-- is a place used? -/
def usedB (us : List Bool) (i : Int) : Bool := if 0 ≤ i then us.getD i.toNat false else false
theorem there_ok {ro : Nat} {H : Hp} {c2 c1 c0 : Nat} {us : List Bool} {es : List (List AV)} (R : RefAt H c2 c1 c0 us es) (i : Int) (hl : us.length < 2 ^ 62) :
    callB cx D ro 112 [.ptr c2 0 0, iv i] H = some (bv (usedB us i), H) := by
  have e1 := R.tb
  have e2 := R.ub
  rw [c112]
  by_cases h0 : 0 ≤ i
  · obtain ⟨n, rfl⟩ : ∃ n : Nat, i = n := ⟨i.toNat, by omega⟩
    by_cases h1 : n < us.length
    · have h1' : (n : Int) < (us.length : Int) := by omega
      have e3 : aindexAddr cx.T 26 (.sl c0 1 0 us.length us.length) (iv n) = some (.ptr c0 n 0) := by rw [aindexAddr_blk sl26 rfl h1, Nat.zero_add]
      have e4 : (us.map bv)[n]? = some (bv us[n]) := by rw [List.getElem?_map, List.getElem?_eq_getElem h1]; rfl
      have e5 : usedB us n = us[n] := by
        unfold usedB
        rw [if_pos h0, Int.toNat_natCast, List.getD_eq_getElem?_getD, List.getElem?_eq_getElem h1]; rfl
      simp -implicitDefEqProofs (maxDischargeDepth := 4) only [go_sem, decide_true, decide_false, beq_self_eq_true, ↓reduceIte, Nat.reduceLT, Nat.reduceAdd, Nat.reduceMul, Nat.reduceSub, Nat.reduceEqDiff, Nat.reduceLeDiff, Nat.reduceBEq, reduceCtorEq, Nat.succ_ne_zero, Bool.not_true, Bool.not_false, Bool.true_eq_false, Bool.false_eq_true, Bool.true_beq, Bool.false_beq, Int.reduceLT, Int.reduceLE, Int.reduceEq, Int.reduceNe, ne_eq, not_false_eq_true, not_true_eq_false, List.getElem?_cons_zero, List.getElem?_cons_succ, List.length_cons, List.length_nil, List.all_cons, List.all_nil, Bool.and_true, Bool.and_self, Bool.true_and, Bool.false_and, Bool.and_false, Bool.or_true, Bool.or_false, Bool.true_or, Bool.false_or, Bool.or_self, List.elem_cons, List.elem_nil, Nat.add_zero, Nat.zero_add, or_self, or_false, false_or, true_or, or_true, and_true, true_and, and_false, false_and, and_self, List.mem_cons, List.not_mem_nil, Nat.reducePow, elAt_eq, stV_eq, cellsB_cells, hp_get_r, hp_get_r0, hp_get_l, hp_set_r, hp_set_r0, hp_set_l, hp_one, hp_ne, List.drop_succ_cons, List.drop_zero, List.take_succ_cons, List.take_zero, h0, h1', e1, e2, e3, e4, e5]
    · have h1' : ¬ (n : Int) < (us.length : Int) := by omega
      have e5 : usedB us n = false := by
        unfold usedB
        rw [if_pos h0, Int.toNat_natCast, List.getD_eq_getElem?_getD, List.getElem?_eq_none (by omega)]; rfl
      simp -implicitDefEqProofs (maxDischargeDepth := 4) only [go_sem, decide_true, decide_false, beq_self_eq_true, ↓reduceIte, Nat.reduceLT, Nat.reduceAdd, Nat.reduceMul, Nat.reduceSub, Nat.reduceEqDiff, Nat.reduceLeDiff, Nat.reduceBEq, reduceCtorEq, Nat.succ_ne_zero, Bool.not_true, Bool.not_false, Bool.true_eq_false, Bool.false_eq_true, Bool.true_beq, Bool.false_beq, Int.reduceLT, Int.reduceLE, Int.reduceEq, Int.reduceNe, ne_eq, not_false_eq_true, not_true_eq_false, List.getElem?_cons_zero, List.getElem?_cons_succ, List.length_cons, List.length_nil, List.all_cons, List.all_nil, Bool.and_true, Bool.and_self, Bool.true_and, Bool.false_and, Bool.and_false, Bool.or_true, Bool.or_false, Bool.true_or, Bool.false_or, Bool.or_self, List.elem_cons, List.elem_nil, Nat.add_zero, Nat.zero_add, or_self, or_false, false_or, true_or, or_true, and_true, true_and, and_false, false_and, and_self, List.mem_cons, List.not_mem_nil, Nat.reducePow, elAt_eq, stV_eq, cellsB_cells, hp_get_r, hp_get_r0, hp_get_l, hp_set_r, hp_set_r0, hp_set_l, hp_one, hp_ne, List.drop_succ_cons, List.drop_zero, List.take_succ_cons, List.take_zero, h0, h1', e1, e2, e5]
  · have e5 : usedB us i = false := by
      unfold usedB
      rw [if_neg h0]
    simp -implicitDefEqProofs (maxDischargeDepth := 4) only [go_sem, decide_true, decide_false, beq_self_eq_true, ↓reduceIte, Nat.reduceLT, Nat.reduceAdd, Nat.reduceMul, Nat.reduceSub, Nat.reduceEqDiff, Nat.reduceLeDiff, Nat.reduceBEq, reduceCtorEq, Nat.succ_ne_zero, Bool.not_true, Bool.not_false, Bool.true_eq_false, Bool.false_eq_true, Bool.true_beq, Bool.false_beq, Int.reduceLT, Int.reduceLE, Int.reduceEq, Int.reduceNe, ne_eq, not_false_eq_true, not_true_eq_false, List.getElem?_cons_zero, List.getElem?_cons_succ, List.length_cons, List.length_nil, List.all_cons, List.all_nil, Bool.and_true, Bool.and_self, Bool.true_and, Bool.false_and, Bool.and_false, Bool.or_true, Bool.or_false, Bool.true_or, Bool.false_or, Bool.or_self, List.elem_cons, List.elem_nil, Nat.add_zero, Nat.zero_add, or_self, or_false, false_or, true_or, or_true, and_true, true_and, and_false, false_and, and_self, List.mem_cons, List.not_mem_nil, Nat.reducePow, elAt_eq, stV_eq, cellsB_cells, hp_get_r, hp_get_r0, hp_get_l, hp_set_r, hp_set_r0, hp_set_l, hp_one, hp_ne, List.drop_succ_cons, List.drop_zero, List.take_succ_cons, List.take_zero, h0, e5]

theorem build192 (b s i l c b' s' i' l' c' : Nat) : abuild cx.T 192 [(0, .sl b s i l c), (1, .sl b' s' i' l' c')] = some (.agg [.sl b s i l c, .sl b' s' i' l' c']) := nr (by kernel_rfl)
theorem beq_add {m k : Nat} (h : k ≠ 0) : m.beq (m + k) = false := by
  cases hb : m.beq (m + k) with
  | false => rfl
  | true => have := Nat.eq_of_beq_eq_true hb; omega
theorem beq_add2 {m k j : Nat} (h : j ≠ k) : (m + j).beq (m + k) = false := by
  cases hb : (m + j).beq (m + k) with
  | false => rfl
  | true => have := Nat.eq_of_beq_eq_true hb; omega
theorem rnew_ok {ro : Nat} {H : Hp} {n : Nat} (hr : ro ≤ H.length) (h1 : 1 ≤ n) (h2 : n ≤ 32) :
    callB cx D ro 39 [iv n] H = some (.ptr (H.length + 2) 0 0, H ++ [.cells 1 4 (List.replicate n (bv false)), .cells 19 45 (List.replicate n (.agg zeroF)), .cells 2 192 [.agg [.sl H.length 1 0 n n, .sl (H.length + 1) 19 0 n n]]]) := by
  obtain ⟨m, hm⟩ : ∃ m, H.length = m := ⟨_, rfl⟩
  rw [hm] at hr ⊢
  have e1 : ¬ (n : Int) < 1 := by omega
  have e2 : ¬ 32 < (n : Int) := by omega
  have e3 : n * 169 ≤ 1099511627776 := by omega
  have e3' : n * 2 ≤ 1099511627776 := by omega
  have e4 : ∀ k, ro ≤ m + k := fun k => by omega
  rw [c39]
  simp -implicitDefEqProofs (maxDischargeDepth := 4) only [go_sem, decide_true, decide_false, beq_self_eq_true, ↓reduceIte, Nat.reduceLT, Nat.reduceAdd, Nat.reduceMul, Nat.reduceSub, Nat.reduceEqDiff, Nat.reduceLeDiff, Nat.reduceBEq, reduceCtorEq, Nat.succ_ne_zero, Bool.not_true, Bool.not_false, Bool.true_eq_false, Bool.false_eq_true, Bool.true_beq, Bool.false_beq, Int.reduceLT, Int.reduceLE, Int.reduceEq, Int.reduceNe, ne_eq, not_false_eq_true, not_true_eq_false, List.getElem?_cons_zero, List.getElem?_cons_succ, List.length_cons, List.length_nil, List.all_cons, List.all_nil, Bool.and_true, Bool.and_self, Bool.true_and, Bool.false_and, Bool.and_false, Bool.or_true, Bool.or_false, Bool.true_or, Bool.false_or, Bool.or_self, List.elem_cons, List.elem_nil, Nat.add_zero, Nat.zero_add, or_self, or_false, false_or, true_or, or_true, and_true, true_and, and_false, false_and, and_self, List.mem_cons, List.not_mem_nil, Nat.reducePow, elAt_eq, stV_eq, cellsB_cells, hp_get_r, hp_get_r0, hp_get_l, hp_set_r, hp_set_r0, hp_set_l, hp_one, hp_ne, List.drop_succ_cons, List.drop_zero, List.take_succ_cons, List.take_zero, e1, e2, e3, e3', hm, hr, e4, zeroF, layB_res, build192, beq_add, beq_add2]

section
variable {ro : Nat} {H : Hp} {c2 c1 c0 : Nat} {us : List Bool} {es : List (List AV)}
theorem usedB_get (us : List Bool) {n : Nat} (h : usedB us n = true) : us[n]? = some true := by
  unfold usedB at h
  rw [if_pos (by omega), Int.toNat_natCast, List.getD_eq_getElem?_getD] at h
  cases hx : us[n]? with
  | none => rw [hx] at h; cases h
  | some b => rw [hx] at h; simp only [Option.getD_some] at h; rw [h]

theorem rget_none (R : RefAt H c2 c1 c0 us es) (hrn : ro ≤ H.length) {i : Int} (hl : us.length < 2 ^ 62) (hu : usedB us i = false) :
    ∃ L, callB cx D ro 114 [.ptr c2 0 0, iv i] H = some (.tup [.agg zeroF, bv false], H ++ L) := by
  obtain ⟨m, hm⟩ : ∃ m, H.length = m := ⟨_, rfl⟩
  rw [hm] at hrn
  have c1 : ∀ j, ro ≤ m + j := fun j => by omega
  have c2 : ∀ j, ¬ (m + j < ro) := fun j => by omega
  have c3 : ¬ (m < ro) := by omega
  have key := fun L => there_ok (ro := ro) (R.grow (L := L)) i hl
  rw [hu] at key
  rw [c114]
  simp -implicitDefEqProofs (maxDischargeDepth := 4) only [go_sem, decide_true, decide_false, beq_self_eq_true, ↓reduceIte, Nat.reduceLT, Nat.reduceAdd, Nat.reduceMul, Nat.reduceSub, Nat.reduceEqDiff, Nat.reduceLeDiff, Nat.reduceBEq, reduceCtorEq, Nat.succ_ne_zero, Bool.not_true, Bool.not_false, Bool.true_eq_false, Bool.false_eq_true, Bool.true_beq, Bool.false_beq, Int.reduceLT, Int.reduceLE, Int.reduceEq, Int.reduceNe, ne_eq, not_false_eq_true, not_true_eq_false, List.getElem?_cons_zero, List.getElem?_cons_succ, List.length_cons, List.length_nil, List.all_cons, List.all_nil, Bool.and_true, Bool.and_self, Bool.true_and, Bool.false_and, Bool.and_false, Bool.or_true, Bool.or_false, Bool.true_or, Bool.false_or, Bool.or_self, List.elem_cons, List.elem_nil, Nat.add_zero, Nat.zero_add, or_self, or_false, false_or, true_or, or_true, and_true, true_and, and_false, false_and, and_self, List.mem_cons, List.not_mem_nil, Nat.reducePow, elAt_eq, stV_eq, cellsB_cells, hp_get_r, hp_get_r0, hp_get_l, hp_set_r, hp_set_r0, hp_set_l, hp_one, hp_ne, List.drop_succ_cons, List.drop_zero, List.take_succ_cons, List.take_zero, hm, hrn, c1, c2, c3, key, build45, zeroF]
  exact ⟨_, rfl⟩
theorem rget_live (R : RefAt H c2 c1 c0 us es) (hrn : ro ≤ H.length) {i : Nat} (hl : us.length < 2 ^ 62) (hu : usedB us i = true) {d : List AV} {sv : AV} {st : List Int} (F : FrOk d sv st) (hst : st.length ≤ 32) (hc : es[i]? = some d) :
    ∃ L sv', Sl 1 sv' (st.map iv) ∧ callB cx D ro 114 [.ptr c2 0 0, iv i] H = some (.tup [.agg (d.set 2 sv'), bv true], H ++ L) := by
  obtain ⟨m, hm⟩ : ∃ m, H.length = m := ⟨_, rfl⟩
  rw [hm] at hrn
  have d1 : ∀ j, ro ≤ m + j := fun j => by omega
  have d2 : ∀ j, ¬ (m + j < ro) := fun j => by omega
  have d3 : ¬ (m < ro) := by omega
  have key := fun L => there_ok (ro := ro) (R.grow (L := L)) i hl
  rw [hu] at key
  obtain ⟨sv', ho, hs'⟩ := copied_ok F hst
  have F' := F.set hs'
  have hi : i < us.length := by have := (List.getElem?_eq_some_iff.1 (usedB_get us hu)).1; exact this
  have g1 := fun L => (R.grow (L := L)).tb
  have g2 := fun L => (R.grow (L := L)).lb
  have e0 : aindexAddr cx.T 190 (.sl c1 19 0 us.length us.length) (iv i) = some (.ptr c1 i 0) := by rw [aindexAddr_blk sl190 rfl hi, Nat.zero_add]
  have e2 : (es.map AV.agg)[i]? = some (.agg d) := by rw [List.getElem?_map, hc]; rfl
  have e3 := F.len
  have e4 := F.take
  have e5 := F.shr
  have e6 := F'.len
  have e7 := F'.shr
  have e8 := F'.take
  have e9 := F.shut
  rw [c114]
  simp -implicitDefEqProofs (maxDischargeDepth := 4) only [go_sem, decide_true, decide_false, beq_self_eq_true, ↓reduceIte, Nat.reduceLT, Nat.reduceAdd, Nat.reduceMul, Nat.reduceSub, Nat.reduceEqDiff, Nat.reduceLeDiff, Nat.reduceBEq, reduceCtorEq, Nat.succ_ne_zero, Bool.not_true, Bool.not_false, Bool.true_eq_false, Bool.false_eq_true, Bool.true_beq, Bool.false_beq, Int.reduceLT, Int.reduceLE, Int.reduceEq, Int.reduceNe, ne_eq, not_false_eq_true, not_true_eq_false, List.getElem?_cons_zero, List.getElem?_cons_succ, List.length_cons, List.length_nil, List.all_cons, List.all_nil, Bool.and_true, Bool.and_self, Bool.true_and, Bool.false_and, Bool.and_false, Bool.or_true, Bool.or_false, Bool.true_or, Bool.false_or, Bool.or_self, List.elem_cons, List.elem_nil, Nat.add_zero, Nat.zero_add, or_self, or_false, false_or, true_or, or_true, and_true, true_and, and_false, false_and, and_self, List.mem_cons, List.not_mem_nil, Nat.reducePow, elAt_eq, stV_eq, cellsB_cells, hp_get_r, hp_get_r0, hp_get_l, hp_set_r, hp_set_r0, hp_set_l, hp_one, hp_ne, List.drop_succ_cons, List.drop_zero, List.take_succ_cons, List.take_zero, hm, hrn, d1, d2, d3, key, ho, g1, g2, e0, e2, e3, e4, e5, e6, e7, e8, e9]
  exact ⟨_, _, hs', rfl⟩

theorem rset_none (R : RefAt H c2 c1 c0 us es) (hrn : ro ≤ H.length) {i : Int} (hl : us.length < 2 ^ 62) (hu : usedB us i = false) {d : List AV} {sv : AV} {st : List Int} (F : FrOk d sv st) :
    ∃ L, callB cx D ro 42 [.ptr c2 0 0, iv i, .agg d] H = some (iv 24, H ++ L) := by
  obtain ⟨m, hm⟩ : ∃ m, H.length = m := ⟨_, rfl⟩
  rw [hm] at hrn
  have d1 : ∀ j, ro ≤ m + j := fun j => by omega
  have d2 : ∀ j, ¬ (m + j < ro) := fun j => by omega
  have d3 : ¬ (m < ro) := by omega
  have key := fun L => there_ok (ro := ro) (R.grow (L := L)) i hl
  rw [hu] at key
  have e3 := F.len
  have e4 := F.take
  have e5 := F.shr
  rw [c42]
  simp -implicitDefEqProofs (maxDischargeDepth := 4) only [go_sem, decide_true, decide_false, beq_self_eq_true, ↓reduceIte, Nat.reduceLT, Nat.reduceAdd, Nat.reduceMul, Nat.reduceSub, Nat.reduceEqDiff, Nat.reduceLeDiff, Nat.reduceBEq, reduceCtorEq, Nat.succ_ne_zero, Bool.not_true, Bool.not_false, Bool.true_eq_false, Bool.false_eq_true, Bool.true_beq, Bool.false_beq, Int.reduceLT, Int.reduceLE, Int.reduceEq, Int.reduceNe, ne_eq, not_false_eq_true, not_true_eq_false, List.getElem?_cons_zero, List.getElem?_cons_succ, List.length_cons, List.length_nil, List.all_cons, List.all_nil, Bool.and_true, Bool.and_self, Bool.true_and, Bool.false_and, Bool.and_false, Bool.or_true, Bool.or_false, Bool.true_or, Bool.false_or, Bool.or_self, List.elem_cons, List.elem_nil, Nat.add_zero, Nat.zero_add, or_self, or_false, false_or, true_or, or_true, and_true, true_and, and_false, false_and, and_self, List.mem_cons, List.not_mem_nil, Nat.reducePow, elAt_eq, stV_eq, cellsB_cells, hp_get_r, hp_get_r0, hp_get_l, hp_set_r, hp_set_r0, hp_set_l, hp_one, hp_ne, List.drop_succ_cons, List.drop_zero, List.take_succ_cons, List.take_zero, hm, hrn, d1, d2, d3, key, e3, e4, e5]
  exact ⟨_, rfl⟩
theorem rset_long (R : RefAt H c2 c1 c0 us es) (hrn : ro ≤ H.length) {i : Int} (hl : us.length < 2 ^ 62) (hu : usedB us i = true) {d : List AV} {sv : AV} {st : List Int} (F : FrOk d sv st) (hst : 16 < st.length) :
    ∃ L, callB cx D ro 42 [.ptr c2 0 0, iv i, .agg d] H = some (iv 15, H ++ L) := by
  obtain ⟨m, hm⟩ : ∃ m, H.length = m := ⟨_, rfl⟩
  rw [hm] at hrn
  have d1 : ∀ j, ro ≤ m + j := fun j => by omega
  have d2 : ∀ j, ¬ (m + j < ro) := fun j => by omega
  have d3 : ¬ (m < ro) := by omega
  have key := fun L => there_ok (ro := ro) (R.grow (L := L)) i hl
  rw [hu] at key
  have e2 := F.at2
  have e3 := F.len
  have e4 := F.take
  have e5 := F.shr
  have e6 : (16 : Int) < (st.length : Int) := by omega
  rw [c42]
  simp -implicitDefEqProofs (maxDischargeDepth := 4) only [go_sem, decide_true, decide_false, beq_self_eq_true, ↓reduceIte, Nat.reduceLT, Nat.reduceAdd, Nat.reduceMul, Nat.reduceSub, Nat.reduceEqDiff, Nat.reduceLeDiff, Nat.reduceBEq, reduceCtorEq, Nat.succ_ne_zero, Bool.not_true, Bool.not_false, Bool.true_eq_false, Bool.false_eq_true, Bool.true_beq, Bool.false_beq, Int.reduceLT, Int.reduceLE, Int.reduceEq, Int.reduceNe, ne_eq, not_false_eq_true, not_true_eq_false, List.getElem?_cons_zero, List.getElem?_cons_succ, List.length_cons, List.length_nil, List.all_cons, List.all_nil, Bool.and_true, Bool.and_self, Bool.true_and, Bool.false_and, Bool.and_false, Bool.or_true, Bool.or_false, Bool.true_or, Bool.false_or, Bool.or_self, List.elem_cons, List.elem_nil, Nat.add_zero, Nat.zero_add, or_self, or_false, false_or, true_or, or_true, and_true, true_and, and_false, false_and, and_self, List.mem_cons, List.not_mem_nil, Nat.reducePow, elAt_eq, stV_eq, cellsB_cells, hp_get_r, hp_get_r0, hp_get_l, hp_set_r, hp_set_r0, hp_set_l, hp_one, hp_ne, List.drop_succ_cons, List.drop_zero, List.take_succ_cons, List.take_zero, hm, hrn, d1, d2, d3, key, e2, e3, e4, e5, F.sl.shr, F.sl.notOwn, alen_sl F.sl, List.length_map, e6]
  exact ⟨_, rfl⟩
theorem rset_live (R : RefAt H c2 c1 c0 us es) (hr : ro ≤ c1) (hrn : ro ≤ H.length) {i : Nat} (hl : us.length < 2 ^ 62) (hu : usedB us i = true) {d d0 : List AV} {sv : AV} {st : List Int} (F : FrOk d sv st) (hst : st.length ≤ 16) (hd0 : d0.length = 19) (hc : es[i]? = some d0) :
    ∃ L sv', Sl 1 sv' (st.map iv) ∧ callB cx D ro 42 [.ptr c2 0 0, iv i, .agg d] H = some (iv 0, H.set c1 (.cells 19 45 ((es.set i (d.set 2 sv')).map .agg)) ++ L) := by
  obtain ⟨m, hm⟩ : ∃ m, H.length = m := ⟨_, rfl⟩
  rw [hm] at hrn
  have d1 : ∀ j, ro ≤ m + j := fun j => by omega
  have d2 : ∀ j, ¬ (m + j < ro) := fun j => by omega
  have d3 : ¬ (m < ro) := by omega
  have d4 : ¬ (c1 < ro) := by omega
  have key := fun L => there_ok (ro := ro) (R.grow (L := L)) i hl
  rw [hu] at key
  obtain ⟨sv', ho, hs'⟩ := copied_ok F (by omega)
  have F' := F.set hs'
  have hi : i < us.length := by have := (List.getElem?_eq_some_iff.1 (usedB_get us hu)).1; exact this
  have hcl : c1 < H.length := lt_of_get R.lb
  have g1 := fun L => (R.grow (L := L)).tb
  have g2 := fun L => (R.grow (L := L)).lb
  have e0 : aindexAddr cx.T 190 (.sl c1 19 0 us.length us.length) (iv i) = some (.ptr c1 i 0) := by rw [aindexAddr_blk sl190 rfl hi, Nat.zero_add]
  have e1 : (es.map AV.agg)[i]? = some (.agg d0) := by rw [List.getElem?_map, hc]; rfl
  have e2 := F.at2
  have e3 := F.len
  have e4 := F.take
  have e5 := F.shr
  have e6 : ¬ (16 : Int) < (st.length : Int) := by omega
  have f3 : elS true 19 (.agg d0) 0 (.agg (d.set 2 sv')) = some (.agg (d.set 2 sv')) := elS_whole F'.len hd0
  have f4 : ∀ (L : Hp) (x : ABlock), (H ++ L).set c1 x = H.set c1 x ++ L := fun L x => hp_set_l hcl
  have f5 : (es.map AV.agg).set i (.agg (d.set 2 sv')) = (es.set i (d.set 2 sv')).map .agg := (List.map_set).symm
  have f6 := F'.shr
  have f7 := F.shut
  rw [c42]
  simp -implicitDefEqProofs (maxDischargeDepth := 4) only [go_sem, decide_true, decide_false, beq_self_eq_true, ↓reduceIte, Nat.reduceLT, Nat.reduceAdd, Nat.reduceMul, Nat.reduceSub, Nat.reduceEqDiff, Nat.reduceLeDiff, Nat.reduceBEq, reduceCtorEq, Nat.succ_ne_zero, Bool.not_true, Bool.not_false, Bool.true_eq_false, Bool.false_eq_true, Bool.true_beq, Bool.false_beq, Int.reduceLT, Int.reduceLE, Int.reduceEq, Int.reduceNe, ne_eq, not_false_eq_true, not_true_eq_false, List.getElem?_cons_zero, List.getElem?_cons_succ, List.length_cons, List.length_nil, List.all_cons, List.all_nil, Bool.and_true, Bool.and_self, Bool.true_and, Bool.false_and, Bool.and_false, Bool.or_true, Bool.or_false, Bool.true_or, Bool.false_or, Bool.or_self, List.elem_cons, List.elem_nil, Nat.add_zero, Nat.zero_add, or_self, or_false, false_or, true_or, or_true, and_true, true_and, and_false, false_and, and_self, List.mem_cons, List.not_mem_nil, Nat.reducePow, elAt_eq, stV_eq, cellsB_cells, hp_get_r, hp_get_r0, hp_get_l, hp_set_r, hp_set_r0, hp_set_l, hp_one, hp_ne, List.drop_succ_cons, List.drop_zero, List.take_succ_cons, List.take_zero, hm, hrn, d1, d2, d3, d4, key, ho, g1, g2, e0, e1, e2, e3, e4, e5, F.sl.shr, F.sl.notOwn, alen_sl F.sl, List.length_map, e6, f3, f4, f5, f6, f7]
  exact ⟨_, _, hs', rfl⟩

theorem rdrop_none (R : RefAt H c2 c1 c0 us es) {i : Int} (hl : us.length < 2 ^ 62) (hu : usedB us i = false) :
    callB cx D ro 43 [.ptr c2 0 0, iv i] H = some (iv 24, H) := by
  have key := there_ok (ro := ro) R i hl
  rw [hu] at key
  rw [c43]
  simp -implicitDefEqProofs (maxDischargeDepth := 4) only [go_sem, decide_true, decide_false, beq_self_eq_true, ↓reduceIte, Nat.reduceLT, Nat.reduceAdd, Nat.reduceMul, Nat.reduceSub, Nat.reduceEqDiff, Nat.reduceLeDiff, Nat.reduceBEq, reduceCtorEq, Nat.succ_ne_zero, Bool.not_true, Bool.not_false, Bool.true_eq_false, Bool.false_eq_true, Bool.true_beq, Bool.false_beq, Int.reduceLT, Int.reduceLE, Int.reduceEq, Int.reduceNe, ne_eq, not_false_eq_true, not_true_eq_false, List.getElem?_cons_zero, List.getElem?_cons_succ, List.length_cons, List.length_nil, List.all_cons, List.all_nil, Bool.and_true, Bool.and_self, Bool.true_and, Bool.false_and, Bool.and_false, Bool.or_true, Bool.or_false, Bool.true_or, Bool.false_or, Bool.or_self, List.elem_cons, List.elem_nil, Nat.add_zero, Nat.zero_add, or_self, or_false, false_or, true_or, or_true, and_true, true_and, and_false, false_and, and_self, List.mem_cons, List.not_mem_nil, Nat.reducePow, elAt_eq, stV_eq, cellsB_cells, hp_get_r, hp_get_r0, hp_get_l, hp_set_r, hp_set_r0, hp_set_l, hp_one, hp_ne, List.drop_succ_cons, List.drop_zero, List.take_succ_cons, List.take_zero, key]
theorem rdrop_live (R : RefAt H c2 c1 c0 us es) (hr0 : ro ≤ c0) (hr1 : ro ≤ c1) {i : Nat} (hl : us.length < 2 ^ 62) (hu : usedB us i = true) {d0 : List AV} (hd0 : d0.length = 19) (hc : es[i]? = some d0) :
    callB cx D ro 43 [.ptr c2 0 0, iv i] H = some (iv 0, (H.set c0 (.cells 1 4 ((us.set i false).map bv))).set c1 (.cells 19 45 ((es.set i zeroF).map .agg))) := by
  have key := there_ok (ro := ro) R i hl
  rw [hu] at key
  have hi : i < us.length := by have := (List.getElem?_eq_some_iff.1 (usedB_get us hu)).1; exact this
  have d4 : ¬ (c1 < ro) := by omega
  have d5 : ¬ (c0 < ro) := by omega
  have e0 : aindexAddr cx.T 190 (.sl c1 19 0 us.length us.length) (iv i) = some (.ptr c1 i 0) := by rw [aindexAddr_blk sl190 rfl hi, Nat.zero_add]
  have e1 : aindexAddr cx.T 26 (.sl c0 1 0 us.length us.length) (iv i) = some (.ptr c0 i 0) := by rw [aindexAddr_blk sl26 rfl hi, Nat.zero_add]
  have e2 : (es.map AV.agg)[i]? = some (.agg d0) := by rw [List.getElem?_map, hc]; rfl
  have e3 : (us.map bv)[i]? = some (bv us[i]) := by rw [List.getElem?_map, List.getElem?_eq_getElem hi]; rfl
  have f3 : elS true 19 (.agg d0) 0 (.agg zeroF) = some (.agg zeroF) := elS_whole rfl hd0
  simp only [zeroF] at f3
  have f5 : (es.map AV.agg).set i (.agg zeroF) = (es.set i zeroF).map .agg := (List.map_set).symm
  simp only [zeroF] at f5
  have f6 : (us.map bv).set i (.lit (.bool false)) = (us.set i false).map bv := (List.map_set).symm
  have g1 := R.tb
  have g2 := R.ub
  have g3 := R.lb
  have h1 := R.n01
  have h2 := R.n02
  have h3 := R.n12
  have k0 : c0 < H.length := lt_of_get g2
  have q1 : ∀ x, (H.set c0 x)[c2]? = some (.cells 2 192 [.agg [.sl c0 1 0 us.length us.length, .sl c1 19 0 us.length us.length]]) := fun x => by rw [hp_ne h2, g1]
  have q2 : ∀ x, (H.set c0 x)[c1]? = some (.cells 19 45 (es.map .agg)) := fun x => by rw [hp_ne h1, g3]
  rw [c43]
  simp -implicitDefEqProofs (maxDischargeDepth := 4) only [go_sem, decide_true, decide_false, beq_self_eq_true, ↓reduceIte, Nat.reduceLT, Nat.reduceAdd, Nat.reduceMul, Nat.reduceSub, Nat.reduceEqDiff, Nat.reduceLeDiff, Nat.reduceBEq, reduceCtorEq, Nat.succ_ne_zero, Bool.not_true, Bool.not_false, Bool.true_eq_false, Bool.false_eq_true, Bool.true_beq, Bool.false_beq, Int.reduceLT, Int.reduceLE, Int.reduceEq, Int.reduceNe, ne_eq, not_false_eq_true, not_true_eq_false, List.getElem?_cons_zero, List.getElem?_cons_succ, List.length_cons, List.length_nil, List.all_cons, List.all_nil, Bool.and_true, Bool.and_self, Bool.true_and, Bool.false_and, Bool.and_false, Bool.or_true, Bool.or_false, Bool.true_or, Bool.false_or, Bool.or_self, List.elem_cons, List.elem_nil, Nat.add_zero, Nat.zero_add, or_self, or_false, false_or, true_or, or_true, and_true, true_and, and_false, false_and, and_self, List.mem_cons, List.not_mem_nil, Nat.reducePow, elAt_eq, stV_eq, cellsB_cells, hp_get_r, hp_get_r0, hp_get_l, hp_set_r, hp_set_r0, hp_set_l, hp_one, hp_ne, List.drop_succ_cons, List.drop_zero, List.take_succ_cons, List.take_zero, key, d4, d5, e0, e1, e2, e3, f3, f5, f6, g1, g2, g3, q1, q2, build45, zeroF]
end
end Go.Abs.Tab

/- The document's table of actors (reference): Add, Live. -/
set_option linter.unusedVariables false
namespace Go.Abs.Tab

/-- a new frame's cells, j words being laid -/
def rbf (t : Int) (xs : List Int) (j : Nat) : List AV := [iv t, iv 0, .lit (.slice none 0 0)] ++ (xs.take j).map iv ++ List.replicate (16 - j) (iv 0)
theorem rbf_len {t : Int} {xs : List Int} {j : Nat} (h : j ≤ xs.length) (h2 : xs.length ≤ 16) : (rbf t xs j).length = 19 := by
  simp only [rbf, List.length_append, List.length_cons, List.length_nil, List.length_map, List.length_take, List.length_replicate]; omega
theorem rbf_set {t : Int} {xs : List Int} {j : Nat} (h : j < xs.length) (h2 : xs.length ≤ 16) : (rbf t xs j).set (3 + j) (iv xs[j]) = rbf t xs (j + 1) := by
  have hl : ([iv t, iv 0, .lit (.slice none 0 0)] ++ (xs.take j).map iv : List AV).length = 3 + j := by
    simp only [List.length_append, List.length_cons, List.length_nil, List.length_map, List.length_take]; omega
  have hr : List.replicate (16 - j) (iv 0) = iv 0 :: List.replicate (16 - (j + 1)) (iv 0) := by
    rw [show 16 - j = (16 - (j + 1)) + 1 by omega, List.replicate_succ]
  have ht : (xs.take (j + 1)).map iv = (xs.take j).map iv ++ [iv xs[j]] := by
    rw [List.take_succ_eq_append_getElem h, List.map_append]; rfl
  unfold rbf
  rw [List.set_append_right _ _ (by omega), hl, hr, Nat.sub_self, List.set_cons_zero, ht]
  simp only [List.append_assoc, List.cons_append, List.nil_append]
theorem rbf_ok {t : Int} {xs : List Int} (h2 : xs.length ≤ 16) : FrOk (rbf t xs xs.length) (.lit (.slice none 0 0)) [] := by
  refine ⟨rbf_len (Nat.le_refl _) h2, rfl, .inr (.inr ⟨rfl, rfl⟩), fun j x hj h => ?_⟩
  unfold rbf at h
  rw [List.append_assoc] at h
  match j, hj with
  | 0, _ => cases h; exact ⟨_, rfl⟩
  | 1, _ => cases h; exact ⟨_, rfl⟩
  | 2, hj => exact absurd rfl hj
  | j + 3, _ =>
    have hm : x ∈ (xs.take xs.length).map iv ++ List.replicate (16 - xs.length) (iv 0) := List.mem_of_getElem? (i := j) h
    rcases List.mem_append.1 hm with hm | hm
    · obtain ⟨n, _, rfl⟩ := List.mem_map.1 hm; exact ⟨_, rfl⟩
    · exact ⟨_, List.eq_of_mem_replicate hm⟩
theorem newC_rbf {t : Int} {xs : List Int} (h2 : xs.length ≤ 16) : newC t xs = rbf t xs xs.length ++ [bv true] := by
  have hb : baseC t = [iv t, iv 0, .lit (.slice none 0 0)] ++ List.replicate 16 (iv 0) ++ [bv true] := rfl
  have hd : (baseC t).drop (3 + xs.length) = List.replicate (16 - xs.length) (iv 0) ++ [bv true] := by
    rw [hb, List.drop_append_of_le_length (by simp; omega), List.drop_append, List.drop_replicate]
    simp
  unfold newC rbf
  rw [hd, List.take_length]
  simp only [List.append_assoc]
  rfl

theorem trimmed_len {k : PT → Hp → Option Res} {n : Nat} {fr : PT} {H : Hp} (h : H.length = n) : trimmed k n fr H = k fr H := by unfold trimmed; rw [if_pos h]
structure RFr (fr : PT) (c2 : Nat) (t : Int) (a : AV) (k : Nat) : Prop where
  f0 : fr.get 0 = .ptr c2 0 0
  f1 : fr.get 1 = iv t
  f2 : fr.get 2 = a
  f8 : fr.get 8 = iv k

theorem fill_loop {ro c2 k m : Nat} {G : Hp} (hm : G.length = m) (hr : ro ≤ m) {t : Int} {a : AV} {xs : List Int} (ha : Sl 1 a (xs.map iv)) (hx : xs.length ≤ 16) :
    ∀ (d j : Nat), j + d = xs.length → ∀ fr, RFr fr c2 t a k → fr.get 9 = .ptr m 0 0 → fr.get 10 = iv j →
      ∃ fr', D.loop ro 40 59 l40_0 fr (G ++ [.cells 19 45 [.agg (rbf t xs j)]]) = some (.exit 2, fr', G ++ [.cells 19 45 [.agg (rbf t xs xs.length)]]) ∧ RFr fr' c2 t a k ∧ fr'.get 9 = .ptr m 0 0 := by
  intro d
  induction d with
  | zero =>
    intro j hj fr F h9 h10
    rw [Nat.add_zero] at hj
    subst hj
    have e1 : ¬ ((xs.length : Int) < (xs.length : Int)) := by omega
    rw [dl40_0]
    simp -implicitDefEqProofs (maxDischargeDepth := 4) only [go_sem, decide_true, decide_false, beq_self_eq_true, ↓reduceIte, Nat.reduceLT, Nat.reduceAdd, Nat.reduceMul, Nat.reduceSub, Nat.reduceEqDiff, Nat.reduceLeDiff, Nat.reduceBEq, reduceCtorEq, Nat.succ_ne_zero, Bool.not_true, Bool.not_false, Bool.true_eq_false, Bool.false_eq_true, Bool.true_beq, Bool.false_beq, Int.reduceLT, Int.reduceLE, Int.reduceEq, Int.reduceNe, ne_eq, not_false_eq_true, not_true_eq_false, List.getElem?_cons_zero, List.getElem?_cons_succ, List.length_cons, List.length_nil, List.all_cons, List.all_nil, Bool.and_true, Bool.and_self, Bool.true_and, Bool.false_and, Bool.and_false, Bool.or_true, Bool.or_false, Bool.true_or, Bool.false_or, Bool.or_self, List.elem_cons, List.elem_nil, Nat.add_zero, Nat.zero_add, or_self, or_false, false_or, true_or, or_true, and_true, true_and, and_false, false_and, and_self, List.mem_cons, List.not_mem_nil, Nat.reducePow, F.f0, F.f1, F.f2, F.f8, h9, h10, ha.shr, ha.notOwn, alen_sl ha, List.length_map, e1]
    refine ⟨_, rfl, ?_, ?_⟩
    · constructor <;> simp -implicitDefEqProofs (maxDischargeDepth := 4) only [go_sem, decide_true, decide_false, beq_self_eq_true, ↓reduceIte, Nat.reduceLT, Nat.reduceAdd, Nat.reduceMul, Nat.reduceSub, Nat.reduceEqDiff, Nat.reduceLeDiff, Nat.reduceBEq, reduceCtorEq, Nat.succ_ne_zero, Bool.not_true, Bool.not_false, Bool.true_eq_false, Bool.false_eq_true, Bool.true_beq, Bool.false_beq, Int.reduceLT, Int.reduceLE, Int.reduceEq, Int.reduceNe, ne_eq, not_false_eq_true, not_true_eq_false, List.getElem?_cons_zero, List.getElem?_cons_succ, List.length_cons, List.length_nil, List.all_cons, List.all_nil, Bool.and_true, Bool.and_self, Bool.true_and, Bool.false_and, Bool.and_false, Bool.or_true, Bool.or_false, Bool.true_or, Bool.false_or, Bool.or_self, List.elem_cons, List.elem_nil, Nat.add_zero, Nat.zero_add, or_self, or_false, false_or, true_or, or_true, and_true, true_and, and_false, false_and, and_self, List.mem_cons, List.not_mem_nil, Nat.reducePow, F.f0, F.f1, F.f2, F.f8]
    · simp -implicitDefEqProofs (maxDischargeDepth := 4) only [go_sem, decide_true, decide_false, beq_self_eq_true, ↓reduceIte, Nat.reduceLT, Nat.reduceAdd, Nat.reduceMul, Nat.reduceSub, Nat.reduceEqDiff, Nat.reduceLeDiff, Nat.reduceBEq, reduceCtorEq, Nat.succ_ne_zero, Bool.not_true, Bool.not_false, Bool.true_eq_false, Bool.false_eq_true, Bool.true_beq, Bool.false_beq, Int.reduceLT, Int.reduceLE, Int.reduceEq, Int.reduceNe, ne_eq, not_false_eq_true, not_true_eq_false, List.getElem?_cons_zero, List.getElem?_cons_succ, List.length_cons, List.length_nil, List.all_cons, List.all_nil, Bool.and_true, Bool.and_self, Bool.true_and, Bool.false_and, Bool.and_false, Bool.or_true, Bool.or_false, Bool.true_or, Bool.false_or, Bool.or_self, List.elem_cons, List.elem_nil, Nat.add_zero, Nat.zero_add, or_self, or_false, false_or, true_or, or_true, and_true, true_and, and_false, false_and, and_self, List.mem_cons, List.not_mem_nil, Nat.reducePow, h9]
  | succ d ih =>
    intro j hj fr F h9 h10
    have hlt : j < xs.length := by omega
    have e1 : ((j : Int) < (xs.length : Int)) := by omega
    have e2 : aindexAddr cx.T 39 a (iv j) = some (.vp (iv (xs.getD j 0)) 0) := by rw [aindexAddr_sl ha sl39 (by simp; omega) rfl, getD_map iv xs 0 (by omega)]
    have e3 : xs.getD j 0 = xs[j] := by simp [List.getD_eq_getElem?_getD, List.getElem?_eq_getElem hlt]
    have e4 : aindexAddr cx.T 42 (.ptr m 0 3) (iv j) = some (.ptr m 0 (3 + j)) := by rw [aindexAddr_arr ar42, if_pos (by omega)]; simp
    have e5 : wrapK .i64 ((j : Int) + 1) = ((j + 1 : Nat) : Int) := by rw [wrapK_i64 (by omega) (by omega)]; rfl
    have e6 : 3 + j < (rbf t xs j).length := by rw [rbf_len (by omega) hx]; omega
    have e7 := rbf_set (t := t) hlt hx
    have e8 : ¬ (m < ro) := by omega
    rw [e3] at e2
    rw [dl40_0]
    simp -implicitDefEqProofs (maxDischargeDepth := 4) only [go_sem, decide_true, decide_false, beq_self_eq_true, ↓reduceIte, Nat.reduceLT, Nat.reduceAdd, Nat.reduceMul, Nat.reduceSub, Nat.reduceEqDiff, Nat.reduceLeDiff, Nat.reduceBEq, reduceCtorEq, Nat.succ_ne_zero, Bool.not_true, Bool.not_false, Bool.true_eq_false, Bool.false_eq_true, Bool.true_beq, Bool.false_beq, Int.reduceLT, Int.reduceLE, Int.reduceEq, Int.reduceNe, ne_eq, not_false_eq_true, not_true_eq_false, List.getElem?_cons_zero, List.getElem?_cons_succ, List.length_cons, List.length_nil, List.all_cons, List.all_nil, Bool.and_true, Bool.and_self, Bool.true_and, Bool.false_and, Bool.and_false, Bool.or_true, Bool.or_false, Bool.true_or, Bool.false_or, Bool.or_self, List.elem_cons, List.elem_nil, Nat.add_zero, Nat.zero_add, or_self, or_false, false_or, true_or, or_true, and_true, true_and, and_false, false_and, and_self, List.mem_cons, List.not_mem_nil, Nat.reducePow, elAt_eq, stV_eq, cellsB_cells, hp_get_r, hp_get_r0, hp_get_l, hp_set_r, hp_set_r0, hp_set_l, hp_one, hp_ne, List.drop_succ_cons, List.drop_zero, List.take_succ_cons, List.take_zero, F.f0, F.f1, F.f2, F.f8, h9, h10, ha.shr, ha.notOwn, alen_sl ha, List.length_map, e1, e2, e4, e5, e6, e7, e8, hm]
    rw [trimmed_len (by simp [hm])]
    refine ih (j + 1) (by omega) _ ?_ ?_ ?_
    · constructor <;> simp -implicitDefEqProofs (maxDischargeDepth := 4) only [go_sem, decide_true, decide_false, beq_self_eq_true, ↓reduceIte, Nat.reduceLT, Nat.reduceAdd, Nat.reduceMul, Nat.reduceSub, Nat.reduceEqDiff, Nat.reduceLeDiff, Nat.reduceBEq, reduceCtorEq, Nat.succ_ne_zero, Bool.not_true, Bool.not_false, Bool.true_eq_false, Bool.false_eq_true, Bool.true_beq, Bool.false_beq, Int.reduceLT, Int.reduceLE, Int.reduceEq, Int.reduceNe, ne_eq, not_false_eq_true, not_true_eq_false, List.getElem?_cons_zero, List.getElem?_cons_succ, List.length_cons, List.length_nil, List.all_cons, List.all_nil, Bool.and_true, Bool.and_self, Bool.true_and, Bool.false_and, Bool.and_false, Bool.or_true, Bool.or_false, Bool.true_or, Bool.false_or, Bool.or_self, List.elem_cons, List.elem_nil, Nat.add_zero, Nat.zero_add, or_self, or_false, false_or, true_or, or_true, and_true, true_and, and_false, false_and, and_self, List.mem_cons, List.not_mem_nil, Nat.reducePow, F.f0, F.f1, F.f2, F.f8]
    · simp -implicitDefEqProofs (maxDischargeDepth := 4) only [go_sem, decide_true, decide_false, beq_self_eq_true, ↓reduceIte, Nat.reduceLT, Nat.reduceAdd, Nat.reduceMul, Nat.reduceSub, Nat.reduceEqDiff, Nat.reduceLeDiff, Nat.reduceBEq, reduceCtorEq, Nat.succ_ne_zero, Bool.not_true, Bool.not_false, Bool.true_eq_false, Bool.false_eq_true, Bool.true_beq, Bool.false_beq, Int.reduceLT, Int.reduceLE, Int.reduceEq, Int.reduceNe, ne_eq, not_false_eq_true, not_true_eq_false, List.getElem?_cons_zero, List.getElem?_cons_succ, List.length_cons, List.length_nil, List.all_cons, List.all_nil, Bool.and_true, Bool.and_self, Bool.true_and, Bool.false_and, Bool.and_false, Bool.or_true, Bool.or_false, Bool.true_or, Bool.false_or, Bool.or_self, List.elem_cons, List.elem_nil, Nat.add_zero, Nat.zero_add, or_self, or_false, false_or, true_or, or_true, and_true, true_and, and_false, false_and, and_self, List.mem_cons, List.not_mem_nil, Nat.reducePow, h9]
    · simp -implicitDefEqProofs (maxDischargeDepth := 4) only [go_sem, decide_true, decide_false, beq_self_eq_true, ↓reduceIte, Nat.reduceLT, Nat.reduceAdd, Nat.reduceMul, Nat.reduceSub, Nat.reduceEqDiff, Nat.reduceLeDiff, Nat.reduceBEq, reduceCtorEq, Nat.succ_ne_zero, Bool.not_true, Bool.not_false, Bool.true_eq_false, Bool.false_eq_true, Bool.true_beq, Bool.false_beq, Int.reduceLT, Int.reduceLE, Int.reduceEq, Int.reduceNe, ne_eq, not_false_eq_true, not_true_eq_false, List.getElem?_cons_zero, List.getElem?_cons_succ, List.length_cons, List.length_nil, List.all_cons, List.all_nil, Bool.and_true, Bool.and_self, Bool.true_and, Bool.false_and, Bool.and_false, Bool.or_true, Bool.or_false, Bool.true_or, Bool.false_or, Bool.or_self, List.elem_cons, List.elem_nil, Nat.add_zero, Nat.zero_add, or_self, or_false, false_or, true_or, or_true, and_true, true_and, and_false, false_and, and_self, List.mem_cons, List.not_mem_nil, Nat.reducePow]

theorem skolem {α β : Type} [Nonempty β] {p : α → Prop} {q : α → β → Prop} (h : ∀ a, p a → ∃ b, q a b) : ∃ f : α → β, ∀ a, p a → q a (f a) := by
  classical
  exact ⟨fun a => if h' : p a then Classical.choose (h a h') else Classical.choice inferInstance, fun a ha => by
    simp only [ha, dif_pos]
    exact Classical.choose_spec (h a ha)⟩
instance : Nonempty PT := ⟨.nil⟩
theorem RFr_of {fr : PT} {c2 : Nat} {t : Int} {a : AV} {k : Nat} (f0 : fr.get 0 = .ptr c2 0 0) (f1 : fr.get 1 = iv t) (f2 : fr.get 2 = a) (f8 : fr.get 8 = iv k) : RFr fr c2 t a k := ⟨f0, f1, f2, f8⟩
theorem build45t (t : Int) : abuild cx.T 45 [(0, .lit (.int .i64 t))] = some (.agg [iv t, iv 0, .lit (.slice none 0 0), iv 0, iv 0, iv 0, iv 0, iv 0, iv 0, iv 0, iv 0, iv 0, iv 0, iv 0, iv 0, iv 0, iv 0, iv 0, iv 0]) := nr (by kernel_rfl)
theorem radd_loop {ro c2 c1 c0 : Nat} {H : Hp} {us : List Bool} {es : List (List AV)} (R : RefAt H c2 c1 c0 us es) (hr0 : ro ≤ c0) (hr1 : ro ≤ c1) (hrn : ro ≤ H.length) (hl : us.length < 2 ^ 62) (hes : ∀ e ∈ es, e.length = 19)
    {t : Int} {a : AV} {xs : List Int} (ha : Sl 1 a (xs.map iv)) (hx : xs.length ≤ 16) :
    ∀ (d i : Nat), i + d = us.length → ∀ fr, RFr fr c2 t a i →
      (lowL i (us.drop i) = -1 ∧ ∃ fr', D.loop ro 40 59 l40_1 fr H = some (.exit 0, fr', H)) ∨
      ∃ k : Nat, lowL i (us.drop i) = (k : Int) ∧ k < us.length ∧ ∃ fr' L, D.loop ro 40 59 l40_1 fr H = some (.ret, fr', (H.set c0 (.cells 1 4 ((us.set k true).map bv))).set c1 (.cells 19 45 ((es.set k (rbf t xs xs.length)).map .agg)) ++ L) ∧ fr'.get 6 = iv k ∧ fr'.get 7 = iv 0 := by
  obtain ⟨m, hm⟩ : ∃ m, H.length = m := ⟨_, rfl⟩
  have g1 := R.tb
  have g2 := R.ub
  have g3 := R.lb
  intro d
  induction d with
  | zero =>
    intro i hi fr F
    rw [Nat.add_zero] at hi
    subst hi
    refine .inl ⟨by rw [List.drop_length]; rfl, ?_⟩
    have e1 : ¬ ((us.length : Int) < (us.length : Int)) := by omega
    rw [dl40_1]
    simp -implicitDefEqProofs (maxDischargeDepth := 4) only [go_sem, decide_true, decide_false, beq_self_eq_true, ↓reduceIte, Nat.reduceLT, Nat.reduceAdd, Nat.reduceMul, Nat.reduceSub, Nat.reduceEqDiff, Nat.reduceLeDiff, Nat.reduceBEq, reduceCtorEq, Nat.succ_ne_zero, Bool.not_true, Bool.not_false, Bool.true_eq_false, Bool.false_eq_true, Bool.true_beq, Bool.false_beq, Int.reduceLT, Int.reduceLE, Int.reduceEq, Int.reduceNe, ne_eq, not_false_eq_true, not_true_eq_false, List.getElem?_cons_zero, List.getElem?_cons_succ, List.length_cons, List.length_nil, List.all_cons, List.all_nil, Bool.and_true, Bool.and_self, Bool.true_and, Bool.false_and, Bool.and_false, Bool.or_true, Bool.or_false, Bool.true_or, Bool.false_or, Bool.or_self, List.elem_cons, List.elem_nil, Nat.add_zero, Nat.zero_add, or_self, or_false, false_or, true_or, or_true, and_true, true_and, and_false, false_and, and_self, List.mem_cons, List.not_mem_nil, Nat.reducePow, elAt_eq, stV_eq, cellsB_cells, hp_get_r, hp_get_r0, hp_get_l, hp_set_r, hp_set_r0, hp_set_l, hp_one, hp_ne, List.drop_succ_cons, List.drop_zero, List.take_succ_cons, List.take_zero, F.f0, F.f1, F.f2, F.f8, g1, e1]
    exact ⟨_, rfl⟩
  | succ d ih =>
    intro i hi fr F
    have hlt : i < us.length := by omega
    have e1 : ((i : Int) < (us.length : Int)) := by omega
    have e2 : aindexAddr cx.T 26 (.sl c0 1 0 us.length us.length) (iv i) = some (.ptr c0 i 0) := by rw [aindexAddr_blk sl26 rfl hlt, Nat.zero_add]
    have e3 : (us.map bv)[i]? = some (bv us[i]) := by rw [List.getElem?_map, List.getElem?_eq_getElem hlt]; rfl
    have e4 : wrapK .i64 ((i : Int) + 1) = ((i + 1 : Nat) : Int) := by rw [wrapK_i64 (by omega) (by omega)]; rfl
    rw [List.drop_eq_getElem_cons hlt, lowL]
    cases hb : us[i] with
    | true =>
      rw [hb] at e3
      have key : ∀ fr', RFr fr' c2 t a (i + 1) → _ := fun fr' F' => ih (i + 1) (by omega) fr' F'
      simp only [Bool.true_eq_false, if_false]
      rw [dl40_1]
      simp -implicitDefEqProofs (maxDischargeDepth := 4) only [go_sem, decide_true, decide_false, beq_self_eq_true, ↓reduceIte, Nat.reduceLT, Nat.reduceAdd, Nat.reduceMul, Nat.reduceSub, Nat.reduceEqDiff, Nat.reduceLeDiff, Nat.reduceBEq, reduceCtorEq, Nat.succ_ne_zero, Bool.not_true, Bool.not_false, Bool.true_eq_false, Bool.false_eq_true, Bool.true_beq, Bool.false_beq, Int.reduceLT, Int.reduceLE, Int.reduceEq, Int.reduceNe, ne_eq, not_false_eq_true, not_true_eq_false, List.getElem?_cons_zero, List.getElem?_cons_succ, List.length_cons, List.length_nil, List.all_cons, List.all_nil, Bool.and_true, Bool.and_self, Bool.true_and, Bool.false_and, Bool.and_false, Bool.or_true, Bool.or_false, Bool.true_or, Bool.false_or, Bool.or_self, List.elem_cons, List.elem_nil, Nat.add_zero, Nat.zero_add, or_self, or_false, false_or, true_or, or_true, and_true, true_and, and_false, false_and, and_self, List.mem_cons, List.not_mem_nil, Nat.reducePow, elAt_eq, stV_eq, cellsB_cells, hp_get_r, hp_get_r0, hp_get_l, hp_set_r, hp_set_r0, hp_set_l, hp_one, hp_ne, List.drop_succ_cons, List.drop_zero, List.take_succ_cons, List.take_zero, F.f0, F.f1, F.f2, F.f8, g1, g2, e1, e2, e3, e4]
      refine key _ ?_
      constructor <;> simp -implicitDefEqProofs (maxDischargeDepth := 4) only [go_sem, decide_true, decide_false, beq_self_eq_true, ↓reduceIte, Nat.reduceLT, Nat.reduceAdd, Nat.reduceMul, Nat.reduceSub, Nat.reduceEqDiff, Nat.reduceLeDiff, Nat.reduceBEq, reduceCtorEq, Nat.succ_ne_zero, Bool.not_true, Bool.not_false, Bool.true_eq_false, Bool.false_eq_true, Bool.true_beq, Bool.false_beq, Int.reduceLT, Int.reduceLE, Int.reduceEq, Int.reduceNe, ne_eq, not_false_eq_true, not_true_eq_false, List.getElem?_cons_zero, List.getElem?_cons_succ, List.length_cons, List.length_nil, List.all_cons, List.all_nil, Bool.and_true, Bool.and_self, Bool.true_and, Bool.false_and, Bool.and_false, Bool.or_true, Bool.or_false, Bool.true_or, Bool.false_or, Bool.or_self, List.elem_cons, List.elem_nil, Nat.add_zero, Nat.zero_add, or_self, or_false, false_or, true_or, or_true, and_true, true_and, and_false, false_and, and_self, List.mem_cons, List.not_mem_nil, Nat.reducePow, F.f0, F.f1, F.f2, F.f8]
    | false =>
      rw [hb] at e3
      refine .inr ⟨i, by rw [if_pos rfl], hlt, ?_⟩
      have d1 : ∀ j, ro ≤ m + j := fun j => by omega
      have d2 : ∀ j, ¬ (m + j < ro) := fun j => by omega
      have d3 : ¬ (m < ro) := by omega
      have d4 : ro ≤ m := by omega
      have d5 : ¬ (c1 < ro) := by omega
      have d6 : ¬ (c0 < ro) := by omega
      obtain ⟨ff, hff⟩ := skolem (fun fr (F' : RFr fr c2 t a i ∧ fr.get 9 = .ptr m 0 0 ∧ fr.get 10 = iv (0 : Nat)) => fill_loop (ro := ro) hm d4 ha hx xs.length 0 (by omega) fr F'.1 F'.2.1 F'.2.2)
      have k1 : ∀ fr, RFr fr c2 t a i → fr.get 9 = .ptr m 0 0 → fr.get 10 = iv 0 → D.loop ro 40 59 l40_0 fr (H ++ [.cells 19 45 [.agg (rbf t xs 0)]]) = some (.exit 2, ff fr, H ++ [.cells 19 45 [.agg (rbf t xs xs.length)]]) := fun fr F h9 h10 => (hff fr ⟨F, h9, h10⟩).1
      have k2 : ∀ fr, RFr fr c2 t a i → fr.get 9 = .ptr m 0 0 → fr.get 10 = iv 0 → (ff fr).get 0 = .ptr c2 0 0 := fun fr F h9 h10 => (hff fr ⟨F, h9, h10⟩).2.1.f0
      have k3 : ∀ fr, RFr fr c2 t a i → fr.get 9 = .ptr m 0 0 → fr.get 10 = iv 0 → (ff fr).get 8 = iv i := fun fr F h9 h10 => (hff fr ⟨F, h9, h10⟩).2.1.f8
      have k4 : ∀ fr, RFr fr c2 t a i → fr.get 9 = .ptr m 0 0 → fr.get 10 = iv 0 → (ff fr).get 9 = .ptr m 0 0 := fun fr F h9 h10 => (hff fr ⟨F, h9, h10⟩).2.2
      have hz : rbf t xs 0 = [iv t, iv 0, .lit (.slice none 0 0), iv 0, iv 0, iv 0, iv 0, iv 0, iv 0, iv 0, iv 0, iv 0, iv 0, iv 0, iv 0, iv 0, iv 0, iv 0, iv 0] := rfl
      rw [hz] at k1
      have hF := rbf_ok (t := t) hx
      have p1 := hF.len
      have p2 := hF.take
      have p3 := hF.shr
      have hsi : i < es.length := by rw [R.le]; omega
      have he0 : es[i].length = 19 := hes _ (List.getElem_mem hsi)
      have q0 : ∀ L : Hp, (H ++ L)[c2]? = _ := fun L => (R.grow (L := L)).tb
      have hc2 : c2 < H.length := lt_of_get g1
      have hc1 : c1 < H.length := lt_of_get g3
      have hc0 : c0 < H.length := lt_of_get g2
      have h1 := R.n01
      have h2 := R.n02
      have q1 : ∀ L : Hp, (H ++ L)[c0]? = some (.cells 1 4 (us.map bv)) := fun L => by rw [hp_get_l hc0, g2]
      have q2 : ∀ (L : Hp) (x : ABlock), (H ++ L).set c0 x = H.set c0 x ++ L := fun L x => hp_set_l hc0
      have q3 : ∀ (L : Hp) (x : ABlock), (H.set c0 x ++ L)[c2]? = some (.cells 2 192 [.agg [.sl c0 1 0 us.length us.length, .sl c1 19 0 us.length us.length]]) := fun L x => by rw [hp_get_l (by rw [List.length_set]; exact hc2), hp_ne h2, g1]
      have q4 : ∀ (L : Hp) (x : ABlock), (H.set c0 x ++ L)[c1]? = some (.cells 19 45 (es.map .agg)) := fun L x => by rw [hp_get_l (by rw [List.length_set]; exact hc1), hp_ne h1, g3]
      have q5 : ∀ (L : Hp) (x y : ABlock), (H.set c0 x ++ L).set c1 y = (H.set c0 x).set c1 y ++ L := fun L x y => hp_set_l (by rw [List.length_set]; exact hc1)
      have q6 : ∀ x : ABlock, (H.set c0 x).length = m := fun x => by rw [List.length_set, hm]
      have e5 : aindexAddr cx.T 190 (.sl c1 19 0 us.length us.length) (iv i) = some (.ptr c1 i 0) := by rw [aindexAddr_blk sl190 rfl hlt, Nat.zero_add]
      have e6 : (es.map AV.agg)[i]? = some (.agg es[i]) := by rw [List.getElem?_map, List.getElem?_eq_getElem hsi]; rfl
      have e7 : elS true 19 (.agg es[i]) 0 (.agg (rbf t xs xs.length)) = some (.agg (rbf t xs xs.length)) := elS_whole p1 he0
      have e8 : (es.map AV.agg).set i (.agg (rbf t xs xs.length)) = (es.set i (rbf t xs xs.length)).map .agg := (List.map_set).symm
      have e9 : (us.map bv).set i (.lit (.bool true)) = (us.set i true).map bv := (List.map_set).symm
      rw [dl40_1]
      simp -implicitDefEqProofs (maxDischargeDepth := 4) only [go_sem, decide_true, decide_false, beq_self_eq_true, ↓reduceIte, Nat.reduceLT, Nat.reduceAdd, Nat.reduceMul, Nat.reduceSub, Nat.reduceEqDiff, Nat.reduceLeDiff, Nat.reduceBEq, reduceCtorEq, Nat.succ_ne_zero, Bool.not_true, Bool.not_false, Bool.true_eq_false, Bool.false_eq_true, Bool.true_beq, Bool.false_beq, Int.reduceLT, Int.reduceLE, Int.reduceEq, Int.reduceNe, ne_eq, not_false_eq_true, not_true_eq_false, List.getElem?_cons_zero, List.getElem?_cons_succ, List.length_cons, List.length_nil, List.all_cons, List.all_nil, Bool.and_true, Bool.and_self, Bool.true_and, Bool.false_and, Bool.and_false, Bool.or_true, Bool.or_false, Bool.true_or, Bool.false_or, Bool.or_self, List.elem_cons, List.elem_nil, Nat.add_zero, Nat.zero_add, or_self, or_false, false_or, true_or, or_true, and_true, true_and, and_false, false_and, and_self, List.mem_cons, List.not_mem_nil, Nat.reducePow, elAt_eq, stV_eq, cellsB_cells, hp_get_r, hp_get_r0, hp_get_l, hp_set_r, hp_set_r0, hp_set_l, hp_one, hp_ne, List.drop_succ_cons, List.drop_zero, List.take_succ_cons, List.take_zero, F.f0, F.f1, F.f2, F.f8, q0, g1, g2, q1, q2, q3, q4, q5, q6, e1, e2, e3, e5, e6, e7, e8, e9, build45t, hm, d1, d2, d3, d4, d5, d6, x_loop, k1, k2, k3, k4, RFr_of, p1, p2, p3]
      refine ⟨_, _, rfl, ?_, ?_⟩ <;> simp -implicitDefEqProofs (maxDischargeDepth := 4) only [go_sem, decide_true, decide_false, beq_self_eq_true, ↓reduceIte, Nat.reduceLT, Nat.reduceAdd, Nat.reduceMul, Nat.reduceSub, Nat.reduceEqDiff, Nat.reduceLeDiff, Nat.reduceBEq, reduceCtorEq, Nat.succ_ne_zero, Bool.not_true, Bool.not_false, Bool.true_eq_false, Bool.false_eq_true, Bool.true_beq, Bool.false_beq, Int.reduceLT, Int.reduceLE, Int.reduceEq, Int.reduceNe, ne_eq, not_false_eq_true, not_true_eq_false, List.getElem?_cons_zero, List.getElem?_cons_succ, List.length_cons, List.length_nil, List.all_cons, List.all_nil, Bool.and_true, Bool.and_self, Bool.true_and, Bool.false_and, Bool.and_false, Bool.or_true, Bool.or_false, Bool.true_or, Bool.false_or, Bool.or_self, List.elem_cons, List.elem_nil, Nat.add_zero, Nat.zero_add, or_self, or_false, false_or, true_or, or_true, and_true, true_and, and_false, false_and, and_self, List.mem_cons, List.not_mem_nil, Nat.reducePow]

theorem radd_long {ro c2 c1 c0 : Nat} {H : Hp} {us : List Bool} {es : List (List AV)} (R : RefAt H c2 c1 c0 us es) {t : Int} {a : AV} {xs : List Int} (ha : Sl 1 a (xs.map iv)) (hx : 16 < xs.length) :
    callB cx D ro 40 [.ptr c2 0 0, iv t, a] H = some (.tup [iv (-1), iv 2], H) := by
  have e1 : (16 : Int) < (xs.length : Int) := by omega
  rw [c40]
  simp -implicitDefEqProofs (maxDischargeDepth := 4) only [go_sem, decide_true, decide_false, beq_self_eq_true, ↓reduceIte, Nat.reduceLT, Nat.reduceAdd, Nat.reduceMul, Nat.reduceSub, Nat.reduceEqDiff, Nat.reduceLeDiff, Nat.reduceBEq, reduceCtorEq, Nat.succ_ne_zero, Bool.not_true, Bool.not_false, Bool.true_eq_false, Bool.false_eq_true, Bool.true_beq, Bool.false_beq, Int.reduceLT, Int.reduceLE, Int.reduceEq, Int.reduceNe, ne_eq, not_false_eq_true, not_true_eq_false, List.getElem?_cons_zero, List.getElem?_cons_succ, List.length_cons, List.length_nil, List.all_cons, List.all_nil, Bool.and_true, Bool.and_self, Bool.true_and, Bool.false_and, Bool.and_false, Bool.or_true, Bool.or_false, Bool.true_or, Bool.false_or, Bool.or_self, List.elem_cons, List.elem_nil, Nat.add_zero, Nat.zero_add, or_self, or_false, false_or, true_or, or_true, and_true, true_and, and_false, false_and, and_self, List.mem_cons, List.not_mem_nil, Nat.reducePow, elAt_eq, stV_eq, cellsB_cells, hp_get_r, hp_get_r0, hp_get_l, hp_set_r, hp_set_r0, hp_set_l, hp_one, hp_ne, List.drop_succ_cons, List.drop_zero, List.take_succ_cons, List.take_zero, ha.shr, ha.notOwn, ha.drp, alen_sl ha, List.length_map, e1]

theorem radd_ok {ro c2 c1 c0 : Nat} {H : Hp} {us : List Bool} {es : List (List AV)} (R : RefAt H c2 c1 c0 us es) (hr0 : ro ≤ c0) (hr1 : ro ≤ c1) (hrn : ro ≤ H.length) (hl : us.length < 2 ^ 62) (hes : ∀ e ∈ es, e.length = 19)
    {t : Int} {a : AV} {xs : List Int} (ha : Sl 1 a (xs.map iv)) (hx : xs.length ≤ 16) :
    (lowL 0 us = -1 ∧ callB cx D ro 40 [.ptr c2 0 0, iv t, a] H = some (.tup [iv (-1), iv 22], H)) ∨
    ∃ k : Nat, lowL 0 us = (k : Int) ∧ k < us.length ∧ ∃ L, callB cx D ro 40 [.ptr c2 0 0, iv t, a] H = some (.tup [iv k, iv 0], (H.set c0 (.cells 1 4 ((us.set k true).map bv))).set c1 (.cells 19 45 ((es.set k (rbf t xs xs.length)).map .agg)) ++ L) := by
  have e1 : ¬ (16 : Int) < (xs.length : Int) := by omega
  have key := radd_loop R hr0 hr1 hrn hl hes (t := t) ha hx us.length 0 (by omega) ((((((((((PT.nil.set 0 (.ptr c2 0 0)).set 1 (.lit (.int .i64 t))).set 2 a).set 6 (.lit (.int .i64 0))).set 7 (.lit (.int .i64 0))).set 11 a).set 12 (.lit (.int .i64 (xs.length : Int)))).set 13 (.lit (.bool false))).set 8 (.lit (.int .i64 0)))) (by constructor <;> simp -implicitDefEqProofs (maxDischargeDepth := 4) only [go_sem, decide_true, decide_false, beq_self_eq_true, ↓reduceIte, Nat.reduceLT, Nat.reduceAdd, Nat.reduceMul, Nat.reduceSub, Nat.reduceEqDiff, Nat.reduceLeDiff, Nat.reduceBEq, reduceCtorEq, Nat.succ_ne_zero, Bool.not_true, Bool.not_false, Bool.true_eq_false, Bool.false_eq_true, Bool.true_beq, Bool.false_beq, Int.reduceLT, Int.reduceLE, Int.reduceEq, Int.reduceNe, ne_eq, not_false_eq_true, not_true_eq_false, List.getElem?_cons_zero, List.getElem?_cons_succ, List.length_cons, List.length_nil, List.all_cons, List.all_nil, Bool.and_true, Bool.and_self, Bool.true_and, Bool.false_and, Bool.and_false, Bool.or_true, Bool.or_false, Bool.true_or, Bool.false_or, Bool.or_self, List.elem_cons, List.elem_nil, Nat.add_zero, Nat.zero_add, or_self, or_false, false_or, true_or, or_true, and_true, true_and, and_false, false_and, and_self, List.mem_cons, List.not_mem_nil, Nat.reducePow, Int.ofNat_zero])
  rw [List.drop_zero] at key
  rcases key with ⟨h1, fr', h2⟩ | ⟨k, h1, hk, fr', L, h2, h6, h7⟩
  · refine .inl ⟨h1, ?_⟩
    rw [c40]
    simp -implicitDefEqProofs (maxDischargeDepth := 4) only [go_sem, decide_true, decide_false, beq_self_eq_true, ↓reduceIte, Nat.reduceLT, Nat.reduceAdd, Nat.reduceMul, Nat.reduceSub, Nat.reduceEqDiff, Nat.reduceLeDiff, Nat.reduceBEq, reduceCtorEq, Nat.succ_ne_zero, Bool.not_true, Bool.not_false, Bool.true_eq_false, Bool.false_eq_true, Bool.true_beq, Bool.false_beq, Int.reduceLT, Int.reduceLE, Int.reduceEq, Int.reduceNe, ne_eq, not_false_eq_true, not_true_eq_false, List.getElem?_cons_zero, List.getElem?_cons_succ, List.length_cons, List.length_nil, List.all_cons, List.all_nil, Bool.and_true, Bool.and_self, Bool.true_and, Bool.false_and, Bool.and_false, Bool.or_true, Bool.or_false, Bool.true_or, Bool.false_or, Bool.or_self, List.elem_cons, List.elem_nil, Nat.add_zero, Nat.zero_add, or_self, or_false, false_or, true_or, or_true, and_true, true_and, and_false, false_and, and_self, List.mem_cons, List.not_mem_nil, Nat.reducePow, elAt_eq, stV_eq, cellsB_cells, hp_get_r, hp_get_r0, hp_get_l, hp_set_r, hp_set_r0, hp_set_l, hp_one, hp_ne, List.drop_succ_cons, List.drop_zero, List.take_succ_cons, List.take_zero, ha.shr, ha.notOwn, ha.drp, alen_sl ha, List.length_map, e1, x_loop, h2]
  · refine .inr ⟨k, h1, hk, L, ?_⟩
    rw [c40]
    simp -implicitDefEqProofs (maxDischargeDepth := 4) only [go_sem, decide_true, decide_false, beq_self_eq_true, ↓reduceIte, Nat.reduceLT, Nat.reduceAdd, Nat.reduceMul, Nat.reduceSub, Nat.reduceEqDiff, Nat.reduceLeDiff, Nat.reduceBEq, reduceCtorEq, Nat.succ_ne_zero, Bool.not_true, Bool.not_false, Bool.true_eq_false, Bool.false_eq_true, Bool.true_beq, Bool.false_beq, Int.reduceLT, Int.reduceLE, Int.reduceEq, Int.reduceNe, ne_eq, not_false_eq_true, not_true_eq_false, List.getElem?_cons_zero, List.getElem?_cons_succ, List.length_cons, List.length_nil, List.all_cons, List.all_nil, Bool.and_true, Bool.and_self, Bool.true_and, Bool.false_and, Bool.and_false, Bool.or_true, Bool.or_false, Bool.true_or, Bool.false_or, Bool.or_self, List.elem_cons, List.elem_nil, Nat.add_zero, Nat.zero_add, or_self, or_false, false_or, true_or, or_true, and_true, true_and, and_false, false_and, and_self, List.mem_cons, List.not_mem_nil, Nat.reducePow, elAt_eq, stV_eq, cellsB_cells, hp_get_r, hp_get_r0, hp_get_l, hp_set_r, hp_set_r0, hp_set_l, hp_one, hp_ne, List.drop_succ_cons, List.drop_zero, List.take_succ_cons, List.take_zero, ha.shr, ha.notOwn, ha.drp, alen_sl ha, List.length_map, e1, x_loop, h2, h6, h7]

structure LvF (fr : PT) (c2 i : Nat) (els : List AV) : Prop where
  f0 : fr.get 0 = .ptr c2 0 0
  f3 : fr.get 3 = grV els
  f4 : fr.get 4 = iv i
theorem rlive_loop {ro c2 c1 c0 : Nat} {H : Hp} {us : List Bool} {es : List (List AV)} (R : RefAt H c2 c1 c0 us es) (hl : us.length < 2 ^ 19) :
    ∀ (d i : Nat), i + d = us.length → ∀ (els : List AV), els.length ≤ i → ∀ fr, LvF fr c2 i els →
      ∃ fr', D.loop ro 44 26 l44_0 fr H = some (.exit 0, fr', H) ∧ fr'.get 3 = grV (els ++ takenL i (us.drop i)) := by
  have g1 := R.tb
  have g2 := R.ub
  intro d
  induction d with
  | zero =>
    intro i hi els he fr F
    rw [Nat.add_zero] at hi
    subst hi
    have e1 : ¬ ((us.length : Int) < (us.length : Int)) := by omega
    rw [dl44_0]
    simp -implicitDefEqProofs (maxDischargeDepth := 4) only [go_sem, decide_true, decide_false, beq_self_eq_true, ↓reduceIte, Nat.reduceLT, Nat.reduceAdd, Nat.reduceMul, Nat.reduceSub, Nat.reduceEqDiff, Nat.reduceLeDiff, Nat.reduceBEq, reduceCtorEq, Nat.succ_ne_zero, Bool.not_true, Bool.not_false, Bool.true_eq_false, Bool.false_eq_true, Bool.true_beq, Bool.false_beq, Int.reduceLT, Int.reduceLE, Int.reduceEq, Int.reduceNe, ne_eq, not_false_eq_true, not_true_eq_false, List.getElem?_cons_zero, List.getElem?_cons_succ, List.length_cons, List.length_nil, List.all_cons, List.all_nil, Bool.and_true, Bool.and_self, Bool.true_and, Bool.false_and, Bool.and_false, Bool.or_true, Bool.or_false, Bool.true_or, Bool.false_or, Bool.or_self, List.elem_cons, List.elem_nil, Nat.add_zero, Nat.zero_add, or_self, or_false, false_or, true_or, or_true, and_true, true_and, and_false, false_and, and_self, List.mem_cons, List.not_mem_nil, Nat.reducePow, elAt_eq, stV_eq, cellsB_cells, hp_get_r, hp_get_r0, hp_get_l, hp_set_r, hp_set_r0, hp_set_l, hp_one, hp_ne, List.drop_succ_cons, List.drop_zero, List.take_succ_cons, List.take_zero, F.f0, F.f3, F.f4, g1, e1]
    refine ⟨_, rfl, ?_⟩
    simp -implicitDefEqProofs (maxDischargeDepth := 4) only [go_sem, decide_true, decide_false, beq_self_eq_true, ↓reduceIte, Nat.reduceLT, Nat.reduceAdd, Nat.reduceMul, Nat.reduceSub, Nat.reduceEqDiff, Nat.reduceLeDiff, Nat.reduceBEq, reduceCtorEq, Nat.succ_ne_zero, Bool.not_true, Bool.not_false, Bool.true_eq_false, Bool.false_eq_true, Bool.true_beq, Bool.false_beq, Int.reduceLT, Int.reduceLE, Int.reduceEq, Int.reduceNe, ne_eq, not_false_eq_true, not_true_eq_false, List.getElem?_cons_zero, List.getElem?_cons_succ, List.length_cons, List.length_nil, List.all_cons, List.all_nil, Bool.and_true, Bool.and_self, Bool.true_and, Bool.false_and, Bool.and_false, Bool.or_true, Bool.or_false, Bool.true_or, Bool.false_or, Bool.or_self, List.elem_cons, List.elem_nil, Nat.add_zero, Nat.zero_add, or_self, or_false, false_or, true_or, or_true, and_true, true_and, and_false, false_and, and_self, List.mem_cons, List.not_mem_nil, Nat.reducePow, F.f3]
    rw [List.drop_length, takenL, List.append_nil]
  | succ d ih =>
    intro i hi els he fr F
    have hlt : i < us.length := by omega
    have e1 : ((i : Int) < (us.length : Int)) := by omega
    have e2 : aindexAddr cx.T 26 (.sl c0 1 0 us.length us.length) (iv i) = some (.ptr c0 i 0) := by rw [aindexAddr_blk sl26 rfl hlt, Nat.zero_add]
    have e3 : (us.map bv)[i]? = some (bv us[i]) := by rw [List.getElem?_map, List.getElem?_eq_getElem hlt]; rfl
    have e4 : wrapK .i64 ((i : Int) + 1) = ((i + 1 : Nat) : Int) := by rw [wrapK_i64 (by omega) (by omega)]; rfl
    have e6 : (els.length + 1) * 9 ≤ 1099511627776 := by omega
    rw [List.drop_eq_getElem_cons hlt, takenL, dl44_0]
    cases hb : us[i] with
    | true =>
      rw [hb] at e3
      have key := fun fr' F' => ih (i + 1) (by omega) (els ++ [iv i]) (by simp; omega) fr' F'
      simp only [List.append_assoc, List.cons_append, List.nil_append] at key
      simp only [if_true]
      have h3 := F.f3
      rcases grV_gr els with hg | ⟨hg, rfl⟩
      · rw [hg] at h3
        simp -implicitDefEqProofs (maxDischargeDepth := 4) only [go_sem, decide_true, decide_false, beq_self_eq_true, ↓reduceIte, Nat.reduceLT, Nat.reduceAdd, Nat.reduceMul, Nat.reduceSub, Nat.reduceEqDiff, Nat.reduceLeDiff, Nat.reduceBEq, reduceCtorEq, Nat.succ_ne_zero, Bool.not_true, Bool.not_false, Bool.true_eq_false, Bool.false_eq_true, Bool.true_beq, Bool.false_beq, Int.reduceLT, Int.reduceLE, Int.reduceEq, Int.reduceNe, ne_eq, not_false_eq_true, not_true_eq_false, List.getElem?_cons_zero, List.getElem?_cons_succ, List.length_cons, List.length_nil, List.all_cons, List.all_nil, Bool.and_true, Bool.and_self, Bool.true_and, Bool.false_and, Bool.and_false, Bool.or_true, Bool.or_false, Bool.true_or, Bool.false_or, Bool.or_self, List.elem_cons, List.elem_nil, Nat.add_zero, Nat.zero_add, or_self, or_false, false_or, true_or, or_true, and_true, true_and, and_false, false_and, and_self, List.mem_cons, List.not_mem_nil, Nat.reducePow, elAt_eq, stV_eq, cellsB_cells, hp_get_r, hp_get_r0, hp_get_l, hp_set_r, hp_set_r0, hp_set_l, hp_one, hp_ne, List.drop_succ_cons, List.drop_zero, List.take_succ_cons, List.take_zero, F.f0, h3, F.f4, g1, g2, e1, e2, e3, e4, e6]
        refine key _ ?_
        constructor <;> simp -implicitDefEqProofs (maxDischargeDepth := 4) only [go_sem, decide_true, decide_false, beq_self_eq_true, ↓reduceIte, Nat.reduceLT, Nat.reduceAdd, Nat.reduceMul, Nat.reduceSub, Nat.reduceEqDiff, Nat.reduceLeDiff, Nat.reduceBEq, reduceCtorEq, Nat.succ_ne_zero, Bool.not_true, Bool.not_false, Bool.true_eq_false, Bool.false_eq_true, Bool.true_beq, Bool.false_beq, Int.reduceLT, Int.reduceLE, Int.reduceEq, Int.reduceNe, ne_eq, not_false_eq_true, not_true_eq_false, List.getElem?_cons_zero, List.getElem?_cons_succ, List.length_cons, List.length_nil, List.all_cons, List.all_nil, Bool.and_true, Bool.and_self, Bool.true_and, Bool.false_and, Bool.and_false, Bool.or_true, Bool.or_false, Bool.true_or, Bool.false_or, Bool.or_self, List.elem_cons, List.elem_nil, Nat.add_zero, Nat.zero_add, or_self, or_false, false_or, true_or, or_true, and_true, true_and, and_false, false_and, and_self, List.mem_cons, List.not_mem_nil, Nat.reducePow, F.f0, F.f4, grV_app]
      · rw [hg] at h3
        simp -implicitDefEqProofs (maxDischargeDepth := 4) only [go_sem, decide_true, decide_false, beq_self_eq_true, ↓reduceIte, Nat.reduceLT, Nat.reduceAdd, Nat.reduceMul, Nat.reduceSub, Nat.reduceEqDiff, Nat.reduceLeDiff, Nat.reduceBEq, reduceCtorEq, Nat.succ_ne_zero, Bool.not_true, Bool.not_false, Bool.true_eq_false, Bool.false_eq_true, Bool.true_beq, Bool.false_beq, Int.reduceLT, Int.reduceLE, Int.reduceEq, Int.reduceNe, ne_eq, not_false_eq_true, not_true_eq_false, List.getElem?_cons_zero, List.getElem?_cons_succ, List.length_cons, List.length_nil, List.all_cons, List.all_nil, Bool.and_true, Bool.and_self, Bool.true_and, Bool.false_and, Bool.and_false, Bool.or_true, Bool.or_false, Bool.true_or, Bool.false_or, Bool.or_self, List.elem_cons, List.elem_nil, Nat.add_zero, Nat.zero_add, or_self, or_false, false_or, true_or, or_true, and_true, true_and, and_false, false_and, and_self, List.mem_cons, List.not_mem_nil, Nat.reducePow, elAt_eq, stV_eq, cellsB_cells, hp_get_r, hp_get_r0, hp_get_l, hp_set_r, hp_set_r0, hp_set_l, hp_one, hp_ne, List.drop_succ_cons, List.drop_zero, List.take_succ_cons, List.take_zero, F.f0, h3, F.f4, g1, g2, e1, e2, e3, e4, e6]
        refine key _ ?_
        constructor <;> simp -implicitDefEqProofs (maxDischargeDepth := 4) only [go_sem, decide_true, decide_false, beq_self_eq_true, ↓reduceIte, Nat.reduceLT, Nat.reduceAdd, Nat.reduceMul, Nat.reduceSub, Nat.reduceEqDiff, Nat.reduceLeDiff, Nat.reduceBEq, reduceCtorEq, Nat.succ_ne_zero, Bool.not_true, Bool.not_false, Bool.true_eq_false, Bool.false_eq_true, Bool.true_beq, Bool.false_beq, Int.reduceLT, Int.reduceLE, Int.reduceEq, Int.reduceNe, ne_eq, not_false_eq_true, not_true_eq_false, List.getElem?_cons_zero, List.getElem?_cons_succ, List.length_cons, List.length_nil, List.all_cons, List.all_nil, Bool.and_true, Bool.and_self, Bool.true_and, Bool.false_and, Bool.and_false, Bool.or_true, Bool.or_false, Bool.true_or, Bool.false_or, Bool.or_self, List.elem_cons, List.elem_nil, Nat.add_zero, Nat.zero_add, or_self, or_false, false_or, true_or, or_true, and_true, true_and, and_false, false_and, and_self, List.mem_cons, List.not_mem_nil, Nat.reducePow, F.f0, F.f4, grV]
    | false =>
      rw [hb] at e3
      simp only [Bool.false_eq_true, if_false]
      simp -implicitDefEqProofs (maxDischargeDepth := 4) only [go_sem, decide_true, decide_false, beq_self_eq_true, ↓reduceIte, Nat.reduceLT, Nat.reduceAdd, Nat.reduceMul, Nat.reduceSub, Nat.reduceEqDiff, Nat.reduceLeDiff, Nat.reduceBEq, reduceCtorEq, Nat.succ_ne_zero, Bool.not_true, Bool.not_false, Bool.true_eq_false, Bool.false_eq_true, Bool.true_beq, Bool.false_beq, Int.reduceLT, Int.reduceLE, Int.reduceEq, Int.reduceNe, ne_eq, not_false_eq_true, not_true_eq_false, List.getElem?_cons_zero, List.getElem?_cons_succ, List.length_cons, List.length_nil, List.all_cons, List.all_nil, Bool.and_true, Bool.and_self, Bool.true_and, Bool.false_and, Bool.and_false, Bool.or_true, Bool.or_false, Bool.true_or, Bool.false_or, Bool.or_self, List.elem_cons, List.elem_nil, Nat.add_zero, Nat.zero_add, or_self, or_false, false_or, true_or, or_true, and_true, true_and, and_false, false_and, and_self, List.mem_cons, List.not_mem_nil, Nat.reducePow, elAt_eq, stV_eq, cellsB_cells, hp_get_r, hp_get_r0, hp_get_l, hp_set_r, hp_set_r0, hp_set_l, hp_one, hp_ne, List.drop_succ_cons, List.drop_zero, List.take_succ_cons, List.take_zero, F.f0, F.f3, F.f4, g1, g2, e1, e2, e3, e4]
      refine ih (i + 1) (by omega) els (by omega) _ ?_
      constructor <;> simp -implicitDefEqProofs (maxDischargeDepth := 4) only [go_sem, decide_true, decide_false, beq_self_eq_true, ↓reduceIte, Nat.reduceLT, Nat.reduceAdd, Nat.reduceMul, Nat.reduceSub, Nat.reduceEqDiff, Nat.reduceLeDiff, Nat.reduceBEq, reduceCtorEq, Nat.succ_ne_zero, Bool.not_true, Bool.not_false, Bool.true_eq_false, Bool.false_eq_true, Bool.true_beq, Bool.false_beq, Int.reduceLT, Int.reduceLE, Int.reduceEq, Int.reduceNe, ne_eq, not_false_eq_true, not_true_eq_false, List.getElem?_cons_zero, List.getElem?_cons_succ, List.length_cons, List.length_nil, List.all_cons, List.all_nil, Bool.and_true, Bool.and_self, Bool.true_and, Bool.false_and, Bool.and_false, Bool.or_true, Bool.or_false, Bool.true_or, Bool.false_or, Bool.or_self, List.elem_cons, List.elem_nil, Nat.add_zero, Nat.zero_add, or_self, or_false, false_or, true_or, or_true, and_true, true_and, and_false, false_and, and_self, List.mem_cons, List.not_mem_nil, Nat.reducePow, F.f0, F.f3, F.f4]

theorem rlive_ok {ro c2 c1 c0 : Nat} {H : Hp} {us : List Bool} {es : List (List AV)} (R : RefAt H c2 c1 c0 us es) (hl : us.length < 2 ^ 19) :
    ∃ x, Sl 1 x (takenL 0 us) ∧ callB cx D ro 44 [.ptr c2 0 0] H = some (x, H) := by
  obtain ⟨fr', h1, h2⟩ := rlive_loop (ro := ro) R hl us.length 0 (by omega) [] (Nat.le_refl _) ((((PT.nil.set 0 (.ptr c2 0 0)).set 2 (.lit (.slice none 0 0))).set 3 (.lit (.slice none 0 0))).set 4 (.lit (.int .i64 0))) (by constructor <;> simp -implicitDefEqProofs (maxDischargeDepth := 4) only [go_sem, decide_true, decide_false, beq_self_eq_true, ↓reduceIte, Nat.reduceLT, Nat.reduceAdd, Nat.reduceMul, Nat.reduceSub, Nat.reduceEqDiff, Nat.reduceLeDiff, Nat.reduceBEq, reduceCtorEq, Nat.succ_ne_zero, Bool.not_true, Bool.not_false, Bool.true_eq_false, Bool.false_eq_true, Bool.true_beq, Bool.false_beq, Int.reduceLT, Int.reduceLE, Int.reduceEq, Int.reduceNe, ne_eq, not_false_eq_true, not_true_eq_false, List.getElem?_cons_zero, List.getElem?_cons_succ, List.length_cons, List.length_nil, List.all_cons, List.all_nil, Bool.and_true, Bool.and_self, Bool.true_and, Bool.false_and, Bool.and_false, Bool.or_true, Bool.or_false, Bool.true_or, Bool.false_or, Bool.or_self, List.elem_cons, List.elem_nil, Nat.add_zero, Nat.zero_add, or_self, or_false, false_or, true_or, or_true, and_true, true_and, and_false, false_and, and_self, List.mem_cons, List.not_mem_nil, Nat.reducePow, Int.ofNat_zero, grV])
  rw [List.drop_zero, List.nil_append] at h2
  rcases grV_gr (takenL 0 us) with hg | ⟨hg, hnil⟩
  · rw [hg] at h2
    refine ⟨_, .inr (.inl rfl), ?_⟩
    rw [c44]
    simp -implicitDefEqProofs (maxDischargeDepth := 4) only [go_sem, decide_true, decide_false, beq_self_eq_true, ↓reduceIte, Nat.reduceLT, Nat.reduceAdd, Nat.reduceMul, Nat.reduceSub, Nat.reduceEqDiff, Nat.reduceLeDiff, Nat.reduceBEq, reduceCtorEq, Nat.succ_ne_zero, Bool.not_true, Bool.not_false, Bool.true_eq_false, Bool.false_eq_true, Bool.true_beq, Bool.false_beq, Int.reduceLT, Int.reduceLE, Int.reduceEq, Int.reduceNe, ne_eq, not_false_eq_true, not_true_eq_false, List.getElem?_cons_zero, List.getElem?_cons_succ, List.length_cons, List.length_nil, List.all_cons, List.all_nil, Bool.and_true, Bool.and_self, Bool.true_and, Bool.false_and, Bool.and_false, Bool.or_true, Bool.or_false, Bool.true_or, Bool.false_or, Bool.or_self, List.elem_cons, List.elem_nil, Nat.add_zero, Nat.zero_add, or_self, or_false, false_or, true_or, or_true, and_true, true_and, and_false, false_and, and_self, List.mem_cons, List.not_mem_nil, Nat.reducePow, elAt_eq, stV_eq, cellsB_cells, hp_get_r, hp_get_r0, hp_get_l, hp_set_r, hp_set_r0, hp_set_l, hp_one, hp_ne, List.drop_succ_cons, List.drop_zero, List.take_succ_cons, List.take_zero, x_loop, h1, h2]
  · rw [hg] at h2
    refine ⟨_, .inr (.inr ⟨rfl, hnil⟩), ?_⟩
    rw [c44]
    simp -implicitDefEqProofs (maxDischargeDepth := 4) only [go_sem, decide_true, decide_false, beq_self_eq_true, ↓reduceIte, Nat.reduceLT, Nat.reduceAdd, Nat.reduceMul, Nat.reduceSub, Nat.reduceEqDiff, Nat.reduceLeDiff, Nat.reduceBEq, reduceCtorEq, Nat.succ_ne_zero, Bool.not_true, Bool.not_false, Bool.true_eq_false, Bool.false_eq_true, Bool.true_beq, Bool.false_beq, Int.reduceLT, Int.reduceLE, Int.reduceEq, Int.reduceNe, ne_eq, not_false_eq_true, not_true_eq_false, List.getElem?_cons_zero, List.getElem?_cons_succ, List.length_cons, List.length_nil, List.all_cons, List.all_nil, Bool.and_true, Bool.and_self, Bool.true_and, Bool.false_and, Bool.and_false, Bool.or_true, Bool.or_false, Bool.true_or, Bool.false_or, Bool.or_self, List.elem_cons, List.elem_nil, Nat.add_zero, Nat.zero_add, or_self, or_false, false_or, true_or, or_true, and_true, true_and, and_false, false_and, and_self, List.mem_cons, List.not_mem_nil, Nat.reducePow, elAt_eq, stV_eq, cellsB_cells, hp_get_r, hp_get_r0, hp_get_l, hp_set_r, hp_set_r0, hp_set_l, hp_one, hp_ne, List.drop_succ_cons, List.drop_zero, List.take_succ_cons, List.take_zero, x_loop, h1, h2]
end Go.Abs.Tab
