/- Tables of nodes, as the document says: where types lead; a walk through aliases ends within as many steps as there are nodes, or never. -/
import Derived.Test.YtiinagmombigpaaEvS
import Derived.Test.YtiinagmombigpaaGraF
set_option linter.unusedSimpArgs false
set_option linter.unusedVariables false
set_option linter.unnecessarySimpa false

/- Tables of nodes, as the document says: where types lead; a walk through aliases ends within as many steps as there are nodes, or never. -/
set_option linter.unusedVariables false
namespace Go.Gr
open Go.Abs

structure Nd where
  kind : Int
  prio : Int
  chan : Bool
  pt : Int
  ps : Int
  es : List (Int × Int)
  /-- the slice of its edges -/
  nx : AV

theorem pigeon : ∀ (L : Nat) (f : Nat → Nat), (∀ i, i ≤ L → f i < L) → ∃ i j, i < j ∧ j ≤ L ∧ f i = f j
  | 0, f, h => absurd (h 0 (Nat.le_refl _)) (by omega)
  | L + 1, f, h => by
    by_cases hi : ∃ i, i ≤ L + 1 ∧ f i = L
    · obtain ⟨i, hi, e⟩ := hi
      by_cases hg : ∃ j, j ≤ L ∧ f (if j < i then j else j + 1) = L
      · obtain ⟨j, hj, e2⟩ := hg
        by_cases hji : j < i
        · rw [if_pos hji] at e2
          exact ⟨j, i, hji, hi, by rw [e, e2]⟩
        · rw [if_neg hji] at e2
          exact ⟨i, j + 1, by omega, by omega, by rw [e, e2]⟩
      · obtain ⟨a, b, h1, h2, h3⟩ := pigeon L (fun j => f (if j < i then j else j + 1)) fun j hj => by
          have h4 := h (if j < i then j else j + 1) (by split <;> omega)
          have h5 : f (if j < i then j else j + 1) ≠ L := fun e => hg ⟨j, hj, e⟩
          show f (if j < i then j else j + 1) < L
          omega
        exact ⟨if a < i then a else a + 1, if b < i then b else b + 1, by split <;> split <;> omega, by split <;> omega, h3⟩
    · obtain ⟨a, b, h1, h2, h3⟩ := pigeon L f fun i hi' => by
        have h4 := h i (by omega)
        have h5 : f i ≠ L := fun e => hi ⟨i, by omega, e⟩
        omega
      exact ⟨a, b, h1, by omega, h3⟩

def atN (ns : List Nd) (n : Int) : Option Nd := if n < 0 then none else ns[n.toNat]?
theorem atN_lt {ns : List Nd} {n : Int} {x : Nd} (h : atN ns n = some x) : 0 ≤ n ∧ n.toNat < ns.length := by
  unfold atN at h
  split at h
  · cases h
  · exact ⟨by omega, (List.getElem?_eq_some_iff.1 h).1⟩
/-- where an alias leads -/
def nxt (ns : List Nd) (n : Int) : Option (Int × Int) := match atN ns n with
  | some x => if x.kind = 5 then (match x.es with | [e] => some e | _ => none) else none
  | none => none
def wlk (ns : List Nd) : Nat → Int → Int → Int × Int
  | 0, _, _ => (-1, 0)
  | k + 1, n, o => match nxt ns n with
    | some e => wlk ns k e.1 (wrapK .i64 (o + e.2))
    | none => match atN ns n with
      | some x => if x.kind = 5 then (-1, 0) else (n, o)
      | none => (-1, 0)
/-- so many steps through aliases -/
def steps (ns : List Nd) : Nat → Int → Option Int
  | 0, n => some n
  | k + 1, n => match nxt ns n with
    | some e => steps ns k e.1
    | none => none
theorem steps_add {ns : List Nd} : ∀ (i j : Nat) (n : Int), steps ns (i + j) n = (steps ns i n).bind (steps ns j)
  | 0, j, n => by rw [Nat.zero_add]; rfl
  | i + 1, j, n => by
    rw [show i + 1 + j = (i + j) + 1 by omega]
    simp only [steps]
    cases nxt ns n with
    | none => rfl
    | some e => exact steps_add i j e.1
theorem steps_le {ns : List Nd} {i j : Nat} {n m : Int} (h : steps ns j n = some m) (hij : i ≤ j) : ∃ k, steps ns i n = some k ∧ steps ns (j - i) k = some m := by
  have : j = i + (j - i) := by omega
  rw [this, steps_add] at h
  obtain ⟨k, h1, h2⟩ := Option.bind_eq_some_iff.1 h
  exact ⟨k, h1, h2⟩
theorem steps_end {ns : List Nd} {n m : Int} (h : steps ns ns.length n = some m) : ∀ x, atN ns m = some x → x.kind = 5 := by
  intro x hx
  obtain ⟨f, hf⟩ : ∃ f : Nat → Int, ∀ i, i ≤ ns.length → steps ns i n = some (f i) := ⟨fun i => (steps ns i n).getD 0, fun i hi => by
    obtain ⟨k, h1, _⟩ := steps_le h hi
    simp [h1]⟩
  have hm : f ns.length = m := by
    have := hf ns.length (Nat.le_refl _); rw [h] at this; exact (Option.some.inj this).symm
  have hal : ∀ i, i < ns.length → ∃ e, nxt ns (f i) = some e := fun i hi => by
    obtain ⟨k, h1, h2⟩ := steps_le h (show i ≤ ns.length by omega)
    rw [hf i (by omega)] at h1
    obtain rfl := Option.some.inj h1
    rw [show ns.length - i = (ns.length - i - 1) + 1 by omega] at h2
    simp only [steps] at h2
    cases hn : nxt ns (f i) with
    | none => rw [hn] at h2; cases h2
    | some e => exact ⟨e, rfl⟩
  have hin : ∀ i, i ≤ ns.length → 0 ≤ f i ∧ (f i).toNat < ns.length := fun i hi => by
    by_cases he : i = ns.length
    · subst he; rw [hm]; exact atN_lt hx
    · obtain ⟨e, h1⟩ := hal i (by omega)
      unfold nxt at h1
      cases ha : atN ns (f i) with
      | none => rw [ha] at h1; cases h1
      | some y => exact atN_lt ha
  obtain ⟨i, j, hij, hj, e⟩ := pigeon ns.length (fun i => (f i).toNat) fun i hi => (hin i hi).2
  have e' : f i = f j := by
    have h1 := (hin i (by omega)).1
    have h2 := (hin j hj).1
    have h3 : (f i).toNat = (f j).toNat := e
    omega
  have hl : f (i + (ns.length - j)) = m := by
    have h1 := hf (i + (ns.length - j)) (by omega)
    rw [steps_add, hf i (by omega), Option.bind_some, e'] at h1
    obtain ⟨k, h2, h3⟩ := steps_le h hj
    rw [hf j hj] at h2
    obtain rfl := Option.some.inj h2
    rw [h3] at h1
    exact (Option.some.inj h1).symm
  obtain ⟨w, h1⟩ := hal (i + (ns.length - j)) (by omega)
  rw [hl] at h1
  unfold nxt at h1
  rw [hx] at h1
  simp only at h1
  split at h1
  · assumption
  · cases h1
theorem wlk_succ {ns : List Nd} : ∀ (k : Nat) (n o : Int), wlk ns (k + 1) n o = wlk ns k n o ∨ ∃ m x, steps ns k n = some m ∧ atN ns m = some x ∧ x.kind ≠ 5
  | 0, n, o => by
    simp only [wlk, steps]
    cases hn : nxt ns n with
    | some e => exact .inl rfl
    | none =>
      cases ha : atN ns n with
      | none => exact .inl rfl
      | some x =>
        by_cases hk : x.kind = 5
        · simp [hk]
        · exact .inr ⟨n, x, rfl, ha, hk⟩
  | k + 1, n, o => by
    rw [wlk, wlk]
    cases hn : nxt ns n with
    | none => exact .inl rfl
    | some e =>
      simp only [steps, hn]
      exact wlk_succ k e.1 _
/-- as many steps as there are nodes are enough -/
theorem wlk_end {ns : List Nd} {n o : Int} : wlk ns (ns.length + 1) n o = wlk ns ns.length n o := by
  rcases wlk_succ ns.length n o with h | ⟨m, x, h1, h2, h3⟩
  · exact h
  · exact absurd (steps_end h1 x h2) h3
end Go.Gr

/- Nodes: whether they have their shape; their edges. What the code of graph comes to, and what the document's. -/
set_option linter.unusedVariables false
namespace Go.Abs.Tab
open Go.Gr
attribute [go_sem] decide_true decide_false beq_self_eq_true Nat.succ_ne_zero Bool.not_true Bool.not_false Bool.true_eq_false Bool.false_eq_true Bool.true_beq Bool.false_beq ne_eq not_false_eq_true not_true_eq_false List.getElem?_cons_zero List.getElem?_cons_succ List.length_cons List.length_nil List.all_cons List.all_nil Bool.and_true Bool.and_self Bool.true_and Bool.false_and Bool.and_false Bool.or_true Bool.or_false Bool.true_or Bool.false_or Bool.or_self List.elem_cons List.elem_nil Nat.add_zero Nat.zero_add or_self or_false false_or true_or or_true and_true true_and and_false false_and and_self List.mem_cons List.not_mem_nil
abbrev iv (n : Int) : AV := .lit (.int .i64 n)
abbrev bv (b : Bool) : AV := .lit (.bool b)
noncomputable abbrev D : Hd := den cx
abbrev ed (e : Int × Int) : AV := .agg [iv e.1, iv e.2]
abbrev nodeC (x : Nd) : List AV := [iv x.kind, iv x.prio, bv x.chan, iv x.pt, iv x.ps, x.nx]
def NdOk (x : Nd) : Prop := Sl 2 x.nx (x.es.map ed)
def inB (n m : Int) : Bool := decide (0 ≤ n) && decide (n ≤ m)

@[go_sem] theorem shut1_lit (v : Value) : shut1 (.lit v) = true := nr rfl
@[go_sem] theorem shut1_vp (el : AV) (j : Nat) : shut1 (.vp el j) = true := nr rfl
@[go_sem] theorem shut1_vec (s : Nat) (k : Kd) (l : List AV) : shut1 (.vec s k l) = true := nr rfl
@[go_sem] theorem shut1_agg (l : List AV) : shut1 (.agg l) = l.all shut0 := nr rfl
@[go_sem] theorem shut0_lit (v : Value) : shut0 (.lit v) = true := nr rfl
@[go_sem] theorem shut0_vp (el : AV) (j : Nat) : shut0 (.vp el j) = true := nr rfl
@[go_sem] theorem shut0_vec (s : Nat) (k : Kd) (l : List AV) : shut0 (.vec s k l) = true := nr rfl

theorem within_call {ro : Nat} {H : Hp} (a b : Int) : callB cx D ro 118 [iv a, iv b] H = some (bv (inB a b), H) := by
  rw [c118]
  unfold inB
  by_cases h : 0 ≤ a <;> simp -implicitDefEqProofs (maxDischargeDepth := 4) only [go_sem, ↓reduceIte, Nat.reduceLT, Nat.reduceAdd, Nat.reduceMul, Nat.reduceSub, Nat.reduceEqDiff, Nat.reduceLeDiff, Nat.reduceBEq, reduceCtorEq, Int.reduceLT, Int.reduceLE, Int.reduceEq, Int.reduceNe, Nat.reducePow, h]
theorem within_ok (a b : Int) : pcall D 118 [iv a, iv b] = some (bv (inB a b)) := by
  exact pcall_eq (v := bv (inB a b)) (H' := []) (within_call a b)

theorem wide_call {ro : Nat} {H : Hp} (hro : ro ≤ H.length) (e : Int × Int) : callB cx D ro 153 [ed e] H = some (bv (!inB e.2 1000), H ++ [.cells 2 63 [ed e]]) := by
  obtain ⟨n, hn⟩ : ∃ n, H.length = n := ⟨_, rfl⟩
  have c1 : ∀ j, ro ≤ n + j := fun j => by omega
  have c2 : ∀ j, ¬ (n + j < ro) := fun j => by omega
  rw [hn] at hro
  rw [c153]
  simp -implicitDefEqProofs (maxDischargeDepth := 4) only [go_sem, ↓reduceIte, Nat.reduceLT, Nat.reduceAdd, Nat.reduceMul, Nat.reduceSub, Nat.reduceEqDiff, Nat.reduceLeDiff, Nat.reduceBEq, reduceCtorEq, Int.reduceLT, Int.reduceLE, Int.reduceEq, Int.reduceNe, Nat.reducePow, elAt_eq, stV_eq, cellsB_cells, hp_get_r, hp_get_r0, hp_get_l, hp_set_r, hp_set_r0, hp_set_l, hp_one, hp_ne, List.drop_succ_cons, List.drop_zero, List.take_succ_cons, List.take_zero, hn, hro, c1, c2, within_ok, u_not]

/-- a loop's head, by what is asked of its frame and heap -/
theorem trim_gen {P : Option Res → Prop} {k : PT → Hp → Option Res} {n : Nat} {fr : PT} {G : Hp} (T : List Tmp) (hn : n ≤ G.length) (hT : ∀ t ∈ T, kill n (fr.get t) = fr.get t)
    (hX : ∀ fr' G', G'.length = n → (∀ t ∈ T, fr'.get t = fr.get t) → (∀ j x, j < n → G[j]? = some x → killB n x = x → G'[j]? = some x) → P (k fr' G')) : P (trimmed k n fr G) := by
  unfold trimmed
  split
  · rename_i h; exact hX _ _ h (fun _ _ => rfl) (fun _ _ _ h _ => h)
  · refine hX _ _ (by rw [List.length_map, List.length_take]; omega) (fun t ht => by rw [get_mapkill, hT t ht]) fun j x hj hx hk => ?_
    rw [List.getElem?_map, List.getElem?_take_of_lt hj, hx, Option.map_some, hk]
theorem kill_Sl {sz : Nat} {a : AV} {els : List AV} (h : Sl sz a els) (m : Nat) : kill m a = a := by
  rcases h with rfl | rfl | ⟨rfl, _⟩ <;> rfl
theorem kill_lit (v : Value) (m : Nat) : kill m (.lit v) = .lit v := rfl
theorem kill_fn0 (f : FuncId) (m : Nat) : kill m (.fn f []) = .fn f [] := rfl
theorem get_ed {es : List (Int × Int)} {n : Nat} (h : n < es.length) : (es.map ed).getD n .dead = ed (es.getD n (0, 0)) := getD_map ed es (0, 0) h
theorem drop_ed {es : List (Int × Int)} {n : Nat} (h : n < es.length) : es.drop n = es.getD n (0, 0) :: es.drop (n + 1) := by
  rw [List.drop_eq_getElem_cons h]; simp [List.getD_eq_getElem?_getD, List.getElem?_eq_getElem h]

def wide (e : Int × Int) : Bool := !inB e.2 1000
theorem idx_loop {ro n : Nat} (hro : ro ≤ n) {a : AV} {es : List (Int × Int)} (ha : Sl 2 a (es.map ed)) (hl : es.length < 2 ^ 40) : ∀ (m i : Nat) (fr : PT) (G : Hp), es.length - i = m → i ≤ es.length → G.length = n →
    fr.get 0 = a → fr.get 1 = .fn 153 [] → fr.get 7 = iv es.length → fr.get 8 = iv i →
    ∃ e fr' G', D.loop ro 175 19 l175_0 fr G = some (e, fr', G') ∧ (if (es.drop i).any wide = true then e = .ret ∧ ∃ k : Nat, fr'.get 4 = iv k else e = .exit 0)
  | 0, i, fr, G, hm, hi, hG, h0, h1, h7, h8 => by
    have hn : ¬ ((i : Int) < (es.length : Int)) := by omega
    rw [dl175_0]
    simp -implicitDefEqProofs (maxDischargeDepth := 4) only [go_sem, ↓reduceIte, Nat.reduceLT, Nat.reduceAdd, Nat.reduceMul, Nat.reduceSub, Nat.reduceEqDiff, Nat.reduceLeDiff, Nat.reduceBEq, reduceCtorEq, Int.reduceLT, Int.reduceLE, Int.reduceEq, Int.reduceNe, Nat.reducePow, h0, h1, h7, h8, hn]
    refine ⟨_, _, _, rfl, ?_⟩
    rw [List.drop_eq_nil_of_le (by omega)]
    simp
  | m + 1, i, fr, G, hm, hi, hG, h0, h1, h7, h8 => by
    have hn : ((i : Int) < (es.length : Int)) := by omega
    have e1 : aindexAddr cx.T 64 a (iv i) = some (.vp (ed (es.getD i (0, 0))) 0) := by rw [aindexAddr_sl ha sl64 (by rw [List.length_map]; omega) rfl, get_ed (by omega)]
    have e3 : wrapK .i64 ((i : Int) + 1) = ((i + 1 : Nat) : Int) := by rw [wrapK_i64 (by omega) (by omega)]; rfl
    have e4 := wide_call (ro := ro) (H := G) (by omega) (es.getD i (0, 0))
    rw [dl175_0, drop_ed (show i < es.length by omega), List.any_cons]
    cases hw : wide (es.getD i (0, 0)) with
    | true =>
      have hw' : inB (es.getD i (0, 0)).2 1000 = false := by simpa [wide] using hw
      simp -implicitDefEqProofs (maxDischargeDepth := 4) only [go_sem, ↓reduceIte, Nat.reduceLT, Nat.reduceAdd, Nat.reduceMul, Nat.reduceSub, Nat.reduceEqDiff, Nat.reduceLeDiff, Nat.reduceBEq, reduceCtorEq, Int.reduceLT, Int.reduceLE, Int.reduceEq, Int.reduceNe, Nat.reducePow, elAt_eq, stV_eq, cellsB_cells, hp_get_r, hp_get_r0, hp_get_l, hp_set_r, hp_set_r0, hp_set_l, hp_one, hp_ne, List.drop_succ_cons, List.drop_zero, List.take_succ_cons, List.take_zero, h0, h1, h7, h8, hn, ha.notOwn, ha.shr, e1, e3, e4, hw']
      exact ⟨_, _, _, rfl, rfl, i, by simp -implicitDefEqProofs (maxDischargeDepth := 4) only [go_sem, ↓reduceIte, Nat.reduceLT, Nat.reduceAdd, Nat.reduceMul, Nat.reduceSub, Nat.reduceEqDiff, Nat.reduceLeDiff, Nat.reduceBEq, reduceCtorEq, Int.reduceLT, Int.reduceLE, Int.reduceEq, Int.reduceNe, Nat.reducePow]⟩
    | false =>
      have hw' : inB (es.getD i (0, 0)).2 1000 = true := by simpa [wide] using hw
      simp -implicitDefEqProofs (maxDischargeDepth := 4) only [go_sem, ↓reduceIte, Nat.reduceLT, Nat.reduceAdd, Nat.reduceMul, Nat.reduceSub, Nat.reduceEqDiff, Nat.reduceLeDiff, Nat.reduceBEq, reduceCtorEq, Int.reduceLT, Int.reduceLE, Int.reduceEq, Int.reduceNe, Nat.reducePow, elAt_eq, stV_eq, cellsB_cells, hp_get_r, hp_get_r0, hp_get_l, hp_set_r, hp_set_r0, hp_set_l, hp_one, hp_ne, List.drop_succ_cons, List.drop_zero, List.take_succ_cons, List.take_zero, h0, h1, h7, h8, hn, ha.notOwn, ha.shr, e1, e3, e4, hw']
      refine trim_gen (P := fun o => ∃ e fr' G', o = some (e, fr', G') ∧ (if (es.drop (i + 1)).any wide = true then e = .ret ∧ ∃ k : Nat, fr'.get 4 = iv k else e = .exit 0)) [0, 1, 7, 8] (by rw [List.length_append]; omega) (fun t ht => ?_)
        fun fr' G' hG' hf _ => idx_loop hro ha hl m (i + 1) fr' G' (by omega) (by omega) (hG'.trans hG) ?_ ?_ ?_ ?_
      · simp only [List.mem_cons, List.not_mem_nil, or_false] at ht
        rcases ht with rfl | rfl | rfl | rfl <;> simp -implicitDefEqProofs (maxDischargeDepth := 4) only [go_sem, ↓reduceIte, Nat.reduceLT, Nat.reduceAdd, Nat.reduceMul, Nat.reduceSub, Nat.reduceEqDiff, Nat.reduceLeDiff, Nat.reduceBEq, reduceCtorEq, Int.reduceLT, Int.reduceLE, Int.reduceEq, Int.reduceNe, Nat.reducePow, h0, h1, h7, h8, kill_Sl ha, kill_lit, kill_fn0]
      · rw [hf 0 (by simp)]; simp -implicitDefEqProofs (maxDischargeDepth := 4) only [go_sem, ↓reduceIte, Nat.reduceLT, Nat.reduceAdd, Nat.reduceMul, Nat.reduceSub, Nat.reduceEqDiff, Nat.reduceLeDiff, Nat.reduceBEq, reduceCtorEq, Int.reduceLT, Int.reduceLE, Int.reduceEq, Int.reduceNe, Nat.reducePow, h0]
      · rw [hf 1 (by simp)]; simp -implicitDefEqProofs (maxDischargeDepth := 4) only [go_sem, ↓reduceIte, Nat.reduceLT, Nat.reduceAdd, Nat.reduceMul, Nat.reduceSub, Nat.reduceEqDiff, Nat.reduceLeDiff, Nat.reduceBEq, reduceCtorEq, Int.reduceLT, Int.reduceLE, Int.reduceEq, Int.reduceNe, Nat.reducePow, h1]
      · rw [hf 7 (by simp)]; simp -implicitDefEqProofs (maxDischargeDepth := 4) only [go_sem, ↓reduceIte, Nat.reduceLT, Nat.reduceAdd, Nat.reduceMul, Nat.reduceSub, Nat.reduceEqDiff, Nat.reduceLeDiff, Nat.reduceBEq, reduceCtorEq, Int.reduceLT, Int.reduceLE, Int.reduceEq, Int.reduceNe, Nat.reducePow, h7]
      · rw [hf 8 (by simp)]; simp -implicitDefEqProofs (maxDischargeDepth := 4) only [go_sem, ↓reduceIte, Nat.reduceLT, Nat.reduceAdd, Nat.reduceMul, Nat.reduceSub, Nat.reduceEqDiff, Nat.reduceLeDiff, Nat.reduceBEq, reduceCtorEq, Int.reduceLT, Int.reduceLE, Int.reduceEq, Int.reduceNe, Nat.reducePow]
/-- slices.ContainsFunc -/
theorem idx_call {ro : Nat} {H : Hp} (hro : ro ≤ H.length) {a : AV} {es : List (Int × Int)} (ha : Sl 2 a (es.map ed)) (hl : es.length < 2 ^ 40) :
    ∃ (v : Int) (H' : Hp), callB cx D ro 175 [a, .fn 153 []] H = some (iv v, H') ∧ decide (0 ≤ v) = es.any wide := by
  rw [c175]
  obtain ⟨e, fr', G', h1, h2⟩ := idx_loop hro ha hl es.length 0 ((((((PT.nil.set 0 a).set 1 (.fn 153 [])).set 4 (iv 0)).set 6 a).set 7 (iv es.length)).set 8 (iv 0)) H (by omega) (by omega) rfl (by simp -implicitDefEqProofs (maxDischargeDepth := 4) only [go_sem, ↓reduceIte, Nat.reduceLT, Nat.reduceAdd, Nat.reduceMul, Nat.reduceSub, Nat.reduceEqDiff, Nat.reduceLeDiff, Nat.reduceBEq, reduceCtorEq, Int.reduceLT, Int.reduceLE, Int.reduceEq, Int.reduceNe, Nat.reducePow]) (by simp -implicitDefEqProofs (maxDischargeDepth := 4) only [go_sem, ↓reduceIte, Nat.reduceLT, Nat.reduceAdd, Nat.reduceMul, Nat.reduceSub, Nat.reduceEqDiff, Nat.reduceLeDiff, Nat.reduceBEq, reduceCtorEq, Int.reduceLT, Int.reduceLE, Int.reduceEq, Int.reduceNe, Nat.reducePow]) (by simp -implicitDefEqProofs (maxDischargeDepth := 4) only [go_sem, ↓reduceIte, Nat.reduceLT, Nat.reduceAdd, Nat.reduceMul, Nat.reduceSub, Nat.reduceEqDiff, Nat.reduceLeDiff, Nat.reduceBEq, reduceCtorEq, Int.reduceLT, Int.reduceLE, Int.reduceEq, Int.reduceNe, Nat.reducePow]) (by simp -implicitDefEqProofs (maxDischargeDepth := 4) only [go_sem, ↓reduceIte, Nat.reduceLT, Nat.reduceAdd, Nat.reduceMul, Nat.reduceSub, Nat.reduceEqDiff, Nat.reduceLeDiff, Nat.reduceBEq, reduceCtorEq, Int.reduceLT, Int.reduceLE, Int.reduceEq, Int.reduceNe, Nat.reducePow, Int.ofNat_zero])
  rw [List.drop_zero] at h2
  simp -implicitDefEqProofs (maxDischargeDepth := 4) only [go_sem, ↓reduceIte, Nat.reduceLT, Nat.reduceAdd, Nat.reduceMul, Nat.reduceSub, Nat.reduceEqDiff, Nat.reduceLeDiff, Nat.reduceBEq, reduceCtorEq, Int.reduceLT, Int.reduceLE, Int.reduceEq, Int.reduceNe, Nat.reducePow, ha.notOwn, ha.shr, ha.drp, alen_sl ha, List.length_map, x_loop, h1]
  cases hw : es.any wide with
  | true =>
    rw [hw, if_pos rfl] at h2
    obtain ⟨rfl, k, h3⟩ := h2
    simp -implicitDefEqProofs (maxDischargeDepth := 4) only [go_sem, ↓reduceIte, Nat.reduceLT, Nat.reduceAdd, Nat.reduceMul, Nat.reduceSub, Nat.reduceEqDiff, Nat.reduceLeDiff, Nat.reduceBEq, reduceCtorEq, Int.reduceLT, Int.reduceLE, Int.reduceEq, Int.reduceNe, Nat.reducePow, h3]
    exact ⟨k, _, rfl, by simp⟩
  | false =>
    rw [hw, if_neg (by simp)] at h2
    subst h2
    simp -implicitDefEqProofs (maxDischargeDepth := 4) only [go_sem, ↓reduceIte, Nat.reduceLT, Nat.reduceAdd, Nat.reduceMul, Nat.reduceSub, Nat.reduceEqDiff, Nat.reduceLeDiff, Nat.reduceBEq, reduceCtorEq, Int.reduceLT, Int.reduceLE, Int.reduceEq, Int.reduceNe, Nat.reducePow]
    exact ⟨-1, _, rfl, by decide⟩
theorem contains_call {ro : Nat} {H : Hp} (hro : ro ≤ H.length) {a : AV} {es : List (Int × Int)} (ha : Sl 2 a (es.map ed)) (hl : es.length < 2 ^ 40) :
    ∃ H' : Hp, callB cx D ro 154 [a, .fn 153 []] H = some (bv (es.any wide), H') := by
  obtain ⟨v, H', h1, h2⟩ := idx_call hro ha hl
  rw [c154]
  simp -implicitDefEqProofs (maxDischargeDepth := 4) only [go_sem, ↓reduceIte, Nat.reduceLT, Nat.reduceAdd, Nat.reduceMul, Nat.reduceSub, Nat.reduceEqDiff, Nat.reduceLeDiff, Nat.reduceBEq, reduceCtorEq, Int.reduceLT, Int.reduceLE, Int.reduceEq, Int.reduceNe, Nat.reducePow, ha.notOwn, ha.shr, ha.drp, h1, h2]
  exact ⟨_, rfl⟩

/-- a slice that can grow -/
def Sl' (sz : Nat) (a : AV) (els : List AV) : Prop := a = .vec sz .own els ∨ a = .vec sz .exact els ∨ (a = .lit (.slice none 0 0) ∧ els = [])
theorem slT_T {T : TypeId → Option TI} {t : TypeId} (h : (slT T t).isSome = true) : ∃ a b c d e f, T t = some ⟨a, b, c, d, .slice e, f⟩ := by
  unfold slT at h
  split at h
  · rename_i hT; exact ⟨_, _, _, _, _, _, hT⟩
  · cases h
theorem sl_eql_vn {T : TypeId → Option TI} {t : TypeId} {sz : Nat} {k : Kd} {l : List AV} (ht : (slT T t).isSome = true) : abin T .eql t (.vec sz k l) (.lit (.slice none 0 0)) = some (.lit (.bool false)) := by
  obtain ⟨a, b, c, d, e, f, hT⟩ := slT_T ht
  simp [abin, nilTy, hT, nilEq, neg?]
theorem sl_eql_nn {T : TypeId → Option TI} {t : TypeId} (ht : (slT T t).isSome = true) : abin T .eql t (.lit (.slice none 0 0)) (.lit (.slice none 0 0)) = some (.lit (.bool true)) := by
  obtain ⟨a, b, c, d, e, f, hT⟩ := slT_T ht
  simp [abin, nilTy, hT, nilEq, neg?]
theorem apV_empty {sz by' : Nat} {xs : List AV} (hs : 0 < sz) (h : xs.length * (by' + 1) ≤ 1099511627776) : ∃ b, apV sz by' xs (.vec sz .exact []) = some b ∧ Sl' sz b xs := by
  cases xs with
  | nil => exact ⟨_, rfl, .inr (.inl rfl)⟩
  | cons x xs => exact ⟨_, by rw [apV_exact (by simpa using h) hs, List.nil_append], .inl rfl⟩
theorem clone_call {a : AV} {es : List (Int × Int)} (ha : Sl 2 a (es.map ed)) (hl : es.length < 2 ^ 30) : ∃ b, callB cx D 0 155 [a] [] = some (b, []) ∧ Sl' 2 b (es.map ed) := by
  obtain ⟨b, hb, hb'⟩ := apV_empty (sz := 2) (by' := 16) (xs := es.map ed) (by decide) (by rw [List.length_map]; omega)
  rcases ha with rfl | rfl | ⟨rfl, he⟩
  · rw [c155]
    rcases hb' with rfl | rfl | ⟨rfl, h0⟩ <;> simp -implicitDefEqProofs (maxDischargeDepth := 4) only [go_sem, ↓reduceIte, Nat.reduceLT, Nat.reduceAdd, Nat.reduceMul, Nat.reduceSub, Nat.reduceEqDiff, Nat.reduceLeDiff, Nat.reduceBEq, reduceCtorEq, Int.reduceLT, Int.reduceLE, Int.reduceEq, Int.reduceNe, Nat.reducePow, sl_eql_vn, sl_eql_nn, sl64, Option.isSome_some, hb] <;> exact ⟨_, rfl, by simp [Sl', *]⟩
  · rw [c155]
    rcases hb' with rfl | rfl | ⟨rfl, h0⟩ <;> simp -implicitDefEqProofs (maxDischargeDepth := 4) only [go_sem, ↓reduceIte, Nat.reduceLT, Nat.reduceAdd, Nat.reduceMul, Nat.reduceSub, Nat.reduceEqDiff, Nat.reduceLeDiff, Nat.reduceBEq, reduceCtorEq, Int.reduceLT, Int.reduceLE, Int.reduceEq, Int.reduceNe, Nat.reducePow, sl_eql_vn, sl_eql_nn, sl64, Option.isSome_some, hb] <;> exact ⟨_, rfl, by simp [Sl', *]⟩
  · rw [c155]
    simp -implicitDefEqProofs (maxDischargeDepth := 4) only [go_sem, ↓reduceIte, Nat.reduceLT, Nat.reduceAdd, Nat.reduceMul, Nat.reduceSub, Nat.reduceEqDiff, Nat.reduceLeDiff, Nat.reduceBEq, reduceCtorEq, Int.reduceLT, Int.reduceLE, Int.reduceEq, Int.reduceNe, Nat.reducePow, he, sl_eql_vn, sl_eql_nn, sl64, Option.isSome_some]
    exact ⟨_, rfl, by simp [Sl']⟩

theorem Sl'.frz {sz n : Nat} {a : AV} {els : List AV} {H : Hp} (h : Sl' sz a els) : Abs.frz n H a = a := by
  rcases h with rfl | rfl | ⟨rfl, _⟩ <;> rfl
theorem clone_ok {a : AV} {es : List (Int × Int)} (ha : Sl 2 a (es.map ed)) (hl : es.length < 2 ^ 30) : ∃ b, pcall D 155 [a] = some b ∧ Sl' 2 b (es.map ed) := by
  obtain ⟨b, h1, h2⟩ := clone_call ha hl
  refine ⟨b, ?_, h2⟩
  rw [pcall_eq (v := b) (H' := []) (by rw [List.map_cons, List.map_nil, ha.cl2]; exact h1), h2.frz]
/-- a node's edges, its payload's, too -/
def edg (x : Nd) : List (Int × Int) := x.es ++ if x.chan then [(x.pt, x.ps)] else []
theorem edges_call {x : Nd} (hx : NdOk x) (hl : x.es.length < 2 ^ 20) : ∃ b H', callB cx D 0 117 [.agg (nodeC x)] [] = some (b, H') ∧ Sl 2 b ((edg x).map ed) := by
  have hs : Sl 2 x.nx (x.es.map ed) := hx
  obtain ⟨b, h1, h2⟩ := clone_ok hs (by omega)
  cases hc : x.chan with
  | false =>
    have he : edg x = x.es := by simp [edg, hc]
    rw [he, c117]
    rcases h2 with rfl | rfl | ⟨rfl, h0⟩ <;> simp -implicitDefEqProofs (maxDischargeDepth := 4) only [go_sem, ↓reduceIte, Nat.reduceLT, Nat.reduceAdd, Nat.reduceMul, Nat.reduceSub, Nat.reduceEqDiff, Nat.reduceLeDiff, Nat.reduceBEq, reduceCtorEq, Int.reduceLT, Int.reduceLE, Int.reduceEq, Int.reduceNe, Nat.reducePow, elAt_eq, stV_eq, cellsB_cells, hp_get_r, hp_get_r0, hp_get_l, hp_set_r, hp_set_r0, hp_set_l, hp_one, hp_ne, List.drop_succ_cons, List.drop_zero, List.take_succ_cons, List.take_zero, hs.shr, hs.shut1, hc, h1, hs.drp] <;> exact ⟨_, _, rfl, by simp [Sl, *]⟩
  | true =>
    have he : (edg x).map ed = x.es.map ed ++ [ed (x.pt, x.ps)] := by simp [edg, hc]
    have hlen : ((x.es.map ed).length + (0 + 1)) * (16 + 1) ≤ 1099511627776 := by rw [List.length_map]; omega
    have a1 : ∀ y : AV, apV 2 16 [y] (.vec 2 .own (x.es.map ed)) = some (.vec 2 .own (x.es.map ed ++ [y])) := fun y => apV_own hlen (by decide)
    have a2 : ∀ y : AV, apV 2 16 [y] (.vec 2 .exact (x.es.map ed)) = some (.vec 2 .own (x.es.map ed ++ [y])) := fun y => apV_exact hlen (by decide)
    rw [he, c117]
    rcases h2 with rfl | rfl | ⟨rfl, h0⟩ <;> simp -implicitDefEqProofs (maxDischargeDepth := 4) only [go_sem, ↓reduceIte, Nat.reduceLT, Nat.reduceAdd, Nat.reduceMul, Nat.reduceSub, Nat.reduceEqDiff, Nat.reduceLeDiff, Nat.reduceBEq, reduceCtorEq, Int.reduceLT, Int.reduceLE, Int.reduceEq, Int.reduceNe, Nat.reducePow, elAt_eq, stV_eq, cellsB_cells, hp_get_r, hp_get_r0, hp_get_l, hp_set_r, hp_set_r0, hp_set_l, hp_one, hp_ne, List.drop_succ_cons, List.drop_zero, List.take_succ_cons, List.take_zero, hs.shr, hs.shut1, hc, h1, hs.drp, a1, a2] <;> exact ⟨_, _, rfl, by simp [Sl, *]⟩
theorem edges_ok {x : Nd} (hx : NdOk x) (hl : x.es.length < 2 ^ 20) : ∃ b, pcall D 117 [.agg (nodeC x)] = some b ∧ Sl 2 b ((edg x).map ed) := by
  have hs : Sl 2 x.nx (x.es.map ed) := hx
  obtain ⟨b, H', h1, h2⟩ := edges_call hx hl
  refine ⟨b, ?_, h2⟩
  have hf : Abs.frz 0 H' b = b := by rcases h2 with rfl | rfl | ⟨rfl, _⟩ <;> rfl
  rw [pcall_eq (v := b) (H' := H') (by rw [List.map_cons, List.map_nil, show Abs.cl2 (.agg (nodeC x)) = .agg ((nodeC x).map Abs.cl0) from rfl]; simp only [List.map_cons, List.map_nil, cl0_lit, hs.cl0]; exact h1), hf]
/-- what is asked of a node's shape -/
def frm (k : Int) : Int × Int × Bool × Bool :=
  if k = 0 then (0, 0, false, true) else if k = 1 then (1, 1, true, false) else if k = 2 then (1, 1, true, false) else if k = 3 then (1, 8, false, false) else if k = 4 then (1, 8, false, false) else (1, 1, false, true)
theorem build248 (a b : Int) (c d : Bool) : abuild cx.T 248 [(0, iv a), (1, iv b), (2, bv c), (3, bv d)] = some (.agg [iv a, iv b, bv c, bv d]) := nr (by kernel_rfl)
theorem ze249 : zeroT cx.T 249 = some (24, .agg [iv 0, iv 0, bv false, bv false, iv 0, iv 0, bv false, bv false, iv 0, iv 0, bv false, bv false, iv 0, iv 0, bv false, bv false, iv 0, iv 0, bv false, bv false, iv 0, iv 0, bv false, bv false]) := nr (by kernel_rfl)
abbrev formsC : List AV := [iv 0, iv 0, bv false, bv true, iv 1, iv 1, bv true, bv false, iv 1, iv 1, bv true, bv false, iv 1, iv 8, bv false, bv false, iv 1, iv 8, bv false, bv false, iv 1, iv 1, bv false, bv true]
theorem build249 : abuild cx.T 249 [(0, .agg [iv 0, iv 0, bv false, bv true]), (1, .agg [iv 1, iv 1, bv true, bv false]), (2, .agg [iv 1, iv 1, bv true, bv false]), (3, .agg [iv 1, iv 8, bv false, bv false]), (4, .agg [iv 1, iv 8, bv false, bv false]), (5, .agg [iv 1, iv 1, bv false, bv true])] = some (.agg formsC) := nr (by kernel_rfl)
theorem forms_call : ∃ H', callB cx D 0 152 [] [] = some (.agg formsC, H') := by
  rw [c152]
  simp -implicitDefEqProofs (maxDischargeDepth := 4) only [go_sem, ↓reduceIte, Nat.reduceLT, Nat.reduceAdd, Nat.reduceMul, Nat.reduceSub, Nat.reduceEqDiff, Nat.reduceLeDiff, Nat.reduceBEq, reduceCtorEq, Int.reduceLT, Int.reduceLE, Int.reduceEq, Int.reduceNe, Nat.reducePow, elAt_eq, stV_eq, cellsB_cells, hp_get_r, hp_get_r0, hp_get_l, hp_set_r, hp_set_r0, hp_set_l, hp_one, hp_ne, List.drop_succ_cons, List.drop_zero, List.take_succ_cons, List.take_zero, build248, build249, ze249, Nat.lt_irrefl, Nat.le_refl]
  exact ⟨_, rfl⟩
theorem forms_ok : pcall D 152 [] = some (.agg formsC) := by
  obtain ⟨H', h⟩ := forms_call
  rw [pcall_eq (vs := []) (v := .agg formsC) (H' := H') (by rw [List.map_nil]; exact h)]
  simp only [Abs.frz, Abs.frz1, List.map_cons, List.map_nil, Abs.frz0, Abs.cl0]
theorem inB_iff {a b : Int} : inB a b = true ↔ 0 ≤ a ∧ a ≤ b := by simp [inB]
theorem forms_at {k : Int} (h : inB k 5 = true) : aindex cx.T 249 (.agg formsC) (iv k) = some (.agg [iv (frm k).1, iv (frm k).2.1, bv (frm k).2.2.1, bv (frm k).2.2.2]) := by
  rw [inB_iff] at h
  have : k = 0 ∨ k = 1 ∨ k = 2 ∨ k = 3 ∨ k = 4 ∨ k = 5 := by omega
  rcases this with rfl | rfl | rfl | rfl | rfl | rfl <;> exact nr (by kernel_rfl)
theorem pair_eql {t : TypeId} (ht : eqT cx.T t = some [false, false]) (a b c d : Int) : abin cx.T .eql t (.agg [iv a, iv b]) (.agg [iv c, iv d]) = some (bv (decide (a = c) && decide (b = d))) :=
  b_aeql ht (by simp [cellsEq, cellEq, BEq.beq])
theorem pair_neq {t : TypeId} (ht : eqT cx.T t = some [false, false]) (a b c d : Int) : abin cx.T .neq t (.agg [iv a, iv b]) (.agg [iv c, iv d]) = some (bv (!(decide (a = c) && decide (b = d)))) :=
  b_aneq ht (by simp [cellsEq, cellEq, BEq.beq])
theorem nbeq (a b : Nat) : Nat.beq a b = decide (a = b) := by rw [Bool.eq_iff_iff]; simp
def shp (x : Nd) : Bool := inB x.kind 5 && !(decide ((x.es.length : Int) < (frm x.kind).1) || decide ((frm x.kind).2.1 < (x.es.length : Int))) && inB x.prio 1000 && !((frm x.kind).2.2.2 && decide (0 < x.prio)) &&
  !(x.chan && !(frm x.kind).2.2.1 || !x.chan && !(decide (x.pt = 0) && decide (x.ps = 0))) && !(edg x).any wide
theorem build63 : abuild cx.T 63 [] = some (.agg [iv 0, iv 0]) := nr (by kernel_rfl)
theorem eqt63 : eqT cx.T 63 = some [false, false] := nr (by kernel_rfl)
theorem eqt61 : eqT cx.T 61 = some [false, false] := nr (by kernel_rfl)
theorem frm_le (k : Int) : (frm k).2.1 ≤ 8 := by
  unfold frm
  repeat' split
  all_goals decide
theorem shaped_call {x : Nd} (hx : NdOk x) : ∃ H', callB cx D 0 116 [.agg (nodeC x)] [] = some (bv (shp x), H') := by
  have hs : Sl 2 x.nx (x.es.map ed) := hx
  have hed := fun h => edges_ok hx (show x.es.length < 2 ^ 20 from h)
  have hbl : x.es.length ≤ 8 → (edg x).length < 2 ^ 40 := by unfold edg; split <;> simp <;> omega
  unfold shp
  generalize edg x = es' at *
  obtain ⟨k, p, c, pt, ps, es, nx⟩ := x
  dsimp only [nodeC] at hs hed hbl ⊢
  cases h0 : inB k 5 with
  | false =>
    rw [c116]
    simp -implicitDefEqProofs (maxDischargeDepth := 4) only [go_sem, ↓reduceIte, Nat.reduceLT, Nat.reduceAdd, Nat.reduceMul, Nat.reduceSub, Nat.reduceEqDiff, Nat.reduceLeDiff, Nat.reduceBEq, reduceCtorEq, Int.reduceLT, Int.reduceLE, Int.reduceEq, Int.reduceNe, Nat.reducePow, elAt_eq, stV_eq, cellsB_cells, hp_get_r, hp_get_r0, hp_get_l, hp_set_r, hp_set_r0, hp_set_l, hp_one, hp_ne, List.drop_succ_cons, List.drop_zero, List.take_succ_cons, List.take_zero, hs.shr, hs.shut1, hs.drp, within_ok, h0, u_not]
    exact ⟨_, rfl⟩
  | true =>
    have hf := forms_at h0
    have h8 := frm_le k
    generalize frm k = F at *
    obtain ⟨f1, f2, f3, f4⟩ := F
    dsimp only at h8 hf ⊢
    have hpn := pair_neq eqt63 pt ps 0 0
    rw [c116]
    by_cases h1 : (es.length : Int) < f1
    · simp -implicitDefEqProofs (maxDischargeDepth := 4) only [go_sem, ↓reduceIte, Nat.reduceLT, Nat.reduceAdd, Nat.reduceMul, Nat.reduceSub, Nat.reduceEqDiff, Nat.reduceLeDiff, Nat.reduceBEq, reduceCtorEq, Int.reduceLT, Int.reduceLE, Int.reduceEq, Int.reduceNe, Nat.reducePow, elAt_eq, stV_eq, cellsB_cells, hp_get_r, hp_get_r0, hp_get_l, hp_set_r, hp_set_r0, hp_set_l, hp_one, hp_ne, List.drop_succ_cons, List.drop_zero, List.take_succ_cons, List.take_zero, hs.shr, hs.shut1, hs.shut0, hs.drp, hs.notOwn, hs.fitA, within_ok, h0, u_not, forms_ok, hf, elP_Sl hs, alen_sl hs, List.length_map, layB_res, nbeq, Nat.le_refl, Nat.zero_le, h1]
      exact ⟨_, rfl⟩
    by_cases h2 : f2 < (es.length : Int)
    · simp -implicitDefEqProofs (maxDischargeDepth := 4) only [go_sem, ↓reduceIte, Nat.reduceLT, Nat.reduceAdd, Nat.reduceMul, Nat.reduceSub, Nat.reduceEqDiff, Nat.reduceLeDiff, Nat.reduceBEq, reduceCtorEq, Int.reduceLT, Int.reduceLE, Int.reduceEq, Int.reduceNe, Nat.reducePow, elAt_eq, stV_eq, cellsB_cells, hp_get_r, hp_get_r0, hp_get_l, hp_set_r, hp_set_r0, hp_set_l, hp_one, hp_ne, List.drop_succ_cons, List.drop_zero, List.take_succ_cons, List.take_zero, hs.shr, hs.shut1, hs.shut0, hs.drp, hs.notOwn, hs.fitA, within_ok, h0, u_not, forms_ok, hf, elP_Sl hs, alen_sl hs, List.length_map, layB_res, nbeq, Nat.le_refl, Nat.zero_le, h1, h2]
      exact ⟨_, rfl⟩
    obtain ⟨b, hb, hbs⟩ := hed (by omega)
    obtain ⟨G, hG⟩ := contains_call (ro := 0) (H := [.cells 6 66 [.agg [iv k, iv p, bv c, iv pt, iv ps, nx]], .cells 4 248 [.agg [iv f1, iv f2, bv f3, bv f4]]]) (Nat.zero_le _) hbs (hbl (by omega))
    cases h3 : inB p 1000 with
    | false =>
      simp -implicitDefEqProofs (maxDischargeDepth := 4) only [go_sem, ↓reduceIte, Nat.reduceLT, Nat.reduceAdd, Nat.reduceMul, Nat.reduceSub, Nat.reduceEqDiff, Nat.reduceLeDiff, Nat.reduceBEq, reduceCtorEq, Int.reduceLT, Int.reduceLE, Int.reduceEq, Int.reduceNe, Nat.reducePow, elAt_eq, stV_eq, cellsB_cells, hp_get_r, hp_get_r0, hp_get_l, hp_set_r, hp_set_r0, hp_set_l, hp_one, hp_ne, List.drop_succ_cons, List.drop_zero, List.take_succ_cons, List.take_zero, hs.shr, hs.shut1, hs.shut0, hs.drp, hs.notOwn, hs.fitA, within_ok, h0, u_not, forms_ok, hf, elP_Sl hs, alen_sl hs, List.length_map, layB_res, nbeq, Nat.le_refl, Nat.zero_le, h1, h2, h3]
      exact ⟨_, rfl⟩
    | true =>
    by_cases h6 : (decide (pt = 0) && decide (ps = 0)) = true
    · by_cases h5 : 0 < p
      · cases f4 <;> cases c <;> cases f3 <;> simp -implicitDefEqProofs (maxDischargeDepth := 4) only [go_sem, ↓reduceIte, Nat.reduceLT, Nat.reduceAdd, Nat.reduceMul, Nat.reduceSub, Nat.reduceEqDiff, Nat.reduceLeDiff, Nat.reduceBEq, reduceCtorEq, Int.reduceLT, Int.reduceLE, Int.reduceEq, Int.reduceNe, Nat.reducePow, elAt_eq, stV_eq, cellsB_cells, hp_get_r, hp_get_r0, hp_get_l, hp_set_r, hp_set_r0, hp_set_l, hp_one, hp_ne, List.drop_succ_cons, List.drop_zero, List.take_succ_cons, List.take_zero, hs.shr, hs.shut1, hs.shut0, hs.drp, hs.notOwn, hs.fitA, within_ok, h0, u_not, forms_ok, hf, elP_Sl hs, alen_sl hs, List.length_map, layB_res, nbeq, Nat.le_refl, Nat.zero_le, h1, h2, h3, h5, build63, hpn, h6, hb, hbs.shr, hbs.notOwn, hbs.drp, hG] <;> exact ⟨_, rfl⟩
      · cases f4 <;> cases c <;> cases f3 <;> simp -implicitDefEqProofs (maxDischargeDepth := 4) only [go_sem, ↓reduceIte, Nat.reduceLT, Nat.reduceAdd, Nat.reduceMul, Nat.reduceSub, Nat.reduceEqDiff, Nat.reduceLeDiff, Nat.reduceBEq, reduceCtorEq, Int.reduceLT, Int.reduceLE, Int.reduceEq, Int.reduceNe, Nat.reducePow, elAt_eq, stV_eq, cellsB_cells, hp_get_r, hp_get_r0, hp_get_l, hp_set_r, hp_set_r0, hp_set_l, hp_one, hp_ne, List.drop_succ_cons, List.drop_zero, List.take_succ_cons, List.take_zero, hs.shr, hs.shut1, hs.shut0, hs.drp, hs.notOwn, hs.fitA, within_ok, h0, u_not, forms_ok, hf, elP_Sl hs, alen_sl hs, List.length_map, layB_res, nbeq, Nat.le_refl, Nat.zero_le, h1, h2, h3, h5, build63, hpn, h6, hb, hbs.shr, hbs.notOwn, hbs.drp, hG] <;> exact ⟨_, rfl⟩
    · rw [Bool.not_eq_true] at h6
      by_cases h5 : 0 < p
      · cases f4 <;> cases c <;> cases f3 <;> simp -implicitDefEqProofs (maxDischargeDepth := 4) only [go_sem, ↓reduceIte, Nat.reduceLT, Nat.reduceAdd, Nat.reduceMul, Nat.reduceSub, Nat.reduceEqDiff, Nat.reduceLeDiff, Nat.reduceBEq, reduceCtorEq, Int.reduceLT, Int.reduceLE, Int.reduceEq, Int.reduceNe, Nat.reducePow, elAt_eq, stV_eq, cellsB_cells, hp_get_r, hp_get_r0, hp_get_l, hp_set_r, hp_set_r0, hp_set_l, hp_one, hp_ne, List.drop_succ_cons, List.drop_zero, List.take_succ_cons, List.take_zero, hs.shr, hs.shut1, hs.shut0, hs.drp, hs.notOwn, hs.fitA, within_ok, h0, u_not, forms_ok, hf, elP_Sl hs, alen_sl hs, List.length_map, layB_res, nbeq, Nat.le_refl, Nat.zero_le, h1, h2, h3, h5, build63, hpn, h6, hb, hbs.shr, hbs.notOwn, hbs.drp, hG] <;> exact ⟨_, rfl⟩
      · cases f4 <;> cases c <;> cases f3 <;> simp -implicitDefEqProofs (maxDischargeDepth := 4) only [go_sem, ↓reduceIte, Nat.reduceLT, Nat.reduceAdd, Nat.reduceMul, Nat.reduceSub, Nat.reduceEqDiff, Nat.reduceLeDiff, Nat.reduceBEq, reduceCtorEq, Int.reduceLT, Int.reduceLE, Int.reduceEq, Int.reduceNe, Nat.reducePow, elAt_eq, stV_eq, cellsB_cells, hp_get_r, hp_get_r0, hp_get_l, hp_set_r, hp_set_r0, hp_set_l, hp_one, hp_ne, List.drop_succ_cons, List.drop_zero, List.take_succ_cons, List.take_zero, hs.shr, hs.shut1, hs.shut0, hs.drp, hs.notOwn, hs.fitA, within_ok, h0, u_not, forms_ok, hf, elP_Sl hs, alen_sl hs, List.length_map, layB_res, nbeq, Nat.le_refl, Nat.zero_le, h1, h2, h3, h5, build63, hpn, h6, hb, hbs.shr, hbs.notOwn, hbs.drp, hG] <;> exact ⟨_, rfl⟩
end Go.Abs.Tab

/- Nodes: the document's shape and open. -/
set_option linter.unusedVariables false
namespace Go.Abs.Tab
open Go.Gr
@[go_sem] theorem res_three {cx : Cx} {fr : PT} {H : Hp} (a b c : Tmp) : resAll cx fr H [.tmp a, .tmp b, .tmp c] = some (.tup [drp (fr.get a), drp (fr.get b), drp (fr.get c)], H) := nr rfl
/-- what a loop leaves, as a function of what it is come to with -/
theorem skol {α β : Type} [Nonempty β] {p : α → Prop} {q : α → β → Prop} (h : ∀ a, p a → ∃ b, q a b) : ∃ f : α → β, ∀ a, p a → q a (f a) := by
  classical
  refine ⟨fun a => if ha : p a then (h a ha).choose else Classical.choice inferInstance, fun a ha => ?_⟩
  simp only [ha, dif_pos]
  exact (h a ha).choose_spec
theorem pcall_node {x : Nd} (hx : NdOk x) {g : FuncId} {v : AV} {H' : Hp} (h : callB cx D 0 g [.agg (nodeC x)] [] = some (v, H')) (hv : Abs.frz 0 H' v = v) : pcall D g [.agg (nodeC x)] = some v := by
  have hs : Sl 2 x.nx (x.es.map ed) := hx
  rw [pcall_eq (v := v) (H' := H') (by rw [List.map_cons, List.map_nil, show Abs.cl2 (.agg (nodeC x)) = .agg ((nodeC x).map Abs.cl0) from rfl]; simp only [List.map_cons, List.map_nil, cl0_lit, hs.cl0]; exact h), hv]
theorem shaped_ok {x : Nd} (hx : NdOk x) : pcall D 116 [.agg (nodeC x)] = some (bv (shp x)) := by
  obtain ⟨H', h⟩ := shaped_call hx
  exact pcall_node hx h rfl
def bnd (k : Int) : Int × Int × Bool :=
  if k = 0 then (0, 0, true) else if k = 1 ∨ k = 2 ∨ k = 5 then (1, 1, true) else if k = 3 ∨ k = 4 then (1, 8, true) else (0, 0, false)
theorem bounds_call {ro : Nat} {H : Hp} (k : Int) : callB cx D ro 157 [iv k] H = some (.tup [iv (bnd k).1, iv (bnd k).2.1, bv (bnd k).2.2], H) := by
  unfold bnd
  rw [c157]
  by_cases h0 : k = 0
  · simp -implicitDefEqProofs (maxDischargeDepth := 4) only [go_sem, ↓reduceIte, Nat.reduceLT, Nat.reduceAdd, Nat.reduceMul, Nat.reduceSub, Nat.reduceEqDiff, Nat.reduceLeDiff, Nat.reduceBEq, reduceCtorEq, Int.reduceLT, Int.reduceLE, Int.reduceEq, Int.reduceNe, Nat.reducePow, h0]
  by_cases h1 : k = 1
  · simp -implicitDefEqProofs (maxDischargeDepth := 4) only [go_sem, ↓reduceIte, Nat.reduceLT, Nat.reduceAdd, Nat.reduceMul, Nat.reduceSub, Nat.reduceEqDiff, Nat.reduceLeDiff, Nat.reduceBEq, reduceCtorEq, Int.reduceLT, Int.reduceLE, Int.reduceEq, Int.reduceNe, Nat.reducePow, h0, h1]
  by_cases h2 : k = 2
  · simp -implicitDefEqProofs (maxDischargeDepth := 4) only [go_sem, ↓reduceIte, Nat.reduceLT, Nat.reduceAdd, Nat.reduceMul, Nat.reduceSub, Nat.reduceEqDiff, Nat.reduceLeDiff, Nat.reduceBEq, reduceCtorEq, Int.reduceLT, Int.reduceLE, Int.reduceEq, Int.reduceNe, Nat.reducePow, h0, h1, h2]
  by_cases h5 : k = 5
  · simp -implicitDefEqProofs (maxDischargeDepth := 4) only [go_sem, ↓reduceIte, Nat.reduceLT, Nat.reduceAdd, Nat.reduceMul, Nat.reduceSub, Nat.reduceEqDiff, Nat.reduceLeDiff, Nat.reduceBEq, reduceCtorEq, Int.reduceLT, Int.reduceLE, Int.reduceEq, Int.reduceNe, Nat.reducePow, h0, h1, h2, h5]
  by_cases h3 : k = 3
  · simp -implicitDefEqProofs (maxDischargeDepth := 4) only [go_sem, ↓reduceIte, Nat.reduceLT, Nat.reduceAdd, Nat.reduceMul, Nat.reduceSub, Nat.reduceEqDiff, Nat.reduceLeDiff, Nat.reduceBEq, reduceCtorEq, Int.reduceLT, Int.reduceLE, Int.reduceEq, Int.reduceNe, Nat.reducePow, h0, h1, h2, h5, h3]
  by_cases h4 : k = 4
  · simp -implicitDefEqProofs (maxDischargeDepth := 4) only [go_sem, ↓reduceIte, Nat.reduceLT, Nat.reduceAdd, Nat.reduceMul, Nat.reduceSub, Nat.reduceEqDiff, Nat.reduceLeDiff, Nat.reduceBEq, reduceCtorEq, Int.reduceLT, Int.reduceLE, Int.reduceEq, Int.reduceNe, Nat.reducePow, h0, h1, h2, h5, h3, h4]
  · simp -implicitDefEqProofs (maxDischargeDepth := 4) only [go_sem, ↓reduceIte, Nat.reduceLT, Nat.reduceAdd, Nat.reduceMul, Nat.reduceSub, Nat.reduceEqDiff, Nat.reduceLeDiff, Nat.reduceBEq, reduceCtorEq, Int.reduceLT, Int.reduceLE, Int.reduceEq, Int.reduceNe, Nat.reducePow, h0, h1, h2, h5, h3, h4]
theorem bounds_ok (k : Int) : pcall D 157 [iv k] = some (.tup [iv (bnd k).1, iv (bnd k).2.1, bv (bnd k).2.2]) := by
  exact pcall_eq (v := .tup [iv (bnd k).1, iv (bnd k).2.1, bv (bnd k).2.2]) (H' := []) (bounds_call k)

theorem at_ed {a : AV} {es : List (Int × Int)} (ha : Sl 2 a (es.map ed)) {i : Nat} (hi : i < es.length) : aindexAddr cx.T 64 a (iv i) = some (.vp (ed (es.getD i (0, 0))) 0) := by
  rw [aindexAddr_sl ha sl64 (by rw [List.length_map]; omega) rfl, get_ed hi]
theorem wide_iff {e : Int × Int} : wide e = true ↔ e.2 < 0 ∨ 1000 < e.2 := by
  simp only [wide, inB, Bool.not_eq_true', Bool.and_eq_false_iff, decide_eq_false_iff_not]; omega

theorem shape_loop {k p pt ps : Int} {c : Bool} {nx : AV} {es : List (Int × Int)} (hs : Sl 2 nx (es.map ed)) (hl : es.length < 2 ^ 40) {G : Hp} (hG : G[0]? = some (.cells 6 66 [.agg [iv k, iv p, bv c, iv pt, iv ps, nx]])) :
    ∀ (m i : Nat) (fr : PT), es.length - i = m → i ≤ es.length → fr.get 1 = .ptr 0 0 0 → fr.get 6 = iv i →
    ∃ e fr', D.loop 0 120 102 l120_0 fr G = some (e, fr', G) ∧ fr'.get 1 = .ptr 0 0 0 ∧ (if (es.drop i).any wide = true then e = .ret ∧ fr'.get 2 = bv false else e = .exit 0)
  | 0, i, fr, hm, hi, h1, h6 => by
    have hn : ¬ ((i : Int) < (es.length : Int)) := by omega
    rw [dl120_0]
    simp -implicitDefEqProofs (maxDischargeDepth := 4) only [go_sem, ↓reduceIte, Nat.reduceLT, Nat.reduceAdd, Nat.reduceMul, Nat.reduceSub, Nat.reduceEqDiff, Nat.reduceLeDiff, Nat.reduceBEq, reduceCtorEq, Int.reduceLT, Int.reduceLE, Int.reduceEq, Int.reduceNe, Nat.reducePow, elAt_eq, stV_eq, cellsB_cells, hp_get_r, hp_get_r0, hp_get_l, hp_set_r, hp_set_r0, hp_set_l, hp_one, hp_ne, List.drop_succ_cons, List.drop_zero, List.take_succ_cons, List.take_zero, h1, h6, hG, hs.shr, elP_Sl hs, alen_sl hs, List.length_map, hn]
    refine ⟨_, _, rfl, by simp -implicitDefEqProofs (maxDischargeDepth := 4) only [go_sem, ↓reduceIte, Nat.reduceLT, Nat.reduceAdd, Nat.reduceMul, Nat.reduceSub, Nat.reduceEqDiff, Nat.reduceLeDiff, Nat.reduceBEq, reduceCtorEq, Int.reduceLT, Int.reduceLE, Int.reduceEq, Int.reduceNe, Nat.reducePow, h1], ?_⟩
    rw [List.drop_eq_nil_of_le (by omega)]
    simp
  | m + 1, i, fr, hm, hi, h1, h6 => by
    have hn : ((i : Int) < (es.length : Int)) := by omega
    have e1 := at_ed hs (show i < es.length by omega)
    have e3 : wrapK .i64 ((i : Int) + 1) = ((i + 1 : Nat) : Int) := by rw [wrapK_i64 (by omega) (by omega)]; rfl
    rw [dl120_0, drop_ed (show i < es.length by omega), List.any_cons]
    cases hw : wide (es.getD i (0, 0)) with
    | true =>
      rw [wide_iff] at hw
      by_cases h0 : (es.getD i (0, 0)).2 < 0
      · simp -implicitDefEqProofs (maxDischargeDepth := 4) only [go_sem, ↓reduceIte, Nat.reduceLT, Nat.reduceAdd, Nat.reduceMul, Nat.reduceSub, Nat.reduceEqDiff, Nat.reduceLeDiff, Nat.reduceBEq, reduceCtorEq, Int.reduceLT, Int.reduceLE, Int.reduceEq, Int.reduceNe, Nat.reducePow, elAt_eq, stV_eq, cellsB_cells, hp_get_r, hp_get_r0, hp_get_l, hp_set_r, hp_set_r0, hp_set_l, hp_one, hp_ne, List.drop_succ_cons, List.drop_zero, List.take_succ_cons, List.take_zero, h1, h6, hG, hs.shr, elP_Sl hs, alen_sl hs, List.length_map, hn, e1, h0]
        exact ⟨_, _, rfl, by simp -implicitDefEqProofs (maxDischargeDepth := 4) only [go_sem, ↓reduceIte, Nat.reduceLT, Nat.reduceAdd, Nat.reduceMul, Nat.reduceSub, Nat.reduceEqDiff, Nat.reduceLeDiff, Nat.reduceBEq, reduceCtorEq, Int.reduceLT, Int.reduceLE, Int.reduceEq, Int.reduceNe, Nat.reducePow, h1], rfl, by simp -implicitDefEqProofs (maxDischargeDepth := 4) only [go_sem, ↓reduceIte, Nat.reduceLT, Nat.reduceAdd, Nat.reduceMul, Nat.reduceSub, Nat.reduceEqDiff, Nat.reduceLeDiff, Nat.reduceBEq, reduceCtorEq, Int.reduceLT, Int.reduceLE, Int.reduceEq, Int.reduceNe, Nat.reducePow]⟩
      · have hb : 1000 < (es.getD i (0, 0)).2 := by omega
        simp -implicitDefEqProofs (maxDischargeDepth := 4) only [go_sem, ↓reduceIte, Nat.reduceLT, Nat.reduceAdd, Nat.reduceMul, Nat.reduceSub, Nat.reduceEqDiff, Nat.reduceLeDiff, Nat.reduceBEq, reduceCtorEq, Int.reduceLT, Int.reduceLE, Int.reduceEq, Int.reduceNe, Nat.reducePow, elAt_eq, stV_eq, cellsB_cells, hp_get_r, hp_get_r0, hp_get_l, hp_set_r, hp_set_r0, hp_set_l, hp_one, hp_ne, List.drop_succ_cons, List.drop_zero, List.take_succ_cons, List.take_zero, h1, h6, hG, hs.shr, elP_Sl hs, alen_sl hs, List.length_map, hn, e1, h0, hb]
        exact ⟨_, _, rfl, by simp -implicitDefEqProofs (maxDischargeDepth := 4) only [go_sem, ↓reduceIte, Nat.reduceLT, Nat.reduceAdd, Nat.reduceMul, Nat.reduceSub, Nat.reduceEqDiff, Nat.reduceLeDiff, Nat.reduceBEq, reduceCtorEq, Int.reduceLT, Int.reduceLE, Int.reduceEq, Int.reduceNe, Nat.reducePow, h1], rfl, by simp -implicitDefEqProofs (maxDischargeDepth := 4) only [go_sem, ↓reduceIte, Nat.reduceLT, Nat.reduceAdd, Nat.reduceMul, Nat.reduceSub, Nat.reduceEqDiff, Nat.reduceLeDiff, Nat.reduceBEq, reduceCtorEq, Int.reduceLT, Int.reduceLE, Int.reduceEq, Int.reduceNe, Nat.reducePow]⟩
    | false =>
      have hw' : ¬ ((es.getD i (0, 0)).2 < 0 ∨ 1000 < (es.getD i (0, 0)).2) := fun h => by rw [← wide_iff, hw] at h; cases h
      have h0 : ¬ (es.getD i (0, 0)).2 < 0 := fun h => hw' (.inl h)
      have hb : ¬ 1000 < (es.getD i (0, 0)).2 := fun h => hw' (.inr h)
      simp -implicitDefEqProofs (maxDischargeDepth := 4) only [go_sem, ↓reduceIte, Nat.reduceLT, Nat.reduceAdd, Nat.reduceMul, Nat.reduceSub, Nat.reduceEqDiff, Nat.reduceLeDiff, Nat.reduceBEq, reduceCtorEq, Int.reduceLT, Int.reduceLE, Int.reduceEq, Int.reduceNe, Nat.reducePow, elAt_eq, stV_eq, cellsB_cells, hp_get_r, hp_get_r0, hp_get_l, hp_set_r, hp_set_r0, hp_set_l, hp_one, hp_ne, List.drop_succ_cons, List.drop_zero, List.take_succ_cons, List.take_zero, h1, h6, hG, hs.shr, elP_Sl hs, alen_sl hs, List.length_map, hn, e1, h0, hb, e3]
      exact shape_loop hs hl hG m (i + 1) _ (by omega) (by omega) (by simp -implicitDefEqProofs (maxDischargeDepth := 4) only [go_sem, ↓reduceIte, Nat.reduceLT, Nat.reduceAdd, Nat.reduceMul, Nat.reduceSub, Nat.reduceEqDiff, Nat.reduceLeDiff, Nat.reduceBEq, reduceCtorEq, Int.reduceLT, Int.reduceLE, Int.reduceEq, Int.reduceNe, Nat.reducePow, h1]) (by simp -implicitDefEqProofs (maxDischargeDepth := 4) only [go_sem, ↓reduceIte, Nat.reduceLT, Nat.reduceAdd, Nat.reduceMul, Nat.reduceSub, Nat.reduceEqDiff, Nat.reduceLeDiff, Nat.reduceBEq, reduceCtorEq, Int.reduceLT, Int.reduceLE, Int.reduceEq, Int.reduceNe, Nat.reducePow])
def shp2 (x : Nd) : Bool := (bnd x.kind).2.2 && !(decide ((x.es.length : Int) < (bnd x.kind).1) || decide ((bnd x.kind).2.1 < (x.es.length : Int))) && !(decide (x.prio < 0) || decide (1000 < x.prio)) && !(x.es.any wide) &&
  !((decide (x.kind = 0) || decide (x.kind = 5)) && !decide (x.prio = 0)) &&
  (if x.chan then (decide (x.kind = 1) || decide (x.kind = 2)) && (decide (0 ≤ x.ps) && decide (x.ps ≤ 1000)) else decide (x.pt = 0) && decide (x.ps = 0))
theorem bnd_le (k : Int) : (bnd k).2.1 ≤ 8 := by
  unfold bnd
  repeat' split
  all_goals decide
theorem shape_call {x : Nd} (hx : NdOk x) : ∃ H', callB cx D 0 120 [.agg (nodeC x)] [] = some (bv (shp2 x), H') := by
  have hs : Sl 2 x.nx (x.es.map ed) := hx
  unfold shp2
  obtain ⟨k, p, c, pt, ps, es, nx⟩ := x
  dsimp only [nodeC] at hs ⊢
  have hbk := bounds_ok k
  have h8 := bnd_le k
  generalize bnd k = F at *
  obtain ⟨f1, f2, f3⟩ := F
  dsimp only at h8 hbk ⊢
  rw [c120]
  cases f3 with
  | false =>
    simp -implicitDefEqProofs (maxDischargeDepth := 4) only [go_sem, ↓reduceIte, Nat.reduceLT, Nat.reduceAdd, Nat.reduceMul, Nat.reduceSub, Nat.reduceEqDiff, Nat.reduceLeDiff, Nat.reduceBEq, reduceCtorEq, Int.reduceLT, Int.reduceLE, Int.reduceEq, Int.reduceNe, Nat.reducePow, elAt_eq, stV_eq, cellsB_cells, hp_get_r, hp_get_r0, hp_get_l, hp_set_r, hp_set_r0, hp_set_l, hp_one, hp_ne, List.drop_succ_cons, List.drop_zero, List.take_succ_cons, List.take_zero, hs.shr, hs.shut1, hs.shut0, hs.drp, hs.notOwn, hs.fitA, u_not, elP_Sl hs, alen_sl hs, List.length_map, hbk]
    exact ⟨_, rfl⟩
  | true =>
  by_cases h1 : (es.length : Int) < f1
  · simp -implicitDefEqProofs (maxDischargeDepth := 4) only [go_sem, ↓reduceIte, Nat.reduceLT, Nat.reduceAdd, Nat.reduceMul, Nat.reduceSub, Nat.reduceEqDiff, Nat.reduceLeDiff, Nat.reduceBEq, reduceCtorEq, Int.reduceLT, Int.reduceLE, Int.reduceEq, Int.reduceNe, Nat.reducePow, elAt_eq, stV_eq, cellsB_cells, hp_get_r, hp_get_r0, hp_get_l, hp_set_r, hp_set_r0, hp_set_l, hp_one, hp_ne, List.drop_succ_cons, List.drop_zero, List.take_succ_cons, List.take_zero, hs.shr, hs.shut1, hs.shut0, hs.drp, hs.notOwn, hs.fitA, u_not, elP_Sl hs, alen_sl hs, List.length_map, hbk, h1]
    exact ⟨_, rfl⟩
  by_cases h2 : f2 < (es.length : Int)
  · simp -implicitDefEqProofs (maxDischargeDepth := 4) only [go_sem, ↓reduceIte, Nat.reduceLT, Nat.reduceAdd, Nat.reduceMul, Nat.reduceSub, Nat.reduceEqDiff, Nat.reduceLeDiff, Nat.reduceBEq, reduceCtorEq, Int.reduceLT, Int.reduceLE, Int.reduceEq, Int.reduceNe, Nat.reducePow, elAt_eq, stV_eq, cellsB_cells, hp_get_r, hp_get_r0, hp_get_l, hp_set_r, hp_set_r0, hp_set_l, hp_one, hp_ne, List.drop_succ_cons, List.drop_zero, List.take_succ_cons, List.take_zero, hs.shr, hs.shut1, hs.shut0, hs.drp, hs.notOwn, hs.fitA, u_not, elP_Sl hs, alen_sl hs, List.length_map, hbk, h1, h2]
    exact ⟨_, rfl⟩
  by_cases h3 : p < 0
  · simp -implicitDefEqProofs (maxDischargeDepth := 4) only [go_sem, ↓reduceIte, Nat.reduceLT, Nat.reduceAdd, Nat.reduceMul, Nat.reduceSub, Nat.reduceEqDiff, Nat.reduceLeDiff, Nat.reduceBEq, reduceCtorEq, Int.reduceLT, Int.reduceLE, Int.reduceEq, Int.reduceNe, Nat.reducePow, elAt_eq, stV_eq, cellsB_cells, hp_get_r, hp_get_r0, hp_get_l, hp_set_r, hp_set_r0, hp_set_l, hp_one, hp_ne, List.drop_succ_cons, List.drop_zero, List.take_succ_cons, List.take_zero, hs.shr, hs.shut1, hs.shut0, hs.drp, hs.notOwn, hs.fitA, u_not, elP_Sl hs, alen_sl hs, List.length_map, hbk, h1, h2, h3]
    exact ⟨_, rfl⟩
  by_cases h4 : 1000 < p
  · simp -implicitDefEqProofs (maxDischargeDepth := 4) only [go_sem, ↓reduceIte, Nat.reduceLT, Nat.reduceAdd, Nat.reduceMul, Nat.reduceSub, Nat.reduceEqDiff, Nat.reduceLeDiff, Nat.reduceBEq, reduceCtorEq, Int.reduceLT, Int.reduceLE, Int.reduceEq, Int.reduceNe, Nat.reducePow, elAt_eq, stV_eq, cellsB_cells, hp_get_r, hp_get_r0, hp_get_l, hp_set_r, hp_set_r0, hp_set_l, hp_one, hp_ne, List.drop_succ_cons, List.drop_zero, List.take_succ_cons, List.take_zero, hs.shr, hs.shut1, hs.shut0, hs.drp, hs.notOwn, hs.fitA, u_not, elP_Sl hs, alen_sl hs, List.length_map, hbk, h1, h2, h3, h4]
    exact ⟨_, rfl⟩
  have hL : ∀ fr : PT, (fr.get 1 = .ptr 0 0 0 ∧ fr.get 6 = iv 0) → ∃ fr', D.loop 0 120 102 l120_0 fr [.cells 6 66 [.agg [iv k, iv p, bv c, iv pt, iv ps, nx]]] = some (if es.any wide = true then .ret else .exit 0, fr', [.cells 6 66 [.agg [iv k, iv p, bv c, iv pt, iv ps, nx]]]) ∧ fr'.get 1 = .ptr 0 0 0 ∧ (es.any wide = true → fr'.get 2 = bv false) := by
    intro fr hfr
    obtain ⟨e, fr', q1, q2, q3⟩ := shape_loop (k := k) (p := p) (pt := pt) (ps := ps) (c := c) hs (show es.length < 2 ^ 40 by omega) (G := [.cells 6 66 [.agg [iv k, iv p, bv c, iv pt, iv ps, nx]]]) rfl es.length 0 fr (by omega) (by omega) hfr.1 hfr.2
    rw [List.drop_zero] at q3
    refine ⟨fr', ?_, q2, fun h => by rw [if_pos h] at q3; exact q3.2⟩
    rw [q1]
    split at q3
    · rename_i h; rw [if_pos h, q3.1]
    · rename_i h; rw [if_neg h, q3]
  obtain ⟨F, hF⟩ := skol hL
  have hF1 := fun fr a b => (hF fr ⟨a, b⟩).1
  have hF2 := fun fr a b => (hF fr ⟨a, b⟩).2.1
  have hF3 := fun fr a b => (hF fr ⟨a, b⟩).2.2
  cases hw : es.any wide with
  | true =>
    simp only [hw, if_true, forall_const] at hF1 hF3
    simp -implicitDefEqProofs (maxDischargeDepth := 4) only [go_sem, ↓reduceIte, Nat.reduceLT, Nat.reduceAdd, Nat.reduceMul, Nat.reduceSub, Nat.reduceEqDiff, Nat.reduceLeDiff, Nat.reduceBEq, reduceCtorEq, Int.reduceLT, Int.reduceLE, Int.reduceEq, Int.reduceNe, Nat.reducePow, elAt_eq, stV_eq, cellsB_cells, hp_get_r, hp_get_r0, hp_get_l, hp_set_r, hp_set_r0, hp_set_l, hp_one, hp_ne, List.drop_succ_cons, List.drop_zero, List.take_succ_cons, List.take_zero, hs.shr, hs.shut1, hs.shut0, hs.drp, hs.notOwn, hs.fitA, u_not, elP_Sl hs, alen_sl hs, List.length_map, hbk, h1, h2, h3, h4, x_loop, hF1, hF3]
    exact ⟨_, rfl⟩
  | false =>
    simp only [hw, Bool.false_eq_true, if_false] at hF1
    have hpe := pair_eql eqt63 pt ps 0 0
    cases d0 : decide (k = 0) with
    | true =>
      cases dp : decide (p = 0) with
      | false =>
        simp -implicitDefEqProofs (maxDischargeDepth := 4) only [go_sem, ↓reduceIte, Nat.reduceLT, Nat.reduceAdd, Nat.reduceMul, Nat.reduceSub, Nat.reduceEqDiff, Nat.reduceLeDiff, Nat.reduceBEq, reduceCtorEq, Int.reduceLT, Int.reduceLE, Int.reduceEq, Int.reduceNe, Nat.reducePow, elAt_eq, stV_eq, cellsB_cells, hp_get_r, hp_get_r0, hp_get_l, hp_set_r, hp_set_r0, hp_set_l, hp_one, hp_ne, List.drop_succ_cons, List.drop_zero, List.take_succ_cons, List.take_zero, hs.shr, hs.shut1, hs.shut0, hs.drp, hs.notOwn, hs.fitA, u_not, elP_Sl hs, alen_sl hs, List.length_map, hbk, h1, h2, h3, h4, x_loop, build63, hF1, hF2, d0, dp]
        exact ⟨_, rfl⟩
      | true =>
        have k1 : decide (k = 1) = false := by simp at d0 ⊢; omega
        have k2 : decide (k = 2) = false := by simp at d0 ⊢; omega
        cases c with
        | false =>
          simp -implicitDefEqProofs (maxDischargeDepth := 4) only [go_sem, ↓reduceIte, Nat.reduceLT, Nat.reduceAdd, Nat.reduceMul, Nat.reduceSub, Nat.reduceEqDiff, Nat.reduceLeDiff, Nat.reduceBEq, reduceCtorEq, Int.reduceLT, Int.reduceLE, Int.reduceEq, Int.reduceNe, Nat.reducePow, elAt_eq, stV_eq, cellsB_cells, hp_get_r, hp_get_r0, hp_get_l, hp_set_r, hp_set_r0, hp_set_l, hp_one, hp_ne, List.drop_succ_cons, List.drop_zero, List.take_succ_cons, List.take_zero, hs.shr, hs.shut1, hs.shut0, hs.drp, hs.notOwn, hs.fitA, u_not, elP_Sl hs, alen_sl hs, List.length_map, hbk, h1, h2, h3, h4, x_loop, build63, hF1, hF2, d0, dp, hpe]
          exact ⟨_, rfl⟩
        | true =>
          simp -implicitDefEqProofs (maxDischargeDepth := 4) only [go_sem, ↓reduceIte, Nat.reduceLT, Nat.reduceAdd, Nat.reduceMul, Nat.reduceSub, Nat.reduceEqDiff, Nat.reduceLeDiff, Nat.reduceBEq, reduceCtorEq, Int.reduceLT, Int.reduceLE, Int.reduceEq, Int.reduceNe, Nat.reducePow, elAt_eq, stV_eq, cellsB_cells, hp_get_r, hp_get_r0, hp_get_l, hp_set_r, hp_set_r0, hp_set_l, hp_one, hp_ne, List.drop_succ_cons, List.drop_zero, List.take_succ_cons, List.take_zero, hs.shr, hs.shut1, hs.shut0, hs.drp, hs.notOwn, hs.fitA, u_not, elP_Sl hs, alen_sl hs, List.length_map, hbk, h1, h2, h3, h4, x_loop, build63, hF1, hF2, d0, dp, k1, k2]
          exact ⟨_, rfl⟩
    | false =>
      cases d5 : decide (k = 5) with
      | true =>
        cases dp : decide (p = 0) with
        | false =>
          simp -implicitDefEqProofs (maxDischargeDepth := 4) only [go_sem, ↓reduceIte, Nat.reduceLT, Nat.reduceAdd, Nat.reduceMul, Nat.reduceSub, Nat.reduceEqDiff, Nat.reduceLeDiff, Nat.reduceBEq, reduceCtorEq, Int.reduceLT, Int.reduceLE, Int.reduceEq, Int.reduceNe, Nat.reducePow, elAt_eq, stV_eq, cellsB_cells, hp_get_r, hp_get_r0, hp_get_l, hp_set_r, hp_set_r0, hp_set_l, hp_one, hp_ne, List.drop_succ_cons, List.drop_zero, List.take_succ_cons, List.take_zero, hs.shr, hs.shut1, hs.shut0, hs.drp, hs.notOwn, hs.fitA, u_not, elP_Sl hs, alen_sl hs, List.length_map, hbk, h1, h2, h3, h4, x_loop, build63, hF1, hF2, d0, d5, dp]
          exact ⟨_, rfl⟩
        | true =>
          have k1 : decide (k = 1) = false := by simp at d5 ⊢; omega
          have k2 : decide (k = 2) = false := by simp at d5 ⊢; omega
          cases c with
          | false =>
            simp -implicitDefEqProofs (maxDischargeDepth := 4) only [go_sem, ↓reduceIte, Nat.reduceLT, Nat.reduceAdd, Nat.reduceMul, Nat.reduceSub, Nat.reduceEqDiff, Nat.reduceLeDiff, Nat.reduceBEq, reduceCtorEq, Int.reduceLT, Int.reduceLE, Int.reduceEq, Int.reduceNe, Nat.reducePow, elAt_eq, stV_eq, cellsB_cells, hp_get_r, hp_get_r0, hp_get_l, hp_set_r, hp_set_r0, hp_set_l, hp_one, hp_ne, List.drop_succ_cons, List.drop_zero, List.take_succ_cons, List.take_zero, hs.shr, hs.shut1, hs.shut0, hs.drp, hs.notOwn, hs.fitA, u_not, elP_Sl hs, alen_sl hs, List.length_map, hbk, h1, h2, h3, h4, x_loop, build63, hF1, hF2, d0, d5, dp, hpe]
            exact ⟨_, rfl⟩
          | true =>
            simp -implicitDefEqProofs (maxDischargeDepth := 4) only [go_sem, ↓reduceIte, Nat.reduceLT, Nat.reduceAdd, Nat.reduceMul, Nat.reduceSub, Nat.reduceEqDiff, Nat.reduceLeDiff, Nat.reduceBEq, reduceCtorEq, Int.reduceLT, Int.reduceLE, Int.reduceEq, Int.reduceNe, Nat.reducePow, elAt_eq, stV_eq, cellsB_cells, hp_get_r, hp_get_r0, hp_get_l, hp_set_r, hp_set_r0, hp_set_l, hp_one, hp_ne, List.drop_succ_cons, List.drop_zero, List.take_succ_cons, List.take_zero, hs.shr, hs.shut1, hs.shut0, hs.drp, hs.notOwn, hs.fitA, u_not, elP_Sl hs, alen_sl hs, List.length_map, hbk, h1, h2, h3, h4, x_loop, build63, hF1, hF2, d0, d5, dp, k1, k2]
            exact ⟨_, rfl⟩
      | false =>
        cases c with
        | false =>
          simp -implicitDefEqProofs (maxDischargeDepth := 4) only [go_sem, ↓reduceIte, Nat.reduceLT, Nat.reduceAdd, Nat.reduceMul, Nat.reduceSub, Nat.reduceEqDiff, Nat.reduceLeDiff, Nat.reduceBEq, reduceCtorEq, Int.reduceLT, Int.reduceLE, Int.reduceEq, Int.reduceNe, Nat.reducePow, elAt_eq, stV_eq, cellsB_cells, hp_get_r, hp_get_r0, hp_get_l, hp_set_r, hp_set_r0, hp_set_l, hp_one, hp_ne, List.drop_succ_cons, List.drop_zero, List.take_succ_cons, List.take_zero, hs.shr, hs.shut1, hs.shut0, hs.drp, hs.notOwn, hs.fitA, u_not, elP_Sl hs, alen_sl hs, List.length_map, hbk, h1, h2, h3, h4, x_loop, build63, hF1, hF2, d0, d5, hpe]
          exact ⟨_, rfl⟩
        | true =>
          cases k1 : decide (k = 1) with
          | true =>
            cases e1 : decide (0 ≤ ps) with
            | false =>
              simp -implicitDefEqProofs (maxDischargeDepth := 4) only [go_sem, ↓reduceIte, Nat.reduceLT, Nat.reduceAdd, Nat.reduceMul, Nat.reduceSub, Nat.reduceEqDiff, Nat.reduceLeDiff, Nat.reduceBEq, reduceCtorEq, Int.reduceLT, Int.reduceLE, Int.reduceEq, Int.reduceNe, Nat.reducePow, elAt_eq, stV_eq, cellsB_cells, hp_get_r, hp_get_r0, hp_get_l, hp_set_r, hp_set_r0, hp_set_l, hp_one, hp_ne, List.drop_succ_cons, List.drop_zero, List.take_succ_cons, List.take_zero, hs.shr, hs.shut1, hs.shut0, hs.drp, hs.notOwn, hs.fitA, u_not, elP_Sl hs, alen_sl hs, List.length_map, hbk, h1, h2, h3, h4, x_loop, build63, hF1, hF2, d0, d5, k1, e1]
              exact ⟨_, rfl⟩
            | true =>
              cases e2 : decide (ps ≤ 1000) with
              | false =>
                simp -implicitDefEqProofs (maxDischargeDepth := 4) only [go_sem, ↓reduceIte, Nat.reduceLT, Nat.reduceAdd, Nat.reduceMul, Nat.reduceSub, Nat.reduceEqDiff, Nat.reduceLeDiff, Nat.reduceBEq, reduceCtorEq, Int.reduceLT, Int.reduceLE, Int.reduceEq, Int.reduceNe, Nat.reducePow, elAt_eq, stV_eq, cellsB_cells, hp_get_r, hp_get_r0, hp_get_l, hp_set_r, hp_set_r0, hp_set_l, hp_one, hp_ne, List.drop_succ_cons, List.drop_zero, List.take_succ_cons, List.take_zero, hs.shr, hs.shut1, hs.shut0, hs.drp, hs.notOwn, hs.fitA, u_not, elP_Sl hs, alen_sl hs, List.length_map, hbk, h1, h2, h3, h4, x_loop, build63, hF1, hF2, d0, d5, k1, e1, e2]
                exact ⟨_, rfl⟩
              | true =>
                simp -implicitDefEqProofs (maxDischargeDepth := 4) only [go_sem, ↓reduceIte, Nat.reduceLT, Nat.reduceAdd, Nat.reduceMul, Nat.reduceSub, Nat.reduceEqDiff, Nat.reduceLeDiff, Nat.reduceBEq, reduceCtorEq, Int.reduceLT, Int.reduceLE, Int.reduceEq, Int.reduceNe, Nat.reducePow, elAt_eq, stV_eq, cellsB_cells, hp_get_r, hp_get_r0, hp_get_l, hp_set_r, hp_set_r0, hp_set_l, hp_one, hp_ne, List.drop_succ_cons, List.drop_zero, List.take_succ_cons, List.take_zero, hs.shr, hs.shut1, hs.shut0, hs.drp, hs.notOwn, hs.fitA, u_not, elP_Sl hs, alen_sl hs, List.length_map, hbk, h1, h2, h3, h4, x_loop, build63, hF1, hF2, d0, d5, k1, e1, e2]
                exact ⟨_, rfl⟩
          | false =>
            cases k2 : decide (k = 2) with
            | true =>
              cases e1 : decide (0 ≤ ps) with
              | false =>
                simp -implicitDefEqProofs (maxDischargeDepth := 4) only [go_sem, ↓reduceIte, Nat.reduceLT, Nat.reduceAdd, Nat.reduceMul, Nat.reduceSub, Nat.reduceEqDiff, Nat.reduceLeDiff, Nat.reduceBEq, reduceCtorEq, Int.reduceLT, Int.reduceLE, Int.reduceEq, Int.reduceNe, Nat.reducePow, elAt_eq, stV_eq, cellsB_cells, hp_get_r, hp_get_r0, hp_get_l, hp_set_r, hp_set_r0, hp_set_l, hp_one, hp_ne, List.drop_succ_cons, List.drop_zero, List.take_succ_cons, List.take_zero, hs.shr, hs.shut1, hs.shut0, hs.drp, hs.notOwn, hs.fitA, u_not, elP_Sl hs, alen_sl hs, List.length_map, hbk, h1, h2, h3, h4, x_loop, build63, hF1, hF2, d0, d5, k1, k2, e1]
                exact ⟨_, rfl⟩
              | true =>
                cases e2 : decide (ps ≤ 1000) with
                | false =>
                  simp -implicitDefEqProofs (maxDischargeDepth := 4) only [go_sem, ↓reduceIte, Nat.reduceLT, Nat.reduceAdd, Nat.reduceMul, Nat.reduceSub, Nat.reduceEqDiff, Nat.reduceLeDiff, Nat.reduceBEq, reduceCtorEq, Int.reduceLT, Int.reduceLE, Int.reduceEq, Int.reduceNe, Nat.reducePow, elAt_eq, stV_eq, cellsB_cells, hp_get_r, hp_get_r0, hp_get_l, hp_set_r, hp_set_r0, hp_set_l, hp_one, hp_ne, List.drop_succ_cons, List.drop_zero, List.take_succ_cons, List.take_zero, hs.shr, hs.shut1, hs.shut0, hs.drp, hs.notOwn, hs.fitA, u_not, elP_Sl hs, alen_sl hs, List.length_map, hbk, h1, h2, h3, h4, x_loop, build63, hF1, hF2, d0, d5, k1, k2, e1, e2]
                  exact ⟨_, rfl⟩
                | true =>
                  simp -implicitDefEqProofs (maxDischargeDepth := 4) only [go_sem, ↓reduceIte, Nat.reduceLT, Nat.reduceAdd, Nat.reduceMul, Nat.reduceSub, Nat.reduceEqDiff, Nat.reduceLeDiff, Nat.reduceBEq, reduceCtorEq, Int.reduceLT, Int.reduceLE, Int.reduceEq, Int.reduceNe, Nat.reducePow, elAt_eq, stV_eq, cellsB_cells, hp_get_r, hp_get_r0, hp_get_l, hp_set_r, hp_set_r0, hp_set_l, hp_one, hp_ne, List.drop_succ_cons, List.drop_zero, List.take_succ_cons, List.take_zero, hs.shr, hs.shut1, hs.shut0, hs.drp, hs.notOwn, hs.fitA, u_not, elP_Sl hs, alen_sl hs, List.length_map, hbk, h1, h2, h3, h4, x_loop, build63, hF1, hF2, d0, d5, k1, k2, e1, e2]
                  exact ⟨_, rfl⟩
            | false =>
              simp -implicitDefEqProofs (maxDischargeDepth := 4) only [go_sem, ↓reduceIte, Nat.reduceLT, Nat.reduceAdd, Nat.reduceMul, Nat.reduceSub, Nat.reduceEqDiff, Nat.reduceLeDiff, Nat.reduceBEq, reduceCtorEq, Int.reduceLT, Int.reduceLE, Int.reduceEq, Int.reduceNe, Nat.reducePow, elAt_eq, stV_eq, cellsB_cells, hp_get_r, hp_get_r0, hp_get_l, hp_set_r, hp_set_r0, hp_set_l, hp_one, hp_ne, List.drop_succ_cons, List.drop_zero, List.take_succ_cons, List.take_zero, hs.shr, hs.shut1, hs.shut0, hs.drp, hs.notOwn, hs.fitA, u_not, elP_Sl hs, alen_sl hs, List.length_map, hbk, h1, h2, h3, h4, x_loop, build63, hF1, hF2, d0, d5, k1, k2]
              exact ⟨_, rfl⟩
end Go.Abs.Tab

/- Nodes: the document's open; both shapes are one. -/
set_option linter.unusedVariables false
namespace Go.Abs.Tab
open Go.Gr
theorem shape_ok {x : Nd} (hx : NdOk x) : pcall D 120 [.agg (nodeC x)] = some (bv (shp2 x)) := by
  obtain ⟨H', h⟩ := shape_call hx
  exact pcall_node hx h rfl
/-- does an edge lead out? -/
def outE (n : Int) (e : Int × Int) : Bool := decide (e.1 < 0) || decide (n ≤ e.1)
def opn (n : Int) (x : Nd) : Bool := x.es.any (outE n) || (x.chan && outE n (x.pt, x.ps))

theorem open_loop {k p pt ps n : Int} {c : Bool} {nx : AV} {es : List (Int × Int)} (hs : Sl 2 nx (es.map ed)) (hl : es.length < 2 ^ 40) {G : Hp} (hG : G[0]? = some (.cells 6 66 [.agg [iv k, iv p, bv c, iv pt, iv ps, nx]])) :
    ∀ (m i : Nat) (fr : PT), es.length - i = m → i ≤ es.length → fr.get 2 = .ptr 0 0 0 → fr.get 1 = iv n → fr.get 5 = iv i →
    ∃ fr', D.loop 0 121 45 l121_0 fr G = some (if (es.drop i).any (outE n) = true then .ret else .exit 0, fr', G) ∧ fr'.get 2 = .ptr 0 0 0 ∧ fr'.get 1 = iv n ∧ ((es.drop i).any (outE n) = true → fr'.get 4 = bv true)
  | 0, i, fr, hm, hi, h2, h1, h5 => by
    have hn : ¬ ((i : Int) < (es.length : Int)) := by omega
    rw [dl121_0, List.drop_eq_nil_of_le (by omega)]
    simp -implicitDefEqProofs (maxDischargeDepth := 4) only [go_sem, ↓reduceIte, Nat.reduceLT, Nat.reduceAdd, Nat.reduceMul, Nat.reduceSub, Nat.reduceEqDiff, Nat.reduceLeDiff, Nat.reduceBEq, reduceCtorEq, Int.reduceLT, Int.reduceLE, Int.reduceEq, Int.reduceNe, Nat.reducePow, elAt_eq, stV_eq, cellsB_cells, hp_get_r, hp_get_r0, hp_get_l, hp_set_r, hp_set_r0, hp_set_l, hp_one, hp_ne, List.drop_succ_cons, List.drop_zero, List.take_succ_cons, List.take_zero, h1, h2, h5, hG, hs.shr, elP_Sl hs, alen_sl hs, List.length_map, hn, List.any_nil]
    exact ⟨_, rfl, by simp -implicitDefEqProofs (maxDischargeDepth := 4) only [go_sem, ↓reduceIte, Nat.reduceLT, Nat.reduceAdd, Nat.reduceMul, Nat.reduceSub, Nat.reduceEqDiff, Nat.reduceLeDiff, Nat.reduceBEq, reduceCtorEq, Int.reduceLT, Int.reduceLE, Int.reduceEq, Int.reduceNe, Nat.reducePow, h2], by simp -implicitDefEqProofs (maxDischargeDepth := 4) only [go_sem, ↓reduceIte, Nat.reduceLT, Nat.reduceAdd, Nat.reduceMul, Nat.reduceSub, Nat.reduceEqDiff, Nat.reduceLeDiff, Nat.reduceBEq, reduceCtorEq, Int.reduceLT, Int.reduceLE, Int.reduceEq, Int.reduceNe, Nat.reducePow, h1], by simp⟩
  | m + 1, i, fr, hm, hi, h2, h1, h5 => by
    have hn : ((i : Int) < (es.length : Int)) := by omega
    have e1 := at_ed hs (show i < es.length by omega)
    have e3 : wrapK .i64 ((i : Int) + 1) = ((i + 1 : Nat) : Int) := by rw [wrapK_i64 (by omega) (by omega)]; rfl
    rw [dl121_0, drop_ed (show i < es.length by omega), List.any_cons]
    by_cases h0 : (es.getD i (0, 0)).1 < 0
    · have hw : outE n (es.getD i (0, 0)) = true := by simp only [outE, h0, decide_true, Bool.true_or]
      rw [hw, Bool.true_or]
      simp -implicitDefEqProofs (maxDischargeDepth := 4) only [go_sem, ↓reduceIte, Nat.reduceLT, Nat.reduceAdd, Nat.reduceMul, Nat.reduceSub, Nat.reduceEqDiff, Nat.reduceLeDiff, Nat.reduceBEq, reduceCtorEq, Int.reduceLT, Int.reduceLE, Int.reduceEq, Int.reduceNe, Nat.reducePow, elAt_eq, stV_eq, cellsB_cells, hp_get_r, hp_get_r0, hp_get_l, hp_set_r, hp_set_r0, hp_set_l, hp_one, hp_ne, List.drop_succ_cons, List.drop_zero, List.take_succ_cons, List.take_zero, h1, h2, h5, hG, hs.shr, elP_Sl hs, alen_sl hs, List.length_map, hn, e1, h0]
      exact ⟨_, rfl, by simp -implicitDefEqProofs (maxDischargeDepth := 4) only [go_sem, ↓reduceIte, Nat.reduceLT, Nat.reduceAdd, Nat.reduceMul, Nat.reduceSub, Nat.reduceEqDiff, Nat.reduceLeDiff, Nat.reduceBEq, reduceCtorEq, Int.reduceLT, Int.reduceLE, Int.reduceEq, Int.reduceNe, Nat.reducePow, h2], by simp -implicitDefEqProofs (maxDischargeDepth := 4) only [go_sem, ↓reduceIte, Nat.reduceLT, Nat.reduceAdd, Nat.reduceMul, Nat.reduceSub, Nat.reduceEqDiff, Nat.reduceLeDiff, Nat.reduceBEq, reduceCtorEq, Int.reduceLT, Int.reduceLE, Int.reduceEq, Int.reduceNe, Nat.reducePow, h1], by simp -implicitDefEqProofs (maxDischargeDepth := 4) only [go_sem, ↓reduceIte, Nat.reduceLT, Nat.reduceAdd, Nat.reduceMul, Nat.reduceSub, Nat.reduceEqDiff, Nat.reduceLeDiff, Nat.reduceBEq, reduceCtorEq, Int.reduceLT, Int.reduceLE, Int.reduceEq, Int.reduceNe, Nat.reducePow, forall_const]⟩
    · by_cases hb : n ≤ (es.getD i (0, 0)).1
      · have hw : outE n (es.getD i (0, 0)) = true := by simp only [outE, hb, decide_true, Bool.or_true]
        rw [hw, Bool.true_or]
        simp -implicitDefEqProofs (maxDischargeDepth := 4) only [go_sem, ↓reduceIte, Nat.reduceLT, Nat.reduceAdd, Nat.reduceMul, Nat.reduceSub, Nat.reduceEqDiff, Nat.reduceLeDiff, Nat.reduceBEq, reduceCtorEq, Int.reduceLT, Int.reduceLE, Int.reduceEq, Int.reduceNe, Nat.reducePow, elAt_eq, stV_eq, cellsB_cells, hp_get_r, hp_get_r0, hp_get_l, hp_set_r, hp_set_r0, hp_set_l, hp_one, hp_ne, List.drop_succ_cons, List.drop_zero, List.take_succ_cons, List.take_zero, h1, h2, h5, hG, hs.shr, elP_Sl hs, alen_sl hs, List.length_map, hn, e1, h0, hb]
        exact ⟨_, rfl, by simp -implicitDefEqProofs (maxDischargeDepth := 4) only [go_sem, ↓reduceIte, Nat.reduceLT, Nat.reduceAdd, Nat.reduceMul, Nat.reduceSub, Nat.reduceEqDiff, Nat.reduceLeDiff, Nat.reduceBEq, reduceCtorEq, Int.reduceLT, Int.reduceLE, Int.reduceEq, Int.reduceNe, Nat.reducePow, h2], by simp -implicitDefEqProofs (maxDischargeDepth := 4) only [go_sem, ↓reduceIte, Nat.reduceLT, Nat.reduceAdd, Nat.reduceMul, Nat.reduceSub, Nat.reduceEqDiff, Nat.reduceLeDiff, Nat.reduceBEq, reduceCtorEq, Int.reduceLT, Int.reduceLE, Int.reduceEq, Int.reduceNe, Nat.reducePow, h1], by simp -implicitDefEqProofs (maxDischargeDepth := 4) only [go_sem, ↓reduceIte, Nat.reduceLT, Nat.reduceAdd, Nat.reduceMul, Nat.reduceSub, Nat.reduceEqDiff, Nat.reduceLeDiff, Nat.reduceBEq, reduceCtorEq, Int.reduceLT, Int.reduceLE, Int.reduceEq, Int.reduceNe, Nat.reducePow, forall_const]⟩
      · have hw : outE n (es.getD i (0, 0)) = false := by simp only [outE, h0, hb, decide_false, Bool.or_self]
        rw [hw, Bool.false_or]
        simp -implicitDefEqProofs (maxDischargeDepth := 4) only [go_sem, ↓reduceIte, Nat.reduceLT, Nat.reduceAdd, Nat.reduceMul, Nat.reduceSub, Nat.reduceEqDiff, Nat.reduceLeDiff, Nat.reduceBEq, reduceCtorEq, Int.reduceLT, Int.reduceLE, Int.reduceEq, Int.reduceNe, Nat.reducePow, elAt_eq, stV_eq, cellsB_cells, hp_get_r, hp_get_r0, hp_get_l, hp_set_r, hp_set_r0, hp_set_l, hp_one, hp_ne, List.drop_succ_cons, List.drop_zero, List.take_succ_cons, List.take_zero, h1, h2, h5, hG, hs.shr, elP_Sl hs, alen_sl hs, List.length_map, hn, e1, h0, hb, e3]
        exact open_loop hs hl hG m (i + 1) _ (by omega) (by omega) (by simp -implicitDefEqProofs (maxDischargeDepth := 4) only [go_sem, ↓reduceIte, Nat.reduceLT, Nat.reduceAdd, Nat.reduceMul, Nat.reduceSub, Nat.reduceEqDiff, Nat.reduceLeDiff, Nat.reduceBEq, reduceCtorEq, Int.reduceLT, Int.reduceLE, Int.reduceEq, Int.reduceNe, Nat.reducePow, h2]) (by simp -implicitDefEqProofs (maxDischargeDepth := 4) only [go_sem, ↓reduceIte, Nat.reduceLT, Nat.reduceAdd, Nat.reduceMul, Nat.reduceSub, Nat.reduceEqDiff, Nat.reduceLeDiff, Nat.reduceBEq, reduceCtorEq, Int.reduceLT, Int.reduceLE, Int.reduceEq, Int.reduceNe, Nat.reducePow, h1]) (by simp -implicitDefEqProofs (maxDischargeDepth := 4) only [go_sem, ↓reduceIte, Nat.reduceLT, Nat.reduceAdd, Nat.reduceMul, Nat.reduceSub, Nat.reduceEqDiff, Nat.reduceLeDiff, Nat.reduceBEq, reduceCtorEq, Int.reduceLT, Int.reduceLE, Int.reduceEq, Int.reduceNe, Nat.reducePow])
theorem open_call {x : Nd} (hx : NdOk x) (hl : x.es.length < 2 ^ 40) (n : Int) : ∃ H', callB cx D 0 121 [.agg (nodeC x), iv n] [] = some (bv (opn n x), H') := by
  have hs : Sl 2 x.nx (x.es.map ed) := hx
  unfold opn
  obtain ⟨k, p, c, pt, ps, es, nx⟩ := x
  dsimp only [nodeC] at hs hl ⊢
  have hL : ∀ fr : PT, (fr.get 2 = .ptr 0 0 0 ∧ fr.get 1 = iv n ∧ fr.get 5 = iv 0) → ∃ fr', D.loop 0 121 45 l121_0 fr [.cells 6 66 [.agg [iv k, iv p, bv c, iv pt, iv ps, nx]]] = some (if es.any (outE n) = true then .ret else .exit 0, fr', [.cells 6 66 [.agg [iv k, iv p, bv c, iv pt, iv ps, nx]]]) ∧ fr'.get 2 = .ptr 0 0 0 ∧ fr'.get 1 = iv n ∧ (es.any (outE n) = true → fr'.get 4 = bv true) := by
    intro fr hfr
    exact open_loop (k := k) (p := p) (pt := pt) (ps := ps) (c := c) hs hl (G := [.cells 6 66 [.agg [iv k, iv p, bv c, iv pt, iv ps, nx]]]) rfl es.length 0 fr (by omega) (by omega) hfr.1 hfr.2.1 hfr.2.2
  obtain ⟨F, hF⟩ := skol hL
  have hF1 := fun fr a b d => (hF fr ⟨a, b, d⟩).1
  have hF2 := fun fr a b d => (hF fr ⟨a, b, d⟩).2.1
  have hF3 := fun fr a b d => (hF fr ⟨a, b, d⟩).2.2.1
  have hF4 := fun fr a b d => (hF fr ⟨a, b, d⟩).2.2.2
  rw [c121]
  cases hw : es.any (outE n) with
  | true =>
    simp only [hw, if_true, forall_const] at hF1 hF4
    simp -implicitDefEqProofs (maxDischargeDepth := 4) only [go_sem, ↓reduceIte, Nat.reduceLT, Nat.reduceAdd, Nat.reduceMul, Nat.reduceSub, Nat.reduceEqDiff, Nat.reduceLeDiff, Nat.reduceBEq, reduceCtorEq, Int.reduceLT, Int.reduceLE, Int.reduceEq, Int.reduceNe, Nat.reducePow, elAt_eq, stV_eq, cellsB_cells, hp_get_r, hp_get_r0, hp_get_l, hp_set_r, hp_set_r0, hp_set_l, hp_one, hp_ne, List.drop_succ_cons, List.drop_zero, List.take_succ_cons, List.take_zero, hs.shr, hs.shut1, hs.shut0, hs.drp, hs.notOwn, hs.fitA, elP_Sl hs, x_loop, hF1, hF4]
    exact ⟨_, rfl⟩
  | false =>
    simp only [hw, Bool.false_eq_true, if_false] at hF1
    unfold outE
    cases c with
    | false =>
      simp -implicitDefEqProofs (maxDischargeDepth := 4) only [go_sem, ↓reduceIte, Nat.reduceLT, Nat.reduceAdd, Nat.reduceMul, Nat.reduceSub, Nat.reduceEqDiff, Nat.reduceLeDiff, Nat.reduceBEq, reduceCtorEq, Int.reduceLT, Int.reduceLE, Int.reduceEq, Int.reduceNe, Nat.reducePow, elAt_eq, stV_eq, cellsB_cells, hp_get_r, hp_get_r0, hp_get_l, hp_set_r, hp_set_r0, hp_set_l, hp_one, hp_ne, List.drop_succ_cons, List.drop_zero, List.take_succ_cons, List.take_zero, hs.shr, hs.shut1, hs.shut0, hs.drp, hs.notOwn, hs.fitA, elP_Sl hs, x_loop, hF1, hF2, hF3]
      exact ⟨_, rfl⟩
    | true =>
      cases h0 : decide (pt < 0) with
      | true =>
        simp -implicitDefEqProofs (maxDischargeDepth := 4) only [go_sem, ↓reduceIte, Nat.reduceLT, Nat.reduceAdd, Nat.reduceMul, Nat.reduceSub, Nat.reduceEqDiff, Nat.reduceLeDiff, Nat.reduceBEq, reduceCtorEq, Int.reduceLT, Int.reduceLE, Int.reduceEq, Int.reduceNe, Nat.reducePow, elAt_eq, stV_eq, cellsB_cells, hp_get_r, hp_get_r0, hp_get_l, hp_set_r, hp_set_r0, hp_set_l, hp_one, hp_ne, List.drop_succ_cons, List.drop_zero, List.take_succ_cons, List.take_zero, hs.shr, hs.shut1, hs.shut0, hs.drp, hs.notOwn, hs.fitA, elP_Sl hs, x_loop, hF1, hF2, hF3, h0]
        exact ⟨_, rfl⟩
      | false =>
        simp -implicitDefEqProofs (maxDischargeDepth := 4) only [go_sem, ↓reduceIte, Nat.reduceLT, Nat.reduceAdd, Nat.reduceMul, Nat.reduceSub, Nat.reduceEqDiff, Nat.reduceLeDiff, Nat.reduceBEq, reduceCtorEq, Int.reduceLT, Int.reduceLE, Int.reduceEq, Int.reduceNe, Nat.reducePow, elAt_eq, stV_eq, cellsB_cells, hp_get_r, hp_get_r0, hp_get_l, hp_set_r, hp_set_r0, hp_set_l, hp_one, hp_ne, List.drop_succ_cons, List.drop_zero, List.take_succ_cons, List.take_zero, hs.shr, hs.shut1, hs.shut0, hs.drp, hs.notOwn, hs.fitA, elP_Sl hs, x_loop, hF1, hF2, hF3, h0]
        exact ⟨_, rfl⟩
theorem open_ok {x : Nd} (hx : NdOk x) (hl : x.es.length < 2 ^ 40) (n : Int) : pcall D 121 [.agg (nodeC x), iv n] = some (bv (opn n x)) := by
  have hs : Sl 2 x.nx (x.es.map ed) := hx
  obtain ⟨H', h⟩ := open_call hx hl n
  rw [pcall_eq (v := bv (opn n x)) (H' := H') (by rw [List.map_cons, List.map_cons, List.map_nil, show Abs.cl2 (.agg (nodeC x)) = .agg ((nodeC x).map Abs.cl0) from rfl, show Abs.cl2 (iv n) = iv n from rfl]; simp only [List.map_cons, List.map_nil, cl0_lit, hs.cl0]; exact h)]
  rfl
/-- both say the same of a node's shape -/
theorem shp_eq (x : Nd) : shp2 x = shp x := by
  obtain ⟨k, p, c, pt, ps, es, nx⟩ := x
  unfold shp shp2 edg
  dsimp only
  by_cases hk : 0 ≤ k ∧ k ≤ 5
  · have : k = 0 ∨ k = 1 ∨ k = 2 ∨ k = 3 ∨ k = 4 ∨ k = 5 := by omega
    have hw : (es ++ if c = true then [(pt, ps)] else []).any wide = (es.any wide || (c && wide (pt, ps))) := by
      cases c <;> simp
    rw [hw]
    generalize es.any wide = A
    generalize (es.length : Int) = L
    rw [Bool.eq_iff_iff]
    rcases this with rfl | rfl | rfl | rfl | rfl | rfl <;> cases c <;> cases A <;> simp [bnd, frm, inB, wide] <;> omega
  · have h1 : inB k 5 = false := by
      cases h : inB k 5 with
      | false => rfl
      | true => rw [inB_iff] at h; exact absurd h hk
    have h2 : (bnd k).2.2 = false := by
      unfold bnd
      rw [if_neg (by omega), if_neg (by omega), if_neg (by omega)]
    rw [h1, h2]
    simp
end Go.Abs.Tab
