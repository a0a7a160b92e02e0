/- '==' on structs and arrays of numbers and bools. -/
import Derived.Test.YtiinagmombigpaaAbs8
namespace Go.Abs

def cellsEqV : List Bool → List Value → List Value → Option Bool
  | [], [], [] => some true
  | t :: ts, a :: as, b :: bs => match cellEq t a b, cellsEqV ts as bs with
    | some x, some y => some (x && y)
    | _, _ => none
  | _, _, _ => none

theorem cellEq_spec {t : Bool} {a b : Value} {r : Bool} (h : cellEq t a b = some r) :
    (t = false ∧ ∃ k x y, a = .int k x ∧ b = .int k y ∧ r = (x == y)) ∨ (t = true ∧ ∃ x y, a = .bool x ∧ b = .bool y ∧ r = (x == y)) := by
  unfold cellEq at h
  split at h
  · split at h
    · rename_i k x k' y hk; subst hk; simp at h; exact .inl ⟨rfl, k, x, y, rfl, rfl, h.symm⟩
    · cases h
  · simp at h; exact .inr ⟨rfl, _, _, rfl, rfl, h.symm⟩
  · cases h

theorem cellsEqV_append : ∀ {k1 k2 : List Bool} {a1 a2 b1 b2 : List Value} {r : Bool}, a1.length = k1.length → b1.length = k1.length → cellsEqV (k1 ++ k2) (a1 ++ a2) (b1 ++ b2) = some r →
    ∃ r1 r2, cellsEqV k1 a1 b1 = some r1 ∧ cellsEqV k2 a2 b2 = some r2 ∧ r = (r1 && r2)
  | [], k2, [], a2, [], b2, r, _, _, h => ⟨true, r, rfl, h, by simp⟩
  | t :: k1, k2, a :: a1, a2, b :: b1, b2, r, ha, hb, h => by
    simp only [List.cons_append, cellsEqV] at h
    split at h
    · rename_i x y hx hy
      simp only [Option.some.injEq] at h
      obtain ⟨r1, r2, h1, h2, h3⟩ := cellsEqV_append (by simpa using ha) (by simpa using hb) hy
      exact ⟨x && r1, r2, by simp [cellsEqV, hx, h1], h2, by rw [← h, h3, Bool.and_assoc]⟩
    · cases h
  | [], _, _ :: _, _, _, _, _, ha, _, _ => by simp at ha
  | [], _, [], _, _ :: _, _, _, _, hb, _ => by simp at hb
  | _ :: _, _, [], _, _, _, _, ha, _, _ => by simp at ha
  | _ :: _, _, _ :: _, _, [], _, _, _, hb, _ => by simp at hb

theorem cellsEqV_length : ∀ {ks : List Bool} {a b : List Value} {r : Bool}, cellsEqV ks a b = some r → a.length = ks.length ∧ b.length = ks.length
  | [], [], [], _, _ => ⟨rfl, rfl⟩
  | t :: ks, a :: as, b :: bs, r, h => by
    simp only [cellsEqV] at h
    split at h
    · rename_i x y hx hy
      obtain ⟨h1, h2⟩ := cellsEqV_length hy
      simp [h1, h2]
    · cases h
  | [], _ :: _, _, _, h => by simp [cellsEqV] at h
  | [], [], _ :: _, _, h => by simp [cellsEqV] at h
  | _ :: _, [], _, _, h => by simp [cellsEqV] at h
  | _ :: _, _ :: _, [], _, h => by simp [cellsEqV] at h

section
variable {P : Program} {w : World}

/-- 'part' of a list of cells -/
def partV (agg : Bool) (l : List Value) : Value := if agg then .agg l.toArray else l.headD undef

theorem run_part {t : TypeId} {u : TypeDesc} {n : Nat} (hu : P.underlying t = some u) (hs : P.cellsOf t = n) (ha : isAggD u = true ∨ n = 1) (xs : Array Value) (off : Nat) (hl : off + n ≤ xs.size) :
    (part t xs off).run P w = .ok (partV (isAggD u) ((xs.toList.drop off).take n)) w := by
  have hi : ∃ i, P.info? t = some i := by
    unfold Program.underlying at hu
    split at hu
    · exact ⟨_, by assumption⟩
    · exact ⟨_, by assumption⟩
    · cases hu
  obtain ⟨i, hi⟩ := hi
  have hsz : i.size = n := by rw [← hs]; simp [Program.cellsOf, hi]
  have hagg : (isAgg t).run P w = .ok (isAggD u) w := by
    simp only [isAgg, Sem.run_bind, run_underlying_of hu, Result.andThen]
    cases u <;> simp [isAggD]
  simp only [part, Sem.run_bind, hagg, Result.andThen]
  cases h : isAggD u with
  | true =>
    simp only [if_true, Sem.run_bind, sizeOf, typeInfo, run_program, Result.andThen, hi, Sem.run_pure, hsz, partV]
    congr 2
    apply Array.ext'
    simp
  | false =>
    simp only [Bool.false_eq_true, if_false, partV]
    rcases ha with ha | ha
    · rw [h] at ha; cases ha
    · subst ha
      have hlt : off < xs.size := by omega
      simp only [Array.getElem?_eq_getElem hlt, Sem.run_pure]
      congr 1
      have : (xs.toList.drop off).take 1 = [xs[off]] := by
        rw [List.take_one, List.head?_drop]
        simp [Array.getElem?_eq_getElem hlt]
      rw [this]; rfl

/-- what the kinds of a type's cells say of '==' -/
def EqOk (P : Program) (t : TypeId) (ks : List Bool) (n : Nat) : Prop :=
  ∃ u, P.underlying t = some u ∧ (isAggD u = true ∨ ks.length = 1) ∧
    ∀ (w : World) (d : Nat), n ≤ d → ∀ (xs ys : List Value) (r : Bool), cellsEqV ks xs ys = some r → (Op.equalIn d t (partV (isAggD u) xs) (partV (isAggD u) ys)).run P w = .ok r w

theorem eqFields_ok (n : Nat) (hrec : ∀ t ks, plainKinds P n t = some ks → EqOk P t ks n) (d : Nat) (hd : n ≤ d) (xs ys : Array Value) : ∀ (fs : List Field) (acc ks : List Bool) (r : Bool),
    plainKinds.plainFields P (plainKinds P n) fs acc = some ks → ∀ (w : World), acc.length ≤ xs.size → acc.length ≤ ys.size → cellsEqV (ks.drop acc.length) (xs.toList.drop acc.length) (ys.toList.drop acc.length) = some r →
    (Op.eqFields d xs ys fs).run P w = .ok r w ∧ acc <+: ks
  | [], acc, ks, r, h, w, hx, hy, he => by
    simp only [plainKinds.plainFields, Option.some.injEq] at h
    subst h
    simp at he
    have : xs.toList.drop acc.length = [] ∧ ys.toList.drop acc.length = [] ∧ r = true := by
      cases h1 : xs.toList.drop acc.length with
      | cons => rw [h1] at he; simp [cellsEqV] at he
      | nil =>
        cases h2 : ys.toList.drop acc.length with
        | cons => rw [h1, h2] at he; simp [cellsEqV] at he
        | nil => rw [h1, h2] at he; simp [cellsEqV] at he; exact ⟨rfl, rfl, he⟩
    obtain ⟨_, _, rfl⟩ := this
    exact ⟨by simp [Op.eqFields], List.prefix_refl _⟩
  | f :: fs, acc, ks, r, h, w, hx, hy, he => by
    simp only [plainKinds.plainFields] at h
    split at h
    · rename_i kf hkf
      split at h
      · rename_i hc
        obtain ⟨hc1, hc2, hc3⟩ := hc
        obtain ⟨u, hu, hagg, hok⟩ := hrec _ _ hkf
        have hpre : (acc ++ kf) <+: ks := by
          have aux : ∀ (fs : List Field) (acc ks : List Bool), plainKinds.plainFields P (plainKinds P n) fs acc = some ks → acc <+: ks := by
            intro fs
            induction fs with
            | nil => intro acc ks h; simp only [plainKinds.plainFields, Option.some.injEq] at h; subst h; exact List.prefix_refl _
            | cons f fs ih =>
              intro acc ks h
              simp only [plainKinds.plainFields] at h
              split at h
              · split at h
                · exact (List.prefix_append _ _).trans (ih _ _ h)
                · cases h
              · cases h
          exact aux fs _ _ h
        obtain ⟨rest, rfl⟩ := hpre
        have hks : (acc ++ kf ++ rest).drop acc.length = kf ++ rest := by rw [List.append_assoc, List.drop_left]
        rw [hks] at he
        obtain ⟨hl1, hl2⟩ := cellsEqV_length he
        simp only [List.length_drop, Array.length_toList, List.length_append] at hl1 hl2
        have e1 : xs.toList.drop acc.length = (xs.toList.drop acc.length).take kf.length ++ xs.toList.drop (acc ++ kf).length := by
          rw [List.length_append, ← List.drop_drop, List.take_append_drop]
        have e2 : ys.toList.drop acc.length = (ys.toList.drop acc.length).take kf.length ++ ys.toList.drop (acc ++ kf).length := by
          rw [List.length_append, ← List.drop_drop, List.take_append_drop]
        rw [e1, e2] at he
        obtain ⟨r1, r2, h1, h2, rfl⟩ := cellsEqV_append (by simp; omega) (by simp; omega) he
        have hp1 := run_part (w := w) hu hc3 hagg xs acc.length (by omega)
        have hp2 := run_part (w := w) hu hc3 hagg ys acc.length (by omega)
        have he1 := hok w d hd _ _ r1 h1
        have hrest := eqFields_ok n hrec d hd xs ys fs (acc ++ kf) (acc ++ kf ++ rest) r2 h w (by simp; omega) (by simp; omega) (by rw [List.drop_left]; exact h2)
        refine ⟨?_, by rw [List.append_assoc]; exact List.prefix_append _ _⟩
        simp only [Op.eqFields, ne_eq, hc1, not_false_eq_true, if_true, Sem.run_bind, hc2, hp1, Result.andThen, hp2, he1]
        cases r1 with
        | true => simpa using hrest.1
        | false => simp
      · cases h
    · cases h

theorem eqElems_ok {e : TypeId} {u : TypeDesc} {kf : List Bool} {i : TypeInfo} (hu : P.underlying e = some u) (hagg : isAggD u = true ∨ kf.length = 1) (hc : P.cellsOf e = kf.length) (d : Nat)
    (hok : ∀ (w : World) (xs ys : List Value) (r : Bool), cellsEqV kf xs ys = some r → (Op.equalIn d e (partV (isAggD u) xs) (partV (isAggD u) ys)).run P w = .ok r w) (k : Option Bool × Unit → Sem Bool) (hk1 : ∀ r, k (some r, ()) = pure r) (hk2 : k (none, ()) = pure true) (xs ys : Array Value) : ∀ (m s : Nat) (r : Bool) (w : World),
    s * kf.length ≤ xs.size → s * kf.length ≤ ys.size →
    cellsEqV (List.replicate m kf).flatten (xs.toList.drop (s * kf.length)) (ys.toList.drop (s * kf.length)) = some r →
    ((Sem.run P (forIn (List.range' s m 1) ((none, ()) : Option Bool × Unit) fun i __s => do
            let a ← part e xs (i * kf.length)
            let b ← part e ys (i * kf.length)
            let c ← Op.equalIn d e a b
            if (!c) = true then pure (ForInStep.done (some false, ())) else pure (ForInStep.yield (none, ()))) w).andThen
      fun a w' => Sem.run P (k a) w') = Result.ok r w
  | 0, s, r, w, hx, hy, h => by
    have : xs.toList.drop (s * kf.length) = [] ∧ ys.toList.drop (s * kf.length) = [] ∧ r = true := by
      simp only [List.replicate_zero, List.flatten_nil] at h
      cases h1 : xs.toList.drop (s * kf.length) with
      | cons => rw [h1] at h; simp [cellsEqV] at h
      | nil =>
        cases h2 : ys.toList.drop (s * kf.length) with
        | cons => rw [h1, h2] at h; simp [cellsEqV] at h
        | nil => rw [h1, h2] at h; simp [cellsEqV] at h; exact ⟨rfl, rfl, h⟩
    obtain ⟨_, _, rfl⟩ := this
    simp [Result.andThen, hk2]
  | m + 1, s, r, w, hx, hy, h => by
    simp only [List.replicate_succ, List.flatten_cons] at h
    obtain ⟨hl1, hl2⟩ := cellsEqV_length h
    simp only [List.length_drop, Array.length_toList, List.length_append] at hl1 hl2
    have es : (s + 1) * kf.length = s * kf.length + kf.length := by rw [Nat.add_mul]; omega
    have e1 : xs.toList.drop (s * kf.length) = (xs.toList.drop (s * kf.length)).take kf.length ++ xs.toList.drop ((s + 1) * kf.length) := by
      rw [es, ← List.drop_drop, List.take_append_drop]
    have e2 : ys.toList.drop (s * kf.length) = (ys.toList.drop (s * kf.length)).take kf.length ++ ys.toList.drop ((s + 1) * kf.length) := by
      rw [es, ← List.drop_drop, List.take_append_drop]
    rw [e1, e2] at h
    obtain ⟨r1, r2, h1, h2, rfl⟩ := cellsEqV_append (by simp; omega) (by simp; omega) h
    have hp1 := run_part (w := w) hu hc hagg xs (s * kf.length) (by omega)
    have hp2 := run_part (w := w) hu hc hagg ys (s * kf.length) (by omega)
    have he1 := hok w _ _ r1 h1
    have hrest := eqElems_ok hu hagg hc d hok k hk1 hk2 xs ys m (s + 1) r2 w (by omega) (by omega) h2 (i := i)
    simp only [List.range'_succ, List.forIn_cons, Sem.run_bind, hp1, Result.andThen, hp2, he1]
    cases r1 with
    | true => simpa [Result.andThen] using hrest
    | false => simp [hk1]

theorem plainKinds_ok : ∀ (n : Nat) (t : TypeId) (ks : List Bool), plainKinds P n t = some ks → EqOk P t ks n
  | 0, t, ks, h => by simp [plainKinds] at h
  | n + 1, t, ks, h => by
    simp only [plainKinds] at h
    split at h
    · rename_i hu
      simp only [Option.some.injEq] at h; subst h
      refine ⟨_, hu, .inr rfl, fun w d hd xs ys r he => ?_⟩
      obtain ⟨d, rfl⟩ : ∃ m, d = m + 1 := ⟨d - 1, by omega⟩
      match xs, ys, he with
      | [a], [b], he =>
        simp only [cellsEqV] at he
        split at he
        · rename_i x y hx hy
          simp only [Option.some.injEq] at he hy; subst he; subst hy
          rcases cellEq_spec hx with ⟨h1, _⟩ | ⟨_, x', y', rfl, rfl, rfl⟩
          · cases h1
          · simpa [partV, isAggD] using equalIn_bool (w := w) d hu x' y'
        · cases he
      | [], _, he | [_], [], he | [_], _ :: _ :: _, he => simp [cellsEqV] at he
      | _ :: _ :: _, ys, he => have := (cellsEqV_length he).1; simp at this
    · rename_i k hu
      simp only [Option.some.injEq] at h; subst h
      refine ⟨_, hu, .inr rfl, fun w d hd xs ys r he => ?_⟩
      obtain ⟨d, rfl⟩ : ∃ m, d = m + 1 := ⟨d - 1, by omega⟩
      match xs, ys, he with
      | [a], [b], he =>
        simp only [cellsEqV] at he
        split at he
        · rename_i x y hx hy
          simp only [Option.some.injEq] at he hy; subst he; subst hy
          rcases cellEq_spec hx with ⟨_, k', x', y', rfl, rfl, rfl⟩ | ⟨h1, _⟩
          · simpa [partV, isAggD] using equalIn_int (w := w) d hu k' x' y'
          · cases h1
        · cases he
      | [], _, he | [_], [], he | [_], _ :: _ :: _, he => simp [cellsEqV] at he
      | _ :: _ :: _, ys, he => have := (cellsEqV_length he).1; simp at this
    · rename_i fs hu
      split at h
      · cases h
      · rename_i hst
        refine ⟨_, hu, .inl rfl, fun w d hd xs ys r he => ?_⟩
        obtain ⟨d, rfl⟩ : ∃ m, d = m + 1 := ⟨d - 1, by omega⟩
        have hf : P.fieldsOf t = fs := by simp [Program.fieldsOf, hu]
        simp only [isAggD, partV, if_true]
        rw [run_equalIn_struct w d t _ _ (by rw [hf]; exact hu) (by simpa using hst), hf]
        exact (eqFields_ok n (plainKinds_ok n) d (by omega) xs.toArray ys.toArray fs.toList [] ks r h w (by simp) (by simp) (by simpa using he)).1
    · rename_i len e hu
      split at h
      · rename_i kf hkf
        split at h
        · rename_i hc
          simp only [Option.some.injEq] at h; subst h
          obtain ⟨u, hue, hagg, hok⟩ := plainKinds_ok n e kf hkf
          refine ⟨_, hu, .inl rfl, fun w d hd xs ys r he => ?_⟩
          obtain ⟨d, rfl⟩ : ∃ m, d = m + 1 := ⟨d - 1, by omega⟩
          have hi : ∃ i, P.info? e = some i := by
            have := hue
            unfold Program.underlying at this
            split at this
            · exact ⟨_, by assumption⟩
            · exact ⟨_, by assumption⟩
            · cases this
          obtain ⟨i, hi⟩ := hi
          have hsz : i.size = kf.length := by rw [← hc]; simp [Program.cellsOf, hi]
          simp only [isAggD, partV, if_true]
          simp only [Op.equalIn, Sem.run_bind, run_underlying_of hu, Result.andThen_ok, sizeOf, typeInfo, run_program, hi, Sem.run_pure, hsz]
          rw [Std.Legacy.Range.forIn_eq_forIn_range', show List.range' ([:len] : Std.Legacy.Range).start ([:len] : Std.Legacy.Range).size ([:len] : Std.Legacy.Range).step = List.range' 0 len 1 from by simp [Std.Legacy.Range.size]]
          exact eqElems_ok (i := i) hue hagg hc d (fun w xs ys r => hok w d (by omega) xs ys r) _ (fun _ => rfl) rfl xs.toArray ys.toArray len 0 r w (by simp) (by simp) (by simpa using he)
        · cases h
      · cases h
    · cases h

/-- '==' and '!=' on structs and arrays of plain cells -/
theorem run_equal_agg {T : TypeId → Option TI} (hT : TOk P T) {t : TypeId} {ti : TI} (ht : T t = some ti) {ks : List Bool} (hk : ti.eqp = some ks) {xs ys : List Value} {r : Bool} (h : cellsEqV ks xs ys = some r) (w : World) :
    (Op.equal t (.agg xs.toArray) (.agg ys.toArray)).run P w = .ok r w ∧ P.eqGuardType P.depth t = false := by
  obtain ⟨i, z, u, _, _, hu, _, _, _, _, _, hq, _⟩ := hT.info ht
  rw [hk] at hq
  split at hq
  · rename_i hc
    simp only [Bool.and_eq_true, Bool.not_eq_true'] at hc
    obtain ⟨u', hu', _, hok⟩ := plainKinds_ok 20 t ks hq.symm
    rw [hu] at hu'
    cases hu'
    have := hok w 10000 (by omega) xs ys r h
    rw [hc.1] at this
    simp only [partV, if_true] at this
    exact ⟨this, hc.2⟩
  · cases hq
end
end Go.Abs
