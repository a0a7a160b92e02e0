/- Copies, maps. -/
import Derived.Test.YtiinagmombigpaaAbs19
import Derived.MapKept
set_option linter.unusedVariables false
set_option linter.unusedSimpArgs false
set_option linter.unnecessarySimpa false
namespace Go.Abs
variable {P : Program} {T : TypeId → Option TI} {imm : Imm} {mu : Mu}

theorem VRels.flat {te : TI} : ∀ {l : List AV} {cs : List Value}, VRels imm mu te.size l cs → (∀ el ∈ l, fit te el = true) → VRs imm mu (l.flatMap cellsOf) cs
  | [], cs, h, _ => by simp [VRels] at h; subst h; simp [VRs]
  | a :: as, cs, h, hf => by
    simp only [VRels] at h
    obtain ⟨c, cs', rfl, h2, h3, h4, h5⟩ := h
    rw [List.flatMap_cons]
    exact (VR_cellsOf (hf a (by simp)) h4).append (VRels.flat h5 fun el hel => hf el (by simp [hel]))

theorem lCopy_ok (hT : TOk P T) {ro : Nat} {g : Gh} {H : Hp} {w : World} {o : Oper} {a : Act} {t : TypeId} {x y : AV} {X Y : Value} {tys : Array TypeId} {ty : TypeId} {args : Array Value} {ef : Eff} (hm : MR g ro H w)
    (ho : (execOp a.eval o).run P w = ((do pure (.value (← Builtin.copy_ tys ty args)) : Sem Next)).run P w)
    (h1 : tys[0]? = some t) (h3 : args[0]? = some X) (h4 : args[1]? = some Y) (hx : VR g.imm g.mu x X) (hy : VR g.imm g.mu y Y) (h : lCopy T ro H t x y = some ef) : OpOk P ro g H w o a ef := by
  unfold lCopy at h
  split at h
  · rename_i n b blk hc
    split at h
    · cases h
    · rename_i hn
      have hro : ro ≤ b := Nat.le_of_not_lt fun e => hn (.inl e)
      cases h
      unfold acopy at hc
      split at hc
      · rename_i e _ b0 i j esz len ht
        have hu := hT.slice ht rfl
        split at hc
        · rename_i te hte
          split at hc
          · rename_i hsz
            split at hc
            · rename_i xs sz el els hxs hb
              split at hc
              · rename_i l hel
                simp only at hc
                split at hc
                · rename_i hcond
                  obtain ⟨hlen, hall⟩ := hcond
                  cases hc
                  have hall' : ∀ el ∈ xs, fit te el = true := List.all_eq_true.1 hall
                  simp only [VR] at hx
                  obtain ⟨B, sz0, hmu, rfl⟩ := hx
                  subst hsz
                  -- the cells that are read
                  have hsrc : ∃ cs : List Value, VRels g.imm g.mu te.size xs cs ∧ (Builtin.lenOf Y).run P w = .ok xs.length w ∧ (Builtin.firstCells te.size (min xs.length len) Y).run P w = .ok (cs.take (min xs.length len * te.size)).toArray w := by
                    rcases items_ok hm hy hxs with ⟨cap, rfl, rfl⟩ | ⟨Bs, os, cap, cs, rfl, h5, h6⟩
                    · exact ⟨[], by simp [VRels], rfl, by simp [Builtin.firstCells]⟩
                    · refine ⟨cs, VRels.mono (Imm.le_refl _) _ (noMu_le _) h5, rfl, ?_⟩
                      refine run_firstCells_some w te.size _ _ _ _ (cs.take (min xs.length len * te.size)) ?_ fun k v hk => ?_
                      · rw [List.length_take, h5.length]
                        exact Nat.min_eq_left (Nat.mul_le_mul_right _ (Nat.min_le_left _ _))
                      · rw [List.getElem?_take] at hk
                        split at hk
                        · rw [addr_add]; exact h6 k v hk
                        · cases hk
                  obtain ⟨cs, s1, s2, s3⟩ := hsrc
                  have s4 := (s1.take (min xs.length len)).flat (te := te) fun el hel => hall' el (List.mem_of_mem_take hel)
                  have s5 : (cs.take (min xs.length len * te.size)).length = min xs.length len * te.size := by
                    rw [List.length_take, s1.length]
                    exact Nat.min_eq_left (Nat.mul_le_mul_right _ (Nat.min_le_left _ _))
                  have s6 : ((xs.take (min xs.length len)).flatMap cellsOf).length = min xs.length len * te.size := by rw [← s4.length, s5]
                  have hset : elSet { size := min xs.length len * te.size, bytes := 0, zero := [], agg := true, d := .other, eqp := none } (.agg l) j (.agg ((xs.take (min xs.length len)).flatMap cellsOf)) =
                      some (.agg (l.take j ++ (xs.take (min xs.length len)).flatMap cellsOf ++ l.drop (j + min xs.length len * te.size))) := by
                    simp [elSet, fit, s6, hlen, cellsOf]
                  have hsr : SR g w (.cell b i j) (.agg ((xs.take (min xs.length len)).flatMap cellsOf)) (.agg (cs.take (min xs.length len * te.size)).toArray) := by
                    refine VR.sr ?_
                    simp only [VR]
                    exact ⟨_, rfl, s4, fun y hy => s1.ones y (List.mem_of_mem_take hy)⟩
                  obtain ⟨B', w', k1, k2, k3, k4, k5, k6, k7⟩ := write_ok (P := P) hm hro hb hel hset hsr
                  rw [hmu] at k1; cases k1
                  refine ⟨⟨goInt ((min xs.length len : Nat) : Int), _, w', g, fun B' => B' = B, ?_, .inl rfl, k3, ?_, ?_, ?_, ?_, ?_⟩, fun t ht => by cases ht⟩
                  · rw [ho]
                    have hs := hT.run_size hte w
                    have hmin : Nat.min xs.length len = min xs.length len := rfl
                    simp only [Builtin.copy_, h1, h3, h4, Sem.run_bind, run_underlying_of hu, Result.andThen, s2, hs, hmin, s3, Sem.run_pure]
                    have : (storeCells ⟨B, i * sz + j, none⟩ (cs.take (min xs.length len * te.size))).run P w = .ok () w' := by simpa [Value.cells] using k2
                    simp only [this, Sem.run_bind, Result.andThen, Sem.run_pure]
                  · have hpb : ∀ blk, putB H (some (b, blk)) = H.set b blk := fun blk => by simp only [putB]; rw [if_neg (by have := lt_of_get hb; omega)]
                    show MR g ro (putB H (some (b, _))) w'
                    rw [hpb]; exact k4
                  · intro t B' hB' e; subst e; rw [k5] at hB'; cases hB'
                  · intro B' l hB' hl e; subst e; rw [k5] at hB'; cases hB'
                  · intro L lr e hl; subst e; obtain ⟨ccs, e, hc⟩ := k6; rw [hc] at hl; cases hl
                  · exact VR.sr (by simp [VR, goInt])
                · cases hc
              · cases hc
            · cases hc
          · cases hc
        · cases hc
      · cases hc
  · cases h

/-! ### keys -/
theorem forIn_all {α : Type} {w : World} : ∀ (l : List α) (f : α → PUnit → Sem (ForInStep PUnit)), (∀ x ∈ l, (f x ⟨⟩).run P w = .ok (.yield ⟨⟩) w) → (forIn l (⟨⟩ : PUnit) f).run P w = .ok ⟨⟩ w
  | [], f, h => rfl
  | x :: l, f, h => by
    rw [List.forIn_cons]
    simp only [Sem.run_bind, h x (by simp), Result.andThen]
    exact forIn_all l f fun y hy => h y (by simp [hy])

theorem forIn_all' {α : Type} {w : World} (l : List α) (f : α → PUnit → Sem (ForInStep PUnit)) (h : ∀ x ∈ l, (f x ⟨⟩).run P w = .ok (.yield ⟨⟩) w) :
    Result.andThen ((forIn l (⟨⟩ : PUnit) f).run P w) (fun a w => (pure () : Sem Unit).run P w) = .ok () w := by
  rw [forIn_all l f h]; rfl

def ChOk (P : Program) (n : Nat) (t : TypeId) (len : Nat) : Prop :=
  ∃ u, P.underlying t = some u ∧ (isAggD u = true ∨ len = 1) ∧ ∀ (w : World) (em : Bool) (d : Nat), n ≤ d → ∀ xs : List Value, xs.length = len → (Instr.checkKey em d t (partV (isAggD u) xs)).run P w = .ok () w

theorem chFields (n : Nat) (hrec : ∀ t ks, plainKinds P n t = some ks → ChOk P n t ks.length) (xs : List Value) (em : Bool) (d : Nat) (hd : n ≤ d) (w : World) : ∀ (fs : List Field) (acc ks : List Bool),
    plainKinds.plainFields P (plainKinds P n) fs acc = some ks → ks.length = xs.length → acc.length ≤ ks.length ∧ ∀ f ∈ fs, f.name ≠ "_" ∧ ∃ v, (part f.type xs.toArray f.offset).run P w = .ok v w ∧ (Instr.checkKey em d f.type v).run P w = .ok () w
  | [], acc, ks, h, hl => by
    simp only [plainKinds.plainFields, Option.some.injEq] at h
    subst h
    exact ⟨Nat.le_refl _, by simp⟩
  | f :: fs, acc, ks, h, hl => by
    simp only [plainKinds.plainFields] at h
    split at h
    · rename_i kf hkf
      split at h
      · rename_i hc
        obtain ⟨hc1, hc2, hc3⟩ := hc
        obtain ⟨u, hu, hagg, hok⟩ := hrec _ _ hkf
        obtain ⟨h1, h2⟩ := chFields n hrec xs em d hd w fs (acc ++ kf) ks h hl
        simp only [List.length_append] at h1
        refine ⟨by omega, fun g hg => ?_⟩
        rcases List.mem_cons.1 hg with rfl | hg
        · refine ⟨hc1, _, run_part (w := w) hu hc3 hagg xs.toArray g.offset (by simp; omega), ?_⟩
          refine hok w em d hd _ ?_
          simp; omega
        · exact h2 g hg
      · cases h
    · cases h

theorem checkKey_ok : ∀ (n : Nat) (t : TypeId) (ks : List Bool), plainKinds P n t = some ks → ChOk P n t ks.length
  | 0, t, ks, h => by simp [plainKinds] at h
  | n + 1, t, ks, h => by
    simp only [plainKinds] at h
    split at h
    · rename_i hu
      simp only [Option.some.injEq] at h; subst h
      refine ⟨_, hu, .inr rfl, fun w em d hd xs hx => ?_⟩
      obtain ⟨d, rfl⟩ : ∃ m, d = m + 1 := ⟨d - 1, by omega⟩
      simp only [Instr.checkKey, Sem.run_bind, run_underlying_of hu, Result.andThen]
      rfl
    · rename_i k hu
      simp only [Option.some.injEq] at h; subst h
      refine ⟨_, hu, .inr rfl, fun w em d hd xs hx => ?_⟩
      obtain ⟨d, rfl⟩ : ∃ m, d = m + 1 := ⟨d - 1, by omega⟩
      simp only [Instr.checkKey, Sem.run_bind, run_underlying_of hu, Result.andThen]
      rfl
    · rename_i fs hu
      split at h
      · cases h
      · rename_i hst
        refine ⟨_, hu, .inl rfl, fun w em d hd xs hx => ?_⟩
        obtain ⟨d, rfl⟩ : ∃ m, d = m + 1 := ⟨d - 1, by omega⟩
        obtain ⟨_, h2⟩ := chFields n (checkKey_ok n) xs em d (by omega) w fs.toList [] ks h hx.symm
        simp only [isAggD, partV, if_true, Instr.checkKey, Sem.run_bind, run_underlying_of hu, Result.andThen]
        rw [← Array.forIn_toList]
        refine forIn_all' fs.toList _ fun f hf => ?_
        obtain ⟨h3, v, h4, h5⟩ := h2 f hf
        simp only [ne_eq, h3, not_false_eq_true, if_true, Sem.run_bind, h4, Result.andThen, h5, Sem.run_pure]
    · rename_i len e hu
      split at h
      · rename_i kf hkf
        split at h
        · rename_i hc
          simp only [Option.some.injEq] at h; subst h
          obtain ⟨u, hue, hagg, hok⟩ := checkKey_ok n e kf hkf
          refine ⟨_, hu, .inl rfl, fun w em d hd xs hx => ?_⟩
          obtain ⟨d, rfl⟩ : ∃ m, d = m + 1 := ⟨d - 1, by omega⟩
          have hi : ∃ i, P.info? e = some i := by
            have := hue
            unfold Program.underlying at this
            split at this
            · exact ⟨_, by assumption⟩
            · exact ⟨_, by assumption⟩
            · cases this
          obtain ⟨i, hi⟩ := hi
          have hsz : i.size = kf.length := by rw [← hc]; simp [Program.cellsOf, hi]
          simp only [List.length_flatten, List.map_replicate, List.sum_replicate_nat] at hx
          simp only [isAggD, partV, if_true, Instr.checkKey, Sem.run_bind, run_underlying_of hu, Result.andThen]
          rw [Std.Legacy.Range.forIn_eq_forIn_range', show List.range' ([:len] : Std.Legacy.Range).start ([:len] : Std.Legacy.Range).size ([:len] : Std.Legacy.Range).step = List.range' 0 len 1 from by simp [Std.Legacy.Range.size]]
          refine forIn_all' _ _ fun k hk => ?_
          have hk' : k < len := by simpa using hk
          have hmul : (k + 1) * kf.length ≤ len * kf.length := Nat.mul_le_mul_right _ hk'
          rw [Nat.add_mul] at hmul
          have hp := run_part (w := w) hue hc hagg xs.toArray (k * kf.length) (by simp; omega)
          have hck := hok w em d (by omega) ((xs.toArray.toList.drop (k * kf.length)).take kf.length) (by simp; omega)
          simp only [Sem.run_bind, sizeOf, typeInfo, run_program, hi, hsz, Sem.run_pure, Result.andThen, hp, hck]
        · cases h
      · cases h
    · cases h

/-! ### entries -/
def MFR (g : Gh) : Option (Nat × AV) → Option (Nat × Value) → Prop
  | none, r => r = none
  | some (i, v), r => ∃ u, r = some (i, u) ∧ VR g.imm noMu v u

theorem findA {kd : IntKind} {kt : TypeId} {g : Gh} {c : Value} : ∀ {es : List (AV × AV)} {mes : List MapEntry} {i : Nat} {r : Option (Nat × AV)}, MapR g es mes → mfind T kt (.lit c) es i = some r →
    (es ≠ [] → ∃ n m, c = .int n m) ∧ ∃ r', Instr.findNow (.int kd) c mes i = some r' ∧ MFR g r r' ∧ ∀ j u, r' = some (j, u) → i ≤ j ∧ ∃ e, mes[j - i]? = some e ∧ e.key = c
  | [], mes, i, r, hm, h => by
    simp only [MapR] at hm; subst hm
    simp only [mfind, Option.some.injEq] at h; subst h
    exact ⟨fun h => absurd rfl h, none, rfl, rfl, fun j u h => by cases h⟩
  | (k', v) :: es, mes, i, r, hm, h => by
    simp only [MapR] at hm
    obtain ⟨e, mes', rfl, h1, h2, h3⟩ := hm
    unfold mfind at h
    have hk : ∀ b, keyEq T kt (.lit c) k' = some b → ∃ k n m, c = .int k n ∧ e.key = .int k m ∧ b = (n == m) := by
      intro b hb
      cases k' with
      | lit b' =>
        simp only [keyEq] at hb
        split at hb
        · rcases cellEq_spec hb with ⟨_, k, n, m, rfl, rfl, rfl⟩ | ⟨h, _⟩
          · exact ⟨k, n, m, rfl, VR_lit h1, rfl⟩
          · cases h
        · cases hb
      | _ => simp [keyEq] at hb
    split at h
    · rename_i hb
      cases h
      obtain ⟨k, n, m, rfl, he, hnm⟩ := hk _ hb
      have hnm : n = m := by simpa using hnm.symm
      subst hnm
      refine ⟨fun _ => ⟨_, _, rfl⟩, some (i, e.val), ?_, ⟨_, rfl, h2⟩, fun j u hj => ?_⟩
      · simp [Instr.findNow, Instr.sameNow, he]
      · cases hj; exact ⟨Nat.le_refl _, e, by simp, he⟩
    · rename_i hb
      obtain ⟨k, n, m, rfl, he, hnm⟩ := hk _ hb
      obtain ⟨_, r', h4, h5, h6⟩ := findA (kd := kd) h3 h
      refine ⟨fun _ => ⟨_, _, rfl⟩, r', ?_, h5, fun j u hj => ?_⟩
      · simp [Instr.findNow, Instr.sameNow, he, ← hnm, h4]
      · obtain ⟨a1, e', a2, a3⟩ := h6 j u hj
        exact ⟨by omega, e', by rw [show j - i = (j - (i + 1)) + 1 by omega]; simpa using a2, a3⟩
    · cases h

theorem cellsEqV_true : ∀ {ks : List Bool} {as bs : List Value}, cellsEqV ks as bs = some true → as = bs ∧ ∀ x ∈ as, (∃ k m, x = .int k m) ∨ ∃ b, x = .bool b
  | [], [], [], _ => ⟨rfl, by simp⟩
  | t :: ks, a :: as, b :: bs, h => by
    simp only [cellsEqV] at h
    split at h
    · rename_i x y hx hy
      simp only [Option.some.injEq, Bool.and_eq_true] at h
      obtain ⟨rfl, rfl⟩ := h
      obtain ⟨rfl, h2⟩ := cellsEqV_true hy
      rcases cellEq_spec hx with ⟨_, k, n, m, rfl, rfl, h3⟩ | ⟨_, n, m, rfl, rfl, h3⟩
      · have h3 : n = m := by simpa using h3.symm
        subst h3
        exact ⟨rfl, fun x hx => by
          rcases List.mem_cons.1 hx with rfl | hx
          · exact .inl ⟨_, _, rfl⟩
          · exact h2 x hx⟩
      · have h3 : n = m := by simpa using h3.symm
        subst h3
        exact ⟨rfl, fun x hx => by
          rcases List.mem_cons.1 hx with rfl | hx
          · exact .inr ⟨_, rfl⟩
          · exact h2 x hx⟩
    · cases h
  | [], _ :: _, _, h => by simp [cellsEqV] at h
  | [], [], _ :: _, h => by simp [cellsEqV] at h
  | _ :: _, [], _, h => by simp [cellsEqV] at h
  | _ :: _, _ :: _, [], h => by simp [cellsEqV] at h

theorem findB (hT : TOk P T) {w : World} {kt : TypeId} {ti : TI} {ks : List Bool} (ht : T kt = some ti) (hq : ti.eqp = some ks) {g : Gh} {l : List AV} {cs : List Value} (hl : VRs g.imm g.mu l cs) :
    ∀ {es : List (AV × AV)} {mes : List MapEntry} {i : Nat} {r : Option (Nat × AV)}, MapR g es mes → mfind T kt (.agg l) es i = some r →
    ∃ r', (Instr.findAsking kt (.agg cs.toArray) mes i).run P w = .ok r' w ∧ MFR g r r' ∧ (∀ e ∈ mes.head?, ∃ cs', e.key = .agg cs') ∧ ∀ j u, r' = some (j, u) → i ≤ j ∧ ∃ e, mes[j - i]? = some e ∧ e.key = .agg cs.toArray ∧ ∀ x ∈ cs, (∃ k m, x = .int k m) ∨ ∃ b, x = .bool b
  | [], mes, i, r, hm, h => by
    simp only [MapR] at hm; subst hm
    simp only [mfind, Option.some.injEq] at h; subst h
    exact ⟨none, rfl, rfl, by simp, fun j u h => by cases h⟩
  | (k', v) :: es, mes, i, r, hm, h => by
    simp only [MapR] at hm
    obtain ⟨e, mes', rfl, h1, h2, h3⟩ := hm
    unfold mfind at h
    have hk : ∀ b, keyEq T kt (.agg l) k' = some b → ∃ cs', e.key = .agg cs'.toArray ∧ cellsEqV ks cs cs' = some b := by
      intro b hb
      cases k' with
      | agg b' =>
        simp only [keyEq] at hb
        rw [ht] at hb
        have : cellsEq ks l b' = some b := by
          split at hb
          · rename_i ks' heq2
            cases heq2
            simp only [Option.some.injEq] at hq
            subst hq; exact hb
          · cases hb
        have h1 := VR.mono (Imm.le_refl _) _ (noMu_le g.mu) h1
        simp only [VR] at h1
        obtain ⟨cs', h4, h5, _⟩ := h1
        exact ⟨cs', h4, cellsEq_V hl h5 this⟩
      | _ => simp [keyEq] at hb
    split at h
    · rename_i hb
      cases h
      obtain ⟨cs', he, hc⟩ := hk _ hb
      have hr := (run_equal_agg hT ht hq hc w).1
      obtain ⟨rfl, h5⟩ := cellsEqV_true hc
      refine ⟨some (i, e.val), ?_, ⟨_, rfl, h2⟩, by simp [he], fun j u hj => ?_⟩
      · simp [Instr.findAsking, he, hr, Result.andThen]
      · cases hj; exact ⟨Nat.le_refl _, e, by simp, he, h5⟩
    · rename_i hb
      obtain ⟨cs', he, hc⟩ := hk _ hb
      have hr := (run_equal_agg hT ht hq hc w).1
      obtain ⟨r', h4, h5, _, h6⟩ := findB hT ht hq hl h3 h
      refine ⟨r', ?_, h5, by simp [he], fun j u hj => ?_⟩
      · simp [Instr.findAsking, he, hr, Result.andThen]; exact h4
      · obtain ⟨a1, e', a2, a3⟩ := h6 j u hj
        exact ⟨by omega, e', by rw [show j - i = (j - (i + 1)) + 1 by omega]; simpa using a2, a3⟩
    · cases h

theorem sameBits_self {x : Value} (h : (∃ k m, x = .int k m) ∨ ∃ b, x = .bool b) (n : Nat) : Instr.sameBits n x x = true := by
  rcases h with ⟨k, m, rfl⟩ | ⟨b, rfl⟩ <;> simp [Instr.sameBits]

theorem checkKey_int {w : World} {kt : TypeId} {kd : IntKind} (hu : P.underlying kt = some (.int kd)) (em : Bool) (d : Nat) (n : IntKind) (m : Int) : (Instr.checkKey em (d + 1) kt (.int n m)).run P w = .ok () w := by
  simp only [Instr.checkKey, Sem.run_bind, run_underlying_of hu, Result.andThen]; rfl

/-- a key is looked for -/
theorem find_ok (hT : TOk P T) {w : World} {kt : TypeId} {g : Gh} {k : AV} {c : Value} {es : List (AV × AV)} {mes : Array MapEntry} {r : Option (Nat × AV)} (em : Bool) (hk : VR g.imm g.mu k c) (hok : keyOk T kt k = true) (hm : MapR g es mes.toList) (h : mfind T kt k es 0 = some r) :
    (Instr.checkKey em 10000 kt c).run P w = .ok () w ∧ ∃ r', (Instr.findKey kt c mes.toList).run P w = .ok r' w ∧ MFR g r r' ∧ ∀ j u, r' = some (j, u) → (Instr.keyThatStays (((mes[j]?).map (·.key)).getD c) c).run P w = .ok c w := by
  unfold keyOk at hok
  split at hok
  · rename_i n m
    split at hok
    · rename_i kd _ ht
      have hu := hT.int ht rfl
      have hc := VR_lit hk
      subst hc
      obtain ⟨_, r', h1, h2, h3⟩ := findA (kd := kd) hm h
      refine ⟨checkKey_int hu em 9999 n m, r', MapKept.run_findKey hu h1, h2, fun j u hj => ?_⟩
      obtain ⟨_, e, h4, h5⟩ := h3 j u hj
      have h4 : mes[j]? = some e := by simpa using h4
      simp only [h4, Option.map_some, Option.getD_some, h5, Instr.keyThatStays, sameBits_self (.inl ⟨n, m, rfl⟩), if_true, Sem.run_pure]
    · cases hok
  · rename_i l
    split at hok
    · rename_i ks ht
      simp only [beq_iff_eq] at hok
      simp only [VR] at hk
      obtain ⟨cs, rfl, h1, _⟩ := hk
      obtain ⟨i0, z0, u, _, _, hu, _, _, _, _, _, hq, _⟩ := hT.info ht
      simp only at hq
      split at hq
      · rename_i hag
        simp only [Bool.and_eq_true] at hag
        obtain ⟨u', hu', _, hck⟩ := checkKey_ok 20 kt ks hq.symm
        rw [hu] at hu'; cases hu'
        have hck := hck w em 10000 (by omega) cs (by rw [hok]; exact h1.length)
        rw [show partV (isAggD u) cs = .agg cs.toArray by simp [partV, hag.1]] at hck
        obtain ⟨r', h2, h3, h4, h5⟩ := findB (w := w) hT ht rfl h1 hm h
        refine ⟨hck, r', ?_, h3, fun j u hj => ?_⟩
        · cases hmes : mes.toList with
          | nil =>
            rw [hmes] at h2
            simp only [Instr.findAsking, Sem.run_pure, Result.ok.injEq, and_true] at h2
            simp [Instr.findKey, run_underlying_of hu, Result.andThen, Instr.findNow, ← h2]
          | cons e es' =>
            rw [hmes] at h2
            obtain ⟨cs', he⟩ := h4 e (by simp [hmes])
            have : Instr.findNow u (.agg cs.toArray) (e :: es') 0 = none := by
              simp only [Instr.findNow, he]
              cases u <;> simp [Instr.sameNow]
            simp only [Instr.findKey, Sem.run_bind, run_underlying_of hu, Result.andThen, this, h2]
        · obtain ⟨_, e, h6, h7, h8⟩ := h5 j u hj
          have h6 : mes[j]? = some e := by simpa using h6
          have hsb : Instr.sameBits 10000 (.agg cs.toArray) (.agg cs.toArray) = true := by
            have aux : ∀ (l : List Value), (∀ x ∈ l, (∃ k m, x = .int k m) ∨ ∃ b, x = .bool b) → ((l.zip l).all fun (x, y) => Instr.sameBits 9999 x y) = true := by
              intro l
              induction l with
              | nil => intro _; rfl
              | cons x l ih =>
                intro hl
                simp only [List.zip_cons_cons, List.all_cons, Bool.and_eq_true]
                exact ⟨sameBits_self (hl x (by simp)) _, ih fun y hy => hl y (by simp [hy])⟩
            have := aux cs h8
            show (cs.toArray.size == cs.toArray.size && (cs.toArray.toList.zip cs.toArray.toList).all fun (x, y) => Instr.sameBits 9999 x y) = true
            simpa using this
          simp only [h6, Option.map_some, Option.getD_some, h7, Instr.keyThatStays, hsb, if_true, Sem.run_pure]
      · cases hq
    · cases hok
  · cases hok

end Go.Abs
