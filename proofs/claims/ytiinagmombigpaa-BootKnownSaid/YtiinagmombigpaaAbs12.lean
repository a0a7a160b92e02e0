/- What is built: structs, arrays, slices. -/
import Derived.Test.YtiinagmombigpaaAbs11
namespace Go.Abs
variable {P : Program} {T : TypeId → Option TI} {imm : Imm} {mu : Mu} {w : World}

theorem one_cells {c : Value} (h : one c) : c.cells = #[c] := by cases c <;> first | rfl | simp [one, Value.oneCell'] at h

theorem VR_one : ∀ {a : AV} {c : Value}, VR imm mu a c → a ≠ .dead → (∀ v, a = .lit v → one v) → aggOf a = none → (∀ l, a ≠ .tup l) → one c
  | .dead, _, _, h, _, _, _ => absurd rfl h
  | .lit v, c, hr, _, hl, _, _ => by rw [VR_lit hr]; exact hl v rfl
  | .ptr .., c, hr, _, _, _, _ => by simp only [VR] at hr; obtain ⟨_, _, _, rfl⟩ := hr; rfl
  | .sl .., c, hr, _, _, _, _ => by simp only [VR] at hr; obtain ⟨_, _, _, _, rfl⟩ := hr; rfl
  | .isl .., c, hr, _, _, _, _ => by simp only [VR] at hr; obtain ⟨_, _, _, rfl⟩ := hr; rfl
  | .vp .., c, hr, _, _, _, _ => by simp only [VR] at hr; obtain ⟨_, _, _, rfl, _⟩ := hr; rfl
  | .vec .., c, hr, _, _, _, _ => by simp only [VR] at hr; obtain ⟨_, _, _, _, rfl, _⟩ := hr; rfl
  | .fn .., c, hr, _, _, _, _ => by simp only [VR] at hr; obtain ⟨_, rfl, _⟩ := hr; rfl
  | .yld _, c, hr, _, _, _, _ => by simp only [VR] at hr; obtain ⟨_, _, _, rfl⟩ := hr; rfl
  | .mp _, c, hr, _, _, _, _ => by simp only [VR] at hr; obtain ⟨_, _, _, rfl⟩ := hr; rfl
  | .agg l, c, _, _, _, h, _ => by simp [aggOf] at h
  | .tup l, c, _, _, _, _, h => absurd rfl (h l)

structure FitOk (ti : TI) (a : AV) (c : Value) : Prop where
  size : c.cells.size = ti.size
  ones : ∀ x ∈ c.cells.toList, one x
  scal : aggOf a = none → c.cells = #[c] ∧ ti.size = 1 ∧ one c ∧ ti.agg = false
  agg : ∀ l, a = .agg l → l.length = ti.size ∧ ti.agg = true

theorem fit_ok {ti : TI} {a : AV} {c : Value} (hf : fit ti a = true) (h : VR imm mu a c) : FitOk ti a c := by
  have sc : aggOf a = none → ti.agg = false → ti.size = 1 → one c → FitOk ti a c := fun h1 h2 h3 h4 =>
    ⟨by rw [one_cells h4, h3]; rfl, fun x hx => by rw [one_cells h4] at hx; simp at hx; rw [hx]; exact h4, fun _ => ⟨one_cells h4, h3, h4, h2⟩, fun l hl => by rw [hl] at h1; simp [aggOf] at h1⟩
  cases a with
  | agg l =>
    simp only [fit, Bool.and_eq_true, beq_iff_eq] at hf
    simp only [VR] at h
    obtain ⟨cs, rfl, h1, h2⟩ := h
    have hl := h1.length
    refine ⟨?_, ?_, ?_, ?_⟩
    · simp [Value.cells]; omega
    · intro x hx; simp [Value.cells] at hx; exact h2 x hx
    · intro h; simp [aggOf] at h
    · intro l' hl'; cases hl'; exact ⟨hf.2, hf.1⟩
  | tup l => simp [fit] at hf
  | dead => simp [fit] at hf
  | lit v =>
    have hv : one v ∧ ti.agg = false ∧ ti.size = 1 := by
      cases v <;> first | (simp [fit] at hf; done) | (simp [fit] at hf; exact ⟨rfl, hf⟩)
    exact sc rfl hv.2.1 hv.2.2 (by rw [VR_lit h]; exact hv.1)
  | ptr => simp [fit] at hf; exact sc rfl hf.1 hf.2 (VR_one h (by simp) (by simp) rfl (by simp))
  | sl => simp [fit] at hf; exact sc rfl hf.1 hf.2 (VR_one h (by simp) (by simp) rfl (by simp))
  | isl => simp [fit] at hf; exact sc rfl hf.1 hf.2 (VR_one h (by simp) (by simp) rfl (by simp))
  | vp => simp [fit] at hf; exact sc rfl hf.1 hf.2 (VR_one h (by simp) (by simp) rfl (by simp))
  | vec => simp [fit] at hf; exact sc rfl hf.1 hf.2 (VR_one h (by simp) (by simp) rfl (by simp))
  | fn => simp [fit] at hf; exact sc rfl hf.1 hf.2 (VR_one h (by simp) (by simp) rfl (by simp))
  | yld => simp [fit] at hf; exact sc rfl hf.1 hf.2 (VR_one h (by simp) (by simp) rfl (by simp))
  | mp => simp [fit] at hf; exact sc rfl hf.1 hf.2 (VR_one h (by simp) (by simp) rfl (by simp))

theorem VR_cellsOf {ti : TI} {a : AV} {c : Value} (hf : fit ti a = true) (h : VR imm mu a c) : VRs imm mu (cellsOf a) c.cells.toList := by
  have hF := fit_ok hf h
  cases ha : aggOf a with
  | some l =>
    rw [aggOf_some ha] at h ⊢
    simp only [VR] at h
    obtain ⟨cs, rfl, h1, _⟩ := h
    simpa [cellsOf, Value.cells] using h1
  | none =>
    have hc : cellsOf a = [a] := by cases a <;> first | rfl | simp [aggOf] at ha
    rw [hc, (hF.scal ha).1]
    simp only [VRs]
    exact ⟨c, [], rfl, h, rfl⟩

/-! ### splicing -/
theorem splice_ok : ∀ (vs : List Value) (off k : Nat) (cs : Array Value), off + k + vs.length ≤ cs.size →
    (vs.zipIdx k).foldl (fun (cs : Array Value) (p : Value × Nat) => cs.setIfInBounds (off + p.2) p.1) cs = (cs.toList.take (off + k) ++ vs ++ cs.toList.drop (off + k + vs.length)).toArray
  | [], off, k, cs, _ => by apply Array.ext'; simp
  | v :: vs, off, k, cs, h => by
    simp only [List.zipIdx_cons, List.foldl_cons]
    rw [splice_ok vs off (k + 1) _ (by simp at h ⊢; omega)]
    apply Array.ext'
    simp only [Array.toList_setIfInBounds, List.length_cons]
    have hk : off + k < cs.toList.length := by simp at h ⊢; omega
    have e1 : (cs.toList.set (off + k) v).take (off + (k + 1)) = cs.toList.take (off + k) ++ [v] := by
      rw [show off + (k + 1) = off + k + 1 from by omega, List.take_set, List.take_succ_eq_append_getElem hk, List.set_append]
      have hmin : min (off + k) cs.size = off + k := by simp at hk; omega
      simp [hmin]
    have e2 : (cs.toList.set (off + k) v).drop (off + (k + 1) + vs.length) = cs.toList.drop (off + k + (vs.length + 1)) := by
      rw [List.drop_set_of_lt (by omega)]
      congr 1; omega
    simp only [e1, e2]
    simp [List.append_assoc]

def PartsR (imm : Imm) (mu : Mu) (place : Nat → Option (Nat × Nat)) : List (Nat × TI × AV) → List (Nat × Value) → Prop
  | [], vs => vs = []
  | p :: ps, vs => ∃ q vs', vs = q :: vs' ∧ place q.1 = some (p.1, p.2.1.size) ∧ VR imm mu p.2.2 q.2 ∧ PartsR imm mu place ps vs'

theorem fill_ok {place : Nat → Option (Nat × Nat)} : ∀ {parts : List (Nat × TI × AV)} {vs : List (Nat × Value)} {z z' : List AV} {cs : Array Value},
    PartsR imm mu place parts vs → VRs imm mu z cs.toList → (∀ x ∈ cs.toList, one x) → afill z parts = some z' →
    ∃ cs', Instr.fill place cs vs = some cs' ∧ VRs imm mu z' cs'.toList ∧ (∀ x ∈ cs'.toList, one x)
  | [], _, z, z', cs, hp, hz, ho, h => by
    simp only [PartsR] at hp; subst hp
    simp only [afill, Option.some.injEq] at h; subst h
    exact ⟨cs, rfl, hz, ho⟩
  | (off, ti, x) :: parts, _, z, z', cs, hp, hz, ho, h => by
    simp only [PartsR] at hp
    obtain ⟨⟨i, v⟩, vs, rfl, hq1, hq2, hp⟩ := hp
    have hq : place i = some (off, ti.size) ∧ VR imm mu x v := ⟨hq1, hq2⟩
    · unfold afill at h
      split at h
      · rename_i hc
        have hF := fit_ok hc.1 hq.2
        have hlen := hz.length
        simp only [Array.length_toList] at hlen
        have hsp := splice_ok v.cells.toList off 0 cs (by simp [hF.size]; omega)
        simp only [Nat.add_zero] at hsp
        have hz2 : VRs imm mu (z.take off ++ cellsOf x ++ z.drop (off + ti.size)) (cs.toList.take off ++ v.cells.toList ++ cs.toList.drop (off + v.cells.toList.length)) := by
          refine ((hz.take off).append (VR_cellsOf hc.1 hq.2)).append ?_
          have : v.cells.toList.length = ti.size := by simpa using hF.size
          rw [this]; exact hz.drop _
        have ho2 : ∀ y ∈ cs.toList.take off ++ v.cells.toList ++ cs.toList.drop (off + v.cells.toList.length), one y := by
          intro y hy
          simp only [List.mem_append] at hy
          rcases hy with (hy | hy) | hy
          · exact ho y (List.mem_of_mem_take hy)
          · exact hF.ones y hy
          · exact ho y (List.mem_of_mem_drop hy)
        obtain ⟨cs', h1, h2, h3⟩ := fill_ok hp (cs := (cs.toList.take off ++ v.cells.toList ++ cs.toList.drop (off + v.cells.toList.length)).toArray) (by simpa using hz2) (by simpa using ho2) h
        refine ⟨cs', ?_, h2, h3⟩
        simp only [Instr.fill, hq.1]
        rw [if_neg (by simp [hF.size]; omega)]
        rw [← hsp] at h1
        rw [← h1]
        rw [← Array.toList_zipIdx, Array.foldl_toList]
      · cases h

/-! ### structs and arrays -/
theorem run_mapM_places (hT : TOk P T) (w : World) : ∀ (fs : List Field), (∀ f ∈ fs, (T f.type).isSome = true) →
    (fs.mapM (fun f => do pure (f.offset, ← sizeOf f.type) : Field → Sem (Nat × Nat))).run P w = .ok (fs.map fun f => (f.offset, P.cellsOf f.type)) w
  | [], _ => rfl
  | f :: fs, h => by
    obtain ⟨ti, hti⟩ := Option.isSome_iff_exists.1 (h f (by simp))
    have hs := hT.run_size hti w
    have hc : P.cellsOf f.type = ti.size := by
      obtain ⟨i, _, _, h1, _, _, h4, _⟩ := hT.info hti
      simp [Program.cellsOf, h1, h4]
    simp only [List.mapM_cons, Sem.run_bind, hs, Result.andThen, Sem.run_pure, run_mapM_places hT w fs (fun g hg => h g (by simp [hg])), List.map_cons, hc]

def VParts (imm : Imm) (mu : Mu) : List (Nat × AV) → List (Nat × Value) → Prop
  | [], vs => vs = []
  | p :: ps, vs => ∃ q vs', vs = q :: vs' ∧ q.1 = p.1 ∧ VR imm mu p.2 q.2 ∧ VParts imm mu ps vs'

theorem VParts.partsR (hT : TOk P T) {fs : List (Nat × TypeId)} {place : Nat → Option (Nat × Nat)} (hpl : ∀ i off ft ti, fs[i]? = some (off, ft) → T ft = some ti → place i = some (off, ti.size)) :
    ∀ {parts : List (Nat × AV)} {vs : List (Nat × Value)} {ps : List (Nat × TI × AV)}, VParts imm mu parts vs →
    parts.mapM (fun (i, x) => match fs[i]? with | some (off, ft) => (T ft).map fun tf => (off, tf, x) | none => none) = some ps → PartsR imm mu place ps vs
  | [], vs, ps, h, hm => by simp at hm; subst hm; simpa [VParts, PartsR] using h
  | (i, x) :: parts, vs, ps, h, hm => by
    simp only [VParts] at h
    obtain ⟨⟨i', v⟩, vs', rfl, h1, h2, h3⟩ := h
    simp only at h1
    subst h1
    simp only [List.mapM_cons] at hm
    cases hf : fs[i']? with
    | none => rw [hf] at hm; simp at hm
    | some q =>
      obtain ⟨off, ft⟩ := q
      rw [hf] at hm
      simp only at hm
      cases ht : T ft with
      | none => rw [ht] at hm; simp at hm
      | some tf =>
        rw [ht] at hm
        simp only [Option.map_some, Option.bind_eq_bind, Option.bind_some] at hm
        cases hr : parts.mapM (fun (i, x) => match fs[i]? with | some (off, ft) => (T ft).map fun tf => (off, tf, x) | none => none) with
        | none => rw [hr] at hm; simp at hm
        | some ps' =>
          rw [hr] at hm
          simp at hm
          subst hm
          simp only [PartsR]
          exact ⟨_, vs', rfl, hpl _ _ _ _ hf ht, h2, VParts.partsR hT hpl h3 hr⟩

theorem abuild_ok (hT : TOk P T) {t : TypeId} {parts : List (Nat × AV)} {vs : List (Nat × Value)} {v : AV} (hp : VParts imm mu parts vs) (h : abuild T t parts = some v) :
    ∃ c, (Instr.build t vs.toArray).run P w = .ok c w ∧ VR imm mu v c := by
  unfold abuild at h
  split at h
  · rename_i ti ht
    split at h
    · cases h
    · rename_i hagg
      obtain ⟨z, hz, hzc⟩ := hT.run_zero ht w
      obtain ⟨_, _, _, _, _, _, _, _, _, _, _, _, _, hones, _⟩ := hT.info ht
      have hzl : VRs imm mu (ti.zero.map AV.lit) z.cells.toList := by rw [hzc]; exact VRs_lits _ _ _
      have hzo : ∀ x ∈ z.cells.toList, one x := by rw [hzc]; exact hones
      simp only at h
      split at h
      · rename_i fs hd
        split at h
        · cases h
        · rename_i hall
          split at h
          · rename_i ps hps
            obtain ⟨fields, hu, hfs⟩ := hT.struct ht hd
            have hall' : ∀ f ∈ fields.toList, (T f.type).isSome = true := by
              intro f hf
              have h2 : fs.all (fun p => (T p.2).isSome) = true := by
                cases hb : fs.all (fun p => (T p.2).isSome) with
                | true => rfl
                | false => exact absurd hb hall
              rw [hfs] at h2
              simp only [List.all_map, List.all_eq_true] at h2
              exact h2 f hf
            have hpl : ∀ (i off : Nat) (ft : TypeId) (ti' : TI), fs[i]? = some (off, ft) → T ft = some ti' → (fields.map fun f => (f.offset, P.cellsOf f.type))[i]? = some (off, ti'.size) := by
              intro i off ft ti' hi hti
              obtain ⟨fields', fd, hu', hfd, e1, e2⟩ := hT.field ht hd hi
              rw [hu] at hu'; cases hu'
              have hc : P.cellsOf fd.type = ti'.size := by
                rw [e2]; obtain ⟨i, _, _, h1, _, _, h4, _⟩ := hT.info hti
                simp [Program.cellsOf, h1, h4]
              simp [hfd, e1, hc]
            cases haf : afill (ti.zero.map AV.lit) ps with
            | none => rw [haf] at h; cases h
            | some z' =>
              rw [haf] at h; cases h
              obtain ⟨cs', h1, h2, h3⟩ := fill_ok (hp.partsR hT hpl hps) hzl hzo haf
              refine ⟨.agg cs', ?_, by simp only [VR]; exact ⟨cs'.toList, by simp, h2, h3⟩⟩
              have hm := run_mapM_places hT w fields.toList hall'
              have hm2 : (fields.mapM (fun f => do pure (f.offset, ← sizeOf f.type) : Field → Sem (Nat × Nat))).run P w = .ok (fields.map fun f => (f.offset, P.cellsOf f.type)) w := by
                rw [Array.mapM_eq_mapM_toList]
                simp only [Sem.run_map, hm, Result.andThen]
                congr 1
                apply Array.ext'; simp
              simp only [Instr.build, Sem.run_bind, hz, Result.andThen, run_underlying_of hu, hm2, h1, Sem.run_pure]
          · cases h
      · rename_i n e hd
        split at h
        · rename_i te hte
          have hu := hT.array ht hd
          have hrs := hT.run_size hte w
          cases haf : afill (ti.zero.map AV.lit) (parts.map fun (i, x) => (i * te.size, te, x)) with
          | none => rw [haf] at h; cases h
          | some z' =>
            rw [haf] at h; cases h
            have hpr : ∀ {parts : List (Nat × AV)} {vs : List (Nat × Value)}, VParts imm mu parts vs → PartsR imm mu (fun i => some (i * te.size, te.size)) (parts.map fun (i, x) => (i * te.size, te, x)) vs := by
              intro parts
              induction parts with
              | nil => intro vs h; simpa [VParts, PartsR] using h
              | cons p ps ih =>
                intro vs h
                obtain ⟨i, x⟩ := p
                simp only [VParts] at h
                obtain ⟨q, vs', rfl, h1, h2, h3⟩ := h
                simp only [List.map_cons, PartsR]
                exact ⟨q, vs', rfl, by rw [h1], h2, ih h3⟩
            obtain ⟨cs', h1, h2, h3⟩ := fill_ok (hpr hp) hzl hzo haf
            refine ⟨.agg cs', ?_, by simp only [VR]; exact ⟨cs'.toList, by simp, h2, h3⟩⟩
            simp only [Instr.build, Sem.run_bind, hz, Result.andThen, run_underlying_of hu, hrs, h1, Sem.run_pure]
        · cases h
      · cases h
  · cases h

end Go.Abs
