/- Loads, stores. -/
import Derived.Test.YtiinagmombigpaaAbs14
namespace Go.Abs
variable {P : Program} {T : TypeId → Option TI}

/-- an element that lies at a place -/
def LE (w : World) (imm : Imm) (mu : Mu) (B o : Nat) (el : AV) : Prop :=
  match aggOf el with
  | some l => ∃ cs : List Value, VRs imm mu (l.map shr) cs ∧ (∀ x ∈ cs, one x) ∧ ∀ k c, cs[k]? = some c → w.cell? ⟨B, o + k, none⟩ = some c
  | none => isScal el = true → ∃ c, w.cell? ⟨B, o, none⟩ = some c ∧ one c ∧ VR imm mu (shr el) c

theorem list_of_get {Q : Nat → AV → Value → Prop} : ∀ {l : List AV}, (∀ j a, l[j]? = some a → ∃ c, Q j a c) → ∃ cs : List Value, cs.length = l.length ∧ ∀ j a c, l[j]? = some a → cs[j]? = some c → Q j a c
  | [], _ => ⟨[], rfl, fun j a c h => by simp at h⟩
  | x :: l, h => by
    obtain ⟨c, hc⟩ := h 0 x rfl
    obtain ⟨cs, h1, h2⟩ := list_of_get (Q := fun j => Q (j + 1)) (l := l) fun j a ha => h (j + 1) a (by simpa using ha)
    refine ⟨c :: cs, by simp [h1], fun j a c' ha hc' => ?_⟩
    cases j with
    | zero => simp at ha hc'; subst ha; subst hc'; exact hc
    | succ j => simp at ha hc'; exact h2 j a c' ha hc'

theorem ER.le {g : Gh} {w : World} {B sz b i : Nat} {el : AV} (h : ER g w B sz b i el) : LE w g.imm g.mu B (i * sz) el := by
  unfold ER at h
  unfold LE
  cases ha : aggOf el with
  | some l =>
    rw [ha] at h
    obtain ⟨h1, h2⟩ := h
    obtain ⟨cs, h3, h4⟩ := list_of_get h2
    refine ⟨cs, VRs.of (by simp [h3]) fun k a c hk hc => ?_, fun x hx => ?_, fun k c hc => ?_⟩
    · rw [List.getElem?_map] at hk
      cases hl : l[k]? with
      | none => rw [hl] at hk; cases hk
      | some a' => rw [hl] at hk; cases hk; exact (h4 k a' c hl hc).2.2.shr
    · obtain ⟨k, hk⟩ := List.getElem?_of_mem hx
      have hlt : k < l.length := by rw [← h3]; exact (List.getElem?_eq_some_iff.1 hk).1
      exact (h4 k _ x (List.getElem?_eq_getElem hlt) hk).2.1
    · have hlt : k < l.length := by rw [← h3]; exact (List.getElem?_eq_some_iff.1 hc).1
      exact (h4 k _ c (List.getElem?_eq_getElem hlt) hc).1
  | none =>
    rw [ha] at h
    obtain ⟨h1, c, h2, h3, h4⟩ := h
    subst h1
    exact fun _ => ⟨c, by rw [Nat.mul_one]; exact h2, h3, h4.shr⟩

theorem scal_one {imm : Imm} {mu : Mu} {a : AV} {c : Value} (h : VR imm mu a c) (hs : isScal a = true) : one c := by
  refine VR_one h ?_ ?_ ?_ ?_
  · intro e; subst e; simp [isScal] at hs
  · intro v e; subst e; cases v <;> simp [isScal] at hs <;> rfl
  · cases a <;> simp [isScal] at hs <;> rfl
  · intro l e; subst e; simp [isScal] at hs

theorem LE.of_vp {g : Gh} {ro : Nat} {H : Hp} {w : World} (hm : MR g ro H w) {B o : Nat} {el : AV} {c : Value} (h1 : VR g.imm noMu el c) (h2 : ∀ x ∈ c.cells.toList, one x) (h3 : Seg g.imm B o c.cells.toList) :
    LE w g.imm g.mu B o el := by
  have h1' : VR g.imm g.mu el c := VR.mono (Imm.le_refl _) el (noMu_le _) h1
  unfold LE
  cases ha : aggOf el with
  | some l =>
    rw [aggOf_some ha] at h1'
    simp only [VR] at h1'
    obtain ⟨cs, rfl, h4, h5⟩ := h1'
    refine ⟨cs, h4.map fun a c h => h.shr, h5, fun k x hx => hm.imm _ _ _ (h3 k x (by simpa [Value.cells] using hx))⟩
  | none =>
    intro hs
    have hone := scal_one h1' hs
    refine ⟨c, ?_, hone, h1'.shr⟩
    have := h3 0 c (by rw [one_cells hone]; rfl)
    exact hm.imm _ _ _ this

theorem run_load_cell {w : World} {a : Addr} {v : Value} (h : w.cell? a = some v) : (load a).run P w = .ok v w := by simp [h]

/-- a part of an element is read -/
theorem elPart_ok (hT : TOk P T) {t : TypeId} {ti : TI} (ht : T t = some ti) {w : World} {imm : Imm} {mu : Mu} {B o j : Nat} {el v : AV} (hel : LE w imm mu B o el) (h : elPart ti el j = some v) :
    ∃ c, (loadVar t ⟨B, o + j, none⟩).run P w = .ok c w ∧ VR imm mu v c := by
  have hagg := hT.run_isAgg ht w
  have hsz := hT.run_size ht w
  unfold elPart at h
  split at h
  · rename_i l
    obtain ⟨cs, h1, h2, h3⟩ := hel
    split at h
    · rename_i hag
      split at h
      · rename_i hl
        cases h
        have hcl : cs.length = l.length := by simpa using h1.length
        refine ⟨.agg ((cs.drop j).take ti.size).toArray, ?_, ?_⟩
        · have hlen : ((cs.drop j).take ti.size).length = ti.size := by simp; omega
          have := run_loadCells_list (P := P) w ⟨B, o + j, none⟩ ((cs.drop j).take ti.size) (fun k v hk => by
            rw [List.getElem?_take] at hk
            split at hk
            · rw [List.getElem?_drop] at hk
              rw [addr_add, Nat.add_assoc]; exact h3 _ _ hk
            · cases hk)
          rw [hlen] at this
          simp only [loadVar, Sem.run_bind, hagg, hag, Result.andThen, if_true, hsz, this, Sem.run_pure]
        · simp only [VR]
          refine ⟨_, rfl, ?_, fun x hx => h2 x (List.mem_of_mem_drop (List.mem_of_mem_take hx))⟩
          rw [List.map_take, List.map_drop]
          exact (h1.drop j).take _
      · cases h
    · rename_i hag
      cases hl : l[j]? with
      | none => rw [hl] at h; cases h
      | some a =>
        rw [hl] at h; cases h
        obtain ⟨c, h4, h5⟩ := h1.get (show (l.map shr)[j]? = some (shr a) by simp [hl])
        refine ⟨c, ?_, h5⟩
        simp only [loadVar, Sem.run_bind, hagg, hag, Result.andThen]
        exact run_load_cell (h3 j c h4)
  · rename_i hna
    split at h
    · rename_i hc
      obtain ⟨hs, hag, hj⟩ := hc
      cases h
      subst hj
      have ha : aggOf el = none := by cases el <;> first | rfl | exact absurd rfl (hna _)
      unfold LE at hel
      rw [ha] at hel
      obtain ⟨c, h1, _, h3⟩ := hel hs
      refine ⟨c, ?_, h3⟩
      simp only [loadVar, Sem.run_bind, hagg, hag, Result.andThen]
      exact run_load_cell h1
    · cases h

theorem aload_ok (hT : TOk P T) {g : Gh} {ro : Nat} {H : Hp} {w : World} (hm : MR g ro H w) {t : TypeId} {x v : AV} {a : Value} (hx : VR g.imm g.mu x a) (h : aload T t H x = some v) :
    ∃ c, (Instr.loadAt t a).run P w = .ok c w ∧ VR g.imm g.mu v c := by
  unfold aload at h
  split at h
  · rename_i ti ht
    split at h
    · rename_i b i j
      simp only [VR] at hx
      obtain ⟨B, sz, hB, rfl⟩ := hx
      split at h
      · rename_i sz' e els hb
        obtain ⟨B', h1, _, _, h4⟩ := hm.blk b _ hb
        rw [hB] at h1; cases h1
        split at h
        · rename_i el hel
          obtain ⟨c, h5, h6⟩ := elPart_ok (w := w) hT ht (h4 i el hel).le h
          exact ⟨c, by simpa [Instr.loadAt, Instr.sureAddr] using h5, h6⟩
        · cases h
      · cases h
    · rename_i el j
      simp only [VR] at hx
      obtain ⟨B, o, c, rfl, h1, h2, h3⟩ := hx
      obtain ⟨c', h5, h6⟩ := elPart_ok (w := w) hT ht (LE.of_vp hm h1 h2 h3) h
      exact ⟨c', by simpa [Instr.loadAt, Instr.sureAddr] using h5, h6⟩
    · cases h
  · cases h

/-- a value to be stored: it may own its slice -/
theorem own_fit {ti : TI} {g : Gh} {w : World} {loc : Loc} {x : AV} {c : Value} (hf : fit ti x = true) (h : SR g w loc x c) : FitOk ti x c := by
  cases ho : isOwn x with
  | false => exact fit_ok hf ((SR_notOwn ho).1 h)
  | true =>
    obtain ⟨s, es, rfl⟩ := isOwn_spec ho
    have h2 := fit_ok (ti := ti) (a := .vec s .shared es) hf (by simpa [shr] using h.shr)
    exact ⟨h2.size, h2.ones, fun _ => h2.scal rfl, fun l hl => by cases hl⟩

theorem elSet_fit {ti : TI} {el x el' : AV} {j : Nat} (h : elSet ti el j x = some el') : fit ti x = true := by
  unfold elSet at h
  split at h
  · cases h
  · rename_i hf; cases hb : fit ti x with
    | true => rfl
    | false => exact absurd hb hf

end Go.Abs
