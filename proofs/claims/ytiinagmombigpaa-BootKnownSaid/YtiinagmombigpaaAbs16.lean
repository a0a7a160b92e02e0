/- What is laid: variables, boxes, slices. -/
import Derived.Test.YtiinagmombigpaaAbs15
import Derived.Laws.MakeOwn
set_option linter.unusedVariables false
set_option linter.unusedSimpArgs false
set_option linter.unnecessarySimpa false
namespace Go.Abs
variable {P : Program} {T : TypeId → Option TI} {imm : Imm} {mu : Mu}

/-! ### rows of equal elements -/
theorem range_row (zs : List Value) (s : Nat) (hs : zs.length = s) (h0 : 0 < s) : ∀ (n : Nat), (List.range (n * s)).map (fun i => zs[i % s]!) = (List.replicate n zs).flatten
  | 0 => by simp
  | n + 1 => by
    rw [Nat.succ_mul, List.range_add, List.map_append, range_row zs s hs h0 n, List.map_map, List.replicate_succ', List.flatten_append]
    congr 1
    simp only [List.flatten_cons, List.flatten_nil, List.append_nil]
    apply List.ext_getElem?
    intro i
    simp only [List.getElem?_map, List.getElem?_range', Function.comp]
    by_cases hi : i < s
    · rw [List.getElem?_range hi, Option.map_some]
      show some (zs[(n * s + i) % s]!) = _
      rw [show (n * s + i) % s = i by rw [Nat.mul_comm, Nat.mul_add_mod]; exact Nat.mod_eq_of_lt hi]
      rw [List.getElem?_eq_getElem (by omega)]
      simp [List.getElem!_eq_getElem?_getD, List.getElem?_eq_getElem (show i < zs.length by omega)]
    · rw [List.getElem?_eq_none (by simpa using hi), List.getElem?_eq_none (by omega)]; rfl

theorem VRels_replicate {sz : Nat} {z : AV} {zc : Value} (hz : VR imm mu z zc) (hs : zc.cells.size = sz) (ho : ∀ x ∈ zc.cells.toList, one x) : ∀ (n : Nat), VRels imm mu sz (List.replicate n z) (List.replicate n zc.cells.toList).flatten
  | 0 => by simp [VRels]
  | n + 1 => by
    simp only [List.replicate_succ, List.flatten_cons, VRels]
    exact ⟨zc, _, rfl, hs, ho, hz, VRels_replicate hz hs ho n⟩

theorem VRels.set {sz : Nat} {x : AV} {v : Value} (hx : VR imm mu x v) (hs : v.cells.size = sz) (ho : ∀ y ∈ v.cells.toList, one y) : ∀ {l : List AV} {cs : List Value} {i : Nat}, VRels imm mu sz l cs → i < l.length →
    VRels imm mu sz (l.set i x) (cs.take (i * sz) ++ v.cells.toList ++ cs.drop (i * sz + sz))
  | [], cs, i, _, h => by simp at h
  | a :: as, cs, 0, h, _ => by
    simp only [VRels] at h
    obtain ⟨c, cs', rfl, h2, h3, h4, h5⟩ := h
    have hl : c.cells.toList.length = sz := by simpa using h2
    simp only [List.set_cons_zero, VRels]
    refine ⟨v, cs', ?_, hs, ho, hx, h5⟩
    simp only [Nat.zero_mul, List.take_zero, List.nil_append, Nat.zero_add]
    rw [← hl, List.drop_left]
  | a :: as, cs, i + 1, h, hi => by
    simp only [VRels] at h
    obtain ⟨c, cs', rfl, h2, h3, h4, h5⟩ := h
    have hl : c.cells.toList.length = sz := by simpa using h2
    simp only [List.set_cons_succ, VRels]
    refine ⟨c, _, ?_, h2, h3, h4, VRels.set hx hs ho h5 (by simpa using hi)⟩
    have e1 : (i + 1) * sz = sz + i * sz := by rw [Nat.add_mul]; omega
    rw [e1, List.take_append, hl, List.take_of_length_le (by omega), show sz + i * sz - sz = i * sz from by omega]
    rw [Nat.add_assoc, ← List.drop_drop, show List.drop sz (c.cells.toList ++ cs') = cs' from by rw [← hl]; simp]
    simp [List.append_assoc]

theorem zeroAV_ok (hT : TOk P T) {t : TypeId} {ti : TI} (ht : T t = some ti) {z : AV} (hz : zeroAV ti = some z) {zc : Value} (hc : zc.cells.toList = ti.zero) (imm : Imm) (mu : Mu) :
    VR imm mu z (if ti.agg then .agg zc.cells else zc.cells.getD 0 undef) ∧ fit ti z = true ∧ (if ti.agg then Value.agg zc.cells else zc.cells.getD 0 undef).cells = zc.cells := by
  obtain ⟨_, _, _, _, _, _, _, _, _, _, _, _, hlen, hones, hor⟩ := hT.info ht
  unfold zeroAV at hz
  split at hz
  · rename_i hag
    cases hz
    rw [if_pos hag]
    refine ⟨?_, ?_, rfl⟩
    · simp only [VR]
      exact ⟨ti.zero, by rw [← hc], VRs_lits _ _ _, hones⟩
    · simp [fit, hag, hlen]
  · rename_i hag
    split at hz
    · rename_i v hv
      cases hz
      rw [if_neg hag]
      have h1 : zc.cells = #[v] := by apply Array.ext'; rw [hc, hv]
      have ho : one v := hones v (by rw [hv]; simp)
      rw [h1]
      refine ⟨by simp [VR], ?_, by simp [one_cells ho]⟩
      have hs : ti.size = 1 := by rw [← hlen, hv]; rfl
      have := one_isOne ho
      cases v <;> first | (simp [fit, hs, hag]; done) | (simp [isOne] at this)
    · cases hz

/-- memory does not see a draw -/
theorem MR.drew {g : Gh} {ro : Nat} {H : Hp} {w : World} (h : MR g ro H w) : MR g ro H w.drew :=
  ⟨h.role, h.imm, h.dom, h.inj, h.lt, h.owlt, h.prot, h.free, h.blk⟩
theorem Keeps.undrew {g g' : Gh} {w w' : World} {X : Nat → Prop} (k : Keeps g w.drew g' w' X) : Keeps g w g' w' X :=
  ⟨k.imm, ⟨k.mun.le, k.mun.new⟩, k.size, k.same, ⟨k.out.os, k.out.tape, k.out.output⟩⟩

/-! ### blocks with a number -/
theorem BR.new_cells {g : Gh} {ro : Nat} {H : Hp} {w : World} (hm : MR g ro H w) {nm sz : Nat} {e : TypeId} {ti : TI} {els : List AV} {ccs : List Value} (hf : Abs.free ro H nm = true)
    (hr : VRels g.imm g.mu sz els ccs) (hfit : ∀ el ∈ els, fit ti el = true) (hz : ti.size = sz) : BR (g.named nm w.heap.size sz) (w.alloc (.cells ccs.toArray e)) nm (.cells sz e els) := by
  refine ⟨w.heap.size, by simp [Gh.named], ⟨ccs.toArray, e, heap_alloc_new w _⟩, fun o => hm.fresh_imm (Nat.le_refl _) o, fun i el hel => ?_⟩
  obtain ⟨c, h1, h2, _, h4⟩ := hr.get hel
  have k := Keeps.named hm hf (.cells ccs.toArray e) sz
  refine ER.of_cells (hfit el (List.mem_of_getElem? hel)) (VR.mono k.imm _ k.mu h1) hz fun j x hx => ?_
  rw [World.cell?_alloc_new]
  simpa using h4 j x hx

/-- an operation that lays a block with a number -/
theorem OpOk.named {ro : Nat} {g : Gh} {H : Hp} {w : World} {o : Oper} {a : Act} {v : AV} {rd : Rd} {nm : Nat} {blk : ABlock} (hm : MR g ro H w) (hf : Abs.free ro H nm = true) (ob : Obj) (sz : Nat) (w0 : World) (hw0 : w0 = w ∨ w0 = w.drew) {c : Value}
    (h : (execOp a.eval o).run P w = .ok (.value c) (w0.alloc ob)) (hb : BR (g.named nm w.heap.size sz) (w0.alloc ob) nm blk) (hv : VR g.imm (g.named nm w.heap.size sz).mu v c) :
    OpOk P ro g H w o a { v, up := some (nm, blk), rd } := by
  rcases hw0 with rfl | rfl
  · exact ⟨⟨c, _, _, _, fun _ => False, h, .inl rfl, Keeps.named hm hf ob sz, hm.named hf ob sz blk hb, fun _ _ _ h => h.elim, fun _ _ _ _ h => h, fun _ _ h => h.elim, hv.sr⟩, fun t ht => by cases ht⟩
  · exact ⟨⟨c, _, _, _, fun _ => False, h, .inl rfl, (Keeps.named hm.drew hf ob sz).undrew, hm.drew.named hf ob sz blk hb, fun _ _ _ h => h.elim, fun _ _ _ _ h => h, fun _ _ h => h.elim, hv.sr⟩, fun t ht => by cases ht⟩

/-- a slice that is laid: as a block, or as a list -/
theorem OpOk.laidB {ro : Nat} {g : Gh} {H : Hp} {w : World} {o : Oper} {a : Act} {rd : Rd} {nm sz : Nat} {e : TypeId} {ti : TI} {els : List AV} {ccs : List Value} (hm : MR g ro H w) (hf : Abs.free ro H nm = true)
    (w0 : World) (hw0 : w0 = w ∨ w0 = w.drew) (cap : Nat) (hcap : els.length ≤ cap)  (rest : List Value) (h : (execOp a.eval o).run P w = .ok (.value (.slice (some ⟨w.heap.size, 0, none⟩) els.length cap)) (w0.alloc (.cells (ccs ++ rest).toArray e)))
    (hr : VRels g.imm g.mu sz els ccs) (hfit : ∀ el ∈ els, fit ti el = true) (hz : ti.size = sz) :
    OpOk P ro g H w o a { v := .sl nm sz 0 els.length els.length, up := some (nm, .cells sz e els), rd } := by
  have hb : ∀ (w0 : World), MR g ro H w0 → w0.heap = w.heap → BR (g.named nm w.heap.size sz) (w0.alloc (.cells (ccs ++ rest).toArray e)) nm (.cells sz e els) := by
    intro w0 hm0 hw
    have hsz : w0.heap.size = w.heap.size := by rw [hw]
    refine ⟨w.heap.size, by simp [Gh.named], ⟨(ccs ++ rest).toArray, e, by rw [← hsz]; exact heap_alloc_new w0 _⟩, fun o => hm.fresh_imm (Nat.le_refl _) o, fun i el hel => ?_⟩
    obtain ⟨c, h1, h2, _, h4⟩ := hr.get hel
    have k := Keeps.named hm0 hf (.cells ccs.toArray e) sz
    refine ER.of_cells (hfit el (List.mem_of_getElem? hel)) (VR.mono k.imm _ (by rw [← hsz]; exact k.mu) h1) hz fun j x hx => ?_
    rw [← hsz, World.cell?_alloc_new]
    have := h4 j x hx
    have hl := (List.getElem?_eq_some_iff.1 this).1
    simp only [List.getElem?_toArray]
    rw [List.getElem?_append_left hl]; exact this
  refine OpOk.named hm hf _ sz w0 hw0 h ?_ ?_
  · rcases hw0 with rfl | rfl
    · exact hb _ hm rfl
    · exact hb _ hm.drew rfl
  · simp only [VR]
    exact ⟨w.heap.size, cap, by simp [Gh.named], hcap, by simp⟩

theorem VRels.cl1 {sz : Nat} : ∀ {l : List AV} {cs : List Value}, VRels imm mu sz l cs → VRels imm noMu sz (l.map Abs.cl1) cs
  | [], cs, h => by simpa [VRels] using h
  | a :: as, cs, h => by
    simp only [VRels] at h
    obtain ⟨c, cs', h1, h2, h3, h4, h5⟩ := h
    simp only [List.map_cons, VRels]
    exact ⟨c, cs', h1, h2, h3, h4.cl1, VRels.cl1 h5⟩

/-- a slice that is laid and never written -/
theorem OpOk.laidV {ro : Nat} {g : Gh} {H : Hp} {w : World} {o : Oper} {a : Act} {rd : Rd} {sz : Nat} {e : TypeId} {els : List AV} {ccs : List Value} (hm : MR g ro H w)
    (h : (execOp a.eval o).run P w = .ok (.value (.slice (some ⟨w.heap.size, 0, none⟩) els.length els.length)) (w.alloc (.cells ccs.toArray e)))
    (hr : VRels g.imm g.mu sz els ccs) : OpOk P ro g H w o a { v := .vec sz .exact (els.map Abs.cl1), rd } := by
  have hlen := hr.length
  have k := Keeps.anon hm (.cells ccs.toArray e) ccs.toArray ccs.length none
  refine ⟨⟨_, _, _, g.anon w.heap.size ccs.toArray ccs.length none, fun _ => False, h, .inl rfl, k, hm.anon ccs.toArray e ccs.length none, fun _ _ _ h => h.elim, fun _ _ _ _ h => h, fun _ _ h => h.elim, ?_⟩, fun t ht => by cases ht⟩
  refine VR.sr ?_
  simp only [VR, List.length_map]
  refine ⟨w.heap.size, 0, els.length, ccs, rfl, by simp, fun _ => rfl, Nat.le_refl _, VRels.mono k.imm _ (Mu.le_refl _) hr.cl1, ?_⟩
  have := Seg.anon g w.heap.size ccs.toArray ccs.length none
  simpa using this

theorem VR.drp1 {sz : Nat} : ∀ {l : List AV} {cs : List Value}, VRels imm mu sz l cs → VRels imm mu sz (l.map Abs.drp) cs
  | [], cs, h => by simpa [VRels] using h
  | a :: as, cs, h => by
    simp only [VRels] at h
    obtain ⟨c, cs', h1, h2, h3, h4, h5⟩ := h
    simp only [List.map_cons, VRels]
    exact ⟨c, cs', h1, h2, h3, h4.drp, VR.drp1 h5⟩

/-! ### variables, boxes -/
theorem lAlloc_ok (hT : TOk P T) {ro : Nat} {g : Gh} {H : Hp} {w : World} {o : Oper} {a : Act} {nm : Nat} {e : TypeId} {ef : Eff} (hm : MR g ro H w) (ho : o.op = .alloc e) (h : lAlloc T ro nm H e = some ef) : OpOk P ro g H w o a ef := by
  unfold lAlloc at h
  split at h
  · rename_i te hte
    split at h
    · rename_i z hz
      split at h
      · cases h
      · rename_i hn
        cases h
        have hf : Abs.free ro H nm = true := by
          cases hb : Abs.free ro H nm with
          | true => rfl
          | false => exact absurd (Or.inr hb) hn
        obtain ⟨zc, h1, h2⟩ := hT.run_zero hte w
        obtain ⟨h3, h4, h5⟩ := zeroAV_ok hT hte hz h2 g.imm g.mu
        have hF := fit_ok h4 h3
        refine OpOk.named hm hf (.cells zc.cells e) te.size w (.inl rfl) (c := .pointer (some ⟨w.heap.size, 0, none⟩)) ?_ ?_ ?_
        · simp [execOp, ho, Instr.alloc, h1, Result.andThen, newVar, newRow]
        · have := BR.new_cells (e := e) (ti := te) (els := [z]) (ccs := zc.cells.toList) hm hf (by
            simp only [VRels]
            exact ⟨_, [], by rw [h5]; simp, hF.size, hF.ones, h3, rfl⟩) (by simpa using h4) rfl
          simpa using this
        · simp only [VR]
          exact ⟨w.heap.size, te.size, by simp [Gh.named], by simp⟩
    · cases h
  · cases h

theorem fit_drp {ti : TI} {a : AV} (h : fit ti a = true) : fit ti (drp a) = true := by
  cases a with
  | agg l => simpa [fit, drp] using h
  | vec sz k els => cases k <;> simpa [fit, drp, shr] using h
  | tup l => simp [fit] at h
  | _ => simpa [fit, drp, shr] using h

theorem lBox_ok (hT : TOk P T) {ro : Nat} {g : Gh} {H : Hp} {w : World} {o : Oper} {a : Act} {nm : Nat} {e : TypeId} {x : AV} {X : Operand} {ef : Eff} (hm : MR g ro H w) (ho : o.op = .box e X) (hx : VR g.imm g.mu x (a.eval X)) (h : lBox T ro nm H e x = some ef) : OpOk P ro g H w o a ef := by
  unfold lBox at h
  split at h
  · rename_i te hte
    split at h
    · cases h
    · rename_i hn
      cases h
      have hf : Abs.free ro H nm = true := by
        cases hb : Abs.free ro H nm with
        | true => rfl
        | false => exact absurd (Or.inr (Or.inr hb)) hn
      have hfit : fit te x = true := by
        cases hb : fit te x with
        | true => rfl
        | false => exact absurd (Or.inr (Or.inl hb)) hn
      have hF := fit_ok hfit hx
      refine OpOk.named hm hf (.cells (a.eval X).cells e) te.size w (.inl rfl) (c := .pointer (some ⟨w.heap.size, 0, none⟩)) ?_ ?_ ?_
      · simp [execOp, ho, Instr.box, newVar, newRow]
      · have := BR.new_cells (e := e) (ti := te) (els := [drp x]) (ccs := (a.eval X).cells.toList) hm hf (by
          simp only [VRels]
          exact ⟨_, [], by simp, hF.size, hF.ones, hx.drp, rfl⟩) (by simpa using fit_drp hfit) rfl
        simpa using this
      · simp only [VR]
        exact ⟨w.heap.size, te.size, by simp [Gh.named], by simp⟩
  · cases h

/-! ### slices -/
theorem place_ok {te : TI} : ∀ {parts : List (Nat × AV)} {vs : List (Nat × Value)} {zs els : List AV} {cs : Array Value}, VParts imm mu parts vs → VRels imm mu te.size zs cs.toList → (∀ z ∈ zs, fit te z = true) →
    aplace te zs parts = some els → ∃ cs', Instr.fill (fun i => some (i * te.size, te.size)) cs vs = some cs' ∧ VRels imm mu te.size els cs'.toList ∧ (∀ z ∈ els, fit te z = true) ∧ els.length = zs.length
  | [], vs, zs, els, cs, hp, hz, hf, h => by
    simp only [VParts] at hp; subst hp
    simp only [aplace, Option.some.injEq] at h; subst h
    exact ⟨cs, rfl, hz, hf, rfl⟩
  | (i, x) :: parts, vs, zs, els, cs, hp, hz, hf, h => by
    simp only [VParts] at hp
    obtain ⟨⟨i', v⟩, vs', rfl, h1, h2, h3⟩ := hp
    simp only at h1 h2
    subst h1
    unfold aplace at h
    split at h
    · rename_i hc
      obtain ⟨hc1, hc2⟩ := hc
      have hF := fit_ok hc1 h2
      have hlen := hz.length
      simp only [Array.length_toList] at hlen
      have hmul : (i' + 1) * te.size ≤ zs.length * te.size := Nat.mul_le_mul_right _ hc2
      rw [Nat.add_mul] at hmul
      have hsp := splice_ok v.cells.toList (i' * te.size) 0 cs (by simp [hF.size]; omega)
      simp only [Nat.add_zero] at hsp
      have hz2 := VRels.set h2 hF.size hF.ones hz hc2
      have hv : v.cells.toList.length = te.size := by simpa using hF.size
      obtain ⟨cs', e1, e2, e3, e4⟩ := place_ok h3 (cs := (cs.toList.take (i' * te.size) ++ v.cells.toList ++ cs.toList.drop (i' * te.size + te.size)).toArray) (by simpa using hz2) (fun z hzm => by
        rcases List.mem_or_eq_of_mem_set hzm with h | h
        · exact hf z h
        · rw [h]; exact hc1) h
      refine ⟨cs', ?_, e2, e3, by rw [e4]; simp⟩
      simp only [Instr.fill]
      rw [if_neg (by simp [hF.size]; omega)]
      rw [hv] at hsp
      rw [← hsp] at e1
      rw [← e1]
      rw [← Array.toList_zipIdx, Array.foldl_toList]
    · cases h

theorem zrow_ok (hT : TOk P T) {e : TypeId} {te : TI} (hte : T e = some te) {z : AV} (hz : zeroAV te = some z) {zc : Value} (hc : zc.cells.toList = te.zero) (h0 : te.size ≠ 0) (n : Nat) (imm : Imm) (mu : Mu) :
    ∃ cs : List Value, (Array.range (n * te.size)).map (zc.cells[· % zc.cells.size]!) = cs.toArray ∧ VRels imm mu te.size (List.replicate n z) cs ∧ fit te z = true := by
  obtain ⟨h3, h4, h5⟩ := zeroAV_ok hT hte hz hc imm mu
  have hF := fit_ok h4 h3
  have hcs : zc.cells.size = te.size := by have := hF.size; rw [h5] at this; exact this
  refine ⟨_, ?_, VRels_replicate h3 hF.size hF.ones n, h4⟩
  rw [h5]
  apply Array.ext'
  show _ = (List.replicate n zc.cells.toList).flatten
  rw [← range_row zc.cells.toList te.size (by simpa using hcs) (by omega)]
  simp only [Array.toList_map, Array.toList_range, hcs]
  apply List.map_congr_left
  intro i _
  simp only [List.getElem!_eq_getElem?_getD, Array.getElem?_toList]
  rw [Array.getElem!_eq_getD, Array.getD_eq_getD_getElem?]

theorem abuildSlice_ok (hT : TOk P T) {ro : Nat} {g : Gh} {H : Hp} {w : World} {o : Oper} {a : Act} {heap : Bool} {nm : Nat} {t : TypeId} {len : Nat} {parts : List (Nat × AV)} {PS : Array (Nat × Operand)} {ef : Eff} (hm : MR g ro H w)
    (ho : o.op = .buildSlice t len PS) (hp : VParts g.imm g.mu parts (PS.toList.map fun p => (p.1, a.eval p.2))) (h : lBuildSlice T heap ro nm H t len parts = some ef) : OpOk P ro g H w o a ef := by
  have key : ∀ (heap : Bool) (parts : List (Nat × AV)) (r : AV × Hp), VParts g.imm g.mu parts (PS.toList.map fun p => (p.1, a.eval p.2)) → abuildSlice T heap t len parts [] = some r → ∃ e te els ccs, T e = some te ∧ te.size ≠ 0 ∧ r = laid heap te.size e els [] ∧ els.length = len ∧
      (execOp a.eval o).run P w = .ok (.value (.slice (some ⟨w.heap.size, 0, none⟩) len len)) (w.alloc (.cells ccs.toArray e)) ∧ VRels g.imm g.mu te.size els ccs ∧ ∀ el ∈ els, fit te el = true := by
    intro heap parts r hp h
    unfold abuildSlice at h
    split at h
    · rename_i e _ ht
      split at h
      · rename_i te hte
        split at h
        · rename_i z hz
          split at h
          · cases h
          · rename_i hn
            have hn1 : te.size ≠ 0 := fun e => hn (.inl e)
            have hn2 : ¬ len * te.size > 2 ^ 24 := fun e => hn (.inr e)
            cases hap : aplace te (List.replicate len z) parts with
            | none => rw [hap] at h; cases h
            | some els =>
              rw [hap] at h
              simp only [Option.map_some, Option.some.injEq] at h
              obtain ⟨zc, h1, h2⟩ := hT.run_zero hte w
              obtain ⟨cs, e1, e2, e3⟩ := zrow_ok hT hte hz h2 hn1 len g.imm g.mu
              obtain ⟨cs', f1, f2, f3, f4⟩ := place_ok hp (cs := cs.toArray) (by simpa using e2) (fun y hy => by rw [(List.mem_replicate.1 hy).2]; exact e3) hap
              refine ⟨e, te, els, cs'.toList, hte, hn1, h.symm, by rw [f4]; simp, ?_, f2, f3⟩
              have hu := hT.slice ht rfl
              have hs := hT.run_size hte w
              have hps : (PS.map fun x => match x with | (i, x) => (i, a.eval x)).toList = PS.toList.map fun p => (p.1, a.eval p.2) := by simp
              by_cases hl : len * te.size = 0
              · have hlen : len = 0 := by
                  rcases Nat.mul_eq_zero.1 hl with h | h
                  · exact h
                  · exact absurd h hn1
                subst hlen
                simp only [Nat.zero_mul] at e1 hn2
                have hcs : cs = [] := by
                  have := e2.length; simp at this; exact this
                subst hcs
                have hr0 : Array.range 0 = #[] := rfl
                have f1' : Instr.fill (fun i => some (i * te.size, te.size)) #[] (PS.toList.map fun p => (p.1, a.eval p.2)) = some cs' := f1
                simp only [execOp, ho, Instr.buildSlice, Sem.run_bind, run_underlying_of hu, Result.andThen, hs, Nat.zero_mul, hn2, if_false, if_true, Sem.run_pure, hr0, List.map_toArray, Array.map_empty, hps, f1', newRow, run_newObj_alloc]
                simp
                rw [f1']
                simp
              · simp only [execOp, ho, Instr.buildSlice, Sem.run_bind, run_underlying_of hu, Result.andThen, hs, hn2, hl, if_false, Sem.run_pure, h1, Sem.run_map, hps, newRow, run_newObj_alloc]
                simp only [e1, f1, Sem.run_bind, run_newObj_alloc, Result.andThen, Sem.run_pure]
        · cases h
      · cases h
    · cases h
  unfold lBuildSlice at h
  split at h
  · rename_i hh
    have hp2 : VParts g.imm g.mu (parts.map fun p => (p.1, drp p.2)) (PS.toList.map fun p => (p.1, a.eval p.2)) := by
      have aux : ∀ {l : List (Nat × AV)} {vs : List (Nat × Value)}, VParts g.imm g.mu l vs → VParts g.imm g.mu (l.map fun p => (p.1, drp p.2)) vs := by
        intro l
        induction l with
        | nil => intro vs h; simpa [VParts] using h
        | cons p l ih =>
          intro vs h
          simp only [VParts, List.map_cons] at h ⊢
          obtain ⟨q, vs', h1, h2, h3, h4⟩ := h
          exact ⟨q, vs', h1, h2, h3.drp, ih h4⟩
      exact aux hp
    cases hr : abuildSlice T true t len (parts.map fun p => (p.1, drp p.2)) [] with
    | none => rw [hr] at h; cases h
    | some r =>
      rw [hr] at h
      obtain ⟨e, te, els, ccs, k1, k2, k3, k4, k5, k6, k7⟩ := key true _ r hp2 hr
      subst k3
      simp only [laid, if_true, List.nil_append, lLaid] at h
      split at h
      · cases h
      · rename_i hf
        have hf : Abs.free ro H nm = true := by
          cases hb : Abs.free ro H nm with
          | true => rfl
          | false => exact absurd hb hf
        cases h
        refine OpOk.laidB (ccs := ccs) (e := e) (ti := te) hm hf w (.inl rfl) els.length (Nat.le_refl _) [] ?_ k6 k7 rfl
        rw [k5, k4]; simp
  · cases hr : abuildSlice T false t len parts [] with
    | none => rw [hr] at h; cases h
    | some r =>
      rw [hr] at h
      obtain ⟨e, te, els, ccs, k1, k2, k3, k4, k5, k6, k7⟩ := key false _ r hp hr
      subst k3
      simp only [laid, Option.map_some, Option.some.injEq] at h
      subst h
      exact OpOk.laidV hm (by rw [k5, k4]) k6

end Go.Abs
