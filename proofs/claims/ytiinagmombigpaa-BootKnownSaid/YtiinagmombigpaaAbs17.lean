/- Slices that are made; values that are moved; blocks that are read as lists. -/
import Derived.Test.YtiinagmombigpaaAbs16
set_option linter.unusedVariables false
set_option linter.unusedSimpArgs false
set_option linter.unnecessarySimpa false
namespace Go.Abs
variable {P : Program} {T : TypeId → Option TI} {imm : Imm} {mu : Mu}

theorem not_false_true {b : Bool} (h : ¬ b = false) : b = true := by cases b <;> simp_all

theorem lMakeSlice_ok (hT : TOk P T) {ro : Nat} {g : Gh} {H : Hp} {w : World} {o : Oper} {a : Act} {heap : Bool} {nm : Nat} {t : TypeId} {l c : AV} {L C : Operand} {ef : Eff} (hm : MR g ro H w)
    (ho : o.op = .makeSlice t L C) (hl : VR g.imm g.mu l (a.eval L)) (hc : VR g.imm g.mu c (a.eval C)) (h : lMakeSlice T heap ro nm H t l c = some ef) : OpOk P ro g H w o a ef := by
  have key : ∀ (heap : Bool) (r : AV × Hp), amakeSlice T heap t l c [] = some r → ∃ e te els ccs, T e = some te ∧ r = laid heap te.size e els [] ∧
      (execOp a.eval o).run P w = .ok (.value (.slice (some ⟨w.heap.size, 0, none⟩) els.length els.length)) (w.alloc (.cells ccs.toArray e)) ∧ VRels g.imm g.mu te.size els ccs ∧ ∀ el ∈ els, fit te el = true := by
    intro heap r hk
    unfold amakeSlice at hk
    split at hk
    · rename_i e _ ht
      split at hk
      · rename_i te hte
        split at hk
        · rename_i z n m hz
          split at hk
          · rename_i hn
            obtain ⟨h0, hnm, hsz, hb⟩ := hn
            subst hnm
            cases hk
            obtain ⟨i, zv, u, h1, h2, h3, h4, h5, h6, h7, h8, h9, h10, h11, h12⟩ := hT.info hte
            have hu := hT.slice ht rfl
            obtain ⟨cs, e1, e2, e3⟩ := zrow_ok hT hte hz h6 hsz n.toNat g.imm g.mu
            refine ⟨e, te, List.replicate n.toNat z, cs, hte, rfl, ?_, e2, fun el hel => by rw [(List.mem_replicate.1 hel).2]; exact e3⟩
            have hb' : n * (te.bytes : Int) + n ≤ 2 ^ 40 := by
              have : n * ((te.bytes : Int) + 1) = n * (te.bytes : Int) + n := by rw [Int.mul_add, Int.mul_one]
              omega
            have hnb : 0 ≤ n * (te.bytes : Int) := Int.mul_nonneg h0 (by omega)
            have hr := run_make (P := P) w t e i zv hu h1 h2 .i64 .i64 n n h0 (Int.le_refl _) (by rw [h5, Int.mul_comm]; omega) (by omega)
            simp only [execOp, ho, Sem.run_bind, VR_lit hl, VR_lit hc, hr, Result.andThen, Sem.run_pure, madeCells, h4, e1, List.length_replicate]
          · cases hk
        · cases hk
      · cases hk
    · cases hk
  unfold lMakeSlice at h
  split at h
  · cases hr : amakeSlice T true t l c [] with
    | none => rw [hr] at h; cases h
    | some r =>
      rw [hr] at h
      obtain ⟨e, te, els, ccs, k1, k3, k5, k6, k7⟩ := key true r hr
      subst k3
      simp only [laid, if_true, List.nil_append, lLaid] at h
      split at h
      · cases h
      · rename_i hf
        cases h
        exact OpOk.laidB (ccs := ccs) (e := e) (ti := te) hm (not_false_true hf) w (.inl rfl) els.length (Nat.le_refl _) [] (by rw [k5]; simp) k6 k7 rfl
  · cases hr : amakeSlice T false t l c [] with
    | none => rw [hr] at h; cases h
    | some r =>
      rw [hr] at h
      obtain ⟨e, te, els, ccs, k1, k3, k5, k6, k7⟩ := key false r hr
      subst k3
      simp only [laid, Option.map_some, Option.some.injEq] at h
      subst h
      exact OpOk.laidV hm k5 k6

theorem lMakeMap_ok {ro : Nat} {g : Gh} {H : Hp} {w : World} {o : Oper} {a : Act} {nm : Nat} {t : TypeId} (hm : MR g ro H w) (ho : o.op = .makeMap t none) (hf : Abs.free ro H nm = true) :
    OpOk P ro g H w o a { v := .mp nm, up := some (nm, .mapo []) } := by
  refine OpOk.named hm hf (.map #[] 0) 0 w (.inl rfl) (c := .map (some w.heap.size)) ?_ ?_ ?_
  · simp [execOp, ho, Instr.makeMap]
  · exact ⟨w.heap.size, 0, #[], 0, by simp [Gh.named], heap_alloc_new w _, by simp [MapR]⟩
  · simp only [VR]
    exact ⟨w.heap.size, 0, by simp [Gh.named], rfl⟩

/-! ### what has an owner moves -/
theorem owner_spec {fr : PT} {x : Operand} {t : Tmp} (h : owner fr x = some t) : x = .tmp t ∧ ∃ sz els, fr.get t = .vec sz .own els := by
  unfold owner at h
  split at h
  · rename_i s
    split at h
    · rename_i sz els he
      cases h
      exact ⟨rfl, sz, els, he⟩
    · cases h
  · cases h

theorem eval_tmp {a : Act} {t : Tmp} {v : Value} (h : a.tmps[t]? = some v) : a.eval (.tmp t) = v := by
  show a.tmps.getD t undef = v
  rw [Array.getD_eq_getD_getElem?, h]; rfl

/-- of a world in which one slice has a new owner -/
structure Took (g : Gh) (ro : Nat) (H : Hp) (w : World) (t : Tmp) (loc : Loc) (x : AV) (c : Value) (g' : Gh) (X : Nat → Prop) : Prop where
  keeps : Keeps g w g' w X
  mem : MR g' ro H w
  slot : ∀ t' B, g.ow B = some (.slot t') → X B → some t = some t'
  only : ∀ B, X B → g.ow B = some (.slot t) ∧ ∃ ccs e, w.heap[B]? = some (.cells ccs e (0, 0))
  sr : SR g' w loc x c
  imm : g'.imm = g.imm
  mu : g'.mu = g.mu
  ow : ∀ B, ¬ X B → g'.ow B = g.ow B

theorem Rel.take {g : Gh} {ro nt : Nat} {fr : PT} {H : Hp} {a : Act} {w : World} (h : Rel g ro nt fr H a.tmps w) {x : Operand} {t : Tmp} (ho : owner fr x = some t) (loc : Loc) :
    ∃ g' X, Took g ro H w t loc (fr.get t) (a.eval x) g' X := by
  obtain ⟨rfl, sz, els, he⟩ := owner_spec ho
  rcases h.slots t with hd | ⟨v, hv, hs⟩
  · rw [hd] at he; cases he
  · rw [eval_tmp hv]
    rw [he] at hs ⊢
    obtain ⟨B, cap, cs, h1, h2, h3, h4, h5, h6, ccs, e, h7, h8⟩ := hs
    have hlt := h.mem.owlt B _ h5
    have k : Keeps g w { g with ow := fun B' => if B' = B then some loc else g.ow B' } w (fun B' => B' = B) :=
      ⟨Imm.le_refl _, .refl _ _, Nat.le_refl _, fun B' _ hB' => ⟨by simp [hB'], fun _ => rfl, rfl⟩, .refl _⟩
    refine ⟨{ g with ow := fun B' => if B' = B then some loc else g.ow B' }, fun B' => B' = B, ⟨k, ⟨h.mem.role, h.mem.imm, h.mem.dom, h.mem.inj, h.mem.lt, ?_, ?_, ?_, ?_⟩, ?_, ?_, ?_, rfl, rfl, ?_⟩⟩
    · intro B' l hl
      by_cases e : B' = B
      · rw [e]; exact hlt
      · simp only [e, if_false] at hl; exact h.mem.owlt B' l hl
    · intro b B' s hb hmu
      have := h.mem.prot b B' s hb hmu
      have hne : B' ≠ B := by intro e; rw [e, h5] at this; cases this
      simpa [hne] using this
    · intro b B' s hb hmu
      have := h.mem.free b B' s hb hmu
      have hne : B' ≠ B := by intro e; rw [e, h5] at this; cases this
      simpa [hne] using this
    · intro b blk hb
      refine (h.mem.blk b blk hb).keeps k h.mem.owlt (fun B sz h' => h.mem.lt b B sz h') ?_ ?_ id
      · intro B' s hmu e
        subst e
        rcases Nat.lt_or_ge b ro with hro | hro
        · have := h.mem.prot b B' s hro hmu; rw [h5] at this; cases this
        · have := h.mem.free b B' s hro hmu; rw [h5] at this; cases this
      · intro B' i j hB' e
        subst e; rw [h5] at hB'; cases hB'
    · intro t' B' hB' e
      subst e; rw [h5] at hB'; cases hB'; rfl
    · intro B' hb; subst hb; exact ⟨h5, ccs, e, h7⟩
    · exact ⟨B, cap, cs, h1, h2, h3, h4, by simp, h6, ccs, e, h7, h8⟩
    · intro B' hB'; simp [hB']

theorem Took.opOk {g : Gh} {ro : Nat} {H : Hp} {w : World} {t : Tmp} {x : AV} {c : Value} {g' : Gh} {X : Nat → Prop} {o : Oper} {a : Act} (h : Took g ro H w t (.slot (o.dst.getD 0)) x c g' X) (ht : t < 16000)
    (he : (execOp a.eval o).run P w = .ok (.value c) w) : OpOk P ro g H w o a { v := x, un := some t } :=
  ⟨⟨c, _, w, g', X, he, .inl rfl, h.keeps, h.mem, h.slot, fun B l hB hl hX => (by rw [(h.only B hX).1] at hB; cases hB; exact hl), fun L lr hX hl => (by
    obtain ⟨_, ccs, e, hc⟩ := h.only L hX
    rw [hc] at hl; cases hl), h.sr⟩, fun t' ht' => by cases ht'; exact ht⟩

theorem Rel.owner_lt {g : Gh} {ro nt : Nat} {fr : PT} {H : Hp} {tm : Array Value} {w : World} (h : Rel g ro nt fr H tm w) {x : Operand} {t : Tmp} (ho : owner fr x = some t) : t < 16000 := by
  obtain ⟨_, _, _, he⟩ := owner_spec ho
  exact Nat.lt_of_lt_of_le (h.own_lt (by rw [he]; simp)) h.nt_le

/-! ### rows of blocks -/
theorem ER.elem {g : Gh} {w : World} {B sz b i : Nat} {el : AV} (h : ER g w B sz b i el) :
    ∃ c : Value, c.cells.size = sz ∧ (∀ x ∈ c.cells.toList, one x) ∧ VR g.imm g.mu (drp el) c ∧ ∀ j x, c.cells.toList[j]? = some x → w.cell? ⟨B, i * sz + j, none⟩ = some x := by
  unfold ER at h
  cases ha : aggOf el with
  | some l =>
    rw [ha] at h
    obtain ⟨h1, h2⟩ := h
    obtain ⟨cs, h3, h4⟩ := list_of_get h2
    have hget : ∀ k (c : Value), cs[k]? = some c → ∃ a, l[k]? = some a ∧ w.cell? ⟨B, i * sz + k, none⟩ = some c ∧ one c ∧ SR g w (.cell b i k) a c := by
      intro k c hc
      have hlt : k < l.length := by rw [← h3]; exact (List.getElem?_eq_some_iff.1 hc).1
      exact ⟨_, List.getElem?_eq_getElem hlt, h4 k _ c (List.getElem?_eq_getElem hlt) hc⟩
    have hones : ∀ x ∈ cs, one x := fun x hx => by
      obtain ⟨k, hk⟩ := List.getElem?_of_mem hx
      obtain ⟨_, _, _, h, _⟩ := hget k x hk
      exact h
    refine ⟨.agg cs.toArray, by simp [Value.cells, h3, h1], by simpa [Value.cells] using hones, ?_, fun j x hx => ?_⟩
    · rw [aggOf_some ha]
      simp only [drp, VR]
      refine ⟨cs, rfl, VRs.of (by simp [h3]) fun k a c hk hc => ?_, hones⟩
      rw [List.getElem?_map] at hk
      cases hl : l[k]? with
      | none => rw [hl] at hk; cases hk
      | some a' => rw [hl] at hk; cases hk; exact (h4 k a' c hl hc).2.2.shr
    · obtain ⟨_, _, h, _⟩ := hget j x (by simpa [Value.cells] using hx)
      exact h
  | none =>
    rw [ha] at h
    obtain ⟨h1, c, h2, h3, h4⟩ := h
    subst h1
    refine ⟨c, by rw [one_cells h3]; rfl, fun x hx => by rw [one_cells h3] at hx; simp at hx; rw [hx]; exact h3, ?_, fun j x hx => ?_⟩
    · have hd : drp el = shr el := by
        cases el with
        | agg l => simp [aggOf] at ha
        | tup l =>
          have := (SR_notOwn (a := .tup l) rfl).1 h4
          simp only [VR] at this
          obtain ⟨cs, rfl, _⟩ := this
          simp [one, Value.oneCell'] at h3
        | _ => rfl
      rw [hd]; exact h4.shr
    · rw [one_cells h3] at hx
      cases j with
      | zero => simp at hx; subst hx; simpa using h2
      | succ j => simp at hx

theorem rows_ok {g : Gh} {w : World} {B sz b : Nat} : ∀ {L : List AV} {i : Nat}, (∀ k el, L[k]? = some el → ER g w B sz b (i + k) el) →
    ∃ cs : List Value, VRels g.imm g.mu sz (L.map drp) cs ∧ ∀ k c, cs[k]? = some c → w.cell? ⟨B, i * sz + k, none⟩ = some c
  | [], i, _ => ⟨[], by simp [VRels], by simp⟩
  | el :: L, i, h => by
    obtain ⟨c, h1, h2, h3, h4⟩ := (h 0 el rfl).elem
    obtain ⟨cs, h5, h6⟩ := rows_ok (L := L) (i := i + 1) fun k el' hk => by
      have := h (k + 1) el' (by simpa using hk)
      rwa [show i + (k + 1) = i + 1 + k by omega] at this
    refine ⟨c.cells.toList ++ cs, by simp only [List.map_cons, VRels]; exact ⟨c, cs, rfl, h1, h2, h3, h5⟩, fun k x hx => ?_⟩
    have hl : c.cells.toList.length = sz := by simpa using h1
    rw [List.getElem?_append, hl] at hx
    split at hx
    · exact h4 k x hx
    · rename_i hk
      have := h6 (k - sz) x hx
      rw [show (i + 1) * sz + (k - sz) = i * sz + k by rw [Nat.add_mul]; omega] at this
      exact this

theorem cl1_drp (a : AV) : Abs.cl1 (drp a) = Abs.cl1 a := by
  cases a with
  | agg l => simp [drp, Abs.cl1, shr_cl0]
  | vec sz k els => cases k <;> rfl
  | tup l => rfl
  | _ => rfl

/-- a part of a block that is read as a list -/
theorem BR.part {g : Gh} {w : World} {b B sz i len : Nat} {e : TypeId} {els : List AV} (hmu : g.mu b = some (B, sz)) (h : BR g w b (.cells sz e els)) :
    ∃ cs : List Value, VRels g.imm noMu sz (((els.drop i).take len).map Abs.cl1) cs ∧ ∀ k c, cs[k]? = some c → w.cell? ⟨B, i * sz + k, none⟩ = some c := by
  obtain ⟨B', h1, _, _, h4⟩ := h
  rw [hmu] at h1; cases h1
  obtain ⟨cs, h5, h6⟩ := rows_ok (g := g) (w := w) (B := B) (sz := sz) (b := b) (L := (els.drop i).take len) (i := i) fun k el hk => by
    rw [List.getElem?_take] at hk
    split at hk
    · rw [List.getElem?_drop] at hk; exact h4 _ _ hk
    · cases hk
  have := h5.cl1
  rw [List.map_map, show Abs.cl1 ∘ drp = Abs.cl1 from funext cl1_drp] at this
  exact ⟨cs, this, h6⟩

/-- what a slice holds -/
theorem items_ok {g : Gh} {ro : Nat} {H : Hp} {w : World} (hm : MR g ro H w) {sz : Nat} {x : AV} {c : Value} {xs : List AV} (hx : VR g.imm g.mu x c) (h : items sz H x = some xs) :
    (∃ cap, c = .slice none 0 cap ∧ xs = []) ∨
    ∃ B o cap cs, c = .slice (some ⟨B, o, none⟩) xs.length cap ∧ VRels g.imm noMu sz xs cs ∧ ∀ k v, cs[k]? = some v → w.cell? ⟨B, o + k, none⟩ = some v := by
  unfold items at h
  split at h
  · split at h
    · rename_i hs
      cases h; subst hs
      simp only [VR] at hx
      obtain ⟨B, o, cap, cs, rfl, _, _, _, h5, h6⟩ := hx
      exact .inr ⟨B, o, cap, cs, rfl, h5, fun k v hk => hm.imm _ _ _ (h6 k v hk)⟩
    · cases h
  · cases h
    exact .inl ⟨_, VR_lit hx, rfl⟩
  · rename_i b sz0 i len cap
    split at h
    · rename_i sz' e els hb
      split at h
      · rename_i hc
        obtain ⟨rfl, hlen⟩ := hc
        cases h
        simp only [VR] at hx
        obtain ⟨B, cap', hmu, _, rfl⟩ := hx
        have hbr := hm.blk b _ hb
        have hsz : sz0 = sz' := by
          obtain ⟨B', h1, _⟩ := hbr
          rw [hmu] at h1; cases h1; rfl
        subst hsz
        obtain ⟨cs, h1, h2⟩ := hbr.part (i := i) (len := len) hmu
        exact .inr ⟨B, i * sz0, cap', cs, by simp [Nat.min_def]; omega, h1, h2⟩
      · cases h
    · cases h
  · cases h

/-- a block is read as a list, for good -/
theorem freeze_ok {ro : Nat} {g : Gh} {H : Hp} {w : World} {o : Oper} {a : Act} {v : AV} {c : Value} {ef : Eff} (hm : MR g ro H w) (hx : VR g.imm g.mu v c)
    (he : (execOp a.eval o).run P w = .ok (.value c) w) (h : freeze H ro v = some ef) : OpOk P ro g H w o a ef := by
  unfold freeze at h
  split at h
  · rename_i b sz0 i len cap
    split at h
    · cases h
    · rename_i hro
      split at h
      · rename_i sz e els hb
        split at h
        · rename_i hc
          obtain ⟨hlen, hcap⟩ := hc
          cases h
          simp only [VR] at hx
          obtain ⟨B, cap', hmu, hle, rfl⟩ := hx
          have hbr := hm.blk b _ hb
          have hbr' := hbr
          obtain ⟨B', h1, ⟨ccs, e', hcc⟩, himm, _⟩ := hbr'
          rw [hmu] at h1
          cases h1
          obtain ⟨cs, h5, h6⟩ := hbr.part (i := i) (len := len) hmu
          have how : g.ow B = none := hm.free b B sz0 (by omega) hmu
          have k : Keeps g w { g with imm := fun B' o => if B' = B then (if i * sz0 ≤ o ∧ o < i * sz0 + cs.length then cs[o - i * sz0]? else none) else g.imm B' o } w (fun B' => B' = B) :=
            ⟨fun B' o x hx => by
              have : B' ≠ B := by intro e; subst e; rw [himm] at hx; cases hx
              simp [this, hx], .refl _ _, Nat.le_refl _, fun B' _ hB' => ⟨rfl, fun o => by simp [hB'], rfl⟩, .refl _⟩
          have hseg : Seg (fun B' o => if B' = B then (if i * sz0 ≤ o ∧ o < i * sz0 + cs.length then cs[o - i * sz0]? else none) else g.imm B' o) B (i * sz0) cs := by
            intro j x hj
            have hl := (List.getElem?_eq_some_iff.1 hj).1
            simp only [if_true]
            rw [if_pos (by omega), show i * sz0 + j - i * sz0 = j by omega]; exact hj
          refine ⟨⟨_, _, w, _, _, he, .inl rfl, k, ?_, ?_, ?_, ?_, ?_⟩, fun t ht => by cases ht⟩
          · refine hm.change k b ?_ rfl hm.owlt (fun _ _ _ _ => rfl) (fun b' hb' => putB_ne hb') ?_ ?_ ?_ ?_
            · intro B' o x hx
              by_cases e : B' = B
              · subst e
                simp only [if_true] at hx
                split at hx
                · rename_i ho
                  have := h6 _ x hx
                  rwa [show i * sz0 + (o - i * sz0) = o by omega] at this
                · cases hx
              · simp only [e, if_false] at hx; exact hm.imm B' o x hx
            · have := lt_of_get hb
              simp only [putB]; rw [if_neg (by omega)]; simp
            · intro b' B' s hne hmu' e
              subst e; exact hne (hm.inj b' b _ _ _ hmu' hmu)
            · intro b' B' i' j' _ hB' e
              subst e; rw [how] at hB'; cases hB'
            · intro blk hblk
              rw [putB_same (Nat.le_of_lt (lt_of_get hb))] at hblk
              cases hblk; trivial
          · intro t B' hB' e; subst e; rw [how] at hB'; cases hB'
          · intro B' l hB' hl e; subst e; rw [how] at hB'; cases hB'
          · intro L lr e hl; subst e; rw [hcc] at hl; cases hl
          · refine VR.sr ?_
            simp only [VR]
            have hl : (((els.drop i).take len).map Abs.cl1).length = len := by simp [Nat.min_def]; omega
            exact ⟨B, i * sz0, cap', cs, by rw [hl], by simp, by simp, by omega, VRels.mono k.imm _ (Mu.le_refl _) h5, hseg⟩
        · cases h
      · cases h
  · cases h

end Go.Abs
