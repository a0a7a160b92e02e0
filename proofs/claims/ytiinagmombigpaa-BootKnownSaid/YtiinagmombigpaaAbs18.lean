/- Reads and writes of blocks. -/
import Derived.Test.YtiinagmombigpaaAbs17
set_option linter.unusedVariables false
set_option linter.unusedSimpArgs false
set_option linter.unnecessarySimpa false
namespace Go.Abs
variable {P : Program} {T : TypeId → Option TI} {imm : Imm} {mu : Mu}

theorem Keeps.trans {g g1 g2 : Gh} {w w1 w2 : World} {X Y : Nat → Prop} (h : Keeps g w g1 w1 X) (k : Keeps g1 w1 g2 w2 Y) : Keeps g w g2 w2 (fun B => X B ∨ Y B) :=
  ⟨Imm.le_trans h.imm k.imm, h.mun.trans k.mun h.size, Nat.le_trans h.size k.size, fun B hB hn => by
    obtain ⟨a1, a2, a3⟩ := h.same B hB fun e => hn (.inl e)
    obtain ⟨b1, b2, b3⟩ := k.same B (Nat.lt_of_lt_of_le hB h.size) fun e => hn (.inr e)
    exact ⟨b1.trans a1, fun o => (b2 o).trans (a2 o), b3.trans a3⟩, h.out.trans k.out⟩

theorem ER.room {g : Gh} {w : World} {B sz b i : Nat} {el : AV} (h : ER g w B sz b i el) {ccs : Array Value} {e : TypeId} {fz : Nat × Nat} (hh : w.heap[B]? = some (.cells ccs e fz)) : i * sz + sz ≤ ccs.size ∨ sz = 0 := by
  unfold ER at h
  cases ha : aggOf el with
  | some l =>
    rw [ha] at h
    obtain ⟨h1, h2⟩ := h
    rcases Nat.eq_zero_or_pos sz with h0 | h0
    · exact .inr h0
    · left
      have hlt : sz - 1 < l.length := by omega
      obtain ⟨c, h3, _⟩ := h2 (sz - 1) _ (List.getElem?_eq_getElem hlt)
      have := cell_in hh h3
      omega
  | none =>
    rw [ha] at h
    obtain ⟨h1, c, h3, _⟩ := h
    subst h1
    have := cell_in hh h3
    left; omega

theorem out_setCells (B o : Nat) : ∀ (vs : List Value) (o : Nat) (w : World), Outs w (w.setCells B o vs)
  | [], _, w => .refl w
  | v :: r, o, w => by
    rw [World.setCells]
    exact Outs.trans (b := w.setCell ⟨B, o, none⟩ v) ⟨rfl, rfl, rfl⟩ (out_setCells B o r (o + 1) _)

/-- a part of an element of a block is written -/
theorem write_ok {ro : Nat} {g : Gh} {H : Hp} {w : World} {b i j sz : Nat} {e : TypeId} {els : List AV} {el el' x : AV} {ti : TI} {c : Value} (hm : MR g ro H w) (hro : ro ≤ b) (hb : H[b]? = some (.cells sz e els)) (hel : els[i]? = some el)
    (hs : elSet ti el j x = some el') (hx : SR g w (.cell b i j) x c) :
    ∃ B w', g.mu b = some (B, sz) ∧ (storeCells ⟨B, i * sz + j, none⟩ c.cells.toList).run P w = .ok () w' ∧ Keeps g w g w' (fun B' => B' = B) ∧ MR g ro (H.set b (.cells sz e (els.set i el'))) w' ∧ g.ow B = none ∧
      (∃ ccs e, w.heap[B]? = some (.cells ccs e (0, 0))) ∧ c.cells.size = ti.size := by
  obtain ⟨B, hmu, ⟨ccs, e', hcc⟩, himm, hER⟩ := hm.blk b _ hb
  have how : g.ow B = none := hm.free b B sz hro hmu
  have hfit := elSet_fit hs
  have hF := own_fit hfit hx
  have her := hER i el hel
  have hroom := her.room hcc
  have hcl : c.cells.toList.length = ti.size := by simpa using hF.size
  -- the bound is known before the write
  have hj : j + c.cells.toList.length ≤ sz := by
    unfold elSet at hs
    split at hs
    · cases hs
    · split at hs
      · rename_i l
        split at hs
        · have := elem_len her; omega
        · cases hs
      · cases hs
      · rename_i hna _
        split at hs
        · rename_i hc
          have hae : aggOf el = none := by cases el <;> first | rfl | exact absurd rfl (hna _)
          have hax : aggOf x = none := by
            cases hxx : aggOf x with
            | none => rfl
            | some l => have := (hF.agg l (aggOf_some hxx)).2; rw [this] at hc; cases hc.1
          unfold ER at her
          rw [hae] at her
          have := (hF.scal hax).2.1
          have := her.1
          omega
        · cases hs
  have hroom2 : i * sz + j + c.cells.toList.length ≤ ccs.size ∨ c.cells.toList.length = 0 := by
    rcases hroom with h | h
    · left; omega
    · right; omega
  refine ⟨B, w.setCells B (i * sz + j) c.cells.toList, hmu, ?_, ?_, ?_, how, ⟨ccs, e', hcc⟩, hF.size⟩
  · have := run_storeCells_cells (P := P) B (i * sz + j) c.cells.toList 0 w (fun k hk => by
      rcases hroom2 with h | h
      · exact cell_lt hcc (by omega)
      · omega) (fun k hk => frozen_of_cells hcc _) (fun v hv => hF.ones v hv)
    simpa using this
  · refine ⟨Imm.le_refl _, .refl _ _, Nat.le_of_eq (size_setCells B _ _ _).symm, fun B' _ hB' => ⟨rfl, fun _ => rfl, heap_setCells_ne B _ _ _ (Ne.symm hB')⟩, out_setCells B 0 _ _ _⟩
  · have k : Keeps g w g (w.setCells B (i * sz + j) c.cells.toList) (fun B' => B' = B) :=
      ⟨Imm.le_refl _, .refl _ _, Nat.le_of_eq (size_setCells B _ _ _).symm, fun B' _ hB' => ⟨rfl, fun _ => rfl, heap_setCells_ne B _ _ _ (Ne.symm hB')⟩, out_setCells B 0 _ _ _⟩
    refine hm.change k b ?_ rfl ?_ (fun _ _ _ _ => rfl) ?_ (by simp) ?_ ?_ ?_
    · intro B' o v hv
      have hne : B' ≠ B := by intro e; subst e; rw [himm] at hv; cases hv
      rw [cell_of_heap (heap_setCells_ne B _ _ _ (Ne.symm hne))]
      exact hm.imm B' o v hv
    · intro B' l hl; rw [size_setCells]; exact hm.owlt B' l hl
    · intro b' hb'; rw [List.getElem?_set_ne (Ne.symm hb')]
    · intro b' B' s hne hmu' e
      subst e; exact hne (hm.inj b' b _ _ _ hmu' hmu)
    · intro b' B' i' j' _ hB' e
      subst e; rw [how] at hB'; cases hB'
    · intro blk hblk
      rw [List.getElem?_set_self (lt_of_get hb)] at hblk
      cases hblk
      obtain ⟨ccs', hcc', hsz'⟩ := heap_setCells_cells B c.cells.toList (i * sz + j) w hcc
      refine ⟨B, hmu, ⟨ccs', e', hcc'⟩, himm, fun i' el'' hel' => ?_⟩
      have hother : ∀ B', g.ow B' ≠ none → (w.setCells B (i * sz + j) c.cells.toList).heap[B']? = w.heap[B']? := by
        intro B' hB'
        have hne : B ≠ B' := by intro e; subst e; exact hB' how
        exact heap_setCells_ne B _ _ _ hne
      by_cases ei : i' = i
      · subst ei
        rw [List.getElem?_set_self (List.getElem?_eq_some_iff.1 hel).1] at hel'
        cases hel'
        have hx' : ∀ loc, isOwn x = false → SR g (w.setCells B (i' * sz + j) c.cells.toList) loc x c := fun loc ho => (SR_notOwn ho).2 ((SR_notOwn ho).1 hx)
        have hbz : i' * sz + sz ≤ ccs.size := by
          rcases hroom with h | h
          · exact h
          · rw [h]; simp
        exact (ER.set her hs hx' (fun _ => hx.keeps k hm.owlt fun B' hB' e => by subst e; rw [how] at hB'; cases hB') hF (fun ho => VR_cellsOf hfit ((SR_notOwn ho).1 hx)) (Imm.le_refl _) (Mu.le_refl _) hcc rfl
          (fun B' j' hB' => ⟨fun _ => rfl, hother B' (by rw [hB']; simp), rfl⟩) hbz).1
      · rw [List.getElem?_set_ne (Ne.symm ei)] at hel'
        have her' := hER i' el'' hel'
        have hsame : ∀ k, k < sz → (w.setCells B (i * sz + j) c.cells.toList).cell? ⟨B, i' * sz + k, none⟩ = w.cell? ⟨B, i' * sz + k, none⟩ := by
          intro k hk
          rw [cell_setCells hcc (by
            rcases hroom with h | h
            · omega
            · omega), if_neg]
          intro ⟨h1, h2⟩
          have := off_ne (sz := sz) (Ne.symm ei) (show i' * sz + k - i * sz < sz by omega) hk
          omega
        unfold ER at her' ⊢
        cases ha : aggOf el'' with
        | some l =>
          rw [ha] at her'
          obtain ⟨h1, h2⟩ := her'
          refine ⟨h1, fun k a hk => ?_⟩
          obtain ⟨c', h3, h4, h5⟩ := h2 k a hk
          have hk' : k < sz := by rw [← h1]; exact (List.getElem?_eq_some_iff.1 hk).1
          exact ⟨c', by rw [hsame k hk']; exact h3, h4, h5.keeps ‹_› hm.owlt fun B' hB' e => by subst e; rw [how] at hB'; cases hB'⟩
        | none =>
          rw [ha] at her'
          obtain ⟨h1, c', h3, h4, h5⟩ := her'
          subst h1
          have := hsame 0 (by omega)
          rw [Nat.add_zero, Nat.mul_one i'] at this
          exact ⟨rfl, c', by rw [this]; exact h3, h4, h5.keeps ‹_› hm.owlt fun B' hB' e => by subst e; rw [how] at hB'; cases hB'⟩

theorem putB_set {H : Hp} {b : Nat} {blk : ABlock} (h : b < H.length) : putB H (((H.set b blk)[b]?).map fun x => (b, x)) = H.set b blk := by
  rw [List.getElem?_set_self h]
  simp only [Option.map_some, putB]
  rw [if_neg (by omega)]

theorem undef_tup {imm : Imm} {mu : Mu} : VR imm mu (.tup []) undef := by simp only [VR]; exact ⟨[], rfl, rfl⟩

theorem lStore_ok (hT : TOk P T) {ro nt : Nat} {g : Gh} {fr : PT} {H : Hp} {w : World} {o : Oper} {a : Act} {t : TypeId} {A X : Operand} {ef : Eff} (hR : Rel g ro nt fr H a.tmps w)
    (ho : o.op = .store t A X) (h : lStore T ro fr H t (ev fr A) X = some ef) : OpOk P ro g H w o a ef := by
  have hA := hR.eval (a := a) A
  unfold lStore at h
  split at h
  · rename_i b i j ha
    rw [ha] at hA
    split at h
    · cases h
    · rename_i hro
      split at h
      · rename_i H' hst
        cases h
        simp only [VR] at hA
        obtain ⟨B0, sz0, hmu0, hA⟩ := hA
        -- the value, its owner changed to the cell
        have hval : ∃ g1 X1 x, x = (match owner fr X with | some s => fr.get s | none => drp (ev fr X)) ∧ Keeps g w g1 w X1 ∧ MR g1 ro H w ∧ (∀ t' B, g.ow B = some (.slot t') → X1 B → owner fr X = some t') ∧
            (∀ B, X1 B → ∃ t', g.ow B = some (.slot t')) ∧ (∀ B, X1 B → ∃ ccs e, w.heap[B]? = some (.cells ccs e (0, 0))) ∧ SR g1 w (.cell b i j) x (a.eval X) ∧ g1.mu = g.mu := by
          cases hown : owner fr X with
          | none =>
            exact ⟨g, fun _ => False, _, rfl, Keeps.refl _ _ _, hR.mem, fun _ _ _ h => h.elim, fun _ h => h.elim, fun _ h => h.elim, (hR.eval (a := a) X).drp.sr, rfl⟩
          | some s =>
            obtain ⟨g1, X1, hk⟩ := hR.take (a := a) hown (.cell b i j)
            exact ⟨g1, X1, _, rfl, hk.keeps, hk.mem, hk.slot, fun B hB => ⟨s, (hk.only B hB).1⟩, fun B hB => (hk.only B hB).2, hk.sr, hk.mu⟩
        obtain ⟨g1, X1, x, hxe, hk1, hm1, hs1, ho1, hc1, hsr, hmu1⟩ := hval
        replace hst : astore T t H (.ptr b i j) x = some H' := by rw [hxe]; exact hst
        unfold astore at hst
        split at hst
        · rename_i ti b' i' j' ht heq
          cases heq
          split at hst
          · rename_i sz e els hb
            split at hst
            · rename_i el hel
              split at hst
              · rename_i el' hset
                cases hst
                obtain ⟨B, w', h1, h2, h3, h4, h5, h6, h7⟩ := write_ok (P := P) hm1 (Nat.le_of_not_lt hro) hb hel hset hsr
                rw [hmu1, hmu0] at h1
                cases h1
                rw [putB_set (lt_of_get hb) |>.symm] at h4
                refine ⟨⟨undef, .skip, w', g1, fun B' => X1 B' ∨ B' = B0, ?_, .inr ⟨rfl, rfl⟩, hk1.trans h3, h4, ?_, ?_, ?_, undef_tup.sr⟩, fun t' ht' => hR.owner_lt ht'⟩
                · have hsz := hT.run_size ht w
                  simp only [execOp, ho, Instr.storeAt, hA, Instr.sureAddr, Sem.run_bind, Sem.run_pure, Result.andThen, storeVar, hsz, h7, ne_eq, not_true, if_false, h2]
                · intro t' B' hB' hX
                  rcases hX with hX | rfl
                  · exact hs1 t' B' hB' hX
                  · exfalso
                    have := hR.mem.free b B' sz0 (Nat.le_of_not_lt hro) hmu0
                    rw [this] at hB'; cases hB'
                · intro B' l hB' hl hX
                  rcases hX with hX | rfl
                  · obtain ⟨t', ht'⟩ := ho1 B' hX; rw [ht'] at hB'; cases hB'; exact hl
                  · have := hR.mem.free b B' sz0 (Nat.le_of_not_lt hro) hmu0
                    rw [this] at hB'; cases hB'
                · intro L lr hX hl
                  rcases hX with hX | rfl
                  · obtain ⟨ccs, e, hc⟩ := hc1 L hX; rw [hc] at hl; cases hl
                  · obtain ⟨ccs, e, hc⟩ := h6; rw [hc] at hl; cases hl
              · cases hst
            · cases hst
          · cases hst
        · cases hst
      · cases h
  · cases h

/-! ### reads -/
/-- a cell of an element -/
theorem ER.cell {g : Gh} {w : World} {B sz b i : Nat} {l : List AV} (h : ER g w B sz b i (.agg l)) {j : Nat} {a : AV} (hj : l[j]? = some a) : ∃ c, w.cell? ⟨B, i * sz + j, none⟩ = some c ∧ one c ∧ SR g w (.cell b i j) a c := h.2 j a hj

theorem atake_ok {ro : Nat} {g : Gh} {H H' : Hp} {w : World} {d : Loc} {x v : AV} {b : Nat} {c : Value} (hm : MR g ro H w) (hx : VR g.imm g.mu x c) (h : atake H x = some (v, b, H')) :
    ∃ B0 o g' X cv, c = .pointer (some ⟨B0, o, none⟩) ∧ w.cell? ⟨B0, o, none⟩ = some cv ∧ Keeps g w g' w X ∧ MR g' ro H' w ∧ (∀ B, X B → (∃ i j, g.ow B = some (.cell b i j)) ∧ ∃ ccs e, w.heap[B]? = some (.cells ccs e (0, 0))) ∧ SR g' w d v cv ∧
      ∃ blk, H' = H.set b blk ∧ b < H.length := by
  unfold atake at h
  split at h
  · rename_i b0 i j
    split at h
    · rename_i sz e els hb
      simp only [VR] at hx
      obtain ⟨B, sz0, hmu, rfl⟩ := hx
      have hbr := hm.blk b0 _ hb
      obtain ⟨B', h1, hcc, himm, hER⟩ := hbr
      rw [hmu] at h1; cases h1
      -- one cell loses its right
      have key : ∀ (s : Nat) (xs : List AV) (el' : AV) (j : Nat) (cv : Value), SR g w (.cell b0 i j) (.vec s .own xs) cv → (∀ (g' : Gh) (k : Keeps g w g' w (fun B2 => g'.ow B2 ≠ g.ow B2)) , (∀ B2, g.ow B2 ≠ g'.ow B2 → g.ow B2 = some (.cell b0 i j)) → VR g'.imm g'.mu (.vec s .shared xs) cv → ER g' w B sz b0 i el') →
          ∃ g' X, Keeps g w g' w X ∧ MR g' ro (H.set b0 (.cells sz e (els.set i el'))) w ∧ (∀ B, X B → (∃ i j, g.ow B = some (.cell b0 i j)) ∧ ∃ ccs e, w.heap[B]? = some (.cells ccs e (0, 0))) ∧ SR g' w d (.vec s .own xs) cv := by
        intro s xs el' j cv hsr hel'
        have hshr := hsr.shr
        obtain ⟨B2, cap, cs, e1, e2, e3, e4, e5, e6, ccs, e7, e8, e9⟩ := hsr
        have k : Keeps g w { g with ow := fun B' => if B' = B2 then some d else g.ow B' } w (fun B' => B' = B2) :=
          ⟨Imm.le_refl _, .refl _ _, Nat.le_refl _, fun B' _ hB' => ⟨by simp [hB'], fun _ => rfl, rfl⟩, .refl _⟩
        have hnm : ∀ b' B' s, g.mu b' = some (B', s) → B' ≠ B2 := by
          intro b' B' s hb' e
          subst e
          rcases Nat.lt_or_ge b' ro with hro | hro
          · have := hm.prot b' B' s hro hb'; rw [e5] at this; cases this
          · have := hm.free b' B' s hro hb'; rw [e5] at this; cases this
        refine ⟨{ g with ow := fun B' => if B' = B2 then some d else g.ow B' }, fun B' => B' = B2, k, ?_, ?_, ⟨B2, cap, cs, e1, e2, e3, e4, by simp, e6, ccs, e7, e8, e9⟩⟩
        · refine hm.change k b0 hm.imm rfl ?_ ?_ ?_ (by simp) ?_ ?_ ?_
          · intro B' l hl
            by_cases e : B' = B2
            · rw [e]; exact hm.owlt B2 _ e5
            · simp only [e, if_false] at hl; exact hm.owlt B' l hl
          · intro b' B' s hb'; simp [hnm b' B' s hb']
          · intro b' hb'; rw [List.getElem?_set_ne (Ne.symm hb')]
          · intro b' B' s hne hb' e; exact hnm b' B' s hb' e
          · intro b' B' i' j' hne hB' e; subst e; rw [e5] at hB'; cases hB'; exact hne rfl
          · intro blk hblk
            rw [List.getElem?_set_self (lt_of_get hb)] at hblk
            cases hblk
            refine ⟨B, hmu, hcc, himm, fun i' el'' hel'' => ?_⟩
            by_cases ei : i' = i
            · subst ei
              have hlt : i' < els.length := by
                have := (List.getElem?_eq_some_iff.1 hel'').1; simpa using this
              rw [List.getElem?_set_self hlt] at hel''
              cases hel''
              refine hel' _ ⟨Imm.le_refl _, .refl _ _, Nat.le_refl _, fun B' _ hB' => ⟨Classical.not_not.1 hB', fun _ => rfl, rfl⟩, .refl _⟩ ?_ ?_
              · intro B' hB'
                by_cases e : B' = B2
                · subst e; exact e5
                · exact absurd (by simp [e]) hB'
              · exact hshr
            · rw [List.getElem?_set_ne (Ne.symm ei)] at hel''
              exact (hER i' el'' hel'').mono (Imm.le_refl _) (Mu.le_refl _) (fun _ => rfl) fun B' j' hB' => by
                have hne : B' ≠ B2 := by intro e; subst e; rw [e5] at hB'; cases hB'; exact ei rfl
                exact ⟨by simp [hne, hB'], fun _ => rfl, rfl⟩
        · intro B' e; subst e; exact ⟨⟨i, j, e5⟩, ccs, e7, e8⟩
      split at h
      · rename_i s xs hel
        split at h
        · rename_i hj
          cases h
          subst hj
          have her := hER i _ hel
          have her2 := her
          unfold ER at her2
          simp only [aggOf] at her2
          obtain ⟨hsz, cv, hcv, hone, hsr⟩ := her2
          subst hsz
          obtain ⟨g', X, k1, k2, k3, k4⟩ := key s xs (.vec s .shared xs) 0 cv hsr fun g' k hk hv => by
            unfold ER
            show 1 = 1 ∧ _
            exact ⟨rfl, cv, hcv, hone, hv.sr⟩
          exact ⟨B, i * 1 + 0, g', X, cv, rfl, by simpa using hcv, k1, k2, k3, k4, _, rfl, lt_of_get hb⟩
        · cases h
      · rename_i l hel
        split at h
        · rename_i s xs hl
          cases h
          have her := hER i _ hel
          obtain ⟨cv, hcv, hone, hsr⟩ := her.cell hl
          obtain ⟨g', X, k1, k2, k3, k4⟩ := key s xs (.agg (l.set j (.vec s .shared xs))) j cv hsr fun g' k hk hv => by
            refine ⟨by simpa using her.1, fun j' a' ha' => ?_⟩
            by_cases ej : j' = j
            · subst ej
              rw [List.getElem?_set_self (List.getElem?_eq_some_iff.1 hl).1] at ha'
              cases ha'
              exact ⟨cv, hcv, hone, hv.sr⟩
            · rw [List.getElem?_set_ne (Ne.symm ej)] at ha'
              obtain ⟨c', h3, h4, h5⟩ := her.2 j' a' ha'
              refine ⟨c', h3, h4, h5.keeps k hm.owlt fun B' hB' hne => ?_⟩
              have := hk B' (Ne.symm hne)
              rw [hB'] at this; cases this; exact ej rfl
          exact ⟨B, i * sz + j, g', X, cv, rfl, hcv, k1, k2, k3, k4, _, rfl, lt_of_get hb⟩
        · cases h
      · cases h
    · cases h
  · cases h

theorem rd_irrel {ro : Nat} {g : Gh} {H : Hp} {w : World} {o : Oper} {a : Act} {v : AV} {un : Option Tmp} {up : Option (Nat × ABlock)} {rd rd' : Rd} {tk tk' : Bool} (h : OpOk P ro g H w o a { v, un, up, rd, tk }) : OpOk P ro g H w o a { v, un, up, rd := rd', tk := tk' } :=
  ⟨h.out, h.un⟩

theorem lLoad_ok {cx : Cx} (hT : TOk P cx.T) {ro : Nat} {fn : FuncId} {ops : Array Oper} {g : Gh} {H : Hp} {w : World} {o : Oper} {a : Act} {t : TypeId} {A : Operand} {x : AV} {ef : Eff} (hm : MR g ro H w)
    (ho : o.op = .load t A) (hx : VR g.imm g.mu x (a.eval A)) (h : lLoad cx ro fn ops (o.dst.getD 0) H t x = some ef) : OpOk P ro g H w o a ef := by
  have hplain : ∀ v, aload cx.T t H x = some v → ∃ c, (execOp a.eval o).run P w = .ok (.value c) w ∧ VR g.imm g.mu v c := by
    intro v hv
    obtain ⟨c, h1, h2⟩ := aload_ok (P := P) hT hm hx hv
    exact ⟨c, by simp [execOp, ho, h1, Result.andThen], h2⟩
  unfold lLoad at h
  split at h
  · cases hl : aload cx.T t H x with
    | none => rw [hl] at h; cases h
    | some v =>
      rw [hl] at h
      obtain ⟨c, h1, h2⟩ := hplain v hl
      simp only [Option.bind_some] at h
      cases hf : freeze H ro v with
      | none => rw [hf] at h; cases h
      | some ef0 =>
        rw [hf] at h
        cases h
        exact rd_irrel (freeze_ok hm h2 h1 hf)
  · have hp : ∀ r, (aload cx.T t H x).map (.rdd r) = some ef → OpOk P ro g H w o a ef := by
      intro r h
      cases hl : aload cx.T t H x with
      | none => rw [hl] at h; cases h
      | some v => rw [hl] at h; cases h; exact OpOk.pure hm (hplain v hl)
    split at h
    · split at h
      rename_i v b H' htk
      · unfold lTake at h
        split at h
        · cases h
        · rename_i hn
          cases h
          have hro : ro ≤ b := Nat.le_of_not_lt fun e => hn (.inl e)
          have hagg : (cx.T t).map (·.agg) = some false := Classical.not_not.1 fun e => hn (.inr e)
          cases htt : cx.T t with
          | none => rw [htt] at hagg; cases hagg
          | some ti =>
            rw [htt] at hagg
            simp only [Option.map_some, Option.some.injEq] at hagg
            obtain ⟨B0, of, g', X, cv, h1, h2, h3, h4, h5, h6, blk, rfl, hlt⟩ := atake_ok (d := .slot (o.dst.getD 0)) hm hx htk
            rw [← putB_set hlt] at h4
            refine ⟨⟨cv, _, w, g', X, ?_, .inl rfl, h3, h4, ?_, ?_, ?_, h6⟩, fun t ht => by cases ht⟩
            · have hag := hT.run_isAgg htt w
              simp only [execOp, ho, h1, Instr.loadAt, Instr.sureAddr, Sem.run_bind, Sem.run_pure, Result.andThen, loadVar, hag, hagg, Bool.false_eq_true, if_false, run_load_cell h2]
            · intro t' B hB hX; obtain ⟨⟨i, j, hc⟩, _⟩ := h5 B hX; rw [hc] at hB; cases hB
            · intro B l hB hl hX; obtain ⟨⟨i, j, hc⟩, _⟩ := h5 B hX; rw [hc] at hB; cases hB; exact absurd hro (Nat.not_le_of_lt hl)
            · intro L lr hX hl; obtain ⟨_, ccs, e, hc⟩ := h5 L hX; rw [hc] at hl; cases hl
      · exact hp _ h
    · exact hp _ h

theorem lMove_ok {cx : Cx} {ro nt : Nat} {fn : FuncId} {ops : Array Oper} {g : Gh} {fr : PT} {H : Hp} {w : World} {o : Oper} {a : Act} {X : Operand} {ef : Eff} (hR : Rel g ro nt fr H a.tmps w)
    (ho : o.op = .move X) (h : lMove cx ro fn ops (o.dst.getD 0) fr H X = some ef) : OpOk P ro g H w o a ef := by
  have he : (execOp a.eval o).run P w = .ok (.value (a.eval X)) w := by simp [execOp, ho]
  have hx := hR.eval (a := a) X
  unfold lMove at h
  split at h
  · exact freeze_ok hR.mem hx he h
  · split at h
    · rename_i t hown
      split at h
      · cases h
        obtain ⟨g', X, hk⟩ := hR.take (a := a) hown (.slot (o.dst.getD 0))
        exact hk.opOk (hR.owner_lt hown) he
      · cases h; exact OpOk.pure hR.mem ⟨_, he, hx⟩
    · cases h; exact OpOk.pure hR.mem ⟨_, he, hx⟩

theorem raw_ev {fr : PT} {x : Operand} (h : owner fr x = none) : raw fr x = ev fr x := by
  cases x with
  | tmp t =>
    simp only [raw, ev]
    cases hv : fr.get t with
    | vec sz k els => cases k <;> first | rfl | (simp [owner, hv] at h)
    | _ => rfl
  | _ => rfl
theorem raw_own {fr : PT} {x : Operand} {t : Tmp} (h : owner fr x = some t) : raw fr x = fr.get t := by
  obtain ⟨rfl, _⟩ := owner_spec h
  rfl

theorem lAssign_ok {ro nt : Nat} {g : Gh} {fr : PT} {H : Hp} {w : World} {o : Oper} {a : Act} {X : Operand} (hR : Rel g ro nt fr H a.tmps w)
    (ho : o.op = .assign X) : OpOk P ro g H w o a { v := raw fr X, un := owner fr X } := by
  have he : (execOp a.eval o).run P w = .ok (.value (a.eval X)) w := by simp [execOp, ho]
  have hx := hR.eval (a := a) X
  cases hown : owner fr X with
  | none => rw [raw_ev hown]; exact OpOk.pure hR.mem ⟨_, he, hx⟩
  | some t =>
    rw [raw_own hown]
    obtain ⟨g', X, hk⟩ := hR.take (a := a) hown (.slot (o.dst.getD 0))
    exact hk.opOk (hR.owner_lt hown) he

end Go.Abs
