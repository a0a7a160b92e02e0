/- Values shut off from blocks; blocks that are written. -/
import Derived.Test.YtiinagmombigpaaAbs13
namespace Go.Abs
variable {P : Program} {T : TypeId → Option TI} {imm : Imm} {mu : Mu}

theorem VR.drp : ∀ {a : AV} {c : Value}, VR imm mu a c → VR imm mu (drp a) c
  | .agg l, c, h => by
    simp only [VR, Abs.drp] at h ⊢
    obtain ⟨cs, rfl, h1, h2⟩ := h
    exact ⟨cs, rfl, h1.map fun a c h => h.shr, h2⟩
  | .tup l, c, h => by
    simp only [VR, Abs.drp] at h ⊢
    obtain ⟨cs, rfl, h1⟩ := h
    refine ⟨cs, rfl, h1.map fun a c h => ?_⟩
    cases a with
    | agg l =>
      simp only [VR] at h ⊢
      obtain ⟨cs, rfl, h1, h2⟩ := h
      exact ⟨cs, rfl, h1.map fun a c h => h.shr, h2⟩
    | _ => exact h.shr
  | .dead, _, h | .lit _, _, h | .ptr .., _, h | .sl .., _, h | .isl .., _, h | .vp .., _, h | .fn .., _, h | .yld _, _, h | .mp _, _, h => h
  | .vec .., _, h => h.shr

theorem VR.cl0 : ∀ {a : AV} {c : Value}, VR imm mu a c → VR imm noMu (cl0 a) c
  | .vec sz k els, c, h => by
    simp only [VR, Abs.cl0] at h ⊢
    obtain ⟨B, o, cap, cs, h1, h2, h3, h4, h5, h6⟩ := h
    rw [if_neg h2]
    exact ⟨B, o, cap, cs, h1, h2, h3, h4, h5, h6⟩
  | .lit _, _, h => by simpa [Abs.cl0, VR] using h
  | .vp .., _, h => by simpa [Abs.cl0, VR] using h
  | .fn f [], _, h => by simpa [Abs.cl0, VR, VRs] using h
  | .fn f (_ :: _), _, h => by simp [Abs.cl0, VR]
  | .dead, _, _ | .ptr .., _, _ | .sl .., _, _ | .isl .., _, _ | .yld _, _, _ | .mp _, _, _ | .agg _, _, _ | .tup _, _, _ => by simp [Abs.cl0, VR]
theorem VR.cl1 : ∀ {a : AV} {c : Value}, VR imm mu a c → VR imm noMu (cl1 a) c
  | .agg l, c, h => by
    simp only [VR, Abs.cl1] at h ⊢
    obtain ⟨cs, rfl, h1, h2⟩ := h
    exact ⟨cs, rfl, h1.map fun a c h => h.cl0, h2⟩
  | .dead, _, h | .lit _, _, h | .ptr .., _, h | .sl .., _, h | .isl .., _, h | .vp .., _, h | .fn .., _, h | .yld _, _, h | .mp _, _, h | .vec .., _, h | .tup .., _, h => h.cl0
theorem VR.cl2 : ∀ {a : AV} {c : Value}, VR imm mu a c → VR imm noMu (cl2 a) c
  | .tup l, c, h => by
    simp only [VR, Abs.cl2] at h ⊢
    obtain ⟨cs, rfl, h1⟩ := h
    exact ⟨cs, rfl, h1.map fun a c h => h.cl1⟩
  | .dead, _, h | .lit _, _, h | .ptr .., _, h | .sl .., _, h | .isl .., _, h | .vp .., _, h | .fn .., _, h | .yld _, _, h | .mp _, _, h | .vec .., _, h | .agg .., _, h => h.cl1

theorem shr_cl0 : ∀ (a : AV), cl0 (shr a) = cl0 a
  | .vec sz k els => by cases k <;> rfl
  | .dead | .lit _ | .ptr .. | .sl .. | .isl .. | .vp .. | .fn .. | .yld _ | .mp _ | .agg _ | .tup _ => rfl

/-- memory behind a step that touches the block of one number, and others that have none -/
theorem MR.change {g g' : Gh} {ro : Nat} {H H' : Hp} {w w' : World} {X : Nat → Prop} (hm : MR g ro H w) (k : Keeps g w g' w' X) (b : Nat)
    (himm : ∀ B o v, g'.imm B o = some v → w'.cell? ⟨B, o, none⟩ = some v) (hmu : g'.mu = g.mu) (howlt : ∀ B l, g'.ow B = some l → B < w'.heap.size)
    (hnm : ∀ b' B sz, g.mu b' = some (B, sz) → g'.ow B = g.ow B)
    (hH : ∀ b', b' ≠ b → H'[b']? = H[b']?) (hl : H'.length = H.length)
    (hX1 : ∀ b' B sz, b' ≠ b → g.mu b' = some (B, sz) → ¬ X B) (hX2 : ∀ b' B i j, b' ≠ b → g.ow B = some (.cell b' i j) → ¬ X B)
    (hb : ∀ blk, H'[b]? = some blk → BR g' w' b blk) : MR g' ro H' w' := by
  refine ⟨by rw [hl]; exact hm.role, himm, ?_, ?_, ?_, howlt, ?_, ?_, ?_⟩
  · intro b' h; rw [hmu]; exact hm.dom b' (by omega)
  · intro b1 b2 B s1 s2 h1 h2; rw [hmu] at h1 h2; exact hm.inj b1 b2 B s1 s2 h1 h2
  · intro b' B s h; rw [hmu] at h; exact Nat.lt_of_lt_of_le (hm.lt b' B s h) k.size
  · intro b' B s hb' h; rw [hmu] at h; rw [hnm b' B s h]; exact hm.prot b' B s hb' h
  · intro b' B s hb' h; rw [hmu] at h; rw [hnm b' B s h]; exact hm.free b' B s hb' h
  · intro b' blk h
    by_cases e : b' = b
    · subst e; exact hb blk h
    · rw [hH b' e] at h
      exact (hm.blk b' blk h).keeps k hm.owlt (fun B sz h => hm.lt b' B sz h) (fun B sz h => hX1 b' B sz e h) (fun B i j h => hX2 b' B i j e h) (fun h => by rw [hmu]; exact h)

theorem off_ne {sz i i' j j' : Nat} (hi : i ≠ i') (hj : j < sz) (hj' : j' < sz) : i * sz + j ≠ i' * sz + j' := by
  intro h
  have h1 : (i * sz + j) / sz = i := by rw [Nat.mul_comm, Nat.mul_add_div (by omega)]; simp [Nat.div_eq_of_lt hj]
  have h2 : (i' * sz + j') / sz = i' := by rw [Nat.mul_comm, Nat.mul_add_div (by omega)]; simp [Nat.div_eq_of_lt hj']
  rw [h] at h1
  exact hi (h1.symm.trans h2)

/-- cells of an element are written, one after another -/
theorem cell_setCells {w : World} {B : Nat} {ccs : Array Value} {e : TypeId} {fz : Nat × Nat} (hh : w.heap[B]? = some (.cells ccs e fz)) {o : Nat} {vs : List Value} (hl : o + vs.length ≤ ccs.size) (x : Nat) :
    (w.setCells B o vs).cell? ⟨B, x, none⟩ = if o ≤ x ∧ x < o + vs.length then vs[x - o]? else w.cell? ⟨B, x, none⟩ := by
  split
  · rename_i h
    have := World.cell?_setCells_in B vs o w (fun j hj => cell_lt hh (by omega)) (x - o) (by omega)
    rw [show o + (x - o) = x from by omega] at this
    rw [this]; simp [List.getElem?_eq_getElem (show x - o < vs.length by omega)]
  · rename_i h
    exact World.cell?_setCells_out B vs o w ⟨B, x, none⟩ (fun _ _ => by simp; omega)

theorem elem_len {g : Gh} {w : World} {B sz b i : Nat} {l : List AV} (h : ER g w B sz b i (.agg l)) : l.length = sz := h.1

theorem cell_in {w : World} {B o : Nat} {v : Value} {ccs : Array Value} {e : TypeId} {fz : Nat × Nat} (hh : w.heap[B]? = some (.cells ccs e fz)) (h : w.cell? ⟨B, o, none⟩ = some v) : o < ccs.size := by
  simp [World.cell?, hh] at h
  exact (Array.getElem?_eq_some_iff.1 h).1

/-- an element with a part of it written -/
theorem ER.set {g g' : Gh} {w w' : World} {B sz b i j : Nat} {el el' x : AV} {ti : TI} {c : Value} {ccs : Array Value} {e : TypeId} (h : ER g w B sz b i el) (hs : elSet ti el j x = some el')
    (hx : ∀ loc, isOwn x = false → SR g' w' loc x c) (hown : isOwn x = true → SR g' w' (.cell b i j) x c) (hfit : FitOk ti x c) (hcells : isOwn x = false → VRs g'.imm g'.mu (cellsOf x) c.cells.toList)
    (hi : g.imm.le g'.imm) (hm : g.mu.le g'.mu) (hh : w.heap[B]? = some (.cells ccs e (0, 0))) (hw : w' = w.setCells B (i * sz + j) c.cells.toList)
    (hB : ∀ B' j', g.ow B' = some (.cell b i j') → (∀ o, g'.imm B' o = g.imm B' o) ∧ w'.heap[B']? = w.heap[B']? ∧ g'.ow B' = g.ow B') (hsz : i * sz + sz ≤ ccs.size) :
    ER g' w' B sz b i el' ∧ (j + c.cells.toList.length ≤ sz) := by
  have hcl : c.cells.toList.length = ti.size := by simpa using hfit.size
  unfold elSet at hs
  split at hs
  · cases hs
  · split at hs
    · rename_i l
      split at hs
      · rename_i hlen
        cases hs
        obtain ⟨h1, h2⟩ := h
        have hlen' : (l.take j ++ cellsOf x ++ l.drop (j + ti.size)).length = sz := by
          have : (cellsOf x).length = ti.size := by
            cases ho : isOwn x with
            | false => rw [← (hcells ho).length, hcl]
            | true =>
              obtain ⟨s, es, rfl⟩ := isOwn_spec ho
              exact ((hfit.scal rfl).2.1).symm
          simp [this]; omega
        refine ⟨⟨hlen', fun k a ha => ?_⟩, by omega⟩
        have hcs : ∀ y, w'.cell? ⟨B, y, none⟩ = if i * sz + j ≤ y ∧ y < i * sz + j + c.cells.toList.length then c.cells.toList[y - (i * sz + j)]? else w.cell? ⟨B, y, none⟩ := by
          intro y; rw [hw]; exact cell_setCells hh (by omega) y
        have hk : k < sz := by rw [← hlen']; exact (List.getElem?_eq_some_iff.1 ha).1
        have hcellsl : (cellsOf x).length = ti.size := by simp at hlen'; omega
        rw [hcs]
        rcases Nat.lt_or_ge k j with hkj | hkj
        · rw [if_neg (by omega)]
          rw [List.append_assoc, List.getElem?_append_left (by simp; omega), List.getElem?_take, if_pos hkj] at ha
          obtain ⟨c', h3, h4, h5⟩ := h2 k a ha
          exact ⟨c', h3, h4, h5.mono hi hm fun B' hb => by obtain ⟨a1, a2, a3⟩ := hB B' k hb; exact ⟨by rw [a3]; exact hb, a1, a2⟩⟩
        · rcases Nat.lt_or_ge k (j + ti.size) with hk2 | hk2
          · rw [if_pos (by omega)]
            rw [List.append_assoc, List.getElem?_append_right (by simp; omega)] at ha
            rw [show (l.take j).length = j by simp; omega, List.getElem?_append_left (by omega)] at ha
            rw [show i * sz + k - (i * sz + j) = k - j by omega]
            cases ho : isOwn x with
            | false =>
              obtain ⟨c', h3, h4⟩ := (hcells ho).get ha
              exact ⟨c', h3, hfit.ones c' (List.mem_of_getElem? h3), h4.sr⟩
            | true =>
              have hxx := ho
              obtain ⟨s, es, rfl⟩ := isOwn_spec ho
              have hs1 := (hfit.scal rfl).2.1
              have hk0 : k = j := by omega
              subst hk0
              simp [cellsOf] at ha
              subst ha
              refine ⟨c, ?_, (hfit.scal rfl).2.2.1, hown rfl⟩
              rw [(hfit.scal rfl).1]; simp
          · rw [if_neg (by omega)]
            rw [List.append_assoc, List.getElem?_append_right (by simp; omega)] at ha
            rw [show (l.take j).length = j by simp; omega, List.getElem?_append_right (by omega), hcellsl, List.getElem?_drop] at ha
            rw [show j + ti.size + (k - j - ti.size) = k by omega] at ha
            obtain ⟨c', h3, h4, h5⟩ := h2 k a ha
            exact ⟨c', h3, h4, h5.mono hi hm fun B' hb => by obtain ⟨a1, a2, a3⟩ := hB B' k hb; exact ⟨by rw [a3]; exact hb, a1, a2⟩⟩
      · cases hs
    · cases hs
    · rename_i hna hnt
      split at hs
      · rename_i hc
        obtain ⟨hag, hj⟩ := hc
        have he : el' = x := by simp only [Option.some.injEq] at hs; exact hs.symm
        subst he
        subst hj
        have hel : aggOf el = none := by cases el <;> first | rfl | exact absurd rfl (hna _)
        unfold ER at h
        rw [hel] at h
        obtain ⟨h1, _⟩ := h
        subst h1
        have hxa : aggOf el' = none := by
          cases hxx : aggOf el' with
          | none => rfl
          | some l => have := (hfit.agg l (aggOf_some hxx)).2; rw [this] at hag; cases hag
        obtain ⟨f1, f2, f3, _⟩ := hfit.scal hxa
        have hcell : w'.cell? ⟨B, i, none⟩ = some c := by
          rw [hw, cell_setCells hh (by omega), if_pos (by omega)]
          rw [f1]; simp
        refine ⟨?_, by omega⟩
        unfold ER
        rw [hxa]
        refine ⟨rfl, c, hcell, f3, ?_⟩
        cases ho : isOwn el' with
        | false => exact hx _ ho
        | true => exact hown ho
      · cases hs

end Go.Abs
