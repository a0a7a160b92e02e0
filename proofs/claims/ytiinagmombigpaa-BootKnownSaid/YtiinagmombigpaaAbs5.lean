/- What a value without memory stands for, in a world: the relation, and that it stays as more is known. -/
import Derived.Test.YtiinagmombigpaaAbs4
import Derived.Laws.IdiomCopy
import Derived.Laws.StructEq
import Derived.RangeFuncCalls
namespace Go.Abs

/-- cells that never change: by block and offset -/
abbrev Imm := Nat → Nat → Option Value
/-- where a numbered block lies, and how many cells its elements have -/
abbrev Mu := Nat → Option (Nat × Nat)

def noMu : Mu := fun _ => none
def Imm.le (a b : Imm) : Prop := ∀ B o v, a B o = some v → b B o = some v
def Mu.le (a b : Mu) : Prop := ∀ n x, a n = some x → b n = some x
theorem Imm.le_refl (a : Imm) : a.le a := fun _ _ _ h => h
theorem Mu.le_refl (a : Mu) : a.le a := fun _ _ h => h
theorem Imm.le_trans {a b c : Imm} (h : a.le b) (h' : b.le c) : a.le c := fun _ _ _ x => h' _ _ _ (h _ _ _ x)
theorem Mu.le_trans {a b c : Mu} (h : a.le b) (h' : b.le c) : a.le c := fun _ _ x => h' _ _ (h _ _ x)
theorem noMu_le (m : Mu) : noMu.le m := fun _ _ h => by simp [noMu] at h

/-- the value of one cell -/
def one (v : Value) : Prop := v.oneCell' = true

def Seg (imm : Imm) (B o : Nat) (cs : List Value) : Prop := ∀ i c, cs[i]? = some c → imm B (o + i) = some c

theorem Seg.mono {imm imm' : Imm} (h : imm.le imm') {B o : Nat} {cs : List Value} (s : Seg imm B o cs) : Seg imm' B o cs := fun i c hc => h _ _ _ (s i c hc)

mutual
def VR (imm : Imm) : Mu → AV → Value → Prop
  | _, .dead, _ => True
  | _, .lit x, v => v = x
  | mu, .ptr b i j, v => ∃ B sz, mu b = some (B, sz) ∧ v = .pointer (some ⟨B, i * sz + j, none⟩)
  | mu, .sl b sz i len cap, v => ∃ B cap', mu b = some (B, sz) ∧ cap ≤ cap' ∧ v = .slice (some ⟨B, i * sz, none⟩) len cap'
  | mu, .isl b i j _ len, v => ∃ B sz, mu b = some (B, sz) ∧ v = .slice (some ⟨B, i * sz + j, none⟩) len len
  | _, .vp el j, v => ∃ B o c, v = .pointer (some ⟨B, o + j, none⟩) ∧ VR imm noMu el c ∧ (∀ x ∈ c.cells.toList, one x) ∧ Seg imm B o c.cells.toList
  | _, .vec sz k els, v => ∃ B o cap cs, v = .slice (some ⟨B, o, none⟩) els.length cap ∧ k ≠ .own ∧ (k = .exact → cap = els.length) ∧ els.length ≤ cap ∧ VRels imm noMu sz els cs ∧ Seg imm B o cs
  | mu, .fn f cap, v => ∃ cs : List Value, v = .func (.func f) #[] cs.toArray ∧ VRs imm mu cap cs
  | mu, .yld l, v => ∃ B sz, mu l = some (B, sz) ∧ v = .func (.yield B) #[] #[]
  | mu, .mp m, v => ∃ B sz, mu m = some (B, sz) ∧ v = .map (some B)
  | mu, .agg l, v => ∃ cs : List Value, v = .agg cs.toArray ∧ VRs imm mu l cs ∧ (∀ x ∈ cs, one x)
  | mu, .tup l, v => ∃ cs : List Value, v = .tuple cs.toArray ∧ VRs imm mu l cs
def VRs (imm : Imm) : Mu → List AV → List Value → Prop
  | _, [], cs => cs = []
  | mu, a :: as, cs => ∃ c cs', cs = c :: cs' ∧ VR imm mu a c ∧ VRs imm mu as cs'
def VRels (imm : Imm) : Mu → Nat → List AV → List Value → Prop
  | _, _, [], cs => cs = []
  | mu, sz, a :: as, cs => ∃ c cs', cs = c.cells.toList ++ cs' ∧ c.cells.size = sz ∧ (∀ x ∈ c.cells.toList, one x) ∧ VR imm mu a c ∧ VRels imm mu sz as cs'
end

mutual
theorem VR.mono {imm imm' : Imm} (hi : imm.le imm') : ∀ (a : AV) {mu mu' : Mu} (_ : mu.le mu') {v : Value}, VR imm mu a v → VR imm' mu' a v
  | .dead, _, _, _, _, _ => by simp [VR]
  | .lit x, _, _, _, _, h => by simpa [VR] using h
  | .ptr b i j, _, _, hm, _, h => by
    simp only [VR] at h ⊢; obtain ⟨B, sz, h1, h2⟩ := h; exact ⟨B, sz, hm _ _ h1, h2⟩
  | .sl b z i l c, _, _, hm, _, h => by
    simp only [VR] at h ⊢; obtain ⟨B, c', h1, h2⟩ := h; exact ⟨B, c', hm _ _ h1, h2⟩
  | .isl b i j e l, _, _, hm, _, h => by
    simp only [VR] at h ⊢; obtain ⟨B, sz, h1, h2⟩ := h; exact ⟨B, sz, hm _ _ h1, h2⟩
  | .vp el j, _, _, _, _, h => by
    simp only [VR] at h ⊢; obtain ⟨B, o, c, h1, h2, h3, h4⟩ := h; exact ⟨B, o, c, h1, VR.mono hi el (Mu.le_refl _) h2, h3, h4.mono hi⟩
  | .vec sz k els, _, _, _, _, h => by
    simp only [VR] at h ⊢; obtain ⟨B, o, cap, cs, h1, h2, h3, h4, h5, h6⟩ := h; exact ⟨B, o, cap, cs, h1, h2, h3, h4, VRels.mono hi els (Mu.le_refl _) h5, h6.mono hi⟩
  | .fn f cap, _, _, hm, _, h => by
    simp only [VR] at h ⊢; obtain ⟨cs, h1, h2⟩ := h; exact ⟨cs, h1, VRs.mono hi cap hm h2⟩
  | .yld l, _, _, hm, _, h => by
    simp only [VR] at h ⊢; obtain ⟨B, sz, h1, h2⟩ := h; exact ⟨B, sz, hm _ _ h1, h2⟩
  | .mp l, _, _, hm, _, h => by
    simp only [VR] at h ⊢; obtain ⟨B, sz, h1, h2⟩ := h; exact ⟨B, sz, hm _ _ h1, h2⟩
  | .agg l, _, _, hm, _, h => by
    simp only [VR] at h ⊢; obtain ⟨cs, h1, h2, h3⟩ := h; exact ⟨cs, h1, VRs.mono hi l hm h2, h3⟩
  | .tup l, _, _, hm, _, h => by
    simp only [VR] at h ⊢; obtain ⟨cs, h1, h2⟩ := h; exact ⟨cs, h1, VRs.mono hi l hm h2⟩
theorem VRs.mono {imm imm' : Imm} (hi : imm.le imm') : ∀ (l : List AV) {mu mu' : Mu} (_ : mu.le mu') {cs : List Value}, VRs imm mu l cs → VRs imm' mu' l cs
  | [], _, _, _, _, h => by simpa [VRs] using h
  | a :: as, _, _, hm, _, h => by
    simp only [VRs] at h ⊢; obtain ⟨c, cs', h1, h2, h3⟩ := h; exact ⟨c, cs', h1, VR.mono hi a hm h2, VRs.mono hi as hm h3⟩
theorem VRels.mono {imm imm' : Imm} (hi : imm.le imm') : ∀ (l : List AV) {mu mu' : Mu} (_ : mu.le mu') {sz : Nat} {cs : List Value}, VRels imm mu sz l cs → VRels imm' mu' sz l cs
  | [], _, _, _, _, _, h => by simpa [VRels] using h
  | a :: as, _, _, hm, _, _, h => by
    simp only [VRels] at h ⊢; obtain ⟨c, cs', h1, h2, h3, h4, h5⟩ := h; exact ⟨c, cs', h1, h2, h3, VR.mono hi a hm h4, VRels.mono hi as hm h5⟩
end

/-! ### lists of values -/
theorem VRs.length {imm : Imm} {mu : Mu} : ∀ {l : List AV} {cs : List Value}, VRs imm mu l cs → cs.length = l.length
  | [], cs, h => by simp [VRs] at h; simp [h]
  | a :: as, cs, h => by
    simp only [VRs] at h; obtain ⟨c, cs', rfl, _, h3⟩ := h; simp [VRs.length h3]
theorem VRs.get {imm : Imm} {mu : Mu} : ∀ {l : List AV} {cs : List Value}, VRs imm mu l cs → ∀ {i : Nat} {a : AV}, l[i]? = some a → ∃ c, cs[i]? = some c ∧ VR imm mu a c
  | [], cs, _, i, a, h => by simp at h
  | b :: bs, cs, hr, i, a, h => by
    simp only [VRs] at hr; obtain ⟨c, cs', rfl, h2, h3⟩ := hr
    cases i with
    | zero => simp at h; subst h; exact ⟨c, by simp, h2⟩
    | succ i => simp at h; obtain ⟨c', h4, h5⟩ := VRs.get h3 h; exact ⟨c', by simpa using h4, h5⟩
theorem VRs.of {imm : Imm} {mu : Mu} : ∀ {l : List AV} {cs : List Value}, cs.length = l.length → (∀ (i : Nat) (a : AV) (c : Value), l[i]? = some a → cs[i]? = some c → VR imm mu a c) → VRs imm mu l cs
  | [], cs, hl, _ => by simp [VRs]; simpa using hl
  | b :: bs, cs, hl, h => by
    cases cs with
    | nil => simp at hl
    | cons c cs =>
      simp only [VRs]
      exact ⟨c, cs, rfl, h 0 b c (by simp) (by simp), VRs.of (by simpa using hl) fun i a c h1 h2 => h (i + 1) a c (by simpa using h1) (by simpa using h2)⟩
theorem VRs.append {imm : Imm} {mu : Mu} : ∀ {l l' : List AV} {cs cs' : List Value}, VRs imm mu l cs → VRs imm mu l' cs' → VRs imm mu (l ++ l') (cs ++ cs')
  | [], l', cs, cs', h, h' => by simp [VRs] at h; subst h; simpa using h'
  | a :: as, l', cs, cs', h, h' => by
    simp only [VRs] at h; obtain ⟨c, cs₁, rfl, h2, h3⟩ := h
    simp only [List.cons_append, VRs]; exact ⟨c, cs₁ ++ cs', rfl, h2, VRs.append h3 h'⟩
theorem VRs.take {imm : Imm} {mu : Mu} {l : List AV} {cs : List Value} (h : VRs imm mu l cs) (n : Nat) : VRs imm mu (l.take n) (cs.take n) :=
  VRs.of (by simp [h.length]) fun i a c h1 h2 => by
    rw [List.getElem?_take] at h1 h2
    split at h1
    · rename_i hi; rw [if_pos hi] at h2; obtain ⟨c', h3, h4⟩ := h.get h1; rw [h3] at h2; cases h2; exact h4
    · cases h1
theorem VRs.drop {imm : Imm} {mu : Mu} {l : List AV} {cs : List Value} (h : VRs imm mu l cs) (n : Nat) : VRs imm mu (l.drop n) (cs.drop n) :=
  VRs.of (by simp [h.length]) fun i a c h1 h2 => by
    rw [List.getElem?_drop] at h1 h2
    obtain ⟨c', h3, h4⟩ := h.get h1; rw [h3] at h2; cases h2; exact h4
theorem VRs.map {imm imm' : Imm} {mu mu' : Mu} {f : AV → AV} {l : List AV} {cs : List Value} (h : VRs imm mu l cs) (hf : ∀ a c, VR imm mu a c → VR imm' mu' (f a) c) : VRs imm' mu' (l.map f) cs :=
  VRs.of (by simp [h.length]) fun i a c h1 h2 => by
    rw [List.getElem?_map] at h1
    cases hl : l[i]? with
    | none => simp [hl] at h1
    | some b => simp [hl] at h1; subst h1; obtain ⟨c', h3, h4⟩ := h.get hl; rw [h3] at h2; cases h2; exact hf _ _ h4

/-! ### elements -/
theorem VRels.length {imm : Imm} {mu : Mu} {sz : Nat} : ∀ {l : List AV} {cs : List Value}, VRels imm mu sz l cs → cs.length = l.length * sz
  | [], cs, h => by simp [VRels] at h; simp [h]
  | a :: as, cs, h => by
    simp only [VRels] at h; obtain ⟨c, cs', rfl, h2, _, _, h5⟩ := h
    simp [VRels.length h5, h2, Nat.add_mul]; omega
theorem VRels.ones {imm : Imm} {mu : Mu} {sz : Nat} : ∀ {l : List AV} {cs : List Value}, VRels imm mu sz l cs → ∀ x ∈ cs, one x
  | [], cs, h => by simp [VRels] at h; simp [h]
  | a :: as, cs, h => by
    simp only [VRels] at h; obtain ⟨c, cs', rfl, _, h3, _, h5⟩ := h
    intro x hx; rw [List.mem_append] at hx; rcases hx with hx | hx
    · exact h3 x hx
    · exact VRels.ones h5 x hx
theorem VRels.get {imm : Imm} {mu : Mu} {sz : Nat} : ∀ {l : List AV} {cs : List Value}, VRels imm mu sz l cs → ∀ {i : Nat} {a : AV}, l[i]? = some a →
    ∃ c, VR imm mu a c ∧ c.cells.size = sz ∧ (∀ x ∈ c.cells.toList, one x) ∧ ∀ j x, c.cells.toList[j]? = some x → cs[i * sz + j]? = some x
  | [], cs, _, i, a, h => by simp at h
  | b :: bs, cs, hr, i, a, h => by
    simp only [VRels] at hr; obtain ⟨c, cs', rfl, h2, h3, h4, h5⟩ := hr
    cases i with
    | zero =>
      simp at h; subst h
      refine ⟨c, h4, h2, h3, fun j x hx => ?_⟩
      have hj : j < c.cells.toList.length := (List.getElem?_eq_some_iff.1 hx).1
      rw [Nat.zero_mul, Nat.zero_add, List.getElem?_append_left hj]; exact hx
    | succ i =>
      simp at h; obtain ⟨c', h6, h7, h8, h9⟩ := VRels.get h5 h
      refine ⟨c', h6, h7, h8, fun j x hx => ?_⟩
      have hl : c.cells.toList.length = sz := by simpa using h2
      rw [List.getElem?_append_right (by rw [hl, Nat.add_mul]; omega), hl]
      have e : (i + 1) * sz + j - sz = i * sz + j := by rw [Nat.add_mul]; omega
      rw [e]; exact h9 j x hx
theorem VRels.append {imm : Imm} {mu : Mu} {sz : Nat} : ∀ {l l' : List AV} {cs cs' : List Value}, VRels imm mu sz l cs → VRels imm mu sz l' cs' → VRels imm mu sz (l ++ l') (cs ++ cs')
  | [], l', cs, cs', h, h' => by simp [VRels] at h; subst h; simpa using h'
  | a :: as, l', cs, cs', h, h' => by
    simp only [VRels] at h; obtain ⟨c, cs₁, rfl, h2, h3, h4, h5⟩ := h
    simp only [List.cons_append, VRels]; exact ⟨c, cs₁ ++ cs', by simp, h2, h3, h4, VRels.append h5 h'⟩
theorem VRels.take {imm : Imm} {mu : Mu} {sz : Nat} : ∀ {l : List AV} {cs : List Value} (n : Nat), VRels imm mu sz l cs → VRels imm mu sz (l.take n) (cs.take (n * sz))
  | [], cs, n, h => by simp [VRels] at h; subst h; simp [VRels]
  | a :: as, cs, 0, h => by simp [VRels]
  | a :: as, cs, n + 1, h => by
    simp only [VRels] at h; obtain ⟨c, cs', rfl, h2, h3, h4, h5⟩ := h
    have hl : c.cells.toList.length = sz := by simpa using h2
    simp only [List.take_succ_cons, VRels]
    refine ⟨c, cs'.take (n * sz), ?_, h2, h3, h4, VRels.take n h5⟩
    rw [List.take_append, hl, List.take_of_length_le (by rw [hl, Nat.add_mul]; omega)]
    congr 2; rw [Nat.add_mul]; omega
theorem VRels.drop {imm : Imm} {mu : Mu} {sz : Nat} : ∀ {l : List AV} {cs : List Value} (n : Nat), VRels imm mu sz l cs → VRels imm mu sz (l.drop n) (cs.drop (n * sz))
  | [], cs, n, h => by simp [VRels] at h; subst h; simp [VRels]
  | a :: as, cs, 0, h => by simpa using h
  | a :: as, cs, n + 1, h => by
    simp only [VRels] at h; obtain ⟨c, cs', rfl, h2, h3, h4, h5⟩ := h
    have hl : c.cells.toList.length = sz := by simpa using h2
    have e : (n + 1) * sz = sz + n * sz := by rw [Nat.add_mul]; omega
    rw [List.drop_succ_cons, e, ← List.drop_drop]
    conv => rhs; rw [show List.drop sz (c.cells.toList ++ cs') = cs' from by rw [← hl]; simp]
    exact VRels.drop n h5

end Go.Abs
