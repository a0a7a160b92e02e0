/- Blocks that are forgotten. -/
import Derived.Test.YtiinagmombigpaaAbs25
set_option linter.unusedVariables false
set_option linter.unusedSimpArgs false
set_option linter.unnecessarySimpa false
namespace Go.Abs
variable {P : Program} {imm : Imm} {mu : Mu}

def Mu.upto (mu : Mu) (n : Nat) : Mu := fun b => if b < n then mu b else none
theorem upto_lt {mu : Mu} {n b : Nat} {x : Nat × Nat} (h : mu b = some x) (hb : b < n) : mu.upto n b = some x := by simp [Mu.upto, hb, h]
theorem upto_le (mu : Mu) (n : Nat) : (mu.upto n).le mu := fun b x h => by
  simp only [Mu.upto] at h
  split at h
  · exact h
  · cases h

theorem VR.kill0 (n : Nat) : ∀ {a : AV} {c : Value}, VR imm mu a c → VR imm (mu.upto n) (kill0 n a) c
  | .ptr b i j, c, h => by
    simp only [Abs.kill0]
    split
    · rename_i hb
      simp only [VR] at h ⊢
      obtain ⟨B, sz, h1, h2⟩ := h
      exact ⟨B, sz, upto_lt h1 hb, h2⟩
    · simp [VR]
  | .sl b z i l c', c, h => by
    simp only [Abs.kill0]
    split
    · rename_i hb
      simp only [VR] at h ⊢
      obtain ⟨B, cap, h1, h2⟩ := h
      exact ⟨B, cap, upto_lt h1 hb, h2⟩
    · simp [VR]
  | .isl b i j e l, c, h => by
    simp only [Abs.kill0]
    split
    · rename_i hb
      simp only [VR] at h ⊢
      obtain ⟨B, sz, h1, h2⟩ := h
      exact ⟨B, sz, upto_lt h1 hb, h2⟩
    · simp [VR]
  | .yld b, c, h => by
    simp only [Abs.kill0]
    split
    · rename_i hb
      simp only [VR] at h ⊢
      obtain ⟨B, sz, h1, h2⟩ := h
      exact ⟨B, sz, upto_lt h1 hb, h2⟩
    · simp [VR]
  | .mp b, c, h => by
    simp only [Abs.kill0]
    split
    · rename_i hb
      simp only [VR] at h ⊢
      obtain ⟨B, sz, h1, h2⟩ := h
      exact ⟨B, sz, upto_lt h1 hb, h2⟩
    · simp [VR]
  | .fn f cap, c, h => by
    simp only [Abs.kill0]
    split
    · rename_i hall
      simp only [VR] at h ⊢
      obtain ⟨cs, rfl, h1⟩ := h
      refine ⟨cs, rfl, VRs.of h1.length fun i a c ha hc => ?_⟩
      obtain ⟨c', h2, h3⟩ := h1.get ha
      rw [hc] at h2; cases h2
      have := List.all_eq_true.1 hall a (List.mem_of_getElem? ha)
      split at this
      · rename_i b i' j'
        simp only [decide_eq_true_eq] at this
        simp only [VR] at h3 ⊢
        obtain ⟨B, sz, h4, h5⟩ := h3
        exact ⟨B, sz, upto_lt h4 this, h5⟩
      · cases this
    · simp [VR]
  | .dead, _, h => by simp [Abs.kill0, VR]
  | .lit _, _, h => by simpa [Abs.kill0, VR] using h
  | .vp .., _, h => by simpa [Abs.kill0, VR] using h
  | .vec .., _, h => by simpa [Abs.kill0, VR] using h
  | .agg l, c, h => by simp [Abs.kill0, VR]
  | .tup l, c, h => by simp [Abs.kill0, VR]

theorem VR.kill1 (n : Nat) {a : AV} {c : Value} (h : VR imm mu a c) : VR imm (mu.upto n) (kill1 n a) c := by
  cases a with
  | agg l =>
    simp only [VR, Abs.kill1] at h ⊢
    obtain ⟨cs, rfl, h1, h2⟩ := h
    exact ⟨cs, rfl, h1.map fun a c h => h.kill0 n, h2⟩
  | _ => exact VR.kill0 n h
theorem VR.kill (n : Nat) {a : AV} {c : Value} (h : VR imm mu a c) : VR imm (mu.upto n) (kill n a) c := by
  cases a with
  | tup l =>
    simp only [VR, Abs.kill] at h ⊢
    obtain ⟨cs, rfl, h1⟩ := h
    exact ⟨cs, rfl, h1.map fun a c h => h.kill1 n⟩
  | _ => exact VR.kill1 n h

def Gh.upto (g : Gh) (n : Nat) : Gh := { g with mu := g.mu.upto n }

theorem SR.own_upto {g : Gh} {w : World} {loc : Loc} {n sz : Nat} {els : List AV} {v : Value} (h : SR g w loc (.vec sz .own els) v) : SR (g.upto n) w loc (.vec sz .own els) v := h

theorem SR.kill0 (n : Nat) {g : Gh} {w : World} {loc : Loc} {a : AV} {v : Value} (h : SR g w loc a v) : SR (g.upto n) w loc (kill0 n a) v := by
  cases hown : isOwn a with
  | true => obtain ⟨sz, els, rfl⟩ := isOwn_spec hown; exact h.own_upto
  | false => exact VR.sr (g := g.upto n) (VR.kill0 n ((SR_notOwn hown).1 h))
theorem SR.kill1 (n : Nat) {g : Gh} {w : World} {loc : Loc} {a : AV} {v : Value} (h : SR g w loc a v) : SR (g.upto n) w loc (kill1 n a) v := by
  cases hown : isOwn a with
  | true => obtain ⟨sz, els, rfl⟩ := isOwn_spec hown; exact h.own_upto
  | false => exact VR.sr (g := g.upto n) (VR.kill1 n ((SR_notOwn hown).1 h))
theorem SR.kill (n : Nat) {g : Gh} {w : World} {loc : Loc} {a : AV} {v : Value} (h : SR g w loc a v) : SR (g.upto n) w loc (Abs.kill n a) v := by
  cases hown : isOwn a with
  | true => obtain ⟨sz, els, rfl⟩ := isOwn_spec hown; exact h.own_upto
  | false => exact VR.sr (g := g.upto n) (VR.kill n ((SR_notOwn hown).1 h))

theorem aggOf_kill0 (n : Nat) : ∀ (a : AV), aggOf (Abs.kill0 n a) = none := by
  intro a
  cases a <;> simp only [Abs.kill0] <;> first | rfl | (split <;> rfl)

theorem ER.kill (n : Nat) {g : Gh} {w : World} {B sz b i : Nat} {el : AV} (h : ER g w B sz b i el) : ER (g.upto n) w B sz b i (Abs.kill1 n el) := by
  unfold ER at h
  cases ha : aggOf el with
  | some l =>
    rw [ha] at h
    obtain ⟨h1, h2⟩ := h
    rw [aggOf_some ha]
    refine ⟨by simpa using h1, fun j a hj => ?_⟩
    rw [List.getElem?_map] at hj
    cases hl : l[j]? with
    | none => rw [hl] at hj; cases hj
    | some a' =>
      rw [hl] at hj
      cases hj
      obtain ⟨c, h3, h4, h5⟩ := h2 j a' hl
      exact ⟨c, h3, h4, h5.kill0 n⟩
  | none =>
    rw [ha] at h
    obtain ⟨h1, c, h2, h3, h4⟩ := h
    have hk : Abs.kill1 n el = Abs.kill0 n el := by cases el <;> first | rfl | simp [aggOf] at ha
    unfold ER
    rw [hk, aggOf_kill0]
    exact ⟨h1, c, h2, h3, h4.kill0 n⟩

theorem LR.kill (n : Nat) {g : Gh} {r : ALoop} {lr : Loop} (h : LR g r lr) : LR (g.upto n) { r with fr := r.fr.map (Abs.kill n) } lr := by
  obtain ⟨h1, h2, h3, h4, h5, h6, h7, h8⟩ := h
  refine ⟨h1, h2, h3, h4, h5, h6, h7, fun t => ?_⟩
  simp only
  rw [PT.get_map rfl]
  rcases h8 t with h | ⟨v, ha, hb⟩
  · left; rw [h]; rfl
  · exact .inr ⟨v, ha, hb.kill n⟩

theorem MapR.le {g g' : Gh} (hi : g.imm.le g'.imm) : ∀ {l : List (AV × AV)} {es : List MapEntry}, MapR g l es → MapR g' l es
  | [], es, h => h
  | (k, v) :: l, es, h => by
    obtain ⟨e, es', h1, h2, h3, h4⟩ := h
    exact ⟨e, es', h1, VR.mono hi k (Mu.le_refl _) h2, VR.mono hi v (Mu.le_refl _) h3, MapR.le hi h4⟩

theorem BR.kill (n : Nat) {g : Gh} {w : World} {b : Nat} {blk : ABlock} (hb : b < n) (h : BR g w b blk) : BR (g.upto n) w b (killB n blk) := by
  cases blk with
  | cells sz e els =>
    obtain ⟨B, h1, h2, h3, h4⟩ := h
    refine ⟨B, upto_lt h1 hb, h2, h3, fun i el hel => ?_⟩
    rw [List.getElem?_map] at hel
    cases hl : els[i]? with
    | none => rw [hl] at hel; cases hel
    | some el' => rw [hl] at hel; cases hel; exact (h4 i el' hl).kill n
  | mapo es =>
    obtain ⟨B, sz, mes, clock, h1, h2, h3⟩ := h
    exact ⟨B, sz, mes, clock, upto_lt h1 hb, h2, MapR.le (g := g) (g' := g.upto n) (Imm.le_refl _) h3⟩
  | loop r =>
    obtain ⟨B, sz, lr, h1, h2, h3⟩ := h
    exact ⟨B, sz, lr, upto_lt h1 hb, h2, h3.kill n⟩
  | gone => trivial
  | res => trivial

theorem MR.trim {g : Gh} {ro n : Nat} {H : Hp} {w : World} (h : MR g ro H w) (h1 : ro ≤ n) : MR (g.upto n) ro ((H.take n).map (killB n)) w := by
  have hl : ((H.take n).map (killB n)).length = min n H.length := by simp
  have h0 := h.role
  refine ⟨by omega, h.imm, ?_, ?_, ?_, h.owlt, ?_, ?_, ?_⟩
  · intro b hb
    simp only [Gh.upto, Mu.upto]
    split
    · exact h.dom b (by omega)
    · rfl
  · intro b b' B s s' hb hb'; exact h.inj b b' B s s' (upto_le _ _ _ _ hb) (upto_le _ _ _ _ hb')
  · intro b B s hb; exact h.lt b B s (upto_le _ _ _ _ hb)
  · intro b B s hbr hb; exact h.prot b B s hbr (upto_le _ _ _ _ hb)
  · intro b B s hbr hb; exact h.free b B s hbr (upto_le _ _ _ _ hb)
  · intro b blk hb
    have hlt := lt_of_get hb
    rw [hl] at hlt
    have hlt : b < n := by omega
    rw [List.getElem?_map, List.getElem?_take, if_pos hlt] at hb
    cases hbb : H[b]? with
    | none => rw [hbb] at hb; cases hb
    | some blk' => rw [hbb] at hb; cases hb; exact (h.blk b blk' hbb).kill n hlt

theorem Rel.trim {g : Gh} {ro nt n : Nat} {fr : PT} {H : Hp} {tm : Array Value} {w : World} (h : Rel g ro nt fr H tm w) (h1 : ro ≤ n) : Rel (g.upto n) ro nt (fr.map (Abs.kill n)) ((H.take n).map (killB n)) tm w := by
  refine ⟨h.size, h.nt_le, fun t => ?_, h.mem.trim h1⟩
  rw [PT.get_map rfl]
  rcases h.slots t with hd | ⟨v, ha, hb⟩
  · left; rw [hd]; rfl
  · exact .inr ⟨v, ha, hb.kill n⟩

theorem Ev.trim {ro n : Nat} {g0 g : Gh} {w0 w : World} (e : Ev ro g0 w0 g w) (hn : ∀ b x, g0.mu b = some x → b < n) : Ev ro g0 w0 (g.upto n) w :=
  ⟨e.imm, ⟨fun b x h => upto_lt (e.mun.le b x h) (hn b x h), fun b B sz h => e.mun.new b B sz (upto_le _ _ _ _ h)⟩, e.size, e.prot, e.loops, e.out⟩

end Go.Abs
