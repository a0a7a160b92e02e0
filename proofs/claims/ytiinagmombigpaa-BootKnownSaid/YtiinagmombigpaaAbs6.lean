/- Memory: what the numbered blocks, and the slices that may grow in place, are in a world; how both go on together. -/
import Derived.Test.YtiinagmombigpaaAbs5
namespace Go.Abs

/-- who may append in place to a slice: a temporary, a cell, a result; or nobody here -/
inductive Loc where
  | slot (t : Nat) | cell (b i j : Nat) | res | oth
  deriving DecidableEq

structure Gh where
  imm : Imm
  mu : Mu
  ow : Nat → Option Loc

def SR (g : Gh) (w : World) (loc : Loc) (a : AV) (v : Value) : Prop :=
  match a with
  | .vec sz .own els => ∃ B cap cs, v = .slice (some ⟨B, 0, none⟩) els.length cap ∧ els.length ≤ cap ∧ VRels g.imm noMu sz els cs ∧ Seg g.imm B 0 cs ∧ g.ow B = some loc ∧
      (∀ o, els.length * sz ≤ o → g.imm B o = none) ∧ ∃ ccs e, w.heap[B]? = some (.cells ccs e (0, 0)) ∧ ccs.size = cap * sz
  | a => VR g.imm g.mu a v

def isOwn : AV → Bool
  | .vec _ .own _ => true
  | _ => false

theorem SR_notOwn {g : Gh} {w : World} {loc : Loc} {a : AV} {v : Value} (h : isOwn a = false) : SR g w loc a v ↔ VR g.imm g.mu a v := by
  unfold SR
  split
  · simp [isOwn] at h
  · exact Iff.rfl
theorem VR_notOwn {imm : Imm} {mu : Mu} {a : AV} {v : Value} (h : VR imm mu a v) : isOwn a = false := by
  cases a with
  | vec sz k els => cases k <;> simp [isOwn]; simp [VR] at h
  | _ => rfl
theorem VR.sr {g : Gh} {w : World} {loc : Loc} {a : AV} {v : Value} (h : VR g.imm g.mu a v) : SR g w loc a v := (SR_notOwn (VR_notOwn h)).2 h
theorem shr_notOwn : ∀ (a : AV), isOwn (shr a) = false
  | .vec sz k els => by cases k <;> rfl
  | .dead | .lit _ | .ptr .. | .sl .. | .isl .. | .vp .. | .fn .. | .yld _ | .mp _ | .agg _ | .tup _ => rfl
theorem shr_of_notOwn : ∀ {a : AV}, isOwn a = false → shr a = a
  | .vec sz k els, h => by cases k <;> first | rfl | simp [isOwn] at h
  | .dead, _ | .lit _, _ | .ptr .., _ | .sl .., _ | .isl .., _ | .vp .., _ | .fn .., _ | .yld _, _ | .mp _, _ | .agg _, _ | .tup _, _ => rfl
theorem isOwn_spec {a : AV} (h : isOwn a = true) : ∃ sz els, a = .vec sz .own els := by
  cases a with
  | vec sz k els => cases k <;> simp [isOwn] at h; exact ⟨sz, els, rfl⟩
  | _ => simp [isOwn] at h
theorem SR.shr {g : Gh} {w : World} {loc : Loc} {a : AV} {v : Value} (h : SR g w loc a v) : VR g.imm g.mu (shr a) v := by
  cases hown : isOwn a with
  | false => rw [shr_of_notOwn hown]; exact (SR_notOwn hown).1 h
  | true =>
    obtain ⟨sz, els, rfl⟩ := isOwn_spec hown
    obtain ⟨B, cap, cs, h1, h2, h3, h4, _⟩ := h
    simp only [Abs.shr, VR]
    exact ⟨B, 0, cap, cs, h1, by simp, by simp, h2, h3, h4⟩
theorem VR.shr {imm : Imm} {mu : Mu} {a : AV} {v : Value} (h : VR imm mu a v) : VR imm mu (shr a) v := by
  rw [shr_of_notOwn (VR_notOwn h)]; exact h

/-- what a slice of its own is, as the world goes on -/
theorem SR.mono {g g' : Gh} {w w' : World} {loc : Loc} {a : AV} {v : Value} (h : SR g w loc a v) (hi : g.imm.le g'.imm) (hm : g.mu.le g'.mu)
    (hB : ∀ B, g.ow B = some loc → g'.ow B = some loc ∧ (∀ o, g'.imm B o = g.imm B o) ∧ w'.heap[B]? = w.heap[B]?) : SR g' w' loc a v := by
  cases hown : isOwn a with
  | false => exact (SR_notOwn hown).2 (VR.mono hi a hm ((SR_notOwn hown).1 h))
  | true =>
    obtain ⟨sz, els, rfl⟩ := isOwn_spec hown
    obtain ⟨B, cap, cs, h1, h2, h3, h4, h5, h6, h7⟩ := h
    obtain ⟨e1, e2, e3⟩ := hB B h5
    exact ⟨B, cap, cs, h1, h2, VRels.mono hi els (Mu.le_refl _) h3, h4.mono hi, e1, fun o ho => by rw [e2]; exact h6 o ho, by rw [e3]; exact h7⟩

/-- an element of a block -/
def aggOf : AV → Option (List AV)
  | .agg l => some l
  | _ => none
theorem aggOf_some {a : AV} {l : List AV} (h : aggOf a = some l) : a = .agg l := by
  cases a <;> simp [aggOf] at h; rw [h]
def ER (g : Gh) (w : World) (B sz b i : Nat) (el : AV) : Prop :=
  match aggOf el with
  | some l => l.length = sz ∧ ∀ j a, l[j]? = some a → ∃ c, w.cell? ⟨B, i * sz + j, none⟩ = some c ∧ one c ∧ SR g w (.cell b i j) a c
  | none => sz = 1 ∧ ∃ c, w.cell? ⟨B, i, none⟩ = some c ∧ one c ∧ SR g w (.cell b i 0) el c

def LS.conc : LS → LoopState
  | .ready => .ready | .busy => .busy | .done => .done | .exhausted => .exhausted
def Ex.code : Ex → Option Code
  | .normal => none
  | .exit id => some (.exit id)
  | .ret => some .ret
def Ex.conc : Ex → Exit
  | .normal => .normal
  | .exit id => .exit id
  | .ret => .ret

def LR (g : Gh) (r : ALoop) (lr : Loop) : Prop :=
  lr.params = r.params.toArray ∧ lr.assign = r.assign ∧ lr.body = r.body ∧ lr.state = r.state.conc ∧ lr.pending = (r.pending.bind Ex.code) ∧ lr.tmps.size = r.nt ∧ r.nt ≤ 16000 ∧
  ∀ t, r.fr.get t = .dead ∨ ∃ v, lr.tmps[t]? = some v ∧ VR g.imm g.mu (r.fr.get t) v

def MapR (g : Gh) : List (AV × AV) → List MapEntry → Prop
  | [], es => es = []
  | (k, v) :: l, es => ∃ e es', es = e :: es' ∧ VR g.imm noMu k e.key ∧ VR g.imm noMu v e.val ∧ MapR g l es'

def BR (g : Gh) (w : World) (b : Nat) : ABlock → Prop
  | .cells sz _ els => ∃ B, g.mu b = some (B, sz) ∧ (∃ ccs e, w.heap[B]? = some (.cells ccs e (0, 0))) ∧ (∀ o, g.imm B o = none) ∧ ∀ i el, els[i]? = some el → ER g w B sz b i el
  | .mapo es => ∃ B sz mes clock, g.mu b = some (B, sz) ∧ w.heap[B]? = some (.map mes clock) ∧ MapR g es mes.toList
  | .loop r => ∃ B sz lr, g.mu b = some (B, sz) ∧ w.heap[B]? = some (.loop lr) ∧ LR g r lr
  | .gone => True
  | .res => g.mu b = none

structure MR (g : Gh) (ro : Nat) (H : Hp) (w : World) : Prop where
  role : ro ≤ H.length
  imm : ∀ B o v, g.imm B o = some v → w.cell? ⟨B, o, none⟩ = some v
  dom : ∀ b, H.length ≤ b → g.mu b = none
  inj : ∀ b b' B sz sz', g.mu b = some (B, sz) → g.mu b' = some (B, sz') → b = b'
  lt : ∀ b B sz, g.mu b = some (B, sz) → B < w.heap.size
  owlt : ∀ B l, g.ow B = some l → B < w.heap.size
  prot : ∀ b B sz, b < ro → g.mu b = some (B, sz) → g.ow B = some .oth
  free : ∀ b B sz, ro ≤ b → g.mu b = some (B, sz) → g.ow B = none
  blk : ∀ b blk, H[b]? = some blk → BR g w b blk

/-- nothing outside has turned -/
structure Outs (w w' : World) : Prop where
  os : w'.os = w.os
  tape : w'.tape = w.tape
  output : w'.output = w.output
theorem Outs.refl (w : World) : Outs w w := ⟨rfl, rfl, rfl⟩
theorem Outs.trans {a b c : World} (h : Outs a b) (k : Outs b c) : Outs a c := ⟨k.os.trans h.os, k.tape.trans h.tape, k.output.trans h.output⟩

/-- more blocks have a number; those are new ones -/
structure Mu.grows (w : World) (a b : Mu) : Prop where
  le : a.le b
  new : ∀ n B sz, b n = some (B, sz) → a n = some (B, sz) ∨ w.heap.size ≤ B
theorem Mu.grows.refl (w : World) (a : Mu) : Mu.grows w a a := ⟨Mu.le_refl _, fun _ _ _ h => .inl h⟩
theorem Mu.grows.trans {w w' : World} {a b c : Mu} (h : Mu.grows w a b) (k : Mu.grows w' b c) (hs : w.heap.size ≤ w'.heap.size) : Mu.grows w a c :=
  ⟨Mu.le_trans h.le k.le, fun n B sz hc => by
    rcases k.new n B sz hc with h1 | h1
    · exact h.new n B sz h1
    · exact .inr (Nat.le_trans hs h1)⟩

/-- who holds what may not be touched -/
def Loc.shut (ro : Nat) : Loc → Prop
  | .oth => True
  | .cell b _ _ => b < ro
  | _ => False
theorem Loc.shut.mono {ro ro' : Nat} (h : ro ≤ ro') : ∀ {l : Loc}, l.shut ro → l.shut ro'
  | .oth, _ => trivial
  | .cell _ _ _, hl => Nat.lt_of_lt_of_le hl h
  | .slot _, hl => hl
  | .res, hl => hl

structure Ev (ro : Nat) (g : Gh) (w : World) (g' : Gh) (w' : World) : Prop where
  imm : g.imm.le g'.imm
  mun : Mu.grows w g.mu g'.mu
  size : w.heap.size ≤ w'.heap.size
  prot : ∀ (B : Nat) (l : Loc), g.ow B = some l → l.shut ro → g'.ow B = some l ∧ (∀ o, g'.imm B o = g.imm B o) ∧ w'.heap[B]? = w.heap[B]?
  loops : ∀ (L : Nat) (lr : Loop), w.heap[L]? = some (Obj.loop lr) → ∃ lr' : Loop, w'.heap[L]? = some (Obj.loop lr') ∧ lr'.defers = lr.defers
  out : Outs w w'

theorem Ev.mu {ro : Nat} {g : Gh} {w : World} {g' : Gh} {w' : World} (h : Ev ro g w g' w') : g.mu.le g'.mu := h.mun.le
theorem Ev.refl (ro : Nat) (g : Gh) (w : World) : Ev ro g w g w := ⟨Imm.le_refl _, .refl _ _, Nat.le_refl _, fun _ _ h _ => ⟨h, fun _ => rfl, rfl⟩, fun _ lr h => ⟨lr, h, rfl⟩, .refl _⟩
theorem Ev.trans {ro : Nat} {g g' g'' : Gh} {w w' w'' : World} (h : Ev ro g w g' w') (h' : Ev ro g' w' g'' w'') : Ev ro g w g'' w'' :=
  ⟨Imm.le_trans h.imm h'.imm, h.mun.trans h'.mun h.size, Nat.le_trans h.size h'.size, fun B l hB hl => by
    obtain ⟨a1, a2, a3⟩ := h.prot B l hB hl
    obtain ⟨b1, b2, b3⟩ := h'.prot B l a1 hl
    exact ⟨b1, fun o => by rw [b2, a2], by rw [b3, a3]⟩, fun L lr hl => by
    obtain ⟨lr', h1, h2⟩ := h.loops L lr hl
    obtain ⟨lr'', h3, h4⟩ := h'.loops L lr' h1
    exact ⟨lr'', h3, by rw [h4, h2]⟩, h.out.trans h'.out⟩

theorem Ev.less {ro ro' : Nat} {g g' : Gh} {w w' : World} (h : Ev ro' g w g' w') (hr : ro ≤ ro') : Ev ro g w g' w' :=
  ⟨h.imm, h.mun, h.size, fun B l hB hl => h.prot B l hB (hl.mono hr), h.loops, h.out⟩

theorem ER.mono {g g' : Gh} {w w' : World} {B sz b i : Nat} {el : AV} (h : ER g w B sz b i el) (hi : g.imm.le g'.imm) (hm : g.mu.le g'.mu)
    (hc : ∀ o, w'.cell? ⟨B, o, none⟩ = w.cell? ⟨B, o, none⟩)
    (hB : ∀ B' j, g.ow B' = some (.cell b i j) → g'.ow B' = some (.cell b i j) ∧ (∀ o, g'.imm B' o = g.imm B' o) ∧ w'.heap[B']? = w.heap[B']?) : ER g' w' B sz b i el := by
  unfold ER at h ⊢
  cases hl : aggOf el with
  | some l =>
    rw [hl] at h
    obtain ⟨h1, h2⟩ := h
    exact ⟨h1, fun j a ha => by
      obtain ⟨c, h3, h4, h5⟩ := h2 j a ha
      exact ⟨c, by rw [hc]; exact h3, h4, h5.mono hi hm fun B' hb => hB B' j hb⟩⟩
  | none =>
    rw [hl] at h
    obtain ⟨h1, c, h3, h4, h5⟩ := h
    exact ⟨h1, c, by rw [hc]; exact h3, h4, h5.mono hi hm fun B' hb => hB B' 0 hb⟩

theorem MapR.mono {g g' : Gh} (hi : g.imm.le g'.imm) (hm : g.mu.le g'.mu) : ∀ {l : List (AV × AV)} {es : List MapEntry}, MapR g l es → MapR g' l es
  | [], es, h => h
  | (k, v) :: l, es, h => by
    obtain ⟨e, es', h1, h2, h3, h4⟩ := h
    exact ⟨e, es', h1, VR.mono hi k (Mu.le_refl _) h2, VR.mono hi v (Mu.le_refl _) h3, MapR.mono hi hm h4⟩
theorem LR.mono {g g' : Gh} (hi : g.imm.le g'.imm) (hm : g.mu.le g'.mu) {r : ALoop} {lr : Loop} (h : LR g r lr) : LR g' r lr := by
  obtain ⟨h1, h2, h3, h4, h5, h6, h7, h8⟩ := h
  exact ⟨h1, h2, h3, h4, h5, h6, h7, fun t => by
    rcases h8 t with h | ⟨v, ha, hb⟩
    · exact .inl h
    · exact .inr ⟨v, ha, VR.mono hi _ hm hb⟩⟩

theorem cell_of_heap {w w' : World} {B : Nat} (h : w'.heap[B]? = w.heap[B]?) (o : Nat) : w'.cell? ⟨B, o, none⟩ = w.cell? ⟨B, o, none⟩ := by
  simp [World.cell?, h]

/-- a block that nothing has touched -/
theorem BR.mono {g g' : Gh} {w w' : World} {b : Nat} {blk : ABlock} (h : BR g w b blk) (hi : g.imm.le g'.imm) (hm : g.mu.le g'.mu)
    (hme : ∀ B sz, g.mu b = some (B, sz) → (∀ o, g'.imm B o = g.imm B o) ∧ w'.heap[B]? = w.heap[B]?)
    (hres : g.mu b = none → g'.mu b = none)
    (hB : ∀ B' i j, g.ow B' = some (.cell b i j) → g'.ow B' = some (.cell b i j) ∧ (∀ o, g'.imm B' o = g.imm B' o) ∧ w'.heap[B']? = w.heap[B']?) : BR g' w' b blk := by
  cases blk with
  | cells sz e els =>
    obtain ⟨B, h1, h2, h3, h4⟩ := h
    obtain ⟨e1, e2⟩ := hme B sz h1
    exact ⟨B, hm _ _ h1, by rw [e2]; exact h2, fun o => by rw [e1]; exact h3 o, fun i el hel => (h4 i el hel).mono hi hm (cell_of_heap e2) fun B' j hb => hB B' i j hb⟩
  | mapo es =>
    obtain ⟨B, sz, mes, clock, h1, h2, h3⟩ := h
    exact ⟨B, sz, mes, clock, hm _ _ h1, by rw [(hme B sz h1).2]; exact h2, h3.mono hi hm⟩
  | loop r =>
    obtain ⟨B, sz, lr, h1, h2, h3⟩ := h
    exact ⟨B, sz, lr, hm _ _ h1, by rw [(hme B sz h1).2]; exact h2, h3.mono hi hm⟩
  | gone => trivial
  | res => exact hres h

end Go.Abs
