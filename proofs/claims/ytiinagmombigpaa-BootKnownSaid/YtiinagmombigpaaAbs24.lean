/- Calls of functions; rounds of loops over functions. -/
import Derived.Test.YtiinagmombigpaaAbs23
set_option linter.unusedVariables false
set_option linter.unusedSimpArgs false
set_option linter.unnecessarySimpa false
namespace Go.Abs
variable {P : Program}

abbrev Fr (r : Option Nat) : Fence := { Fence.wide with round := r }

/-- the marks among a frame's deferred calls -/
def Marks (n0 : Nat) (g : Gh) (w : World) (ds : List Deferred) : Prop :=
  n0 ≤ w.heap.size ∧ ∃ rs : List Nat, ds = rs.map (fun r => { target := .collected r, args := #[] }) ∧ rs.Nodup ∧ ∀ r ∈ rs, n0 ≤ r ∧ g.ow r = some .oth ∧ w.heap[r]? = some (.deferred (some []))

theorem Marks.ev {n0 ro : Nat} {g g' : Gh} {w w' : World} {ds : List Deferred} (h : Marks n0 g w ds) (e : Ev ro g w g' w') : Marks n0 g' w' ds := by
  obtain ⟨h0, rs, h1, h2, h3⟩ := h
  refine ⟨Nat.le_trans h0 e.size, rs, h1, h2, fun r hr => ?_⟩
  obtain ⟨a, b, c⟩ := h3 r hr
  obtain ⟨d1, _, d3⟩ := e.prot r .oth b trivial
  exact ⟨a, d1, by rw [d3]; exact c⟩
theorem Marks.nil {n0 : Nat} {g : Gh} {w : World} (h : n0 ≤ w.heap.size) : Marks n0 g w [] := ⟨h, [], rfl, List.nodup_nil, by simp⟩

/-- in a round, the loop's record is there -/
def InRound (r : Option Nat) (w : World) : Prop := ∀ L, r = some L → ∃ lr : Loop, w.heap[L]? = some (Obj.loop lr)
theorem InRound.ev {r : Option Nat} {ro : Nat} {g g' : Gh} {w w' : World} (h : InRound r w) (e : Ev ro g w g' w') : InRound r w' := fun L hL => by
  obtain ⟨lr, h1⟩ := h L hL
  obtain ⟨lr', h2, _⟩ := e.loops L lr h1
  exact ⟨lr', h2⟩

def CallPost (ro : Nat) (H' : Hp) (v : AV) (g : Gh) (w : World) : Ending → World → Prop
  | .returned c, w' => ∃ g', MR g' ro H' w' ∧ Ev ro g w g' w' ∧ SR g' w' .res v c
  | _, _ => False

def CodeOk (P : Program) (ro nt : Nat) (c : Code) (fr : PT) (H : Hp) (e : Ex) (fr' : PT) (H' : Hp) : Prop :=
  ∀ (r : Option Nat) (n n0 : Nat) (g : Gh) (a : Act) (w : World), Rel g ro nt fr H a.tmps w → Marks n0 g w a.defers → InRound r w →
    ∀ Q : Exit → Act → World → Prop, (∀ a' w' g', Rel g' ro nt fr' H' a'.tmps w' → Marks n0 g' w' a'.defers → Ev ro g w g' w' → Q e.conc a' w') → c.wpIn (Fr r) n P Q a w

/-- a loop of at most k rounds -/
def LoopOk (P : Program) (k ro nt : Nat) (c : Code) (fr : PT) (H : Hp) (e : Ex) (fr' : PT) (H' : Hp) : Prop :=
  ∀ (r : Option Nat) (n n0 : Nat) (g : Gh) (a : Act) (w : World), Rel g ro nt fr H a.tmps w → Marks n0 g w a.defers → InRound r w →
    ∀ Q : Exit → Act → World → Prop, (∀ a' w' g', Rel g' ro nt fr' H' a'.tmps w' → Marks n0 g' w' a'.defers → Ev ro g w g' w' → Q e.conc a' w') → Code.roundsIn (Fr r) n P c Q k a w

structure HdOk (P : Program) (k : Nat) (h : Hd) : Prop where
  call : ∀ {ro : Nat} {f : FuncId} {args : List AV} {H : Hp} {v : AV} {H' : Hp}, h.call ro f args H = some (v, H') →
    (∀ (w : World) (cargs : Array Value), (callFunc f cargs).run P w = .ok (.enter f cargs) w) ∧
    ∀ {g : Gh} {w : World} {cargs : Array Value}, MR g ro H w → VRs g.imm g.mu args cargs.toList → ∀ n, CallsIn Fence.wide n P f cargs w (CallPost ro H' v g w)
  loop : ∀ {ro : Nat} {fn : FuncId} {nt : Nat} {c : Code} {fr : PT} {H : Hp} {e : Ex} {fr' : PT} {H' : Hp}, h.loop ro fn nt c fr H = some (e, fr', H') → LoopOk P k ro nt c fr H e fr' H'
  code : ∀ {ro : Nat} {fn : FuncId} {nt : Nat} {c : Code} {fr : PT} {H : Hp} {e : Ex} {fr' : PT} {H' : Hp}, h.code ro fn nt c fr H = some (e, fr', H') → CodeOk P ro nt c fr H e fr' H'

theorem hdOk_none : HdOk P 0 Hd.none := ⟨fun h => (by cases h), fun h => (by cases h), fun h => (by cases h)⟩

/-- what a call of a function comes to -/
def DonePost (ro : Nat) (H' : Hp) (v : AV) (d : Loc) (g : Gh) (w : World) : Ending → World → Prop
  | .returned c, w' => ∃ g', MR g' ro H' w' ∧ Evs ro g w g' w' ∧ SR g' w' d v c
  | _, _ => False

theorem docall_ok {k : Nat} {h : Hd} (hh : HdOk P k h) {ro : Nat} {f : FuncId} {args : List AV} {H H' : Hp} {v : AV} {wy : Way} {g : Gh} {w : World} {cargs : Array Value} (hm : MR g ro H w) (ha : VRs g.imm g.mu args cargs.toList)
    (hd : docall h ro f args H wy = some (v, H')) (d : Loc) :
    (∀ (w : World) (cargs : Array Value), (callFunc f cargs).run P w = .ok (.enter f cargs) w) ∧ ∀ n, CallsIn Fence.wide n P f cargs w (DonePost ro H' v d g w) := by
  cases wy with
  | full =>
    simp only [docall] at hd
    obtain ⟨h1, h2⟩ := hh.call hd
    refine ⟨h1, fun n => (h2 (g := g.lend) hm.lend (ha.map fun a c h => h.drp) n).mono fun e w' he => ?_⟩
    cases e with
    | returned c =>
      obtain ⟨g2, k1, k2, k3⟩ := he
      exact ⟨g.back g2 d, MR.back hm k1 k2, Evs.back k2, SR.back k2 k3⟩
    | panicked _ => exact he
    | outgrown => exact he
  | quiet =>
    simp only [docall, purely] at hd
    split at hd
    · rename_i v0 H0 hc
      cases hd
      obtain ⟨h1, h2⟩ := hh.call hc
      refine ⟨h1, fun n => (h2 hm.quiet (ha.map fun a c h => h.drp) n).mono fun e w' he => ?_⟩
      cases e with
      | returned c =>
        obtain ⟨g2, k1, k2, k3⟩ := he
        exact ⟨_, MR.kept (d := d) hm k2 k1, Evs.kept hm k2 k1, SR.frz (fun b hb => hm.dom b hb) k2 k1 k3⟩
      | panicked _ => exact he
      | outgrown => exact he
    · cases hd
  | pure =>
    simp only [docall, purely] at hd
    split at hd
    · rename_i v0 H0 hc
      cases hd
      obtain ⟨h1, h2⟩ := hh.call hc
      refine ⟨h1, fun n => (h2 hm.pureCall (ha.map fun a c h => h.cl2) n).mono fun e w' he => ?_⟩
      cases e with
      | returned c =>
        obtain ⟨g2, k1, k2, k3⟩ := he
        exact ⟨_, MR.kept (d := d) hm k2 k1, Evs.kept hm k2 k1, SR.frz (fun b hb => rfl) k2 k1 k3⟩
      | panicked _ => exact he
      | outgrown => exact he
    · cases hd

/-! ### rounds -/
/-- a loop's record is written -/
theorem loopW_ok {ro : Nat} {g : Gh} {H : Hp} {w : World} {b : Nat} {blk : ABlock} {r' : ALoop} {lr lr' : Loop} (hm : MR g ro H w) (hro : ro ≤ b) (hb : H[b]? = some blk) {B sz : Nat} (hmu : g.mu b = some (B, sz)) (hh : w.heap[B]? = some (.loop lr)) (hr : LR g r' lr') (hd : lr'.defers = lr.defers) :
    MR g ro (H.set b (.loop r')) (w.putObj B (.loop lr')) ∧ Evs ro g w g (w.putObj B (.loop lr')) := by
  have how : g.ow B = none := hm.free b B sz hro hmu
  have hlt : B < w.heap.size := hm.lt b B sz hmu
  have k : Keeps g w g (w.putObj B (.loop lr')) (fun B' => B' = B) :=
    ⟨Imm.le_refl _, .refl _ _, by simp, fun B' _ hB' => ⟨rfl, fun _ => rfl, World.putObj_heap_other hB'⟩, ⟨rfl, rfl, rfl⟩⟩
  have himm : ∀ o, g.imm B o = none := by
    intro o
    cases hi : g.imm B o with
    | none => rfl
    | some v => have := hm.imm B o v hi; simp [World.cell?, hh] at this
  constructor
  · refine hm.change k b ?_ rfl ?_ (fun _ _ _ _ => rfl) (fun b' hb' => by rw [List.getElem?_set_ne (Ne.symm hb')]) (by simp) ?_ ?_ ?_
    · intro B' o v hv
      have hne : B' ≠ B := by intro e; subst e; rw [himm] at hv; cases hv
      rw [cell_of_heap (World.putObj_heap_other hne)]
      exact hm.imm B' o v hv
    · intro B' l hl; rw [World.putObj_size]; exact hm.owlt B' l hl
    · intro b' B' s hne hmu' e; subst e; exact hne (hm.inj b' b _ _ _ hmu' hmu)
    · intro b' B' i' j' _ hB' e; subst e; rw [how] at hB'; cases hB'
    · intro blk' hblk
      rw [List.getElem?_set_self (lt_of_get hb)] at hblk
      cases hblk
      exact ⟨B, sz, lr', hmu, World.putObj_heap_same hlt, hr⟩
  · have hne : ∀ B' l, g.ow B' = some l → B' ≠ B := by intro B' l hB' e; subst e; rw [how] at hB'; cases hB'
    refine { imm := k.imm, mun := k.mun, size := k.size, out := k.out, prot := ?_, slots := ?_, loops := ?_ }
    · intro B' l hB' _; exact ⟨hB', fun _ => rfl, World.putObj_heap_other (hne B' l hB')⟩
    · intro L lr0 hl
      by_cases e : L = B
      · subst e
        rw [hh] at hl; cases hl
        exact ⟨lr', World.putObj_heap_same hlt, hd⟩
      · exact ⟨lr0, by rw [World.putObj_heap_other e]; exact hl, rfl⟩
    · intro t B' hB'; exact ⟨hB', fun _ => rfl, World.putObj_heap_other (hne B' _ hB')⟩

def SlotsV (imm : Imm) (mu : Mu) (fr : PT) (tm : Array Value) : Prop := ∀ t, fr.get t = .dead ∨ ∃ v, tm[t]? = some v ∧ VR imm mu (fr.get t) v

theorem SlotsV.set {imm : Imm} {mu : Mu} {fr : PT} {tm : Array Value} (h : SlotsV imm mu fr tm) {t : Tmp} {x : AV} {v : Value} (ht : t < tm.size) (h16 : t < 16000) (hx : VR imm mu x v) : SlotsV imm mu (fr.set t x) (tm.setIfInBounds t v) := by
  intro s
  by_cases e : t = s
  · subst e
    right
    rw [PT.get_set_eq h16]
    exact ⟨v, by simp [ht], hx⟩
  · rw [PT.get_set_ne e]
    rcases h s with h1 | ⟨u, h1, h2⟩
    · exact .inl h1
    · exact .inr ⟨u, by rw [Array.getElem?_setIfInBounds_ne e]; exact h1, h2⟩

theorem setArgs_ok {imm : Imm} {mu : Mu} : ∀ (ps : List Tmp) {as : List AV} {cs : List Value} {fr : PT} {tm : Array Value}, VRs imm mu as cs → SlotsV imm mu fr tm → (∀ p ∈ ps, p < tm.size ∧ p < 16000) →
    SlotsV imm mu (setArgs (ps.zip as) fr) ((ps.zip cs).foldl (fun tmps (x : Tmp × Value) => tmps.setIfInBounds x.1 x.2) tm) ∧ ((ps.zip cs).foldl (fun tmps (x : Tmp × Value) => tmps.setIfInBounds x.1 x.2) tm).size = tm.size
  | [], _, _, _, _, _, h, _ => ⟨h, rfl⟩
  | p :: ps, [], cs, fr, tm, ha, h, _ => by
    rw [VRs_nil ha]; exact ⟨h, rfl⟩
  | p :: ps, a :: as, cs, fr, tm, ha, h, hp => by
    obtain ⟨c, cs', rfl, h1, h2⟩ := VRs_cons ha
    simp only [List.zip_cons_cons, setArgs, List.foldl_cons]
    obtain ⟨k1, k2⟩ := setArgs_ok ps h2 (h.set (hp p (by simp)).1 (hp p (by simp)).2 h1.drp) fun q hq => by
      rw [Array.size_setIfInBounds]; exact hp q (by simp [hq])
    exact ⟨k1, by rw [k2, Array.size_setIfInBounds]⟩

theorem Ex.conc_normal {e : Ex} (h : e ≠ .normal) : (e.conc = .ret ∧ e.code = some .ret) ∨ ∃ id, e.conc = .exit id ∧ e.code = some (.exit id) := by
  cases e with
  | normal => exact absurd rfl h
  | exit id => exact .inr ⟨id, rfl, rfl⟩
  | ret => exact .inl ⟨rfl, rfl⟩

theorem Evs.trans {ro : Nat} {g g' g'' : Gh} {w w' w'' : World} (h : Evs ro g w g' w') (k : Evs ro g' w' g'' w'') : Evs ro g w g'' w'' :=
  { toEv := h.toEv.trans k.toEv, slots := fun t B hB => by
      obtain ⟨a1, a2, a3⟩ := h.slots t B hB
      obtain ⟨b1, b2, b3⟩ := k.slots t B a1
      exact ⟨b1, fun o => by rw [b2, a2], by rw [b3, a3]⟩ }

theorem LS.conc_ready {s : LS} (h : s = .ready) : s.conc = .ready := by rw [h]; rfl

theorem round_ok {k : Nat} {h : Hd} (hh : HdOk P k h) {ro l : Nat} {args : List AV} {H H' : Hp} {v : AV} {g : Gh} {w : World} {cargs : Array Value} {c : Value} (hm : MR g ro H w) (ha : VRs g.imm g.mu args cargs.toList) (hl : VR g.imm g.mu (.yld l) c)
    (hd : round h ro l args H = some (v, H')) (d : Loc) :
    ∃ (L : Nat) (lr : Loop) (tm : Array Value), c = .func (.yield L) #[] #[] ∧ (Instr.yield L cargs).run P w = .ok (.round L lr.fn tm lr.assign lr.body) w ∧ ∀ n, RoundIn Fence.wide n P L lr.fn tm lr.assign lr.body w (DonePost ro H' v d g w) := by
  unfold round at hd
  split at hd
  · cases hd
  · rename_i hro
    have hro : ro ≤ l := Nat.le_of_not_lt hro
    split at hd
    · rename_i r hb
      split at hd
      · rename_i hc
        obtain ⟨hst, hal, hps⟩ := hc
        simp only [VR] at hl
        obtain ⟨L, sz, hmu, rfl⟩ := hl
        obtain ⟨L', sz', lr, h1, h2, h3⟩ := hm.blk l _ hb
        rw [hmu] at h1; cases h1
        have h3' := h3
        obtain ⟨l1, l2, l3, l4, l5, l6, l7, l8⟩ := h3'
        have hsz : cargs.size = lr.params.size := by
          have := ha.length
          rw [l1]; simp only [Array.length_toList] at this; simp [this, hal]
        refine ⟨L, lr, _, rfl, run_yield h2 hsz, fun n => ?_⟩
        -- the frame of the round
        obtain ⟨s1, s2⟩ := setArgs_ok r.params ha (fr := r.fr) (tm := lr.tmps) l8 (fun p hp => by
          have := List.all_eq_true.1 hps p hp
          have : p < r.nt := by simpa using this
          exact ⟨by rw [l6]; exact this, Nat.lt_of_lt_of_le this l7⟩)
        have hfold : (lr.params.zip cargs).foldl (fun tmps (x : Tmp × Value) => tmps.setIfInBounds x.1 x.2) lr.tmps = (r.params.zip cargs.toList).foldl (fun tmps (x : Tmp × Value) => tmps.setIfInBounds x.1 x.2) lr.tmps := by
          rw [l1, ← Array.foldl_toList]; simp
        unfold bodyRound at hd
        split at hd
        · rename_i fr1 H1 hassign
          split at hd
          · rename_i r1 hb1
            split at hd
            · rename_i hst1
              cases hbody : h.code ro r.fn r.nt r.body fr1 (H1.set l (.loop { r1 with state := .busy })) with
              | none => rw [hbody] at hd; cases hd
              | some res =>
                obtain ⟨e, fr2, H2⟩ := res
                rw [hbody] at hd
                simp only [endRound] at hd
                split at hd
                · rename_i r2 hb2
                  cases hd
                  have hrel : Rel g.lend ro r.nt (setArgs (r.params.zip args) r.fr) H ((lr.params.zip cargs).foldl (fun tmps (x : Tmp × Value) => tmps.setIfInBounds x.1 x.2) lr.tmps) w := by
                    rw [hfold]
                    refine ⟨by rw [s2, l6], l7, fun t => ?_, hm.lend⟩
                    rcases s1 t with h | ⟨u, h4, h5⟩
                    · exact .inl h
                    · exact .inr ⟨u, h4, VR.sr (g := g.lend) h5⟩
                  refine roundIn_of_wpIn trivial ?_
                  rw [l2]
                  refine hh.code hassign (some L) n w.heap.size g.lend { tmps := _, defers := [] } w hrel (.nil (Nat.le_refl _)) (fun L' hL' => by cases hL'; exact ⟨lr, h2⟩) _ fun a1 w1 g1 hr1 hm1 e1 => ?_
                  obtain ⟨L1, sz1, lr1, q1, q2, q3⟩ := hr1.mem.blk l _ hb1
                  have hmu1 : g1.mu l = some (L, sz) := e1.mu _ _ hmu
                  rw [hmu1] at q1; cases q1
                  have hrs : lr1.state = .ready := by rw [q3.2.2.2.1, LS.conc_ready hst1]
                  refine ⟨_, run_beginRound q2 hrs, ?_⟩
                  have q3' : LR g1 { r1 with state := .busy } { lr1 with state := .busy } := ⟨q3.1, q3.2.1, q3.2.2.1, rfl, q3.2.2.2.2.1, q3.2.2.2.2.2.1, q3.2.2.2.2.2.2.1, q3.2.2.2.2.2.2.2⟩
                  obtain ⟨m1, m2⟩ := loopW_ok hr1.mem hro hb1 hmu1 q2 q3' rfl
                  have hrel2 : Rel g1 ro r.nt fr1 (H1.set l (.loop { r1 with state := .busy })) a1.tmps (w1.putObj L (.loop { lr1 with state := .busy })) := by
                    refine ⟨hr1.size, hr1.nt_le, fun t => ?_, m1⟩
                    rcases hr1.slots t with h | ⟨u, h4, h5⟩
                    · exact .inl h
                    · exact .inr ⟨u, h4, h5.mono m2.imm m2.mun.le fun B hB => m2.slots t B hB⟩
                  rw [l3]
                  refine hh.code hbody (some L) n w.heap.size g1 a1 _ hrel2 (hm1.ev m2.toEv) (fun L' hL' => by cases hL'; exact ⟨_, World.putObj_heap_same (hr1.mem.lt _ _ _ hmu1)⟩) _ fun a2 w2 g2 hr2 hm2 e2 => ?_
                  have hmu2 : g2.mu l = some (L, sz) := e2.mu _ _ hmu1
                  obtain ⟨L2, sz2, lr2, p1, p2, p3⟩ := hr2.mem.blk l _ hb2
                  rw [hmu2] at p1; cases p1
                  have eall : Ev ro g.lend w g2 w2 := (e1.trans m2.toEv).trans e2
                  -- the end, by its way
                  have fin : ∀ (jump : Option Code), jump = (if e = .normal then none else some e).bind Ex.code → jump.isNone = decide (e = .normal) →
                      ∃ v w', (Instr.endRound L jump).run P w2 = .ok v w' ∧ DonePost ro (H2.set l (.loop { r2 with state := if e = .normal then .ready else .done, pending := if e = .normal then none else some e })) (.lit (.bool (e == .normal))) d g w (.returned v) w' := by
                    intro jump hj hjn
                    have p3' : LR g2 { r2 with state := if e = .normal then .ready else .done, pending := if e = .normal then none else some e } { lr2 with state := if jump.isNone then .ready else .done, pending := jump } := by
                      refine ⟨p3.1, p3.2.1, p3.2.2.1, ?_, hj, p3.2.2.2.2.2.1, p3.2.2.2.2.2.2.1, p3.2.2.2.2.2.2.2⟩
                      simp only [hjn]
                      by_cases he : e = .normal <;> simp [he, LS.conc]
                    obtain ⟨z1, z2⟩ := loopW_ok hr2.mem hro hb2 hmu2 p2 p3' rfl
                    refine ⟨_, _, run_endRound jump p2, g.back g2 d, MR.back hm z1 (eall.trans z2.toEv), Evs.back (eall.trans z2.toEv), ?_⟩
                    refine VR.sr ?_
                    simp only [VR, hjn]
                    cases e <;> rfl
                  cases e with
                  | normal => exact fin none (by simp) (by simp)
                  | exit id => exact fin (some (.exit id)) (by simp [Ex.code]) (by simp)
                  | ret => exact fin (some .ret) (by simp [Ex.code]) (by simp)
                · cases hd
            · cases hd
          · cases hd
        · cases hd
      · cases hd
    · cases hd

end Go.Abs
