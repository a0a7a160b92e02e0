/- Lengths, slices, addresses, parts. -/
import Derived.Test.YtiinagmombigpaaAbs10
namespace Go.Abs
variable {P : Program} {T : TypeId → Option TI} {imm : Imm} {mu : Mu} {w : World}

theorem addr_add (B o n : Nat) : (⟨B, o, none⟩ : Addr).add n = ⟨B, o + n, none⟩ := by
  unfold Addr.add; split
  · rename_i h; subst h; rfl
  · rfl

theorem natOf_spec {x : AV} {n : Nat} {a : Value} (h : natOf x = some n) (hx : VR imm mu x a) : ∃ k m, a = .int k m ∧ 0 ≤ m ∧ m.toNat = n := by
  unfold natOf at h
  split at h
  · rename_i k m
    split at h
    · rename_i h0
      simp only [Option.some.injEq] at h
      exact ⟨k, m, VR_lit hx, h0, h⟩
    · cases h
  · cases h

theorem minmax_go_ok (mx : Bool) : ∀ {l : List AV} {cs : List Value} (k : IntKind) (n : Int) {v : AV}, VRs imm mu l cs → aminmax.go mx k n l = some v →
    ∃ c, (cs.foldlM (if mx then Builtin.max2 else Builtin.min2) (.int k n)).run P w = .ok c w ∧ VR imm mu v c
  | [], cs, k, n, v, hl, h => by
    simp only [aminmax.go, Option.some.injEq] at h; subst h
    rw [VRs_nil hl]; exact ⟨_, rfl, by simp [VR]⟩
  | x :: l, cs, k, n, v, hl, h => by
    obtain ⟨c, cs', rfl, h1, h2⟩ := VRs_cons hl
    unfold aminmax.go at h
    split at h
    · rename_i he; cases he
    · rename_i k' y rest he
      cases he
      rw [VR_lit h1]
      obtain ⟨c, h3, h4⟩ := minmax_go_ok mx k _ h2 h
      refine ⟨c, ?_, h4⟩
      simp only [List.foldlM_cons, Sem.run_bind]
      cases mx with
      | true => simpa [Builtin.max2, Result.andThen] using h3
      | false => simpa [Builtin.min2, Result.andThen] using h3
    · cases h

theorem aminmax_ok (mx : Bool) {l : List AV} {cs : Array Value} {v : AV} (tys : Array TypeId) (ty : TypeId) (hl : VRs imm mu l cs.toList) (h : aminmax mx l = some v) :
    ∃ c, ((if mx then Builtin.max_ else Builtin.min_) tys ty cs).run P w = .ok c w ∧ VR imm mu v c := by
  unfold aminmax at h
  split at h
  · cases h
  · obtain ⟨c, cs', e1, h1, h2⟩ := VRs_cons hl
    obtain ⟨c', h3, h4⟩ := minmax_go_ok (P := P) (w := w) mx _ _ h2 h
    refine ⟨c', ?_, h4⟩
    rw [VR_lit h1] at e1
    cases mx with
    | true => simp only [if_true, Builtin.max_, e1]; simpa using h3
    | false => simp only [Bool.false_eq_true, if_false, Builtin.min_, e1]; simpa using h3
  · cases h

theorem MapR.length {g : Gh} : ∀ {l : List (AV × AV)} {es : List MapEntry}, MapR g l es → es.length = l.length
  | [], es, h => by simp [MapR] at h; simp [h]
  | (k, v) :: l, es, h => by obtain ⟨e, es', rfl, _, _, h4⟩ := h; simp [MapR.length h4]

theorem alen_ok (hT : TOk P T) {g : Gh} {ro : Nat} {H : Hp} (hm : MR g ro H w) {t : TypeId} {x v : AV} {a : Value} (hx : VR g.imm g.mu x a) (h : alen T t H x = some v)
    {tys : Array TypeId} {ty : TypeId} {args : Array Value} (h1 : tys[0]? = some t) (h2 : args[0]? = some a) : ∃ c, (Builtin.len_ tys ty args).run P w = .ok c w ∧ VR g.imm g.mu v c := by
  unfold alen at h
  simp only [Builtin.len_, h1, h2, Sem.run_bind]
  split at h
  · rename_i ht
    rw [run_underlying_of (hT.str ht rfl)]
    split at h
    · cases h; rw [VR_lit hx]; exact ⟨_, rfl, by simp [VR, goInt]⟩
    · cases h
  · rename_i ht
    rw [run_underlying_of (hT.array ht rfl)]
    cases h; exact ⟨_, rfl, by simp [VR, goInt]⟩
  · rename_i ht
    rw [run_underlying_of (hT.slice ht rfl)]
    split at h
    · cases h; simp only [VR] at hx; obtain ⟨B, o, cap, cs, rfl, _⟩ := hx; exact ⟨_, rfl, by simp [VR, goInt]⟩
    · cases h; simp only [VR] at hx; obtain ⟨B, cap, _, _, rfl⟩ := hx; exact ⟨_, rfl, by simp [VR, goInt]⟩
    · cases h; rw [VR_lit hx]; exact ⟨_, rfl, by simp [VR, goInt]⟩
    · cases h
  · rename_i ht
    rw [run_underlying_of (hT.map ht rfl)]
    split at h
    · split at h
      · rename_i m es hes
        cases h
        simp only [VR] at hx
        obtain ⟨B, sz, h3, rfl⟩ := hx
        obtain ⟨B', sz', mes, clock, h4, h5, h6⟩ := hm.blk _ _ hes
        rw [h3] at h4; cases h4
        refine ⟨goInt mes.size, ?_, by simp only [VR, goInt]; rw [← h6.length]; simp⟩
        simp [Result.andThen, getObj, Sem.run, h5]
      · cases h
    · cases h; rw [VR_lit hx]; exact ⟨_, rfl, by simp [VR, goInt]⟩
    · cases h
  · cases h

/-! ### slices -/
def ovr (imm : Imm) (mu : Mu) : Option AV → Option Value → Prop
  | none, none => True
  | some x, some a => VR imm mu x a
  | _, _ => False

theorem sliceBound_ok {k : IntKind} {m : Int} {n y : Nat} (h0 : 0 ≤ m) (hn : m.toNat = n) (hy : n ≤ y) (code : BoundsCode) : (Instr.sliceBound (.int k m) y code).run P w = .ok n w := by
  have : 0 ≤ m ∧ m ≤ (y : Int) := ⟨h0, by omega⟩
  simp [Instr.sliceBound, asIntOf, this, hn]

theorem natOr_spec {d l : Nat} {o : Option AV} {vo : Option Value} (h : ovr imm mu o vo) (e : natOr d o = some l) :
    (o.isSome = false ∧ vo = none ∧ l = d) ∨ (o.isSome = true ∧ ∃ k i, vo = some (.int k i) ∧ 0 ≤ i ∧ i.toNat = l) := by
  cases o with
  | none => cases vo with
    | none => simp only [natOr, Option.some.injEq] at e; exact .inl ⟨rfl, rfl, e.symm⟩
    | some _ => exact h.elim
  | some x => cases vo with
    | none => exact h.elim
    | some v =>
      obtain ⟨k, i, rfl, hi0, hin⟩ := natOf_spec e h
      exact .inr ⟨rfl, k, i, rfl, hi0, hin⟩

theorem sliceBounds_ok {isSlice : Bool} {len cap : Nat} {lo hi mx : Option AV} {vlo vhi vmx : Option Value} (h1 : ovr imm mu lo vlo) (h2 : ovr imm mu hi vhi) (h3 : ovr imm mu mx vmx) {l h m : Nat}
    (e1 : natOr 0 lo = some l) (e2 : natOr len hi = some h) (e3 : natOr cap mx = some m) (hlh : l ≤ h) (hhm : h ≤ m) (hm : m ≤ cap) (hmx : mx.isSome → hi.isSome) :
    (Instr.sliceBounds isSlice len cap vlo vhi vmx).run P w = .ok (l, h, m) w := by
  rcases natOr_spec h3 e3 with ⟨m0, rfl, rfl⟩ | ⟨m0, k3, i3, rfl, p3, q3⟩
  · rcases natOr_spec h2 e2 with ⟨_, rfl, rfl⟩ | ⟨_, k2, i2, rfl, p2, q2⟩
    · rcases natOr_spec h1 e1 with ⟨_, rfl, rfl⟩ | ⟨_, k1, i1, rfl, p1, q1⟩
      · simp [Instr.sliceBounds]
      · simp [Instr.sliceBounds, Result.andThen, sliceBound_ok p1 q1 hlh]
    · rcases natOr_spec h1 e1 with ⟨_, rfl, rfl⟩ | ⟨_, k1, i1, rfl, p1, q1⟩
      · simp [Instr.sliceBounds, Result.andThen, sliceBound_ok p2 q2 hhm]
      · simp [Instr.sliceBounds, Result.andThen, sliceBound_ok p1 q1 hlh, sliceBound_ok p2 q2 hhm]
  · rcases natOr_spec h2 e2 with ⟨h0, rfl, rfl⟩ | ⟨_, k2, i2, rfl, p2, q2⟩
    · rw [hmx m0] at h0; cases h0
    · rcases natOr_spec h1 e1 with ⟨_, rfl, rfl⟩ | ⟨_, k1, i1, rfl, p1, q1⟩
      · simp [Instr.sliceBounds, Result.andThen, sliceBound_ok p2 q2 hhm, sliceBound_ok p3 q3 hm]
      · simp [Instr.sliceBounds, Result.andThen, sliceBound_ok p1 q1 hlh, sliceBound_ok p2 q2 hhm, sliceBound_ok p3 q3 hm]

theorem VRels.seg_sub {sz : Nat} {B o n k : Nat} {cs : List Value} (hs : Seg imm B o cs) : Seg imm B (o + n * sz) ((cs.drop (n * sz)).take (k * sz)) := by
  intro i c hc
  rw [List.getElem?_take] at hc
  split at hc
  · rw [List.getElem?_drop] at hc
    have := hs _ _ hc
    rw [Nat.add_assoc]; exact this
  · cases hc

theorem aslice_ok (hT : TOk P T) {t : TypeId} {x v : AV} {lo hi mx : Option AV} {a : Value} {vlo vhi vmx : Option Value} (hx : VR imm mu x a) (h1 : ovr imm mu lo vlo) (h2 : ovr imm mu hi vhi) (h3 : ovr imm mu mx vmx)
    (h : aslice T t x lo hi mx = some v) : ∃ c, (Instr.sliceAt t a vlo vhi vmx).run P w = .ok c w ∧ VR imm mu v c := by
  unfold aslice at h
  split at h
  · -- a list
    rename_i sz k els
    split at h
    · rename_i e _ ht
      have hu := hT.slice ht rfl
      split at h
      · rename_i hc
        obtain ⟨hsz, hmx⟩ := hc
        simp only [VR] at hx
        obtain ⟨B, o, cap, cs, rfl, hk1, hk2, hcap, hels, hseg⟩ := hx
        have hrs : ∀ w, (sizeOf e).run P w = .ok sz w := by
          intro w
          cases hte : T e with
          | none => rw [hte] at hsz; cases hsz
          | some te => rw [hte] at hsz; simp at hsz; rw [← hsz]; exact hT.run_size hte w
        split at h
        · rename_i l h' el eh
          have fin : ∀ m, (Instr.sliceBounds true els.length cap vlo vhi vmx).run P w = .ok (l, h', m) w → l ≤ h' → h' ≤ els.length → h' ≤ m → ∀ k', k' ≠ .own → (k' = .exact → m = h') →
              ∃ c, (Instr.sliceAt t (.slice (some ⟨B, o, none⟩) els.length cap) vlo vhi vmx).run P w = .ok c w ∧ VR imm mu (.vec sz k' ((els.drop l).take (h' - l))) c := by
            intro m hb hlh hhl hhm k' hk' hex
            have hlen : ((els.drop l).take (h' - l)).length = h' - l := by simp; omega
            by_cases hml : m = l
            · subst hml
              have e0 : h' = m := by omega
              subst e0
              refine ⟨.slice (some ⟨B, o, none⟩) 0 0, ?_, ?_⟩
              · simp only [Instr.sliceAt, Sem.run_bind, run_underlying_of hu, Result.andThen, Instr.slice, hb, hrs]
                simp
              · simp only [VR]
                exact ⟨B, o, 0, [], by simp, hk', fun _ => by simp, by simp, by simp [VRels], fun i c hc => by simp at hc⟩
            · refine ⟨.slice (some ⟨B, o + l * sz, none⟩) (h' - l) (m - l), ?_, ?_⟩
              · simp only [Instr.sliceAt, Sem.run_bind, run_underlying_of hu, Result.andThen, Instr.slice, hb, hrs]
                simp [hml, addr_add]
              · simp only [VR]
                exact ⟨B, o + l * sz, m - l, (cs.drop (l * sz)).take ((h' - l) * sz), by rw [hlen], hk', fun hx => by rw [hlen, hex hx], by rw [hlen]; omega, (hels.drop l).take (h' - l), VRels.seg_sub hseg⟩
          split at h
          · split at h
            · rename_i hlh
              cases h
              have hcapn : natOr cap (none : Option AV) = some cap := rfl
              refine fin cap (sliceBounds_ok h1 h2 h3 el eh hcapn hlh.1 (by omega) (Nat.le_refl _) hmx) hlh.1 hlh.2 (by omega) _ (by split <;> simp) ?_
              intro hex
              split at hex
              · rename_i hh; rw [hk2 hh.2, hh.1]
              · cases hex
            · cases h
          · split at h
            · rename_i m em
              split at h
              · rename_i hlh
                cases h
                refine fin m (sliceBounds_ok h1 h2 h3 el eh em hlh.1 hlh.2.1 (by omega) hmx) hlh.1 (by omega) hlh.2.1 _ (by split <;> simp) ?_
                intro hex
                split at hex
                · assumption
                · cases hex
              · cases h
            · cases h
        · cases h
      · cases h
    · cases h
  · -- nil
    split at h
    · rename_i e _ ht
      have hu := hT.slice ht rfl
      split at h
      · rename_i el eh em
        split at h
        · rename_i hmx
          cases h
          rw [VR_lit hx]
          have hb : (Instr.sliceBounds true 0 0 vlo vhi vmx).run P w = .ok (0, 0, 0) w := sliceBounds_ok h1 h2 h3 el eh em (Nat.le_refl _) (Nat.le_refl _) (Nat.le_refl _) hmx.2
          have hrs : ∃ n, (sizeOf e).run P w = .ok n w := by
            cases hte : T e with
            | none => rw [hte] at hmx; simp at hmx
            | some te => exact ⟨_, hT.run_size hte w⟩
          obtain ⟨n, hrs⟩ := hrs
          refine ⟨.slice none 0 0, ?_, by simp [VR]⟩
          simp only [Instr.sliceAt, Sem.run_bind, run_underlying_of hu, Result.andThen, Instr.slice, hb, hrs]
          simp
        · cases h
      · cases h
    · cases h
  · -- a block
    rename_i b sz i len cap
    split at h
    · rename_i e _ ht
      have hu := hT.slice ht rfl
      split at h
      · rename_i te hte
        have hrs := hT.run_size hte w
        split at h
        · rename_i l h' m el eh em
          split at h
          · rename_i hc
            obtain ⟨hz, hlh, hhm, hmc, hmx⟩ := hc
            simp only [VR] at hx
            obtain ⟨B, cap', hB, hcap, rfl⟩ := hx
            subst hz
            have key : ∀ m', (Instr.sliceBounds true len cap' vlo vhi vmx).run P w = .ok (l, h', m') w → (mx.isSome = true → m' = m) → m ≤ m' → (mx.isSome = false → m' = cap' ∧ m = cap) →
                ∃ c, (Instr.sliceAt t (.slice (some ⟨B, i * te.size, none⟩) len cap') vlo vhi vmx).run P w = .ok c w ∧ VR imm mu v c := by
              intro m' hb hm1 hm2 hm3
              by_cases hml : m' = l
              · have hl : m = l := by omega
                rw [if_pos hl] at h
                cases h
                refine ⟨.slice (some ⟨B, i * te.size, none⟩) (h' - l) (m' - l), ?_, ?_⟩
                · simp only [Instr.sliceAt, Sem.run_bind, run_underlying_of hu, Result.andThen, Instr.slice, hb, hrs]
                  simp [hml]
                · simp only [VR]
                  exact ⟨B, i * te.size, m' - l, [], by simp; omega, by split <;> simp, fun _ => by simp; omega, by simp, by simp [VRels], fun i c hc => by simp at hc⟩
              · have hrun : (Instr.sliceAt t (.slice (some ⟨B, i * te.size, none⟩) len cap') vlo vhi vmx).run P w = .ok (.slice (some ⟨B, i * te.size + l * te.size, none⟩) (h' - l) (m' - l)) w := by
                  simp only [Instr.sliceAt, Sem.run_bind, run_underlying_of hu, Result.andThen, Instr.slice, hb, hrs]
                  simp [hml, addr_add]
                refine ⟨_, hrun, ?_⟩
                split at h
                · rename_i hl
                  cases h
                  have hh : h' = l := by omega
                  have hmx' : mx.isSome = false := by
                    cases hms : mx.isSome with
                    | false => rfl
                    | true => exact absurd ((hm1 hms).trans hl) hml
                  simp only [VR]
                  refine ⟨B, i * te.size + l * te.size, m' - l, [], by simp; omega, by rw [hmx']; simp, fun hx => ?_, by simp, by simp [VRels], fun i c hc => by simp at hc⟩
                  rw [hmx'] at hx; simp at hx
                · cases h
                  simp only [VR]
                  exact ⟨B, m' - l, hB, by omega, by rw [Nat.add_mul]⟩
            cases hms : mx.isSome with
            | false =>
              have hmn : mx = none := by cases mx <;> simp at hms ⊢
              subst hmn
              have em' : m = cap := by simp only [natOr, Option.some.injEq] at em; exact em.symm
              exact key cap' (sliceBounds_ok h1 h2 h3 el eh rfl hlh (by omega) (Nat.le_refl _) hmx) (fun hx => by cases hx) (by omega) (fun _ => ⟨rfl, em'⟩)
            | true =>
              have em' : natOr cap' mx = some m := by cases mx <;> simp_all [natOr]
              exact key m (sliceBounds_ok h1 h2 h3 el eh em' hlh hhm (by omega) hmx) (fun _ => rfl) (Nat.le_refl _) (fun hx => by rw [hms] at hx; cases hx)
          · cases h
        · cases h
      · cases h
    · cases h
  · -- a whole array
    split at h
    · rename_i n e _ ht
      have hu := hT.array ht rfl
      split at h
      · rename_i te hte
        have hrs := hT.run_size hte w
        split at h
        · rename_i hc
          cases h
          obtain ⟨c1, c2, c3⟩ := hc
          simp only [VR] at hx
          obtain ⟨B, sz, hB, rfl⟩ := hx
          have e1 : lo = none := by simpa using c1
          have e2 : hi = none := by simpa using c2
          have e3 : mx = none := by simpa using c3
          subst e1; subst e2; subst e3
          cases vlo <;> cases vhi <;> cases vmx <;> first | exact h1.elim | exact h2.elim | exact h3.elim | skip
          refine ⟨.slice (some ⟨B, _, none⟩) n n, ?_, by simp only [VR]; exact ⟨B, sz, hB, rfl⟩⟩
          simp only [Instr.sliceAt, Sem.run_bind, run_underlying_of hu, Result.andThen, Instr.sureAddr, Instr.sliceBounds]
          by_cases hn : n = 0 <;> simp [hn, addr_add, hrs]
        · cases h
      · cases h
    · cases h
  · -- a string
    split at h
    · rename_i ht
      have hu := hT.str ht rfl
      split at h
      · rename_i l h' el eh
        split at h
        · rename_i hc
          cases h
          rw [VR_lit hx]
          have hb : ∀ s : ByteArray, h' ≤ s.size → natOr s.size hi = some h' → (Instr.sliceBounds false s.size s.size vlo vhi none).run P w = .ok (l, h', s.size) w := fun s hs eh => by
            have h3' : ovr imm mu none none := trivial
            exact sliceBounds_ok h1 h2 h3' el eh rfl hc.1 hs (Nat.le_refl _) (by simp)
          cases vmx with
          | some _ => exact h3.elim
          | none =>
            refine ⟨_, ?_, by simp only [VR]; rfl⟩
            simp only [Instr.sliceAt, Sem.run_bind, run_underlying_of hu, Result.andThen, Instr.slice]
            simp [hb _ hc.2 eh]
        · cases h
      · cases h
    · cases h
  · cases h

/-! ### addresses -/
theorem VR_vp0 {sz n B o : Nat} {els : List AV} {cs : List Value} {el : AV} (hels : VRels imm noMu sz els cs) (hseg : Seg imm B o cs) (hel : els[n]? = some el) :
    VR imm mu (.vp el 0) (.pointer (some ⟨B, o + n * sz, none⟩)) := by
  obtain ⟨c, h1, h2, h3, h4⟩ := hels.get hel
  simp only [VR]
  exact ⟨B, o + n * sz, c, rfl, h1, h3, fun j x hx => by rw [Nat.add_assoc]; exact hseg _ _ (h4 j x hx)⟩

theorem aindexAddr_ok (hT : TOk P T) {t : TypeId} {x ix v : AV} {a b : Value} (hx : VR imm mu x a) (hi : VR imm mu ix b) (h : aindexAddr T t x ix = some v) :
    ∃ c, (Instr.indexAt t a b).run P w = .ok c w ∧ VR imm mu v c := by
  unfold aindexAddr at h
  split at h
  · rename_i n _ _ _ _ e _ en ht
    obtain ⟨k, m, rfl, h0, hn⟩ := natOf_spec en hi
    have hu := hT.slice ht rfl
    split at h
    · rename_i te hte
      have hrs := hT.run_size hte w
      split at h
      · rename_i sz _ els
        split at h
        · rename_i hz
          subst hz
          cases hel : els[n]? with
          | none => rw [hel] at h; cases h
          | some el =>
            rw [hel] at h
            cases h
            simp only [VR] at hx
            obtain ⟨B, o, cap, cs, rfl, _, _, _, hels, hseg⟩ := hx
            have hlt : n < els.length := (List.getElem?_eq_some_iff.1 hel).1
            refine ⟨.pointer (some ⟨B, o + n * te.size, none⟩), ?_, VR_vp0 hels hseg hel⟩
            have hb : 0 ≤ m ∧ m < (els.length : Int) := ⟨h0, by omega⟩
            simp only [Instr.indexAt, asIntOf, Sem.run_bind, run_underlying_of hu, Result.andThen, Sem.run_pure]
            simp [hb, hrs, addr_add, hn]
        · cases h
      · rename_i bb sz i len _
        split at h
        · rename_i hz
          obtain ⟨hz, hlt⟩ := hz
          subst hz
          cases h
          simp only [VR] at hx
          obtain ⟨B, cap, hB, hcap, rfl⟩ := hx
          refine ⟨.pointer (some ⟨B, i * te.size + n * te.size, none⟩), ?_, by simp only [VR]; exact ⟨B, te.size, hB, by rw [Nat.add_mul]; rfl⟩⟩
          have hb : 0 ≤ m ∧ m < (len : Int) := ⟨h0, by omega⟩
          simp only [Instr.indexAt, asIntOf, Sem.run_bind, run_underlying_of hu, Result.andThen, Sem.run_pure]
          simp [hb, hrs, addr_add, hn]
        · cases h
      · cases h
    · cases h
  · rename_i n _ _ _ _ m' e _ en ht
    obtain ⟨k, m, rfl, h0, hn⟩ := natOf_spec en hi
    have hu := hT.array ht rfl
    split at h
    · rename_i te hte
      have hrs := hT.run_size hte w
      split at h
      · rename_i hlt
        have hb : 0 ≤ m ∧ m < (m' : Int) := ⟨h0, by omega⟩
        split at h
        · cases h
          simp only [VR] at hx
          obtain ⟨B, sz, hB, rfl⟩ := hx
          refine ⟨.pointer (some ⟨B, _ + n * te.size, none⟩), ?_, by simp only [VR]; exact ⟨B, sz, hB, by rw [Nat.add_assoc]⟩⟩
          simp only [Instr.indexAt, asIntOf, Sem.run_bind, run_underlying_of hu, Result.andThen, Sem.run_pure, Instr.sureAddr]
          simp [hb, hrs, addr_add, hn]
        · cases h
          simp only [VR] at hx
          obtain ⟨B, o, c, rfl, h1, h2, h3⟩ := hx
          refine ⟨.pointer (some ⟨B, _ + n * te.size, none⟩), ?_, by simp only [VR]; exact ⟨B, o, c, by rw [Nat.add_assoc], h1, h2, h3⟩⟩
          simp only [Instr.indexAt, asIntOf, Sem.run_bind, run_underlying_of hu, Result.andThen, Sem.run_pure, Instr.sureAddr]
          simp [hb, hrs, addr_add, hn]
        · cases h
      · cases h
    · cases h
  · cases h

theorem TOk.field (hT : TOk P T) {t : TypeId} {ti : TI} (ht : T t = some ti) {fs : List (Nat × TypeId)} (hd : ti.d = .struct fs) {f off : Nat} {ft : TypeId} (hf : fs[f]? = some (off, ft)) :
    ∃ (fields : Array Field) (fd : Field), P.underlying t = some (.struct fields) ∧ fields[f]? = some fd ∧ fd.offset = off ∧ fd.type = ft := by
  obtain ⟨fields, h1, rfl⟩ := hT.struct ht hd
  rw [List.getElem?_map] at hf
  cases hfd : fields.toList[f]? with
  | none => rw [hfd] at hf; cases hf
  | some fd =>
    rw [hfd] at hf
    simp at hf
    exact ⟨fields, fd, h1, by simpa using hfd, hf.1, hf.2⟩

theorem afieldAddr_ok (hT : TOk P T) {t : TypeId} {x v : AV} {f : Nat} {a : Value} (hx : VR imm mu x a) (h : afieldAddr T t x f = some v) :
    ∃ c, (Instr.fieldAt t a f).run P w = .ok c w ∧ VR imm mu v c := by
  unfold afieldAddr at h
  split at h
  · rename_i fs _ ht
    split at h
    · rename_i off ft hf
      obtain ⟨fields, fd, hu, hfd, e1, e2⟩ := hT.field ht rfl hf
      split at h
      · rename_i ti hti
        have hrs := hT.run_size hti w
        split at h
        · cases h
        · rename_i hz
          split at h
          · cases h
            simp only [VR] at hx
            obtain ⟨B, sz, hB, rfl⟩ := hx
            refine ⟨.pointer (some ⟨B, _ + off, none⟩), ?_, by simp only [VR]; exact ⟨B, sz, hB, by rw [Nat.add_assoc]⟩⟩
            simp only [Instr.fieldAt, Sem.run_bind, run_underlying_of hu, Result.andThen, hfd, Instr.sureAddr, Sem.run_pure, fieldPlace, e1, e2, hrs]
            simp [hz, addr_add]
          · cases h
            simp only [VR] at hx
            obtain ⟨B, o, c, rfl, h1, h2, h3⟩ := hx
            refine ⟨.pointer (some ⟨B, _ + off, none⟩), ?_, by simp only [VR]; exact ⟨B, o, c, by rw [Nat.add_assoc], h1, h2, h3⟩⟩
            simp only [Instr.fieldAt, Sem.run_bind, run_underlying_of hu, Result.andThen, hfd, Instr.sureAddr, Sem.run_pure, fieldPlace, e1, e2, hrs]
            simp [hz, addr_add]
          · cases h
      · cases h
    · cases h
  · cases h

/-! ### parts -/
theorem apart_ok (hT : TOk P T) {t : TypeId} {ti : TI} (ht : T t = some ti) {cells : List AV} {cs : List Value} {off : Nat} {v : AV} (hc : VRs imm mu cells cs) (ho : ∀ x ∈ cs, one x) (h : apart ti cells off = some v) :
    ∃ c, (part t cs.toArray off).run P w = .ok c w ∧ VR imm mu v c := by
  unfold apart at h
  have ha := hT.run_isAgg ht w
  have hs := hT.run_size ht w
  split at h
  · rename_i hagg
    split at h
    · rename_i hl
      cases h
      refine ⟨.agg ((cs.drop off).take ti.size).toArray, ?_, ?_⟩
      · simp only [part, Sem.run_bind, ha, hagg, Result.andThen, if_true, hs, Sem.run_pure]
        congr 2
        apply Array.ext'
        simp
      · simp only [VR]
        exact ⟨_, rfl, (hc.drop off).take _, fun x hx => ho x (List.mem_of_mem_drop (List.mem_of_mem_take hx))⟩
    · cases h
  · rename_i hagg
    obtain ⟨c, h1, h2⟩ := hc.get h
    refine ⟨c, ?_, h2⟩
    simp only [part, Sem.run_bind, ha, Result.andThen]
    simp [hagg, h1]

theorem afield_ok (hT : TOk P T) {t : TypeId} {x v : AV} {f : Nat} {a : Value} (hx : VR imm mu x a) (h : afield T t x f = some v) :
    ∃ c, (Instr.field t a f).run P w = .ok c w ∧ VR imm mu v c := by
  unfold afield at h
  split at h
  · rename_i fs _ cells ht
    split at h
    · rename_i off ft hf
      obtain ⟨fields, fd, hu, hfd, e1, e2⟩ := hT.field ht rfl hf
      split at h
      · rename_i ti hti
        simp only [VR] at hx
        obtain ⟨cs, rfl, h1, h2⟩ := hx
        obtain ⟨c, h3, h4⟩ := apart_ok (w := w) hT hti h1 h2 h
        refine ⟨c, ?_, h4⟩
        simp only [Instr.field, Sem.run_bind, run_underlying_of hu, Result.andThen, hfd, asAgg, Sem.run_pure, e1, e2, h3]
      · cases h
    · cases h
  · cases h

theorem aindex_ok (hT : TOk P T) {t : TypeId} {x ix v : AV} {a b : Value} (hx : VR imm mu x a) (hi : VR imm mu ix b) (h : aindex T t x ix = some v) :
    ∃ c, (Instr.index t a b).run P w = .ok c w ∧ VR imm mu v c := by
  unfold aindex at h
  split at h
  · rename_i n _ _ _ _ m' e _ cells en ht
    obtain ⟨k, m, rfl, h0, hn⟩ := natOf_spec en hi
    have hu := hT.array ht rfl
    split at h
    · rename_i te hte
      have hrs := hT.run_size hte w
      split at h
      · rename_i hlt
        have hb : 0 ≤ m ∧ m < (m' : Int) := ⟨h0, by omega⟩
        simp only [VR] at hx
        obtain ⟨cs, rfl, h1, h2⟩ := hx
        obtain ⟨c, h3, h4⟩ := apart_ok (w := w) hT hte h1 h2 h
        refine ⟨c, ?_, h4⟩
        simp only [Instr.index, asIntOf, Sem.run_bind, run_underlying_of hu, Result.andThen, Sem.run_pure]
        simp [hb, hrs, hn, Result.andThen, h3]
      · cases h
    · cases h
  · rename_i n _ _ _ _ _ s en ht
    obtain ⟨k, m, rfl, h0, hn⟩ := natOf_spec en hi
    have hu := hT.str ht rfl
    cases hs : s[n]? with
    | none => rw [hs] at h; cases h
    | some y =>
      rw [hs] at h
      cases h
      rw [VR_lit hx]
      refine ⟨.int .u8 y.toNat, ?_, by simp [VR]⟩
      simp only [Instr.index, asIntOf, Sem.run_bind, run_underlying_of hu, Result.andThen, Sem.run_pure]
      simp [h0, hn, hs]
  · cases h

end Go.Abs
