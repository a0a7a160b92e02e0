/- Maps: lookups, writes. -/
import Derived.Test.YtiinagmombigpaaAbs20
set_option linter.unusedVariables false
set_option linter.unusedSimpArgs false
set_option linter.unnecessarySimpa false
namespace Go.Abs
variable {P : Program} {T : TypeId → Option TI} {imm : Imm} {mu : Mu}

/-- a map is written -/
theorem mapW_ok {ro : Nat} {g : Gh} {H : Hp} {w : World} {b : Nat} {es es' : List (AV × AV)} {mes' : Array MapEntry} {clock' : Nat} (hm : MR g ro H w) (hro : ro ≤ b) (hb : H[b]? = some (.mapo es)) {B sz : Nat} (hmu : g.mu b = some (B, sz)) {mes : Array MapEntry} {clock : Nat} (hh : w.heap[B]? = some (.map mes clock)) (hr : MapR g es' mes'.toList) :
    (setObj B (.map mes' clock')).run P w = .ok () (w.putObj B (.map mes' clock')) ∧ Keeps g w g (w.putObj B (.map mes' clock')) (fun B' => B' = B) ∧ MR g ro (putB H (some (b, .mapo es'))) (w.putObj B (.map mes' clock')) ∧ g.ow B = none := by
  have how : g.ow B = none := hm.free b B sz hro hmu
  have hlt : B < w.heap.size := hm.lt b B sz hmu
  have k : Keeps g w g (w.putObj B (.map mes' clock')) (fun B' => B' = B) :=
    ⟨Imm.le_refl _, .refl _ _, by simp, fun B' _ hB' => ⟨rfl, fun _ => rfl, World.putObj_heap_other hB'⟩, ⟨rfl, rfl, rfl⟩⟩
  have himm : ∀ o, g.imm B o = none := by
    intro o
    cases hi : g.imm B o with
    | none => rfl
    | some v => have := hm.imm B o v hi; simp [World.cell?, hh] at this
  refine ⟨MapKept.run_setObj_map _ hh, k, ?_, how⟩
  refine hm.change k b ?_ rfl ?_ (fun _ _ _ _ => rfl) (fun b' hb' => putB_ne hb') ?_ ?_ ?_ ?_
  · intro B' o v hv
    have hne : B' ≠ B := by intro e; subst e; rw [himm] at hv; cases hv
    rw [cell_of_heap (World.putObj_heap_other hne)]
    exact hm.imm B' o v hv
  · intro B' l hl; rw [World.putObj_size]; exact hm.owlt B' l hl
  · have := lt_of_get hb
    simp only [putB]; rw [if_neg (by omega)]; simp
  · intro b' B' s hne hmu' e; subst e; exact hne (hm.inj b' b _ _ _ hmu' hmu)
  · intro b' B' i' j' _ hB' e; subst e; rw [how] at hB'; cases hB'
  · intro blk hblk
    rw [putB_same (Nat.le_of_lt (lt_of_get hb))] at hblk
    cases hblk
    exact ⟨B, sz, mes', clock', hmu, World.putObj_heap_same hlt, hr⟩

theorem MapR.get {g : Gh} : ∀ {es : List (AV × AV)} {mes : List MapEntry}, MapR g es mes → ∀ (i : Nat), (es[i]?).isSome = (mes[i]?).isSome
  | [], mes, h, i => by simp only [MapR] at h; subst h; simp
  | (k, v) :: es, mes, h, i => by
    simp only [MapR] at h
    obtain ⟨e, mes', rfl, _, _, h4⟩ := h
    cases i with
    | zero => rfl
    | succ i => simpa using h4.get i
theorem MapR.set {g : Gh} {k v : AV} {c u : Value} (hk : VR g.imm noMu k c) (hv : VR g.imm noMu v u) : ∀ {es : List (AV × AV)} {mes : List MapEntry}, MapR g es mes → ∀ i, MapR g (es.set i (k, v)) (mes.modify i fun e => { e with key := c, val := u })
  | [], mes, h, i => by simp only [MapR] at h; subst h; simp [MapR]
  | (k', v') :: es, mes, h, i => by
    simp only [MapR] at h
    obtain ⟨e, mes', rfl, h2, h3, h4⟩ := h
    cases i with
    | zero => simp only [List.set_cons_zero, List.modify_zero_cons, MapR]; exact ⟨_, _, rfl, hk, hv, h4⟩
    | succ i => simp only [List.set_cons_succ, List.modify_succ_cons, MapR]; exact ⟨e, _, rfl, h2, h3, h4.set hk hv i⟩
theorem MapR.push {g : Gh} {k v : AV} {e : MapEntry} (hk : VR g.imm noMu k e.key) (hv : VR g.imm noMu v e.val) : ∀ {es : List (AV × AV)} {mes : List MapEntry}, MapR g es mes → MapR g (es ++ [(k, v)]) (mes ++ [e])
  | [], mes, h => by simp only [MapR] at h; subst h; simp only [List.nil_append, MapR]; exact ⟨e, [], rfl, hk, hv, rfl⟩
  | (k', v') :: es, mes, h => by
    simp only [MapR] at h
    obtain ⟨e', mes', rfl, h2, h3, h4⟩ := h
    simp only [List.cons_append, MapR]; exact ⟨e', _, rfl, h2, h3, h4.push hk hv⟩
theorem MapR.erase {g : Gh} : ∀ {es : List (AV × AV)} {mes : List MapEntry}, MapR g es mes → ∀ i, MapR g (es.eraseIdx i) (mes.eraseIdx i)
  | [], mes, h, i => by simp only [MapR] at h; subst h; simp [MapR]
  | (k', v') :: es, mes, h, i => by
    simp only [MapR] at h
    obtain ⟨e, mes', rfl, h2, h3, h4⟩ := h
    cases i with
    | zero => simpa using h4
    | succ i => simp only [List.eraseIdx_cons_succ, MapR]; exact ⟨e, _, rfl, h2, h3, h4.erase i⟩

theorem zeroV_ok (hT : TOk P T) {t : TypeId} {ti : TI} (ht : T t = some ti) {z : AV} (hz : zeroAV ti = some z) (imm : Imm) (mu : Mu) (w : World) : ∃ zc, (zeroValue t).run P w = .ok zc w ∧ VR imm mu z zc := by
  obtain ⟨i, zc, u, h1, h2, h3, h4, h5, h6, h7, h8, h9, h10, h11, h12⟩ := hT.info ht
  have hza := hT.zagg ht h1 h2
  refine ⟨zc, by simp [zeroValue, typeInfo, h1, h2, Result.andThen], ?_⟩
  obtain ⟨h13, h14, h15⟩ := zeroAV_ok hT ht hz h6 imm mu
  cases hb : ti.agg with
  | true =>
    rw [hb] at hza h13
    cases zc <;> simp [zAgg] at hza
    exact h13
  | false =>
    rw [hb] at hza h13
    have : zc.cells = #[zc] := by cases zc <;> first | rfl | simp [zAgg] at hza
    rw [this] at h13
    simpa using h13

theorem lLookup_ok (hT : TOk P T) {ro : Nat} {g : Gh} {H : Hp} {w : World} {o : Oper} {a : Act} {t : TypeId} {x k : AV} {X K : Operand} {ok : Bool} {ef : Eff} (hm : MR g ro H w) (ho : o.op = .lookup t X K ok) (hx : VR g.imm g.mu x (a.eval X)) (hk : VR g.imm g.mu k (a.eval K))
    (h : lLookup T H t x k ok = some ef) : OpOk P ro g H w o a ef := by
  unfold lLookup at h
  split at h
  · rename_i ti ht
    split at h
    · rename_i kt e hd
      split at h
      · rename_i te hte
        split at h
        · cases h
        · rename_i hok
          split at h
          · rename_i z m hz
            split at h
            · rename_i es hb
              simp only [VR] at hx
              obtain ⟨B, sz, hmu, hxe⟩ := hx
              obtain ⟨B', sz', mes, clock, h1, h2, h3⟩ := hm.blk m _ hb
              rw [hmu] at h1; cases h1
              have hu := hT.map ht hd
              cases hf : mfind T kt k es 0 with
              | none => rw [hf] at h; cases h
              | some r =>
                obtain ⟨hck, r', hfk, hr', _⟩ := find_ok hT (w := w) mes.isEmpty hk (not_false_true hok) h3 hf
                obtain ⟨zc, hz1, hzz⟩ := zeroV_ok hT hte hz g.imm g.mu w
                rw [hf] at h
                have hrd : ∀ {ef}, lFound ok z m (some r) = some ef → OpOk P ro g H w o a ef := by
                  intro ef h
                  cases r with
                  | none =>
                    simp only [MFR] at hr'
                    subst hr'
                    simp only [lFound, Option.some.injEq] at h
                    subst h
                    refine OpOk.pure hm ⟨if ok then .tuple #[zc, .bool false] else zc, ?_, ?_⟩
                    · simp only [execOp, ho, Instr.lookup, Sem.run_bind, run_underlying_of hu, Result.andThen, hxe, MapKept.run_getObj_map h2, Sem.run_pure, hck, hfk, hz1]
                    · cases ok with
                      | true => simp only [if_true, VR, VRs]; exact ⟨[zc, .bool false], rfl, zc, _, rfl, hzz, _, [], rfl, rfl, rfl⟩
                      | false => simpa using hzz
                  | some iv =>
                    obtain ⟨i, v⟩ := iv
                    simp only [MFR] at hr'
                    obtain ⟨u, rfl, hv⟩ := hr'
                    have hv := VR.mono (Imm.le_refl _) _ (noMu_le g.mu) hv
                    simp only [lFound, Option.some.injEq] at h
                    subst h
                    refine OpOk.pure hm ⟨if ok then .tuple #[u, .bool true] else u, ?_, ?_⟩
                    · simp only [execOp, ho, Instr.lookup, Sem.run_bind, run_underlying_of hu, Result.andThen, hxe, MapKept.run_getObj_map h2, Sem.run_pure, hck, hfk]
                    · cases ok with
                      | true => simp only [if_true, VR, VRs]; exact ⟨[u, .bool true], rfl, u, _, rfl, hv, _, [], rfl, rfl, rfl⟩
                      | false => simpa using hv
                exact hrd h
            · cases h
          · cases h
      · cases h
    · cases h
  · cases h

theorem lMapUpdate_ok (hT : TOk P T) {ro : Nat} {g : Gh} {H : Hp} {w : World} {o : Oper} {a : Act} {t : TypeId} {x k v : AV} {X K V : Operand} {ef : Eff} (hm : MR g ro H w) (ho : o.op = .mapUpdate t X K V) (hx : VR g.imm g.mu x (a.eval X)) (hk : VR g.imm g.mu k (a.eval K)) (hv : VR g.imm g.mu v (a.eval V))
    (h : lMapUpdate T ro H t x k v = some ef) : OpOk P ro g H w o a ef := by
  unfold lMapUpdate at h
  split at h
  · rename_i ti ht
    split at h
    · rename_i kt e m hd
      split at h
      · cases h
      · rename_i hn
        have hro : ro ≤ m := Nat.le_of_not_lt fun e => hn (.inl e)
        have hok : keyOk T kt k = true := not_false_true fun e => hn (.inr e)
        split at h
        · rename_i es hb
          simp only [VR] at hx
          obtain ⟨B, sz, hmu, hxe⟩ := hx
          obtain ⟨B', sz', mes, clock, h1, h2, h3⟩ := hm.blk m _ hb
          rw [hmu] at h1; cases h1
          have hu := hT.map ht hd
          cases hf : mfind T kt k es 0 with
          | none => rw [hf] at h; cases h
          | some r =>
            obtain ⟨hck, r', hfk, hr', hst⟩ := find_ok hT (w := w) false hk hok h3 hf
            rw [hf] at h
            cases r with
            | none =>
              simp only [MFR] at hr'
              subst hr'
              simp only [lUpd, Option.some.injEq] at h
              subst h
              obtain ⟨w1, w2, w3, w4⟩ := mapW_ok (P := P) hm hro hb hmu h2 (es' := es ++ [(cl1 k, cl1 v)]) (mes' := mes.push { key := a.eval K, val := a.eval V, born := clock }) (clock' := clock + 1) (by simpa using h3.push (e := { key := a.eval K, val := a.eval V, born := clock }) hk.cl1 hv.cl1)
              refine ⟨⟨undef, .skip, _, g, fun B' => B' = B, ?_, .inr ⟨rfl, rfl⟩, w2, w3, ?_, ?_, ?_, undef_tup.sr⟩, fun t ht => by cases ht⟩
              · simp only [execOp, ho, Instr.mapUpdate, Sem.run_bind, run_underlying_of hu, Result.andThen, hxe, MapKept.run_getObj_map h2, hck, hfk, w1, Sem.run_pure]
              · intro t B' hB' e; subst e; rw [w4] at hB'; cases hB'
              · intro B' l hB' hl e; subst e; rw [w4] at hB'; cases hB'
              · intro L lr e hl; subst e; rw [h2] at hl; cases hl
            | some iv =>
              obtain ⟨i, v'⟩ := iv
              simp only [MFR] at hr'
              obtain ⟨u, rfl, hv'⟩ := hr'
              simp only [lUpd, Option.some.injEq] at h
              subst h
              obtain ⟨w1, w2, w3, w4⟩ := mapW_ok (P := P) hm hro hb hmu h2 (es' := es.set i (cl1 k, cl1 v)) (mes' := mes.modify i fun e => { e with key := a.eval K, val := a.eval V }) (clock' := clock) (by simpa using h3.set hk.cl1 hv.cl1 i)
              refine ⟨⟨undef, .skip, _, g, fun B' => B' = B, ?_, .inr ⟨rfl, rfl⟩, w2, w3, ?_, ?_, ?_, undef_tup.sr⟩, fun t ht => by cases ht⟩
              · simp only [execOp, ho, Instr.mapUpdate, Sem.run_bind, run_underlying_of hu, Result.andThen, hxe, MapKept.run_getObj_map h2, hck, hfk, hst i u rfl, w1, Sem.run_pure]
              · intro t B' hB' e; subst e; rw [w4] at hB'; cases hB'
              · intro B' l hB' hl e; subst e; rw [w4] at hB'; cases hB'
              · intro L lr e hl; subst e; rw [h2] at hl; cases hl
        · cases h
    · cases h
  · cases h

theorem lDelete_ok (hT : TOk P T) {ro : Nat} {g : Gh} {H : Hp} {w : World} {o : Oper} {a : Act} {t : TypeId} {x k : AV} {X K : Value} {tys : Array TypeId} {ty : TypeId} {args : Array Value} {ef : Eff} (hm : MR g ro H w)
    (ho : (execOp a.eval o).run P w = ((do pure (.value (← Builtin.delete_ tys ty args)) : Sem Next)).run P w)
    (h1' : tys[0]? = some t) (h3' : args[0]? = some X) (h4' : args[1]? = some K) (hx : VR g.imm g.mu x X) (hk : VR g.imm g.mu k K) (h : lDelete T ro H t x k = some ef) : OpOk P ro g H w o a ef := by
  unfold lDelete at h
  split at h
  · rename_i ti ht
    split at h
    · rename_i kt e m hd
      split at h
      · cases h
      · rename_i hn
        have hro : ro ≤ m := Nat.le_of_not_lt fun e => hn (.inl e)
        have hok : keyOk T kt k = true := not_false_true fun e => hn (.inr e)
        split at h
        · rename_i es hb
          simp only [VR] at hx
          obtain ⟨B, sz, hmu, hxe⟩ := hx
          obtain ⟨B', sz', mes, clock, h1, h2, h3⟩ := hm.blk m _ hb
          rw [hmu] at h1; cases h1
          have hu := hT.map ht hd
          cases hf : mfind T kt k es 0 with
          | none => rw [hf] at h; cases h
          | some r =>
            obtain ⟨hck, r', hfk, hr', hst⟩ := find_ok hT (w := w) mes.isEmpty hk hok h3 hf
            rw [hf] at h
            cases r with
            | none =>
              simp only [MFR] at hr'
              subst hr'
              simp only [lDel, Option.some.injEq] at h
              subst h
              obtain ⟨w1, w2, w3, w4⟩ := mapW_ok (P := P) hm hro hb hmu h2 (es' := es) (mes' := mes) (clock' := clock) h3
              refine ⟨⟨.tuple #[], _, _, g, fun B' => B' = B, ?_, .inl rfl, w2, w3, ?_, ?_, ?_, undef_tup.sr⟩, fun t ht => by cases ht⟩
              · rw [ho]
                simp only [Builtin.delete_, h1', h3', h4', Sem.run_bind, run_underlying_of hu, Result.andThen, hxe, MapKept.run_getObj_map h2, hck, hfk, w1, Sem.run_pure]
              · intro t B' hB' e; subst e; rw [w4] at hB'; cases hB'
              · intro B' l hB' hl e; subst e; rw [w4] at hB'; cases hB'
              · intro L lr e hl; subst e; rw [h2] at hl; cases hl
            | some iv =>
              obtain ⟨i, v'⟩ := iv
              simp only [MFR] at hr'
              obtain ⟨u, rfl, hv'⟩ := hr'
              simp only [lDel, Option.some.injEq] at h
              subst h
              obtain ⟨w1, w2, w3, w4⟩ := mapW_ok (P := P) hm hro hb hmu h2 (es' := es.eraseIdx i) (mes' := mes.eraseIdxIfInBounds i) (clock' := clock) (by simpa using h3.erase i)
              refine ⟨⟨.tuple #[], _, _, g, fun B' => B' = B, ?_, .inl rfl, w2, w3, ?_, ?_, ?_, undef_tup.sr⟩, fun t ht => by cases ht⟩
              · rw [ho]
                simp only [Builtin.delete_, h1', h3', h4', Sem.run_bind, run_underlying_of hu, Result.andThen, hxe, MapKept.run_getObj_map h2, hck, hfk, w1, Sem.run_pure]
              · intro t B' hB' e; subst e; rw [w4] at hB'; cases hB'
              · intro B' l hB' hl e; subst e; rw [w4] at hB'; cases hB'
              · intro L lr e hl; subst e; rw [h2] at hl; cases hl
        · cases h
    · cases h
  · cases h

end Go.Abs
