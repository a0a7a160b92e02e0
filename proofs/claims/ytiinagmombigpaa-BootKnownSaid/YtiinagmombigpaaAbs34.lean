/- What an operation writes. -/
import Derived.Test.YtiinagmombigpaaAbs33
set_option linter.unusedVariables false
set_option linter.unusedSimpArgs false
set_option linter.unnecessarySimpa false
namespace Go.Abs

theorem set_self {α : Type} : ∀ {l : List α} {i : Nat} {x : α}, l[i]? = some x → l.set i x = l
  | [], i, x, h => by simp at h
  | a :: l, 0, x, h => by simp at h; simp [h]
  | a :: l, i + 1, x, h => by simp at h; simp [set_self h]

theorem Near.symm {x y : Option ABlock} (h : Near x y) : Near y x := by
  rcases h with h | ⟨sz, e, els, els', h1, h2, h3⟩
  · exact .inl h.symm
  · exact .inr ⟨sz, e, els', els, h2, h1, h3.symm⟩

/-- what an effect writes lies in the heap or is new; what is taken from differs in its owner's right alone; whose right is lost is an operand -/
structure Facts (e : Eff) (H : Hp) (nm : Nat) (al : Bool) (ts : Array Operand) : Prop where
  up : ∀ b blk, e.up = some (b, blk) → b < H.length ∨ (b = nm ∧ al = true)
  tk : e.tk = true → ∃ b blk, e.up = some (b, blk) ∧ Near H[b]? (some blk)
  un : ∀ t, e.un = some t → Operand.tmp t ∈ ts

theorem Facts.of {e : Eff} {H : Hp} {nm : Nat} {al : Bool} {ts : Array Operand} (h1 : e.up = none) (h2 : e.tk = false) (h3 : e.un = none) : Facts e H nm al ts :=
  ⟨fun b blk h => by (rw [h1] at h; cases h), fun h => by (rw [h2] at h; cases h), fun t h => by (rw [h3] at h; cases h)⟩

theorem atake_near {H H1 : Hp} {x v : AV} {b : Nat} (h : atake H x = some (v, b, H1)) : ∃ blk, H1 = H.set b blk ∧ b < H.length ∧ Near H[b]? (some blk) := by
  unfold atake at h
  split at h
  · rename_i b' i j
    split at h
    · rename_i sz e els hbb
      have hlt := lt_of_get hbb
      split at h
      · rename_i s xs he
        split at h
        · rename_i hj
          cases h
          refine ⟨_, rfl, hlt, .inr ⟨sz, e, els, _, hbb, rfl, ?_⟩⟩
          rw [List.map_set]
          have : drp (.vec s .shared xs) = drp (.vec s .own xs) := rfl
          rw [this, ← List.map_set]
          rw [set_self he]
        · cases h
      · rename_i l he
        split at h
        · rename_i s xs hl
          cases h
          refine ⟨_, rfl, hlt, .inr ⟨sz, e, els, _, hbb, rfl, ?_⟩⟩
          rw [List.map_set]
          have : drp (.agg (l.set j (.vec s .shared xs))) = drp (.agg l) := by
            simp only [drp, AV.agg.injEq]
            rw [List.map_set]
            have : shr (.vec s .shared xs) = shr (.vec s .own xs) := rfl
            rw [this, ← List.map_set]
            rw [set_self hl]
          rw [this, ← List.map_set]
          rw [set_self he]
        · cases h
      · cases h
    · cases h
  · cases h

theorem freeze_facts {H : Hp} {ro nm : Nat} {v : AV} {e : Eff} {al : Bool} {ts : Array Operand} (h : freeze H ro v = some e) : Facts e H nm al ts := by
  unfold freeze at h
  split at h
  · split at h
    · cases h
    · split at h
      · rename_i hb
        split at h
        · cases h
          exact ⟨fun b blk h => by (cases h; exact .inl (lt_of_get hb)), fun h => (by cases h), fun t h => by cases h⟩
        · cases h
      · cases h
  · cases h

theorem lLaid_facts {ro nm : Nat} {H : Hp} {r : Option (AV × Hp)} {e : Eff} {ts : Array Operand} (h : lLaid ro nm H r = some e) : Facts e H nm true ts := by
  unfold lLaid at h
  split at h
  · split at h
    · cases h
    · cases h
      exact ⟨fun b blk h => by (cases h; exact .inr ⟨rfl, rfl⟩), fun h => (by cases h), fun t h => by cases h⟩
  · cases h

theorem rdd_facts {x : Option AV} {r : Rd} {e : Eff} {H : Hp} {nm : Nat} {al : Bool} {ts : Array Operand} (h : x.map (.rdd r) = some e) : Facts e H nm al ts := by
  cases x with
  | none => cases h
  | some v => cases h; exact .of rfl rfl rfl
theorem of_facts {x : Option AV} {e : Eff} {H : Hp} {nm : Nat} {al : Bool} {ts : Array Operand} (h : x.map .of = some e) : Facts e H nm al ts := by
  cases x with
  | none => cases h
  | some v => cases h; exact .of rfl rfl rfl
theorem p1_facts {α : Type} {x : Option (AV × α)} {e : Eff} {H : Hp} {nm : Nat} {al : Bool} {ts : Array Operand} (h : x.map (fun p => Eff.of p.1) = some e) : Facts e H nm al ts := by
  cases x with
  | none => cases h
  | some v => cases h; exact .of rfl rfl rfl

theorem lMapUpdate_facts {T : TypeId → Option TI} {ro nm : Nat} {H : Hp} {t : TypeId} {x k v : AV} {e : Eff} {al : Bool} {ts : Array Operand} (h : lMapUpdate T ro H t x k v = some e) : Facts e H nm al ts := by
  unfold lMapUpdate at h
  split at h
  · split at h
    · split at h
      · cases h
      · split at h
        · rename_i hb
          have hlt := lt_of_get hb
          unfold lUpd at h
          split at h <;> cases h <;> exact ⟨fun b blk h => by (cases h; exact .inl hlt), fun h => (by cases h), fun t h => by cases h⟩
        · cases h
    · cases h
  · cases h

theorem lDelete_facts {T : TypeId → Option TI} {ro nm : Nat} {H : Hp} {t : TypeId} {x k : AV} {e : Eff} {al : Bool} {ts : Array Operand} (h : lDelete T ro H t x k = some e) : Facts e H nm al ts := by
  unfold lDelete at h
  split at h
  · split at h
    · split at h
      · cases h
      · split at h
        · rename_i hb
          have hlt := lt_of_get hb
          unfold lDel at h
          split at h <;> cases h <;> exact ⟨fun b blk h => by (cases h; exact .inl hlt), fun h => (by cases h), fun t h => by cases h⟩
        · cases h
    · cases h
  · cases h

theorem lLookup_facts {T : TypeId → Option TI} {nm : Nat} {H : Hp} {t : TypeId} {x k : AV} {ok : Bool} {e : Eff} {al : Bool} {ts : Array Operand} (h : lLookup T H t x k ok = some e) : Facts e H nm al ts := by
  unfold lLookup at h
  split at h
  · split at h
    · split at h
      · split at h
        · cases h
        · split at h
          · split at h
            · unfold lFound at h
              split at h <;> cases h <;> exact .of rfl rfl rfl
            · cases h
          · cases h
      · cases h
    · cases h
  · cases h

theorem lLoad_facts {cx : Cx} {ro nm : Nat} {fn : FuncId} {ops : Array Oper} {d : Tmp} {H : Hp} {t : TypeId} {x : AV} {e : Eff} {al : Bool} {ts : Array Operand} (h : lLoad cx ro fn ops d H t x = some e) : Facts e H nm al ts := by
  unfold lLoad at h
  split at h
  · cases h1 : (aload cx.T t H x).bind (freeze H ro) with
    | none => rw [h1] at h; cases h
    | some e' =>
      rw [h1] at h
      cases h
      cases h2 : aload cx.T t H x with
      | none => rw [h2] at h1; cases h1
      | some v =>
        rw [h2] at h1
        have := freeze_facts (nm := nm) (al := al) (ts := ts) (show freeze H ro v = some e' from h1)
        exact ⟨this.up, this.tk, this.un⟩
  · split at h
    · split at h
      · rename_i v b H1 hk
        obtain ⟨blk, rfl, hlt, hn⟩ := atake_near hk
        obtain ⟨h1, _⟩ := lTake_up h hlt
        have hun : e.un = none := by
          unfold lTake at h
          split at h
          · cases h
          · cases h; rfl
        exact ⟨fun b' blk' h' => by (rw [h1] at h'; cases h'; exact .inl hlt), fun _ => ⟨b, blk, h1, hn⟩, fun t h' => by (rw [hun] at h'; cases h')⟩
      · exact rdd_facts h
    · exact rdd_facts h

theorem lStore_facts {T : TypeId → Option TI} {ro nm : Nat} {fr : PT} {H : Hp} {t : TypeId} {a : AV} {x : Operand} {e : Eff} {al : Bool} {ts : Array Operand} (hx : x ∈ ts) (h : lStore T ro fr H t a x = some e) : Facts e H nm al ts := by
  unfold lStore at h
  split at h
  · rename_i b i j
    split at h
    · cases h
    · split at h
      · rename_i H1 hs
        obtain ⟨blk, rfl, hlt, _⟩ := astore_local (H' := H) hs rfl
        rw [List.getElem?_set_self hlt] at h
        cases h
        exact ⟨fun b blk h => by (cases h; exact .inl hlt), fun h => (by cases h), fun t h => by (rw [← (owner_spec h).1]; exact hx)⟩
      · cases h
  · cases h

theorem lCopy_facts {T : TypeId → Option TI} {ro nm : Nat} {H : Hp} {t : TypeId} {x y : AV} {e : Eff} {al : Bool} {ts : Array Operand} (h : lCopy T ro H t x y = some e) : Facts e H nm al ts := by
  unfold lCopy at h
  split at h
  · rename_i n b blk hc
    split at h
    · cases h
    · rename_i hn
      cases h
      have hy : rdOf y = .no := by
        by_cases hy : rdOf y = .no
        · exact hy
        · exact absurd (.inr hy) hn
      have hlt := (acopy_local (H' := H) hc rfl hy).2
      exact ⟨fun b blk h => by (cases h; exact .inl hlt), fun h => (by cases h), fun t h => by cases h⟩
  · cases h

theorem lop_facts {cx : Cx} {ro nm : Nat} {fn : FuncId} {ops : Array Oper} {fr : PT} {H : Hp} {o : Oper} {e : Eff} (h : lop cx ro fn ops nm fr H (o.dst.getD 0) o.op = some e) : Facts e H nm (isAlloc cx fn o) o.op.operands := by
  obtain ⟨dst, op, ty, pos, after, guard⟩ := o
  simp only at h ⊢
  cases op with
  | move x =>
    simp only [lop, lMove] at h
    split at h
    · exact freeze_facts h
    · split at h
      · rename_i t ho
        split at h
        · cases h
          refine ⟨fun b blk h => (by cases h), fun h => (by cases h), fun t' h => ?_⟩
          cases h
          rw [← (owner_spec ho).1]; simp [Op.operands]
        · cases h; exact .of rfl rfl rfl
      · cases h; exact .of rfl rfl rfl
  | assign x =>
    simp only [lop] at h
    cases h
    refine ⟨fun b blk h => (by cases h), fun h => (by cases h), fun t' h => ?_⟩
    simp only at h
    rw [← (owner_spec h).1]; simp [Op.operands]
  | pick c a b =>
    simp only [lop, lPick] at h
    split at h
    · cases h; exact .of rfl rfl rfl
    · cases h; exact .of rfl rfl rfl
    · cases h
  | alloc t =>
    simp only [lop, lAlloc] at h
    split at h
    · split at h
      · split at h
        · cases h
        · cases h
          exact ⟨fun b blk h => by (cases h; exact .inr ⟨rfl, rfl⟩), fun h => (by cases h), fun t h => by cases h⟩
      · cases h
    · cases h
  | box t x =>
    simp only [lop, lBox] at h
    split at h
    · split at h
      · cases h
      · cases h
        exact ⟨fun b blk h => by (cases h; exact .inr ⟨rfl, rfl⟩), fun h => (by cases h), fun t h => by cases h⟩
    · cases h
  | build t ps => exact of_facts h
  | buildSlice t n ps =>
    simp only [lop, lBuildSlice] at h
    split at h
    · rename_i hh
      have : isAlloc cx fn ⟨dst, .buildSlice t n ps, ty, pos, after, guard⟩ = true := hh
      rw [this]; exact lLaid_facts h
    · exact p1_facts h
  | makeSlice t l c =>
    simp only [lop, lMakeSlice] at h
    split at h
    · rename_i hh
      have : isAlloc cx fn ⟨dst, .makeSlice t l c, ty, pos, after, guard⟩ = true := hh
      rw [this]; exact lLaid_facts h
    · exact p1_facts h
  | makeMap t r =>
    cases r with
    | some r => cases h
    | none =>
      simp only [lop] at h
      split at h
      · cases h
      · cases h
        exact ⟨fun b blk h => by (cases h; exact .inr ⟨rfl, rfl⟩), fun h => (by cases h), fun t h => by cases h⟩
  | load t x => exact lLoad_facts h
  | store t a x => exact lStore_facts (by simp [Op.operands]) h
  | nilCheck x =>
    simp only [lop, lNilCheck] at h
    split at h <;> cases h <;> exact .of rfl rfl rfl
  | binOp op t x y r => exact of_facts h
  | unOp op t x => exact of_facts h
  | convert s t x => exact of_facts h
  | makeFunc f first captured =>
    simp only [lop, lMakeFunc] at h
    split at h
    · split at h
      · cases h; exact .of rfl rfl rfl
      · cases h
    · cases h
  | slice t x lo hi mx => exact of_facts h
  | fieldAddr t x f => exact of_facts h
  | field t x f => exact of_facts h
  | indexAddr t x ix => exact of_facts h
  | index t x ix => exact of_facts h
  | extract t i =>
    simp only [lop, lExtract] at h
    split at h
    · rename_i vs _
      cases hv : vs[i]? with
      | none => rw [hv] at h; cases h
      | some v => rw [hv] at h; cases h; exact .of rfl rfl rfl
    · cases h
  | lookup t x k ok => exact lLookup_facts h
  | mapUpdate t m k x => exact lMapUpdate_facts h
  | call c =>
    simp only [lop, lCall] at h
    cases hc : c.callee with
    | builtin b =>
      rw [hc] at h
      simp only at h
      unfold lBuiltin at h
      split at h
      · exact rdd_facts h
      · rename_i s x t t' tl hargs _
        split at h
        · unfold lAppend at h
          split at h
          · rename_i hh
            split at h
            · split at h
              · cases h
              · cases h
                have hal : isAlloc cx fn ⟨dst, .call c, ty, pos, after, guard⟩ = true := by simp only [isAlloc, hc]; exact hh
                rw [hal]
                exact ⟨fun b blk h => by (cases h; exact .inr ⟨rfl, rfl⟩), fun h => (by cases h), fun t h => by cases h⟩
            · cases h
          · cases ha : aappend cx.T t H (raw fr s) (ev fr x) with
            | none => rw [ha] at h; cases h
            | some v =>
              rw [ha] at h
              cases h
              refine ⟨fun b blk h => (by cases h), fun h => (by cases h), fun t h => ?_⟩
              simp only at h
              rw [← (owner_spec h).1]
              have : s ∈ c.args := by rw [← Array.mem_toList_iff, hargs]; simp
              simp only [Op.operands, Call.operands, Array.mem_append]
              exact .inr this
        · cases h
      · exact of_facts h
      · exact of_facts h
      · exact lCopy_facts h
      · exact lDelete_facts h
      · cases h
    | _ => rw [hc] at h; cases h
  | _ => cases h

end Go.Abs
