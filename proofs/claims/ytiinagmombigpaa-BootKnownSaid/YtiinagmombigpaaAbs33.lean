/- An operation sees the blocks of its footprint alone. -/
import Derived.Test.YtiinagmombigpaaAbs32
set_option linter.unusedVariables false
set_option linter.unusedSimpArgs false
set_option linter.unnecessarySimpa false
namespace Go.Abs

/-- as far as it is read without being written, a block is the same -/
def Near (x y : Option ABlock) : Prop := y = x ∨ ∃ sz e els els', x = some (.cells sz e els) ∧ y = some (.cells sz e els') ∧ els'.map drp = els.map drp

structure Agree (rd : Rd) (up : Option (Nat × ABlock)) (H H' : Hp) : Prop where
  all : rd = .all → H' = H
  one : ∀ b, rd = .one b → Near H[b]? H'[b]?
  up : ∀ b blk, up = some (b, blk) → b < H.length ∧ H'[b]? = H[b]?

theorem shr_shr (a : AV) : shr (shr a) = shr a := shr_of_notOwn (shr_notOwn a)
theorem cl0_shr (a : AV) : cl0 (shr a) = cl0 a := by
  cases a with
  | vec sz k els => cases k <;> rfl
  | _ => rfl
theorem map_shr_shr (l : List AV) : (l.map shr).map shr = l.map shr := by
  rw [List.map_map]; exact List.map_congr_left fun a _ => shr_shr a
theorem map_cl0_shr (l : List AV) : (l.map shr).map cl0 = l.map cl0 := by
  rw [List.map_map]; exact List.map_congr_left fun a _ => cl0_shr a

theorem elPart_of_drp (ti : TI) (el : AV) (j : Nat) : elPart ti (drp el) j = elPart ti el j := by
  cases el with
  | agg l =>
    simp only [drp, elPart, List.length_map, List.getElem?_map]
    split
    · split
      · rw [← List.map_drop, ← List.map_take, map_shr_shr]
      · rfl
    · cases l[j]? with
      | none => rfl
      | some a => simp only [Option.map_some, shr_shr]
  | tup l => rfl
  | vec sz k els => cases k <;> rfl
  | lit v => cases v <;> rfl
  | _ => rfl
theorem cl1_of_drp (el : AV) : cl1 (drp el) = cl1 el := by
  cases el with
  | agg l => simp only [drp, cl1, map_cl0_shr]
  | tup l => rfl
  | vec sz k els => cases k <;> rfl
  | _ => rfl
theorem elPart_drp {ti : TI} {el el' : AV} {j : Nat} (h : drp el' = drp el) : elPart ti el' j = elPart ti el j := by
  rw [← elPart_of_drp ti el', ← elPart_of_drp ti el, h]
theorem map_cl1_drp {l l' : List AV} (h : l'.map drp = l.map drp) : l'.map cl1 = l.map cl1 := by
  have e : ∀ l : List AV, l.map cl1 = (l.map drp).map cl1 := fun l => by
    rw [List.map_map]; exact List.map_congr_left fun a _ => (cl1_of_drp a).symm
  rw [e l, e l', h]

theorem Near.mapo {x y : Option ABlock} {es : List (AV × AV)} (h : Near x y) (hx : x = some (.mapo es)) : y = some (.mapo es) := by
  rcases h with h | ⟨sz, e, els, els', h, _⟩
  · rw [h, hx]
  · rw [hx] at h; cases h

theorem aload_local {T : TypeId → Option TI} {t : TypeId} {H H' : Hp} {x : AV} (hs : ∀ b, rdOf x = .one b → Near H[b]? H'[b]?) : aload T t H' x = aload T t H x := by
  unfold aload
  cases T t with
  | none => rfl
  | some ti =>
    cases x with
    | ptr b i j =>
      rcases hs b rfl with h | ⟨sz, e, els, els', h1, h2, h3⟩
      · simp only [h]
      · simp only [h1, h2]
        have h4 : (els'.map drp)[i]? = (els.map drp)[i]? := by rw [h3]
        rw [List.getElem?_map, List.getElem?_map] at h4
        cases h5 : els[i]? with
        | none => rw [h5] at h4; cases h6 : els'[i]? with
          | none => rfl
          | some a => rw [h6] at h4; cases h4
        | some a =>
          rw [h5] at h4; cases h6 : els'[i]? with
          | none => rw [h6] at h4; cases h4
          | some a' =>
            rw [h6] at h4
            simp only [Option.map_some, Option.some.injEq] at h4
            exact elPart_drp h4
    | _ => rfl

theorem items_local {sz : Nat} {H H' : Hp} {x : AV} (hs : ∀ b, rdOf x = .one b → Near H[b]? H'[b]?) : items sz H' x = items sz H x := by
  unfold items
  cases x with
  | sl b sz' i len cap =>
    rcases hs b rfl with h | ⟨sz', e, els, els', h1, h2, h3⟩
    · simp only [h]
    · simp only [h1, h2]
      have hl : els'.length = els.length := by have := congrArg List.length h3; simpa using this
      rw [hl]
      split
      · rw [List.map_take, List.map_drop, map_cl1_drp h3, ← List.map_drop, ← List.map_take]
      · rfl
  | lit v => cases v with
    | slice b l c => cases b with
      | none => cases l <;> rfl
      | some b => rfl
    | _ => rfl
  | _ => rfl

theorem free_local {ro nm : Nat} {H H' : Hp} (h : free ro H nm = true) (hlt : nm < H.length) (hs : H'[nm]? = H[nm]?) : free ro H' nm = true := by
  rcases free_spec h with ⟨h1, h2 | h2⟩
  · omega
  · unfold free
    rw [hs, h2]
    simpa using h1

theorem freeze_local {H H' : Hp} {ro : Nat} {v : AV} {e : Eff} (h : freeze H ro v = some e) (A : Agree e.rd e.up H H') : freeze H' ro v = some e := by
  unfold freeze at h ⊢
  split at h
  · rename_i b sz0 i len cap
    split at h
    · cases h
    · rename_i hro
      simp only [hro, if_false]
      split at h
      · rename_i sz el els hb
        split at h
        · rename_i hc
          cases h
          have : H'[b]? = some (.cells sz el els) := by rw [← hb]; exact (A.up b _ rfl).2
          rw [this]
          simp only [hc, and_self, if_true]
        · cases h
      · cases h
  · cases h

theorem alen_local {T : TypeId → Option TI} {t : TypeId} {H H' : Hp} {x v : AV} (h : alen T t H x = some v) (hs : ∀ b, lenRd x = .one b → Near H[b]? H'[b]?) : alen T t H' x = some v := by
  rw [← h]
  unfold alen at h ⊢
  cases x with
  | mp m =>
    cases ht : T t with
    | none => rfl
    | some ti =>
      obtain ⟨s, by', z, ag, d, eq⟩ := ti
      cases d with
      | map k e =>
        rw [ht] at h
        simp only at h ⊢
        split at h
        · rename_i es hb
          rw [(hs m rfl).mapo hb]
        · cases h
      | _ => rfl
  | lit v => cases v with
    | map o => cases o <;> rfl
    | slice b l c => cases b <;> rfl
    | _ => rfl
  | _ => rfl

theorem aappend_local {T : TypeId → Option TI} {t : TypeId} {H H' : Hp} {s x : AV} (hs : ∀ b, rdOf x = .one b → Near H[b]? H'[b]?) : aappend T t H' s x = aappend T t H s x := by
  unfold aappend
  simp only [fun sz => items_local (sz := sz) hs]
theorem aappendB_local {T : TypeId → Option TI} {t : TypeId} {H H' : Hp} {s x : AV} (hs : ∀ b, rdOf x = .one b → Near H[b]? H'[b]?) : aappendB T t H' s x = aappendB T t H s x := by
  unfold aappendB
  simp only [fun sz => items_local (sz := sz) hs]

theorem lLaid_local {ro nm : Nat} {H H' : Hp} {r : Option (AV × Hp)} {e : Eff} (h : lLaid ro nm H r = some e) (A : Agree e.rd e.up H H') : lLaid ro nm H' r = some e := by
  unfold lLaid at h ⊢
  split at h
  · split at h
    · cases h
    · rename_i hf
      cases h
      obtain ⟨h1, h2⟩ := A.up nm _ rfl
      rw [if_neg (by rw [free_local (not_false_true hf) h1 h2]; simp)]
  · cases h

theorem rdd_local {x x' : Option AV} {r : Rd} {e : Eff} {H H' : Hp} (h : x.map (.rdd r) = some e) (A : Agree e.rd e.up H H') (hx : ∀ v, x = some v → (∀ b, r = .one b → Near H[b]? H'[b]?) → x' = some v) : x'.map (.rdd r) = some e := by
  cases x with
  | none => cases h
  | some v => cases h; rw [hx v rfl fun b hb => A.one b hb]; rfl

theorem lMapUpdate_local {T : TypeId → Option TI} {ro : Nat} {H H' : Hp} {t : TypeId} {x k v : AV} {e : Eff} (h : lMapUpdate T ro H t x k v = some e) (A : Agree e.rd e.up H H') : lMapUpdate T ro H' t x k v = some e := by
  unfold lMapUpdate at h
  split at h
  · rename_i ti ht
    split at h
    · rename_i kt et m hd
      split at h
      · cases h
      · rename_i hn
        split at h
        · rename_i es hb
          have hup : ∃ blk, e.up = some (m, blk) := by
            unfold lUpd at h
            split at h <;> cases h <;> exact ⟨_, rfl⟩
          obtain ⟨blk, hup⟩ := hup
          have hb' : H'[m]? = some (.mapo es) := by rw [← hb]; exact (A.up m blk hup).2
          unfold lMapUpdate
          simp only [ht, hd, hn, if_false, hb', h]
        · cases h
    · cases h
  · cases h

theorem lDelete_local {T : TypeId → Option TI} {ro : Nat} {H H' : Hp} {t : TypeId} {x k : AV} {e : Eff} (h : lDelete T ro H t x k = some e) (A : Agree e.rd e.up H H') : lDelete T ro H' t x k = some e := by
  unfold lDelete at h
  split at h
  · rename_i ti ht
    split at h
    · rename_i kt et m hd
      split at h
      · cases h
      · rename_i hn
        split at h
        · rename_i es hb
          have hup : ∃ blk, e.up = some (m, blk) := by
            unfold lDel at h
            split at h <;> cases h <;> exact ⟨_, rfl⟩
          obtain ⟨blk, hup⟩ := hup
          have hb' : H'[m]? = some (.mapo es) := by rw [← hb]; exact (A.up m blk hup).2
          unfold lDelete
          simp only [ht, hd, hn, if_false, hb', h]
        · cases h
    · cases h
  · cases h

theorem lLookup_local {T : TypeId → Option TI} {H H' : Hp} {t : TypeId} {x k : AV} {ok : Bool} {e : Eff} (h : lLookup T H t x k ok = some e) (A : Agree e.rd e.up H H') : lLookup T H' t x k ok = some e := by
  unfold lLookup at h
  split at h
  · rename_i ti ht
    split at h
    · rename_i kt et hd
      split at h
      · rename_i te hte
        split at h
        · cases h
        · rename_i hn
          split at h
          · rename_i z m hz
            split at h
            · rename_i es hb
              have hrd : e.rd = .one m := by
                unfold lFound at h
                split at h <;> cases h <;> rfl
              have hb' : H'[m]? = some (.mapo es) := (A.one m hrd).mapo hb
              unfold lLookup
              simp only [ht, hd, hte, hn, if_false, hz, hb', h]
              simp
            · cases h
          · cases h
      · cases h
    · cases h
  · cases h

theorem atake_local {H H' H1 : Hp} {x v : AV} {b : Nat} (h : atake H x = some (v, b, H1)) (hb : H'[b]? = H[b]?) : ∃ blk, H1 = H.set b blk ∧ b < H.length ∧ atake H' x = some (v, b, H'.set b blk) := by
  unfold atake at h
  split at h
  · rename_i b' i j
    split at h
    · rename_i sz e els hbb
      have hlt := lt_of_get hbb
      split at h
      · rename_i s xs he
        split at h
        · rename_i hj
          cases h
          refine ⟨_, rfl, hlt, ?_⟩
          unfold atake
          simp only [hb, hbb, he, hj, if_true]
        · cases h
      · rename_i l he
        split at h
        · rename_i s xs hl
          cases h
          refine ⟨_, rfl, hlt, ?_⟩
          unfold atake
          simp only [hb, hbb, he, hl]
        · cases h
      · cases h
    · cases h
  · cases h

theorem lTake_local {ti : Option TI} {ro : Nat} {v : AV} {b : Nat} {H H' : Hp} {blk : ABlock} {e : Eff} (h : lTake ti ro v b (H.set b blk) = some e) (hlt : b < H.length) (hb : b < H'.length) : lTake ti ro v b (H'.set b blk) = some e ∧ e.up = some (b, blk) := by
  unfold lTake at h ⊢
  split at h
  · cases h
  · rename_i hn
    rw [List.getElem?_set_self hlt] at h
    cases h
    rw [if_neg hn, List.getElem?_set_self hb]
    exact ⟨rfl, rfl⟩

theorem lTake_up {ti : Option TI} {ro : Nat} {v : AV} {b : Nat} {H : Hp} {blk : ABlock} {e : Eff} (h : lTake ti ro v b (H.set b blk) = some e) (hlt : b < H.length) : e.up = some (b, blk) ∧ e.rd = .one b := by
  unfold lTake at h
  split at h
  · cases h
  · rw [List.getElem?_set_self hlt] at h
    cases h
    exact ⟨rfl, rfl⟩

theorem lLoad_local {cx : Cx} {ro : Nat} {fn : FuncId} {ops : Array Oper} {d : Tmp} {H H' : Hp} {t : TypeId} {x : AV} {e : Eff} (h : lLoad cx ro fn ops d H t x = some e) (A : Agree e.rd e.up H H') : lLoad cx ro fn ops d H' t x = some e := by
  unfold lLoad at h
  by_cases hf : cx.pol.frz fn d = true
  · rw [if_pos hf] at h
    have hall : e.rd = .all := by
      cases h1 : (aload cx.T t H x).bind (freeze H ro) with
      | none => rw [h1] at h; cases h
      | some e' => rw [h1] at h; cases h; rfl
    rw [A.all hall]
    unfold lLoad
    rw [if_pos hf]; exact h
  · rw [if_neg hf] at h
    by_cases ht : takes ops d = true
    · rw [if_pos ht] at h
      cases hk : atake H x with
      | none =>
        rw [hk] at h
        have hall : e.rd = .all := by
          cases h1 : aload cx.T t H x with
          | none => rw [h1] at h; cases h
          | some e' => rw [h1] at h; cases h; rfl
        rw [A.all hall]
        unfold lLoad
        rw [if_neg hf, if_pos ht, hk]; exact h
      | some r =>
        obtain ⟨v, b, H1⟩ := r
        rw [hk] at h
        simp only at h
        obtain ⟨blk, rfl, hlt, _⟩ := atake_local (H' := H) hk rfl
        obtain ⟨hup, _⟩ := lTake_up h hlt
        obtain ⟨_, hb⟩ := A.up b blk hup
        obtain ⟨blk2, h1, _, h2⟩ := atake_local hk hb
        have hbe : blk2 = blk := by
          have := congrArg (fun l : Hp => l[b]?) h1
          simp only [List.getElem?_set_self hlt, Option.some.injEq] at this
          exact this.symm
        subst hbe
        have hlt' : b < H'.length := by
          have : (H'[b]?).isSome = true := by rw [hb]; simp [hlt]
          simpa using this
        unfold lLoad
        rw [if_neg hf, if_pos ht, h2]
        exact (lTake_local h hlt hlt').1
    · rw [if_neg ht] at h
      unfold lLoad
      rw [if_neg hf, if_neg ht]
      exact rdd_local h A fun v hv hr => by rw [← hv]; exact aload_local hr

theorem astore_local {T : TypeId → Option TI} {t : TypeId} {H H' H1 : Hp} {b i j : Nat} {x : AV} (h : astore T t H (.ptr b i j) x = some H1) (hb : H'[b]? = H[b]?) : ∃ blk, H1 = H.set b blk ∧ b < H.length ∧ astore T t H' (.ptr b i j) x = some (H'.set b blk) := by
  unfold astore at h
  split at h
  · rename_i ti b' i' j' ht hp
    cases hp
    split at h
    · rename_i sz e els hbb
      have hlt := lt_of_get hbb
      split at h
      · rename_i el he
        split at h
        · rename_i el' hel
          cases h
          refine ⟨_, rfl, hlt, ?_⟩
          unfold astore
          simp only [ht, hb, hbb, he, hel]
        · cases h
      · cases h
    · cases h
  · cases h

theorem lStore_local {T : TypeId → Option TI} {ro : Nat} {fr : PT} {H H' : Hp} {t : TypeId} {a : AV} {x : Operand} {e : Eff} (h : lStore T ro fr H t a x = some e) (A : Agree e.rd e.up H H') : lStore T ro fr H' t a x = some e := by
  unfold lStore at h
  split at h
  · rename_i b i j
    split at h
    · cases h
    · rename_i hro
      split at h
      · rename_i H1 hs
        obtain ⟨blk, h1, hlt, _⟩ := astore_local (H' := H) hs rfl
        have hget : H1[b]? = some blk := by rw [h1, List.getElem?_set_self hlt]
        have hup : e.up = some (b, blk) := by rw [hget] at h; cases h; rfl
        obtain ⟨_, hb⟩ := A.up b blk hup
        obtain ⟨blk2, h2, _, h3⟩ := astore_local hs hb
        have hbe : blk2 = blk := by
          have := hget
          rw [h2, List.getElem?_set_self hlt] at this
          exact Option.some.inj this
        subst hbe
        have hlt' : b < H'.length := by
          have : (H'[b]?).isSome = true := by rw [hb]; simp [hlt]
          simpa using this
        unfold lStore
        simp only [hro, if_false, h3]
        rw [hget] at h
        rw [List.getElem?_set_self hlt']
        exact h
      · cases h
  · cases h

theorem acopy_local {T : TypeId → Option TI} {t : TypeId} {H H' : Hp} {x y : AV} {n b : Nat} {blk : ABlock} (h : acopy T t H x y = some (n, b, blk)) (hb : H'[b]? = H[b]?) (hy : rdOf y = .no) : acopy T t H' x y = some (n, b, blk) ∧ b < H.length := by
  have hi : ∀ sz, items sz H' y = items sz H y := fun sz => items_local fun b hb => by rw [hy] at hb; cases hb
  unfold acopy at h
  split at h
  · rename_i e b' i j esz len ht
    split at h
    · rename_i te hte
      split at h
      · rename_i hsz
        split at h
        · rename_i xs sz el els hxs hbb
          split at h
          · rename_i l hel
            simp only at h
            split at h
            · rename_i hc
              cases h
              refine ⟨?_, lt_of_get hbb⟩
              unfold acopy
              simp only [ht, hte, hsz, if_true, hi, hxs, hb, hbb, hel]
              rw [if_pos hc]
            · cases h
          · cases h
        · cases h
      · cases h
    · cases h
  · cases h

theorem lCopy_local {T : TypeId → Option TI} {ro : Nat} {H H' : Hp} {t : TypeId} {x y : AV} {e : Eff} (h : lCopy T ro H t x y = some e) (A : Agree e.rd e.up H H') : lCopy T ro H' t x y = some e := by
  unfold lCopy at h
  split at h
  · rename_i n b blk hc
    split at h
    · cases h
    · rename_i hn
      cases h
      have hy : rdOf y = .no := by
        by_cases hy : rdOf y = .no
        · exact hy
        · exact absurd (.inr hy) hn
      unfold lCopy
      rw [(acopy_local hc (A.up b blk rfl).2 hy).1]
      simp only
      rw [if_neg hn]
  · cases h

theorem lAppend_local {cx : Cx} {fn : FuncId} {ro nm : Nat} {d : Tmp} {fr : PT} {H H' : Hp} {t : TypeId} {s x : Operand} {e : Eff} (h : lAppend cx fn ro nm d fr H t s x = some e) (A : Agree e.rd e.up H H') : lAppend cx fn ro nm d fr H' t s x = some e := by
  unfold lAppend at h ⊢
  split at h
  · rename_i hh
    rw [if_pos hh]
    split at h
    · rename_i els sz el ha
      split at h
      · cases h
      · rename_i hf
        cases h
        obtain ⟨h1, h2⟩ := A.up nm _ rfl
        rw [aappendB_local fun b hb => A.one b hb, ha]
        simp only
        rw [if_neg (by rw [free_local (not_false_true hf) h1 h2]; simp)]
    · cases h
  · rename_i hh
    rw [if_neg hh]
    cases ha : aappend cx.T t H (raw fr s) (ev fr x) with
    | none => rw [ha] at h; cases h
    | some v =>
      rw [ha] at h
      cases h
      rw [aappend_local fun b hb => A.one b hb, ha]
      rfl

theorem lBuiltin_local {cx : Cx} {ro nm : Nat} {fn : FuncId} {d : Tmp} {fr : PT} {H H' : Hp} {b : Builtin} {args : List Operand} {tys : List TypeId} {e : Eff} (h : lBuiltin cx ro fn nm d fr H b args tys = some e) (A : Agree e.rd e.up H H') : lBuiltin cx ro fn nm d fr H' b args tys = some e := by
  unfold lBuiltin at h
  split at h
  · simp only [lBuiltin]
    exact rdd_local h A fun v hv hr => alen_local hv hr
  · simp only [lBuiltin]
    split at h
    · exact lAppend_local h A
    · cases h
  · exact h
  · exact h
  · exact lCopy_local h A
  · exact lDelete_local h A
  · cases h

theorem lop_local {cx : Cx} {ro nm : Nat} {fn : FuncId} {ops : Array Oper} {fr : PT} {H H' : Hp} {d : Tmp} {op : Op} {e : Eff} (h : lop cx ro fn ops nm fr H d op = some e) (A : Agree e.rd e.up H H') : lop cx ro fn ops nm fr H' d op = some e := by
  cases op with
  | move x =>
    simp only [lop, lMove] at h ⊢
    split at h
    · rename_i hf; rw [if_pos hf]; exact freeze_local h A
    · rename_i hf; rw [if_neg hf]; exact h
  | alloc t =>
    simp only [lop, lAlloc] at h ⊢
    split at h
    · split at h
      · split at h
        · cases h
        · rename_i hn
          cases h
          obtain ⟨h1, h2⟩ := A.up nm _ rfl
          rw [if_neg]
          rintro (hx | hx)
          · exact hn (.inl hx)
          · have hf : free ro H nm = true := not_false_true fun h => hn (.inr h)
            rw [free_local hf h1 h2] at hx; cases hx
      · cases h
    · cases h
  | box t x =>
    simp only [lop, lBox] at h ⊢
    split at h
    · split at h
      · cases h
      · rename_i hn
        cases h
        obtain ⟨h1, h2⟩ := A.up nm _ rfl
        rw [if_neg]
        rintro (hx | hx | hx)
        · exact hn (.inl hx)
        · exact hn (.inr (.inl hx))
        · have hf : free ro H nm = true := not_false_true fun h => hn (.inr (.inr h))
          rw [free_local hf h1 h2] at hx; cases hx
    · cases h
  | buildSlice t n ps =>
    simp only [lop, lBuildSlice] at h ⊢
    split at h
    · rename_i hh; rw [if_pos hh]; exact lLaid_local h A
    · rename_i hh; rw [if_neg hh]; exact h
  | makeSlice t l c =>
    simp only [lop, lMakeSlice] at h ⊢
    split at h
    · rename_i hh; rw [if_pos hh]; exact lLaid_local h A
    · rename_i hh; rw [if_neg hh]; exact h
  | makeMap t r =>
    cases r with
    | some r => cases h
    | none =>
      simp only [lop] at h ⊢
      split at h
      · cases h
      · rename_i hf
        cases h
        obtain ⟨h1, h2⟩ := A.up nm _ rfl
        rw [if_neg (by rw [free_local (not_false_true hf) h1 h2]; simp)]
  | load t x => exact lLoad_local h A
  | store t a x => exact lStore_local h A
  | lookup t x k ok => exact lLookup_local h A
  | mapUpdate t m k x => exact lMapUpdate_local h A
  | call c =>
    simp only [lop, lCall] at h ⊢
    cases hc : c.callee with
    | builtin b => rw [hc] at h; exact lBuiltin_local h A
    | _ => rw [hc] at h; cases h
  | _ => first | exact h | (cases h)

end Go.Abs
