/- Operations on values alone. -/
import Derived.Test.YtiinagmombigpaaAbs9
namespace Go.Abs
variable {P : Program} {T : TypeId → Option TI} {imm : Imm} {mu : Mu} {w : World}

theorem VR_lit {x v : Value} (h : VR imm mu (.lit x) v) : v = x := by simpa [VR] using h
theorem VRs_nil {cs : List Value} (h : VRs imm mu [] cs) : cs = [] := by simpa [VRs] using h
theorem VRs_cons {a : AV} {as : List AV} {cs : List Value} (h : VRs imm mu (a :: as) cs) : ∃ c cs', cs = c :: cs' ∧ VR imm mu a c ∧ VRs imm mu as cs' := by simpa [VRs] using h

theorem cellsEq_V : ∀ {ks : List Bool} {xs ys : List AV} {cs ds : List Value} {r : Bool}, VRs imm mu xs cs → VRs imm mu ys ds → cellsEq ks xs ys = some r → cellsEqV ks cs ds = some r
  | [], [], [], cs, ds, r, hx, hy, h => by rw [VRs_nil hx, VRs_nil hy]; simpa [cellsEq, cellsEqV] using h
  | t :: ks, x :: xs, y :: ys, cs, ds, r, hx, hy, h => by
    obtain ⟨c, cs', rfl, h1, h2⟩ := VRs_cons hx
    obtain ⟨d, ds', rfl, h3, h4⟩ := VRs_cons hy
    unfold cellsEq at h
    split at h
    · rename_i he1 he2 _; cases he1
    · rename_i a as b bs he1 he2 he3
      cases he1; cases he2; cases he3
      rw [VR_lit h1, VR_lit h3]
      split at h
      · rename_i p q hp hq
        simp only [cellsEqV, hp, cellsEq_V h2 h4 hq]; exact h
      · cases h
    · cases h
  | [], x :: xs, ys, _, _, _, _, _, h => by simp [cellsEq] at h
  | [], [], y :: ys, _, _, _, _, _, h => by simp [cellsEq] at h
  | _ :: _, [], ys, _, _, _, _, _, h => by simp [cellsEq] at h
  | _ :: _, _ :: _, [], _, _, _, _, _, h => by simp [cellsEq] at h

theorem neg?_lit {op : BinOp} {r : Bool} {v : AV} (h : neg? op r = some v) : ∃ b, v = .lit (.bool b) := by
  unfold neg? at h; split at h <;> cases h <;> exact ⟨_, rfl⟩

/-- a guard that lets by -/
theorem run_eqGuard_other {op : BinOp} {t : TypeId} {X Y : Operand} {a b : Value} (h1 : a ≠ .nilIface) (h2 : ∀ cs, a ≠ .agg cs) : (eqGuard op t X Y a b).run P w = .ok () w := by
  unfold eqGuard
  cases a <;> first | (exact absurd rfl h1) | (exact absurd rfl (h2 _)) | (cases op <;> simp)

theorem abin_ok (hT : TOk P T) {op : BinOp} {t : TypeId} {X Y : Operand} {x y v : AV} {a b : Value} (hx : VR imm mu x a) (hy : VR imm mu y b) (h : abin T op t x y = some v) :
    ∃ c, (do eqGuard op t X Y a b; binOp op t a b : Sem Value).run P w = .ok c w ∧ VR imm mu v c := by
  unfold abin at h
  split at h
  · -- numbers
    have e1 := VR_lit hx; have e2 := VR_lit hy; subst e1; subst e2
    obtain ⟨c, h1, rfl⟩ := binI_ok (P := P) (w := w) (t := t) h
    exact ⟨c, by simp only [Sem.run_bind, run_eqGuard_int, Result.andThen, h1], by simp [VR]⟩
  · have e1 := VR_lit hx; have e2 := VR_lit hy; subst e1; subst e2
    split at h
    · rename_i ht
      obtain ⟨c, h1, rfl⟩ := run_eql (P := P) (w := w) (x := .bool _) (y := .bool _) h rfl rfl (equal_bool (hT.bool ht rfl) _ _)
      exact ⟨c, by simp only [Sem.run_bind, run_eqGuard_bool, Result.andThen, h1], by simp [VR]⟩
    · cases h
  · have e1 := VR_lit hx; have e2 := VR_lit hy; subst e1; subst e2
    split at h
    · split at h
      · rename_i hs
        cases h
        refine ⟨_, ?_, by simp [VR]; rfl⟩
        simp only [Sem.run_bind, run_eqGuard_string, Result.andThen, binOp, Op.stringOp]
        rw [if_neg]
        · rfl
        · show ¬ (_ > IntKind.i64.max)
          simp [IntKind.max, IntKind.signed, IntKind.bits]; omega
      · cases h
    · cases h
      refine ⟨_, ?_, by simp [VR]; rfl⟩
      simp only [Sem.run_bind, run_eqGuard_string, Result.andThen, binOp, Op.stringOp, Sem.run_pure]
    · cases h
      refine ⟨_, ?_, by simp [VR]; rfl⟩
      simp only [Sem.run_bind, run_eqGuard_string, Result.andThen, binOp, Op.stringOp, Sem.run_pure]
    · cases h
  · -- structs
    rename_i xs ys
    simp only [VR] at hx hy
    obtain ⟨cs, rfl, hcs, _⟩ := hx
    obtain ⟨ds, rfl, hds, _⟩ := hy
    split at h
    · rename_i ks _ _ _ _ _ ht
      cases hr : cellsEq _ xs ys with
      | none => rw [hr] at h; cases h
      | some r =>
        rw [hr] at h
        simp only [Option.bind_some] at h
        obtain ⟨he, hg⟩ := run_equal_agg hT ht rfl (cellsEq_V hcs hds hr) w
        obtain ⟨c, h1, rfl⟩ := run_eql (P := P) (w := w) (x := .agg _) (y := .agg _) h rfl rfl he
        exact ⟨c, by simp only [Sem.run_bind, run_eqGuard_agg w op t X Y _ _ hg, Result.andThen, h1], by simp [VR]⟩
    · cases h
  · split at h
    · rename_i hn
      simp only [Bool.and_eq_true] at hn
      cases hr : nilEq x y with
      | none => rw [hr] at h; cases h
      | some r =>
        rw [hr] at h
        simp only [Option.bind_some] at h
        have hp : nilTy T t (.lit (.pointer none)) = true → ∃ e, P.underlying t = some (.pointer e) := by
          intro h; unfold nilTy at h; simp only at h
          split at h
          · rename_i ht; exact hT.ptr ht rfl
          · cases h
        have hs : nilTy T t (.lit (.slice none 0 0)) = true → ∃ e, P.underlying t = some (.slice e) := by
          intro h; unfold nilTy at h; simp only at h
          split at h
          · rename_i ht; exact ⟨_, hT.slice ht rfl⟩
          · cases h
        have fin : ∀ c, ((binOp op t a b).run P w = .ok c w ∧ v = .lit c) → a ≠ .nilIface → (∀ cs, a ≠ .agg cs) → ∃ c, (do eqGuard op t X Y a b; binOp op t a b : Sem Value).run P w = .ok c w ∧ VR imm mu v c := by
          rintro c ⟨h1, rfl⟩ h2 h3
          exact ⟨c, by simp only [Sem.run_bind, run_eqGuard_other h2 h3, Result.andThen, h1], by simp [VR]⟩
        unfold nilEq at hr
        split at hr <;> cases hr
        · have e1 := VR_lit hx; have e2 := VR_lit hy; subst e1; subst e2
          obtain ⟨c, h1⟩ := run_eql (P := P) (w := w) h rfl rfl (equal_nil_ptr (hp hn.1) none)
          exact fin c h1 (by simp) (by simp)
        · have e2 := VR_lit hy; subst e2
          simp only [VR] at hx; obtain ⟨B, sz, _, rfl⟩ := hx
          obtain ⟨c, h1⟩ := run_eql (P := P) (w := w) h rfl rfl (equal_ptr_nil (hp hn.2) _)
          exact fin c h1 (by simp) (by simp)
        · have e1 := VR_lit hx; subst e1
          simp only [VR] at hy; obtain ⟨B, sz, _, rfl⟩ := hy
          obtain ⟨c, h1⟩ := run_eql (P := P) (w := w) h rfl rfl (equal_nil_ptr (hp hn.1) (some _))
          exact fin c h1 (by simp) (by simp)
        · have e2 := VR_lit hy; subst e2
          simp only [VR] at hx; obtain ⟨B, o, c', rfl, _⟩ := hx
          obtain ⟨c, h1⟩ := run_eql (P := P) (w := w) h rfl rfl (equal_ptr_nil (hp hn.2) _)
          exact fin c h1 (by simp) (by simp)
        · have e1 := VR_lit hx; subst e1
          simp only [VR] at hy; obtain ⟨B, o, c', rfl, _⟩ := hy
          obtain ⟨c, h1⟩ := run_eql (P := P) (w := w) h rfl rfl (equal_nil_ptr (hp hn.1) (some _))
          exact fin c h1 (by simp) (by simp)
        · have e1 := VR_lit hx; have e2 := VR_lit hy; subst e1; subst e2
          obtain ⟨c, h1⟩ := run_eql (P := P) (w := w) h rfl rfl (equal_nil_slice (hs hn.1) none _ _ _ _)
          exact fin c h1 (by simp) (by simp)
        · have e2 := VR_lit hy; subst e2
          simp only [VR] at hx; obtain ⟨B, o, cap, cs, rfl, _⟩ := hx
          obtain ⟨c, h1⟩ := run_eql (P := P) (w := w) h rfl rfl (equal_slice_nil (hs hn.2) _ _ _ _ _)
          exact fin c h1 (by simp) (by simp)
        · have e1 := VR_lit hx; subst e1
          simp only [VR] at hy; obtain ⟨B, o, cap, cs, rfl, _⟩ := hy
          obtain ⟨c, h1⟩ := run_eql (P := P) (w := w) h rfl rfl (equal_nil_slice (hs hn.1) (some _) _ _ _ _)
          exact fin c h1 (by simp) (by simp)
        · have e2 := VR_lit hy; subst e2
          simp only [VR] at hx; obtain ⟨B, cap, _, _, rfl⟩ := hx
          obtain ⟨c, h1⟩ := run_eql (P := P) (w := w) h rfl rfl (equal_slice_nil (hs hn.2) _ _ _ _ _)
          exact fin c h1 (by simp) (by simp)
        · have e1 := VR_lit hx; subst e1
          simp only [VR] at hy; obtain ⟨B, cap, _, _, rfl⟩ := hy
          obtain ⟨c, h1⟩ := run_eql (P := P) (w := w) h rfl rfl (equal_nil_slice (hs hn.1) (some _) _ _ _ _)
          exact fin c h1 (by simp) (by simp)
    · cases h

theorem aun_ok {op : UnOp} {x v : AV} {a : Value} (hx : VR imm mu x a) (h : aun op x = some v) : ∃ c, (Op.unary op a).run P w = .ok c w ∧ VR imm mu v c := by
  unfold aun at h
  split at h
  · cases h; rw [VR_lit hx]; exact ⟨_, rfl, by simp [VR]⟩
  · cases h; rw [VR_lit hx]; exact ⟨_, rfl, by simp [VR, wrapK_eq]⟩
  · cases h

theorem aconv_ok (hT : TOk P T) {src dst : TypeId} {x v : AV} {a : Value} (hx : VR imm mu x a) (h : aconv T src dst x = some v) :
    ∃ c, (convert src dst a).run P w = .ok c w ∧ VR imm mu v c := by
  unfold aconv at h
  split at h
  · rename_i hs ht
    cases h; rw [VR_lit hx]
    obtain ⟨d, hs, _⟩ := hT.under hs
    refine ⟨_, ?_, by simp [VR]; rfl⟩
    have hd := hT.int ht rfl
    simp only [convert, Sem.run_bind, run_underlying_of hs, run_underlying_of hd, Result.andThen]
    simp [Conv.intToInt, wrapK_eq]
  · cases h

end Go.Abs
