/- The least way back: what is known between two rounds (a plain law). -/
import Derived.Test.YtiinagmombigpaaWkA
import Derived.Test.YtiinagmombigpaaFnA
set_option linter.unusedSimpArgs false
set_option linter.unusedVariables false
set_option linter.unnecessarySimpa false

/- The least way back: what is known between two rounds (a plain law). -/
set_option linter.unusedVariables false
namespace Go.Abs.Tab
open Go.Gr
theorem mGet_set_self (k v : Int) : ∀ l : MI, mGet k (mSet k v l) = some v
  | [] => by rw [mSet, mGet, if_pos rfl]
  | p :: l => by
    rw [mSet]
    by_cases h : k = p.1
    · rw [if_pos h, mGet, if_pos rfl]
    · rw [if_neg h, mGet, if_neg h, mGet_set_self k v l]
theorem mGet_set_ne {k j : Int} (v : Int) (h : j ≠ k) : ∀ l : MI, mGet j (mSet k v l) = mGet j l
  | [] => by show (if j = k then some v else none) = none; rw [if_neg h]
  | p :: l => by
    rw [mSet]
    by_cases e : k = p.1
    · rw [if_pos e, mGet, if_neg h, mGet, if_neg (by rw [← e]; exact h)]
    · rw [if_neg e, mGet, mGet, mGet_set_ne v h l]
def Keys (l : MI) : Prop := ∀ (j : Nat) (p : Int × Int), l[j]? = some p → mGet p.1 (l.drop (j + 1)) = none
theorem keys_nil : Keys [] := fun j p h => by simp at h
theorem mGet_del_ne {k j : Int} (h : j ≠ k) : ∀ l : MI, mGet j (mDel k l) = mGet j l
  | [] => rfl
  | p :: l => by
    rw [mDel]
    by_cases e : k = p.1
    · rw [if_pos e, mGet, if_neg (by rw [← e]; exact h)]
    · rw [if_neg e, mGet, mGet, mGet_del_ne h l]
theorem keys_cons {p : Int × Int} {l : MI} : Keys (p :: l) ↔ mGet p.1 l = none ∧ Keys l := by
  constructor
  · intro h
    exact ⟨h 0 p rfl, fun j q hq => h (j + 1) q hq⟩
  · rintro ⟨h1, h2⟩ j q hq
    cases j with
    | zero => cases hq; exact h1
    | succ j => exact h2 j q hq
theorem mGet_del_self (k : Int) : ∀ l : MI, Keys l → mGet k (mDel k l) = none
  | [], _ => rfl
  | p :: l, h => by
    obtain ⟨h1, h2⟩ := keys_cons.1 h
    rw [mDel]
    by_cases e : k = p.1
    · rw [if_pos e, e]; exact h1
    · rw [if_neg e, mGet, if_neg e, mGet_del_self k l h2]
theorem mGet_none_set {j k v : Int} {l : MI} (hj : j ≠ k) (h : mGet j l = none) : mGet j (mSet k v l) = none := by rw [mGet_set_ne v hj, h]
theorem keys_set (k v : Int) : ∀ l : MI, Keys l → Keys (mSet k v l)
  | [], _ => keys_cons.2 ⟨rfl, keys_nil⟩
  | p :: l, h => by
    obtain ⟨h1, h2⟩ := keys_cons.1 h
    rw [mSet]
    by_cases e : k = p.1
    · rw [if_pos e]; exact keys_cons.2 ⟨by rw [show ((k, v) : Int × Int).1 = p.1 from e]; exact h1, h2⟩
    · rw [if_neg e]; exact keys_cons.2 ⟨mGet_none_set (fun h => e h.symm) h1, keys_set k v l h2⟩
theorem keys_del (k : Int) : ∀ l : MI, Keys l → Keys (mDel k l)
  | [], h => h
  | p :: l, h => by
    obtain ⟨h1, h2⟩ := keys_cons.1 h
    rw [mDel]
    by_cases e : k = p.1
    · rw [if_pos e]; exact h2
    · rw [if_neg e]; exact keys_cons.2 ⟨by rw [mGet_del_ne (fun h => e h.symm), h1], keys_del k l h2⟩
theorem mGet_ne_nil {l : MI} (h : l ≠ []) : ∃ k c, mGet k l = some c := by
  cases l with
  | nil => exact absurd rfl h
  | cons p l => exact ⟨p.1, p.2, by rw [mGet, if_pos rfl]⟩
structure Gph (n : Nat) (R : Nat → List (Int × Int)) (M : Int) : Prop where
  to : ∀ u, ∀ x ∈ R u, ∃ q : Nat, x.1 = q ∧ q < n
  lo : ∀ u, ∀ x ∈ R u, 1 ≤ x.2
  hi : ∀ u, ∀ x ∈ R u, x.2 ≤ M
inductive Way (R : Nat → List (Int × Int)) (s : Nat) : Nat → Int → Prop
  | one {v : Nat} {r : Int} : ((v : Int), r) ∈ R s → Way R s v r
  | snoc {u v : Nat} {c r : Int} : Way R s u c → ((v : Int), r) ∈ R u → Way R s v (c + r)
def Stl (st : MI) (v : Int) : Prop := (mGet v st).getD 0 ≠ 0
structure Dij (n : Nat) (R : Nat → List (Int × Int)) (s : Nat) (K : Int) (A : Nat → Int → Prop) (op st : MI) (d : Nat → Int) : Prop where
  ko : Keys op
  o : ∀ v c, mGet v op = some c → ∃ q : Nat, v = q ∧ q < n ∧ ¬ Stl st v ∧ Way R s q c ∧ 1 ≤ c ∧ c ≤ K
  e : ∀ u du, A u du → ∀ x ∈ R u, (Stl st x.1 ∧ d x.1.toNat ≤ du + x.2) ∨ ∃ c, mGet x.1 op = some c ∧ c ≤ du + x.2
  m : ∀ u : Nat, Stl st u → ∀ v c, mGet v op = some c → d u ≤ c
  ns : ¬ Stl st s
theorem Dij.mono {n : Nat} {R : Nat → List (Int × Int)} {s : Nat} {K K' : Int} {A A' : Nat → Int → Prop} {op st : MI} {d : Nat → Int} (h : Dij n R s K A op st d) (hA : ∀ u du, A' u du → A u du) (hK : K ≤ K') : Dij n R s K' A' op st d :=
  ⟨h.ko, fun v c hv => by obtain ⟨q, a1, a2, a3, a4, a5, a6⟩ := h.o v c hv; exact ⟨q, a1, a2, a3, a4, a5, Int.le_trans a6 hK⟩, fun u du ha => h.e u du (hA u du ha), h.m, h.ns⟩
/-- the sources that are looked at: the start, and what is settled -/
def Src (s : Nat) (st : MI) (d : Nat → Int) (u : Nat) (du : Int) : Prop := (u = s ∧ du = 0) ∨ (Stl st u ∧ du = d u)
theorem Dij.low {n : Nat} {R : Nat → List (Int × Int)} {M : Int} (G : Gph n R M) {s : Nat} {K : Int} {op st : MI} {d : Nat → Int} (h : Dij n R s K (Src s st d) op st d) {v : Nat} {c : Int} (w : Way R s v c) : (Stl st v ∧ d v ≤ c) ∨ ∃ u c', mGet u op = some c' ∧ c' ≤ c := by
  induction w with
  | one hr =>
    rcases h.e s 0 (.inl ⟨rfl, rfl⟩) _ hr with ⟨h1, h2⟩ | ⟨c', h1, h2⟩
    · exact .inl ⟨h1, by rw [Int.toNat_natCast] at h2; dsimp only at h2; omega⟩
    · exact .inr ⟨_, c', h1, by dsimp only at h2; omega⟩
  | @snoc u v c r _ hr ih =>
    have hlo := G.lo u _ hr
    dsimp only at hlo
    rcases ih with ⟨h1, h2⟩ | ⟨u', c', h1, h2⟩
    · rcases h.e u (d u) (.inr ⟨h1, rfl⟩) _ hr with ⟨h3, h4⟩ | ⟨c', h3, h4⟩
      · exact .inl ⟨h3, by rw [Int.toNat_natCast] at h4; dsimp only at h4; omega⟩
      · exact .inr ⟨_, c', h3, by dsimp only at h4; omega⟩
    · exact .inr ⟨u', c', h1, by omega⟩
/-- edges of a source, one by one -/
structure Fold (st : MI) (so : Int) (op0 : MI) (l : List (Int × Int)) (op : MI) : Prop where
  k : Keys op0 → Keys op
  a : ∀ v c, mGet v op = some c → mGet v op0 = some c ∨ ∃ x ∈ l, x.1 = v ∧ c = so + x.2 ∧ ¬ Stl st v
  b : ∀ v c0, mGet v op0 = some c0 → ∃ c, mGet v op = some c ∧ c ≤ c0
  c : ∀ x ∈ l, Stl st x.1 ∨ ∃ c, mGet x.1 op = some c ∧ c ≤ so + x.2
theorem fold_ok {st : MI} {so : Int} : ∀ (l : List (Int × Int)) (op0 : MI), (∀ x ∈ l, wrapK .i64 (so + x.2) = so + x.2) → Fold st so op0 l (l.foldl (relax1 st so) op0)
  | [], op0, _ => ⟨id, fun v c h => .inl h, fun v c h => ⟨c, h, Int.le_refl _⟩, fun x hx => by cases hx⟩
  | x :: l, op0, hw => by
    have hwx := hw x (List.mem_cons_self ..)
    have ih := fold_ok (st := st) (so := so) l (relax1 st so op0 x) (fun y hy => hw y (List.mem_cons_of_mem _ hy))
    rw [List.foldl_cons]
    generalize l.foldl (relax1 st so) (relax1 st so op0 x) = op at ih
    obtain ⟨k, a, b, c⟩ := ih
    have h1 : relax1 st so op0 x = op0 ∧ (Stl st x.1 ∨ ∃ c, mGet x.1 op0 = some c ∧ c ≤ so + x.2) ∨ relax1 st so op0 x = mSet x.1 (so + x.2) op0 ∧ ¬ Stl st x.1 ∧ ∀ c, mGet x.1 op0 = some c → so + x.2 ≤ c := by
      unfold relax1
      rw [hwx]
      split
      · rename_i hc
        refine .inr ⟨rfl, fun h => h hc.1, fun c hg => ?_⟩
        rcases hc.2 with h | h
        · rw [hg] at h; cases h
        · rw [hg, Option.getD_some] at h; omega
      · rename_i hc
        refine .inl ⟨rfl, ?_⟩
        by_cases hs : (mGet x.1 st).getD 0 = 0
        · right
          cases hg : mGet x.1 op0 with
          | none => exact absurd ⟨hs, .inl (by rw [hg]; rfl)⟩ hc
          | some c0 =>
            refine ⟨c0, rfl, ?_⟩
            have : ¬ so + x.2 < c0 := fun hlt => hc ⟨hs, .inr (by rw [hg]; exact hlt)⟩
            omega
        · exact .inl hs
    rcases h1 with ⟨h1, h2⟩ | ⟨h1, h2, h3⟩
    · rw [h1] at k a b
      refine ⟨k, fun v c' hv => ?_, b, fun y hy => ?_⟩
      · rcases a v c' hv with h | ⟨y, hy, e⟩
        · exact .inl h
        · exact .inr ⟨y, List.mem_cons_of_mem _ hy, e⟩
      · rcases List.mem_cons.1 hy with rfl | hy
        · rcases h2 with h | ⟨c0, h, hle⟩
          · exact .inl h
          · obtain ⟨c', h', hle'⟩ := b _ _ h
            exact .inr ⟨c', h', Int.le_trans hle' hle⟩
        · exact c y hy
    · rw [h1] at k a b
      refine ⟨fun hk => k (keys_set _ _ _ hk), fun v c' hv => ?_, fun v c0 hv => ?_, fun y hy => ?_⟩
      · rcases a v c' hv with h | ⟨y, hy, e⟩
        · by_cases hx : v = x.1
          · subst hx
            rw [mGet_set_self] at h
            exact .inr ⟨x, List.mem_cons_self .., rfl, (Option.some.inj h).symm, h2⟩
          · rw [mGet_set_ne _ hx] at h
            exact .inl h
        · exact .inr ⟨y, List.mem_cons_of_mem _ hy, e⟩
      · by_cases hx : v = x.1
        · subst hx
          obtain ⟨c', h', hle⟩ := b _ _ (mGet_set_self x.1 (so + x.2) op0)
          exact ⟨c', h', Int.le_trans hle (h3 c0 hv)⟩
        · exact b v c0 (by rw [mGet_set_ne _ hx]; exact hv)
      · rcases List.mem_cons.1 hy with rfl | hy
        · obtain ⟨c', h', hle⟩ := b _ _ (mGet_set_self y.1 (so + y.2) op0)
          exact .inr ⟨c', h', hle⟩
        · exact c y hy
theorem Dij.reach {n : Nat} {R : Nat → List (Int × Int)} {M : Int} (G : Gph n R M) {s : Nat} {K : Int} {A : Nat → Int → Prop} {op st : MI} {d : Nat → Int} (h : Dij n R s K A op st d) {u : Nat} {so : Int} (h0 : 0 ≤ so) (hK : so + M ≤ K) (hK' : K < 2 ^ 62)
    (hw : ∀ x ∈ R u, Way R s x.1.toNat (so + x.2)) (hd : ∀ v : Nat, Stl st v → d v ≤ so) : Dij n R s K (fun w dw => A w dw ∨ (w = u ∧ dw = so)) ((R u).foldl (relax1 st so) op) st d := by
  have hF := fold_ok (st := st) (so := so) (R u) op (fun x hx => by
    have h1 := G.lo u x hx
    have h2 := G.hi u x hx
    exact wrapK_i64 (by omega) (by omega))
  refine ⟨hF.k h.ko, fun v c hv => ?_, fun w dw hA x hx => ?_, fun w hw' v c hv => ?_, h.ns⟩
  · rcases hF.a v c hv with hv | ⟨x, hx, rfl, rfl, hs⟩
    · exact h.o v c hv
    · obtain ⟨q, hq, hqn⟩ := G.to u x hx
      have h1 := G.lo u x hx
      have h2 := G.hi u x hx
      refine ⟨q, hq, hqn, hs, ?_, by omega, by omega⟩
      have := hw x hx
      rw [hq, Int.toNat_natCast] at this
      exact this
  · rcases hA with hA | ⟨rfl, rfl⟩
    · rcases h.e w dw hA x hx with h1 | ⟨c, h1, h2⟩
      · exact .inl h1
      · obtain ⟨c', h3, h4⟩ := hF.b _ _ h1
        exact .inr ⟨c', h3, Int.le_trans h4 h2⟩
    · rcases hF.c x hx with h1 | h1
      · refine .inl ⟨h1, ?_⟩
        obtain ⟨q, hq, _⟩ := G.to w x hx
        have h2 := hd q (by rw [← hq]; exact h1)
        have h3 := G.lo w x hx
        rw [hq, Int.toNat_natCast]
        omega
      · exact .inr h1
  · rcases hF.a v c hv with hv | ⟨x, hx, _, rfl, _⟩
    · exact h.m w hw' v c hv
    · have h1 := G.lo u x hx
      have h2 := hd w hw'
      omega
theorem stl_set_self (v : Int) (st : MI) : Stl (mSet v 1 st) v := by
  unfold Stl
  rw [mGet_set_self, Option.getD_some]
  decide
theorem stl_set_ne {v w : Int} (h : w ≠ v) (st : MI) : Stl (mSet v 1 st) w ↔ Stl st w := by
  unfold Stl
  rw [mGet_set_ne _ h]
/-- the least is settled -/
theorem Dij.settle {n : Nat} {R : Nat → List (Int × Int)} {M : Int} (G : Gph n R M) {s : Nat} {K : Int} {A : Nat → Int → Prop} {op st : MI} {d : Nat → Int} (h : Dij n R s K A op st d) {v : Nat} {c : Int} (hv : mGet v op = some c) (hs : v ≠ s) (hm : ∀ u c', mGet u op = some c' → c ≤ c') :
    Dij n R s K A (mDel v op) (mSet v 1 st) (fun u => if u = v then c else d u) := by
  have hns : ¬ Stl st v := by obtain ⟨q, _, _, h1, _⟩ := h.o _ _ hv; exact h1
  have hdel : ∀ u c', mGet u (mDel v op) = some c' → u ≠ v ∧ mGet u op = some c' := fun u c' hu => by
    by_cases e : u = v
    · rw [e, mGet_del_self _ _ h.ko] at hu; cases hu
    · rw [mGet_del_ne e] at hu; exact ⟨e, hu⟩
  refine ⟨keys_del _ _ h.ko, fun u c' hu => ?_, fun u du hA x hx => ?_, fun u hu w c' hw => ?_, ?_⟩
  · obtain ⟨hne, hu'⟩ := hdel u c' hu
    obtain ⟨q, h1, h2, h3, h4⟩ := h.o u c' hu'
    exact ⟨q, h1, h2, fun hh => h3 ((stl_set_ne hne st).1 hh), h4⟩
  · rcases h.e u du hA x hx with ⟨h1, h2⟩ | ⟨c', h1, h2⟩
    · have hne : x.1 ≠ (v : Int) := fun e => hns (by rw [← e]; exact h1)
      refine .inl ⟨(stl_set_ne hne st).2 h1, ?_⟩
      by_cases e : x.1.toNat = v
      · rw [if_pos e]
        obtain ⟨q, hq, _⟩ := G.to u x hx
        exact absurd (show x.1 = (v : Int) by omega) hne
      · rw [if_neg e]; exact h2
    · by_cases e : x.1 = (v : Int)
      · left
        rw [e] at h1 ⊢
        rw [hv] at h1
        cases h1
        exact ⟨stl_set_self _ _, by rw [Int.toNat_natCast, if_pos rfl]; exact h2⟩
      · exact .inr ⟨c', by rw [mGet_del_ne e]; exact h1, h2⟩
  · obtain ⟨hne, hw'⟩ := hdel w c' hw
    by_cases e : u = v
    · subst e
      rw [if_pos rfl]
      exact hm w c' hw'
    · rw [if_neg e]
      exact h.m u ((stl_set_ne (by omega) st).1 hu) w c' hw'
  · exact fun hh => h.ns ((stl_set_ne (by omega) st).1 hh)
end Go.Abs.Tab

/- Order: the least that is open is looked for. -/
set_option linter.unusedVariables false
namespace Go.Abs.Tab
open Go.Gr
def pick1 (op : MI) (i : Nat) (r : Int × Int) : Int × Int := match mGet i op with
  | none => r
  | some c => if 0 ≤ r.1 ∧ r.2 ≤ c then r else ((i : Int), c)
def pick (op : MI) : Nat → Nat → Int × Int → Int × Int
  | 0, _, r => r
  | d + 1, i, r => pick op d (i + 1) (pick1 op i r)
structure Pick (op : MI) (d i : Nat) (r r' : Int × Int) : Prop where
  a : ∀ (j : Nat) c, i ≤ j → j < i + d → mGet j op = some c → 0 ≤ r'.1 ∧ r'.2 ≤ c
  b : 0 ≤ r.1 → 0 ≤ r'.1 ∧ r'.2 ≤ r.2
  c : r' = r ∨ ∃ j : Nat, r'.1 = j ∧ i ≤ j ∧ j < i + d ∧ mGet j op = some r'.2
theorem pick_ok (op : MI) : ∀ (d i : Nat) (r : Int × Int), Pick op d i r (pick op d i r)
  | 0, i, r => ⟨fun j c h1 h2 => by omega, fun h => ⟨h, Int.le_refl _⟩, .inl rfl⟩
  | d + 1, i, r => by
    obtain ⟨a, b, c⟩ := pick_ok op d (i + 1) (pick1 op i r)
    show Pick op (d + 1) i r (pick op d (i + 1) (pick1 op i r))
    generalize pick op d (i + 1) (pick1 op i r) = r' at *
    unfold pick1 at b c
    cases hg : mGet i op with
    | none =>
      rw [hg] at b c
      refine ⟨fun j c' h1 h2 hj => ?_, b, ?_⟩
      · by_cases e : j = i
        · subst e; rw [hg] at hj; cases hj
        · exact a j c' (by omega) (by omega) hj
      · rcases c with c | ⟨j, h1, h2, h3, h4⟩
        · exact .inl c
        · exact .inr ⟨j, h1, by omega, by omega, h4⟩
    | some c0 =>
      rw [hg] at b c
      dsimp only at b c
      by_cases hc : 0 ≤ r.1 ∧ r.2 ≤ c0
      · rw [if_pos hc] at b c
        refine ⟨fun j c' h1 h2 hj => ?_, b, ?_⟩
        · by_cases e : j = i
          · subst e
            rw [hg] at hj
            cases hj
            exact ⟨(b hc.1).1, Int.le_trans (b hc.1).2 hc.2⟩
          · exact a j c' (by omega) (by omega) hj
        · rcases c with c | ⟨j, h1, h2, h3, h4⟩
          · exact .inl c
          · exact .inr ⟨j, h1, by omega, by omega, h4⟩
      · rw [if_neg hc] at b c
        have hb := b (Int.natCast_nonneg i)
        dsimp only at hb
        refine ⟨fun j c' h1 h2 hj => ?_, fun h0 => ⟨hb.1, ?_⟩, ?_⟩
        · by_cases e : j = i
          · subst e
            rw [hg] at hj
            cases hj
            exact hb
          · exact a j c' (by omega) (by omega) hj
        · have : ¬ r.2 ≤ c0 := fun h => hc ⟨h0, h⟩
          omega
        · rcases c with c | ⟨j, h1, h2, h3, h4⟩
          · right
            refine ⟨i, by rw [c], by omega, by omega, by rw [c]; exact hg⟩
          · exact .inr ⟨j, h1, by omega, by omega, h4⟩
structure DFr (fr : PT) (a : AV) (s : Nat) : Prop where
  f0 : fr.get 0 = a
  f1 : fr.get 1 = iv s
  f9 : fr.get 9 = .ptr 3 0 0
  f10 : fr.get 10 = .ptr 4 0 0
  f11 : fr.get 11 = .fn 126 [.ptr 0 0 0, .ptr 3 0 0, .ptr 4 0 0]
theorem DFr.of {fr fr' : PT} {a : AV} {s : Nat} (F : DFr fr a s) (h : ∀ t, (t = 0 ∨ t = 1 ∨ t = 9 ∨ t = 10 ∨ t = 11) → fr'.get t = fr.get t) : DFr fr' a s :=
  ⟨by rw [h 0 (by simp), F.f0], by rw [h 1 (by simp), F.f1], by rw [h 9 (by simp), F.f9], by rw [h 10 (by simp), F.f10], by rw [h 11 (by simp), F.f11]⟩
theorem loop64_0 {a : AV} {s n : Nat} (hn : n ≤ 64) {op st : MI} {G : Hp} (B : B64 G a op st) :
    ∀ (d i : Nat) (fr : PT) (r : Int × Int), n - i = d → i ≤ n → DFr fr a s → fr.get 41 = iv n → fr.get 42 = iv i → fr.get 12 = iv r.1 → fr.get 13 = iv r.2 →
    ∃ fr' : PT, D.loop 0 64 81 l64_0 fr G = some (.exit 2, fr', G) ∧ DFr fr' a s ∧ fr'.get 12 = iv (pick op d i r).1 ∧ fr'.get 13 = iv (pick op d i r).2
  | 0, i, fr, r, hd, hi, F, f41, f42, f12, f13 => by
    have hlt := lp1 hd hi
    rw [dl64_0]
    simp -implicitDefEqProofs (maxDischargeDepth := 4) only [go_sem, f41, f42, hlt]
    refine ⟨_, rfl, F.of fun t ht => ?_, by simp -implicitDefEqProofs (maxDischargeDepth := 4) only [go_sem, f12]; rfl, by simp -implicitDefEqProofs (maxDischargeDepth := 4) only [go_sem, f13]; rfl⟩
    rcases ht with rfl | rfl | rfl | rfl | rfl <;> simp -implicitDefEqProofs (maxDischargeDepth := 4) only [go_sem]
  | d + 1, i, fr, r, hd, hi, F, f41, f42, f12, f13 => by
    have hlt := lp2 hd
    have w3 := wrap_succ (lp5 hd hn)
    have step : ∃ fr1 : PT, ex cx D 0 64 81 (.seq (.region 11 g64_11 false) (.seq (.cond (.tmp 43) .skip (.exit 2)) (.seq (.block 3 (.seq (.region 12 g64_12 false) (.seq (.region 13 g64_13 false) (.seq (.seq (.region 14 g64_14 false) (.cond (.tmp 61) (.exit 3) .skip)) (.region 15 g64_15 false))))) (.region 16 g64_16 false)))) fr G = some (.normal, fr1, G) ∧ DFr fr1 a s ∧ fr1.get 41 = iv n ∧ fr1.get 42 = iv (i + 1 : Nat) ∧ fr1.get 12 = iv (pick1 op i r).1 ∧ fr1.get 13 = iv (pick1 op i r).2 := by
      unfold pick1
      cases hg : mGet i op with
      | none =>
        simp -implicitDefEqProofs (maxDischargeDepth := 4) only [go_sem, F.f9, f41, f42, f12, f13, hlt, w3, B.g1, B.g3, hg, u_not, Option.isSome_none, Option.getD_none]
        refine ⟨_, rfl, F.of fun t ht => ?_, by simp -implicitDefEqProofs (maxDischargeDepth := 4) only [go_sem, f41], by simp -implicitDefEqProofs (maxDischargeDepth := 4) only [go_sem], by simp -implicitDefEqProofs (maxDischargeDepth := 4) only [go_sem, f12], by simp -implicitDefEqProofs (maxDischargeDepth := 4) only [go_sem, f13]⟩
        rcases ht with rfl | rfl | rfl | rfl | rfl <;> simp -implicitDefEqProofs (maxDischargeDepth := 4) only [go_sem]
      | some c =>
        dsimp only
        by_cases h0 : 0 ≤ r.1
        · by_cases h1 : r.2 ≤ c
          · rw [if_pos ⟨h0, h1⟩]
            simp -implicitDefEqProofs (maxDischargeDepth := 4) only [go_sem, F.f9, f41, f42, f12, f13, hlt, w3, B.g1, B.g3, hg, u_not, Option.isSome_some, Option.getD_some, h0, h1]
            refine ⟨_, rfl, F.of fun t ht => ?_, by simp -implicitDefEqProofs (maxDischargeDepth := 4) only [go_sem, f41], by simp -implicitDefEqProofs (maxDischargeDepth := 4) only [go_sem], by simp -implicitDefEqProofs (maxDischargeDepth := 4) only [go_sem, f12], by simp -implicitDefEqProofs (maxDischargeDepth := 4) only [go_sem, f13]⟩
            rcases ht with rfl | rfl | rfl | rfl | rfl <;> simp -implicitDefEqProofs (maxDischargeDepth := 4) only [go_sem]
          · rw [if_neg (fun h => h1 h.2)]
            simp -implicitDefEqProofs (maxDischargeDepth := 4) only [go_sem, F.f9, f41, f42, f12, f13, hlt, w3, B.g1, B.g3, hg, u_not, Option.isSome_some, Option.getD_some, h0, h1]
            refine ⟨_, rfl, F.of fun t ht => ?_, by simp -implicitDefEqProofs (maxDischargeDepth := 4) only [go_sem, f41], by simp -implicitDefEqProofs (maxDischargeDepth := 4) only [go_sem], by simp -implicitDefEqProofs (maxDischargeDepth := 4) only [go_sem], by simp -implicitDefEqProofs (maxDischargeDepth := 4) only [go_sem]⟩
            rcases ht with rfl | rfl | rfl | rfl | rfl <;> simp -implicitDefEqProofs (maxDischargeDepth := 4) only [go_sem]
        · rw [if_neg (fun h => h0 h.1)]
          simp -implicitDefEqProofs (maxDischargeDepth := 4) only [go_sem, F.f9, f41, f42, f12, f13, hlt, w3, B.g1, B.g3, hg, u_not, Option.isSome_some, Option.getD_some, h0]
          refine ⟨_, rfl, F.of fun t ht => ?_, by simp -implicitDefEqProofs (maxDischargeDepth := 4) only [go_sem, f41], by simp -implicitDefEqProofs (maxDischargeDepth := 4) only [go_sem], by simp -implicitDefEqProofs (maxDischargeDepth := 4) only [go_sem], by simp -implicitDefEqProofs (maxDischargeDepth := 4) only [go_sem]⟩
          rcases ht with rfl | rfl | rfl | rfl | rfl <;> simp -implicitDefEqProofs (maxDischargeDepth := 4) only [go_sem]
    obtain ⟨fr1, e1, F1, k41, k42, k12, k13⟩ := step
    obtain ⟨fr2, e2, F2, l12, l13⟩ := loop64_0 hn B d (i + 1) fr1 _ (nd1 hd) (nd2 hd) F1 k41 k42 k12 k13
    refine ⟨fr2, ?_, F2, l12, l13⟩
    rw [dl64_0, e1, xbind_some, contR_normal]
    unfold trimmed
    rw [if_pos rfl, e2]
end Go.Abs.Tab

/- Order: order.Back's rounds. -/
set_option linter.unusedVariables false
namespace Go.Abs.Tab
open Go.Gr
def unsL (st : MI) (i : Nat) : Bool := (mGet i st).getD 0 == 0
def uns (n : Nat) (st : MI) : Nat := ((List.range n).filter (unsL st)).length
theorem uns_same (st : MI) {v : Nat} : ∀ n, n ≤ v → uns n (mSet v 1 st) = uns n st
  | 0, _ => rfl
  | n + 1, h => by
    have ih := uns_same st (v := v) n (by omega)
    unfold uns at *
    rw [List.range_succ, List.filter_append, List.filter_append, List.length_append, List.length_append, ih]
    have : unsL (mSet v 1 st) n = unsL st n := by unfold unsL; rw [mGet_set_ne (k := (v : Int)) (j := (n : Int)) 1 (by omega)]
    rw [List.filter_cons, List.filter_cons, this]
    rfl
theorem uns_settle (st : MI) {v : Nat} (hs : ¬ Stl st v) : ∀ n, v < n → uns n (mSet v 1 st) + 1 = uns n st
  | 0, h => by omega
  | n + 1, h => by
    have h0 : (mGet v st).getD 0 = 0 := by unfold Stl at hs; omega
    by_cases e : v = n
    · subst e
      have ih := uns_same st (v := v) v (Nat.le_refl _)
      unfold uns at *
      rw [List.range_succ, List.filter_append, List.filter_append, List.length_append, List.length_append, ih]
      have h1 : unsL (mSet v 1 st) v = false := by unfold unsL; rw [mGet_set_self]; rfl
      have h2 : unsL st v = true := by unfold unsL; rw [h0]; rfl
      rw [List.filter_cons, List.filter_cons, h1, h2]
      simp
    · have ih := uns_settle st hs n (by omega)
      unfold uns at *
      rw [List.range_succ, List.filter_append, List.filter_append, List.length_append, List.length_append]
      have : unsL (mSet v 1 st) n = unsL st n := by unfold unsL; rw [mGet_set_ne (k := (v : Int)) (j := (n : Int)) 1 (by omega)]
      rw [List.filter_cons, List.filter_cons, this]
      simp only [List.filter_nil]
      omega
theorem uns_pos {st : MI} {v n : Nat} (hs : ¬ Stl st v) (hv : v < n) : 1 ≤ uns n st := by
  have := uns_settle st hs n hv
  omega
theorem uns_nil : ∀ n, uns n [] = n
  | 0 => rfl
  | n + 1 => by
    have ih := uns_nil n
    unfold uns at *
    rw [List.range_succ, List.filter_append, List.length_append, ih]
    rfl
/-- edges of nodes that act -/
def oR (ns : List Nd) (i : Nat) : List (Int × Int) := match ns[i]? with
  | some x => if actK x.kind = true then rises ns x.prio x.es else []
  | none => []
theorem oR_act {ns : List Nd} {i : Nat} {x : Nd} (hx : ns[i]? = some x) (hk : actK x.kind = true) : oR ns i = rises ns x.prio x.es := by
  unfold oR
  rw [hx]
  dsimp only
  rw [if_pos hk]
structure OrdOk (ns : List Nd) : Prop extends Good ns where
  up : ∀ x ∈ ns, oBad ns x = false
theorem oChk_ok {ns : List Nd} : ∀ (l : List Nd) (i : Nat), (oChk ns i l).2 = 0 → ∀ x ∈ l, oBad ns x = false
  | [], _, _, x, hx => by cases hx
  | y :: l, i, h, x, hx => by
    simp only [oChk] at h
    cases hb : oBad ns y with
    | true => rw [hb, if_pos rfl] at h; exact absurd h (show (10 : Int) ≠ 0 by decide)
    | false =>
      rw [hb, if_neg (by decide)] at h
      rcases List.mem_cons.1 hx with rfl | hx
      · exact hb
      · exact oChk_ok l (i + 1) h x hx
theorem ord_good {ns : List Nd} (h : (ordC ns).2 = 0) : OrdOk ns := by
  unfold ordC at h
  split at h
  · rename_i h0
    exact ⟨chk_good h0, oChk_ok ns 0 h⟩
  · rename_i h0
    exact absurd h h0
theorem shp_prio {x : Nd} (h : shp x = true) : 0 ≤ x.prio ∧ x.prio ≤ 1000 := by
  unfold shp at h
  simp only [Bool.and_eq_true] at h
  exact inB_iff.1 h.1.1.1.2
theorem rises_mem {ns : List Nd} {px : Int} {es : List (Int × Int)} {r : Int × Int} (h : r ∈ rises ns px es) : ∃ e ∈ es, rise1 ns px e = some r := by
  unfold rises at h
  rw [List.mem_filterMap] at h
  exact h
theorem oR_mem {ns : List Nd} {u : Nat} {r : Int × Int} (h : r ∈ oR ns u) : ∃ x e, ns[u]? = some x ∧ actK x.kind = true ∧ e ∈ x.es ∧ rise1 ns x.prio e = some r := by
  unfold oR at h
  cases hx : ns[u]? with
  | none => rw [hx] at h; cases h
  | some x =>
    rw [hx] at h
    dsimp only at h
    split at h
    · rename_i hk
      obtain ⟨e, he, hr⟩ := rises_mem h
      exact ⟨x, e, rfl, hk, he, hr⟩
    · cases h
theorem oR_to {ns : List Nd} {u : Nat} {r : Int × Int} (h : r ∈ oR ns u) : ∃ (q : Nat) (y : Nd), r.1 = q ∧ ns[q]? = some y ∧ actK y.kind = true := by
  obtain ⟨x, e, _, _, _, hr⟩ := oR_mem h
  obtain ⟨q, y, o, _, hy, hk, rfl⟩ := rise1_some hr
  exact ⟨q, y, rfl, hy, hk⟩
theorem oR_gph {ns : List Nd} (hg : OrdOk ns) : Gph ns.length (oR ns) 2000000 := by
  refine ⟨fun u r hr => ?_, fun u r hr => ?_, fun u r hr => ?_⟩
  · obtain ⟨q, y, h1, h2, _⟩ := oR_to hr
    exact ⟨q, h1, (List.getElem?_eq_some_iff.1 h2).1⟩
  · obtain ⟨x, e, hx, hk, he, hr⟩ := oR_mem hr
    have hb := hg.up x (List.mem_of_getElem? hx)
    unfold oBad at hb
    rw [hk, Bool.true_and, List.any_eq_false] at hb
    have := hb r (List.mem_filterMap.2 ⟨e, by unfold oE; exact List.mem_append_left _ he, hr⟩)
    simp only [lowR, decide_eq_true_eq] at this
    omega
  · obtain ⟨x, e, hx, hk, he, hr⟩ := oR_mem hr
    obtain ⟨q, y, o, hw, hy, _, rfl⟩ := rise1_some hr
    have hsm : Small ns := fun z hz => shp_small (hg.sh z hz)
    have he2 := shp_small (hg.sh x (List.mem_of_getElem? hx)) e he
    have hl := hg.le
    have h1 := (wlk_add hsm (d := 0) (by omega) hw (by omega) he2.1 (by omega)).2
    have p1 := shp_prio (hg.sh x (List.mem_of_getElem? hx))
    have p2 := shp_prio (hg.sh y (List.mem_of_getElem? hy))
    dsimp only
    rw [wrapK_i64 (n := y.prio + o) (by omega) (by omega), wrapK_i64 (by omega) (by omega)]
    omega
theorem way_to {ns : List Nd} {s v : Nat} {c : Int} (w : Way (oR ns) s v c) : ∃ y, ns[v]? = some y ∧ actK y.kind = true := by
  cases w with
  | one h =>
    obtain ⟨q, y, h1, h2, h3⟩ := oR_to h
    have : v = q := by dsimp only at h1; omega
    subst this
    exact ⟨y, h2, h3⟩
  | snoc _ h =>
    obtain ⟨q, y, h1, h2, h3⟩ := oR_to h
    have : v = q := by dsimp only at h1; omega
    subst this
    exact ⟨y, h2, h3⟩
end Go.Abs.Tab

/- Order: order.Back is the least way back. -/
set_option linter.unusedVariables false
namespace Go.Abs.Tab
open Go.Gr
/-- the least way back, or none -/
def Back (R : Nat → List (Int × Int)) (s : Nat) (r : Int × Bool) : Prop :=
  (r.2 = true ∧ Way R s s r.1 ∧ ∀ c', Way R s s c' → r.1 ≤ c') ∨ (r = (0, false) ∧ ∀ c', ¬ Way R s s c')
theorem Back.uniq {R : Nat → List (Int × Int)} {s : Nat} {r r' : Int × Bool} (h : Back R s r) (h' : Back R s r') : r = r' := by
  obtain ⟨a, b⟩ := r
  obtain ⟨a', b'⟩ := r'
  rcases h with ⟨h1, h2, h3⟩ | ⟨h1, h2⟩ <;> rcases h' with ⟨k1, k2, k3⟩ | ⟨k1, k2⟩
  · dsimp only at *
    subst h1 k1
    have := h3 _ k2
    have := k3 _ h2
    rw [show a = a' by omega]
  · exact absurd h2 (k2 _)
  · exact absurd k2 (h2 _)
  · rw [h1, k1]
def Fin64 (R : Nat → List (Int × Int)) (s : Nat) (e : Ex) (fr : PT) : Prop :=
  (e = .ret ∧ ∃ c, fr.get 4 = iv c ∧ fr.get 5 = bv true ∧ Back R s (c, true)) ∨ (e = .exit 0 ∧ Back R s (0, false))
theorem kill_fn126 {m : Nat} (hm : 5 ≤ m) : kill m (.fn 126 [.ptr 0 0 0, .ptr 3 0 0, .ptr 4 0 0]) = .fn 126 [.ptr 0 0 0, .ptr 3 0 0, .ptr 4 0 0] := by
  show (if ([.ptr 0 0 0, .ptr 3 0 0, .ptr 4 0 0] : List AV).all (fun x => match x with | .ptr b _ _ => decide (b < m) | _ => false) = true then AV.fn 126 [.ptr 0 0 0, .ptr 3 0 0, .ptr 4 0 0] else .dead) = _
  rw [if_pos]
  simp only [List.all_cons, List.all_nil, Bool.and_true, Bool.and_eq_true, decide_eq_true_eq]
  omega
theorem Kle {n : Nat} (hn : n ≤ 64) (u : Nat) : (2000000 : Int) * ((n : Int) + 1 - (u : Int)) < 2 ^ 62 := by
  have : (n : Int) + 1 - (u : Int) ≤ 65 := by omega
  omega
theorem loop64_1 {ns : List Nd} {a : AV} (hns : NsOk ns a) (hg : OrdOk ns) {s : Nat} (hs : s < ns.length) {m : Nat} (hm : 5 ≤ m) :
    ∀ (d : Nat) (fr : PT) (G : Hp) (op st : MI) (dd : Nat → Int), uns ns.length st ≤ d → G.length = m → DFr fr a s → B64 G a op st → Dij ns.length (oR ns) s (2000000 * ((ns.length : Int) + 1 - (uns ns.length st : Int))) (Src s st dd) op st dd →
    ∃ e fr' G', D.loop 0 64 81 l64_1 fr G = some (e, fr', G') ∧ Fin64 (oR ns) s e fr'
  | 0, fr, G, op, st, dd, hd, hG, F, B, I => by
    have := uns_pos I.ns hs
    omega
  | d + 1, fr, G, op, st, dd, hd, hG, F, B, I => by
    have hgr := oR_gph hg
    by_cases hop : op = []
    · subst hop
      have hlen : (mEs []).length = 0 := rfl
      rw [dl64_1]
      simp -implicitDefEqProofs (maxDischargeDepth := 4) only [go_sem, F.f9, B.g1, B.g3, hlen]
      refine ⟨_, _, _, rfl, .inr ⟨rfl, .inr ⟨rfl, fun c' w => ?_⟩⟩⟩
      rcases I.low hgr w with ⟨h, _⟩ | ⟨u, c, h, _⟩
      · exact I.ns h
      · cases h
    · obtain ⟨k0, c0, hk0⟩ := mGet_ne_nil hop
      obtain ⟨q0, rfl, hq0, _⟩ := I.o k0 c0 hk0
      have hP := pick_ok op ns.length 0 (-1, 0)
      have hp0 := hP.a q0 c0 (Nat.zero_le _) (by omega) hk0
      obtain ⟨j, hj1, hj2⟩ : ∃ j : Nat, (pick op ns.length 0 (-1, 0)).1 = j ∧ mGet j op = some (pick op ns.length 0 (-1, 0)).2 := by
        rcases hP.c with h | ⟨j, h1, _, _, h4⟩
        · rw [h] at hp0; exact absurd hp0.1 (by decide)
        · exact ⟨j, h1, h4⟩
      have hmin : ∀ u c', mGet u op = some c' → (pick op ns.length 0 (-1, 0)).2 ≤ c' := fun u c' hu => by
        obtain ⟨q, rfl, hq, _⟩ := I.o u c' hu
        exact (hP.a q c' (Nat.zero_le _) (by omega) hu).2
      obtain ⟨fr1, e1, F1⟩ : ∃ fr1 : PT, ex cx D 0 64 81 (.seq (.region 8 g64_8 false) (.cond (.tmp 39) .skip (.exit 0))) fr G = some (.normal, fr1, G) ∧ DFr fr1 a s := by
        have hlen : (0 : Int) < ((mEs op).length : Int) := by
          rw [mEs_length]
          have : 0 < op.length := List.length_pos_iff.2 hop
          omega
        simp -implicitDefEqProofs (maxDischargeDepth := 4) only [go_sem, F.f9, B.g1, B.g3, hlen]
        refine ⟨_, rfl, F.of fun t ht => ?_⟩
        rcases ht with rfl | rfl | rfl | rfl | rfl <;> simp -implicitDefEqProofs (maxDischargeDepth := 4) only [go_sem]
      obtain ⟨fr2, e2, F2, k41, k42, k12, k13⟩ : ∃ fr2 : PT, ex cx D 0 64 81 (.seq (.region 9 g64_9 false) (.region 10 g64_10 false)) fr1 G = some (.normal, fr2, G) ∧ DFr fr2 a s ∧ fr2.get 41 = iv ns.length ∧ fr2.get 42 = iv (0 : Nat) ∧ fr2.get 12 = iv (-1) ∧ fr2.get 13 = iv 0 := by
        simp -implicitDefEqProofs (maxDischargeDepth := 4) only [go_sem, F1.f0, hns.sl.shr, hns.sl.notOwn, alen_sl hns.sl, List.length_map]
        refine ⟨_, rfl, F1.of fun t ht => ?_, by simp -implicitDefEqProofs (maxDischargeDepth := 4) only [go_sem], by simp -implicitDefEqProofs (maxDischargeDepth := 4) only [go_sem]; rfl, by simp -implicitDefEqProofs (maxDischargeDepth := 4) only [go_sem], by simp -implicitDefEqProofs (maxDischargeDepth := 4) only [go_sem]⟩
        rcases ht with rfl | rfl | rfl | rfl | rfl <;> simp -implicitDefEqProofs (maxDischargeDepth := 4) only [go_sem]
      obtain ⟨fr3, e3, F3, l12, l13⟩ := loop64_0 hg.le B ns.length 0 fr2 (-1, 0) (Nat.sub_zero _) (Nat.zero_le _) F2 k41 k42 k12 k13
      rw [hj1] at l12
      generalize (pick op ns.length 0 (-1, 0)).2 = least at *
      obtain ⟨_, _, p9, p10⟩ := x_split e2
      have eL : ex cx D 0 64 81 (.block 2 (.loop l64_0)) fr2 G = some (.normal, fr3, G) := by rw [x_block, x_loop, e3]; rfl
      obtain ⟨qj, hqj, hjn, hjs, wj, cj1, cjK⟩ := I.o j least hj2
      obtain rfl : j = qj := by omega
      by_cases hjs' : j = s
      · subst hjs'
        obtain ⟨fr4, e4, r4, r5⟩ : ∃ fr4 : PT, ex cx D 0 64 81 (.seq (.region 17 g64_17 false) (.cond (.tmp 67) (.seq (.region 18 g64_18 false) .ret) .skip)) fr3 G = some (.ret, fr4, G) ∧ fr4.get 4 = iv least ∧ fr4.get 5 = bv true := by
          simp -implicitDefEqProofs (maxDischargeDepth := 4) only [go_sem, F3.f1, l12, l13]
          exact ⟨_, rfl, by simp -implicitDefEqProofs (maxDischargeDepth := 4) only [go_sem], by simp -implicitDefEqProofs (maxDischargeDepth := 4) only [go_sem]⟩
        refine ⟨.ret, fr4, G, ?_, .inl ⟨rfl, least, r4, r5, .inl ⟨rfl, wj, fun c' w => ?_⟩⟩⟩
        · rw [dl64_1, x_cont1 e1, x_block, x_cont1 p9, x_assoc, x_cont1 p10, x_cont1 eL, x_seq, e4]
          rfl
        · rcases I.low hgr w with ⟨h, _⟩ | ⟨u, c, h, h'⟩
          · exact absurd h I.ns
          · exact Int.le_trans (hmin u c h) h'
      · obtain ⟨y, hy, hyk⟩ := way_to wj
        have hyl := shp_len (hg.sh y (List.mem_of_getElem? hy))
        have hst0 : (mGet j st).getD 0 = 0 := by unfold Stl at hjs; omega
        have hne : ¬ (j : Int) = (s : Int) := by omega
        obtain ⟨fr4, e4, F4, m12, m13⟩ : ∃ fr4 : PT, ex cx D 0 64 81 (.seq (.region 17 g64_17 false) (.cond (.tmp 67) (.seq (.region 18 g64_18 false) .ret) .skip)) fr3 G = some (.normal, fr4, G) ∧ DFr fr4 a s ∧ fr4.get 12 = iv j ∧ fr4.get 13 = iv least := by
          simp -implicitDefEqProofs (maxDischargeDepth := 4) only [go_sem, F3.f1, l12, l13, hne]
          refine ⟨_, rfl, F3.of fun t ht => ?_, by simp -implicitDefEqProofs (maxDischargeDepth := 4) only [go_sem, l12], by simp -implicitDefEqProofs (maxDischargeDepth := 4) only [go_sem, l13]⟩
          rcases ht with rfl | rfl | rfl | rfl | rfl <;> simp -implicitDefEqProofs (maxDischargeDepth := 4) only [go_sem]
        have B1 := B.op (mDel j op)
        obtain ⟨fr5, e5, F5, n12, n13⟩ : ∃ fr5 : PT, ex cx D 0 64 81 (.region 19 g64_19 false) fr4 G = some (.normal, fr5, G.set 1 (.mapo (mEs (mDel j op)))) ∧ DFr fr5 a s ∧ fr5.get 12 = iv j ∧ fr5.get 13 = iv least := by
          simp -implicitDefEqProofs (maxDischargeDepth := 4) only [go_sem, F4.f9, m12, B.g1, B.g3, Nat.not_lt_zero]
          refine ⟨_, rfl, F4.of fun t ht => ?_, by simp -implicitDefEqProofs (maxDischargeDepth := 4) only [go_sem, m12], by simp -implicitDefEqProofs (maxDischargeDepth := 4) only [go_sem, m13]⟩
          rcases ht with rfl | rfl | rfl | rfl | rfl <;> simp -implicitDefEqProofs (maxDischargeDepth := 4) only [go_sem]
        generalize hG1 : G.set 1 (.mapo (mEs (mDel j op))) = G1 at e5 B1
        have hl1 : G1.length = m := by rw [← hG1, List.length_set, hG]
        obtain ⟨fr6, e6, F6, o12, o13⟩ : ∃ fr6 : PT, ex cx D 0 64 81 (.seq (.region 20 g64_20 false) (.cond (.tmp 74) (.exit 1) .skip)) fr5 G1 = some (.normal, fr6, G1) ∧ DFr fr6 a s ∧ fr6.get 12 = iv j ∧ fr6.get 13 = iv least := by
          simp -implicitDefEqProofs (maxDischargeDepth := 4) only [go_sem, F5.f10, n12, B1.g2, B1.g4, hst0]
          refine ⟨_, rfl, F5.of fun t ht => ?_, by simp -implicitDefEqProofs (maxDischargeDepth := 4) only [go_sem, n12], by simp -implicitDefEqProofs (maxDischargeDepth := 4) only [go_sem, n13]⟩
          rcases ht with rfl | rfl | rfl | rfl | rfl <;> simp -implicitDefEqProofs (maxDischargeDepth := 4) only [go_sem]
        have B2 := B1.st (mSet j 1 st)
        obtain ⟨fr7, e7, F7, q12, q13⟩ : ∃ fr7 : PT, ex cx D 0 64 81 (.region 21 g64_21 false) fr6 G1 = some (.normal, fr7, G1.set 2 (.mapo (mEs (mSet j 1 st)))) ∧ DFr fr7 a s ∧ fr7.get 12 = iv j ∧ fr7.get 13 = iv least := by
          simp -implicitDefEqProofs (maxDischargeDepth := 4) only [go_sem, F6.f10, o12, B1.g2, B1.g4, Nat.not_lt_zero]
          refine ⟨_, rfl, F6.of fun t ht => ?_, by simp -implicitDefEqProofs (maxDischargeDepth := 4) only [go_sem, o12], by simp -implicitDefEqProofs (maxDischargeDepth := 4) only [go_sem, o13]⟩
          rcases ht with rfl | rfl | rfl | rfl | rfl <;> simp -implicitDefEqProofs (maxDischargeDepth := 4) only [go_sem]
        generalize hG2 : G1.set 2 (.mapo (mEs (mSet j 1 st))) = G2 at e7 B2
        have hl2 : G2.length = m := by rw [← hG2, List.length_set, hl1]
        obtain ⟨G3, hcall, B3, hl3⟩ := reach_call hns hy (Nat.le_trans hyl (by decide)) B2 least
        obtain ⟨fr8, e8, F8⟩ : ∃ fr8 : PT, ex cx D 0 64 81 (.region 22 g64_22 false) fr7 G2 = some (.normal, fr8, G3) ∧ DFr fr8 a s := by
          simp -implicitDefEqProofs (maxDischargeDepth := 4) only [go_sem, F7.f11, q12, q13, hcall]
          refine ⟨_, rfl, F7.of fun t ht => ?_⟩
          rcases ht with rfl | rfl | rfl | rfl | rfl <;> simp -implicitDefEqProofs (maxDischargeDepth := 4) only [go_sem]
        have hu := uns_settle st hjs ns.length hjn
        have hK : (2000000 : Int) * ((ns.length : Int) + 1 - (uns ns.length st : Int)) + 2000000 = 2000000 * ((ns.length : Int) + 1 - (uns ns.length (mSet j 1 st) : Int)) := by omega
        have I1 := (I.settle hgr hj2 hjs' hmin).mono (K' := 2000000 * ((ns.length : Int) + 1 - (uns ns.length (mSet j 1 st) : Int))) (fun _ _ h => h) (by omega)
        have I2 := I1.reach hgr (u := j) (so := least) (by omega) (by omega) (Kle hg.le _) (fun x hx => by
            obtain ⟨q, hq, _⟩ := hgr.to j x hx
            rw [hq, Int.toNat_natCast]
            exact .snoc wj (by rw [← hq]; exact hx)) (fun v hv => by
            by_cases e : v = j
            · rw [if_pos e]; exact Int.le_refl _
            · rw [if_neg e]
              exact I.m v ((stl_set_ne (by omega) st).1 hv) j least hj2)
        rw [oR_act hy hyk] at I2
        have I3 := I2.mono (A' := Src s (mSet j 1 st) (fun u => if u = j then least else dd u)) (fun u du h => by
            rcases h with h | ⟨h1, h2⟩
            · exact .inl (.inl h)
            · dsimp only at h2
              by_cases e : u = j
              · rw [if_pos e] at h2
                exact .inr ⟨e, h2⟩
              · rw [if_neg e] at h2
                exact .inl (.inr ⟨(stl_set_ne (by omega) st).1 h1, h2⟩)) (Int.le_refl _)
        have eb : ex cx D 0 64 81 (.block 1 (.seq (.region 9 g64_9 false) (.seq (.seq (.region 10 g64_10 false) (.block 2 (.loop l64_0))) (.seq (.seq (.region 17 g64_17 false) (.cond (.tmp 67) (.seq (.region 18 g64_18 false) .ret) .skip)) (.seq (.region 19 g64_19 false) (.seq (.seq (.region 20 g64_20 false) (.cond (.tmp 74) (.exit 1) .skip)) (.seq (.region 21 g64_21 false) (.region 22 g64_22 false)))))))) fr1 G = some (.normal, fr8, G3) := by
          rw [x_block, x_cont1 p9, x_assoc, x_cont1 p10, x_cont1 eL, x_cont1 e4, x_cont1 e5, x_cont1 e6, x_cont1 e7, e8]
          rfl
        rw [dl64_1, x_cont1 e1, eb, xbind_some, contR_normal, hG]
        refine trim_I (P := fun z => ∃ e fr' G', z = some (e, fr', G') ∧ Fin64 (oR ns) s e fr') (I := fun G => B64 G a _ _) (fun h hh => h.trim hns.sl hm) B3 [0, 1, 9, 10, 11] (by omega) (fun t ht => ?_) fun fr' G' hG' hB' hf hk' => ?_
        · simp only [List.mem_cons, List.not_mem_nil, or_false] at ht
          rcases ht with rfl | rfl | rfl | rfl | rfl
          · rw [F8.f0, kill_Sl hns.sl]
          · rw [F8.f1]; rfl
          · rw [F8.f9, kill_ptr (by omega)]
          · rw [F8.f10, kill_ptr (by omega)]
          · rw [F8.f11, kill_fn126 hm]
        · exact loop64_1 hns hg hs hm d fr' G' _ _ _ (by omega) hG' ⟨by rw [hf 0 (by simp), F8.f0], by rw [hf 1 (by simp), F8.f1], by rw [hf 9 (by simp), F8.f9], by rw [hf 10 (by simp), F8.f10], by rw [hf 11 (by simp), F8.f11]⟩ hB' I3
end Go.Abs.Tab

/- Order: order.Back, called. -/
set_option linter.unusedVariables false
namespace Go.Abs.Tab
open Go.Gr
def BackAt (ns : List Nd) (i : Int) (r : Int × Bool) : Prop := if (ordC ns).2 = 0 ∧ actN ns i = true then Back (oR ns) i.toNat r else r = (0, false)
theorem BackAt.uniq {ns : List Nd} {i : Int} {r r' : Int × Bool} (h : BackAt ns i r) (h' : BackAt ns i r') : r = r' := by
  unfold BackAt at h h'
  split at h
  · rename_i hc
    rw [if_pos hc] at h'
    exact h.uniq h'
  · rename_i hc
    rw [if_neg hc] at h'
    rw [h, h']
theorem actN_some {ns : List Nd} {i : Int} (h : actN ns i = true) : ∃ (s : Nat) (x : Nd), i = s ∧ ns[s]? = some x ∧ actK x.kind = true := by
  unfold actN at h
  rcases atN_cases (ns := ns) i with ⟨ha, _⟩ | ⟨s, x, h1, _, hx, ha⟩
  · rw [ha] at h; cases h
  · rw [ha] at h; exact ⟨s, x, h1, hx, h⟩
theorem back_call {ns : List Nd} {a : AV} (hns : NsOk ns a) (i : Int) : ∃ r H', callB cx D 0 64 [a, iv i] [] = some (jmpV r, H') ∧ BackAt ns i r := by
  have h67 := ord_ok hns
  have h125 := acts_ok hns i
  have ea : elP false 1 a 0 = some a := elP_Sl hns.sl
  unfold errV at h67
  by_cases h0 : (ordC ns).2 = 0
  rotate_left
  · refine ⟨(0, false), ?_⟩
    unfold BackAt
    rw [if_neg (fun h => h0 h.1)]
    generalize (ordC ns).1 = w at h67
    generalize (ordC ns).2 = v at h67 h0
    rw [c64]
    simp -implicitDefEqProofs (maxDischargeDepth := 4) only [go_sem, hns.sl.shr, hns.sl.notOwn, hns.sl.drp, hns.sl.fitA, hns.sl.shut1, h67, h0, Nat.zero_le, Nat.le_refl, Nat.not_lt_zero]
    exact ⟨_, rfl⟩
  · cases hact : actN ns i with
    | false =>
      rw [hact] at h125
      refine ⟨(0, false), ?_⟩
      unfold BackAt
      rw [if_neg (fun h => by rw [hact] at h; cases h.2)]
      rw [h0] at h67
      generalize (ordC ns).1 = w at h67
      rw [c64]
      simp -implicitDefEqProofs (maxDischargeDepth := 4) only [go_sem, hns.sl.shr, hns.sl.notOwn, hns.sl.drp, hns.sl.fitA, hns.sl.shut1, ea, h67, h125, u_not, Nat.zero_le, Nat.le_refl, Nat.not_lt_zero]
      exact ⟨_, rfl⟩
    | true =>
      rw [hact] at h125
      rw [h0] at h67
      generalize (ordC ns).1 = w at h67
      obtain ⟨s, x, rfl, hx, hk⟩ := actN_some hact
      have hg := ord_good h0
      have hs := (List.getElem?_eq_some_iff.1 hx).1
      have hxl := shp_len (hg.sh x (List.mem_of_getElem? hx))
      have hB : ∀ r, BackAt ns s r ↔ Back (oR ns) s r := fun r => by unfold BackAt; rw [if_pos ⟨h0, hact⟩, Int.toNat_natCast]
      have B0 : B64 [.cells 1 212 [a], .mapo (mEs []), .mapo (mEs []), .cells 1 213 [.mp 1], .cells 1 213 [.mp 2]] a [] [] := ⟨rfl, rfl, rfl, rfl, rfl⟩
      obtain ⟨G1, hcall, B1, hl1⟩ := reach_call hns hx (Nat.le_trans hxl (by decide)) B0 0
      have hnil : mEs [] = [] := rfl
      rw [hnil] at hcall
      obtain ⟨fr0, e0, k0, k1⟩ : ∃ fr0 : PT, ex cx D 0 64 81 (.region 0 g64_0 false) ((PT.nil.set 0 (drp a)).set 1 (drp (iv s))) [] = some (.normal, fr0, []) ∧ fr0.get 0 = a ∧ fr0.get 1 = iv s := by
        simp -implicitDefEqProofs (maxDischargeDepth := 4) only [go_sem, hns.sl.drp]
        exact ⟨_, rfl, by simp -implicitDefEqProofs (maxDischargeDepth := 4) only [go_sem, hns.sl.drp], by simp -implicitDefEqProofs (maxDischargeDepth := 4) only [go_sem]⟩
      obtain ⟨fr1, e1, F1⟩ : ∃ fr1 : PT, ex cx D 0 64 81 (.seq (.region 1 g64_1 false) (.seq (.seq (.region 2 g64_2 false) (.seq (.region 3 g64_3 false) (.cond (.tmp 30) (.seq (.region 4 g64_4 false) .ret) .skip))) (.seq (.region 5 g64_5 false) (.seq (.region 6 g64_6 false) (.region 7 g64_7 false))))) fr0 [] = some (.normal, fr1, G1) ∧ DFr fr1 a s := by
        simp -implicitDefEqProofs (maxDischargeDepth := 4) only [go_sem, k0, k1, hns.sl.shr, hns.sl.notOwn, hns.sl.drp, hns.sl.fitA, hns.sl.shut1, ea, h67, h125, u_not, hcall, Nat.zero_le, Nat.le_refl, Nat.not_lt_zero]
        exact ⟨_, rfl, by simp -implicitDefEqProofs (maxDischargeDepth := 4) only [go_sem, k0], by simp -implicitDefEqProofs (maxDischargeDepth := 4) only [go_sem, k1], by simp -implicitDefEqProofs (maxDischargeDepth := 4) only [go_sem], by simp -implicitDefEqProofs (maxDischargeDepth := 4) only [go_sem], by simp -implicitDefEqProofs (maxDischargeDepth := 4) only [go_sem]⟩
      have I0 : Dij ns.length (oR ns) s 2000000 (fun _ _ => False) [] [] (fun _ => 0) :=
        ⟨keys_nil, fun v c h => (by cases h), fun u du h => h.elim, fun u h => absurd rfl h, fun h => h rfl⟩
      have hgr := oR_gph hg
      have I1 := I0.reach hgr (u := s) (so := 0) (Int.le_refl _) (by decide) (by decide) (fun y hy => by
        obtain ⟨q, hq, _⟩ := hgr.to s y hy
        rw [hq, Int.toNat_natCast, Int.zero_add]
        exact .one (by rw [← hq]; exact hy)) (fun v hv => absurd rfl hv)
      rw [oR_act hx hk] at I1
      have I2 := I1.mono (K' := 2000000 * ((ns.length : Int) + 1 - (uns ns.length [] : Int))) (A' := Src s [] (fun _ => 0)) (fun u du h => by
        rcases h with h | ⟨h1, h2⟩
        · exact .inr h
        · exact absurd rfl h1) (by rw [uns_nil]; omega)
      have h5 : 5 ≤ G1.length := by have := lt_of_get B1.g4; omega
      obtain ⟨e, fr2, G2, e2, hfin⟩ := loop64_1 hns hg hs h5 (uns ns.length []) fr1 G1 _ [] (fun _ => 0) (Nat.le_refl _) rfl F1 B1 I2
      obtain ⟨_, _, p1, r⟩ := x_split e1
      obtain ⟨_, _, p2, r⟩ := x_split r
      obtain ⟨_, _, p5, r⟩ := x_split r
      obtain ⟨_, _, p6, p7⟩ := x_split r
      have hlab : ∀ Z, ex cx D 0 64 81 (.seq (.label 0) Z) fr1 G1 = ex cx D 0 64 81 Z fr1 G1 := fun Z => x_cont1 rfl
      rcases hfin with ⟨rfl, c, r4, r5, hb⟩ | ⟨rfl, hb⟩
      · refine ⟨(c, true), G2, ?_, (hB _).2 hb⟩
        rw [c64, x_cont1 e0, x_scope, x_cont1 p1, x_cont1 p2, x_cont1 p5, x_cont1 p6, x_cont1 p7, hlab]
        rw [x_seq, x_block, x_loop, e2]
        simp -implicitDefEqProofs (maxDischargeDepth := 4) only [go_sem, r4, r5]
      · refine ⟨(0, false), G2, ?_, (hB _).2 hb⟩
        have e3 : ex cx D 0 64 81 (.block 0 (.loop l64_1)) fr1 G1 = some (.normal, fr2, G2) := by rw [x_block, x_loop, e2]; rfl
        rw [c64, x_cont1 e0, x_scope, x_cont1 p1, x_cont1 p2, x_cont1 p5, x_cont1 p6, x_cont1 p7, hlab, x_cont1 e3]
        simp -implicitDefEqProofs (maxDischargeDepth := 4) only [go_sem]
theorem back_ok {ns : List Nd} {a : AV} (hns : NsOk ns a) (i : Int) : ∃ r, pcall D 64 [a, iv i] = some (jmpV r) ∧ BackAt ns i r := by
  obtain ⟨r, H', h, hb⟩ := back_call hns i
  refine ⟨r, ?_, hb⟩
  rw [pcall_eq (v := jmpV r) (H' := H') (by rw [List.map_cons, List.map_cons, List.map_nil, hns.sl.cl2]; exact h)]
  rfl
end Go.Abs.Tab

/- Order: the document's Back: values made less, round by round, come to the least way back (a plain law). -/
set_option linter.unusedVariables false
namespace Go.Abs.Tab
open Go.Gr
def gi (ls : List Int) (v : Nat) : Int := ls.getD v 0
structure Snd (n : Nat) (R : Nat → List (Int × Int)) (s : Nat) (K : Int) (ls : List Int) : Prop where
  len : ls.length = n
  val : ∀ v, v < n → gi ls v = -1 ∨ (1 ≤ gi ls v ∧ gi ls v ≤ K ∧ Way R s v (gi ls v))
theorem Snd.mono {n : Nat} {R : Nat → List (Int × Int)} {s : Nat} {K K' : Int} {ls : List Int} (h : Snd n R s K ls) (hK : K ≤ K') : Snd n R s K' ls :=
  ⟨h.len, fun v hv => by
    rcases h.val v hv with h1 | ⟨h1, h2, h3⟩
    · exact .inl h1
    · exact .inr ⟨h1, Int.le_trans h2 hK, h3⟩⟩
def Dn (ls ls' : List Int) : Prop := ∀ v, 0 ≤ gi ls v → 0 ≤ gi ls' v ∧ gi ls' v ≤ gi ls v
theorem Dn.refl (ls : List Int) : Dn ls ls := fun v h => ⟨h, Int.le_refl _⟩
theorem Dn.trans {a b c : List Int} (h : Dn a b) (k : Dn b c) : Dn a c := fun v hv => by
  have h1 := h v hv
  have h2 := k v h1.1
  exact ⟨h2.1, Int.le_trans h2.2 h1.2⟩
/-! ways are cut short -/
end Go.Abs.Tab

/- Order: the document's Back, walked. -/
set_option linter.unusedVariables false
namespace Go.Abs.Tab
open Go.Gr
def bk3 (ls : List Int) : Hp := [.cells 1 3 (ls.map iv)]
@[go_sem] theorem bk3_get (ls : List Int) : cellsB (bk3 ls)[0]? = some (1, 3, ls.map iv) := nr rfl
@[go_sem] theorem bk3_set (ls : List Int) (i : Nat) (x : Int) : (bk3 ls).set 0 (.cells 1 3 ((ls.map iv).set i (iv x))) = bk3 (ls.set i x) := by
  unfold bk3
  rw [List.map_set]
  rfl
structure PFr (fr : PT) (a : AV) (s n : Nat) : Prop where
  f0 : fr.get 0 = a
  f1 : fr.get 1 = iv s
  f8 : fr.get 8 = .sl 0 1 0 n n
theorem PFr.of {fr fr' : PT} {a : AV} {s n : Nat} (F : PFr fr a s n) (h : ∀ t, (t = 0 ∨ t = 1 ∨ t = 8) → fr'.get t = fr.get t) : PFr fr' a s n :=
  ⟨by rw [h 0 (by simp), F.f0], by rw [h 1 (by simp), F.f1], by rw [h 8 (by simp), F.f8]⟩
structure KFr65 (fr : PT) (a : AV) (s n r i : Nat) (so : Int) : Prop extends PFr fr a s n where
  f10 : fr.get 10 = iv r
  f11 : fr.get 11 = iv i
  f12 : fr.get 12 = iv so
theorem KFr65.of {fr fr' : PT} {a : AV} {s n r i : Nat} {so : Int} (F : KFr65 fr a s n r i so) (h : ∀ t, (t = 0 ∨ t = 1 ∨ t = 8 ∨ t = 10 ∨ t = 11 ∨ t = 12) → fr'.get t = fr.get t) : KFr65 fr' a s n r i so :=
  ⟨F.toPFr.of fun t ht => h t (by rcases ht with rfl | rfl | rfl <;> simp), by rw [h 10 (by simp), F.f10], by rw [h 11 (by simp), F.f11], by rw [h 12 (by simp), F.f12]⟩
end Go.Abs.Tab

/- Order: the document's Back is the least way back. -/
set_option linter.unusedVariables false
namespace Go.Abs.Tab
open Go.Gr
structure NFr65 (fr : PT) (a : AV) (s n r i : Nat) : Prop extends PFr fr a s n where
  f10 : fr.get 10 = iv r
  f11 : fr.get 11 = iv i
theorem NFr65.of {fr fr' : PT} {a : AV} {s n r i : Nat} (F : NFr65 fr a s n r i) (h : ∀ t, (t = 0 ∨ t = 1 ∨ t = 8 ∨ t = 10 ∨ t = 11) → fr'.get t = fr.get t) : NFr65 fr' a s n r i :=
  ⟨F.toPFr.of fun t ht => h t (by rcases ht with rfl | rfl | rfl <;> simp), by rw [h 10 (by simp), F.f10], by rw [h 11 (by simp), F.f11]⟩
end Go.Abs.Tab

/- Order: works. -/
set_option linter.unusedVariables false
namespace Go.Abs.Tab
open Go.Gr
theorem build66_w3 (k p : Int) (l : List AV) : abuild cx.T 66 [(0, iv k), (1, iv p), (4, .vec 2 .exact l)] = some (.agg [iv k, iv p, bv false, iv 0, iv 0, .vec 2 .exact l]) := nr (by kernel_rfl)
theorem build66_w5 (k p : Int) (c : Bool) (t s : Int) (l : List AV) : abuild cx.T 66 [(0, iv k), (1, iv p), (2, bv c), (3, .agg [iv t, iv s]), (4, .vec 2 .exact l)] = some (.agg [iv k, iv p, bv c, iv t, iv s, .vec 2 .exact l]) := nr (by kernel_rfl)
theorem build66_w2 (k : Int) (c : Bool) (l : List AV) : abuild cx.T 66 [(0, iv k), (2, bv c), (4, .vec 2 .exact l)] = some (.agg [iv k, iv 0, bv c, iv 0, iv 0, .vec 2 .exact l]) := nr (by kernel_rfl)
theorem build63_0 (a : Int) : abuild cx.T 63 [(0, iv a)] = some (.agg [iv a, iv 0]) := nr (by kernel_rfl)
theorem word_ok (k p t s : Int) : pcall D 71 [iv k, iv p, iv t, iv s] = some (.agg [iv k, iv p, bv false, iv 0, iv 0, .vec 2 .exact [.agg [iv t, iv s]]]) := by
  have h : ∃ H', callB cx D 0 71 [iv k, iv p, iv t, iv s] [] = some (.agg [iv k, iv p, bv false, iv 0, iv 0, .vec 2 .exact [.agg [iv t, iv s]]], H') := by
    rw [c71]
    simp -implicitDefEqProofs (maxDischargeDepth := 4) only [go_sem, build63', build66_w3, Nat.zero_le, Nat.le_refl, Nat.not_lt_zero]
    exact ⟨_, rfl⟩
  obtain ⟨H', h⟩ := h
  rw [pcall_eq (vs := [iv k, iv p, iv t, iv s]) (v := .agg [iv k, iv p, bv false, iv 0, iv 0, .vec 2 .exact [.agg [iv t, iv s]]]) (H' := H') h]
  rfl
def oA : List Nd := [mkNd 1 0 false 0 0 [(1, 0)], mkNd 2 1 false 0 0 [(0, 2)]]
def oB : List Nd := [mkNd 1 0 false 0 0 [(1, 0)], mkNd 2 1 false 0 0 [(0, 1)]]
def oC : List Nd := [mkNd 1 3 true 1 0 [(1, 0)], niN 0 0 false 0 0]
theorem pair_ok {x y : Nd} (hx : NdOk x) (hy : NdOk y) : NsOk [x, y] (.vec 6 .exact [nodeV x, nodeV y]) := by
  refine ⟨.inl rfl, fun z hz => ?_, show 2 < 2 ^ 30 by decide⟩
  simp only [List.mem_cons, List.not_mem_nil, or_false] at hz
  rcases hz with rfl | rfl
  · exact hx
  · exact hy
theorem way_pos {n : Nat} {R : Nat → List (Int × Int)} {M : Int} (G : Gph n R M) {s v : Nat} {c : Int} (w : Way R s v c) : 1 ≤ c := by
  induction w with
  | one h => exact G.lo _ _ h
  | snoc _ h ih =>
    have := G.lo _ _ h
    dsimp only at this
    omega
theorem way_none {R : Nat → List (Int × Int)} {s v : Nat} {c : Int} (h : R s = []) (w : Way R s v c) : False := by
  induction w with
  | one hr => rw [h] at hr; cases hr
  | snoc _ _ ih => exact ih
theorem way_two {n : Nat} {R : Nat → List (Int × Int)} {M : Int} (G : Gph n R M) {s : Nat} (h0 : ∀ r, ((s : Int), r) ∉ R s) {c : Int} (w : Way R s s c) : 2 ≤ c := by
  cases w with
  | one h => exact absurd h (h0 _)
  | snoc w h =>
    have h1 := way_pos G w
    have h2 := G.lo _ _ h
    dsimp only at h2
    omega
abbrev vA : AV := .vec 6 .exact [.agg [iv 1, iv 0, bv false, iv 0, iv 0, .vec 2 .exact [.agg [iv 1, iv 0]]], .agg [iv 2, iv 1, bv false, iv 0, iv 0, .vec 2 .exact [.agg [iv 0, iv 2]]]]
abbrev vB : AV := .vec 6 .exact [.agg [iv 1, iv 0, bv false, iv 0, iv 0, .vec 2 .exact [.agg [iv 1, iv 0]]], .agg [iv 2, iv 1, bv false, iv 0, iv 0, .vec 2 .exact [.agg [iv 0, iv 1]]]]
abbrev vC : AV := .vec 6 .exact [.agg [iv 1, iv 3, bv true, iv 1, iv 0, .vec 2 .exact [.agg [iv 1, iv 0]]], .agg [iv 0, iv 0, bv false, iv 0, iv 0, .lit (.slice none 0 0)]]
abbrev vD : AV := .vec 6 .exact [.agg [iv 1, iv 0, bv true, iv 0, iv 0, .vec 2 .exact [.agg [iv 1, iv 0]]], .agg [iv 0, iv 0, bv false, iv 0, iv 0, .lit (.slice none 0 0)]]
theorem backA : BackAt oA 0 (2, true) := by
  have h0 : (ordC oA).2 = 0 := by decide
  have hg := oR_gph (ord_good h0)
  unfold BackAt
  rw [if_pos ⟨h0, by decide⟩]
  refine .inl ⟨rfl, ?_, fun c' w => way_two hg (s := 0) (fun r hr => ?_) w⟩
  · exact Way.snoc (s := 0) (v := 0) (u := 1) (c := 1) (r := 1) (.one (show (((1 : Nat) : Int), (1 : Int)) ∈ oR oA 0 by decide)) (show (((0 : Nat) : Int), (1 : Int)) ∈ oR oA 1 by decide)
  · rw [show oR oA 0 = [(1, 1)] by decide] at hr
    simp at hr
theorem backB : BackAt oB 0 (0, false) := by
  unfold BackAt
  rw [if_neg (fun h => absurd h.1 (by decide))]
theorem backC : BackAt oC 0 (0, false) := by
  unfold BackAt
  rw [if_pos ⟨by decide, by decide⟩]
  exact .inr ⟨rfl, fun c' w => way_none (show oR oC 0 = [] by decide) w⟩
theorem back_is {ns : List Nd} {a : AV} (hns : NsOk ns a) {i : Int} {r : Int × Bool} (h : BackAt ns i r) : pcall D 64 [a, iv i] = some (jmpV r) := by
  obtain ⟨r', h1, h2⟩ := back_ok hns i
  rw [h.uniq h2]
  exact h1
theorem oworks_call : ∃ H', callB cx D 0 66 [] [] = some (bv true, H') := by
  have kA := pair_ok (mkNd_ok 1 0 false 0 0 [(1, 0)]) (mkNd_ok 2 1 false 0 0 [(0, 2)])
  have kB := pair_ok (mkNd_ok 1 0 false 0 0 [(1, 0)]) (mkNd_ok 2 1 false 0 0 [(0, 1)])
  have kC := pair_ok (mkNd_ok 1 3 true 1 0 [(1, 0)]) (niN_ok 0 0 false 0 0)
  have kD := pair_ok (mkNd_ok 1 0 true 0 0 [(1, 0)]) (niN_ok 0 0 false 0 0)
  have a1 : pcall D 67 [vA] = some (.tup [iv (-1), iv 0]) := by
    have := ord_ok kA
    rw [show ordC [mkNd 1 0 false 0 0 [(1, 0)], mkNd 2 1 false 0 0 [(0, 2)]] = (-1, 0) by decide] at this
    exact this
  have a2 : pcall D 67 [vB] = some (.tup [iv 1, iv 10]) := by
    have := ord_ok kB
    rw [show ordC [mkNd 1 0 false 0 0 [(1, 0)], mkNd 2 1 false 0 0 [(0, 1)]] = (1, 10) by decide] at this
    exact this
  have a3 : pcall D 67 [vC] = some (.tup [iv (-1), iv 0]) := by
    have := ord_ok kC
    rw [show ordC [mkNd 1 3 true 1 0 [(1, 0)], niN 0 0 false 0 0] = (-1, 0) by decide] at this
    exact this
  have a4 : pcall D 67 [vD] = some (.tup [iv 0, iv 10]) := by
    have := ord_ok kD
    rw [show ordC [mkNd 1 0 true 0 0 [(1, 0)], niN 0 0 false 0 0] = (0, 10) by decide] at this
    exact this
  have b1 : pcall D 64 [vA, iv 0] = some (.tup [iv 2, bv true]) := back_is kA (i := 0) backA
  have b2 : pcall D 64 [vB, iv 0] = some (.tup [iv 0, bv false]) := back_is kB (i := 0) backB
  have b3 : pcall D 64 [vC, iv 0] = some (.tup [iv 0, bv false]) := back_is kC (i := 0) backC
  rw [c66]
  simp -implicitDefEqProofs (maxDischargeDepth := 4) only [go_sem, word_ok, build63_0, build66_w5, build66_w2, build66_0, a1, a2, a3, a4, b1, b2, b3, u_not]
  exact ⟨_, rfl⟩
theorem oworks_ok : pcall D 66 [] = some (bv true) := by
  obtain ⟨H', h⟩ := oworks_call
  rw [pcall_eq (vs := []) (v := bv true) (H' := H') (by rw [List.map_nil]; exact h)]
  rfl
end Go.Abs.Tab

/- Order: the document's Back, called; the statement OrderBacks. -/
set_option linter.unusedVariables false
namespace Go.Abs.Tab
open Go.Gr
end Go.Abs.Tab

/- Slices of bytes, read. -/
set_option linter.unusedVariables false
namespace Go.Abs.Tab
open Go.Gr
abbrev byV (n : Int) : AV := .lit (.int .u8 n)
theorem tmod_nat {b : Int} (h : 0 ≤ b) {l : Nat} (hl : ¬ l = 0) : ∃ k : Nat, b.tmod l = k ∧ k < l := by
  have h1 := Int.tmod_nonneg (a := b) l h
  have h2 := Int.tmod_lt_of_pos b (show (0 : Int) < l by omega)
  exact ⟨(b.tmod l).toNat, by omega, by omega⟩
theorem bytes_read {d : Nat} {v : AV} (h : Rdd Go.Proofs.Try.prog (d + 6) 22 [v]) : ∃ ws : List Int, Sl 1 v (ws.map byV) ∧ ∀ b ∈ ws, 0 ≤ b ∧ b ≤ 255 := by
  have hc : Go.Proofs.Try.prog.cellsOf 5 = 1 := by kernel_rfl
  obtain ⟨a, ls, e, _, e1, e2⟩ := rd_slice Go.Proofs.Try.underlying22 h
  cases e
  rw [hc] at e2
  obtain ⟨ws, q1, q2, q3⟩ := map_mem (f := wrapAs Go.Proofs.Try.prog 5) (g := byV) (Q := fun b => 0 ≤ b ∧ b ≤ 255) (ls := ls) fun y hy => by
    obtain ⟨n, w, rfl⟩ := rd_int Go.Proofs.Try.underlying5 (e1 y hy)
    exact ⟨n, by rw [wrap_int Go.Proofs.Try.underlying5]; rfl, Go.bounds_u8 w⟩
  rw [q3] at e2
  exact ⟨ws, e2, q2⟩
end Go.Abs.Tab

/- Order: a step along a way, in a table whose priorities rise (a plain law). -/
set_option linter.unusedVariables false
namespace Go.Abs.Tab
open Go.Gr
theorem wlk_add2 {ns : List Nd} (hs : Small ns) {d : Int} (hd : 0 ≤ d ∧ d ≤ 1000000000) : ∀ {k : Nat} {n o m o' : Int}, wlk ns k n o = (m, o') → 0 ≤ m → 0 ≤ o → o + 1000 * k ≤ 800000 → wlk ns k n (o + d) = (m, o' + d) ∧ 0 ≤ o' ∧ o' ≤ 800000
  | 0, n, o, m, o', h, hm, h0, h1 => by simp only [wlk, Prod.mk.injEq] at h; omega
  | k + 1, n, o, m, o', h, hm, h0, h1 => by
    rcases atN_cases (ns := ns) n with ⟨ha, _⟩ | ⟨q, x, rfl, hq, hx, ha⟩
    · rw [wlk_out ha] at h; cases h; omega
    · by_cases h5 : x.kind = 5
      · by_cases hl : x.es.length = 1
        · obtain ⟨e, he⟩ := List.length_eq_one_iff.1 hl
          have hse := hs x (List.mem_of_getElem? hx) e (by rw [he]; simp)
          rw [wlk_one ha h5 he] at h ⊢
          rw [wrapK_i64 (by omega) (by omega)] at h ⊢
          have := wlk_add2 hs hd h hm (by omega) (by omega)
          rw [show o + d + e.2 = o + e.2 + d by omega]
          exact this
        · rw [wlk_bad ha h5 hl] at h; cases h; omega
      · rw [wlk_ne ha h5] at h ⊢; cases h
        exact ⟨rfl, by omega, by omega⟩
theorem act_one {x : Nd} (h : shp x = true) (hk : actK x.kind = true) : 1 ≤ x.es.length := by
  unfold shp at h
  simp only [Bool.and_eq_true, Bool.not_eq_true', Bool.or_eq_false_iff, decide_eq_false_iff_not] at h
  have h1 := h.1.1.1.1.2.1
  unfold actK at hk
  simp only [Bool.and_eq_true, decide_eq_true_eq] at hk
  have hf : (frm x.kind).1 = 1 := by
    unfold frm
    split
    · omega
    · repeat' split
      all_goals rfl
  rw [hf] at h1
  omega
theorem oE_wide {x : Nd} (h : shp x = true) : ∀ e ∈ oE x, 0 ≤ e.2 ∧ e.2 ≤ 1000 := by
  unfold shp at h
  simp only [Bool.and_eq_true, Bool.not_eq_true'] at h
  have h1 := h.2
  rw [List.any_eq_false] at h1
  intro e he
  have h2 := h1 e (by unfold edg; unfold oE at he; cases hc : x.chan <;> rw [hc] at he <;> simpa using he)
  have : inB e.2 1000 = true := by simpa [wide] using h2
  exact inB_iff.1 this
structure Hop (ns : List Nd) (q : Nat) (x : Nd) (e : Int × Int) (o : Int) (m : Nat) (y : Nd) (o' : Int) : Prop where
  w : wlk ns ns.length e.1 (o + e.2) = ((m : Int), o + o')
  hy : ns[m]? = some y
  pr : 0 ≤ y.prio ∧ y.prio ≤ 1000
  of : 0 ≤ o' ∧ o' ≤ 800000
  up : y.kind = 0 ∨ (actK y.kind = true ∧ 1 ≤ y.prio + o' - x.prio ∧ rise1 ns x.prio e = some ((m : Int), y.prio + o' - x.prio))
theorem hop_ex {ns : List Nd} (hg : OrdOk ns) {q : Nat} {x : Nd} (hx : ns[q]? = some x) (hk : actK x.kind = true) {e : Int × Int} (he : e ∈ oE x) {o : Int} (ho : 0 ≤ o ∧ o ≤ 1000000000) : ∃ m y o', Hop ns q x e o m y o' := by
  have hmx := List.mem_of_getElem? hx
  have hcl := opn_all (hg.cl x hmx) e he
  have hw2 := oE_wide (hg.sh x hmx) e he
  have hsm : Small ns := fun z hz => shp_small (hg.sh z hz)
  have hle := hg.le
  obtain ⟨i, hi⟩ : ∃ i : Nat, e.1 = i := ⟨e.1.toNat, by omega⟩
  obtain ⟨m, o', y, h1, h2, h3⟩ := good_walk1 hg.toGood (i := i) (by omega) e.2
  have h4 := wlk_add2 hsm (d := o) ho h1 (by omega) hw2.1 (by omega)
  have hmy := List.mem_of_getElem? h2
  have p1 := shp_prio (hg.sh x hmx)
  have p2 := shp_prio (hg.sh y hmy)
  refine ⟨m, y, o', ?_, h2, p2, h4.2, ?_⟩
  · rw [hi, show o + e.2 = e.2 + o by omega, h4.1, Int.add_comm]
  · by_cases h0 : y.kind = 0
    · exact .inl h0
    · right
      have hk5 : inB y.kind 5 = true := by
        have := hg.sh y hmy
        unfold shp at this
        simp only [Bool.and_eq_true] at this
        exact this.1.1.1.1.1
      rw [inB_iff] at hk5
      have hky : actK y.kind = true := by unfold actK; simp; omega
      have hml : m < ns.length := (List.getElem?_eq_some_iff.1 h2).1
      have ha : atN ns m = some y := by unfold atN; rw [if_neg (by omega), Int.toNat_natCast]; exact h2
      have hr : rise1 ns x.prio e = some ((m : Int), y.prio + o' - x.prio) := by
        unfold rise1
        rw [hi, h1]
        dsimp only
        rw [ha]
        dsimp only
        rw [if_pos hky, wrapK_i64 (n := y.prio + o') (by omega) (by omega), wrapK_i64 (by omega) (by omega)]
      have hb := hg.up x hmx
      unfold oBad at hb
      rw [hk, Bool.true_and, List.any_eq_false] at hb
      have := hb ((m : Int), y.prio + o' - x.prio) (List.mem_filterMap.2 ⟨e, he, hr⟩)
      simp only [lowR, decide_eq_true_eq] at this
      exact ⟨hky, by omega, hr⟩
/-- where a way is, and how far it has risen -/
def At (R : Nat → List (Int × Int)) (s : Nat) (i : Nat) (q : Nat) (c : Int) : Prop := (i = 0 ∧ q = s ∧ c = 0) ∨ (Way R s q c ∧ (i : Int) ≤ c)
theorem At.hop {ns : List Nd} {s i q : Nat} {c : Int} (h : At (oR ns) s i q c) {x : Nd} (hx : ns[q]? = some x) (hk : actK x.kind = true) {e : Int × Int} (he : e ∈ x.es) {m : Nat} {r : Int} (hr : rise1 ns x.prio e = some ((m : Int), r)) (h1 : 1 ≤ r) : Way (oR ns) s m (c + r) ∧ ((i + 1 : Nat) : Int) ≤ c + r := by
  have hm : ((m : Int), r) ∈ oR ns q := by
    rw [oR_act hx hk]
    exact List.mem_filterMap.2 ⟨e, he, hr⟩
  rcases h with ⟨rfl, rfl, rfl⟩ | ⟨w, hc⟩
  · rw [Int.zero_add]
    exact ⟨.one hm, by omega⟩
  · exact ⟨.snoc w hm, by omega⟩
theorem ordC_one {ns : List Nd} (h : (ordC ns).2 = 0) : (ordC ns).1 = -1 := by
  have key : ∀ (l : List Nd) (i : Nat), (oChk ns i l).2 = 0 → (oChk ns i l).1 = -1 := by
    intro l
    induction l with
    | nil => intro i _; rfl
    | cons x l ih =>
      intro i h
      simp only [oChk] at h ⊢
      split
      · rename_i hb
        rw [if_pos hb] at h
        exact absurd h (show (10 : Int) ≠ 0 by decide)
      · rename_i hb
        rw [if_neg hb] at h
        exact ih _ h
  unfold ordC at h ⊢
  split
  · rename_i h0
    rw [if_pos h0] at h
    exact key _ _ h
  · rename_i h0
    rw [if_neg h0] at h
    exact absurd h h0
theorem chkA_at {N : Int} : ∀ (l : List Nd) (i : Nat) (r : Int × Int), chkA N i l = some r → -1 ≤ r.1 ∧ r.1 < (i : Int) + l.length
  | [], i, r, h => by cases h
  | x :: l, i, r, h => by
    unfold chkA at h
    rw [List.length_cons]
    split at h
    · cases h; dsimp only; omega
    · split at h
      · cases h; dsimp only; omega
      · have := chkA_at l (i + 1) r h
        omega
theorem chkB_at {ns : List Nd} : ∀ (k i : Nat), -1 ≤ (chkB ns k i).1 ∧ ((chkB ns k i).1 < (i : Int) + k)
  | 0, i => by show (-1 : Int) ≤ -1 ∧ (-1 : Int) < _; omega
  | k + 1, i => by
    unfold chkB
    split
    · dsimp only; omega
    · have := chkB_at (ns := ns) k (i + 1)
      omega
theorem oChk_at {ns : List Nd} : ∀ (l : List Nd) (i : Nat), -1 ≤ (oChk ns i l).1 ∧ (oChk ns i l).1 < (i : Int) + l.length
  | [], i => by show (-1 : Int) ≤ -1 ∧ (-1 : Int) < _; rw [List.length_nil]; omega
  | x :: l, i => by
    unfold oChk
    rw [List.length_cons]
    split
    · dsimp only; omega
    · have := oChk_at (ns := ns) l (i + 1)
      omega
theorem ordC_at (ns : List Nd) : -1 ≤ (ordC ns).1 ∧ (ordC ns).1 < (ns.length : Int) := by
  unfold ordC
  split
  · have := oChk_at (ns := ns) ns 0
    omega
  · unfold chk
    split
    · dsimp only; omega
    · split
      · dsimp only; omega
      · cases h : chkA ns.length 0 ns with
        | none =>
          have := chkB_at (ns := ns) ns.length 0
          dsimp only
          omega
        | some r =>
          have := chkA_at ns 0 r h
          dsimp only
          omega
end Go.Abs.Tab

/- Order: the statement OrderRises, a round of its loop. -/
set_option linter.unusedVariables false
namespace Go.Abs.Tab
open Go.Gr
structure RiFr (fr : PT) (a w : AV) (s : Nat) (least first : Int) (bk : Int × Bool) (i : Nat) : Prop where
  f0 : fr.get 0 = a
  f2 : fr.get 2 = w
  f9 : fr.get 9 = .ptr 0 0 0
  f10 : fr.get 10 = iv s
  f11 : fr.get 11 = iv least
  f12 : fr.get 12 = iv first
  f13 : fr.get 13 = iv bk.1
  f14 : fr.get 14 = bv bk.2
  f15 : fr.get 15 = iv i
theorem RiFr.of {fr fr' : PT} {a w : AV} {s : Nat} {least first : Int} {bk : Int × Bool} {i : Nat} (F : RiFr fr a w s least first bk i) (h : ∀ t, (t = 0 ∨ t = 2 ∨ t = 9 ∨ t = 10 ∨ t = 11 ∨ t = 12 ∨ t = 13 ∨ t = 14 ∨ t = 15) → fr'.get t = fr.get t) : RiFr fr' a w s least first bk i :=
  ⟨by rw [h 0 (by simp), F.f0], by rw [h 2 (by simp), F.f2], by rw [h 9 (by simp), F.f9], by rw [h 10 (by simp), F.f10], by rw [h 11 (by simp), F.f11], by rw [h 12 (by simp), F.f12], by rw [h 13 (by simp), F.f13], by rw [h 14 (by simp), F.f14], by rw [h 15 (by simp), F.f15]⟩
abbrev tyC (r : Int × Int) : ABlock := .cells 2 61 [tyV r]
theorem x_if_true {cx : Cx} {h : Hd} {ro fn nt : Nat} {fr : PT} {H : Hp} {t : Tmp} {a b : Code} (e : fr.get t = bv true) : ex cx h ro fn nt (.cond (.tmp t) a b) fr H = ex cx h ro fn nt a fr H := by
  rw [x_cond, ev_tmp, e, shr_lit, condX_true]
/-- the node is there, and has edges; it is copied -/
theorem ri_a {ns : List Nd} {a w : AV} (hns : NsOk ns a) {s : Nat} {least first : Int} {bk : Int × Bool} {i q : Nat} {o : Int} {x : Nd} (hx : ns[q]? = some x) (hl : 1 ≤ x.es.length) {fr : PT} (F : RiFr fr a w s least first bk i) :
    ∃ fr', ex cx D 0 17 249 (.seq (.seq (.region 20 g17_19 false) (.cond (.tmp 117) (.seq (.region 21 g17_20 false) .ret) .skip)) (.region 22 g17_21 false)) fr [tyC ((q : Int), o)] = some (.normal, fr', [tyC ((q : Int), o), .cells 6 66 [nodeV x]]) ∧ RiFr fr' a w s least first bk i ∧ fr'.get 16 = .ptr 1 0 0 := by
  have hs : Sl 2 x.nx (x.es.map ed) := hns.ok x (List.mem_of_getElem? hx)
  have hat := hns.at hx
  have hq := (List.getElem?_eq_some_iff.1 hx).1
  have h1 : ¬ (q : Int) < 0 := by omega
  have h2 : ¬ (ns.length : Int) ≤ (q : Int) := by omega
  have h3 : ¬ (x.es.length : Int) = 0 := by omega
  simp -implicitDefEqProofs (maxDischargeDepth := 4) only [go_sem, F.f0, F.f9, hns.sl.shr, hns.sl.notOwn, alen_sl hns.sl, List.length_map, hat, hs.shr, hs.notOwn, hs.drp, hs.fitA, alen_sl hs, h1, h2, h3, Nat.zero_le, Nat.le_refl, Nat.not_lt_zero]
  exact ⟨_, rfl, F.of fun t ht => by rcases ht with rfl | rfl | rfl | rfl | rfl | rfl | rfl | rfl | rfl <;> simp -implicitDefEqProofs (maxDischargeDepth := 4) only [go_sem], by simp -implicitDefEqProofs (maxDischargeDepth := 4) only [go_sem]⟩
/-- the payload is above -/
theorem ri_b {ns : List Nd} {a w : AV} (hns : NsOk ns a) {s : Nat} {least first : Int} {bk : Int × Bool} {i q : Nat} {o : Int} {x : Nd} (hx : ns[q]? = some x) (hp : 0 ≤ x.prio ∧ x.prio ≤ 1000) (ho : 0 ≤ o ∧ o ≤ 1000000000) (hps : x.chan = true → 0 ≤ x.ps ∧ x.ps ≤ 1000)
    (hh : x.chan = true → ∃ m y o', Hop ns q x (x.pt, x.ps) o m y o') {fr : PT} (F : RiFr fr a w s least first bk i) (f16 : fr.get 16 = .ptr 1 0 0) :
    ∃ fr' G', ex cx D 0 17 249 (.seq (.region 23 g17_22 false) (.cond (.tmp 124) (.seq (.region 24 g17_23 false) (.seq (.region 25 g17_24 true) (.cond (.tmp 172) (.seq (.region 26 g17_25 false) .ret) .skip))) .skip)) fr [tyC ((q : Int), o), .cells 6 66 [nodeV x]] = some (.normal, fr', G') ∧ RiFr fr' a w s least first bk i ∧ fr'.get 16 = .ptr 1 0 0 ∧
      G'[0]? = some (tyC ((q : Int), o)) ∧ G'[1]? = some (.cells 6 66 [nodeV x]) := by
  have hs : Sl 2 x.nx (x.es.map ed) := hns.ok x (List.mem_of_getElem? hx)
  cases hc : x.chan with
  | false =>
    simp -implicitDefEqProofs (maxDischargeDepth := 4) only [go_sem, f16, hc]
    exact ⟨_, _, rfl, F.of fun t ht => by rcases ht with rfl | rfl | rfl | rfl | rfl | rfl | rfl | rfl | rfl <;> simp -implicitDefEqProofs (maxDischargeDepth := 4) only [go_sem], by simp -implicitDefEqProofs (maxDischargeDepth := 4) only [go_sem, f16], rfl, rfl⟩
  | true =>
    obtain ⟨m, y, o', H⟩ := hh hc
    have hps' := hps hc
    have sy : Sl 2 y.nx (y.es.map ed) := hns.ok y (List.mem_of_getElem? H.hy)
    have haty := hns.at H.hy
    have hm := (List.getElem?_eq_some_iff.1 H.hy).1
    have r51 := res51_ok hns x.pt (o + x.ps)
    rw [H.w] at r51
    have w1 : wrapK .i64 (o + x.ps) = o + x.ps := wrapK_i64 (by omega) (by omega)
    have hpr := H.pr
    have hof := H.of
    have w2 : wrapK .i64 (y.prio + (o + o')) = y.prio + (o + o') := wrapK_i64 (by omega) (by omega)
    have w3 : wrapK .i64 (x.prio + o) = x.prio + o := wrapK_i64 (by omega) (by omega)
    have h1 : ¬ (m : Int) < 0 := by omega
    have h2 : ¬ (ns.length : Int) ≤ (m : Int) := by omega
    obtain ⟨fr0, p0, F0, j16, j124⟩ : ∃ fr1 : PT, ex cx D 0 17 249 (.region 23 g17_22 false) fr [tyC ((q : Int), o), .cells 6 66 [nodeV x]] = some (.normal, fr1, [tyC ((q : Int), o), .cells 6 66 [nodeV x]]) ∧ RiFr fr1 a w s least first bk i ∧ fr1.get 16 = .ptr 1 0 0 ∧ fr1.get 124 = bv true := by
      simp -implicitDefEqProofs (maxDischargeDepth := 4) only [go_sem, f16, hc]
      exact ⟨_, rfl, F.of fun t ht => by rcases ht with rfl | rfl | rfl | rfl | rfl | rfl | rfl | rfl | rfl <;> simp -implicitDefEqProofs (maxDischargeDepth := 4) only [go_sem], by simp -implicitDefEqProofs (maxDischargeDepth := 4) only [go_sem, f16], by simp -implicitDefEqProofs (maxDischargeDepth := 4) only [go_sem]⟩
    obtain ⟨fr1, p1, F1, k16, k17⟩ : ∃ fr1 : PT, ex cx D 0 17 249 (.region 24 g17_23 false) fr0 [tyC ((q : Int), o), .cells 6 66 [nodeV x]] = some (.normal, fr1, [tyC ((q : Int), o), .cells 6 66 [nodeV x], tyC ((m : Int), o + o')]) ∧ RiFr fr1 a w s least first bk i ∧ fr1.get 16 = .ptr 1 0 0 ∧ fr1.get 17 = .ptr 2 0 0 := by
      simp -implicitDefEqProofs (maxDischargeDepth := 4) only [go_sem, F0.f0, F0.f9, j16, hns.sl.shr, hns.sl.notOwn, hns.sl.shut1, w1, build61, r51, Nat.zero_le, Nat.le_refl, Nat.not_lt_zero]
      exact ⟨_, rfl, F0.of fun t ht => by rcases ht with rfl | rfl | rfl | rfl | rfl | rfl | rfl | rfl | rfl <;> simp -implicitDefEqProofs (maxDischargeDepth := 4) only [go_sem], by simp -implicitDefEqProofs (maxDischargeDepth := 4) only [go_sem, j16], by simp -implicitDefEqProofs (maxDischargeDepth := 4) only [go_sem]⟩
    obtain ⟨fr2, p2, F2, l16⟩ : ∃ fr2 : PT, ex cx D 0 17 249 (.seq (.region 25 g17_24 true) (.cond (.tmp 172) (.seq (.region 26 g17_25 false) .ret) .skip)) fr1 [tyC ((q : Int), o), .cells 6 66 [nodeV x], tyC ((m : Int), o + o')] = some (.normal, fr2, [tyC ((q : Int), o), .cells 6 66 [nodeV x], tyC ((m : Int), o + o')]) ∧ RiFr fr2 a w s least first bk i ∧ fr2.get 16 = .ptr 1 0 0 := by
      rcases H.up with h0 | ⟨hk, hr, _⟩
      · simp -implicitDefEqProofs (maxDischargeDepth := 4) only [go_sem, F1.f0, F1.f9, k16, k17, hns.sl.shr, hns.sl.notOwn, hns.sl.lenRd, alen_sl hns.sl, List.length_map, haty, sy.shr, h1, h2, h0, w2, w3, nbeq, Nat.zero_le, Nat.le_refl, Nat.not_lt_zero]
        exact ⟨_, rfl, F1.of fun t ht => by rcases ht with rfl | rfl | rfl | rfl | rfl | rfl | rfl | rfl | rfl <;> simp -implicitDefEqProofs (maxDischargeDepth := 4) only [go_sem], by simp -implicitDefEqProofs (maxDischargeDepth := 4) only [go_sem, k16]⟩
      · have hk0 : ¬ y.kind = 0 := by intro h; unfold actK at hk; rw [h] at hk; exact absurd hk (by decide)
        have h3 : ¬ y.prio + (o + o') ≤ x.prio + o := by omega
        simp -implicitDefEqProofs (maxDischargeDepth := 4) only [go_sem, F1.f0, F1.f9, k16, k17, hns.sl.shr, hns.sl.notOwn, hns.sl.lenRd, alen_sl hns.sl, List.length_map, haty, sy.shr, h1, h2, h3, hk0, w2, w3, nbeq, Nat.zero_le, Nat.le_refl, Nat.not_lt_zero]
        exact ⟨_, rfl, F1.of fun t ht => by rcases ht with rfl | rfl | rfl | rfl | rfl | rfl | rfl | rfl | rfl <;> simp -implicitDefEqProofs (maxDischargeDepth := 4) only [go_sem], by simp -implicitDefEqProofs (maxDischargeDepth := 4) only [go_sem, k16]⟩
    refine ⟨fr2, [tyC ((q : Int), o), .cells 6 66 [nodeV x], tyC ((m : Int), o + o')], ?_, F2, l16, rfl, rfl⟩
    rw [x_cont1 p0, x_if_true j124, x_cont1 p1, p2]
/-- an edge is picked, and gone along -/
theorem ri_c {ns : List Nd} {a w : AV} (hns : NsOk ns a) {ws : List Int} (hw : Sl 1 w (ws.map byV)) {s : Nat} {least first : Int} {bk : Int × Bool} {i q : Nat} {o : Int} {x : Nd} (hx : ns[q]? = some x) (hl : 1 ≤ x.es.length) (hi : i < ws.length) (hb : 0 ≤ ws.getD i 0 ∧ ws.getD i 0 ≤ 255) {j : Nat} (hj : (ws.getD i 0).tmod (x.es.length : Int) = j) (hjl : j < x.es.length)
    (ho : 0 ≤ o ∧ o ≤ 1000000000) (hes : 0 ≤ (x.es.getD j (0, 0)).2 ∧ (x.es.getD j (0, 0)).2 ≤ 1000) {m : Nat} {y : Nd} {o' : Int} (H : Hop ns q x (x.es.getD j (0, 0)) o m y o') {G : Hp} (g0 : G[0]? = some (tyC ((q : Int), o))) (g1 : G[1]? = some (.cells 6 66 [nodeV x]))
    {fr : PT} (F : RiFr fr a w s least first bk i) (f16 : fr.get 16 = .ptr 1 0 0) :
    ∃ fr' G', ex cx D 0 17 249 (.seq (.region 27 g17_26 true) (.seq (.region 28 g17_27 false) (.seq (.region 29 g17_28 false) (.cond (.tmp 205) (.seq (.region 30 g17_29 false) .ret) .skip)))) fr G = some (.normal, fr', G') ∧ RiFr fr' a w s least first bk i ∧ G'[0]? = some (tyC ((m : Int), o + o')) := by
  have hs : Sl 2 x.nx (x.es.map ed) := hns.ok x (List.mem_of_getElem? hx)
  obtain ⟨n, hn⟩ : ∃ n, G.length = n := ⟨_, rfl⟩
  have h2n : 2 ≤ n := by have := lt_of_get g1; omega
  have h1n : ¬ 1 = n := by omega
  have q0 : ∀ L, (G ++ L)[0]? = some (tyC ((q : Int), o)) := fun L => by rw [hp_get_l (lt_of_get g0), g0]
  have q1 : ∀ L, (G ++ L)[1]? = some (.cells 6 66 [nodeV x]) := fun L => by rw [hp_get_l (lt_of_get g1), g1]
  have hatw : aindexAddr cx.T 22 w (iv i) = some (.vp (byV (ws.getD i 0)) 0) := by
    rw [aindexAddr_sl hw sl22 (by rw [List.length_map]; exact hi) rfl, getD_map byV ws 0 hi]
  have e1 := at_ed hs hjl
  generalize ws.getD i 0 = b at *
  generalize x.es.getD j (0, 0) = e at *
  have wb : wrapK .i64 b = b := wrapK_i64 (by omega) (by omega)
  have hl0 : ¬ (x.es.length : Int) = 0 := by omega
  have ws1 : wrapK .i64 (o + e.2) = o + e.2 := wrapK_i64 (by omega) (by omega)
  have r51 := res51_ok hns e.1 (o + e.2)
  rw [H.w] at r51
  have hm := (List.getElem?_eq_some_iff.1 H.hy).1
  have h1 : ¬ (m : Int) < 0 := by omega
  have h2 : ¬ (ns.length : Int) ≤ (m : Int) := by omega
  obtain ⟨fr1, p1, F1, k18⟩ : ∃ fr1 : PT, ex cx D 0 17 249 (.region 27 g17_26 true) fr G = some (.normal, fr1, G ++ [.cells 2 63 [ed e]]) ∧ RiFr fr1 a w s least first bk i ∧ fr1.get 18 = .ptr n 0 0 := by
    simp -implicitDefEqProofs (maxDischargeDepth := 4) only [go_sem, hn, h1n, F.f2, F.f15, f16, q0, q1, g0, g1, hs.shr, hs.notOwn, hs.lenRd, alen_sl hs, List.length_map, hw.shr, hw.notOwn, hatw, wb, hl0, hj, e1, layB_res, nbeq, Nat.zero_le, Nat.le_refl, Nat.not_lt_zero]
    exact ⟨_, rfl, F.of fun t ht => by rcases ht with rfl | rfl | rfl | rfl | rfl | rfl | rfl | rfl | rfl <;> simp -implicitDefEqProofs (maxDischargeDepth := 4) only [go_sem], by simp -implicitDefEqProofs (maxDischargeDepth := 4) only [go_sem]⟩
  obtain ⟨fr2, p2, F2⟩ : ∃ fr2 : PT, ex cx D 0 17 249 (.region 28 g17_27 false) fr1 (G ++ [.cells 2 63 [ed e]]) = some (.normal, fr2, G.set 0 (tyC ((m : Int), o + o')) ++ [.cells 2 63 [ed e]]) ∧ RiFr fr2 a w s least first bk i := by
    have hset : (G ++ [ABlock.cells 2 63 [ed e]]).set 0 (tyC ((m : Int), o + o')) = G.set 0 (tyC ((m : Int), o + o')) ++ [.cells 2 63 [ed e]] := hp_set_l (lt_of_get g0)
    simp -implicitDefEqProofs (maxDischargeDepth := 4) only [go_sem, hn, F1.f0, F1.f9, k18, q0, g0, hns.sl.shr, hns.sl.notOwn, hns.sl.shut1, ws1, build61, r51, List.set_cons_zero, hset, Nat.zero_le, Nat.le_refl, Nat.not_lt_zero]
    exact ⟨_, rfl, F1.of fun t ht => by rcases ht with rfl | rfl | rfl | rfl | rfl | rfl | rfl | rfl | rfl <;> simp -implicitDefEqProofs (maxDischargeDepth := 4) only [go_sem]⟩
  have z0 : (G.set 0 (tyC ((m : Int), o + o')) ++ [ABlock.cells 2 63 [ed e]])[0]? = some (tyC ((m : Int), o + o')) := by
    rw [hp_get_l (by rw [List.length_set]; exact lt_of_get g0), hp_one (lt_of_get g0)]
  obtain ⟨fr3, p3, F3⟩ : ∃ fr3 : PT, ex cx D 0 17 249 (.seq (.region 29 g17_28 false) (.cond (.tmp 205) (.seq (.region 30 g17_29 false) .ret) .skip)) fr2 (G.set 0 (tyC ((m : Int), o + o')) ++ [.cells 2 63 [ed e]]) = some (.normal, fr3, G.set 0 (tyC ((m : Int), o + o')) ++ [.cells 2 63 [ed e]]) ∧ RiFr fr3 a w s least first bk i := by
    simp -implicitDefEqProofs (maxDischargeDepth := 4) only [go_sem, F2.f0, F2.f9, z0, hns.sl.shr, hns.sl.notOwn, alen_sl hns.sl, List.length_map, h1, h2]
    exact ⟨_, rfl, F2.of fun t ht => by rcases ht with rfl | rfl | rfl | rfl | rfl | rfl | rfl | rfl | rfl <;> simp -implicitDefEqProofs (maxDischargeDepth := 4) only [go_sem]⟩
  exact ⟨fr3, _, by rw [x_cont1 p1, x_cont1 p2, p3], F3, z0⟩
/-- an end: the way is at its end -/
theorem ri_e {ns : List Nd} {a w : AV} (hns : NsOk ns a) {s : Nat} {least first : Int} {bk : Int × Bool} {i m : Nat} {o : Int} {y : Nd} (hy : ns[m]? = some y) {G : Hp} (g0 : G[0]? = some (tyC ((m : Int), o))) {fr : PT} (F : RiFr fr a w s least first bk i) :
    ∃ fr', (y.kind = 0 → ex cx D 0 17 249 (.seq (.region 31 g17_30 false) (.cond (.tmp 212) (.seq (.region 32 g17_31 false) .ret) .skip)) fr G = some (.ret, fr', G) ∧ fr'.get 6 = bv true) ∧
      (y.kind ≠ 0 → ex cx D 0 17 249 (.seq (.region 31 g17_30 false) (.cond (.tmp 212) (.seq (.region 32 g17_31 false) .ret) .skip)) fr G = some (.normal, fr', G) ∧ RiFr fr' a w s least first bk i) := by
  have sy : Sl 2 y.nx (y.es.map ed) := hns.ok y (List.mem_of_getElem? hy)
  have hat := hns.at hy
  by_cases h0 : y.kind = 0
  · have e : ∃ fr', ex cx D 0 17 249 (.seq (.region 31 g17_30 false) (.cond (.tmp 212) (.seq (.region 32 g17_31 false) .ret) .skip)) fr G = some (.ret, fr', G) ∧ fr'.get 6 = bv true := by
      simp -implicitDefEqProofs (maxDischargeDepth := 4) only [go_sem, F.f0, F.f9, g0, hns.sl.shr, hns.sl.notOwn, hat, h0]
      exact ⟨_, rfl, by simp -implicitDefEqProofs (maxDischargeDepth := 4) only [go_sem]⟩
    obtain ⟨fr', e⟩ := e
    exact ⟨fr', fun _ => e, fun h => absurd h0 h⟩
  · have e : ∃ fr', ex cx D 0 17 249 (.seq (.region 31 g17_30 false) (.cond (.tmp 212) (.seq (.region 32 g17_31 false) .ret) .skip)) fr G = some (.normal, fr', G) ∧ RiFr fr' a w s least first bk i := by
      simp -implicitDefEqProofs (maxDischargeDepth := 4) only [go_sem, F.f0, F.f9, g0, hns.sl.shr, hns.sl.notOwn, hat, h0]
      exact ⟨_, rfl, F.of fun t ht => by rcases ht with rfl | rfl | rfl | rfl | rfl | rfl | rfl | rfl | rfl <;> simp -implicitDefEqProofs (maxDischargeDepth := 4) only [go_sem]⟩
    obtain ⟨fr', e⟩ := e
    exact ⟨fr', fun h => absurd h h0, fun _ => e⟩
/-- it has risen -/
theorem ri_d {ns : List Nd} {a w : AV} (hns : NsOk ns a) {s : Nat} {least first : Int} {bk : Int × Bool} {i m : Nat} {o : Int} {y : Nd} (hy : ns[m]? = some y) (hp : 0 ≤ y.prio ∧ y.prio ≤ 1000) (ho : 0 ≤ o ∧ o ≤ 1000000000) (hi : i < 60) (hf : 0 ≤ first ∧ first ≤ 1000000000)
    (hl : least < y.prio + o) (h1 : first + ((i + 1 : Nat) : Int) ≤ y.prio + o) (hback : m = s → bk.2 = true ∧ bk.1 ≤ y.prio + o - first) {G : Hp} (g0 : G[0]? = some (tyC ((m : Int), o))) {fr : PT} (F : RiFr fr a w s least first bk i) :
    ∃ fr', ex cx D 0 17 249 (.seq (.region 33 g17_32 true) (.seq (.seq (.region 34 g17_33 false) (.cond (.tmp 232) (.seq (.region 35 g17_34 false) .ret) .skip)) (.seq (.region 36 g17_35 false) (.seq (.region 37 g17_36 false) (.cond (.tmp 248) (.seq (.region 38 g17_37 false) .ret) .skip))))) fr G = some (.normal, fr', G) ∧ RiFr fr' a w s (y.prio + o) first bk i := by
  have sy : Sl 2 y.nx (y.es.map ed) := hns.ok y (List.mem_of_getElem? hy)
  have hat := hns.at hy
  have w1 : wrapK .i64 (y.prio + o) = y.prio + o := wrapK_i64 (by omega) (by omega)
  have w2 : wrapK .i64 (first + (i : Int)) = first + (i : Int) := wrapK_i64 (by omega) (by omega)
  have w3 : wrapK .i64 (first + (i : Int) + 1) = first + (i : Int) + 1 := wrapK_i64 (by omega) (by omega)
  have w4 : wrapK .i64 (y.prio + o - first) = y.prio + o - first := wrapK_i64 (by omega) (by omega)
  have c1 : ¬ y.prio + o ≤ least := by omega
  have c2 : ¬ y.prio + o < first + (i : Int) + 1 := by omega
  by_cases hms : m = s
  · obtain ⟨b1, b2⟩ := hback hms
    have c3 : ¬ y.prio + o - first < bk.1 := by omega
    subst hms
    obtain ⟨bk1, bk2⟩ := bk
    dsimp only at b1 b2 c3
    subst b1
    simp -implicitDefEqProofs (maxDischargeDepth := 4) only [go_sem, F.f0, F.f9, F.f10, F.f11, F.f12, F.f13, F.f14, F.f15, g0, hns.sl.shr, hns.sl.notOwn, hat, w1, w2, w3, w4, c1, c2, c3, nbeq]
    exact ⟨_, rfl, ⟨by simp -implicitDefEqProofs (maxDischargeDepth := 4) only [go_sem, F.f0], by simp -implicitDefEqProofs (maxDischargeDepth := 4) only [go_sem, F.f2], by simp -implicitDefEqProofs (maxDischargeDepth := 4) only [go_sem, F.f9], by simp -implicitDefEqProofs (maxDischargeDepth := 4) only [go_sem, F.f10], by simp -implicitDefEqProofs (maxDischargeDepth := 4) only [go_sem], by simp -implicitDefEqProofs (maxDischargeDepth := 4) only [go_sem, F.f12], by simp -implicitDefEqProofs (maxDischargeDepth := 4) only [go_sem, F.f13], by simp -implicitDefEqProofs (maxDischargeDepth := 4) only [go_sem, F.f14], by simp -implicitDefEqProofs (maxDischargeDepth := 4) only [go_sem, F.f15]⟩⟩
  · have hne : ¬ (m : Int) = (s : Int) := by omega
    simp -implicitDefEqProofs (maxDischargeDepth := 4) only [go_sem, F.f0, F.f9, F.f10, F.f11, F.f12, F.f13, F.f14, F.f15, g0, hns.sl.shr, hns.sl.notOwn, hat, w1, w2, w3, w4, c1, c2, hne, nbeq]
    exact ⟨_, rfl, ⟨by simp -implicitDefEqProofs (maxDischargeDepth := 4) only [go_sem, F.f0], by simp -implicitDefEqProofs (maxDischargeDepth := 4) only [go_sem, F.f2], by simp -implicitDefEqProofs (maxDischargeDepth := 4) only [go_sem, F.f9], by simp -implicitDefEqProofs (maxDischargeDepth := 4) only [go_sem, F.f10], by simp -implicitDefEqProofs (maxDischargeDepth := 4) only [go_sem], by simp -implicitDefEqProofs (maxDischargeDepth := 4) only [go_sem, F.f12], by simp -implicitDefEqProofs (maxDischargeDepth := 4) only [go_sem, F.f13], by simp -implicitDefEqProofs (maxDischargeDepth := 4) only [go_sem, F.f14], by simp -implicitDefEqProofs (maxDischargeDepth := 4) only [go_sem, F.f15]⟩⟩
end Go.Abs.Tab

/- Order: the statement OrderRises. -/
set_option linter.unusedVariables false
namespace Go.Abs.Tab
open Go.Gr
def Ends17 (z : Option Res) : Prop := ∃ (fr' : PT) (G' : Hp), z = some (.exit 0, fr', G') ∨ (z = some (.ret, fr', G') ∧ fr'.get 6 = bv true)
theorem ri_arith {o o' : Int} {i : Nat} (h : o ≤ 800000 * ((i : Int) + 1)) (h' : o' ≤ 800000) : o + o' ≤ 800000 * (((i + 1 : Nat) : Int) + 1) := by omega
theorem ri_big {o : Int} {i : Nat} (h : o ≤ 800000 * ((i : Int) + 1)) (hi : i ≤ 60) : o ≤ 1000000000 := by omega
theorem rises_loop {ns : List Nd} {a w : AV} (hns : NsOk ns a) (hg : OrdOk ns) {ws : List Int} (hw : Sl 1 w (ws.map byV)) (hb : ∀ b ∈ ws, 0 ≤ b ∧ b ≤ 255) {s : Nat} {first : Int} (hf : 0 ≤ first ∧ first ≤ 1000000000) {bk : Int × Bool} (hbk : Back (oR ns) s bk) :
    ∀ (d i : Nat) (fr : PT) (q : Nat) (x : Nd) (o c : Int), 60 - i = d → i ≤ 60 → ns[q]? = some x → actK x.kind = true → 0 ≤ o → o ≤ 800000 * ((i : Int) + 1) → x.prio + o = first + c → At (oR ns) s i q c → RiFr fr a w s (first + c) first bk i → Ends17 (D.loop 0 17 249 l17_0 fr [tyC ((q : Int), o)])
  | 0, i, fr, q, x, o, c, hd, hi, hx, hk, ho, ho2, hnow, hat, F => by
    have h60 : ¬ ((i : Int) < 60) := by omega
    by_cases hlt : (i : Int) < (ws.length : Int)
    · rw [dl17_0]
      simp -implicitDefEqProofs (maxDischargeDepth := 4) only [go_sem, F.f2, F.f15, hw.shr, hw.notOwn, alen_sl hw, List.length_map, hlt, h60]
      exact ⟨_, _, .inl rfl⟩
    · rw [dl17_0]
      simp -implicitDefEqProofs (maxDischargeDepth := 4) only [go_sem, F.f2, F.f15, hw.shr, hw.notOwn, alen_sl hw, List.length_map, hlt, h60]
      exact ⟨_, _, .inl rfl⟩
  | d + 1, i, fr, q, x, o, c, hd, hi, hx, hk, ho, ho2, hnow, hat, F => by
    by_cases hlt : (i : Int) < (ws.length : Int)
    rotate_left
    · rw [dl17_0]
      simp -implicitDefEqProofs (maxDischargeDepth := 4) only [go_sem, F.f2, F.f15, hw.shr, hw.notOwn, alen_sl hw, List.length_map, hlt]
      exact ⟨_, _, .inl rfl⟩
    have h60 : ((i : Int) < 60) := by omega
    have hil : i < ws.length := by omega
    have w3 := wrap_succ (show i ≤ 1000 by omega)
    have hbig := ri_big ho2 hi
    have hmx := List.mem_of_getElem? hx
    have hshx := hg.sh x hmx
    have hone := act_one hshx hk
    have hpx := shp_prio hshx
    obtain ⟨fr1, e1, F1⟩ : ∃ fr1 : PT, ex cx D 0 17 249 (.seq (.region 18 g17_18 false) (.cond (.tmp 95) .skip (.exit 0))) fr [tyC ((q : Int), o)] = some (.normal, fr1, [tyC ((q : Int), o)]) ∧ RiFr fr1 a w s (first + c) first bk i := by
      simp -implicitDefEqProofs (maxDischargeDepth := 4) only [go_sem, F.f2, F.f15, hw.shr, hw.notOwn, alen_sl hw, List.length_map, hlt, h60]
      exact ⟨_, rfl, F.of fun t ht => by rcases ht with rfl | rfl | rfl | rfl | rfl | rfl | rfl | rfl | rfl <;> simp -implicitDefEqProofs (maxDischargeDepth := 4) only [go_sem]⟩
    obtain ⟨fr2, e2, F2, f16⟩ := ri_a hns hx hone (o := o) F1
    obtain ⟨_, _, e2a, e2b⟩ := x_split e2
    have hpay : x.chan = true → (x.pt, x.ps) ∈ oE x := fun hc => by
      unfold oE
      rw [if_pos hc]
      exact List.mem_append_right _ (List.mem_singleton.2 rfl)
    obtain ⟨fr3, G3, e3, F3, k16, g0, g1⟩ := ri_b hns hx hpx ⟨ho, hbig⟩ (fun hc => oE_wide hshx _ (hpay hc)) (fun hc => hop_ex hg hx hk (hpay hc) ⟨ho, hbig⟩) F2 f16
    have hbi : 0 ≤ ws.getD i 0 ∧ ws.getD i 0 ≤ 255 := by
      rw [List.getD_eq_getElem?_getD, List.getElem?_eq_getElem hil, Option.getD_some]
      exact hb _ (List.getElem_mem _)
    obtain ⟨j, hj, hjl⟩ := tmod_nat hbi.1 (show ¬ x.es.length = 0 by omega)
    have hmem : x.es.getD j (0, 0) ∈ x.es := by
      rw [List.getD_eq_getElem?_getD, List.getElem?_eq_getElem hjl]
      exact List.getElem_mem hjl
    have hmem2 : x.es.getD j (0, 0) ∈ oE x := by unfold oE; exact List.mem_append_left _ hmem
    obtain ⟨m, y, o', H⟩ := hop_ex hg hx hk hmem2 ⟨ho, hbig⟩
    obtain ⟨fr4, G4, e4, F4, z0⟩ := ri_c hns hw hx hone hil hbi hj hjl ⟨ho, hbig⟩ (oE_wide hshx _ hmem2) H g0 g1 F3 k16
    obtain ⟨fr5, e5, e6⟩ := ri_e hns H.hy z0 F4
    obtain ⟨_, _, q1, t⟩ := x_split e4
    obtain ⟨_, _, q2, t⟩ := x_split t
    rcases H.up with hy0 | ⟨hky, hup, hr⟩
    · obtain ⟨e5, r6⟩ := e5 hy0
      rw [dl17_0, x_cont1 e1, x_seq, x_block, x_cont1 e2a, x_cont1 e2b, x_cont1 e3, x_cont1 q1, x_cont1 q2, x_cont1 t, x_seq, e5]
      exact ⟨fr5, _, .inr ⟨rfl, r6⟩⟩
    · have hy0 : y.kind ≠ 0 := by intro h; unfold actK at hky; rw [h] at hky; exact absurd hky (by decide)
      obtain ⟨e6, F5⟩ := e6 hy0
      obtain ⟨wy, hc1⟩ := hat.hop hx hk hmem hr hup
      have hoo := ri_arith ho2 H.of.2
      have hof := H.of
      have ho' : 0 ≤ o + o' := by omega
      have hbig' : o + o' ≤ 1000000000 := ri_big hoo (by omega)
      have hnow' : y.prio + (o + o') = first + (c + (y.prio + o' - x.prio)) := by omega
      obtain ⟨fr6, e7, F6⟩ := ri_d hns H.hy H.pr ⟨ho', hbig'⟩ (show i < 60 by omega) hf (by omega) (by omega) (fun hms => by
        rw [hms] at wy
        rcases hbk with ⟨b1, b2, b3⟩ | ⟨b1, b2⟩
        · exact ⟨b1, by have := b3 _ wy; omega⟩
        · exact absurd wy (b2 _)) z0 F5
      have eb : ex cx D 0 17 249 (.block 1 (.seq (.seq (.region 20 g17_19 false) (.cond (.tmp 117) (.seq (.region 21 g17_20 false) .ret) .skip)) (.seq (.region 22 g17_21 false) (.seq (.seq (.region 23 g17_22 false) (.cond (.tmp 124) (.seq (.region 24 g17_23 false) (.seq (.region 25 g17_24 true) (.cond (.tmp 172) (.seq (.region 26 g17_25 false) .ret) .skip))) .skip)) (.seq (.region 27 g17_26 true) (.seq (.region 28 g17_27 false) (.seq (.seq (.region 29 g17_28 false) (.cond (.tmp 205) (.seq (.region 30 g17_29 false) .ret) .skip)) (.seq (.seq (.region 31 g17_30 false) (.cond (.tmp 212) (.seq (.region 32 g17_31 false) .ret) .skip)) (.seq (.region 33 g17_32 true) (.seq (.seq (.region 34 g17_33 false) (.cond (.tmp 232) (.seq (.region 35 g17_34 false) .ret) .skip)) (.seq (.region 36 g17_35 false) (.seq (.region 37 g17_36 false) (.cond (.tmp 248) (.seq (.region 38 g17_37 false) .ret) .skip)))))))))))))
          fr1 [tyC ((q : Int), o)] = some (.normal, fr6, G4) := by
        rw [x_block, x_cont1 e2a, x_cont1 e2b, x_cont1 e3, x_cont1 q1, x_cont1 q2, x_cont1 t, x_cont1 e6, e7]
        rfl
      obtain ⟨fr7, e8, F7⟩ : ∃ fr7 : PT, ex cx D 0 17 249 (.region 19 g17_38 false) fr6 G4 = some (.normal, fr7, G4) ∧ RiFr fr7 a w s (y.prio + (o + o')) first bk (i + 1) := by
        simp -implicitDefEqProofs (maxDischargeDepth := 4) only [go_sem, F6.f15, w3]
        exact ⟨_, rfl, by simp -implicitDefEqProofs (maxDischargeDepth := 4) only [go_sem, F6.f0], by simp -implicitDefEqProofs (maxDischargeDepth := 4) only [go_sem, F6.f2], by simp -implicitDefEqProofs (maxDischargeDepth := 4) only [go_sem, F6.f9], by simp -implicitDefEqProofs (maxDischargeDepth := 4) only [go_sem, F6.f10], by simp -implicitDefEqProofs (maxDischargeDepth := 4) only [go_sem, F6.f11], by simp -implicitDefEqProofs (maxDischargeDepth := 4) only [go_sem, F6.f12], by simp -implicitDefEqProofs (maxDischargeDepth := 4) only [go_sem, F6.f13], by simp -implicitDefEqProofs (maxDischargeDepth := 4) only [go_sem, F6.f14], by simp -implicitDefEqProofs (maxDischargeDepth := 4) only [go_sem]⟩
      rw [dl17_0, x_cont1 e1, x_cont1 eb, e8, xbind_some, contR_normal]
      have hlen : 1 ≤ G4.length := by have := lt_of_get z0; omega
      refine trim_gen (P := Ends17) [0, 2, 9, 10, 11, 12, 13, 14, 15] hlen (fun t ht => ?_) fun fr' G' hG' hf' hk' => ?_
      · simp only [List.mem_cons, List.not_mem_nil, or_false] at ht
        rcases ht with rfl | rfl | rfl | rfl | rfl | rfl | rfl | rfl | rfl
        · rw [F7.f0, kill_Sl hns.sl]
        · rw [F7.f2, kill_Sl hw]
        · rw [F7.f9]; rfl
        · rw [F7.f10]; rfl
        · rw [F7.f11]; rfl
        · rw [F7.f12]; rfl
        · rw [F7.f13]; rfl
        · rw [F7.f14]; rfl
        · rw [F7.f15]; rfl
      · have hGB : G' = [tyC ((m : Int), o + o')] := by
          match G', hG' with
          | [y1], _ =>
            have a1 := hk' 0 _ (Nat.succ_pos _) z0 rfl
            cases a1; rfl
        subst hGB
        rw [hnow'] at F7
        exact rises_loop hns hg hw hb hf hbk d (i + 1) fr' m y (o + o') _ (by omega) (by omega) H.hy hky ho' hoo hnow' (.inr ⟨wy, hc1⟩) ⟨by rw [hf' 0 (by simp), F7.f0], by rw [hf' 2 (by simp), F7.f2], by rw [hf' 9 (by simp), F7.f9], by rw [hf' 10 (by simp), F7.f10], by rw [hf' 11 (by simp), F7.f11], by rw [hf' 12 (by simp), F7.f12], by rw [hf' 13 (by simp), F7.f13], by rw [hf' 14 (by simp), F7.f14], by rw [hf' 15 (by simp), F7.f15]⟩
theorem good_walk0 {ns : List Nd} (hg : OrdOk ns) {i : Nat} (hi : i < ns.length) : ∃ (m : Nat) (o' : Int) (y : Nd), wlk ns ns.length i 0 = ((m : Int), o') ∧ ns[m]? = some y ∧ 0 ≤ o' ∧ o' ≤ 800000 ∧ (y.kind = 0 ∨ actK y.kind = true) := by
  obtain ⟨m, o', y, h1, h2, h3⟩ := good_walk1 hg.toGood hi 0
  have hsm : Small ns := fun z hz => shp_small (hg.sh z hz)
  have hle := hg.le
  have h4 := wlk_add2 hsm (d := 0) (by omega) h1 (by omega) (Int.le_refl _) (by omega)
  refine ⟨m, o', y, h1, h2, h4.2.1, h4.2.2, ?_⟩
  have := hg.sh y (List.mem_of_getElem? h2)
  unfold shp at this
  simp only [Bool.and_eq_true] at this
  have hk5 := inB_iff.1 this.1.1.1.1.1
  by_cases h0 : y.kind = 0
  · exact .inl h0
  · exact .inr (by unfold actK; simp; omega)
theorem orises_ok {v w : AV} {b : Int} {ns : List Nd} (hs : Sl 6 v (ns.map nodeV)) (hok : ∀ x ∈ ns, NdOk x) (hb : 0 ≤ b ∧ b ≤ 255) {ws : List Int} (hw : Sl 1 w (ws.map byV)) (hwb : ∀ b ∈ ws, 0 ≤ b ∧ b ≤ 255) :
    ∃ H', callB cx D 0 17 [v, byV b, w] [] = some (bv true, H') := by
  obtain ⟨cs, a, h63, hc, hl16⟩ := few_ok hs hok
  have h67 := ord_ok hc
  have hat := ordC_at cs
  unfold errV at h67
  by_cases h0 : (ordC cs).2 = 0
  rotate_left
  · generalize (ordC cs).1 = p at h67 hat
    generalize (ordC cs).2 = r at h67 h0
    obtain ⟨c1, c2⟩ := hat
    rw [c17]
    simp -implicitDefEqProofs (maxDischargeDepth := 4) only [go_sem, oworks_ok, u_not, hs.drp, hs.shr, hs.notOwn, hs.shut1, h63, hc.sl.shr, hc.sl.notOwn, hc.sl.shut1, alen_sl hc.sl, List.length_map, h67, h0, c1, c2]
    exact ⟨_, rfl⟩
  · have hone := ordC_one h0
    rw [h0, hone] at h67
    have hg := ord_good h0
    have hgp := hg.pos
    have hle := hg.le
    have hl0 : ¬ (cs.length : Int) = 0 := by omega
    have wb : wrapK .i64 b = b := wrapK_i64 (by omega) (by omega)
    obtain ⟨i, hi, hil⟩ := tmod_nat hb.1 (show ¬ cs.length = 0 by omega)
    obtain ⟨m, o, y, hwk, hy, ho1, ho2, hkind⟩ := good_walk0 hg hil
    have r51 := res51_ok hc i 0
    rw [hwk] at r51
    have sy : Sl 2 y.nx (y.es.map ed) := hc.ok y (List.mem_of_getElem? hy)
    have haty := hc.at hy
    have hpy := shp_prio (hg.sh y (List.mem_of_getElem? hy))
    obtain ⟨fr1, p1, k0, k2, k9⟩ : ∃ fr1 : PT, ex cx D 0 17 249 (.seq (.region 0 g17_0 false) (.seq (.seq (.region 1 g17_1 false) (.cond (.tmp 21) (.seq (.region 2 g17_2 false) .ret) .skip)) (.seq (.region 3 g17_3 false) (.seq (.region 4 g17_4 false) (.seq (.seq (.region 5 g17_5 false) (.cond (.tmp 35) (.seq (.region 6 g17_6 false) .ret) .skip)) (.seq (.seq (.region 7 g17_7 false) (.cond (.tmp 49) (.seq (.region 8 g17_8 false) .ret) .skip)) (.region 9 g17_9 false)))))))
        (((PT.nil.set 0 (drp v)).set 1 (drp (byV b))).set 2 (drp w)) [] = some (.normal, fr1, [tyC ((m : Int), o)]) ∧ fr1.get 0 = a ∧ fr1.get 2 = w ∧ fr1.get 9 = .ptr 0 0 0 := by
      simp -implicitDefEqProofs (maxDischargeDepth := 4) only [go_sem, oworks_ok, u_not, hs.drp, hs.shr, hs.notOwn, hs.shut1, h63, hc.sl.shr, hc.sl.notOwn, hc.sl.shut1, alen_sl hc.sl, List.length_map, h67, hl0, wb, hi, build61a, r51, hw.drp, Nat.zero_le, Nat.le_refl, Nat.not_lt_zero]
      exact ⟨_, rfl, by simp -implicitDefEqProofs (maxDischargeDepth := 4) only [go_sem], by simp -implicitDefEqProofs (maxDischargeDepth := 4) only [go_sem], by simp -implicitDefEqProofs (maxDischargeDepth := 4) only [go_sem]⟩
    obtain ⟨_, _, q0, t⟩ := x_split p1
    obtain ⟨_, _, q1, t⟩ := x_split t
    obtain ⟨_, _, q3, t⟩ := x_split t
    obtain ⟨_, _, q4, t⟩ := x_split t
    obtain ⟨_, _, q5, t⟩ := x_split t
    obtain ⟨_, _, q7, q9⟩ := x_split t
    rw [c17, x_cont1 q0, x_cont1 q1, x_cont1 q3, x_cont1 q4, x_cont1 q5, x_cont1 q7, x_cont1 q9]
    rcases hkind with hk0 | hka
    · simp -implicitDefEqProofs (maxDischargeDepth := 4) only [go_sem, k0, k9, hc.sl.shr, hc.sl.notOwn, haty, hk0]
      exact ⟨_, rfl⟩
    · have hk0 : ¬ y.kind = 0 := by intro h; unfold actK at hka; rw [h] at hka; exact absurd hka (by decide)
      have w1 : wrapK .i64 (y.prio + o) = y.prio + o := wrapK_i64 (by omega) (by omega)
      obtain ⟨bk, h64, hbk⟩ := back_ok hc m
      have hact : actN cs m = true := by
        unfold actN atN
        rw [if_neg (by omega), Int.toNat_natCast, hy]
        exact hka
      unfold BackAt at hbk
      rw [if_pos ⟨h0, hact⟩, Int.toNat_natCast] at hbk
      have hb1 : bk.2 = true → ¬ bk.1 < 1 := fun h => by
        rcases hbk with ⟨_, b2, _⟩ | ⟨b1, _⟩
        · have := way_pos (oR_gph hg) b2
          omega
        · rw [b1] at h; cases h
      obtain ⟨fr2, p2, F2⟩ : ∃ fr2 : PT, ex cx D 0 17 249 (.seq (.seq (.region 10 g17_10 false) (.cond (.tmp 64) (.seq (.region 11 g17_11 false) .ret) .skip)) (.seq (.region 12 g17_12 true) (.seq (.region 13 g17_13 false) (.seq (.seq (.region 14 g17_14 false) (.cond (.tmp 86) (.seq (.region 15 g17_15 false) .ret) .skip)) (.seq (.region 16 g17_16 false) (.region 17 g17_17 false))))))
          fr1 [tyC ((m : Int), o)] = some (.normal, fr2, [tyC ((m : Int), o)]) ∧ RiFr fr2 a w m (y.prio + o) (y.prio + o) bk 0 := by
        obtain ⟨bk1, bk2⟩ := bk
        dsimp only at hb1
        cases bk2 with
        | true =>
          have hb2 := hb1 rfl
          simp -implicitDefEqProofs (maxDischargeDepth := 4) only [go_sem, k0, k2, k9, hc.sl.shr, hc.sl.notOwn, hc.sl.shut1, haty, sy.shr, hk0, w1, h64, hb2, nbeq, Nat.zero_le, Nat.le_refl, Nat.not_lt_zero]
          exact ⟨_, rfl, by simp -implicitDefEqProofs (maxDischargeDepth := 4) only [go_sem, k0], by simp -implicitDefEqProofs (maxDischargeDepth := 4) only [go_sem, k2], by simp -implicitDefEqProofs (maxDischargeDepth := 4) only [go_sem, k9], by simp -implicitDefEqProofs (maxDischargeDepth := 4) only [go_sem], by simp -implicitDefEqProofs (maxDischargeDepth := 4) only [go_sem], by simp -implicitDefEqProofs (maxDischargeDepth := 4) only [go_sem], by simp -implicitDefEqProofs (maxDischargeDepth := 4) only [go_sem], by simp -implicitDefEqProofs (maxDischargeDepth := 4) only [go_sem], by simp -implicitDefEqProofs (maxDischargeDepth := 4) only [go_sem]; rfl⟩
        | false =>
          simp -implicitDefEqProofs (maxDischargeDepth := 4) only [go_sem, k0, k2, k9, hc.sl.shr, hc.sl.notOwn, hc.sl.shut1, haty, sy.shr, hk0, w1, h64, nbeq, Nat.zero_le, Nat.le_refl, Nat.not_lt_zero]
          exact ⟨_, rfl, by simp -implicitDefEqProofs (maxDischargeDepth := 4) only [go_sem, k0], by simp -implicitDefEqProofs (maxDischargeDepth := 4) only [go_sem, k2], by simp -implicitDefEqProofs (maxDischargeDepth := 4) only [go_sem, k9], by simp -implicitDefEqProofs (maxDischargeDepth := 4) only [go_sem], by simp -implicitDefEqProofs (maxDischargeDepth := 4) only [go_sem], by simp -implicitDefEqProofs (maxDischargeDepth := 4) only [go_sem], by simp -implicitDefEqProofs (maxDischargeDepth := 4) only [go_sem], by simp -implicitDefEqProofs (maxDischargeDepth := 4) only [go_sem], by simp -implicitDefEqProofs (maxDischargeDepth := 4) only [go_sem]; rfl⟩
      obtain ⟨_, _, s0, t⟩ := x_split p2
      obtain ⟨_, _, s1, t⟩ := x_split t
      obtain ⟨_, _, s2, t⟩ := x_split t
      obtain ⟨_, _, s3, t⟩ := x_split t
      obtain ⟨_, _, s4, s5⟩ := x_split t
      rw [x_cont1 s0, x_cont1 s1, x_cont1 s2, x_cont1 s3, x_cont1 s4, x_assoc, x_cont1 s5]
      obtain ⟨fr3, G3, e | ⟨e, h6⟩⟩ := rises_loop hc hg hw hwb (s := m) (first := y.prio + o) (by omega) hbk 60 0 fr2 m y o 0 rfl (Nat.zero_le _) hy hka ho1 (by omega) (Int.add_zero _).symm (.inl ⟨rfl, rfl, rfl⟩) (by rw [Int.add_zero]; exact F2)
      · have e2 : ex cx D 0 17 249 (.block 0 (.loop l17_0)) fr2 [tyC ((m : Int), o)] = some (.normal, fr3, G3) := by rw [x_block, x_loop, e]; rfl
        rw [x_cont1 e2]
        simp -implicitDefEqProofs (maxDischargeDepth := 4) only [go_sem]
        exact ⟨_, rfl⟩
      · rw [x_seq, x_block, x_loop, e]
        simp -implicitDefEqProofs (maxDischargeDepth := 4) only [go_sem, h6]
        exact ⟨_, rfl⟩
theorem orises_row {v0 v1 v2 : AV} (h0 : Rdd Go.Proofs.Try.prog 20 56 [v0]) (h1 : Rdd Go.Proofs.Try.prog 20 5 [v1]) (h2 : Rdd Go.Proofs.Try.prog 20 22 [v2]) : ∃ H', callB cx D 0 17 [v0, v1, v2] [] = some (bv true, H') := by
  obtain ⟨ns, hs, hok⟩ := nodes_read (d := 5) h0
  obtain ⟨b, w1, e⟩ := rd_int Go.Proofs.Try.underlying5 h1
  cases e
  obtain ⟨ws, hw, hwb⟩ := bytes_read (d := 14) h2
  exact orises_ok hs hok (Go.bounds_u8 w1) hw hwb
end Go.Abs.Tab
