/- The least way back: what is known between two rounds (a plain law). -/
import Derived.Test.YtiinagmombigpaaWkA
import Derived.Test.YtiinagmombigpaaFnA
set_option linter.unusedSimpArgs false
set_option linter.unusedVariables false
set_option linter.unnecessarySimpa false

/- The least way back: what is known between two rounds (a plain law). -/
set_option linter.unusedVariables false
namespace Go.Abs.Tab
open Go.Gr
theorem mGet_set_self (k v : Int) : ∀ l : MI, mGet k (mSet k v l) = some v
  | [] => by rw [mSet, mGet, if_pos rfl]
  | p :: l => by
    rw [mSet]
    by_cases h : k = p.1
    · rw [if_pos h, mGet, if_pos rfl]
    · rw [if_neg h, mGet, if_neg h, mGet_set_self k v l]
theorem mGet_set_ne {k j : Int} (v : Int) (h : j ≠ k) : ∀ l : MI, mGet j (mSet k v l) = mGet j l
  | [] => by show (if j = k then some v else none) = none; rw [if_neg h]
  | p :: l => by
    rw [mSet]
    by_cases e : k = p.1
    · rw [if_pos e, mGet, if_neg h, mGet, if_neg (by rw [← e]; exact h)]
    · rw [if_neg e, mGet, mGet, mGet_set_ne v h l]
def Keys (l : MI) : Prop := ∀ (j : Nat) (p : Int × Int), l[j]? = some p → mGet p.1 (l.drop (j + 1)) = none
theorem keys_nil : Keys [] := fun j p h => by simp at h
theorem mGet_del_ne {k j : Int} (h : j ≠ k) : ∀ l : MI, mGet j (mDel k l) = mGet j l
  | [] => rfl
  | p :: l => by
    rw [mDel]
    by_cases e : k = p.1
    · rw [if_pos e, mGet, if_neg (by rw [← e]; exact h)]
    · rw [if_neg e, mGet, mGet, mGet_del_ne h l]
theorem keys_cons {p : Int × Int} {l : MI} : Keys (p :: l) ↔ mGet p.1 l = none ∧ Keys l := by
  constructor
  · intro h
    exact ⟨h 0 p rfl, fun j q hq => h (j + 1) q hq⟩
  · rintro ⟨h1, h2⟩ j q hq
    cases j with
    | zero => cases hq; exact h1
    | succ j => exact h2 j q hq
theorem mGet_del_self (k : Int) : ∀ l : MI, Keys l → mGet k (mDel k l) = none
  | [], _ => rfl
  | p :: l, h => by
    obtain ⟨h1, h2⟩ := keys_cons.1 h
    rw [mDel]
    by_cases e : k = p.1
    · rw [if_pos e, e]; exact h1
    · rw [if_neg e, mGet, if_neg e, mGet_del_self k l h2]
theorem mGet_none_set {j k v : Int} {l : MI} (hj : j ≠ k) (h : mGet j l = none) : mGet j (mSet k v l) = none := by rw [mGet_set_ne v hj, h]
theorem keys_set (k v : Int) : ∀ l : MI, Keys l → Keys (mSet k v l)
  | [], _ => keys_cons.2 ⟨rfl, keys_nil⟩
  | p :: l, h => by
    obtain ⟨h1, h2⟩ := keys_cons.1 h
    rw [mSet]
    by_cases e : k = p.1
    · rw [if_pos e]; exact keys_cons.2 ⟨by rw [show ((k, v) : Int × Int).1 = p.1 from e]; exact h1, h2⟩
    · rw [if_neg e]; exact keys_cons.2 ⟨mGet_none_set (fun h => e h.symm) h1, keys_set k v l h2⟩
theorem keys_del (k : Int) : ∀ l : MI, Keys l → Keys (mDel k l)
  | [], h => h
  | p :: l, h => by
    obtain ⟨h1, h2⟩ := keys_cons.1 h
    rw [mDel]
    by_cases e : k = p.1
    · rw [if_pos e]; exact h2
    · rw [if_neg e]; exact keys_cons.2 ⟨by rw [mGet_del_ne (fun h => e h.symm), h1], keys_del k l h2⟩
theorem mGet_ne_nil {l : MI} (h : l ≠ []) : ∃ k c, mGet k l = some c := by
  cases l with
  | nil => exact absurd rfl h
  | cons p l => exact ⟨p.1, p.2, by rw [mGet, if_pos rfl]⟩
structure Gph (n : Nat) (R : Nat → List (Int × Int)) (M : Int) : Prop where
  to : ∀ u, ∀ x ∈ R u, ∃ q : Nat, x.1 = q ∧ q < n
  lo : ∀ u, ∀ x ∈ R u, 1 ≤ x.2
  hi : ∀ u, ∀ x ∈ R u, x.2 ≤ M
inductive Way (R : Nat → List (Int × Int)) (s : Nat) : Nat → Int → Prop
  | one {v : Nat} {r : Int} : ((v : Int), r) ∈ R s → Way R s v r
  | snoc {u v : Nat} {c r : Int} : Way R s u c → ((v : Int), r) ∈ R u → Way R s v (c + r)
def Stl (st : MI) (v : Int) : Prop := (mGet v st).getD 0 ≠ 0
structure Dij (n : Nat) (R : Nat → List (Int × Int)) (s : Nat) (K : Int) (A : Nat → Int → Prop) (op st : MI) (d : Nat → Int) : Prop where
  ko : Keys op
  o : ∀ v c, mGet v op = some c → ∃ q : Nat, v = q ∧ q < n ∧ ¬ Stl st v ∧ Way R s q c ∧ 1 ≤ c ∧ c ≤ K
  e : ∀ u du, A u du → ∀ x ∈ R u, (Stl st x.1 ∧ d x.1.toNat ≤ du + x.2) ∨ ∃ c, mGet x.1 op = some c ∧ c ≤ du + x.2
  m : ∀ u : Nat, Stl st u → ∀ v c, mGet v op = some c → d u ≤ c
  ns : ¬ Stl st s
theorem Dij.mono {n : Nat} {R : Nat → List (Int × Int)} {s : Nat} {K K' : Int} {A A' : Nat → Int → Prop} {op st : MI} {d : Nat → Int} (h : Dij n R s K A op st d) (hA : ∀ u du, A' u du → A u du) (hK : K ≤ K') : Dij n R s K' A' op st d :=
  ⟨h.ko, fun v c hv => by obtain ⟨q, a1, a2, a3, a4, a5, a6⟩ := h.o v c hv; exact ⟨q, a1, a2, a3, a4, a5, Int.le_trans a6 hK⟩, fun u du ha => h.e u du (hA u du ha), h.m, h.ns⟩
/-- the sources that are looked at: the start, and what is settled -/
def Src (s : Nat) (st : MI) (d : Nat → Int) (u : Nat) (du : Int) : Prop := (u = s ∧ du = 0) ∨ (Stl st u ∧ du = d u)
theorem Dij.low {n : Nat} {R : Nat → List (Int × Int)} {M : Int} (G : Gph n R M) {s : Nat} {K : Int} {op st : MI} {d : Nat → Int} (h : Dij n R s K (Src s st d) op st d) {v : Nat} {c : Int} (w : Way R s v c) : (Stl st v ∧ d v ≤ c) ∨ ∃ u c', mGet u op = some c' ∧ c' ≤ c := by
  induction w with
  | one hr =>
    rcases h.e s 0 (.inl ⟨rfl, rfl⟩) _ hr with ⟨h1, h2⟩ | ⟨c', h1, h2⟩
    · exact .inl ⟨h1, by rw [Int.toNat_natCast] at h2; dsimp only at h2; omega⟩
    · exact .inr ⟨_, c', h1, by dsimp only at h2; omega⟩
  | @snoc u v c r _ hr ih =>
    have hlo := G.lo u _ hr
    dsimp only at hlo
    rcases ih with ⟨h1, h2⟩ | ⟨u', c', h1, h2⟩
    · rcases h.e u (d u) (.inr ⟨h1, rfl⟩) _ hr with ⟨h3, h4⟩ | ⟨c', h3, h4⟩
      · exact .inl ⟨h3, by rw [Int.toNat_natCast] at h4; dsimp only at h4; omega⟩
      · exact .inr ⟨_, c', h3, by dsimp only at h4; omega⟩
    · exact .inr ⟨u', c', h1, by omega⟩
/-- edges of a source, one by one -/
structure Fold (st : MI) (so : Int) (op0 : MI) (l : List (Int × Int)) (op : MI) : Prop where
  k : Keys op0 → Keys op
  a : ∀ v c, mGet v op = some c → mGet v op0 = some c ∨ ∃ x ∈ l, x.1 = v ∧ c = so + x.2 ∧ ¬ Stl st v
  b : ∀ v c0, mGet v op0 = some c0 → ∃ c, mGet v op = some c ∧ c ≤ c0
  c : ∀ x ∈ l, Stl st x.1 ∨ ∃ c, mGet x.1 op = some c ∧ c ≤ so + x.2
theorem fold_ok {st : MI} {so : Int} : ∀ (l : List (Int × Int)) (op0 : MI), (∀ x ∈ l, wrapK .i64 (so + x.2) = so + x.2) → Fold st so op0 l (l.foldl (relax1 st so) op0)
  | [], op0, _ => ⟨id, fun v c h => .inl h, fun v c h => ⟨c, h, Int.le_refl _⟩, fun x hx => by cases hx⟩
  | x :: l, op0, hw => by
    have hwx := hw x (List.mem_cons_self ..)
    have ih := fold_ok (st := st) (so := so) l (relax1 st so op0 x) (fun y hy => hw y (List.mem_cons_of_mem _ hy))
    rw [List.foldl_cons]
    generalize l.foldl (relax1 st so) (relax1 st so op0 x) = op at ih
    obtain ⟨k, a, b, c⟩ := ih
    have h1 : relax1 st so op0 x = op0 ∧ (Stl st x.1 ∨ ∃ c, mGet x.1 op0 = some c ∧ c ≤ so + x.2) ∨ relax1 st so op0 x = mSet x.1 (so + x.2) op0 ∧ ¬ Stl st x.1 ∧ ∀ c, mGet x.1 op0 = some c → so + x.2 ≤ c := by
      unfold relax1
      rw [hwx]
      split
      · rename_i hc
        refine .inr ⟨rfl, fun h => h hc.1, fun c hg => ?_⟩
        rcases hc.2 with h | h
        · rw [hg] at h; cases h
        · rw [hg, Option.getD_some] at h; omega
      · rename_i hc
        refine .inl ⟨rfl, ?_⟩
        by_cases hs : (mGet x.1 st).getD 0 = 0
        · right
          cases hg : mGet x.1 op0 with
          | none => exact absurd ⟨hs, .inl (by rw [hg]; rfl)⟩ hc
          | some c0 =>
            refine ⟨c0, rfl, ?_⟩
            have : ¬ so + x.2 < c0 := fun hlt => hc ⟨hs, .inr (by rw [hg]; exact hlt)⟩
            omega
        · exact .inl hs
    rcases h1 with ⟨h1, h2⟩ | ⟨h1, h2, h3⟩
    · rw [h1] at k a b
      refine ⟨k, fun v c' hv => ?_, b, fun y hy => ?_⟩
      · rcases a v c' hv with h | ⟨y, hy, e⟩
        · exact .inl h
        · exact .inr ⟨y, List.mem_cons_of_mem _ hy, e⟩
      · rcases List.mem_cons.1 hy with rfl | hy
        · rcases h2 with h | ⟨c0, h, hle⟩
          · exact .inl h
          · obtain ⟨c', h', hle'⟩ := b _ _ h
            exact .inr ⟨c', h', Int.le_trans hle' hle⟩
        · exact c y hy
    · rw [h1] at k a b
      refine ⟨fun hk => k (keys_set _ _ _ hk), fun v c' hv => ?_, fun v c0 hv => ?_, fun y hy => ?_⟩
      · rcases a v c' hv with h | ⟨y, hy, e⟩
        · by_cases hx : v = x.1
          · subst hx
            rw [mGet_set_self] at h
            exact .inr ⟨x, List.mem_cons_self .., rfl, (Option.some.inj h).symm, h2⟩
          · rw [mGet_set_ne _ hx] at h
            exact .inl h
        · exact .inr ⟨y, List.mem_cons_of_mem _ hy, e⟩
      · by_cases hx : v = x.1
        · subst hx
          obtain ⟨c', h', hle⟩ := b _ _ (mGet_set_self x.1 (so + x.2) op0)
          exact ⟨c', h', Int.le_trans hle (h3 c0 hv)⟩
        · exact b v c0 (by rw [mGet_set_ne _ hx]; exact hv)
      · rcases List.mem_cons.1 hy with rfl | hy
        · obtain ⟨c', h', hle⟩ := b _ _ (mGet_set_self y.1 (so + y.2) op0)
          exact .inr ⟨c', h', hle⟩
        · exact c y hy
theorem Dij.reach {n : Nat} {R : Nat → List (Int × Int)} {M : Int} (G : Gph n R M) {s : Nat} {K : Int} {A : Nat → Int → Prop} {op st : MI} {d : Nat → Int} (h : Dij n R s K A op st d) {u : Nat} {so : Int} (h0 : 0 ≤ so) (hK : so + M ≤ K) (hK' : K < 2 ^ 62)
    (hw : ∀ x ∈ R u, Way R s x.1.toNat (so + x.2)) (hd : ∀ v : Nat, Stl st v → d v ≤ so) : Dij n R s K (fun w dw => A w dw ∨ (w = u ∧ dw = so)) ((R u).foldl (relax1 st so) op) st d := by
  have hF := fold_ok (st := st) (so := so) (R u) op (fun x hx => by
    have h1 := G.lo u x hx
    have h2 := G.hi u x hx
    exact wrapK_i64 (by omega) (by omega))
  refine ⟨hF.k h.ko, fun v c hv => ?_, fun w dw hA x hx => ?_, fun w hw' v c hv => ?_, h.ns⟩
  · rcases hF.a v c hv with hv | ⟨x, hx, rfl, rfl, hs⟩
    · exact h.o v c hv
    · obtain ⟨q, hq, hqn⟩ := G.to u x hx
      have h1 := G.lo u x hx
      have h2 := G.hi u x hx
      refine ⟨q, hq, hqn, hs, ?_, by omega, by omega⟩
      have := hw x hx
      rw [hq, Int.toNat_natCast] at this
      exact this
  · rcases hA with hA | ⟨rfl, rfl⟩
    · rcases h.e w dw hA x hx with h1 | ⟨c, h1, h2⟩
      · exact .inl h1
      · obtain ⟨c', h3, h4⟩ := hF.b _ _ h1
        exact .inr ⟨c', h3, Int.le_trans h4 h2⟩
    · rcases hF.c x hx with h1 | h1
      · refine .inl ⟨h1, ?_⟩
        obtain ⟨q, hq, _⟩ := G.to w x hx
        have h2 := hd q (by rw [← hq]; exact h1)
        have h3 := G.lo w x hx
        rw [hq, Int.toNat_natCast]
        omega
      · exact .inr h1
  · rcases hF.a v c hv with hv | ⟨x, hx, _, rfl, _⟩
    · exact h.m w hw' v c hv
    · have h1 := G.lo u x hx
      have h2 := hd w hw'
      omega
theorem stl_set_self (v : Int) (st : MI) : Stl (mSet v 1 st) v := by
  unfold Stl
  rw [mGet_set_self, Option.getD_some]
  decide
theorem stl_set_ne {v w : Int} (h : w ≠ v) (st : MI) : Stl (mSet v 1 st) w ↔ Stl st w := by
  unfold Stl
  rw [mGet_set_ne _ h]
/-- the least is settled -/
theorem Dij.settle {n : Nat} {R : Nat → List (Int × Int)} {M : Int} (G : Gph n R M) {s : Nat} {K : Int} {A : Nat → Int → Prop} {op st : MI} {d : Nat → Int} (h : Dij n R s K A op st d) {v : Nat} {c : Int} (hv : mGet v op = some c) (hs : v ≠ s) (hm : ∀ u c', mGet u op = some c' → c ≤ c') :
    Dij n R s K A (mDel v op) (mSet v 1 st) (fun u => if u = v then c else d u) := by
  have hns : ¬ Stl st v := by obtain ⟨q, _, _, h1, _⟩ := h.o _ _ hv; exact h1
  have hdel : ∀ u c', mGet u (mDel v op) = some c' → u ≠ v ∧ mGet u op = some c' := fun u c' hu => by
    by_cases e : u = v
    · rw [e, mGet_del_self _ _ h.ko] at hu; cases hu
    · rw [mGet_del_ne e] at hu; exact ⟨e, hu⟩
  refine ⟨keys_del _ _ h.ko, fun u c' hu => ?_, fun u du hA x hx => ?_, fun u hu w c' hw => ?_, ?_⟩
  · obtain ⟨hne, hu'⟩ := hdel u c' hu
    obtain ⟨q, h1, h2, h3, h4⟩ := h.o u c' hu'
    exact ⟨q, h1, h2, fun hh => h3 ((stl_set_ne hne st).1 hh), h4⟩
  · rcases h.e u du hA x hx with ⟨h1, h2⟩ | ⟨c', h1, h2⟩
    · have hne : x.1 ≠ (v : Int) := fun e => hns (by rw [← e]; exact h1)
      refine .inl ⟨(stl_set_ne hne st).2 h1, ?_⟩
      by_cases e : x.1.toNat = v
      · rw [if_pos e]
        obtain ⟨q, hq, _⟩ := G.to u x hx
        exact absurd (show x.1 = (v : Int) by omega) hne
      · rw [if_neg e]; exact h2
    · by_cases e : x.1 = (v : Int)
      · left
        rw [e] at h1 ⊢
        rw [hv] at h1
        cases h1
        exact ⟨stl_set_self _ _, by rw [Int.toNat_natCast, if_pos rfl]; exact h2⟩
      · exact .inr ⟨c', by rw [mGet_del_ne e]; exact h1, h2⟩
  · obtain ⟨hne, hw'⟩ := hdel w c' hw
    by_cases e : u = v
    · subst e
      rw [if_pos rfl]
      exact hm w c' hw'
    · rw [if_neg e]
      exact h.m u ((stl_set_ne (by omega) st).1 hu) w c' hw'
  · exact fun hh => h.ns ((stl_set_ne (by omega) st).1 hh)
end Go.Abs.Tab

/- Order: the least that is open is looked for. -/
set_option linter.unusedVariables false
namespace Go.Abs.Tab
open Go.Gr
def pick1 (op : MI) (i : Nat) (r : Int × Int) : Int × Int := match mGet i op with
  | none => r
  | some c => if 0 ≤ r.1 ∧ r.2 ≤ c then r else ((i : Int), c)
def pick (op : MI) : Nat → Nat → Int × Int → Int × Int
  | 0, _, r => r
  | d + 1, i, r => pick op d (i + 1) (pick1 op i r)
structure Pick (op : MI) (d i : Nat) (r r' : Int × Int) : Prop where
  a : ∀ (j : Nat) c, i ≤ j → j < i + d → mGet j op = some c → 0 ≤ r'.1 ∧ r'.2 ≤ c
  b : 0 ≤ r.1 → 0 ≤ r'.1 ∧ r'.2 ≤ r.2
  c : r' = r ∨ ∃ j : Nat, r'.1 = j ∧ i ≤ j ∧ j < i + d ∧ mGet j op = some r'.2
theorem pick_ok (op : MI) : ∀ (d i : Nat) (r : Int × Int), Pick op d i r (pick op d i r)
  | 0, i, r => ⟨fun j c h1 h2 => by omega, fun h => ⟨h, Int.le_refl _⟩, .inl rfl⟩
  | d + 1, i, r => by
    obtain ⟨a, b, c⟩ := pick_ok op d (i + 1) (pick1 op i r)
    show Pick op (d + 1) i r (pick op d (i + 1) (pick1 op i r))
    generalize pick op d (i + 1) (pick1 op i r) = r' at *
    unfold pick1 at b c
    cases hg : mGet i op with
    | none =>
      rw [hg] at b c
      refine ⟨fun j c' h1 h2 hj => ?_, b, ?_⟩
      · by_cases e : j = i
        · subst e; rw [hg] at hj; cases hj
        · exact a j c' (by omega) (by omega) hj
      · rcases c with c | ⟨j, h1, h2, h3, h4⟩
        · exact .inl c
        · exact .inr ⟨j, h1, by omega, by omega, h4⟩
    | some c0 =>
      rw [hg] at b c
      dsimp only at b c
      by_cases hc : 0 ≤ r.1 ∧ r.2 ≤ c0
      · rw [if_pos hc] at b c
        refine ⟨fun j c' h1 h2 hj => ?_, b, ?_⟩
        · by_cases e : j = i
          · subst e
            rw [hg] at hj
            cases hj
            exact ⟨(b hc.1).1, Int.le_trans (b hc.1).2 hc.2⟩
          · exact a j c' (by omega) (by omega) hj
        · rcases c with c | ⟨j, h1, h2, h3, h4⟩
          · exact .inl c
          · exact .inr ⟨j, h1, by omega, by omega, h4⟩
      · rw [if_neg hc] at b c
        have hb := b (Int.natCast_nonneg i)
        dsimp only at hb
        refine ⟨fun j c' h1 h2 hj => ?_, fun h0 => ⟨hb.1, ?_⟩, ?_⟩
        · by_cases e : j = i
          · subst e
            rw [hg] at hj
            cases hj
            exact hb
          · exact a j c' (by omega) (by omega) hj
        · have : ¬ r.2 ≤ c0 := fun h => hc ⟨h0, h⟩
          omega
        · rcases c with c | ⟨j, h1, h2, h3, h4⟩
          · right
            refine ⟨i, by rw [c], by omega, by omega, by rw [c]; exact hg⟩
          · exact .inr ⟨j, h1, by omega, by omega, h4⟩
structure DFr (fr : PT) (a : AV) (s : Nat) : Prop where
  f0 : fr.get 0 = a
  f1 : fr.get 1 = iv s
  f9 : fr.get 9 = .ptr 3 0 0
  f10 : fr.get 10 = .ptr 4 0 0
  f11 : fr.get 11 = .fn 126 [.ptr 0 0 0, .ptr 3 0 0, .ptr 4 0 0]
theorem DFr.of {fr fr' : PT} {a : AV} {s : Nat} (F : DFr fr a s) (h : ∀ t, (t = 0 ∨ t = 1 ∨ t = 9 ∨ t = 10 ∨ t = 11) → fr'.get t = fr.get t) : DFr fr' a s :=
  ⟨by rw [h 0 (by simp), F.f0], by rw [h 1 (by simp), F.f1], by rw [h 9 (by simp), F.f9], by rw [h 10 (by simp), F.f10], by rw [h 11 (by simp), F.f11]⟩
theorem loop64_0 {a : AV} {s n : Nat} (hn : n ≤ 64) {op st : MI} {G : Hp} (B : B64 G a op st) :
    ∀ (d i : Nat) (fr : PT) (r : Int × Int), n - i = d → i ≤ n → DFr fr a s → fr.get 41 = iv n → fr.get 42 = iv i → fr.get 12 = iv r.1 → fr.get 13 = iv r.2 →
    ∃ fr' : PT, D.loop 0 64 81 l64_0 fr G = some (.exit 2, fr', G) ∧ DFr fr' a s ∧ fr'.get 12 = iv (pick op d i r).1 ∧ fr'.get 13 = iv (pick op d i r).2
  | 0, i, fr, r, hd, hi, F, f41, f42, f12, f13 => by
    have hlt := lp1 hd hi
    rw [dl64_0]
    simp -implicitDefEqProofs (maxDischargeDepth := 4) only [go_sem, f41, f42, hlt]
    refine ⟨_, rfl, F.of fun t ht => ?_, by simp -implicitDefEqProofs (maxDischargeDepth := 4) only [go_sem, f12]; rfl, by simp -implicitDefEqProofs (maxDischargeDepth := 4) only [go_sem, f13]; rfl⟩
    rcases ht with rfl | rfl | rfl | rfl | rfl <;> simp -implicitDefEqProofs (maxDischargeDepth := 4) only [go_sem]
  | d + 1, i, fr, r, hd, hi, F, f41, f42, f12, f13 => by
    have hlt := lp2 hd
    have w3 := wrap_succ (lp5 hd hn)
    have step : ∃ fr1 : PT, ex cx D 0 64 81 (.seq (.region 11 g64_11 false) (.seq (.cond (.tmp 43) .skip (.exit 2)) (.seq (.block 3 (.seq (.region 12 g64_12 false) (.seq (.region 13 g64_13 false) (.seq (.seq (.region 14 g64_14 false) (.cond (.tmp 61) (.exit 3) .skip)) (.region 15 g64_15 false))))) (.region 16 g64_16 false)))) fr G = some (.normal, fr1, G) ∧ DFr fr1 a s ∧ fr1.get 41 = iv n ∧ fr1.get 42 = iv (i + 1 : Nat) ∧ fr1.get 12 = iv (pick1 op i r).1 ∧ fr1.get 13 = iv (pick1 op i r).2 := by
      unfold pick1
      cases hg : mGet i op with
      | none =>
        simp -implicitDefEqProofs (maxDischargeDepth := 4) only [go_sem, F.f9, f41, f42, f12, f13, hlt, w3, B.g1, B.g3, hg, u_not, Option.isSome_none, Option.getD_none]
        refine ⟨_, rfl, F.of fun t ht => ?_, by simp -implicitDefEqProofs (maxDischargeDepth := 4) only [go_sem, f41], by simp -implicitDefEqProofs (maxDischargeDepth := 4) only [go_sem], by simp -implicitDefEqProofs (maxDischargeDepth := 4) only [go_sem, f12], by simp -implicitDefEqProofs (maxDischargeDepth := 4) only [go_sem, f13]⟩
        rcases ht with rfl | rfl | rfl | rfl | rfl <;> simp -implicitDefEqProofs (maxDischargeDepth := 4) only [go_sem]
      | some c =>
        dsimp only
        by_cases h0 : 0 ≤ r.1
        · by_cases h1 : r.2 ≤ c
          · rw [if_pos ⟨h0, h1⟩]
            simp -implicitDefEqProofs (maxDischargeDepth := 4) only [go_sem, F.f9, f41, f42, f12, f13, hlt, w3, B.g1, B.g3, hg, u_not, Option.isSome_some, Option.getD_some, h0, h1]
            refine ⟨_, rfl, F.of fun t ht => ?_, by simp -implicitDefEqProofs (maxDischargeDepth := 4) only [go_sem, f41], by simp -implicitDefEqProofs (maxDischargeDepth := 4) only [go_sem], by simp -implicitDefEqProofs (maxDischargeDepth := 4) only [go_sem, f12], by simp -implicitDefEqProofs (maxDischargeDepth := 4) only [go_sem, f13]⟩
            rcases ht with rfl | rfl | rfl | rfl | rfl <;> simp -implicitDefEqProofs (maxDischargeDepth := 4) only [go_sem]
          · rw [if_neg (fun h => h1 h.2)]
            simp -implicitDefEqProofs (maxDischargeDepth := 4) only [go_sem, F.f9, f41, f42, f12, f13, hlt, w3, B.g1, B.g3, hg, u_not, Option.isSome_some, Option.getD_some, h0, h1]
            refine ⟨_, rfl, F.of fun t ht => ?_, by simp -implicitDefEqProofs (maxDischargeDepth := 4) only [go_sem, f41], by simp -implicitDefEqProofs (maxDischargeDepth := 4) only [go_sem], by simp -implicitDefEqProofs (maxDischargeDepth := 4) only [go_sem], by simp -implicitDefEqProofs (maxDischargeDepth := 4) only [go_sem]⟩
            rcases ht with rfl | rfl | rfl | rfl | rfl <;> simp -implicitDefEqProofs (maxDischargeDepth := 4) only [go_sem]
        · rw [if_neg (fun h => h0 h.1)]
          simp -implicitDefEqProofs (maxDischargeDepth := 4) only [go_sem, F.f9, f41, f42, f12, f13, hlt, w3, B.g1, B.g3, hg, u_not, Option.isSome_some, Option.getD_some, h0]
          refine ⟨_, rfl, F.of fun t ht => ?_, by simp -implicitDefEqProofs (maxDischargeDepth := 4) only [go_sem, f41], by simp -implicitDefEqProofs (maxDischargeDepth := 4) only [go_sem], by simp -implicitDefEqProofs (maxDischargeDepth := 4) only [go_sem], by simp -implicitDefEqProofs (maxDischargeDepth := 4) only [go_sem]⟩
          rcases ht with rfl | rfl | rfl | rfl | rfl <;> simp -implicitDefEqProofs (maxDischargeDepth := 4) only [go_sem]
    obtain ⟨fr1, e1, F1, k41, k42, k12, k13⟩ := step
    obtain ⟨fr2, e2, F2, l12, l13⟩ := loop64_0 hn B d (i + 1) fr1 _ (nd1 hd) (nd2 hd) F1 k41 k42 k12 k13
    refine ⟨fr2, ?_, F2, l12, l13⟩
    rw [dl64_0, e1, xbind_some, contR_normal]
    unfold trimmed
    rw [if_pos rfl, e2]
end Go.Abs.Tab

/- Order: order.Back's rounds. -/
set_option linter.unusedVariables false
namespace Go.Abs.Tab
open Go.Gr
def unsL (st : MI) (i : Nat) : Bool := (mGet i st).getD 0 == 0
def uns (n : Nat) (st : MI) : Nat := ((List.range n).filter (unsL st)).length
theorem uns_same (st : MI) {v : Nat} : ∀ n, n ≤ v → uns n (mSet v 1 st) = uns n st
  | 0, _ => rfl
  | n + 1, h => by
    have ih := uns_same st (v := v) n (by omega)
    unfold uns at *
    rw [List.range_succ, List.filter_append, List.filter_append, List.length_append, List.length_append, ih]
    have : unsL (mSet v 1 st) n = unsL st n := by unfold unsL; rw [mGet_set_ne (k := (v : Int)) (j := (n : Int)) 1 (by omega)]
    rw [List.filter_cons, List.filter_cons, this]
    rfl
theorem uns_settle (st : MI) {v : Nat} (hs : ¬ Stl st v) : ∀ n, v < n → uns n (mSet v 1 st) + 1 = uns n st
  | 0, h => by omega
  | n + 1, h => by
    have h0 : (mGet v st).getD 0 = 0 := by unfold Stl at hs; omega
    by_cases e : v = n
    · subst e
      have ih := uns_same st (v := v) v (Nat.le_refl _)
      unfold uns at *
      rw [List.range_succ, List.filter_append, List.filter_append, List.length_append, List.length_append, ih]
      have h1 : unsL (mSet v 1 st) v = false := by unfold unsL; rw [mGet_set_self]; rfl
      have h2 : unsL st v = true := by unfold unsL; rw [h0]; rfl
      rw [List.filter_cons, List.filter_cons, h1, h2]
      simp
    · have ih := uns_settle st hs n (by omega)
      unfold uns at *
      rw [List.range_succ, List.filter_append, List.filter_append, List.length_append, List.length_append]
      have : unsL (mSet v 1 st) n = unsL st n := by unfold unsL; rw [mGet_set_ne (k := (v : Int)) (j := (n : Int)) 1 (by omega)]
      rw [List.filter_cons, List.filter_cons, this]
      simp only [List.filter_nil]
      omega
theorem uns_pos {st : MI} {v n : Nat} (hs : ¬ Stl st v) (hv : v < n) : 1 ≤ uns n st := by
  have := uns_settle st hs n hv
  omega
theorem uns_nil : ∀ n, uns n [] = n
  | 0 => rfl
  | n + 1 => by
    have ih := uns_nil n
    unfold uns at *
    rw [List.range_succ, List.filter_append, List.length_append, ih]
    rfl
/-- edges of nodes that act -/
def oR (ns : List Nd) (i : Nat) : List (Int × Int) := match ns[i]? with
  | some x => if actK x.kind = true then rises ns x.prio x.es else []
  | none => []
theorem oR_act {ns : List Nd} {i : Nat} {x : Nd} (hx : ns[i]? = some x) (hk : actK x.kind = true) : oR ns i = rises ns x.prio x.es := by
  unfold oR
  rw [hx]
  dsimp only
  rw [if_pos hk]
structure OrdOk (ns : List Nd) : Prop extends Good ns where
  up : ∀ x ∈ ns, oBad ns x = false
theorem oChk_ok {ns : List Nd} : ∀ (l : List Nd) (i : Nat), (oChk ns i l).2 = 0 → ∀ x ∈ l, oBad ns x = false
  | [], _, _, x, hx => by cases hx
  | y :: l, i, h, x, hx => by
    simp only [oChk] at h
    cases hb : oBad ns y with
    | true => rw [hb, if_pos rfl] at h; exact absurd h (show (10 : Int) ≠ 0 by decide)
    | false =>
      rw [hb, if_neg (by decide)] at h
      rcases List.mem_cons.1 hx with rfl | hx
      · exact hb
      · exact oChk_ok l (i + 1) h x hx
theorem ord_good {ns : List Nd} (h : (ordC ns).2 = 0) : OrdOk ns := by
  unfold ordC at h
  split at h
  · rename_i h0
    exact ⟨chk_good h0, oChk_ok ns 0 h⟩
  · rename_i h0
    exact absurd h h0
theorem shp_prio {x : Nd} (h : shp x = true) : 0 ≤ x.prio ∧ x.prio ≤ 1000 := by
  unfold shp at h
  simp only [Bool.and_eq_true] at h
  exact inB_iff.1 h.1.1.1.2
theorem rises_mem {ns : List Nd} {px : Int} {es : List (Int × Int)} {r : Int × Int} (h : r ∈ rises ns px es) : ∃ e ∈ es, rise1 ns px e = some r := by
  unfold rises at h
  rw [List.mem_filterMap] at h
  exact h
theorem oR_mem {ns : List Nd} {u : Nat} {r : Int × Int} (h : r ∈ oR ns u) : ∃ x e, ns[u]? = some x ∧ actK x.kind = true ∧ e ∈ x.es ∧ rise1 ns x.prio e = some r := by
  unfold oR at h
  cases hx : ns[u]? with
  | none => rw [hx] at h; cases h
  | some x =>
    rw [hx] at h
    dsimp only at h
    split at h
    · rename_i hk
      obtain ⟨e, he, hr⟩ := rises_mem h
      exact ⟨x, e, rfl, hk, he, hr⟩
    · cases h
theorem oR_to {ns : List Nd} {u : Nat} {r : Int × Int} (h : r ∈ oR ns u) : ∃ (q : Nat) (y : Nd), r.1 = q ∧ ns[q]? = some y ∧ actK y.kind = true := by
  obtain ⟨x, e, _, _, _, hr⟩ := oR_mem h
  obtain ⟨q, y, o, _, hy, hk, rfl⟩ := rise1_some hr
  exact ⟨q, y, rfl, hy, hk⟩
theorem oR_gph {ns : List Nd} (hg : OrdOk ns) : Gph ns.length (oR ns) 2000000 := by
  refine ⟨fun u r hr => ?_, fun u r hr => ?_, fun u r hr => ?_⟩
  · obtain ⟨q, y, h1, h2, _⟩ := oR_to hr
    exact ⟨q, h1, (List.getElem?_eq_some_iff.1 h2).1⟩
  · obtain ⟨x, e, hx, hk, he, hr⟩ := oR_mem hr
    have hb := hg.up x (List.mem_of_getElem? hx)
    unfold oBad at hb
    rw [hk, Bool.true_and, List.any_eq_false] at hb
    have := hb r (List.mem_filterMap.2 ⟨e, by unfold oE; exact List.mem_append_left _ he, hr⟩)
    simp only [lowR, decide_eq_true_eq] at this
    omega
  · obtain ⟨x, e, hx, hk, he, hr⟩ := oR_mem hr
    obtain ⟨q, y, o, hw, hy, _, rfl⟩ := rise1_some hr
    have hsm : Small ns := fun z hz => shp_small (hg.sh z hz)
    have he2 := shp_small (hg.sh x (List.mem_of_getElem? hx)) e he
    have hl := hg.le
    have h1 := (wlk_add hsm (d := 0) (by omega) hw (by omega) he2.1 (by omega)).2
    have p1 := shp_prio (hg.sh x (List.mem_of_getElem? hx))
    have p2 := shp_prio (hg.sh y (List.mem_of_getElem? hy))
    dsimp only
    rw [wrapK_i64 (n := y.prio + o) (by omega) (by omega), wrapK_i64 (by omega) (by omega)]
    omega
theorem way_to {ns : List Nd} {s v : Nat} {c : Int} (w : Way (oR ns) s v c) : ∃ y, ns[v]? = some y ∧ actK y.kind = true := by
  cases w with
  | one h =>
    obtain ⟨q, y, h1, h2, h3⟩ := oR_to h
    have : v = q := by dsimp only at h1; omega
    subst this
    exact ⟨y, h2, h3⟩
  | snoc _ h =>
    obtain ⟨q, y, h1, h2, h3⟩ := oR_to h
    have : v = q := by dsimp only at h1; omega
    subst this
    exact ⟨y, h2, h3⟩
end Go.Abs.Tab

/- Order: order.Back is the least way back. -/
set_option linter.unusedVariables false
namespace Go.Abs.Tab
open Go.Gr
/-- the least way back, or none -/
def Back (R : Nat → List (Int × Int)) (s : Nat) (r : Int × Bool) : Prop :=
  (r.2 = true ∧ Way R s s r.1 ∧ ∀ c', Way R s s c' → r.1 ≤ c') ∨ (r = (0, false) ∧ ∀ c', ¬ Way R s s c')
theorem Back.uniq {R : Nat → List (Int × Int)} {s : Nat} {r r' : Int × Bool} (h : Back R s r) (h' : Back R s r') : r = r' := by
  obtain ⟨a, b⟩ := r
  obtain ⟨a', b'⟩ := r'
  rcases h with ⟨h1, h2, h3⟩ | ⟨h1, h2⟩ <;> rcases h' with ⟨k1, k2, k3⟩ | ⟨k1, k2⟩
  · dsimp only at *
    subst h1 k1
    have := h3 _ k2
    have := k3 _ h2
    rw [show a = a' by omega]
  · exact absurd h2 (k2 _)
  · exact absurd k2 (h2 _)
  · rw [h1, k1]
def Fin64 (R : Nat → List (Int × Int)) (s : Nat) (e : Ex) (fr : PT) : Prop :=
  (e = .ret ∧ ∃ c, fr.get 4 = iv c ∧ fr.get 5 = bv true ∧ Back R s (c, true)) ∨ (e = .exit 0 ∧ Back R s (0, false))
theorem kill_fn126 {m : Nat} (hm : 5 ≤ m) : kill m (.fn 126 [.ptr 0 0 0, .ptr 3 0 0, .ptr 4 0 0]) = .fn 126 [.ptr 0 0 0, .ptr 3 0 0, .ptr 4 0 0] := by
  show (if ([.ptr 0 0 0, .ptr 3 0 0, .ptr 4 0 0] : List AV).all (fun x => match x with | .ptr b _ _ => decide (b < m) | _ => false) = true then AV.fn 126 [.ptr 0 0 0, .ptr 3 0 0, .ptr 4 0 0] else .dead) = _
  rw [if_pos]
  simp only [List.all_cons, List.all_nil, Bool.and_true, Bool.and_eq_true, decide_eq_true_eq]
  omega
theorem Kle {n : Nat} (hn : n ≤ 64) (u : Nat) : (2000000 : Int) * ((n : Int) + 1 - (u : Int)) < 2 ^ 62 := by
  have : (n : Int) + 1 - (u : Int) ≤ 65 := by omega
  omega
theorem loop64_1 {ns : List Nd} {a : AV} (hns : NsOk ns a) (hg : OrdOk ns) {s : Nat} (hs : s < ns.length) {m : Nat} (hm : 5 ≤ m) :
    ∀ (d : Nat) (fr : PT) (G : Hp) (op st : MI) (dd : Nat → Int), uns ns.length st ≤ d → G.length = m → DFr fr a s → B64 G a op st → Dij ns.length (oR ns) s (2000000 * ((ns.length : Int) + 1 - (uns ns.length st : Int))) (Src s st dd) op st dd →
    ∃ e fr' G', D.loop 0 64 81 l64_1 fr G = some (e, fr', G') ∧ Fin64 (oR ns) s e fr'
  | 0, fr, G, op, st, dd, hd, hG, F, B, I => by
    have := uns_pos I.ns hs
    omega
  | d + 1, fr, G, op, st, dd, hd, hG, F, B, I => by
    have hgr := oR_gph hg
    by_cases hop : op = []
    · subst hop
      have hlen : (mEs []).length = 0 := rfl
      rw [dl64_1]
      simp -implicitDefEqProofs (maxDischargeDepth := 4) only [go_sem, F.f9, B.g1, B.g3, hlen]
      refine ⟨_, _, _, rfl, .inr ⟨rfl, .inr ⟨rfl, fun c' w => ?_⟩⟩⟩
      rcases I.low hgr w with ⟨h, _⟩ | ⟨u, c, h, _⟩
      · exact I.ns h
      · cases h
    · obtain ⟨k0, c0, hk0⟩ := mGet_ne_nil hop
      obtain ⟨q0, rfl, hq0, _⟩ := I.o k0 c0 hk0
      have hP := pick_ok op ns.length 0 (-1, 0)
      have hp0 := hP.a q0 c0 (Nat.zero_le _) (by omega) hk0
      obtain ⟨j, hj1, hj2⟩ : ∃ j : Nat, (pick op ns.length 0 (-1, 0)).1 = j ∧ mGet j op = some (pick op ns.length 0 (-1, 0)).2 := by
        rcases hP.c with h | ⟨j, h1, _, _, h4⟩
        · rw [h] at hp0; exact absurd hp0.1 (by decide)
        · exact ⟨j, h1, h4⟩
      have hmin : ∀ u c', mGet u op = some c' → (pick op ns.length 0 (-1, 0)).2 ≤ c' := fun u c' hu => by
        obtain ⟨q, rfl, hq, _⟩ := I.o u c' hu
        exact (hP.a q c' (Nat.zero_le _) (by omega) hu).2
      obtain ⟨fr1, e1, F1⟩ : ∃ fr1 : PT, ex cx D 0 64 81 (.seq (.region 8 g64_8 false) (.cond (.tmp 39) .skip (.exit 0))) fr G = some (.normal, fr1, G) ∧ DFr fr1 a s := by
        have hlen : (0 : Int) < ((mEs op).length : Int) := by
          rw [mEs_length]
          have : 0 < op.length := List.length_pos_iff.2 hop
          omega
        simp -implicitDefEqProofs (maxDischargeDepth := 4) only [go_sem, F.f9, B.g1, B.g3, hlen]
        refine ⟨_, rfl, F.of fun t ht => ?_⟩
        rcases ht with rfl | rfl | rfl | rfl | rfl <;> simp -implicitDefEqProofs (maxDischargeDepth := 4) only [go_sem]
      obtain ⟨fr2, e2, F2, k41, k42, k12, k13⟩ : ∃ fr2 : PT, ex cx D 0 64 81 (.seq (.region 9 g64_9 false) (.region 10 g64_10 false)) fr1 G = some (.normal, fr2, G) ∧ DFr fr2 a s ∧ fr2.get 41 = iv ns.length ∧ fr2.get 42 = iv (0 : Nat) ∧ fr2.get 12 = iv (-1) ∧ fr2.get 13 = iv 0 := by
        simp -implicitDefEqProofs (maxDischargeDepth := 4) only [go_sem, F1.f0, hns.sl.shr, hns.sl.notOwn, alen_sl hns.sl, List.length_map]
        refine ⟨_, rfl, F1.of fun t ht => ?_, by simp -implicitDefEqProofs (maxDischargeDepth := 4) only [go_sem], by simp -implicitDefEqProofs (maxDischargeDepth := 4) only [go_sem]; rfl, by simp -implicitDefEqProofs (maxDischargeDepth := 4) only [go_sem], by simp -implicitDefEqProofs (maxDischargeDepth := 4) only [go_sem]⟩
        rcases ht with rfl | rfl | rfl | rfl | rfl <;> simp -implicitDefEqProofs (maxDischargeDepth := 4) only [go_sem]
      obtain ⟨fr3, e3, F3, l12, l13⟩ := loop64_0 hg.le B ns.length 0 fr2 (-1, 0) (Nat.sub_zero _) (Nat.zero_le _) F2 k41 k42 k12 k13
      rw [hj1] at l12
      generalize (pick op ns.length 0 (-1, 0)).2 = least at *
      obtain ⟨_, _, p9, p10⟩ := x_split e2
      have eL : ex cx D 0 64 81 (.block 2 (.loop l64_0)) fr2 G = some (.normal, fr3, G) := by rw [x_block, x_loop, e3]; rfl
      obtain ⟨qj, hqj, hjn, hjs, wj, cj1, cjK⟩ := I.o j least hj2
      obtain rfl : j = qj := by omega
      by_cases hjs' : j = s
      · subst hjs'
        obtain ⟨fr4, e4, r4, r5⟩ : ∃ fr4 : PT, ex cx D 0 64 81 (.seq (.region 17 g64_17 false) (.cond (.tmp 67) (.seq (.region 18 g64_18 false) .ret) .skip)) fr3 G = some (.ret, fr4, G) ∧ fr4.get 4 = iv least ∧ fr4.get 5 = bv true := by
          simp -implicitDefEqProofs (maxDischargeDepth := 4) only [go_sem, F3.f1, l12, l13]
          exact ⟨_, rfl, by simp -implicitDefEqProofs (maxDischargeDepth := 4) only [go_sem], by simp -implicitDefEqProofs (maxDischargeDepth := 4) only [go_sem]⟩
        refine ⟨.ret, fr4, G, ?_, .inl ⟨rfl, least, r4, r5, .inl ⟨rfl, wj, fun c' w => ?_⟩⟩⟩
        · rw [dl64_1, x_cont1 e1, x_block, x_cont1 p9, x_assoc, x_cont1 p10, x_cont1 eL, x_seq, e4]
          rfl
        · rcases I.low hgr w with ⟨h, _⟩ | ⟨u, c, h, h'⟩
          · exact absurd h I.ns
          · exact Int.le_trans (hmin u c h) h'
      · obtain ⟨y, hy, hyk⟩ := way_to wj
        have hyl := shp_len (hg.sh y (List.mem_of_getElem? hy))
        have hst0 : (mGet j st).getD 0 = 0 := by unfold Stl at hjs; omega
        have hne : ¬ (j : Int) = (s : Int) := by omega
        obtain ⟨fr4, e4, F4, m12, m13⟩ : ∃ fr4 : PT, ex cx D 0 64 81 (.seq (.region 17 g64_17 false) (.cond (.tmp 67) (.seq (.region 18 g64_18 false) .ret) .skip)) fr3 G = some (.normal, fr4, G) ∧ DFr fr4 a s ∧ fr4.get 12 = iv j ∧ fr4.get 13 = iv least := by
          simp -implicitDefEqProofs (maxDischargeDepth := 4) only [go_sem, F3.f1, l12, l13, hne]
          refine ⟨_, rfl, F3.of fun t ht => ?_, by simp -implicitDefEqProofs (maxDischargeDepth := 4) only [go_sem, l12], by simp -implicitDefEqProofs (maxDischargeDepth := 4) only [go_sem, l13]⟩
          rcases ht with rfl | rfl | rfl | rfl | rfl <;> simp -implicitDefEqProofs (maxDischargeDepth := 4) only [go_sem]
        have B1 := B.op (mDel j op)
        obtain ⟨fr5, e5, F5, n12, n13⟩ : ∃ fr5 : PT, ex cx D 0 64 81 (.region 19 g64_19 false) fr4 G = some (.normal, fr5, G.set 1 (.mapo (mEs (mDel j op)))) ∧ DFr fr5 a s ∧ fr5.get 12 = iv j ∧ fr5.get 13 = iv least := by
          simp -implicitDefEqProofs (maxDischargeDepth := 4) only [go_sem, F4.f9, m12, B.g1, B.g3, Nat.not_lt_zero]
          refine ⟨_, rfl, F4.of fun t ht => ?_, by simp -implicitDefEqProofs (maxDischargeDepth := 4) only [go_sem, m12], by simp -implicitDefEqProofs (maxDischargeDepth := 4) only [go_sem, m13]⟩
          rcases ht with rfl | rfl | rfl | rfl | rfl <;> simp -implicitDefEqProofs (maxDischargeDepth := 4) only [go_sem]
        generalize hG1 : G.set 1 (.mapo (mEs (mDel j op))) = G1 at e5 B1
        have hl1 : G1.length = m := by rw [← hG1, List.length_set, hG]
        obtain ⟨fr6, e6, F6, o12, o13⟩ : ∃ fr6 : PT, ex cx D 0 64 81 (.seq (.region 20 g64_20 false) (.cond (.tmp 74) (.exit 1) .skip)) fr5 G1 = some (.normal, fr6, G1) ∧ DFr fr6 a s ∧ fr6.get 12 = iv j ∧ fr6.get 13 = iv least := by
          simp -implicitDefEqProofs (maxDischargeDepth := 4) only [go_sem, F5.f10, n12, B1.g2, B1.g4, hst0]
          refine ⟨_, rfl, F5.of fun t ht => ?_, by simp -implicitDefEqProofs (maxDischargeDepth := 4) only [go_sem, n12], by simp -implicitDefEqProofs (maxDischargeDepth := 4) only [go_sem, n13]⟩
          rcases ht with rfl | rfl | rfl | rfl | rfl <;> simp -implicitDefEqProofs (maxDischargeDepth := 4) only [go_sem]
        have B2 := B1.st (mSet j 1 st)
        obtain ⟨fr7, e7, F7, q12, q13⟩ : ∃ fr7 : PT, ex cx D 0 64 81 (.region 21 g64_21 false) fr6 G1 = some (.normal, fr7, G1.set 2 (.mapo (mEs (mSet j 1 st)))) ∧ DFr fr7 a s ∧ fr7.get 12 = iv j ∧ fr7.get 13 = iv least := by
          simp -implicitDefEqProofs (maxDischargeDepth := 4) only [go_sem, F6.f10, o12, B1.g2, B1.g4, Nat.not_lt_zero]
          refine ⟨_, rfl, F6.of fun t ht => ?_, by simp -implicitDefEqProofs (maxDischargeDepth := 4) only [go_sem, o12], by simp -implicitDefEqProofs (maxDischargeDepth := 4) only [go_sem, o13]⟩
          rcases ht with rfl | rfl | rfl | rfl | rfl <;> simp -implicitDefEqProofs (maxDischargeDepth := 4) only [go_sem]
        generalize hG2 : G1.set 2 (.mapo (mEs (mSet j 1 st))) = G2 at e7 B2
        have hl2 : G2.length = m := by rw [← hG2, List.length_set, hl1]
        obtain ⟨G3, hcall, B3, hl3⟩ := reach_call hns hy (Nat.le_trans hyl (by decide)) B2 least
        obtain ⟨fr8, e8, F8⟩ : ∃ fr8 : PT, ex cx D 0 64 81 (.region 22 g64_22 false) fr7 G2 = some (.normal, fr8, G3) ∧ DFr fr8 a s := by
          simp -implicitDefEqProofs (maxDischargeDepth := 4) only [go_sem, F7.f11, q12, q13, hcall]
          refine ⟨_, rfl, F7.of fun t ht => ?_⟩
          rcases ht with rfl | rfl | rfl | rfl | rfl <;> simp -implicitDefEqProofs (maxDischargeDepth := 4) only [go_sem]
        have hu := uns_settle st hjs ns.length hjn
        have hK : (2000000 : Int) * ((ns.length : Int) + 1 - (uns ns.length st : Int)) + 2000000 = 2000000 * ((ns.length : Int) + 1 - (uns ns.length (mSet j 1 st) : Int)) := by omega
        have I1 := (I.settle hgr hj2 hjs' hmin).mono (K' := 2000000 * ((ns.length : Int) + 1 - (uns ns.length (mSet j 1 st) : Int))) (fun _ _ h => h) (by omega)
        have I2 := I1.reach hgr (u := j) (so := least) (by omega) (by omega) (Kle hg.le _) (fun x hx => by
            obtain ⟨q, hq, _⟩ := hgr.to j x hx
            rw [hq, Int.toNat_natCast]
            exact .snoc wj (by rw [← hq]; exact hx)) (fun v hv => by
            by_cases e : v = j
            · rw [if_pos e]; exact Int.le_refl _
            · rw [if_neg e]
              exact I.m v ((stl_set_ne (by omega) st).1 hv) j least hj2)
        rw [oR_act hy hyk] at I2
        have I3 := I2.mono (A' := Src s (mSet j 1 st) (fun u => if u = j then least else dd u)) (fun u du h => by
            rcases h with h | ⟨h1, h2⟩
            · exact .inl (.inl h)
            · dsimp only at h2
              by_cases e : u = j
              · rw [if_pos e] at h2
                exact .inr ⟨e, h2⟩
              · rw [if_neg e] at h2
                exact .inl (.inr ⟨(stl_set_ne (by omega) st).1 h1, h2⟩)) (Int.le_refl _)
        have eb : ex cx D 0 64 81 (.block 1 (.seq (.region 9 g64_9 false) (.seq (.seq (.region 10 g64_10 false) (.block 2 (.loop l64_0))) (.seq (.seq (.region 17 g64_17 false) (.cond (.tmp 67) (.seq (.region 18 g64_18 false) .ret) .skip)) (.seq (.region 19 g64_19 false) (.seq (.seq (.region 20 g64_20 false) (.cond (.tmp 74) (.exit 1) .skip)) (.seq (.region 21 g64_21 false) (.region 22 g64_22 false)))))))) fr1 G = some (.normal, fr8, G3) := by
          rw [x_block, x_cont1 p9, x_assoc, x_cont1 p10, x_cont1 eL, x_cont1 e4, x_cont1 e5, x_cont1 e6, x_cont1 e7, e8]
          rfl
        rw [dl64_1, x_cont1 e1, eb, xbind_some, contR_normal, hG]
        refine trim_I (P := fun z => ∃ e fr' G', z = some (e, fr', G') ∧ Fin64 (oR ns) s e fr') (I := fun G => B64 G a _ _) (fun h hh => h.trim hns.sl hm) B3 [0, 1, 9, 10, 11] (by omega) (fun t ht => ?_) fun fr' G' hG' hB' hf hk' => ?_
        · simp only [List.mem_cons, List.not_mem_nil, or_false] at ht
          rcases ht with rfl | rfl | rfl | rfl | rfl
          · rw [F8.f0, kill_Sl hns.sl]
          · rw [F8.f1]; rfl
          · rw [F8.f9, kill_ptr (by omega)]
          · rw [F8.f10, kill_ptr (by omega)]
          · rw [F8.f11, kill_fn126 hm]
        · exact loop64_1 hns hg hs hm d fr' G' _ _ _ (by omega) hG' ⟨by rw [hf 0 (by simp), F8.f0], by rw [hf 1 (by simp), F8.f1], by rw [hf 9 (by simp), F8.f9], by rw [hf 10 (by simp), F8.f10], by rw [hf 11 (by simp), F8.f11]⟩ hB' I3
end Go.Abs.Tab

/- Order: order.Back, called. -/
set_option linter.unusedVariables false
namespace Go.Abs.Tab
open Go.Gr
def BackAt (ns : List Nd) (i : Int) (r : Int × Bool) : Prop := if (ordC ns).2 = 0 ∧ actN ns i = true then Back (oR ns) i.toNat r else r = (0, false)
theorem BackAt.uniq {ns : List Nd} {i : Int} {r r' : Int × Bool} (h : BackAt ns i r) (h' : BackAt ns i r') : r = r' := by
  unfold BackAt at h h'
  split at h
  · rename_i hc
    rw [if_pos hc] at h'
    exact h.uniq h'
  · rename_i hc
    rw [if_neg hc] at h'
    rw [h, h']
theorem actN_some {ns : List Nd} {i : Int} (h : actN ns i = true) : ∃ (s : Nat) (x : Nd), i = s ∧ ns[s]? = some x ∧ actK x.kind = true := by
  unfold actN at h
  rcases atN_cases (ns := ns) i with ⟨ha, _⟩ | ⟨s, x, h1, _, hx, ha⟩
  · rw [ha] at h; cases h
  · rw [ha] at h; exact ⟨s, x, h1, hx, h⟩
theorem back_call {ns : List Nd} {a : AV} (hns : NsOk ns a) (i : Int) : ∃ r H', callB cx D 0 64 [a, iv i] [] = some (jmpV r, H') ∧ BackAt ns i r := by
  have h67 := ord_ok hns
  have h125 := acts_ok hns i
  have ea : elP false 1 a 0 = some a := elP_Sl hns.sl
  unfold errV at h67
  by_cases h0 : (ordC ns).2 = 0
  rotate_left
  · refine ⟨(0, false), ?_⟩
    unfold BackAt
    rw [if_neg (fun h => h0 h.1)]
    generalize (ordC ns).1 = w at h67
    generalize (ordC ns).2 = v at h67 h0
    rw [c64]
    simp -implicitDefEqProofs (maxDischargeDepth := 4) only [go_sem, hns.sl.shr, hns.sl.notOwn, hns.sl.drp, hns.sl.fitA, hns.sl.shut1, h67, h0, Nat.zero_le, Nat.le_refl, Nat.not_lt_zero]
    exact ⟨_, rfl⟩
  · cases hact : actN ns i with
    | false =>
      rw [hact] at h125
      refine ⟨(0, false), ?_⟩
      unfold BackAt
      rw [if_neg (fun h => by rw [hact] at h; cases h.2)]
      rw [h0] at h67
      generalize (ordC ns).1 = w at h67
      rw [c64]
      simp -implicitDefEqProofs (maxDischargeDepth := 4) only [go_sem, hns.sl.shr, hns.sl.notOwn, hns.sl.drp, hns.sl.fitA, hns.sl.shut1, ea, h67, h125, u_not, Nat.zero_le, Nat.le_refl, Nat.not_lt_zero]
      exact ⟨_, rfl⟩
    | true =>
      rw [hact] at h125
      rw [h0] at h67
      generalize (ordC ns).1 = w at h67
      obtain ⟨s, x, rfl, hx, hk⟩ := actN_some hact
      have hg := ord_good h0
      have hs := (List.getElem?_eq_some_iff.1 hx).1
      have hxl := shp_len (hg.sh x (List.mem_of_getElem? hx))
      have hB : ∀ r, BackAt ns s r ↔ Back (oR ns) s r := fun r => by unfold BackAt; rw [if_pos ⟨h0, hact⟩, Int.toNat_natCast]
      have B0 : B64 [.cells 1 212 [a], .mapo (mEs []), .mapo (mEs []), .cells 1 213 [.mp 1], .cells 1 213 [.mp 2]] a [] [] := ⟨rfl, rfl, rfl, rfl, rfl⟩
      obtain ⟨G1, hcall, B1, hl1⟩ := reach_call hns hx (Nat.le_trans hxl (by decide)) B0 0
      have hnil : mEs [] = [] := rfl
      rw [hnil] at hcall
      obtain ⟨fr0, e0, k0, k1⟩ : ∃ fr0 : PT, ex cx D 0 64 81 (.region 0 g64_0 false) ((PT.nil.set 0 (drp a)).set 1 (drp (iv s))) [] = some (.normal, fr0, []) ∧ fr0.get 0 = a ∧ fr0.get 1 = iv s := by
        simp -implicitDefEqProofs (maxDischargeDepth := 4) only [go_sem, hns.sl.drp]
        exact ⟨_, rfl, by simp -implicitDefEqProofs (maxDischargeDepth := 4) only [go_sem, hns.sl.drp], by simp -implicitDefEqProofs (maxDischargeDepth := 4) only [go_sem]⟩
      obtain ⟨fr1, e1, F1⟩ : ∃ fr1 : PT, ex cx D 0 64 81 (.seq (.region 1 g64_1 false) (.seq (.seq (.region 2 g64_2 false) (.seq (.region 3 g64_3 false) (.cond (.tmp 30) (.seq (.region 4 g64_4 false) .ret) .skip))) (.seq (.region 5 g64_5 false) (.seq (.region 6 g64_6 false) (.region 7 g64_7 false))))) fr0 [] = some (.normal, fr1, G1) ∧ DFr fr1 a s := by
        simp -implicitDefEqProofs (maxDischargeDepth := 4) only [go_sem, k0, k1, hns.sl.shr, hns.sl.notOwn, hns.sl.drp, hns.sl.fitA, hns.sl.shut1, ea, h67, h125, u_not, hcall, Nat.zero_le, Nat.le_refl, Nat.not_lt_zero]
        exact ⟨_, rfl, by simp -implicitDefEqProofs (maxDischargeDepth := 4) only [go_sem, k0], by simp -implicitDefEqProofs (maxDischargeDepth := 4) only [go_sem, k1], by simp -implicitDefEqProofs (maxDischargeDepth := 4) only [go_sem], by simp -implicitDefEqProofs (maxDischargeDepth := 4) only [go_sem], by simp -implicitDefEqProofs (maxDischargeDepth := 4) only [go_sem]⟩
      have I0 : Dij ns.length (oR ns) s 2000000 (fun _ _ => False) [] [] (fun _ => 0) :=
        ⟨keys_nil, fun v c h => (by cases h), fun u du h => h.elim, fun u h => absurd rfl h, fun h => h rfl⟩
      have hgr := oR_gph hg
      have I1 := I0.reach hgr (u := s) (so := 0) (Int.le_refl _) (by decide) (by decide) (fun y hy => by
        obtain ⟨q, hq, _⟩ := hgr.to s y hy
        rw [hq, Int.toNat_natCast, Int.zero_add]
        exact .one (by rw [← hq]; exact hy)) (fun v hv => absurd rfl hv)
      rw [oR_act hx hk] at I1
      have I2 := I1.mono (K' := 2000000 * ((ns.length : Int) + 1 - (uns ns.length [] : Int))) (A' := Src s [] (fun _ => 0)) (fun u du h => by
        rcases h with h | ⟨h1, h2⟩
        · exact .inr h
        · exact absurd rfl h1) (by rw [uns_nil]; omega)
      have h5 : 5 ≤ G1.length := by have := lt_of_get B1.g4; omega
      obtain ⟨e, fr2, G2, e2, hfin⟩ := loop64_1 hns hg hs h5 (uns ns.length []) fr1 G1 _ [] (fun _ => 0) (Nat.le_refl _) rfl F1 B1 I2
      obtain ⟨_, _, p1, r⟩ := x_split e1
      obtain ⟨_, _, p2, r⟩ := x_split r
      obtain ⟨_, _, p5, r⟩ := x_split r
      obtain ⟨_, _, p6, p7⟩ := x_split r
      have hlab : ∀ Z, ex cx D 0 64 81 (.seq (.label 0) Z) fr1 G1 = ex cx D 0 64 81 Z fr1 G1 := fun Z => x_cont1 rfl
      rcases hfin with ⟨rfl, c, r4, r5, hb⟩ | ⟨rfl, hb⟩
      · refine ⟨(c, true), G2, ?_, (hB _).2 hb⟩
        rw [c64, x_cont1 e0, x_scope, x_cont1 p1, x_cont1 p2, x_cont1 p5, x_cont1 p6, x_cont1 p7, hlab]
        rw [x_seq, x_block, x_loop, e2]
        simp -implicitDefEqProofs (maxDischargeDepth := 4) only [go_sem, r4, r5]
      · refine ⟨(0, false), G2, ?_, (hB _).2 hb⟩
        have e3 : ex cx D 0 64 81 (.block 0 (.loop l64_1)) fr1 G1 = some (.normal, fr2, G2) := by rw [x_block, x_loop, e2]; rfl
        rw [c64, x_cont1 e0, x_scope, x_cont1 p1, x_cont1 p2, x_cont1 p5, x_cont1 p6, x_cont1 p7, hlab, x_cont1 e3]
        simp -implicitDefEqProofs (maxDischargeDepth := 4) only [go_sem]
theorem back_ok {ns : List Nd} {a : AV} (hns : NsOk ns a) (i : Int) : ∃ r, pcall D 64 [a, iv i] = some (jmpV r) ∧ BackAt ns i r := by
  obtain ⟨r, H', h, hb⟩ := back_call hns i
  refine ⟨r, ?_, hb⟩
  rw [pcall_eq (v := jmpV r) (H' := H') (by rw [List.map_cons, List.map_cons, List.map_nil, hns.sl.cl2]; exact h)]
  rfl
end Go.Abs.Tab

/- Order: the document's Back: values made less, round by round, come to the least way back (a plain law). -/
set_option linter.unusedVariables false
namespace Go.Abs.Tab
open Go.Gr
def gi (ls : List Int) (v : Nat) : Int := ls.getD v 0
structure Snd (n : Nat) (R : Nat → List (Int × Int)) (s : Nat) (K : Int) (ls : List Int) : Prop where
  len : ls.length = n
  val : ∀ v, v < n → gi ls v = -1 ∨ (1 ≤ gi ls v ∧ gi ls v ≤ K ∧ Way R s v (gi ls v))
theorem Snd.mono {n : Nat} {R : Nat → List (Int × Int)} {s : Nat} {K K' : Int} {ls : List Int} (h : Snd n R s K ls) (hK : K ≤ K') : Snd n R s K' ls :=
  ⟨h.len, fun v hv => by
    rcases h.val v hv with h1 | ⟨h1, h2, h3⟩
    · exact .inl h1
    · exact .inr ⟨h1, Int.le_trans h2 hK, h3⟩⟩
def Dn (ls ls' : List Int) : Prop := ∀ v, 0 ≤ gi ls v → 0 ≤ gi ls' v ∧ gi ls' v ≤ gi ls v
theorem Dn.refl (ls : List Int) : Dn ls ls := fun v h => ⟨h, Int.le_refl _⟩
theorem Dn.trans {a b c : List Int} (h : Dn a b) (k : Dn b c) : Dn a c := fun v hv => by
  have h1 := h v hv
  have h2 := k v h1.1
  exact ⟨h2.1, Int.le_trans h2.2 h1.2⟩
/-! ways are cut short -/
end Go.Abs.Tab

/- Order: the document's Back, walked. -/
set_option linter.unusedVariables false
namespace Go.Abs.Tab
open Go.Gr
def bk3 (ls : List Int) : Hp := [.cells 1 3 (ls.map iv)]
@[go_sem] theorem bk3_get (ls : List Int) : cellsB (bk3 ls)[0]? = some (1, 3, ls.map iv) := nr rfl
@[go_sem] theorem bk3_set (ls : List Int) (i : Nat) (x : Int) : (bk3 ls).set 0 (.cells 1 3 ((ls.map iv).set i (iv x))) = bk3 (ls.set i x) := by
  unfold bk3
  rw [List.map_set]
  rfl
structure PFr (fr : PT) (a : AV) (s n : Nat) : Prop where
  f0 : fr.get 0 = a
  f1 : fr.get 1 = iv s
  f8 : fr.get 8 = .sl 0 1 0 n n
theorem PFr.of {fr fr' : PT} {a : AV} {s n : Nat} (F : PFr fr a s n) (h : ∀ t, (t = 0 ∨ t = 1 ∨ t = 8) → fr'.get t = fr.get t) : PFr fr' a s n :=
  ⟨by rw [h 0 (by simp), F.f0], by rw [h 1 (by simp), F.f1], by rw [h 8 (by simp), F.f8]⟩
structure KFr65 (fr : PT) (a : AV) (s n r i : Nat) (so : Int) : Prop extends PFr fr a s n where
  f10 : fr.get 10 = iv r
  f11 : fr.get 11 = iv i
  f12 : fr.get 12 = iv so
theorem KFr65.of {fr fr' : PT} {a : AV} {s n r i : Nat} {so : Int} (F : KFr65 fr a s n r i so) (h : ∀ t, (t = 0 ∨ t = 1 ∨ t = 8 ∨ t = 10 ∨ t = 11 ∨ t = 12) → fr'.get t = fr.get t) : KFr65 fr' a s n r i so :=
  ⟨F.toPFr.of fun t ht => h t (by rcases ht with rfl | rfl | rfl <;> simp), by rw [h 10 (by simp), F.f10], by rw [h 11 (by simp), F.f11], by rw [h 12 (by simp), F.f12]⟩
end Go.Abs.Tab

/- Order: the document's Back is the least way back. -/
set_option linter.unusedVariables false
namespace Go.Abs.Tab
open Go.Gr
structure NFr65 (fr : PT) (a : AV) (s n r i : Nat) : Prop extends PFr fr a s n where
  f10 : fr.get 10 = iv r
  f11 : fr.get 11 = iv i
theorem NFr65.of {fr fr' : PT} {a : AV} {s n r i : Nat} (F : NFr65 fr a s n r i) (h : ∀ t, (t = 0 ∨ t = 1 ∨ t = 8 ∨ t = 10 ∨ t = 11) → fr'.get t = fr.get t) : NFr65 fr' a s n r i :=
  ⟨F.toPFr.of fun t ht => h t (by rcases ht with rfl | rfl | rfl <;> simp), by rw [h 10 (by simp), F.f10], by rw [h 11 (by simp), F.f11]⟩
end Go.Abs.Tab

/- Order: works. -/
set_option linter.unusedVariables false
namespace Go.Abs.Tab
open Go.Gr
theorem build66_w3 (k p : Int) (l : List AV) : abuild cx.T 66 [(0, iv k), (1, iv p), (4, .vec 2 .exact l)] = some (.agg [iv k, iv p, bv false, iv 0, iv 0, .vec 2 .exact l]) := nr (by kernel_rfl)
theorem build66_w5 (k p : Int) (c : Bool) (t s : Int) (l : List AV) : abuild cx.T 66 [(0, iv k), (1, iv p), (2, bv c), (3, .agg [iv t, iv s]), (4, .vec 2 .exact l)] = some (.agg [iv k, iv p, bv c, iv t, iv s, .vec 2 .exact l]) := nr (by kernel_rfl)
theorem build66_w2 (k : Int) (c : Bool) (l : List AV) : abuild cx.T 66 [(0, iv k), (2, bv c), (4, .vec 2 .exact l)] = some (.agg [iv k, iv 0, bv c, iv 0, iv 0, .vec 2 .exact l]) := nr (by kernel_rfl)
theorem build63_0 (a : Int) : abuild cx.T 63 [(0, iv a)] = some (.agg [iv a, iv 0]) := nr (by kernel_rfl)
theorem word_ok (k p t s : Int) : pcall D 71 [iv k, iv p, iv t, iv s] = some (.agg [iv k, iv p, bv false, iv 0, iv 0, .vec 2 .exact [.agg [iv t, iv s]]]) := by
  have h : ∃ H', callB cx D 0 71 [iv k, iv p, iv t, iv s] [] = some (.agg [iv k, iv p, bv false, iv 0, iv 0, .vec 2 .exact [.agg [iv t, iv s]]], H') := by
    rw [c71]
    simp -implicitDefEqProofs (maxDischargeDepth := 4) only [go_sem, build63', build66_w3, Nat.zero_le, Nat.le_refl, Nat.not_lt_zero]
    exact ⟨_, rfl⟩
  obtain ⟨H', h⟩ := h
  rw [pcall_eq (vs := [iv k, iv p, iv t, iv s]) (v := .agg [iv k, iv p, bv false, iv 0, iv 0, .vec 2 .exact [.agg [iv t, iv s]]]) (H' := H') h]
  rfl
def oA : List Nd := [mkNd 1 0 false 0 0 [(1, 0)], mkNd 2 1 false 0 0 [(0, 2)]]
def oB : List Nd := [mkNd 1 0 false 0 0 [(1, 0)], mkNd 2 1 false 0 0 [(0, 1)]]
def oC : List Nd := [mkNd 1 3 true 1 0 [(1, 0)], niN 0 0 false 0 0]
theorem pair_ok {x y : Nd} (hx : NdOk x) (hy : NdOk y) : NsOk [x, y] (.vec 6 .exact [nodeV x, nodeV y]) := by
  refine ⟨.inl rfl, fun z hz => ?_, show 2 < 2 ^ 30 by decide⟩
  simp only [List.mem_cons, List.not_mem_nil, or_false] at hz
  rcases hz with rfl | rfl
  · exact hx
  · exact hy
theorem way_pos {n : Nat} {R : Nat → List (Int × Int)} {M : Int} (G : Gph n R M) {s v : Nat} {c : Int} (w : Way R s v c) : 1 ≤ c := by
  induction w with
  | one h => exact G.lo _ _ h
  | snoc _ h ih =>
    have := G.lo _ _ h
    dsimp only at this
    omega
theorem way_none {R : Nat → List (Int × Int)} {s v : Nat} {c : Int} (h : R s = []) (w : Way R s v c) : False := by
  induction w with
  | one hr => rw [h] at hr; cases hr
  | snoc _ _ ih => exact ih
theorem way_two {n : Nat} {R : Nat → List (Int × Int)} {M : Int} (G : Gph n R M) {s : Nat} (h0 : ∀ r, ((s : Int), r) ∉ R s) {c : Int} (w : Way R s s c) : 2 ≤ c := by
  cases w with
  | one h => exact absurd h (h0 _)
  | snoc w h =>
    have h1 := way_pos G w
    have h2 := G.lo _ _ h
    dsimp only at h2
    omega
abbrev vA : AV := .vec 6 .exact [.agg [iv 1, iv 0, bv false, iv 0, iv 0, .vec 2 .exact [.agg [iv 1, iv 0]]], .agg [iv 2, iv 1, bv false, iv 0, iv 0, .vec 2 .exact [.agg [iv 0, iv 2]]]]
abbrev vB : AV := .vec 6 .exact [.agg [iv 1, iv 0, bv false, iv 0, iv 0, .vec 2 .exact [.agg [iv 1, iv 0]]], .agg [iv 2, iv 1, bv false, iv 0, iv 0, .vec 2 .exact [.agg [iv 0, iv 1]]]]
abbrev vC : AV := .vec 6 .exact [.agg [iv 1, iv 3, bv true, iv 1, iv 0, .vec 2 .exact [.agg [iv 1, iv 0]]], .agg [iv 0, iv 0, bv false, iv 0, iv 0, .lit (.slice none 0 0)]]
abbrev vD : AV := .vec 6 .exact [.agg [iv 1, iv 0, bv true, iv 0, iv 0, .vec 2 .exact [.agg [iv 1, iv 0]]], .agg [iv 0, iv 0, bv false, iv 0, iv 0, .lit (.slice none 0 0)]]
theorem backA : BackAt oA 0 (2, true) := by
  have h0 : (ordC oA).2 = 0 := by decide
  have hg := oR_gph (ord_good h0)
  unfold BackAt
  rw [if_pos ⟨h0, by decide⟩]
  refine .inl ⟨rfl, ?_, fun c' w => way_two hg (s := 0) (fun r hr => ?_) w⟩
  · exact Way.snoc (s := 0) (v := 0) (u := 1) (c := 1) (r := 1) (.one (show (((1 : Nat) : Int), (1 : Int)) ∈ oR oA 0 by decide)) (show (((0 : Nat) : Int), (1 : Int)) ∈ oR oA 1 by decide)
  · rw [show oR oA 0 = [(1, 1)] by decide] at hr
    simp at hr
theorem backB : BackAt oB 0 (0, false) := by
  unfold BackAt
  rw [if_neg (fun h => absurd h.1 (by decide))]
theorem backC : BackAt oC 0 (0, false) := by
  unfold BackAt
  rw [if_pos ⟨by decide, by decide⟩]
  exact .inr ⟨rfl, fun c' w => way_none (show oR oC 0 = [] by decide) w⟩
theorem back_is {ns : List Nd} {a : AV} (hns : NsOk ns a) {i : Int} {r : Int × Bool} (h : BackAt ns i r) : pcall D 64 [a, iv i] = some (jmpV r) := by
  obtain ⟨r', h1, h2⟩ := back_ok hns i
  rw [h.uniq h2]
  exact h1
theorem oworks_call : ∃ H', callB cx D 0 66 [] [] = some (bv true, H') := by
  have kA := pair_ok (mkNd_ok 1 0 false 0 0 [(1, 0)]) (mkNd_ok 2 1 false 0 0 [(0, 2)])
  have kB := pair_ok (mkNd_ok 1 0 false 0 0 [(1, 0)]) (mkNd_ok 2 1 false 0 0 [(0, 1)])
  have kC := pair_ok (mkNd_ok 1 3 true 1 0 [(1, 0)]) (niN_ok 0 0 false 0 0)
  have kD := pair_ok (mkNd_ok 1 0 true 0 0 [(1, 0)]) (niN_ok 0 0 false 0 0)
  have a1 : pcall D 67 [vA] = some (.tup [iv (-1), iv 0]) := by
    have := ord_ok kA
    rw [show ordC [mkNd 1 0 false 0 0 [(1, 0)], mkNd 2 1 false 0 0 [(0, 2)]] = (-1, 0) by decide] at this
    exact this
  have a2 : pcall D 67 [vB] = some (.tup [iv 1, iv 10]) := by
    have := ord_ok kB
    rw [show ordC [mkNd 1 0 false 0 0 [(1, 0)], mkNd 2 1 false 0 0 [(0, 1)]] = (1, 10) by decide] at this
    exact this
  have a3 : pcall D 67 [vC] = some (.tup [iv (-1), iv 0]) := by
    have := ord_ok kC
    rw [show ordC [mkNd 1 3 true 1 0 [(1, 0)], niN 0 0 false 0 0] = (-1, 0) by decide] at this
    exact this
  have a4 : pcall D 67 [vD] = some (.tup [iv 0, iv 10]) := by
    have := ord_ok kD
    rw [show ordC [mkNd 1 0 true 0 0 [(1, 0)], niN 0 0 false 0 0] = (0, 10) by decide] at this
    exact this
  have b1 : pcall D 64 [vA, iv 0] = some (.tup [iv 2, bv true]) := back_is kA (i := 0) backA
  have b2 : pcall D 64 [vB, iv 0] = some (.tup [iv 0, bv false]) := back_is kB (i := 0) backB
  have b3 : pcall D 64 [vC, iv 0] = some (.tup [iv 0, bv false]) := back_is kC (i := 0) backC
  rw [c66]
  simp -implicitDefEqProofs (maxDischargeDepth := 4) only [go_sem, word_ok, build63_0, build66_w5, build66_w2, build66_0, a1, a2, a3, a4, b1, b2, b3, u_not]
  exact ⟨_, rfl⟩
theorem oworks_ok : pcall D 66 [] = some (bv true) := by
  obtain ⟨H', h⟩ := oworks_call
  rw [pcall_eq (vs := []) (v := bv true) (H' := H') (by rw [List.map_nil]; exact h)]
  rfl
end Go.Abs.Tab

/- Order: the document's Back, called; the statement OrderBacks. -/
set_option linter.unusedVariables false
namespace Go.Abs.Tab
open Go.Gr
end Go.Abs.Tab

/- Slices of bytes, read. -/
set_option linter.unusedVariables false
namespace Go.Abs.Tab
open Go.Gr
abbrev byV (n : Int) : AV := .lit (.int .u8 n)
end Go.Abs.Tab

/- Order: a step along a way, in a table whose priorities rise (a plain law). -/
set_option linter.unusedVariables false
namespace Go.Abs.Tab
open Go.Gr
theorem wlk_add2 {ns : List Nd} (hs : Small ns) {d : Int} (hd : 0 ≤ d ∧ d ≤ 1000000000) : ∀ {k : Nat} {n o m o' : Int}, wlk ns k n o = (m, o') → 0 ≤ m → 0 ≤ o → o + 1000 * k ≤ 800000 → wlk ns k n (o + d) = (m, o' + d) ∧ 0 ≤ o' ∧ o' ≤ 800000
  | 0, n, o, m, o', h, hm, h0, h1 => by simp only [wlk, Prod.mk.injEq] at h; omega
  | k + 1, n, o, m, o', h, hm, h0, h1 => by
    rcases atN_cases (ns := ns) n with ⟨ha, _⟩ | ⟨q, x, rfl, hq, hx, ha⟩
    · rw [wlk_out ha] at h; cases h; omega
    · by_cases h5 : x.kind = 5
      · by_cases hl : x.es.length = 1
        · obtain ⟨e, he⟩ := List.length_eq_one_iff.1 hl
          have hse := hs x (List.mem_of_getElem? hx) e (by rw [he]; simp)
          rw [wlk_one ha h5 he] at h ⊢
          rw [wrapK_i64 (by omega) (by omega)] at h ⊢
          have := wlk_add2 hs hd h hm (by omega) (by omega)
          rw [show o + d + e.2 = o + e.2 + d by omega]
          exact this
        · rw [wlk_bad ha h5 hl] at h; cases h; omega
      · rw [wlk_ne ha h5] at h ⊢; cases h
        exact ⟨rfl, by omega, by omega⟩
theorem oE_wide {x : Nd} (h : shp x = true) : ∀ e ∈ oE x, 0 ≤ e.2 ∧ e.2 ≤ 1000 := by
  unfold shp at h
  simp only [Bool.and_eq_true, Bool.not_eq_true'] at h
  have h1 := h.2
  rw [List.any_eq_false] at h1
  intro e he
  have h2 := h1 e (by unfold edg; unfold oE at he; cases hc : x.chan <;> rw [hc] at he <;> simpa using he)
  have : inB e.2 1000 = true := by simpa [wide] using h2
  exact inB_iff.1 this
/-- where a way is, and how far it has risen -/
def At (R : Nat → List (Int × Int)) (s : Nat) (i : Nat) (q : Nat) (c : Int) : Prop := (i = 0 ∧ q = s ∧ c = 0) ∨ (Way R s q c ∧ (i : Int) ≤ c)
theorem At.hop {ns : List Nd} {s i q : Nat} {c : Int} (h : At (oR ns) s i q c) {x : Nd} (hx : ns[q]? = some x) (hk : actK x.kind = true) {e : Int × Int} (he : e ∈ x.es) {m : Nat} {r : Int} (hr : rise1 ns x.prio e = some ((m : Int), r)) (h1 : 1 ≤ r) : Way (oR ns) s m (c + r) ∧ ((i + 1 : Nat) : Int) ≤ c + r := by
  have hm : ((m : Int), r) ∈ oR ns q := by
    rw [oR_act hx hk]
    exact List.mem_filterMap.2 ⟨e, he, hr⟩
  rcases h with ⟨rfl, rfl, rfl⟩ | ⟨w, hc⟩
  · rw [Int.zero_add]
    exact ⟨.one hm, by omega⟩
  · exact ⟨.snoc w hm, by omega⟩
end Go.Abs.Tab

/- Order: the statement OrderRises, a round of its loop. -/
set_option linter.unusedVariables false
namespace Go.Abs.Tab
open Go.Gr
structure RiFr (fr : PT) (a w : AV) (s : Nat) (least first : Int) (bk : Int × Bool) (i : Nat) : Prop where
  f0 : fr.get 0 = a
  f2 : fr.get 2 = w
  f9 : fr.get 9 = .ptr 0 0 0
  f10 : fr.get 10 = iv s
  f11 : fr.get 11 = iv least
  f12 : fr.get 12 = iv first
  f13 : fr.get 13 = iv bk.1
  f14 : fr.get 14 = bv bk.2
  f15 : fr.get 15 = iv i
theorem RiFr.of {fr fr' : PT} {a w : AV} {s : Nat} {least first : Int} {bk : Int × Bool} {i : Nat} (F : RiFr fr a w s least first bk i) (h : ∀ t, (t = 0 ∨ t = 2 ∨ t = 9 ∨ t = 10 ∨ t = 11 ∨ t = 12 ∨ t = 13 ∨ t = 14 ∨ t = 15) → fr'.get t = fr.get t) : RiFr fr' a w s least first bk i :=
  ⟨by rw [h 0 (by simp), F.f0], by rw [h 2 (by simp), F.f2], by rw [h 9 (by simp), F.f9], by rw [h 10 (by simp), F.f10], by rw [h 11 (by simp), F.f11], by rw [h 12 (by simp), F.f12], by rw [h 13 (by simp), F.f13], by rw [h 14 (by simp), F.f14], by rw [h 15 (by simp), F.f15]⟩
end Go.Abs.Tab

/- Order: the statement OrderRises. -/
set_option linter.unusedVariables false
namespace Go.Abs.Tab
open Go.Gr
end Go.Abs.Tab

/- Order: tables with all priorities higher, and with steeper edges (a plain law). -/
set_option linter.unusedVariables false
namespace Go.Abs.Tab
open Go.Gr
/-- two tables, node by node -/
structure Rel (P : Nd → Nd → Prop) (xs ys : List Nd) : Prop where
  len : xs.length = ys.length
  at' : ∀ (i : Nat) (x y : Nd), xs[i]? = some x → ys[i]? = some y → P x y
theorem Rel.nil (P : Nd → Nd → Prop) : Rel P [] [] := ⟨rfl, fun i x y h => by simp at h⟩
theorem Rel.snoc {P : Nd → Nd → Prop} {xs ys : List Nd} (h : Rel P xs ys) {x y : Nd} (hp : P x y) : Rel P (xs ++ [x]) (ys ++ [y]) := by
  refine ⟨by rw [List.length_append, List.length_append, h.len]; rfl, fun i u v hu hv => ?_⟩
  by_cases hi : i < xs.length
  · rw [List.getElem?_append_left hi] at hu
    rw [List.getElem?_append_left (by rw [← h.len]; exact hi)] at hv
    exact h.at' i u v hu hv
  · rw [List.getElem?_append_right (by omega)] at hu
    rw [List.getElem?_append_right (by rw [← h.len]; omega), ← h.len] at hv
    cases hk : i - xs.length with
    | zero => rw [hk] at hu hv; cases hu; cases hv; exact hp
    | succ k => rw [hk] at hu; simp at hu
theorem Rel.get {P : Nd → Nd → Prop} {xs ys : List Nd} (h : Rel P xs ys) {i : Nat} {x : Nd} (hx : xs[i]? = some x) : ∃ y, ys[i]? = some y ∧ P x y := by
  have hi := (List.getElem?_eq_some_iff.1 hx).1
  obtain ⟨y, hy⟩ := ex_nd (ns := ys) (i := i) (by rw [← h.len]; exact hi)
  exact ⟨y, hy, h.at' i x y hx hy⟩
theorem Rel.get' {P : Nd → Nd → Prop} {xs ys : List Nd} (h : Rel P xs ys) {i : Nat} {y : Nd} (hy : ys[i]? = some y) : ∃ x, xs[i]? = some x ∧ P x y := by
  have hi := (List.getElem?_eq_some_iff.1 hy).1
  obtain ⟨x, hx⟩ := ex_nd (ns := xs) (i := i) (by rw [h.len]; exact hi)
  exact ⟨x, hx, h.at' i x y hx hy⟩
theorem Rel.mem' {P : Nd → Nd → Prop} {xs ys : List Nd} (h : Rel P xs ys) {y : Nd} (hy : y ∈ ys) : ∃ x ∈ xs, P x y := by
  obtain ⟨i, hi⟩ := List.getElem?_of_mem hy
  obtain ⟨x, hx, hp⟩ := h.get' hi
  exact ⟨x, List.mem_of_getElem? hx, hp⟩
theorem Rel.none {P : Nd → Nd → Prop} {xs ys : List Nd} (h : Rel P xs ys) {n : Int} : (atN xs n = none → atN ys n = none) ∧ ∀ x, atN xs n = some x → ∃ y, atN ys n = some y ∧ P x y := by
  unfold atN
  by_cases h0 : n < 0
  · rw [if_pos h0, if_pos h0]
    exact ⟨fun _ => rfl, fun x hx => by cases hx⟩
  · rw [if_neg h0, if_neg h0]
    refine ⟨fun hn => ?_, fun x hx => h.get hx⟩
    rw [List.getElem?_eq_none_iff] at hn ⊢
    rw [← h.len]
    exact hn
/-! all priorities of nodes that act higher by the same -/
structure Hi (k : Int) (x y : Nd) : Prop where
  kd : y.kind = x.kind
  ch : y.chan = x.chan
  pt : y.pt = x.pt
  ps : y.ps = x.ps
  es : y.es = x.es
  pr : (actK x.kind = true ∧ 0 ≤ x.prio ∧ x.prio < 500 ∧ y.prio = x.prio + k) ∨ (¬ (actK x.kind = true ∧ 0 ≤ x.prio) ∧ y.prio = x.prio)
theorem frm_act {k : Int} (h : actK k = true) : (frm k).2.2.2 = false := by
  unfold actK at h
  simp only [Bool.and_eq_true, decide_eq_true_eq] at h
  unfold frm
  repeat' split
  all_goals first | rfl | omega
theorem Hi.edg {k : Int} {x y : Nd} (h : Hi k x y) : edg y = edg x := by unfold Tab.edg; rw [h.es, h.ch, h.pt, h.ps]
theorem Hi.oE {k : Int} {x y : Nd} (h : Hi k x y) : oE y = oE x := by unfold Tab.oE; rw [h.es, h.ch, h.pt, h.ps]
theorem inB_hi {p k : Int} (hk : 0 ≤ k ∧ k ≤ 255) (h1 : 0 ≤ p) (h2 : p < 500) : inB (p + k) 1000 = inB p 1000 := by
  unfold inB
  rw [show decide (0 ≤ p + k) = true by simp; omega, show decide (p + k ≤ 1000) = true by simp; omega, show decide (0 ≤ p) = true by simp; omega, show decide (p ≤ 1000) = true by simp; omega]
theorem Hi.shp {k : Int} (hk : 0 ≤ k ∧ k ≤ 255) {x y : Nd} (h : Hi k x y) : shp y = shp x := by
  unfold Tab.shp
  rw [h.edg, h.kd, h.es, h.ch, h.pt, h.ps]
  rcases h.pr with ⟨h1, h2, h3, h4⟩ | ⟨_, h4⟩
  · rw [h4, inB_hi hk h2 h3, frm_act h1, Bool.false_and, Bool.false_and]
  · rw [h4]
theorem Hi.opn {k : Int} {x y : Nd} (h : Hi k x y) (n : Int) : opn n y = opn n x := by unfold Tab.opn; rw [h.es, h.ch, h.pt, h.ps]
theorem chkA_rel {P : Nd → Nd → Prop} {N : Int} (h1 : ∀ x y, P x y → shp y = shp x ∧ opn N y = opn N x) : ∀ (xs ys : List Nd) (i : Nat), Rel P xs ys → chkA N i ys = chkA N i xs
  | [], [], _, _ => rfl
  | [], y :: ys, _, h => by have := h.len; simp at this
  | x :: xs, [], _, h => by have := h.len; simp at this
  | x :: xs, y :: ys, i, h => by
    have hp := h.at' 0 x y rfl rfl
    have hr : Rel P xs ys := ⟨by have := h.len; simpa using this, fun j u v hu hv => h.at' (j + 1) u v hu hv⟩
    unfold chkA
    rw [(h1 x y hp).1, (h1 x y hp).2, chkA_rel h1 xs ys (i + 1) hr]
theorem wlk_hi {k : Int} {xs ys : List Nd} (h : Rel (Hi k) xs ys) : ∀ (d : Nat) (n o : Int), wlk ys d n o = wlk xs d n o
  | 0, n, o => rfl
  | d + 1, n, o => by
    obtain ⟨h1, h2⟩ := h.none (n := n)
    rcases ha : atN xs n with _ | x
    · rw [wlk_out ha, wlk_out (h1 ha)]
    · obtain ⟨y, hy, hp⟩ := h2 x ha
      by_cases h5 : x.kind = 5
      · have h5' : y.kind = 5 := by rw [hp.kd, h5]
        by_cases hl : x.es.length = 1
        · obtain ⟨e, he⟩ := List.length_eq_one_iff.1 hl
          rw [wlk_one ha h5 he, wlk_one hy h5' (by rw [hp.es, he]), wlk_hi h d]
        · rw [wlk_bad ha h5 hl, wlk_bad hy h5' (by rw [hp.es]; exact hl)]
      · rw [wlk_ne ha h5, wlk_ne hy (by rw [hp.kd]; exact h5)]
theorem chkB_hi {k : Int} {xs ys : List Nd} (h : Rel (Hi k) xs ys) : ∀ (d i : Nat), chkB ys d i = chkB xs d i
  | 0, _ => rfl
  | d + 1, i => by
    unfold chkB bad
    rw [wlk_hi h, ← h.len, chkB_hi h d]
theorem chk_hi {k : Int} (hk : 0 ≤ k ∧ k ≤ 255) {xs ys : List Nd} (h : Rel (Hi k) xs ys) : chk ys = chk xs := by
  unfold chk
  rw [← h.len, chkA_rel (fun x y hp => ⟨hp.shp hk, hp.opn _⟩) xs ys 0 h, chkB_hi h]
theorem rise1_hi {k : Int} (hk : 0 ≤ k ∧ k ≤ 255) {xs ys : List Nd} (h : Rel (Hi k) xs ys) (hg : Good xs) {x y : Nd} (hx : x ∈ xs) (hp : Hi k x y) (ha : actK x.kind = true) {e : Int × Int} (he : 0 ≤ e.1 ∧ e.1 < (xs.length : Int)) (hw : 0 ≤ e.2 ∧ e.2 ≤ 1000) : rise1 ys y.prio e = rise1 xs x.prio e := by
  have hsm : Small xs := fun z hz => shp_small (hg.sh z hz)
  have hle := hg.le
  obtain ⟨i, hi⟩ : ∃ i : Nat, e.1 = i := ⟨e.1.toNat, by omega⟩
  obtain ⟨m, o', z, h1, h2, h3⟩ := good_walk1 hg (i := i) (by omega) e.2
  have h4 := wlk_add2 hsm (d := 0) (by omega) h1 (by omega) hw.1 (by omega)
  obtain ⟨u, hu, hz⟩ := h.get h2
  have hm := (List.getElem?_eq_some_iff.1 h2).1
  have a1 : atN xs m = some z := by unfold atN; rw [if_neg (by omega), Int.toNat_natCast]; exact h2
  have a2 : atN ys m = some u := by unfold atN; rw [if_neg (by omega), Int.toNat_natCast]; exact hu
  have p1 := shp_prio (hg.sh x hx)
  have p2 := shp_prio (hg.sh z (List.mem_of_getElem? h2))
  unfold rise1
  rw [← h.len, wlk_hi h, hi, h1]
  dsimp only
  rw [a1, a2]
  dsimp only
  rw [hz.kd]
  split
  · rename_i hzk
    have e1 : y.prio = x.prio + k := by
      rcases hp.pr with ⟨_, _, _, h⟩ | ⟨h, _⟩
      · exact h
      · exact absurd ⟨ha, p1.1⟩ h
    have e2 : u.prio = z.prio + k := by
      rcases hz.pr with ⟨_, _, _, h⟩ | ⟨h, _⟩
      · exact h
      · exact absurd ⟨hzk, p2.1⟩ h
    rw [e1, e2, wrapK_i64 (n := z.prio + k + o') (by omega) (by omega), wrapK_i64 (n := z.prio + o') (by omega) (by omega), wrapK_i64 (by omega) (by omega), wrapK_i64 (by omega) (by omega)]
    congr 2
    omega
  · rfl
theorem fm_same {f g : Int × Int → Option (Int × Int)} : ∀ {l : List (Int × Int)}, (∀ e ∈ l, f e = g e) → l.filterMap f = l.filterMap g
  | [], _ => rfl
  | e :: l, h => by
    rw [List.filterMap_cons, List.filterMap_cons, h e (List.mem_cons_self ..), fm_same fun y hy => h y (List.mem_cons_of_mem _ hy)]
theorem rises_hi {k : Int} (hk : 0 ≤ k ∧ k ≤ 255) {xs ys : List Nd} (h : Rel (Hi k) xs ys) (hg : Good xs) {x y : Nd} (hx : x ∈ xs) (hp : Hi k x y) (ha : actK x.kind = true) {l : List (Int × Int)} (hl : ∀ e ∈ l, e ∈ oE x) : rises ys y.prio l = rises xs x.prio l := by
  unfold rises
  refine fm_same fun e he => ?_
  exact rise1_hi hk h hg hx hp ha (opn_all (hg.cl x hx) e (hl e he)) (oE_wide (hg.sh x hx) e (hl e he))
theorem oBad_hi {k : Int} (hk : 0 ≤ k ∧ k ≤ 255) {xs ys : List Nd} (h : Rel (Hi k) xs ys) (hg : Good xs) {x y : Nd} (hx : x ∈ xs) (hp : Hi k x y) : oBad ys y = oBad xs x := by
  unfold oBad
  rw [hp.kd, hp.oE]
  cases ha : actK x.kind with
  | false => rfl
  | true => rw [rises_hi hk h hg hx hp ha (fun e he => he)]
theorem oChk_hi {k : Int} (hk : 0 ≤ k ∧ k ≤ 255) {xs ys : List Nd} (h : Rel (Hi k) xs ys) (hg : Good xs) : ∀ (us bs : List Nd) (i : Nat), Rel (Hi k) us bs → (∀ x ∈ us, x ∈ xs) → oChk ys i bs = oChk xs i us
  | [], [], _, _, _ => rfl
  | [], y :: ys, _, h, _ => by have := h.len; simp at this
  | x :: xs, [], _, h, _ => by have := h.len; simp at this
  | x :: us, y :: bs, i, r, hm => by
    have hp := r.at' 0 x y rfl rfl
    have hr : Rel (Hi k) us bs := ⟨by have := r.len; simpa using this, fun j u v hu hv => r.at' (j + 1) u v hu hv⟩
    unfold oChk
    rw [oBad_hi hk h hg (hm x (List.mem_cons_self ..)) hp, oChk_hi hk h hg us bs (i + 1) hr (fun z hz => hm z (List.mem_cons_of_mem _ hz))]
theorem ordC_hi {k : Int} (hk : 0 ≤ k ∧ k ≤ 255) {xs ys : List Nd} (h : Rel (Hi k) xs ys) : ordC ys = ordC xs := by
  unfold ordC
  rw [chk_hi hk h]
  split
  · rename_i h0
    exact oChk_hi hk h (chk_good h0) xs ys 0 h (fun x hx => hx)
  · rfl
theorem actN_rel {P : Nd → Nd → Prop} (hP : ∀ x y, P x y → y.kind = x.kind) {xs ys : List Nd} (h : Rel P xs ys) (i : Int) : actN ys i = actN xs i := by
  obtain ⟨h1, h2⟩ := h.none (n := i)
  unfold actN
  rcases ha : atN xs i with _ | x
  · rw [h1 ha]
  · obtain ⟨y, hy, hp⟩ := h2 x ha
    rw [hy]
    dsimp only
    rw [hP x y hp]
theorem oR_hi {k : Int} (hk : 0 ≤ k ∧ k ≤ 255) {xs ys : List Nd} (h : Rel (Hi k) xs ys) (hg : Good xs) (u : Nat) : oR ys u = oR xs u := by
  unfold oR
  rcases hx : xs[u]? with _ | x
  · have : ys[u]? = none := by
      rw [List.getElem?_eq_none_iff] at hx ⊢
      rw [← h.len]
      exact hx
    rw [this]
  · obtain ⟨y, hy, hp⟩ := h.get hx
    rw [hy]
    dsimp only
    rw [hp.kd, hp.es]
    split
    · rename_i ha
      exact rises_hi hk h hg (List.mem_of_getElem? hx) hp ha (fun e he => by unfold oE; exact List.mem_append_left _ he)
    · rfl
theorem back_hi {k : Int} (hk : 0 ≤ k ∧ k ≤ 255) {xs ys : List Nd} (h : Rel (Hi k) xs ys) (i : Int) (r : Int × Bool) : BackAt ys i r ↔ BackAt xs i r := by
  unfold BackAt
  rw [ordC_hi hk h, actN_rel (fun x y hp => hp.kd) h]
  split
  · rename_i h0
    have : oR ys = oR xs := funext fun u => oR_hi hk h (ord_good h0.1).toGood u
    rw [this]
  · exact Iff.rfl
end Go.Abs.Tab

/- Order: a table with steeper edges (a plain law). -/
set_option linter.unusedVariables false
namespace Go.Abs.Tab
open Go.Gr
def stE (e : Int × Int) : Int × Int := if 0 ≤ e.2 ∧ e.2 < 900 then (e.1, e.2 + 1) else e
theorem stE_fst (e : Int × Int) : (stE e).1 = e.1 := by unfold stE; split <;> rfl
theorem stE_up (e : Int × Int) : e.2 ≤ (stE e).2 ∧ (stE e).2 ≤ e.2 + 1 := by unfold stE; split <;> first | omega | (dsimp only; omega)
theorem stE_in {e : Int × Int} (h : 0 ≤ e.2 ∧ e.2 ≤ 1000) : 0 ≤ (stE e).2 ∧ (stE e).2 ≤ 1000 := by unfold stE; split <;> first | omega | (dsimp only; omega)
structure St (x y : Nd) : Prop where
  kd : y.kind = x.kind
  pr : y.prio = x.prio
  ch : y.chan = x.chan
  pt : y.pt = x.pt
  ps : y.ps = x.ps
  es : y.es = x.es.map stE
theorem St.shp {x y : Nd} (h : St x y) (hx : shp x = true) : shp y = true := by
  have hw := oE_wide hx
  unfold Tab.shp at hx ⊢
  rw [h.kd, h.pr, h.ch, h.pt, h.ps, h.es, List.length_map]
  rw [Bool.and_eq_true] at hx ⊢
  refine ⟨hx.1, ?_⟩
  rw [Bool.not_eq_true', List.any_eq_false]
  intro e he
  have : 0 ≤ e.2 ∧ e.2 ≤ 1000 := by
    unfold edg at he
    rw [h.es, h.ch, h.pt, h.ps, List.mem_append] at he
    rcases he with he | he
    · obtain ⟨e0, he0, rfl⟩ := List.mem_map.1 he
      exact stE_in (hw e0 (by unfold oE; exact List.mem_append_left _ he0))
    · exact hw e (by unfold oE; exact List.mem_append_right _ he)
  unfold wide inB
  simp
  omega
theorem St.opn {x y : Nd} (h : St x y) {n : Int} (hx : opn n x = false) : opn n y = false := by
  unfold Tab.opn at hx ⊢
  rw [h.es, h.ch, h.pt, h.ps, List.any_map, ← hx]
  congr 1
  refine congrArg (fun f => List.any x.es f) (funext fun e => ?_)
  show outE n (stE e) = outE n e
  unfold outE
  rw [stE_fst]
theorem wlk_st {xs ys : List Nd} (h : Rel St xs ys) (hs : Small xs) : ∀ {d : Nat} {n o p m o' : Int}, wlk xs d n o = (m, o') → 0 ≤ m → 0 ≤ o → o ≤ p → p + 1001 * d ≤ 800000 → ∃ p', wlk ys d n p = (m, p') ∧ o' ≤ p' ∧ p' ≤ 800000
  | 0, n, o, p, m, o', hw, hm, h0, h1, h2 => by simp only [wlk, Prod.mk.injEq] at hw; omega
  | d + 1, n, o, p, m, o', hw, hm, h0, h1, h2 => by
    obtain ⟨k1, k2⟩ := h.none (n := n)
    rcases ha : atN xs n with _ | x
    · rw [wlk_out ha] at hw; cases hw; omega
    · obtain ⟨y, hy, hp⟩ := k2 x ha
      by_cases h5 : x.kind = 5
      · have h5' : y.kind = 5 := by rw [hp.kd, h5]
        by_cases hl : x.es.length = 1
        · obtain ⟨e, he⟩ := List.length_eq_one_iff.1 hl
          have hmx : x ∈ xs := by
            unfold atN at ha
            split at ha
            · cases ha
            · exact List.mem_of_getElem? ha
          have hse := hs x hmx e (by rw [he]; simp)
          have hup := stE_up e
          have hin := stE_in hse
          rw [wlk_one ha h5 he] at hw
          rw [wlk_one hy h5' (e := stE e) (by rw [hp.es, he]; rfl), stE_fst]
          rw [wrapK_i64 (by omega) (by omega)] at hw ⊢
          exact wlk_st h hs hw hm (by omega) (by omega) (by omega)
        · rw [wlk_bad ha h5 hl] at hw; cases hw; omega
      · rw [wlk_ne ha h5] at hw
        cases hw
        exact ⟨p, wlk_ne hy (by rw [hp.kd]; exact h5), h1, by omega⟩
theorem chkB_none {ns : List Nd} : ∀ (d i : Nat), (∀ j : Nat, i ≤ j → j < i + d → bad ns j = false) → chkB ns d i = (-1, 0)
  | 0, _, _ => rfl
  | d + 1, i, h => by
    unfold chkB
    rw [h i (Nat.le_refl _) (by omega), if_neg (by decide)]
    exact chkB_none d (i + 1) fun j h1 h2 => h j (by omega) (by omega)
theorem good_chk {ns : List Nd} (hg : Good ns) : (chk ns).2 = 0 := by
  have := hg.pos
  have := hg.le
  unfold chk
  rw [if_neg (by omega), if_neg (by omega), chkA_none (fun x hx => ⟨hg.sh x hx, hg.cl x hx⟩)]
  dsimp only
  rw [hg.nb]
theorem good_st {xs ys : List Nd} (h : Rel St xs ys) (hg : Good xs) : Good ys := by
  have hsm : Small xs := fun z hz => shp_small (hg.sh z hz)
  have hle := hg.le
  refine ⟨by rw [← h.len]; exact hg.pos, by rw [← h.len]; exact hle, fun y hy => ?_, fun y hy => ?_, ?_⟩
  · obtain ⟨x, hx, hp⟩ := h.mem' hy
    exact hp.shp (hg.sh x hx)
  · obtain ⟨x, hx, hp⟩ := h.mem' hy
    rw [← h.len]
    exact hp.opn (hg.cl x hx)
  · refine chkB_none _ _ fun j _ hj => ?_
    obtain ⟨m, o', z, h1, h2, h3⟩ := good_walk1 hg (i := j) (by rw [h.len]; omega) 0
    obtain ⟨p', h4, _⟩ := wlk_st h hsm h1 (by omega) (Int.le_refl _) (Int.le_refl _) (by omega)
    unfold bad
    rw [← h.len, h4]
    simp
theorem rise_st {xs ys : List Nd} (h : Rel St xs ys) (hg : Good xs) {x y : Nd} (hx : x ∈ xs) (hp : St x y) {e e' : Int × Int} (he : 0 ≤ e.1 ∧ e.1 < (xs.length : Int)) (hw : 0 ≤ e.2 ∧ e.2 ≤ 1000) (e1 : e'.1 = e.1) (e2 : e.2 ≤ e'.2 ∧ e'.2 ≤ e.2 + 1) :
    (rise1 xs x.prio e = none ∧ rise1 ys y.prio e' = none) ∨ ∃ (q : Nat) (r r' : Int), rise1 xs x.prio e = some ((q : Int), r) ∧ rise1 ys y.prio e' = some ((q : Int), r') ∧ r ≤ r' := by
  have hsm : Small xs := fun z hz => shp_small (hg.sh z hz)
  have hle := hg.le
  obtain ⟨i, hi⟩ : ∃ i : Nat, e.1 = i := ⟨e.1.toNat, by omega⟩
  obtain ⟨m, o', z, h1, h2, h3⟩ := good_walk1 hg (i := i) (by omega) e.2
  have h4 := wlk_add2 hsm (d := 0) (by omega) h1 (by omega) hw.1 (by omega)
  obtain ⟨p', h5, h6, h7⟩ := wlk_st h hsm (p := e'.2) h1 (by omega) hw.1 e2.1 (by omega)
  obtain ⟨u, hu, hz⟩ := h.get h2
  have hm := (List.getElem?_eq_some_iff.1 h2).1
  have a1 : atN xs m = some z := by unfold atN; rw [if_neg (by omega), Int.toNat_natCast]; exact h2
  have a2 : atN ys m = some u := by unfold atN; rw [if_neg (by omega), Int.toNat_natCast]; exact hu
  have p1 := shp_prio (hg.sh x hx)
  have p2 := shp_prio (hg.sh z (List.mem_of_getElem? h2))
  unfold rise1
  rw [← h.len, e1, hi, h1, h5]
  dsimp only
  rw [a1, a2]
  dsimp only
  rw [hz.kd, hz.pr, hp.pr]
  split
  · refine .inr ⟨m, _, _, rfl, rfl, ?_⟩
    rw [wrapK_i64 (n := z.prio + o') (by omega) (by omega), wrapK_i64 (n := z.prio + p') (by omega) (by omega), wrapK_i64 (by omega) (by omega), wrapK_i64 (by omega) (by omega)]
    omega
  · exact .inl ⟨rfl, rfl⟩
theorem ordC_of {ns : List Nd} (hg : OrdOk ns) : (ordC ns).2 = 0 := by
  have key : ∀ (l : List Nd) (i : Nat), (∀ x ∈ l, oBad ns x = false) → (oChk ns i l).2 = 0 := by
    intro l
    induction l with
    | nil => intro i _; rfl
    | cons x l ih =>
      intro i h
      unfold oChk
      rw [h x (List.mem_cons_self ..), if_neg (by decide)]
      exact ih _ fun y hy => h y (List.mem_cons_of_mem _ hy)
  unfold ordC
  rw [if_pos (good_chk hg.toGood)]
  exact key _ _ hg.up
theorem oE_st {x y : Nd} (hp : St x y) {e' : Int × Int} (he : e' ∈ oE y) : ∃ e ∈ oE x, e'.1 = e.1 ∧ e.2 ≤ e'.2 ∧ e'.2 ≤ e.2 + 1 := by
  unfold oE at he
  rw [hp.es, hp.ch, hp.pt, hp.ps, List.mem_append] at he
  rcases he with he | he
  · obtain ⟨e, h1, rfl⟩ := List.mem_map.1 he
    exact ⟨e, by unfold oE; exact List.mem_append_left _ h1, stE_fst e, stE_up e⟩
  · exact ⟨e', by unfold oE; exact List.mem_append_right _ he, rfl, Int.le_refl _, by omega⟩
theorem ord_st {xs ys : List Nd} (h : Rel St xs ys) (hg : OrdOk xs) : OrdOk ys := by
  refine ⟨good_st h hg.toGood, fun y hy => ?_⟩
  obtain ⟨x, hx, hp⟩ := h.mem' hy
  have hb := hg.up x hx
  unfold oBad at hb ⊢
  rw [hp.kd]
  cases ha : actK x.kind with
  | false => rfl
  | true =>
    rw [ha, Bool.true_and, List.any_eq_false] at hb
    rw [Bool.true_and, List.any_eq_false]
    intro r' hr'
    obtain ⟨e', he', hr1⟩ := rises_mem hr'
    obtain ⟨e, he, e1, e2⟩ := oE_st hp he'
    rcases rise_st h hg.toGood hx hp (opn_all (hg.cl x hx) e he) (oE_wide (hg.sh x hx) e he) e1 e2 with ⟨_, h2⟩ | ⟨q, r, s, h1, h2, h3⟩
    · rw [h2] at hr1; cases hr1
    · rw [h2] at hr1
      cases hr1
      have := hb ((q : Int), r) (List.mem_filterMap.2 ⟨e, he, h1⟩)
      simp only [lowR, decide_eq_true_eq] at this ⊢
      omega
theorem oR_st {xs ys : List Nd} (h : Rel St xs ys) (hg : Good xs) (u : Nat) : (∀ q r, (q, r) ∈ oR xs u → ∃ r', r ≤ r' ∧ (q, r') ∈ oR ys u) ∧ ∀ q r', (q, r') ∈ oR ys u → ∃ r, r ≤ r' ∧ (q, r) ∈ oR xs u := by
  constructor
  · intro q r hr
    obtain ⟨x, e, hx, hk, he, h1⟩ := oR_mem hr
    obtain ⟨y, hy, hp⟩ := h.get hx
    have hmx := List.mem_of_getElem? hx
    have heo : e ∈ oE x := by unfold oE; exact List.mem_append_left _ he
    rcases rise_st h hg hmx hp (opn_all (hg.cl x hmx) e heo) (oE_wide (hg.sh x hmx) e heo) (e' := stE e) (stE_fst e) (stE_up e) with ⟨h2, _⟩ | ⟨q', r1, r', h2, h3, h4⟩
    · rw [h2] at h1; cases h1
    · rw [h2] at h1
      cases h1
      refine ⟨r', h4, ?_⟩
      rw [oR_act hy (by rw [hp.kd]; exact hk), hp.es]
      exact List.mem_filterMap.2 ⟨stE e, List.mem_map_of_mem he, h3⟩
  · intro q r' hr
    obtain ⟨y, e', hy, hk, he', h1⟩ := oR_mem hr
    obtain ⟨x, hx, hp⟩ := h.get' hy
    have hmx := List.mem_of_getElem? hx
    rw [hp.es] at he'
    obtain ⟨e, he, rfl⟩ := List.mem_map.1 he'
    have heo : e ∈ oE x := by unfold oE; exact List.mem_append_left _ he
    rcases rise_st h hg hmx hp (opn_all (hg.cl x hmx) e heo) (oE_wide (hg.sh x hmx) e heo) (e' := stE e) (stE_fst e) (stE_up e) with ⟨_, h2⟩ | ⟨q', r1, r2, h2, h3, h4⟩
    · rw [h2] at h1; cases h1
    · rw [h3] at h1
      cases h1
      refine ⟨r1, h4, ?_⟩
      rw [oR_act hx (by rw [← hp.kd]; exact hk)]
      exact List.mem_filterMap.2 ⟨e, he, h2⟩
theorem way_up {R R' : Nat → List (Int × Int)} (h : ∀ u q r, (q, r) ∈ R u → ∃ r', r ≤ r' ∧ (q, r') ∈ R' u) {s v : Nat} {c : Int} (w : Way R s v c) : ∃ c', c ≤ c' ∧ Way R' s v c' := by
  induction w with
  | one hr => obtain ⟨r', h1, h2⟩ := h _ _ _ hr; exact ⟨r', h1, .one h2⟩
  | snoc _ hr ih => obtain ⟨c', h3, h4⟩ := ih; obtain ⟨r', h1, h2⟩ := h _ _ _ hr; exact ⟨c' + r', by omega, .snoc h4 h2⟩
theorem way_down {R R' : Nat → List (Int × Int)} (h : ∀ u q r', (q, r') ∈ R' u → ∃ r, r ≤ r' ∧ (q, r) ∈ R u) {s v : Nat} {c' : Int} (w : Way R' s v c') : ∃ c, c ≤ c' ∧ Way R s v c := by
  induction w with
  | one hr => obtain ⟨r', h1, h2⟩ := h _ _ _ hr; exact ⟨r', h1, .one h2⟩
  | snoc _ hr ih => obtain ⟨c', h3, h4⟩ := ih; obtain ⟨r', h1, h2⟩ := h _ _ _ hr; exact ⟨c' + r', by omega, .snoc h4 h2⟩
/-- how far ways back rise, in the steeper table -/
theorem back_st {xs ys : List Nd} (h : Rel St xs ys) (h0 : (ordC xs).2 = 0) {i : Int} {r r' : Int × Bool} (hr : BackAt xs i r) (hr' : BackAt ys i r') : r.2 = r'.2 ∧ (r.2 = true → r.1 ≤ r'.1) := by
  have hg := ord_good h0
  unfold BackAt at hr hr'
  rw [ordC_of (ord_st h hg), actN_rel (fun x y hp => hp.kd) h] at hr'
  rw [h0] at hr
  split at hr
  · rename_i hc
    rw [if_pos hc] at hr'
    have hd := fun u => (oR_st h hg.toGood u).2
    have hu := fun u => (oR_st h hg.toGood u).1
    rcases hr with ⟨a1, a2, a3⟩ | ⟨a1, a2⟩ <;> rcases hr' with ⟨b1, b2, b3⟩ | ⟨b1, b2⟩
    · obtain ⟨c, c1, c2⟩ := way_down hd b2
      exact ⟨by rw [a1, b1], fun _ => Int.le_trans (a3 c c2) c1⟩
    · obtain ⟨c, _, c2⟩ := way_up hu a2
      exact absurd c2 (b2 c)
    · obtain ⟨c, _, c2⟩ := way_down hd b2
      exact absurd c2 (a2 c)
    · rw [a1, b1]
      exact ⟨rfl, fun h => by cases h⟩
  · rename_i hc
    rw [if_neg hc] at hr'
    rw [hr, hr']
    exact ⟨rfl, fun h => by cases h⟩
end Go.Abs.Tab

/- Order: the statement OrderShifted, its tables made. -/
set_option linter.unusedVariables false
namespace Go.Abs.Tab
open Go.Gr
def lowN (x : Nd) : Nd := if actK x.kind = true then { x with prio := x.prio.tmod 500 } else x
def higN (k : Int) (x : Nd) : Nd := if actK x.kind = true ∧ 0 ≤ x.prio then { x with prio := x.prio + k } else x
def steN (x : Nd) (b : AV) : Nd := { x with es := x.es.map stE, nx := b }
theorem lowN_kd (x : Nd) : (lowN x).kind = x.kind ∧ (lowN x).es = x.es ∧ (lowN x).nx = x.nx := by unfold lowN; split <;> exact ⟨rfl, rfl, rfl⟩
theorem lowN_lt {x : Nd} (h : actK x.kind = true) : (lowN x).prio < 500 := by
  unfold lowN
  rw [if_pos h]
  exact Int.tmod_lt_of_pos _ (by decide)
theorem hi_of (k : Int) (x : Nd) (hx : actK x.kind = true → x.prio < 500) : Hi k x (higN k x) := by
  unfold higN
  by_cases h : actK x.kind = true ∧ 0 ≤ x.prio
  · rw [if_pos h]
    exact ⟨rfl, rfl, rfl, rfl, rfl, .inl ⟨h.1, h.2, hx h.1, rfl⟩⟩
  · rw [if_neg h]
    exact ⟨rfl, rfl, rfl, rfl, rfl, .inr ⟨h, rfl⟩⟩
theorem st_of (x : Nd) (b : AV) : St x (steN x b) := ⟨rfl, rfl, rfl, rfl, rfl, rfl⟩
abbrev ndX (x : Nd) : ABlock := .cells 6 66 [nodeV x]
theorem killB_nd {x : Nd} (h : NdOk x) (m : Nat) : killB m (ndX x) = ndX x := by
  have hs : Sl 2 x.nx (x.es.map ed) := h
  obtain ⟨k, p, c, t, s, es, nx⟩ := x
  rcases hs with h | h | ⟨h, _⟩ <;> (dsimp only at h; subst h; rfl)
theorem killB_gr {k p t s : Int} {c : Bool} {v : AV} {L : List AV} (h : Grow 2 v L) (m : Nat) : killB m (.cells 6 66 [.agg [iv k, iv p, bv c, iv t, iv s, v]]) = .cells 6 66 [.agg [iv k, iv p, bv c, iv t, iv s, v]] := by
  rcases h with rfl | ⟨rfl, _⟩ <;> rfl
structure ZFr (fr : PT) (a : AV) (k : Int) (v5 v6 v7 : AV) (i : Nat) : Prop where
  f0 : fr.get 0 = a
  f1 : fr.get 1 = byV k
  f5 : fr.get 5 = v5
  f6 : fr.get 6 = v6
  f7 : fr.get 7 = v7
  f8 : fr.get 8 = iv i
theorem ZFr.of {fr fr' : PT} {a : AV} {k : Int} {v5 v6 v7 : AV} {i : Nat} (F : ZFr fr a k v5 v6 v7 i) (h : ∀ t, (t = 0 ∨ t = 1 ∨ t = 5 ∨ t = 6 ∨ t = 7 ∨ t = 8) → fr'.get t = fr.get t) : ZFr fr' a k v5 v6 v7 i :=
  ⟨by rw [h 0 (by simp), F.f0], by rw [h 1 (by simp), F.f1], by rw [h 5 (by simp), F.f5], by rw [h 6 (by simp), F.f6], by rw [h 7 (by simp), F.f7], by rw [h 8 (by simp), F.f8]⟩
theorem ap_small9 {n : Nat} (h : n ≤ 9) : (n + (0 + 1)) * (16 + 1) ≤ 1099511627776 := by omega
theorem grow_ap {sz by' : Nat} {g y : AV} {L : List AV} (hg : Grow sz g L) (hs : 0 < sz) (hl : (L.length + (0 + 1)) * (by' + 1) ≤ 1099511627776) : apV sz by' [y] g = some (.vec sz .own (L ++ [y])) := by
  rcases hg with rfl | ⟨rfl, rfl⟩
  · exact apV_own hl hs
  · exact apV_none hl hs
abbrev stB (x : Nd) (v : AV) : ABlock := .cells 6 66 [.agg [iv x.kind, iv x.prio, bv x.chan, iv x.pt, iv x.ps, v]]
theorem take_st {es : List (Int × Int)} {k : Nat} (h : k < es.length) : (es.take (k + 1)).map stE = (es.take k).map stE ++ [stE (es.getD k (0, 0))] := by
  rw [List.take_succ_eq_append_getElem h, List.map_append, List.getD_eq_getElem?_getD, List.getElem?_eq_getElem h]
  rfl
theorem steep_edge {e : Int × Int} {fr : PT} {N M S : ABlock} (f13 : fr.get 13 = .ptr 3 0 0) :
    ∃ fr', ex cx D 0 18 197 (.seq (.region 22 g18_20 false) (.cond (.tmp 102) (.region 23 g18_21 false) .skip)) fr [N, M, S, .cells 2 63 [ed e]] = some (.normal, fr', [N, M, S, .cells 2 63 [ed (stE e)]]) ∧ ∀ t, t ≤ 13 → fr'.get t = fr.get t := by
  unfold stE
  by_cases h1 : 0 ≤ e.2
  · by_cases h2 : e.2 < 900
    · have w : wrapK .i64 (e.2 + 1) = e.2 + 1 := wrapK_i64 (by omega) (by omega)
      simp -implicitDefEqProofs (maxDischargeDepth := 4) only [go_sem, f13, h1, h2, w, Nat.not_lt_zero]
      refine ⟨_, rfl, fun t ht => ?_⟩
      rcases t with _|_|_|_|_|_|_|_|_|_|_|_|_|_|t <;> first | (exfalso; omega) | simp -implicitDefEqProofs (maxDischargeDepth := 4) only [go_sem]
    · simp -implicitDefEqProofs (maxDischargeDepth := 4) only [go_sem, f13, h1, h2]
      refine ⟨_, rfl, fun t ht => ?_⟩
      rcases t with _|_|_|_|_|_|_|_|_|_|_|_|_|_|t <;> first | (exfalso; omega) | simp -implicitDefEqProofs (maxDischargeDepth := 4) only [go_sem]
  · simp -implicitDefEqProofs (maxDischargeDepth := 4) only [go_sem, f13, h1]
    refine ⟨_, rfl, fun t ht => ?_⟩
    rcases t with _|_|_|_|_|_|_|_|_|_|_|_|_|_|t <;> first | (exfalso; omega) | simp -implicitDefEqProofs (maxDischargeDepth := 4) only [go_sem]
structure HFr (fr : PT) (a : AV) (k : Int) (v5 v6 v7 : AV) (i : Nat) : Prop extends ZFr fr a k v5 v6 v7 i where
  f9 : fr.get 9 = .ptr 0 0 0
  f11 : fr.get 11 = .ptr 2 0 0
theorem HFr.of {fr fr' : PT} {a : AV} {k : Int} {v5 v6 v7 : AV} {i : Nat} (F : HFr fr a k v5 v6 v7 i) (h : ∀ t, (t = 0 ∨ t = 1 ∨ t = 5 ∨ t = 6 ∨ t = 7 ∨ t = 8 ∨ t = 9 ∨ t = 11) → fr'.get t = fr.get t) : HFr fr' a k v5 v6 v7 i :=
  ⟨F.toZFr.of fun t ht => h t (by rcases ht with rfl | rfl | rfl | rfl | rfl | rfl <;> simp), by rw [h 9 (by simp), F.f9], by rw [h 11 (by simp), F.f11]⟩
theorem loop18_0 {x : Nd} (hx : NdOk x) (h9 : x.es.length ≤ 9) {M : ABlock} (hM : killB 3 M = M) {a : AV} {La : List AV} (ha : Sl 6 a La) {k : Int} {v5 v6 v7 : AV} {L5 L6 L7 : List AV} (g5 : Grow 6 v5 L5) (g6 : Grow 6 v6 L6) (g7 : Grow 6 v7 L7) {i : Nat} :
    ∀ (d c : Nat) (fr : PT) (v : AV), x.es.length - c = d → c ≤ x.es.length → HFr fr a k v5 v6 v7 i → fr.get 12 = iv c → Grow 2 v (((x.es.take c).map stE).map ed) →
    ∃ fr' v', D.loop 0 18 197 l18_0 fr [ndX x, M, stB x v] = some (.exit 2, fr', [ndX x, M, stB x v']) ∧ HFr fr' a k v5 v6 v7 i ∧ Grow 2 v' ((x.es.map stE).map ed)
  | 0, c, fr, v, hd, hc, F, f12, hv => by
    have hlt := lp1 hd hc
    have hs : Sl 2 x.nx (x.es.map ed) := hx
    rw [List.take_of_length_le (by omega)] at hv
    rw [dl18_0]
    simp -implicitDefEqProofs (maxDischargeDepth := 4) only [go_sem, F.f9, f12, hs.shr, hs.notOwn, alen_sl hs, List.length_map, hlt]
    exact ⟨_, v, rfl, F.of fun t ht => by rcases ht with rfl | rfl | rfl | rfl | rfl | rfl | rfl | rfl <;> simp -implicitDefEqProofs (maxDischargeDepth := 4) only [go_sem], hv⟩
  | d + 1, c, fr, v, hd, hc, F, f12, hv => by
    have hs : Sl 2 x.nx (x.es.map ed) := hx
    have hcl : c < x.es.length := by omega
    have hlt : ((c : Int) < (x.es.length : Int)) := by omega
    have w3 := wrap_succ (show c ≤ 1000 by omega)
    have e1 := at_ed hs hcl
    have ht := take_st hcl
    generalize x.es.getD c (0, 0) = e at e1 ht
    obtain ⟨fr1, p1, F1, k12⟩ : ∃ fr1 : PT, ex cx D 0 18 197 (.seq (.region 19 g18_18 false) (.cond (.tmp 87) .skip (.exit 2))) fr [ndX x, M, stB x v] = some (.normal, fr1, [ndX x, M, stB x v]) ∧ HFr fr1 a k v5 v6 v7 i ∧ fr1.get 12 = iv c := by
      simp -implicitDefEqProofs (maxDischargeDepth := 4) only [go_sem, F.f9, f12, hs.shr, hs.notOwn, alen_sl hs, List.length_map, hlt]
      exact ⟨_, rfl, F.of fun t ht => by rcases ht with rfl | rfl | rfl | rfl | rfl | rfl | rfl | rfl <;> simp -implicitDefEqProofs (maxDischargeDepth := 4) only [go_sem], by simp -implicitDefEqProofs (maxDischargeDepth := 4) only [go_sem, f12]⟩
    obtain ⟨fr2, p2, F2, m12, m13⟩ : ∃ fr2 : PT, ex cx D 0 18 197 (.region 21 g18_19 false) fr1 [ndX x, M, stB x v] = some (.normal, fr2, [ndX x, M, stB x v, .cells 2 63 [ed e]]) ∧ HFr fr2 a k v5 v6 v7 i ∧ fr2.get 12 = iv c ∧ fr2.get 13 = .ptr 3 0 0 := by
      simp -implicitDefEqProofs (maxDischargeDepth := 4) only [go_sem, F1.f9, k12, hs.shr, hs.notOwn, e1, Nat.zero_le, Nat.le_refl, Nat.not_lt_zero]
      exact ⟨_, rfl, F1.of fun t ht => by rcases ht with rfl | rfl | rfl | rfl | rfl | rfl | rfl | rfl <;> simp -implicitDefEqProofs (maxDischargeDepth := 4) only [go_sem], by simp -implicitDefEqProofs (maxDischargeDepth := 4) only [go_sem, k12], by simp -implicitDefEqProofs (maxDischargeDepth := 4) only [go_sem]⟩
    obtain ⟨fr3, p3, hf3⟩ := steep_edge (e := e) (N := ndX x) (M := M) (S := stB x v) m13
    have F3 : HFr fr3 a k v5 v6 v7 i := F2.of fun t ht => hf3 t (by rcases ht with rfl | rfl | rfl | rfl | rfl | rfl | rfl | rfl <;> decide)
    have n12 : fr3.get 12 = iv c := by rw [hf3 12 (by decide), m12]
    have n13 : fr3.get 13 = .ptr 3 0 0 := by rw [hf3 13 (by decide), m13]
    have hap := grow_ap (by' := 16) (y := ed (stE e)) hv (show 0 < 2 by decide) (by rw [List.length_map, List.length_map, List.length_take]; exact ap_small9 (by omega))
    have hnew : ((x.es.take c).map stE).map ed ++ [ed (stE e)] = ((x.es.take (c + 1)).map stE).map ed := by rw [ht, List.map_append]; rfl
    rw [hnew] at hap
    obtain ⟨fr4, p4, F4, q12⟩ : ∃ fr4 : PT, ex cx D 0 18 197 (.region 24 g18_22 false) fr3 [ndX x, M, stB x v, .cells 2 63 [ed (stE e)]] = some (.normal, fr4, [ndX x, M, stB x (.vec 2 .own (((x.es.take (c + 1)).map stE).map ed)), .cells 2 63 [ed (stE e)]]) ∧ HFr fr4 a k v5 v6 v7 i ∧ fr4.get 12 = iv c := by
      rcases hv with rfl | ⟨rfl, he⟩
      · simp -implicitDefEqProofs (maxDischargeDepth := 4) only [go_sem, F3.f11, n13, hap, Nat.not_lt_zero]
        exact ⟨_, rfl, F3.of fun t ht => by rcases ht with rfl | rfl | rfl | rfl | rfl | rfl | rfl | rfl <;> simp -implicitDefEqProofs (maxDischargeDepth := 4) only [go_sem], by simp -implicitDefEqProofs (maxDischargeDepth := 4) only [go_sem, n12]⟩
      · simp -implicitDefEqProofs (maxDischargeDepth := 4) only [go_sem, F3.f11, n13, hap, Nat.not_lt_zero]
        exact ⟨_, rfl, F3.of fun t ht => by rcases ht with rfl | rfl | rfl | rfl | rfl | rfl | rfl | rfl <;> simp -implicitDefEqProofs (maxDischargeDepth := 4) only [go_sem], by simp -implicitDefEqProofs (maxDischargeDepth := 4) only [go_sem, n12]⟩
    have eb : ex cx D 0 18 197 (.block 3 (.seq (.region 21 g18_19 false) (.seq (.seq (.region 22 g18_20 false) (.cond (.tmp 102) (.region 23 g18_21 false) .skip)) (.region 24 g18_22 false)))) fr1 [ndX x, M, stB x v] = some (.normal, fr4, [ndX x, M, stB x (.vec 2 .own (((x.es.take (c + 1)).map stE).map ed)), .cells 2 63 [ed (stE e)]]) := by
      rw [x_block, x_cont1 p2, x_cont1 p3, p4]
      rfl
    obtain ⟨fr5, p5, F5, r12⟩ : ∃ fr5 : PT, ex cx D 0 18 197 (.region 20 g18_23 false) fr4 [ndX x, M, stB x (.vec 2 .own (((x.es.take (c + 1)).map stE).map ed)), .cells 2 63 [ed (stE e)]] = some (.normal, fr5, [ndX x, M, stB x (.vec 2 .own (((x.es.take (c + 1)).map stE).map ed)), .cells 2 63 [ed (stE e)]]) ∧ HFr fr5 a k v5 v6 v7 i ∧ fr5.get 12 = iv (c + 1 : Nat) := by
      simp -implicitDefEqProofs (maxDischargeDepth := 4) only [go_sem, q12, w3]
      exact ⟨_, rfl, F4.of fun t ht => by rcases ht with rfl | rfl | rfl | rfl | rfl | rfl | rfl | rfl <;> simp -implicitDefEqProofs (maxDischargeDepth := 4) only [go_sem], by simp -implicitDefEqProofs (maxDischargeDepth := 4) only [go_sem]⟩
    have hg' : Grow 2 (.vec 2 .own (((x.es.take (c + 1)).map stE).map ed)) (((x.es.take (c + 1)).map stE).map ed) := .inl rfl
    rw [dl18_0, x_cont1 p1, x_cont1 eb, p5, xbind_some, contR_normal]
    refine trim_gen (P := fun z => ∃ fr' v', z = some (.exit 2, fr', [ndX x, M, stB x v']) ∧ HFr fr' a k v5 v6 v7 i ∧ Grow 2 v' ((x.es.map stE).map ed)) [0, 1, 5, 6, 7, 8, 9, 11, 12] (show 3 ≤ 4 by decide) (fun t ht => ?_) fun fr' G' hG' hf' hk' => ?_
    · simp only [List.mem_cons, List.not_mem_nil, or_false] at ht
      rcases ht with rfl | rfl | rfl | rfl | rfl | rfl | rfl | rfl | rfl
      · rw [F5.f0, kill_Sl ha]
      · rw [F5.f1]; rfl
      · rw [F5.f5, g5.kill]
      · rw [F5.f6, g6.kill]
      · rw [F5.f7, g7.kill]
      · rw [F5.f8]; rfl
      · rw [F5.f9]; exact kill_ptr (m := 3) (by decide)
      · rw [F5.f11]; exact kill_ptr (m := 3) (by decide)
      · rw [r12]; rfl
    · have hGB : G' = [ndX x, M, stB x (.vec 2 .own (((x.es.take (c + 1)).map stE).map ed))] := by
        match G', hG' with
        | [y1, y2, y3], _ =>
          have a1 := hk' 0 _ (by show 0 < 3; decide) rfl (killB_nd hx 3)
          have a2 := hk' 1 _ (by show 1 < 3; decide) rfl hM
          have a3 := hk' 2 _ (by show 2 < 3; decide) rfl (killB_gr hg' 3)
          cases a1; cases a2; cases a3; rfl
      subst hGB
      exact loop18_0 hx h9 hM ha g5 g6 g7 d (c + 1) fr' _ (nd1 hd) (nd2 hd) ⟨⟨by rw [hf' 0 (by simp), F5.f0], by rw [hf' 1 (by simp), F5.f1], by rw [hf' 5 (by simp), F5.f5], by rw [hf' 6 (by simp), F5.f6], by rw [hf' 7 (by simp), F5.f7], by rw [hf' 8 (by simp), F5.f8]⟩, by rw [hf' 9 (by simp), F5.f9], by rw [hf' 11 (by simp), F5.f11]⟩ (by rw [hf' 12 (by simp), r12]) hg'
end Go.Abs.Tab

/- Order: the statement OrderShifted, a node. -/
set_option linter.unusedVariables false
namespace Go.Abs.Tab
open Go.Gr
theorem act_ge {k : Int} (h : actK k = true) : 1 ≤ k ∧ k ≤ 4 := by
  unfold actK at h
  simpa using h
theorem act_no {k : Int} (h : actK k = false) : ¬ 1 ≤ k ∨ ¬ k ≤ 4 := by
  unfold actK at h
  simp only [Bool.and_eq_false_iff, decide_eq_false_iff_not] at h
  exact h
/-- a node is copied; its priority is made small -/
theorem sh_a {x : Nd} (hx : NdOk x) {ns : List Nd} {a : AV} (hns : NsOk ns a) {i : Nat} (hi : ns[i]? = some x) {k : Int} {v5 v6 v7 : AV} {fr : PT} (F : ZFr fr a k v5 v6 v7 i) :
    ∃ fr', ex cx D 0 18 197 (.seq (.region 8 g18_7 false) (.seq (.region 9 g18_8 false) (.cond (.tmp 48) (.region 10 g18_9 false) .skip))) fr [] = some (.normal, fr', [ndX (lowN x)]) ∧ ZFr fr' a k v5 v6 v7 i ∧ fr'.get 9 = .ptr 0 0 0 := by
  have hs : Sl 2 x.nx (x.es.map ed) := hx
  have hat := hns.at hi
  unfold lowN
  cases ha : actK x.kind with
  | true =>
    obtain ⟨h1, h2⟩ := act_ge ha
    simp -implicitDefEqProofs (maxDischargeDepth := 4) only [go_sem, F.f0, F.f8, hns.sl.shr, hns.sl.notOwn, hat, hs.shr, hs.notOwn, hs.drp, hs.fitA, h1, h2, Nat.zero_le, Nat.le_refl, Nat.not_lt_zero]
    exact ⟨_, rfl, F.of fun t ht => by rcases ht with rfl | rfl | rfl | rfl | rfl | rfl <;> simp -implicitDefEqProofs (maxDischargeDepth := 4) only [go_sem], by simp -implicitDefEqProofs (maxDischargeDepth := 4) only [go_sem]⟩
  | false =>
    by_cases h1 : 1 ≤ x.kind
    · have h2 : ¬ x.kind ≤ 4 := by rcases act_no ha with h | h; exact absurd h1 h; exact h
      simp -implicitDefEqProofs (maxDischargeDepth := 4) only [go_sem, F.f0, F.f8, hns.sl.shr, hns.sl.notOwn, hat, hs.shr, hs.notOwn, hs.drp, hs.fitA, h1, h2, Nat.zero_le, Nat.le_refl, Nat.not_lt_zero]
      exact ⟨_, rfl, F.of fun t ht => by rcases ht with rfl | rfl | rfl | rfl | rfl | rfl <;> simp -implicitDefEqProofs (maxDischargeDepth := 4) only [go_sem], by simp -implicitDefEqProofs (maxDischargeDepth := 4) only [go_sem]⟩
    · simp -implicitDefEqProofs (maxDischargeDepth := 4) only [go_sem, F.f0, F.f8, hns.sl.shr, hns.sl.notOwn, hat, hs.shr, hs.notOwn, hs.drp, hs.fitA, h1, Nat.zero_le, Nat.le_refl, Nat.not_lt_zero]
      exact ⟨_, rfl, F.of fun t ht => by rcases ht with rfl | rfl | rfl | rfl | rfl | rfl <;> simp -implicitDefEqProofs (maxDischargeDepth := 4) only [go_sem], by simp -implicitDefEqProofs (maxDischargeDepth := 4) only [go_sem]⟩
/-- the low one is there -/
theorem sh_b {x : Nd} (hx : NdOk x) {a : AV} {k : Int} {v5 v6 v7 : AV} {L5 : List AV} (g5 : Grow 6 v5 L5) (hL : L5.length < 2 ^ 20) {i : Nat} {fr : PT} (F : ZFr fr a k v5 v6 v7 i) (f9 : fr.get 9 = .ptr 0 0 0) :
    ∃ fr', ex cx D 0 18 197 (.region 11 g18_10 false) fr [ndX x] = some (.normal, fr', [ndX x]) ∧ ZFr fr' a k (.vec 6 .own (L5 ++ [nodeV x])) v6 v7 i ∧ fr'.get 9 = .ptr 0 0 0 := by
  have hs : Sl 2 x.nx (x.es.map ed) := hx
  have hap := grow_ap (by' := 64) (y := nodeV x) g5 (show 0 < 6 by decide) (ap_small6 hL)
  rcases g5 with rfl | ⟨rfl, he⟩
  · simp -implicitDefEqProofs (maxDischargeDepth := 4) only [go_sem, F.f5, f9, hs.shr, hs.notOwn, hs.drp, hs.cl0, hap]
    exact ⟨_, rfl, ⟨by simp -implicitDefEqProofs (maxDischargeDepth := 4) only [go_sem, F.f0], by simp -implicitDefEqProofs (maxDischargeDepth := 4) only [go_sem, F.f1], by simp -implicitDefEqProofs (maxDischargeDepth := 4) only [go_sem], by simp -implicitDefEqProofs (maxDischargeDepth := 4) only [go_sem, F.f6], by simp -implicitDefEqProofs (maxDischargeDepth := 4) only [go_sem, F.f7], by simp -implicitDefEqProofs (maxDischargeDepth := 4) only [go_sem, F.f8]⟩, by simp -implicitDefEqProofs (maxDischargeDepth := 4) only [go_sem, f9]⟩
  · simp -implicitDefEqProofs (maxDischargeDepth := 4) only [go_sem, F.f5, f9, hs.shr, hs.notOwn, hs.drp, hs.cl0, hap]
    exact ⟨_, rfl, ⟨by simp -implicitDefEqProofs (maxDischargeDepth := 4) only [go_sem, F.f0], by simp -implicitDefEqProofs (maxDischargeDepth := 4) only [go_sem, F.f1], by simp -implicitDefEqProofs (maxDischargeDepth := 4) only [go_sem], by simp -implicitDefEqProofs (maxDischargeDepth := 4) only [go_sem, F.f6], by simp -implicitDefEqProofs (maxDischargeDepth := 4) only [go_sem, F.f7], by simp -implicitDefEqProofs (maxDischargeDepth := 4) only [go_sem, F.f8]⟩, by simp -implicitDefEqProofs (maxDischargeDepth := 4) only [go_sem, f9]⟩
/-- the high one -/
theorem sh_c {x : Nd} (hx : NdOk x) {a : AV} {k : Int} (hk : 0 ≤ k ∧ k ≤ 255) (hp : actK x.kind = true → x.prio < 500) {v5 v6 v7 : AV} {i : Nat} {fr : PT} (F : ZFr fr a k v5 v6 v7 i) (f9 : fr.get 9 = .ptr 0 0 0) :
    ∃ fr', ex cx D 0 18 197 (.seq (.region 12 g18_11 false) (.seq (.region 13 g18_12 false) (.cond (.tmp 70) (.region 14 g18_13 false) .skip))) fr [ndX x] = some (.normal, fr', [ndX x, ndX (higN k x)]) ∧ ZFr fr' a k v5 v6 v7 i ∧ fr'.get 9 = .ptr 0 0 0 ∧ fr'.get 10 = .ptr 1 0 0 := by
  have hs : Sl 2 x.nx (x.es.map ed) := hx
  unfold higN
  cases ha : actK x.kind with
  | true =>
    obtain ⟨h1, h2⟩ := act_ge ha
    have hp' := hp ha
    by_cases h3 : 0 ≤ x.prio
    · have w1 : wrapK .i64 k = k := wrapK_i64 (by omega) (by omega)
      have w2 : wrapK .i64 (x.prio + k) = x.prio + k := wrapK_i64 (by omega) (by omega)
      simp -implicitDefEqProofs (maxDischargeDepth := 4) only [go_sem, F.f1, f9, hs.shr, hs.notOwn, hs.drp, hs.fitA, h1, h2, h3, w1, w2, Nat.zero_le, Nat.le_refl, Nat.not_lt_zero]
      exact ⟨_, rfl, F.of fun t ht => by rcases ht with rfl | rfl | rfl | rfl | rfl | rfl <;> simp -implicitDefEqProofs (maxDischargeDepth := 4) only [go_sem], by simp -implicitDefEqProofs (maxDischargeDepth := 4) only [go_sem, f9], by simp -implicitDefEqProofs (maxDischargeDepth := 4) only [go_sem]⟩
    · simp -implicitDefEqProofs (maxDischargeDepth := 4) only [go_sem, F.f1, f9, hs.shr, hs.notOwn, hs.drp, hs.fitA, h1, h2, h3, Nat.zero_le, Nat.le_refl, Nat.not_lt_zero]
      exact ⟨_, rfl, F.of fun t ht => by rcases ht with rfl | rfl | rfl | rfl | rfl | rfl <;> simp -implicitDefEqProofs (maxDischargeDepth := 4) only [go_sem], by simp -implicitDefEqProofs (maxDischargeDepth := 4) only [go_sem, f9], by simp -implicitDefEqProofs (maxDischargeDepth := 4) only [go_sem]⟩
  | false =>
    by_cases h1 : 1 ≤ x.kind
    · have h2 : ¬ x.kind ≤ 4 := by rcases act_no ha with h | h; exact absurd h1 h; exact h
      simp -implicitDefEqProofs (maxDischargeDepth := 4) only [go_sem, F.f1, f9, hs.shr, hs.notOwn, hs.drp, hs.fitA, h1, h2, Nat.zero_le, Nat.le_refl, Nat.not_lt_zero]
      exact ⟨_, rfl, F.of fun t ht => by rcases ht with rfl | rfl | rfl | rfl | rfl | rfl <;> simp -implicitDefEqProofs (maxDischargeDepth := 4) only [go_sem], by simp -implicitDefEqProofs (maxDischargeDepth := 4) only [go_sem, f9], by simp -implicitDefEqProofs (maxDischargeDepth := 4) only [go_sem]⟩
    · simp -implicitDefEqProofs (maxDischargeDepth := 4) only [go_sem, F.f1, f9, hs.shr, hs.notOwn, hs.drp, hs.fitA, h1, Nat.zero_le, Nat.le_refl, Nat.not_lt_zero]
      exact ⟨_, rfl, F.of fun t ht => by rcases ht with rfl | rfl | rfl | rfl | rfl | rfl <;> simp -implicitDefEqProofs (maxDischargeDepth := 4) only [go_sem], by simp -implicitDefEqProofs (maxDischargeDepth := 4) only [go_sem, f9], by simp -implicitDefEqProofs (maxDischargeDepth := 4) only [go_sem]⟩
theorem sh_d {x y : Nd} (hx : NdOk x) (hy : NdOk y) {a : AV} {k : Int} {v5 v6 v7 : AV} {L6 : List AV} (g6 : Grow 6 v6 L6) (hL : L6.length < 2 ^ 20) {i : Nat} {fr : PT} (F : ZFr fr a k v5 v6 v7 i) (f9 : fr.get 9 = .ptr 0 0 0) (f10 : fr.get 10 = .ptr 1 0 0) :
    ∃ fr', ex cx D 0 18 197 (.region 15 g18_14 false) fr [ndX x, ndX y] = some (.normal, fr', [ndX x, ndX y]) ∧ ZFr fr' a k v5 (.vec 6 .own (L6 ++ [nodeV y])) v7 i ∧ fr'.get 9 = .ptr 0 0 0 := by
  have hs : Sl 2 y.nx (y.es.map ed) := hy
  have hap := grow_ap (by' := 64) (y := nodeV y) g6 (show 0 < 6 by decide) (ap_small6 hL)
  rcases g6 with rfl | ⟨rfl, he⟩
  · simp -implicitDefEqProofs (maxDischargeDepth := 4) only [go_sem, F.f6, f10, hs.shr, hs.notOwn, hs.drp, hs.cl0, hap]
    exact ⟨_, rfl, ⟨by simp -implicitDefEqProofs (maxDischargeDepth := 4) only [go_sem, F.f0], by simp -implicitDefEqProofs (maxDischargeDepth := 4) only [go_sem, F.f1], by simp -implicitDefEqProofs (maxDischargeDepth := 4) only [go_sem, F.f5], by simp -implicitDefEqProofs (maxDischargeDepth := 4) only [go_sem], by simp -implicitDefEqProofs (maxDischargeDepth := 4) only [go_sem, F.f7], by simp -implicitDefEqProofs (maxDischargeDepth := 4) only [go_sem, F.f8]⟩, by simp -implicitDefEqProofs (maxDischargeDepth := 4) only [go_sem, f9]⟩
  · simp -implicitDefEqProofs (maxDischargeDepth := 4) only [go_sem, F.f6, f10, hs.shr, hs.notOwn, hs.drp, hs.cl0, hap]
    exact ⟨_, rfl, ⟨by simp -implicitDefEqProofs (maxDischargeDepth := 4) only [go_sem, F.f0], by simp -implicitDefEqProofs (maxDischargeDepth := 4) only [go_sem, F.f1], by simp -implicitDefEqProofs (maxDischargeDepth := 4) only [go_sem, F.f5], by simp -implicitDefEqProofs (maxDischargeDepth := 4) only [go_sem], by simp -implicitDefEqProofs (maxDischargeDepth := 4) only [go_sem, F.f7], by simp -implicitDefEqProofs (maxDischargeDepth := 4) only [go_sem, F.f8]⟩, by simp -implicitDefEqProofs (maxDischargeDepth := 4) only [go_sem, f9]⟩
theorem sh_e {x : Nd} {M : ABlock} (hx : NdOk x) {a : AV} {k : Int} {v5 v6 v7 : AV} {i : Nat} {fr : PT} (F : ZFr fr a k v5 v6 v7 i) (f9 : fr.get 9 = .ptr 0 0 0) :
    ∃ fr', ex cx D 0 18 197 (.seq (.region 16 g18_15 false) (.seq (.region 17 g18_16 false) (.region 18 g18_17 false))) fr [ndX x, M] = some (.normal, fr', [ndX x, M, stB x (.lit (.slice none 0 0))]) ∧ HFr fr' a k v5 v6 v7 i ∧ fr'.get 12 = iv (0 : Nat) := by
  have hs : Sl 2 x.nx (x.es.map ed) := hx
  simp -implicitDefEqProofs (maxDischargeDepth := 4) only [go_sem, f9, hs.shr, hs.notOwn, hs.drp, hs.fitA, Nat.zero_le, Nat.le_refl, Nat.not_lt_zero]
  exact ⟨_, rfl, ⟨F.of fun t ht => by rcases ht with rfl | rfl | rfl | rfl | rfl | rfl <;> simp -implicitDefEqProofs (maxDischargeDepth := 4) only [go_sem], by simp -implicitDefEqProofs (maxDischargeDepth := 4) only [go_sem, f9], by simp -implicitDefEqProofs (maxDischargeDepth := 4) only [go_sem]⟩, by simp -implicitDefEqProofs (maxDischargeDepth := 4) only [go_sem]; rfl⟩
theorem sh_f {x : Nd} {N M : ABlock} {v : AV} {L : List AV} (hv : Grow 2 v L) {a : AV} {k : Int} {v5 v6 v7 : AV} {L7 : List AV} (g7 : Grow 6 v7 L7) (hL : L7.length < 2 ^ 20) {i : Nat} {fr : PT} (F : HFr fr a k v5 v6 v7 i) :
    ∃ fr', ex cx D 0 18 197 (.region 25 g18_24 false) fr [N, M, stB x v] = some (.normal, fr', [N, M, stB x v]) ∧ ZFr fr' a k v5 v6 (.vec 6 .own (L7 ++ [.agg [iv x.kind, iv x.prio, bv x.chan, iv x.pt, iv x.ps, shr v]])) i := by
  have hap := grow_ap (by' := 64) (y := .agg [iv x.kind, iv x.prio, bv x.chan, iv x.pt, iv x.ps, shr v]) g7 (show 0 < 6 by decide) (ap_small6 hL)
  have hs := hv.sl
  have hss : shr (shr v) = shr v := hs.shr
  rcases g7 with rfl | ⟨rfl, he⟩
  · simp -implicitDefEqProofs (maxDischargeDepth := 4) only [go_sem, F.f7, F.f11, hss, hs.notOwn, hs.drp, hs.cl0, hap]
    exact ⟨_, rfl, ⟨by simp -implicitDefEqProofs (maxDischargeDepth := 4) only [go_sem, F.f0], by simp -implicitDefEqProofs (maxDischargeDepth := 4) only [go_sem, F.f1], by simp -implicitDefEqProofs (maxDischargeDepth := 4) only [go_sem, F.f5], by simp -implicitDefEqProofs (maxDischargeDepth := 4) only [go_sem, F.f6], by simp -implicitDefEqProofs (maxDischargeDepth := 4) only [go_sem], by simp -implicitDefEqProofs (maxDischargeDepth := 4) only [go_sem, F.f8]⟩⟩
  · simp -implicitDefEqProofs (maxDischargeDepth := 4) only [go_sem, F.f7, F.f11, hss, hs.notOwn, hs.drp, hs.cl0, hap]
    exact ⟨_, rfl, ⟨by simp -implicitDefEqProofs (maxDischargeDepth := 4) only [go_sem, F.f0], by simp -implicitDefEqProofs (maxDischargeDepth := 4) only [go_sem, F.f1], by simp -implicitDefEqProofs (maxDischargeDepth := 4) only [go_sem, F.f5], by simp -implicitDefEqProofs (maxDischargeDepth := 4) only [go_sem, F.f6], by simp -implicitDefEqProofs (maxDischargeDepth := 4) only [go_sem], by simp -implicitDefEqProofs (maxDischargeDepth := 4) only [go_sem, F.f8]⟩⟩
structure Sh (k : Int) (n : Nat) (xs ys zs : List Nd) : Prop where
  l : xs.length = n
  hi : Rel (Hi k) xs ys
  st : Rel St xs zs
  o1 : ∀ x ∈ xs, NdOk x
  o2 : ∀ x ∈ ys, NdOk x
  o3 : ∀ x ∈ zs, NdOk x
theorem Sh.snoc {k : Int} {n : Nat} {xs ys zs : List Nd} (h : Sh k n xs ys zs) {x y z : Nd} (h1 : NdOk x) (h2 : NdOk y) (h3 : NdOk z) (h4 : Hi k x y) (h5 : St x z) : Sh k (n + 1) (xs ++ [x]) (ys ++ [y]) (zs ++ [z]) := by
  have key : ∀ (l : List Nd) (u : Nd), (∀ w ∈ l, NdOk w) → NdOk u → ∀ w ∈ l ++ [u], NdOk w := fun l u hl hu w hw => by
    rw [List.mem_append, List.mem_singleton] at hw
    rcases hw with hw | rfl
    · exact hl w hw
    · exact hu
  exact ⟨by rw [List.length_append, h.l]; rfl, h.hi.snoc h4, h.st.snoc h5, key _ _ h.o1 h1, key _ _ h.o2 h2, key _ _ h.o3 h3⟩
theorem map_snoc (l : List Nd) (x : Nd) : (l ++ [x]).map nodeV = l.map nodeV ++ [nodeV x] := by rw [List.map_append]; rfl
theorem loop18_1 {ns : List Nd} {a : AV} (hns : NsOk ns a) (hn : ns.length ≤ 16) (h9 : ∀ x ∈ ns, x.es.length ≤ 9) {k : Int} (hk : 0 ≤ k ∧ k ≤ 255) :
    ∀ (d i : Nat) (fr : PT) (v5 v6 v7 : AV) (xs ys zs : List Nd), ns.length - i = d → i ≤ ns.length → ZFr fr a k v5 v6 v7 i → Sh k i xs ys zs → Grow 6 v5 (xs.map nodeV) → Grow 6 v6 (ys.map nodeV) → Grow 6 v7 (zs.map nodeV) →
    ∃ fr' v5' v6' v7' xs' ys' zs' j, D.loop 0 18 197 l18_1 fr [] = some (.exit 0, fr', []) ∧ ZFr fr' a k v5' v6' v7' j ∧ Sh k ns.length xs' ys' zs' ∧ Grow 6 v5' (xs'.map nodeV) ∧ Grow 6 v6' (ys'.map nodeV) ∧ Grow 6 v7' (zs'.map nodeV)
  | 0, i, fr, v5, v6, v7, xs, ys, zs, hd, hi, F, hsh, g5, g6, g7 => by
    have hlt := lp1 hd hi
    have e : ns.length = i := by omega
    rw [dl18_1]
    simp -implicitDefEqProofs (maxDischargeDepth := 4) only [go_sem, F.f0, F.f8, hns.sl.shr, hns.sl.notOwn, alen_sl hns.sl, List.length_map, hlt]
    exact ⟨_, v5, v6, v7, xs, ys, zs, i, rfl, F.of fun t ht => by rcases ht with rfl | rfl | rfl | rfl | rfl | rfl <;> simp -implicitDefEqProofs (maxDischargeDepth := 4) only [go_sem], by rw [e]; exact hsh, g5, g6, g7⟩
  | d + 1, i, fr, v5, v6, v7, xs, ys, zs, hd, hi, F, hsh, g5, g6, g7 => by
    have hlt : ((i : Int) < (ns.length : Int)) := by omega
    have w3 := wrap_succ (show i ≤ 1000 by omega)
    obtain ⟨x0, hx0⟩ := ex_nd (ns := ns) (i := i) (by omega)
    have hm0 := List.mem_of_getElem? hx0
    have hok0 := hns.ok x0 hm0
    have hokl : NdOk (lowN x0) := by unfold NdOk; rw [(lowN_kd x0).2.1, (lowN_kd x0).2.2]; exact hok0
    have hlt5 : actK (lowN x0).kind = true → (lowN x0).prio < 500 := fun h => lowN_lt (by rw [← (lowN_kd x0).1]; exact h)
    have hokh : NdOk (higN k (lowN x0)) := by unfold higN; split; exact hokl; exact hokl
    have h9l : (lowN x0).es.length ≤ 9 := by rw [(lowN_kd x0).2.1]; exact h9 x0 hm0
    have hll : ∀ (l : List Nd), l.length = i → (l.map nodeV).length < 2 ^ 20 := fun l hl => by rw [List.length_map]; exact Nat.lt_of_le_of_lt (show l.length ≤ 16 by omega) (by decide)
    obtain ⟨fr1, p1, F1⟩ : ∃ fr1 : PT, ex cx D 0 18 197 (.seq (.region 6 g18_6 false) (.cond (.tmp 34) .skip (.exit 0))) fr [] = some (.normal, fr1, []) ∧ ZFr fr1 a k v5 v6 v7 i := by
      simp -implicitDefEqProofs (maxDischargeDepth := 4) only [go_sem, F.f0, F.f8, hns.sl.shr, hns.sl.notOwn, alen_sl hns.sl, List.length_map, hlt]
      exact ⟨_, rfl, F.of fun t ht => by rcases ht with rfl | rfl | rfl | rfl | rfl | rfl <;> simp -implicitDefEqProofs (maxDischargeDepth := 4) only [go_sem]⟩
    obtain ⟨fr2, p2, F2, k9⟩ := sh_a hok0 hns hx0 F1
    generalize lowN x0 = x at *
    obtain ⟨fr3, p3, F3, m9⟩ := sh_b hokl g5 (hll xs hsh.l) F2 k9
    obtain ⟨fr4, p4, F4, n9, n10⟩ := sh_c hokl hk hlt5 F3 m9
    have hhi := hi_of k x hlt5
    generalize higN k x = y at *
    obtain ⟨fr5, p5, F5, o9⟩ := sh_d hokl hokh g6 (hll ys (by rw [← hsh.hi.len]; exact hsh.l)) F4 n9 n10
    obtain ⟨fr6, p6, F6, q12⟩ := sh_e (M := ndX y) hokl F5 o9
    rw [← map_snoc] at F3 F4 F5 F6
    rw [← map_snoc] at F5 F6
    have g5' : Grow 6 (.vec 6 .own ((xs ++ [x]).map nodeV)) ((xs ++ [x]).map nodeV) := .inl rfl
    have g6' : Grow 6 (.vec 6 .own ((ys ++ [y]).map nodeV)) ((ys ++ [y]).map nodeV) := .inl rfl
    obtain ⟨fr7, v, p7, F7, hv⟩ := loop18_0 hokl h9l (killB_nd hokh 3) hns.sl g5' g6' g7 x.es.length 0 fr6 _ (Nat.sub_zero _) (Nat.zero_le _) F6 q12 (.inr ⟨rfl, rfl⟩)
    obtain ⟨fr8, p8, F8⟩ := sh_f hv g7 (hll zs (by rw [← hsh.st.len]; exact hsh.l)) F7
    have hz : AV.agg [iv x.kind, iv x.prio, bv x.chan, iv x.pt, iv x.ps, shr v] = nodeV (steN x (shr v)) := rfl
    rw [hz, ← map_snoc] at F8
    have hokz : NdOk (steN x (shr v)) := hv.sl
    have g7' : Grow 6 (.vec 6 .own ((zs ++ [steN x (shr v)]).map nodeV)) ((zs ++ [steN x (shr v)]).map nodeV) := .inl rfl
    obtain ⟨fr9, p9, F9⟩ : ∃ fr9 : PT, ex cx D 0 18 197 (.region 7 g18_25 false) fr8 [ndX x, ndX y, stB x v] = some (.normal, fr9, [ndX x, ndX y, stB x v]) ∧ ZFr fr9 a k (.vec 6 .own ((xs ++ [x]).map nodeV)) (.vec 6 .own ((ys ++ [y]).map nodeV)) (.vec 6 .own ((zs ++ [steN x (shr v)]).map nodeV)) (i + 1) := by
      simp -implicitDefEqProofs (maxDischargeDepth := 4) only [go_sem, F8.f8, w3]
      exact ⟨_, rfl, by simp -implicitDefEqProofs (maxDischargeDepth := 4) only [go_sem, F8.f0], by simp -implicitDefEqProofs (maxDischargeDepth := 4) only [go_sem, F8.f1], by simp -implicitDefEqProofs (maxDischargeDepth := 4) only [go_sem, F8.f5], by simp -implicitDefEqProofs (maxDischargeDepth := 4) only [go_sem, F8.f6], by simp -implicitDefEqProofs (maxDischargeDepth := 4) only [go_sem, F8.f7], by simp -implicitDefEqProofs (maxDischargeDepth := 4) only [go_sem]⟩
    obtain ⟨_, _, r1, r2⟩ := x_split p2
    obtain ⟨_, _, r3, r4⟩ := x_split p4
    obtain ⟨_, _, r5, t⟩ := x_split p6
    obtain ⟨_, _, r6, r7⟩ := x_split t
    have el : ex cx D 0 18 197 (.block 2 (.loop l18_0)) fr6 [ndX x, ndX y, stB x (.lit (.slice none 0 0))] = some (.normal, fr7, [ndX x, ndX y, stB x v]) := by rw [x_block, x_loop, p7]; rfl
    have eb : ex cx D 0 18 197 (.block 1 (.seq (.region 8 g18_7 false) (.seq (.seq (.region 9 g18_8 false) (.cond (.tmp 48) (.region 10 g18_9 false) .skip)) (.seq (.region 11 g18_10 false) (.seq (.region 12 g18_11 false) (.seq (.seq (.region 13 g18_12 false) (.cond (.tmp 70) (.region 14 g18_13 false) .skip)) (.seq (.region 15 g18_14 false) (.seq (.region 16 g18_15 false) (.seq (.region 17 g18_16 false) (.seq (.seq (.region 18 g18_17 false) (.block 2 (.loop l18_0))) (.region 25 g18_24 false)))))))))))
        fr1 [] = some (.normal, fr8, [ndX x, ndX y, stB x v]) := by
      rw [x_block, x_cont1 r1, x_cont1 r2, x_cont1 p3, x_cont1 r3, x_cont1 r4, x_cont1 p5, x_cont1 r5, x_cont1 r6, x_assoc, x_cont1 r7, x_cont1 el, p8]
      rfl
    rw [dl18_1, x_cont1 p1, x_cont1 eb, p9, xbind_some, contR_normal]
    refine trim_gen (P := fun w => ∃ fr' v5' v6' v7' xs' ys' zs' j, w = some (.exit 0, fr', []) ∧ ZFr fr' a k v5' v6' v7' j ∧ Sh k ns.length xs' ys' zs' ∧ Grow 6 v5' (xs'.map nodeV) ∧ Grow 6 v6' (ys'.map nodeV) ∧ Grow 6 v7' (zs'.map nodeV)) [0, 1, 5, 6, 7, 8] (Nat.zero_le _) (fun t ht => ?_) fun fr' G' hG' hf' hk' => ?_
    · simp only [List.mem_cons, List.not_mem_nil, or_false] at ht
      rcases ht with rfl | rfl | rfl | rfl | rfl | rfl
      · rw [F9.f0, kill_Sl hns.sl]
      · rw [F9.f1]; rfl
      · rw [F9.f5]; rfl
      · rw [F9.f6]; rfl
      · rw [F9.f7]; rfl
      · rw [F9.f8]; rfl
    · have hGB : G' = [] := List.length_eq_zero_iff.1 hG'
      subst hGB
      exact loop18_1 hns hn h9 hk d (i + 1) fr' _ _ _ _ _ _ (nd1 hd) (nd2 hd) ⟨by rw [hf' 0 (by simp), F9.f0], by rw [hf' 1 (by simp), F9.f1], by rw [hf' 5 (by simp), F9.f5], by rw [hf' 6 (by simp), F9.f6], by rw [hf' 7 (by simp), F9.f7], by rw [hf' 8 (by simp), F9.f8]⟩ (hsh.snoc hokl hokh hokz hhi (st_of x _)) g5' g6' g7'
end Go.Abs.Tab

/- Order: the statement OrderShifted. -/
set_option linter.unusedVariables false
namespace Go.Abs.Tab
open Go.Gr
structure YFr (fr : PT) (a v5 v6 v7 : AV) (e : Int) (i : Nat) : Prop where
  f0 : fr.get 0 = a
  f5 : fr.get 5 = v5
  f6 : fr.get 6 = v6
  f7 : fr.get 7 = v7
  f15 : fr.get 15 = iv e
  f20 : fr.get 20 = iv i
theorem YFr.of {fr fr' : PT} {a v5 v6 v7 : AV} {e : Int} {i : Nat} (F : YFr fr a v5 v6 v7 e i) (h : ∀ t, (t = 0 ∨ t = 5 ∨ t = 6 ∨ t = 7 ∨ t = 15 ∨ t = 20) → fr'.get t = fr.get t) : YFr fr' a v5 v6 v7 e i :=
  ⟨by rw [h 0 (by simp), F.f0], by rw [h 5 (by simp), F.f5], by rw [h 6 (by simp), F.f6], by rw [h 7 (by simp), F.f7], by rw [h 15 (by simp), F.f15], by rw [h 20 (by simp), F.f20]⟩
structure Sh3 (xs ys zs : List Nd) (v5 v6 v7 : AV) : Prop where
  n1 : NsOk xs (shr v5)
  n2 : NsOk ys (shr v6)
  n3 : NsOk zs (shr v7)
theorem back3 {k : Int} (hk : 0 ≤ k ∧ k ≤ 255) {n : Nat} {xs ys zs : List Nd} (h : Sh k n xs ys zs) {v5 v6 v7 : AV} (N : Sh3 xs ys zs v5 v6 v7) (i : Int) :
    ∃ (c : Int) (b : Bool) (c' : Int) (b' : Bool), pcall D 64 [shr v5, iv i] = some (.tup [iv c, bv b]) ∧ pcall D 64 [shr v6, iv i] = some (.tup [iv c, bv b]) ∧ pcall D 64 [shr v7, iv i] = some (.tup [iv c', bv b']) ∧ ((ordC xs).2 = 0 → b = b' ∧ (b = true → c ≤ c')) := by
  obtain ⟨⟨c, b⟩, h1, b1⟩ := back_ok N.n1 i
  obtain ⟨r2, h2, b2⟩ := back_ok N.n2 i
  obtain ⟨⟨c', b'⟩, h3, b3⟩ := back_ok N.n3 i
  obtain rfl := b1.uniq ((back_hi hk h.hi i r2).1 b2)
  exact ⟨c, b, c', b', h1, h2, h3, fun h0 => back_st h.st h0 b1 b3⟩
theorem loop18_2 {ns : List Nd} {a : AV} (hns : NsOk ns a) (hn : ns.length ≤ 16) {k : Int} (hk : 0 ≤ k ∧ k ≤ 255) {n : Nat} {xs ys zs : List Nd} (h : Sh k n xs ys zs) {v5 v6 v7 : AV} (N : Sh3 xs ys zs v5 v6 v7) :
    ∀ (d i : Nat) (fr : PT), ns.length - i = d → i ≤ ns.length → YFr fr a v5 v6 v7 (ordC xs).2 i → ∃ fr', D.loop 0 18 197 l18_2 fr [] = some (.exit 4, fr', [])
  | 0, i, fr, hd, hi, F => by
    have hlt := lp1 hd hi
    rw [dl18_2]
    simp -implicitDefEqProofs (maxDischargeDepth := 4) only [go_sem, F.f0, F.f20, hns.sl.shr, hns.sl.notOwn, alen_sl hns.sl, List.length_map, hlt]
    exact ⟨_, rfl⟩
  | d + 1, i, fr, hd, hi, F => by
    have hlt : ((i : Int) < (ns.length : Int)) := by omega
    have w3 := wrap_succ (show i ≤ 1000 by omega)
    obtain ⟨c, b, c', b', h1, h2, h3, h4⟩ := back3 hk h N i
    obtain ⟨fr1, p1, F1⟩ : ∃ fr1 : PT, ex cx D 0 18 197 (.seq (.region 32 g18_32 false) (.cond (.tmp 151) .skip (.exit 4))) fr [] = some (.normal, fr1, []) ∧ YFr fr1 a v5 v6 v7 (ordC xs).2 i := by
      simp -implicitDefEqProofs (maxDischargeDepth := 4) only [go_sem, F.f0, F.f20, hns.sl.shr, hns.sl.notOwn, alen_sl hns.sl, List.length_map, hlt]
      exact ⟨_, rfl, F.of fun t ht => by rcases ht with rfl | rfl | rfl | rfl | rfl | rfl <;> simp -implicitDefEqProofs (maxDischargeDepth := 4) only [go_sem]⟩
    obtain ⟨fr2, p2, F2, k21, k22, k23, k24, k25, k26⟩ : ∃ fr2 : PT, ex cx D 0 18 197 (.seq (.region 34 g18_33 false) (.seq (.region 35 g18_34 false) (.region 36 g18_35 false))) fr1 [] = some (.normal, fr2, []) ∧ YFr fr2 a v5 v6 v7 (ordC xs).2 i ∧
        fr2.get 21 = iv c ∧ fr2.get 22 = bv b ∧ fr2.get 23 = iv c ∧ fr2.get 24 = bv b ∧ fr2.get 25 = iv c' ∧ fr2.get 26 = bv b' := by
      simp -implicitDefEqProofs (maxDischargeDepth := 4) only [go_sem, F1.f5, F1.f6, F1.f7, F1.f20, mvV_false, N.n1.sl.shr, N.n1.sl.shut1, N.n2.sl.shr, N.n2.sl.shut1, N.n3.sl.shr, N.n3.sl.shut1, h1, h2, h3]
      exact ⟨_, rfl, F1.of fun t ht => by rcases ht with rfl | rfl | rfl | rfl | rfl | rfl <;> simp -implicitDefEqProofs (maxDischargeDepth := 4) only [go_sem], by simp -implicitDefEqProofs (maxDischargeDepth := 4) only [go_sem], by simp -implicitDefEqProofs (maxDischargeDepth := 4) only [go_sem], by simp -implicitDefEqProofs (maxDischargeDepth := 4) only [go_sem], by simp -implicitDefEqProofs (maxDischargeDepth := 4) only [go_sem], by simp -implicitDefEqProofs (maxDischargeDepth := 4) only [go_sem], by simp -implicitDefEqProofs (maxDischargeDepth := 4) only [go_sem]⟩
    obtain ⟨fr3, p3, F3⟩ : ∃ fr3 : PT, ex cx D 0 18 197 (.seq (.region 37 g18_36 false) (.cond (.tmp 196) (.seq (.region 38 g18_37 false) .ret) .skip)) fr2 [] = some (.normal, fr3, []) ∧ YFr fr3 a v5 v6 v7 (ordC xs).2 i := by
      have f15 := F2.f15
      by_cases h0 : (ordC xs).2 = 0
      · obtain ⟨rfl, hle⟩ := h4 h0
        rw [h0] at f15
        cases b with
        | true =>
          have hle' : ¬ c' < c := by have := hle rfl; omega
          simp -implicitDefEqProofs (maxDischargeDepth := 4) only [go_sem, f15, k21, k22, k23, k24, k25, k26, hle']
          exact ⟨_, rfl, F2.of fun t ht => by rcases ht with rfl | rfl | rfl | rfl | rfl | rfl <;> simp -implicitDefEqProofs (maxDischargeDepth := 4) only [go_sem]⟩
        | false =>
          simp -implicitDefEqProofs (maxDischargeDepth := 4) only [go_sem, f15, k21, k22, k23, k24, k25, k26]
          exact ⟨_, rfl, F2.of fun t ht => by rcases ht with rfl | rfl | rfl | rfl | rfl | rfl <;> simp -implicitDefEqProofs (maxDischargeDepth := 4) only [go_sem]⟩
      · cases b <;> (
        simp -implicitDefEqProofs (maxDischargeDepth := 4) only [go_sem, f15, k21, k22, k23, k24, k25, k26, h0]
        exact ⟨_, rfl, F2.of fun t ht => by rcases ht with rfl | rfl | rfl | rfl | rfl | rfl <;> simp -implicitDefEqProofs (maxDischargeDepth := 4) only [go_sem]⟩)
    obtain ⟨_, _, q1, t⟩ := x_split p2
    obtain ⟨_, _, q2, q3⟩ := x_split t
    have eb : ex cx D 0 18 197 (.block 5 (.seq (.region 34 g18_33 false) (.seq (.region 35 g18_34 false) (.seq (.region 36 g18_35 false) (.seq (.region 37 g18_36 false) (.cond (.tmp 196) (.seq (.region 38 g18_37 false) .ret) .skip)))))) fr1 [] = some (.normal, fr3, []) := by
      rw [x_block, x_cont1 q1, x_cont1 q2, x_cont1 q3, p3]
      rfl
    obtain ⟨fr4, p4, F4⟩ : ∃ fr4 : PT, ex cx D 0 18 197 (.region 33 g18_38 false) fr3 [] = some (.normal, fr4, []) ∧ YFr fr4 a v5 v6 v7 (ordC xs).2 (i + 1) := by
      simp -implicitDefEqProofs (maxDischargeDepth := 4) only [go_sem, F3.f20, w3]
      exact ⟨_, rfl, by simp -implicitDefEqProofs (maxDischargeDepth := 4) only [go_sem, F3.f0], by simp -implicitDefEqProofs (maxDischargeDepth := 4) only [go_sem, F3.f5], by simp -implicitDefEqProofs (maxDischargeDepth := 4) only [go_sem, F3.f6], by simp -implicitDefEqProofs (maxDischargeDepth := 4) only [go_sem, F3.f7], by simp -implicitDefEqProofs (maxDischargeDepth := 4) only [go_sem, F3.f15], by simp -implicitDefEqProofs (maxDischargeDepth := 4) only [go_sem]⟩
    rw [dl18_2, x_cont1 p1, x_cont1 eb, p4, xbind_some, contR_normal, trimmed_l rfl]
    exact loop18_2 hns hn hk h N d (i + 1) fr4 (nd1 hd) (nd2 hd) F4
theorem oshifted_ok {v : AV} {k : Int} {ns : List Nd} (hs : Sl 6 v (ns.map nodeV)) (hok : ∀ x ∈ ns, NdOk x) (hk : 0 ≤ k ∧ k ≤ 255) : ∃ H', callB cx D 0 18 [v, byV k] [] = some (bv true, H') := by
  obtain ⟨cs, a, h63, hc, hl16, h9⟩ := few_ok9 hs hok
  obtain ⟨fr1, p1, F1⟩ : ∃ fr1 : PT, ex cx D 0 18 197 (.seq (.region 0 g18_0 false) (.seq (.seq (.region 1 g18_1 false) (.cond (.tmp 28) (.seq (.region 2 g18_2 false) .ret) .skip)) (.seq (.region 3 g18_3 false) (.seq (.region 4 g18_4 false) (.region 5 g18_5 false)))))
      ((PT.nil.set 0 (drp v)).set 1 (drp (byV k))) [] = some (.normal, fr1, []) ∧ ZFr fr1 a k (.lit (.slice none 0 0)) (.lit (.slice none 0 0)) (.lit (.slice none 0 0)) 0 := by
    simp -implicitDefEqProofs (maxDischargeDepth := 4) only [go_sem, oworks_ok, u_not, hs.drp, hs.shr, hs.notOwn, hs.shut1, h63, hc.sl.shr, hc.sl.notOwn]
    exact ⟨_, rfl, by simp -implicitDefEqProofs (maxDischargeDepth := 4) only [go_sem], by simp -implicitDefEqProofs (maxDischargeDepth := 4) only [go_sem], by simp -implicitDefEqProofs (maxDischargeDepth := 4) only [go_sem], by simp -implicitDefEqProofs (maxDischargeDepth := 4) only [go_sem], by simp -implicitDefEqProofs (maxDischargeDepth := 4) only [go_sem], by simp -implicitDefEqProofs (maxDischargeDepth := 4) only [go_sem]; rfl⟩
  obtain ⟨fr2, v5, v6, v7, xs, ys, zs, j, p2, F2, hsh, g5, g6, g7⟩ := loop18_1 hc hl16 h9 hk cs.length 0 fr1 _ _ _ [] [] [] (Nat.sub_zero _) (Nat.zero_le _) F1 ⟨rfl, Rel.nil _, Rel.nil _, fun x hx => (by cases hx), fun x hx => (by cases hx), fun x hx => (by cases hx)⟩ (.inr ⟨rfl, rfl⟩) (.inr ⟨rfl, rfl⟩) (.inr ⟨rfl, rfl⟩)
  have hsm : ∀ (l : List Nd), l.length = cs.length → l.length < 2 ^ 30 := fun l hl => Nat.lt_of_le_of_lt (show l.length ≤ 16 by omega) (by decide)
  have N : Sh3 xs ys zs v5 v6 v7 := ⟨⟨g5.sl, hsh.o1, hsm _ hsh.l⟩, ⟨g6.sl, hsh.o2, hsm _ (by rw [← hsh.hi.len]; exact hsh.l)⟩, ⟨g7.sl, hsh.o3, hsm _ (by rw [← hsh.st.len]; exact hsh.l)⟩⟩
  have a1 := ord_ok N.n1
  have a2 := ord_ok N.n2
  have a3 := ord_ok N.n3
  rw [ordC_hi hk hsh.hi] at a2
  have h3 : (ordC xs).2 = 0 → (ordC zs).2 = 0 := fun h => ordC_of (ord_st hsh.st (ord_good h))
  unfold errV at a1 a2 a3
  obtain ⟨fr3, p3, F3, k14, k15, k16, k17, k19⟩ : ∃ fr3 : PT, ex cx D 0 18 197 (.seq (.region 26 g18_26 false) (.seq (.region 27 g18_27 false) (.region 28 g18_28 false))) fr2 [] = some (.normal, fr3, []) ∧ (fr3.get 0 = a ∧ fr3.get 5 = v5 ∧ fr3.get 6 = v6 ∧ fr3.get 7 = v7) ∧
      fr3.get 14 = iv (ordC xs).1 ∧ fr3.get 15 = iv (ordC xs).2 ∧ fr3.get 16 = iv (ordC xs).1 ∧ fr3.get 17 = iv (ordC xs).2 ∧ fr3.get 19 = iv (ordC zs).2 := by
    simp -implicitDefEqProofs (maxDischargeDepth := 4) only [go_sem, F2.f5, F2.f6, F2.f7, mvV_false, N.n1.sl.shr, N.n1.sl.shut1, N.n2.sl.shr, N.n2.sl.shut1, N.n3.sl.shr, N.n3.sl.shut1, a1, a2, a3]
    exact ⟨_, rfl, ⟨by simp -implicitDefEqProofs (maxDischargeDepth := 4) only [go_sem, F2.f0], by simp -implicitDefEqProofs (maxDischargeDepth := 4) only [go_sem, F2.f5], by simp -implicitDefEqProofs (maxDischargeDepth := 4) only [go_sem, F2.f6], by simp -implicitDefEqProofs (maxDischargeDepth := 4) only [go_sem, F2.f7]⟩, by simp -implicitDefEqProofs (maxDischargeDepth := 4) only [go_sem], by simp -implicitDefEqProofs (maxDischargeDepth := 4) only [go_sem], by simp -implicitDefEqProofs (maxDischargeDepth := 4) only [go_sem], by simp -implicitDefEqProofs (maxDischargeDepth := 4) only [go_sem], by simp -implicitDefEqProofs (maxDischargeDepth := 4) only [go_sem]⟩
  obtain ⟨b0, b5, b6, b7⟩ := F3
  obtain ⟨fr4, p4, F4⟩ : ∃ fr4 : PT, ex cx D 0 18 197 (.seq (.seq (.region 29 g18_29 false) (.cond (.tmp 147) (.seq (.region 30 g18_30 false) .ret) .skip)) (.region 31 g18_31 false)) fr3 [] = some (.normal, fr4, []) ∧ YFr fr4 a v5 v6 v7 (ordC xs).2 0 := by
    by_cases h0 : (ordC xs).2 = 0
    · rw [h3 h0] at k19
      rw [h0] at k15 k17 ⊢
      simp -implicitDefEqProofs (maxDischargeDepth := 4) only [go_sem, k14, k15, k16, k17, k19]
      exact ⟨_, rfl, by simp -implicitDefEqProofs (maxDischargeDepth := 4) only [go_sem, b0], by simp -implicitDefEqProofs (maxDischargeDepth := 4) only [go_sem, b5], by simp -implicitDefEqProofs (maxDischargeDepth := 4) only [go_sem, b6], by simp -implicitDefEqProofs (maxDischargeDepth := 4) only [go_sem, b7], by simp -implicitDefEqProofs (maxDischargeDepth := 4) only [go_sem, k15], by simp -implicitDefEqProofs (maxDischargeDepth := 4) only [go_sem]; rfl⟩
    · simp -implicitDefEqProofs (maxDischargeDepth := 4) only [go_sem, k14, k15, k16, k17, k19, h0]
      exact ⟨_, rfl, by simp -implicitDefEqProofs (maxDischargeDepth := 4) only [go_sem, b0], by simp -implicitDefEqProofs (maxDischargeDepth := 4) only [go_sem, b5], by simp -implicitDefEqProofs (maxDischargeDepth := 4) only [go_sem, b6], by simp -implicitDefEqProofs (maxDischargeDepth := 4) only [go_sem, b7], by simp -implicitDefEqProofs (maxDischargeDepth := 4) only [go_sem, k15], by simp -implicitDefEqProofs (maxDischargeDepth := 4) only [go_sem]; rfl⟩
  obtain ⟨fr5, p5⟩ := loop18_2 hc hl16 hk hsh N cs.length 0 fr4 (Nat.sub_zero _) (Nat.zero_le _) F4
  obtain ⟨_, _, q0, t⟩ := x_split p1
  obtain ⟨_, _, q1, t⟩ := x_split t
  obtain ⟨_, _, q3, t⟩ := x_split t
  obtain ⟨_, _, q4, q5⟩ := x_split t
  obtain ⟨_, _, r0, t⟩ := x_split p3
  obtain ⟨_, _, r1, r2⟩ := x_split t
  obtain ⟨_, _, s0, s1⟩ := x_split p4
  have e1 : ex cx D 0 18 197 (.block 0 (.loop l18_1)) fr1 [] = some (.normal, fr2, []) := by rw [x_block, x_loop, p2]; rfl
  have e2 : ex cx D 0 18 197 (.block 4 (.loop l18_2)) fr4 [] = some (.normal, fr5, []) := by rw [x_block, x_loop, p5]; rfl
  rw [c18, x_cont1 q0, x_cont1 q1, x_cont1 q3, x_cont1 q4, x_assoc, x_cont1 q5, x_cont1 e1, x_cont1 r0, x_cont1 r1, x_cont1 r2, x_cont1 s0, x_assoc, x_cont1 s1, x_cont1 e2]
  simp -implicitDefEqProofs (maxDischargeDepth := 4) only [go_sem]
  exact ⟨_, rfl⟩
theorem oshifted_row {v0 v1 : AV} (h0 : Rdd Go.Proofs.Try.prog 20 56 [v0]) (h1 : Rdd Go.Proofs.Try.prog 20 5 [v1]) : ∃ H', callB cx D 0 18 [v0, v1] [] = some (bv true, H') := by
  obtain ⟨ns, hs, hok⟩ := nodes_read (d := 5) h0
  obtain ⟨k, w1, e⟩ := rd_int Go.Proofs.Try.underlying5 h1
  cases e
  exact oshifted_ok hs hok (Go.bounds_u8 w1)
end Go.Abs.Tab
