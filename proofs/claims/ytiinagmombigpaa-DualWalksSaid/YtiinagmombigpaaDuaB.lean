/- Where types lead, and what a node that may be is: plain laws. -/
import Derived.Test.YtiinagmombigpaaGraB
import Derived.Test.YtiinagmombigpaaDuaA
import Derived.Test.YtiinagmombigpaaGraF
set_option linter.unusedSimpArgs false
set_option linter.unusedVariables false
set_option linter.unnecessarySimpa false

/- Where types lead, and what a node that may be is: plain laws. -/
set_option linter.unusedVariables false
namespace Go.Abs.Tab
open Go.Gr
theorem wrap_small {n : Int} (h1 : -1000000 ≤ n) (h2 : n ≤ 1000000) : wrapK .i64 n = n := wrapK_i64 (by omega) (by omega)
theorem wlk_cases {ns : List Nd} : ∀ (k : Nat) (n o : Int), wlk ns k n o = (-1, 0) ∨ ∃ (m : Nat) (x : Nd) (o' : Int), wlk ns k n o = ((m : Int), o') ∧ ns[m]? = some x ∧ atN ns m = some x ∧ x.kind ≠ 5
  | 0, n, o => .inl rfl
  | k + 1, n, o => by
    rcases atN_cases (ns := ns) n with ⟨ha, _⟩ | ⟨m, x, rfl, hm, hx, ha⟩
    · exact .inl (wlk_out ha)
    · by_cases h5 : x.kind = 5
      · by_cases h1 : x.es.length = 1
        · obtain ⟨e, he⟩ := List.length_eq_one_iff.1 h1
          rw [wlk_one ha h5 he]
          exact wlk_cases k _ _
        · exact .inl (wlk_bad ha h5 h1)
      · exact .inr ⟨m, x, o, wlk_ne ha h5, hx, ha, h5⟩
theorem wlk_mono {ns : List Nd} : ∀ {k : Nat} {n o m o' : Int}, wlk ns k n o = (m, o') → 0 ≤ m → wlk ns (k + 1) n o = (m, o')
  | 0, n, o, m, o', h, hm => by simp only [wlk, Prod.mk.injEq] at h; omega
  | k + 1, n, o, m, o', h, hm => by
    rcases atN_cases (ns := ns) n with ⟨ha, _⟩ | ⟨q, x, rfl, hq, hx, ha⟩
    · rw [wlk_out ha] at h ⊢; exact h
    · by_cases h5 : x.kind = 5
      · by_cases h1 : x.es.length = 1
        · obtain ⟨e, he⟩ := List.length_eq_one_iff.1 h1
          rw [wlk_one ha h5 he] at h ⊢
          exact wlk_mono h hm
        · rw [wlk_bad ha h5 h1] at h ⊢; exact h
      · rw [wlk_ne ha h5] at h ⊢; exact h
/-- edges' shifts are small -/
def Small (ns : List Nd) : Prop := ∀ x ∈ ns, ∀ e ∈ x.es, 0 ≤ e.2 ∧ e.2 ≤ 1000
theorem wlk_add {ns : List Nd} (hs : Small ns) {d : Int} (hd : 0 ≤ d ∧ d ≤ 100000) : ∀ {k : Nat} {n o m o' : Int}, wlk ns k n o = (m, o') → 0 ≤ m → 0 ≤ o → o + 1000 * k ≤ 800000 → wlk ns k n (o + d) = (m, o' + d) ∧ 0 ≤ o' ∧ o' ≤ 800000
  | 0, n, o, m, o', h, hm, h0, h1 => by simp only [wlk, Prod.mk.injEq] at h; omega
  | k + 1, n, o, m, o', h, hm, h0, h1 => by
    rcases atN_cases (ns := ns) n with ⟨ha, _⟩ | ⟨q, x, rfl, hq, hx, ha⟩
    · rw [wlk_out ha] at h; cases h; omega
    · by_cases h5 : x.kind = 5
      · by_cases hl : x.es.length = 1
        · obtain ⟨e, he⟩ := List.length_eq_one_iff.1 hl
          have hse := hs x (List.mem_of_getElem? hx) e (by rw [he]; simp)
          rw [wlk_one ha h5 he] at h ⊢
          rw [wrap_small (by omega) (by omega)] at h ⊢
          have := wlk_add hs hd h hm (by omega) (by omega)
          rw [show o + d + e.2 = o + e.2 + d by omega]
          exact this
        · rw [wlk_bad ha h5 hl] at h; cases h; omega
      · rw [wlk_ne ha h5] at h ⊢; cases h
        exact ⟨rfl, by omega, by omega⟩
theorem chkA_none {N : Int} : ∀ {l : List Nd} {i : Nat}, (∀ x ∈ l, shp x = true ∧ opn N x = false) → chkA N i l = none
  | [], _, _ => rfl
  | x :: xs, i, h => by
    obtain ⟨h1, h2⟩ := h x (by simp)
    simp only [chkA, h1, h2, Bool.true_eq_false, Bool.false_eq_true, if_false]
    exact chkA_none fun y hy => h y (List.mem_cons_of_mem _ hy)
theorem chkB_spec {ns : List Nd} : ∀ (k i : Nat), (chkB ns k i = (-1, 0) ∧ ∀ j : Nat, i ≤ j → j < i + k → bad ns j = false) ∨ ∃ w : Nat, chkB ns k i = ((w : Int), 9) ∧ i ≤ w ∧ w < i + k ∧ bad ns w = true ∧ ∀ j : Nat, i ≤ j → j < w → bad ns j = false
  | 0, i => .inl ⟨rfl, fun j h1 h2 => by omega⟩
  | k + 1, i => by
    simp only [chkB]
    cases hb : bad ns i with
    | true => exact .inr ⟨i, by simp, by omega, by omega, hb, fun j h1 h2 => by omega⟩
    | false =>
      simp only [Bool.false_eq_true, if_false]
      rcases chkB_spec k (i + 1) with ⟨h1, h2⟩ | ⟨w, h1, h2, h3, h4, h5⟩
      · refine .inl ⟨h1, fun j a b => ?_⟩
        by_cases hj : j = i
        · subst hj; exact hb
        · exact h2 j (by omega) (by omega)
      · refine .inr ⟨w, h1, by omega, by omega, h4, fun j a b => ?_⟩
        by_cases hj : j = i
        · subst hj; exact hb
        · exact h5 j (by omega) (by omega)
theorem shp_small {x : Nd} (h : shp x = true) : ∀ e ∈ x.es, 0 ≤ e.2 ∧ e.2 ≤ 1000 := by
  unfold shp at h
  simp only [Bool.and_eq_true, Bool.not_eq_true'] at h
  have hw := h.2
  rw [any_edg, Bool.or_eq_false_iff] at hw
  intro e he
  have := hw.1
  rw [List.any_eq_false] at this
  have h2 := this e he
  rw [wide_iff] at h2
  omega
theorem shp_alias {x : Nd} (h : shp x = true) (h5 : x.kind = 5) : x.es.length = 1 := by
  unfold shp at h
  rw [h5] at h
  simp only [Bool.and_eq_true, Bool.not_eq_true', Bool.or_eq_false_iff, decide_eq_false_iff_not] at h
  have : frm 5 = (1, 1, false, true) := by decide
  rw [this] at h
  dsimp only at h
  omega
end Go.Abs.Tab

/- Duals: kinds of both halves; shifts that are none. -/
set_option linter.unusedVariables false
namespace Go.Abs.Tab
open Go.Gr
abbrev ks1 : List Int := [0, 1, 2, 3, 4, 5]
abbrev ks2 : List Int := [0, 2, 1, 4, 3, 5]
theorem k6 {k : Int} (h : 0 ≤ k ∧ k ≤ 5) : k = 0 ∨ k = 1 ∨ k = 2 ∨ k = 3 ∨ k = 4 ∨ k = 5 := by omega
theorem ks1_at {k : Int} (h : 0 ≤ k ∧ k ≤ 5) : ks1[k.toNat]? = some k := by
  rcases k6 h with rfl | rfl | rfl | rfl | rfl | rfl <;> rfl
theorem ks2_at {k : Int} (h : 0 ≤ k ∧ k ≤ 5) : ks2[k.toNat]? = some (dk k) := by
  rcases k6 h with rfl | rfl | rfl | rfl | rfl | rfl <;> rfl
theorem mv_zero {n : Int} (hn : n ≤ 64) {x : Nd} (h : opn n x = false) : x.es.map (mv 0) = x.es := by
  have : ∀ e ∈ x.es, mv 0 e = e := fun e he => by
    unfold opn at h
    rw [Bool.or_eq_false_iff, List.any_eq_false] at h
    have h1 := h.1 e he
    simp only [outE, Bool.or_eq_true, decide_eq_true_eq, not_or] at h1
    unfold mv
    rw [Int.add_zero, wrapK_i64 (by omega) (by omega)]
  rw [List.map_congr_left this, List.map_id'']
  exact fun _ => rfl
end Go.Abs.Tab

/- Duals: both halves of a dual table lead alike: the plain law of DualWalks. -/
set_option linter.unusedVariables false
namespace Go.Abs.Tab
open Go.Gr
theorem atN_nat {ns : List Nd} {i : Nat} {x : Nd} (h : ns[i]? = some x) : atN ns i = some x := by
  unfold atN
  rw [if_neg (by omega), Int.toNat_natCast, h]
theorem wlk_fst {ns : List Nd} : ∀ (k : Nat) (n o p : Int), (wlk ns k n o).1 = (wlk ns k n p).1
  | 0, n, o, p => rfl
  | k + 1, n, o, p => by
    rcases atN_cases (ns := ns) n with ⟨ha, _⟩ | ⟨q, x, rfl, hq, hx, ha⟩
    · rw [wlk_out ha, wlk_out ha]
    · by_cases h5 : x.kind = 5
      · by_cases h1 : x.es.length = 1
        · obtain ⟨e, he⟩ := List.length_eq_one_iff.1 h1
          rw [wlk_one ha h5 he, wlk_one ha h5 he]
          exact wlk_fst k _ _ _
        · rw [wlk_bad ha h5 h1, wlk_bad ha h5 h1]
      · rw [wlk_ne ha h5, wlk_ne ha h5]
structure Half2 (ns T : List Nd) : Prop where
  ln : T.length = ns.length + ns.length
  h1 : ∀ (i : Nat) (x : Nd), ns[i]? = some x → ∃ y, T[i]? = some y ∧ half ks1 0 x y
  h2 : ∀ (i : Nat) (x : Nd), ns[i]? = some x → ∃ y, T[ns.length + i]? = some y ∧ half ks2 ns.length x y
theorem DualOk.half2 {ns n1 n2 : List Nd} {v : AV} (h : DualOk ns v n1 n2) : Half2 ns (n1 ++ n2) := by
  have hl1 := h.l1
  have hl2 := h.l2
  refine ⟨by rw [List.length_append, hl1, hl2], fun i x hx => ?_, fun i x hx => ?_⟩
  · have hi := (List.getElem?_eq_some_iff.1 hx).1
    obtain ⟨y, hy⟩ := ex_nd (ns := n1) (i := i) (by omega)
    exact ⟨y, by rw [List.getElem?_append_left (by omega)]; exact hy, h.h1 i x y hx hy⟩
  · have hi := (List.getElem?_eq_some_iff.1 hx).1
    obtain ⟨y, hy⟩ := ex_nd (ns := n2) (i := i) (by omega)
    exact ⟨y, by rw [List.getElem?_append_right (by omega), hl1, Nat.add_sub_cancel_left]; exact hy, h.h2 i x y hx hy⟩
theorem opn_edge {n : Int} {x : Nd} (h : opn n x = false) {e : Int × Int} (he : e ∈ x.es) : 0 ≤ e.1 ∧ e.1 < n := by
  unfold opn at h
  rw [Bool.or_eq_false_iff, List.any_eq_false] at h
  have h1 := h.1 e he
  simp only [outE, Bool.or_eq_true, decide_eq_true_eq, not_or] at h1
  omega
theorem mv_far {n : Nat} (hn : n ≤ 64) {e : Int × Int} (h : 0 ≤ e.1 ∧ e.1 < n) : mv n e = (e.1 + n, e.2) := by
  unfold mv
  rw [wrapK_i64 (by omega) (by omega)]
theorem ks1_five {k y : Int} (h : 0 ≤ k ∧ k ≤ 5) (hy : ks1[k.toNat]? = some y) : (k = 5 ↔ y = 5) := by
  rw [ks1_at h] at hy
  rw [Option.some.inj hy]
theorem ks2_five {k y : Int} (h : 0 ≤ k ∧ k ≤ 5) (hy : ks2[k.toNat]? = some y) : (k = 5 ↔ y = 5) := by
  rw [ks2_at h] at hy
  rw [← Option.some.inj hy]
  rcases k6 h with rfl | rfl | rfl | rfl | rfl | rfl <;> decide
theorem wlk_half1 {ns T : List Nd} (hg : Good ns) (H : Half2 ns T) : ∀ (k i : Nat) (o : Int), i < ns.length → wlk T k i o = wlk ns k i o
  | 0, i, o, hi => rfl
  | k + 1, i, o, hi => by
    obtain ⟨x, hx⟩ := ex_nd hi
    obtain ⟨y, hy, hh⟩ := H.h1 i x hx
    have hm := List.mem_of_getElem? hx
    have hs := hg.sh x hm
    have hz := mv_zero (n := ns.length) (by have := hg.le; omega) (hg.cl x hm)
    have h5 := ks1_five (shp_kind hs) hh.1
    by_cases hk : x.kind = 5
    · obtain ⟨e, he⟩ := List.length_eq_one_iff.1 (shp_alias hs hk)
      have hb := opn_edge (hg.cl x hm) (e := e) (by rw [he]; simp)
      obtain ⟨j, hj⟩ : ∃ j : Nat, e.1 = j := ⟨e.1.toNat, by omega⟩
      rw [wlk_one (atN_nat hx) hk he, wlk_one (e := e) (atN_nat hy) (h5.1 hk) (by rw [hh.2.2.2.2.2.1, hz, he]), hj]
      exact wlk_half1 hg H k j _ (by omega)
    · rw [wlk_ne (atN_nat hx) hk, wlk_ne (atN_nat hy) fun h => hk (h5.2 h)]
theorem wlk_half2 {ns T : List Nd} (hg : Good ns) (H : Half2 ns T) : ∀ (k i : Nat) (o m o' : Int), i < ns.length → wlk ns k i o = (m, o') → 0 ≤ m → wlk T k ((ns.length + i : Nat) : Int) o = (m + ns.length, o')
  | 0, i, o, m, o', hi, h, hm => by simp only [wlk, Prod.mk.injEq] at h; omega
  | k + 1, i, o, m, o', hi, h, hm0 => by
    obtain ⟨x, hx⟩ := ex_nd hi
    obtain ⟨y, hy, hh⟩ := H.h2 i x hx
    have hm := List.mem_of_getElem? hx
    have hs := hg.sh x hm
    have h5 := ks2_five (shp_kind hs) hh.1
    by_cases hk : x.kind = 5
    · obtain ⟨e, he⟩ := List.length_eq_one_iff.1 (shp_alias hs hk)
      have hb := opn_edge (hg.cl x hm) (e := e) (by rw [he]; simp)
      obtain ⟨j, hj⟩ : ∃ j : Nat, e.1 = j := ⟨e.1.toNat, by omega⟩
      have hf := mv_far hg.le hb
      rw [wlk_one (atN_nat hx) hk he, hj] at h
      rw [wlk_one (e := mv ns.length e) (atN_nat hy) (h5.1 hk) (by rw [hh.2.2.2.2.2.1, he]; rfl), hf, show e.1 + (ns.length : Int) = ((ns.length + j : Nat) : Int) by omega]
      exact wlk_half2 hg H k j _ m o' (by omega) h hm0
    · rw [wlk_ne (atN_nat hx) hk] at h
      rw [wlk_ne (atN_nat hy) fun h => hk (h5.2 h)]
      cases h
      simp only [Prod.mk.injEq, and_true]
      omega
/-- a node and its mate -/
def Pr (n i j : Nat) : Prop := (i < n ∧ j = n + i) ∨ (j < n ∧ i = n + j)
theorem Pr.symm {n i j : Nat} (h : Pr n i j) : Pr n j i := by unfold Pr at *; omega
theorem wlk_mono_n {ns : List Nd} {k : Nat} {n o m o' : Int} (h : wlk ns k n o = (m, o')) (hm : 0 ≤ m) : ∀ d, wlk ns (k + d) n o = (m, o')
  | 0 => h
  | d + 1 => wlk_mono (wlk_mono_n h hm d) hm
theorem good_walk {ns : List Nd} (hg : Good ns) {i : Nat} (hi : i < ns.length) (o : Int) : ∃ (m : Nat) (o' : Int), wlk ns (ns.length + ns.length) i o = ((m : Int), o') ∧ m < ns.length := by
  have hb : bad ns i = false := by
    rcases chkB_spec (ns := ns) ns.length 0 with ⟨_, h⟩ | ⟨w, h, _⟩
    · exact h i (Nat.zero_le _) (by omega)
    · rw [hg.nb] at h
      simp only [Prod.mk.injEq] at h
      omega
  unfold bad at hb
  rw [decide_eq_false_iff_not, wlk_fst ns.length i 0 o] at hb
  rcases wlk_cases (ns := ns) ns.length i o with h | ⟨m, x, o', h, hx, _, _⟩
  · rw [h] at hb
    exact absurd (show (-1 : Int) < 0 by decide) hb
  · exact ⟨m, o', wlk_mono_n h (by omega) _, (List.getElem?_eq_some_iff.1 hx).1⟩
theorem walk_pair {ns T : List Nd} (hg : Good ns) (H : Half2 ns T) {i j : Nat} (hp : Pr ns.length i j) (o : Int) :
    ∃ (m m' : Nat) (o' : Int), wlk T T.length i o = ((m : Int), o') ∧ wlk T T.length j o = ((m' : Int), o') ∧ Pr ns.length m m' := by
  rw [H.ln]
  have key : ∀ i, i < ns.length → ∃ (m : Nat) (o' : Int), wlk T (ns.length + ns.length) i o = ((m : Int), o') ∧ wlk T (ns.length + ns.length) ((ns.length + i : Nat) : Int) o = (((ns.length + m : Nat) : Int), o') ∧ m < ns.length := fun i hi => by
    obtain ⟨m, o', h, hm⟩ := good_walk hg hi o
    refine ⟨m, o', by rw [wlk_half1 hg H _ _ _ hi, h], ?_, hm⟩
    rw [wlk_half2 hg H _ _ _ _ _ hi h (by omega), show (m : Int) + (ns.length : Int) = ((ns.length + m : Nat) : Int) by omega]
  rcases hp with ⟨hi, rfl⟩ | ⟨hj, rfl⟩
  · obtain ⟨m, o', h1, h2, hm⟩ := key i hi
    exact ⟨m, ns.length + m, o', h1, h2, .inl ⟨hm, rfl⟩⟩
  · obtain ⟨m, o', h1, h2, hm⟩ := key j hj
    exact ⟨ns.length + m, m, o', h2, h1, .inr ⟨hm, rfl⟩⟩
def opp (a b : Int) : Bool := if a = 1 then decide (b = 2) else if a = 2 then decide (b = 1) else if a = 3 then decide (b = 4) else if a = 4 then decide (b = 3) else decide (a = b)
structure Opp (n : Nat) (u v : Nd) : Prop where
  k : opp u.kind v.kind = true
  p : v.prio = u.prio
  c : v.chan = u.chan
  t : v.pt = u.pt
  s : v.ps = u.ps
  pn : u.chan = true → u.pt < n
  l : v.es.length = u.es.length
  l8 : u.es.length ≤ 8
  e : ∀ k, k < u.es.length → ∃ (i j : Nat) (s : Int), u.es.getD k (0, 0) = ((i : Int), s) ∧ v.es.getD k (0, 0) = ((j : Int), s) ∧ Pr n i j
theorem opn_pay {n : Int} {x : Nd} (h : opn n x = false) (hc : x.chan = true) : x.pt < n := by
  unfold opn at h
  rw [Bool.or_eq_false_iff, hc, Bool.true_and] at h
  have h1 := h.2
  simp only [outE, Bool.or_eq_false_iff, decide_eq_false_iff_not] at h1
  omega
theorem opp_dk {k : Int} (h : 0 ≤ k ∧ k ≤ 5) : opp k (dk k) = true ∧ opp (dk k) k = true := by
  rcases k6 h with rfl | rfl | rfl | rfl | rfl | rfl <;> decide
theorem getD_map {α β : Type} (f : α → β) (l : List α) (k : Nat) (a : α) (b : β) (h : k < l.length) : (l.map f).getD k b = f (l.getD k a) := by
  simp [List.getD_eq_getElem?_getD, List.getElem?_eq_getElem h]
theorem pair_nodes {ns T : List Nd} (hg : Good ns) (H : Half2 ns T) {i j : Nat} (hp : Pr ns.length i j) : ∃ u v, T[i]? = some u ∧ T[j]? = some v ∧ Opp ns.length u v := by
  have key : ∀ i, i < ns.length → ∃ u v, T[i]? = some u ∧ T[ns.length + i]? = some v ∧ Opp ns.length u v ∧ Opp ns.length v u := fun i hi => by
    obtain ⟨x, hx⟩ := ex_nd hi
    obtain ⟨y, hy, a1, a2, a3, a4, a5, a6, a7⟩ := H.h1 i x hx
    obtain ⟨z, hz, b1, b2, b3, b4, b5, b6, b7⟩ := H.h2 i x hx
    have hm := List.mem_of_getElem? hx
    have hs := hg.sh x hm
    have hk := shp_kind hs
    have hc := hg.cl x hm
    rw [ks1_at hk] at a1
    rw [ks2_at hk] at b1
    rw [mv_zero (n := ns.length) (by have := hg.le; omega) hc] at a6
    have hl := shp_len hs
    have ho := opp_dk hk
    have hlz : z.es.length = x.es.length := by rw [b6, List.length_map]
    have he : ∀ k, k < x.es.length → ∃ (p q : Nat) (s : Int), x.es.getD k (0, 0) = ((p : Int), s) ∧ z.es.getD k (0, 0) = ((q : Int), s) ∧ Pr ns.length p q := fun k hk' => by
      have hmem : x.es.getD k (0, 0) ∈ x.es := by
        rw [List.getD_eq_getElem?_getD, List.getElem?_eq_getElem hk', Option.getD_some]
        exact List.getElem_mem _
      have hb := opn_edge hc hmem
      obtain ⟨p, hp⟩ : ∃ p : Nat, (x.es.getD k (0, 0)).1 = p := ⟨(x.es.getD k (0, 0)).1.toNat, by omega⟩
      refine ⟨p, ns.length + p, (x.es.getD k (0, 0)).2, by rw [← hp], ?_, .inl ⟨by omega, rfl⟩⟩
      rw [b6, getD_map _ _ _ (0, 0) _ hk', mv_far hg.le hb, hp]
      simp only [Prod.mk.injEq, and_true]
      omega
    refine ⟨y, z, hy, hz, ⟨?_, by rw [a2, b2], by rw [a3, b3], by rw [a4, b4], by rw [a5, b5], fun hc' => ?_, by rw [hlz, a6], by rw [a6]; exact hl, fun k hk' => ?_⟩, ⟨?_, by rw [a2, b2], by rw [a3, b3], by rw [a4, b4], by rw [a5, b5], fun hc' => ?_, by rw [hlz, a6], by rw [hlz]; exact hl, fun k hk' => ?_⟩⟩
    · rw [← Option.some.inj a1, ← Option.some.inj b1]; exact ho.1
    · rw [a4]; exact opn_pay hc (by rw [← a3]; exact hc')
    · rw [a6] at hk' ⊢; exact he k hk'
    · rw [← Option.some.inj a1, ← Option.some.inj b1]; exact ho.2
    · rw [b4]; exact opn_pay hc (by rw [← b3]; exact hc')
    · rw [hlz] at hk'
      obtain ⟨p, q, s, e1, e2, e3⟩ := he k hk'
      exact ⟨q, p, s, e2, by rw [a6]; exact e1, e3.symm⟩
  rcases hp with ⟨hi, rfl⟩ | ⟨hj, rfl⟩
  · obtain ⟨u, v, h1, h2, h3, _⟩ := key i hi
    exact ⟨u, v, h1, h2, h3⟩
  · obtain ⟨u, v, h1, h2, _, h3⟩ := key j hj
    exact ⟨v, u, h2, h1, h3⟩
theorem mate_pr {n i j : Nat} (h1 : 1 ≤ n) (h2 : n ≤ 64) (h : Pr n i j) : mate n i = j := by
  unfold mate
  have hw : wrapK .i64 (2 * (n : Int)) = 2 * (n : Int) := wrapK_i64 (by omega) (by omega)
  rw [if_neg (by omega), if_neg (by omega), hw, if_neg (by unfold Pr at h; omega)]
  rcases h with ⟨h3, rfl⟩ | ⟨h3, rfl⟩
  · rw [if_pos (by omega), wrapK_i64 (by omega) (by omega)]
    omega
  · rw [if_neg (by omega), wrapK_i64 (by omega) (by omega)]
    omega
theorem half_len {ns T : List Nd} (hg : Good ns) (H : Half2 ns T) : ((T.length : Int).tmod 2 = 0) ∧ wrapK .i64 ((T.length : Int).tdiv 2) = ns.length := by
  rw [H.ln]
  have hl := hg.le
  have e1 : ((ns.length + ns.length : Nat) : Int) = 2 * (ns.length : Int) := by omega
  rw [e1, Int.mul_tmod_right, Int.mul_tdiv_cancel_left _ (by decide), wrapK_i64 (by omega) (by omega)]
  exact ⟨rfl, rfl⟩
theorem mates_pair {ns T : List Nd} (hg : Good ns) (H : Half2 ns T) {i j : Nat} (hp : Pr ns.length i j) (o : Int) : matesB T ((i : Int), o) ((j : Int), o) = true := by
  obtain ⟨m, m', o', h1, h2, hq⟩ := walk_pair hg H hp o
  obtain ⟨e1, e2⟩ := half_len hg H
  unfold matesB
  simp only [h1, h2, e1, e2, mate_pr hg.pos hg.le hq, decide_true, Bool.and_true, Bool.and_eq_true, decide_eq_true_eq, true_and]
  omega
theorem mates_self {ns T : List Nd} (hg : Good ns) (H : Half2 ns T) {i j : Nat} (hp : Pr ns.length i j) (o : Int) : matesB T ((i : Int), o) ((i : Int), o) = false := by
  obtain ⟨m, m', o', h1, h2, hq⟩ := walk_pair hg H hp o
  obtain ⟨e1, e2⟩ := half_len hg H
  have hne : ¬ (m' : Int) = (m : Int) := by have := hg.pos; unfold Pr at hq; omega
  unfold matesB
  simp only [h1, e1, e2, mate_pr hg.pos hg.le hq, decide_true, hne, decide_false, Bool.and_false]
end Go.Abs.Tab

/- Duals: both halves are walked along: function 14, a step. -/
set_option linter.unusedVariables false
namespace Go.Abs.Tab
open Go.Gr
theorem opp_call {ro : Nat} {H : Hp} (a b : Int) : callB cx D ro 62 [iv a, iv b] H = some (bv (opp a b), H) := by
  unfold opp
  rw [c62]
  by_cases h1 : a = 1
  · simp -implicitDefEqProofs (maxDischargeDepth := 4) only [go_sem, ↓reduceIte, Nat.reduceLT, Nat.reduceAdd, Nat.reduceMul, Nat.reduceSub, Nat.reduceEqDiff, Nat.reduceLeDiff, Nat.reduceBEq, reduceCtorEq, Int.reduceLT, Int.reduceLE, Int.reduceEq, Int.reduceNe, Nat.reducePow, h1]
  by_cases h2 : a = 2
  · simp -implicitDefEqProofs (maxDischargeDepth := 4) only [go_sem, ↓reduceIte, Nat.reduceLT, Nat.reduceAdd, Nat.reduceMul, Nat.reduceSub, Nat.reduceEqDiff, Nat.reduceLeDiff, Nat.reduceBEq, reduceCtorEq, Int.reduceLT, Int.reduceLE, Int.reduceEq, Int.reduceNe, Nat.reducePow, h1, h2]
  by_cases h3 : a = 3
  · simp -implicitDefEqProofs (maxDischargeDepth := 4) only [go_sem, ↓reduceIte, Nat.reduceLT, Nat.reduceAdd, Nat.reduceMul, Nat.reduceSub, Nat.reduceEqDiff, Nat.reduceLeDiff, Nat.reduceBEq, reduceCtorEq, Int.reduceLT, Int.reduceLE, Int.reduceEq, Int.reduceNe, Nat.reducePow, h1, h2, h3]
  by_cases h4 : a = 4
  · simp -implicitDefEqProofs (maxDischargeDepth := 4) only [go_sem, ↓reduceIte, Nat.reduceLT, Nat.reduceAdd, Nat.reduceMul, Nat.reduceSub, Nat.reduceEqDiff, Nat.reduceLeDiff, Nat.reduceBEq, reduceCtorEq, Int.reduceLT, Int.reduceLE, Int.reduceEq, Int.reduceNe, Nat.reducePow, h1, h2, h3, h4]
  · simp -implicitDefEqProofs (maxDischargeDepth := 4) only [go_sem, ↓reduceIte, Nat.reduceLT, Nat.reduceAdd, Nat.reduceMul, Nat.reduceSub, Nat.reduceEqDiff, Nat.reduceLeDiff, Nat.reduceBEq, reduceCtorEq, Int.reduceLT, Int.reduceLE, Int.reduceEq, Int.reduceNe, Nat.reducePow, h1, h2, h3, h4]
theorem opp_ok (a b : Int) : pcall D 62 [iv a, iv b] = some (bv (opp a b)) := by
  exact pcall_eq (v := bv (opp a b)) (H' := []) (opp_call a b)
abbrev byV (n : Int) : AV := .lit (.int .u8 n)
abbrev tyB (p : Int × Int) : ABlock := .cells 2 61 [tyV p]
structure W14 (fr : PT) (v w : AV) (n c : Nat) : Prop where
  f2 : fr.get 2 = w
  f7 : fr.get 7 = v
  f8 : fr.get 8 = iv n
  f9 : fr.get 9 = .ptr 0 0 0
  f10 : fr.get 10 = .ptr 1 0 0
  f11 : fr.get 11 = iv c
theorem W14.of {fr fr' : PT} {v w : AV} {n c : Nat} (F : W14 fr v w n c) (h : ∀ t, (t = 2 ∨ t = 7 ∨ t = 8 ∨ t = 9 ∨ t = 10 ∨ t = 11) → fr'.get t = fr.get t) : W14 fr' v w n c :=
  ⟨by rw [h 2 (by simp), F.f2], by rw [h 7 (by simp), F.f7], by rw [h 8 (by simp), F.f8], by rw [h 9 (by simp), F.f9], by rw [h 10 (by simp), F.f10], by rw [h 11 (by simp), F.f11]⟩
theorem w14_mates {T : List Nd} {v w : AV} (hT : NsOk T v) {n c : Nat} {x y : Int × Int} (m1 : matesB T x y = true) (m2 : matesB T y x = true) (m3 : matesB T x x = false) {fr : PT} (F : W14 fr v w n c) :
    ∃ fr' : PT, ex cx D 0 14 222 (.seq (.region 13 g14_12 false) (.cond (.tmp 84) (.seq (.region 14 g14_13 false) .ret) .skip)) fr [tyB x, tyB y] = some (.normal, fr', [tyB x, tyB y]) ∧ W14 fr' v w n c := by
  have a1 := mates_ok hT x y
  have a2 := mates_ok hT y x
  have a3 := mates_ok hT x x
  rw [m1] at a1
  rw [m2] at a2
  rw [m3] at a3
  simp -implicitDefEqProofs (maxDischargeDepth := 4) only [go_sem, ↓reduceIte, Nat.reduceLT, Nat.reduceAdd, Nat.reduceMul, Nat.reduceSub, Nat.reduceEqDiff, Nat.reduceLeDiff, Nat.reduceBEq, reduceCtorEq, Int.reduceLT, Int.reduceLE, Int.reduceEq, Int.reduceNe, Nat.reducePow, elAt_eq, stV_eq, cellsB_cells, hp_get_r, hp_get_r0, hp_get_l, hp_set_r, hp_set_r0, hp_set_l, hp_one, hp_ne, List.drop_succ_cons, List.drop_zero, List.take_succ_cons, List.take_zero, F.f7, F.f9, F.f10, hT.sl.shr, hT.sl.notOwn, hT.sl.shut1, elP_Sl hT.sl, a1, a2, a3, nbeq, u_not]
  refine ⟨_, rfl, F.of fun t ht => ?_⟩
  rcases ht with rfl | rfl | rfl | rfl | rfl | rfl <;> simp -implicitDefEqProofs (maxDischargeDepth := 4) only [go_sem, ↓reduceIte, Nat.reduceLT, Nat.reduceAdd, Nat.reduceMul, Nat.reduceSub, Nat.reduceEqDiff, Nat.reduceLeDiff, Nat.reduceBEq, reduceCtorEq, Int.reduceLT, Int.reduceLE, Int.reduceEq, Int.reduceNe, Nat.reducePow]
theorem w14_res {T : List Nd} {v w : AV} (hT : NsOk T v) {n c : Nat} {x y p q : Int × Int} (e1 : wlk T T.length x.1 x.2 = p) (e2 : wlk T T.length y.1 y.2 = q) {fr : PT} (F : W14 fr v w n c) :
    ∃ fr' : PT, ex cx D 0 14 222 (.region 15 g14_14 true) fr [tyB x, tyB y] = some (.normal, fr', [tyB x, tyB y, tyB p, tyB q]) ∧ W14 fr' v w n c ∧ fr'.get 12 = .ptr 2 0 0 ∧ fr'.get 13 = .ptr 3 0 0 := by
  have r1 := res51_ok hT x.1 x.2
  have r2 := res51_ok hT y.1 y.2
  rw [e1] at r1
  rw [e2] at r2
  simp -implicitDefEqProofs (maxDischargeDepth := 4) only [go_sem, ↓reduceIte, Nat.reduceLT, Nat.reduceAdd, Nat.reduceMul, Nat.reduceSub, Nat.reduceEqDiff, Nat.reduceLeDiff, Nat.reduceBEq, reduceCtorEq, Int.reduceLT, Int.reduceLE, Int.reduceEq, Int.reduceNe, Nat.reducePow, elAt_eq, stV_eq, cellsB_cells, hp_get_r, hp_get_r0, hp_get_l, hp_set_r, hp_set_r0, hp_set_l, hp_one, hp_ne, List.drop_succ_cons, List.drop_zero, List.take_succ_cons, List.take_zero, F.f7, F.f9, F.f10, hT.sl.shr, hT.sl.notOwn, hT.sl.shut1, elP_Sl hT.sl, r1, r2, layB_res, nbeq, Nat.le_refl, Nat.zero_le, Nat.not_lt_zero]
  refine ⟨_, rfl, F.of fun t ht => ?_, by simp -implicitDefEqProofs (maxDischargeDepth := 4) only [go_sem, ↓reduceIte, Nat.reduceLT, Nat.reduceAdd, Nat.reduceMul, Nat.reduceSub, Nat.reduceEqDiff, Nat.reduceLeDiff, Nat.reduceBEq, reduceCtorEq, Int.reduceLT, Int.reduceLE, Int.reduceEq, Int.reduceNe, Nat.reducePow], by simp -implicitDefEqProofs (maxDischargeDepth := 4) only [go_sem, ↓reduceIte, Nat.reduceLT, Nat.reduceAdd, Nat.reduceMul, Nat.reduceSub, Nat.reduceEqDiff, Nat.reduceLeDiff, Nat.reduceBEq, reduceCtorEq, Int.reduceLT, Int.reduceLE, Int.reduceEq, Int.reduceNe, Nat.reducePow]⟩
  rcases ht with rfl | rfl | rfl | rfl | rfl | rfl <;> simp -implicitDefEqProofs (maxDischargeDepth := 4) only [go_sem, ↓reduceIte, Nat.reduceLT, Nat.reduceAdd, Nat.reduceMul, Nat.reduceSub, Nat.reduceEqDiff, Nat.reduceLeDiff, Nat.reduceBEq, reduceCtorEq, Int.reduceLT, Int.reduceLE, Int.reduceEq, Int.reduceNe, Nat.reducePow]
theorem w14_in {T : List Nd} {v w : AV} (hT : NsOk T v) {n c : Nat} {X Y : ABlock} {m m' : Nat} {o : Int} (hm : m < T.length) (hm' : m' < T.length) {fr : PT} (F : W14 fr v w n c) (f12 : fr.get 12 = .ptr 2 0 0) (f13 : fr.get 13 = .ptr 3 0 0) :
    ∃ fr' : PT, ex cx D 0 14 222 (.seq (.region 16 g14_15 false) (.cond (.tmp 119) (.seq (.region 17 g14_16 false) .ret) .skip)) fr [X, Y, tyB ((m : Int), o), tyB ((m' : Int), o)] = some (.normal, fr', [X, Y, tyB ((m : Int), o), tyB ((m' : Int), o)]) ∧ W14 fr' v w n c ∧ fr'.get 12 = .ptr 2 0 0 ∧ fr'.get 13 = .ptr 3 0 0 := by
  have a1 : ¬ ((m : Int) < 0) := by omega
  have a2 : ¬ ((m' : Int) < 0) := by omega
  have a3 : ¬ ((T.length : Int) ≤ (m : Int)) := by omega
  have a4 : ¬ ((T.length : Int) ≤ (m' : Int)) := by omega
  simp -implicitDefEqProofs (maxDischargeDepth := 4) only [go_sem, ↓reduceIte, Nat.reduceLT, Nat.reduceAdd, Nat.reduceMul, Nat.reduceSub, Nat.reduceEqDiff, Nat.reduceLeDiff, Nat.reduceBEq, reduceCtorEq, Int.reduceLT, Int.reduceLE, Int.reduceEq, Int.reduceNe, Nat.reducePow, elAt_eq, stV_eq, cellsB_cells, hp_get_r, hp_get_r0, hp_get_l, hp_set_r, hp_set_r0, hp_set_l, hp_one, hp_ne, List.drop_succ_cons, List.drop_zero, List.take_succ_cons, List.take_zero, F.f7, f12, f13, hT.sl.shr, hT.sl.notOwn, alen_sl hT.sl, List.length_map, a1, a2, a3, a4, nbeq, u_not]
  refine ⟨_, rfl, F.of fun t ht => ?_, by simp -implicitDefEqProofs (maxDischargeDepth := 4) only [go_sem, ↓reduceIte, Nat.reduceLT, Nat.reduceAdd, Nat.reduceMul, Nat.reduceSub, Nat.reduceEqDiff, Nat.reduceLeDiff, Nat.reduceBEq, reduceCtorEq, Int.reduceLT, Int.reduceLE, Int.reduceEq, Int.reduceNe, Nat.reducePow, f12], by simp -implicitDefEqProofs (maxDischargeDepth := 4) only [go_sem, ↓reduceIte, Nat.reduceLT, Nat.reduceAdd, Nat.reduceMul, Nat.reduceSub, Nat.reduceEqDiff, Nat.reduceLeDiff, Nat.reduceBEq, reduceCtorEq, Int.reduceLT, Int.reduceLE, Int.reduceEq, Int.reduceNe, Nat.reducePow, f13]⟩
  rcases ht with rfl | rfl | rfl | rfl | rfl | rfl <;> simp -implicitDefEqProofs (maxDischargeDepth := 4) only [go_sem, ↓reduceIte, Nat.reduceLT, Nat.reduceAdd, Nat.reduceMul, Nat.reduceSub, Nat.reduceEqDiff, Nat.reduceLeDiff, Nat.reduceBEq, reduceCtorEq, Int.reduceLT, Int.reduceLE, Int.reduceEq, Int.reduceNe, Nat.reducePow]
theorem w14_nodes {T : List Nd} {v w : AV} (hT : NsOk T v) {n c : Nat} {X Y : ABlock} {m m' : Nat} {o : Int} {a b : Nd} (hu : T[m]? = some a) (hv : T[m']? = some b) {fr : PT} (F : W14 fr v w n c) (f12 : fr.get 12 = .ptr 2 0 0) (f13 : fr.get 13 = .ptr 3 0 0) :
    ∃ fr' : PT, ex cx D 0 14 222 (.region 18 g14_17 true) fr [X, Y, tyB ((m : Int), o), tyB ((m' : Int), o)] = some (.normal, fr', [X, Y, tyB ((m : Int), o), tyB ((m' : Int), o), .cells 6 66 [nodeV a], .cells 6 66 [nodeV b]]) ∧ W14 fr' v w n c ∧ fr'.get 12 = .ptr 2 0 0 ∧ fr'.get 13 = .ptr 3 0 0 ∧ fr'.get 14 = .ptr 4 0 0 ∧ fr'.get 15 = .ptr 5 0 0 := by
  have t1 := hT.at hu
  have t2 := hT.at hv
  have sa : Sl 2 a.nx (a.es.map ed) := hT.ok a (List.mem_of_getElem? hu)
  have sb : Sl 2 b.nx (b.es.map ed) := hT.ok b (List.mem_of_getElem? hv)
  simp -implicitDefEqProofs (maxDischargeDepth := 4) only [go_sem, ↓reduceIte, Nat.reduceLT, Nat.reduceAdd, Nat.reduceMul, Nat.reduceSub, Nat.reduceEqDiff, Nat.reduceLeDiff, Nat.reduceBEq, reduceCtorEq, Int.reduceLT, Int.reduceLE, Int.reduceEq, Int.reduceNe, Nat.reducePow, elAt_eq, stV_eq, cellsB_cells, hp_get_r, hp_get_r0, hp_get_l, hp_set_r, hp_set_r0, hp_set_l, hp_one, hp_ne, List.drop_succ_cons, List.drop_zero, List.take_succ_cons, List.take_zero, F.f7, f12, f13, hT.sl.shr, hT.sl.notOwn, t1, t2, sa.shr, sa.notOwn, sa.drp, sa.fitA, sb.shr, sb.notOwn, sb.drp, sb.fitA, layB_res, nbeq, Nat.le_refl, Nat.zero_le, Nat.not_lt_zero]
  refine ⟨_, rfl, F.of fun t ht => ?_, by simp -implicitDefEqProofs (maxDischargeDepth := 4) only [go_sem, ↓reduceIte, Nat.reduceLT, Nat.reduceAdd, Nat.reduceMul, Nat.reduceSub, Nat.reduceEqDiff, Nat.reduceLeDiff, Nat.reduceBEq, reduceCtorEq, Int.reduceLT, Int.reduceLE, Int.reduceEq, Int.reduceNe, Nat.reducePow, f12], by simp -implicitDefEqProofs (maxDischargeDepth := 4) only [go_sem, ↓reduceIte, Nat.reduceLT, Nat.reduceAdd, Nat.reduceMul, Nat.reduceSub, Nat.reduceEqDiff, Nat.reduceLeDiff, Nat.reduceBEq, reduceCtorEq, Int.reduceLT, Int.reduceLE, Int.reduceEq, Int.reduceNe, Nat.reducePow, f13], by simp -implicitDefEqProofs (maxDischargeDepth := 4) only [go_sem, ↓reduceIte, Nat.reduceLT, Nat.reduceAdd, Nat.reduceMul, Nat.reduceSub, Nat.reduceEqDiff, Nat.reduceLeDiff, Nat.reduceBEq, reduceCtorEq, Int.reduceLT, Int.reduceLE, Int.reduceEq, Int.reduceNe, Nat.reducePow], by simp -implicitDefEqProofs (maxDischargeDepth := 4) only [go_sem, ↓reduceIte, Nat.reduceLT, Nat.reduceAdd, Nat.reduceMul, Nat.reduceSub, Nat.reduceEqDiff, Nat.reduceLeDiff, Nat.reduceBEq, reduceCtorEq, Int.reduceLT, Int.reduceLE, Int.reduceEq, Int.reduceNe, Nat.reducePow]⟩
  rcases ht with rfl | rfl | rfl | rfl | rfl | rfl <;> simp -implicitDefEqProofs (maxDischargeDepth := 4) only [go_sem, ↓reduceIte, Nat.reduceLT, Nat.reduceAdd, Nat.reduceMul, Nat.reduceSub, Nat.reduceEqDiff, Nat.reduceLeDiff, Nat.reduceBEq, reduceCtorEq, Int.reduceLT, Int.reduceLE, Int.reduceEq, Int.reduceNe, Nat.reducePow]
abbrev ndB' (k p : Int) (c : Bool) (t s : Int) (nx : AV) : ABlock := .cells 6 66 [.agg [iv k, iv p, bv c, iv t, iv s, nx]]
theorem w14_opp {v w : AV} {n c : Nat} {X Y P Q : ABlock} {k1 k2 p t s : Int} {ch : Bool} {ea eb : List (Int × Int)} {na nb : AV} (sa : Sl 2 na (ea.map ed)) (sb : Sl 2 nb (eb.map ed)) (ho : opp k1 k2 = true) (hp : ch = true → t < n) (hl : eb.length = ea.length)
    {fr : PT} (F : W14 fr v w n c) (f12 : fr.get 12 = .ptr 2 0 0) (f13 : fr.get 13 = .ptr 3 0 0) (f14 : fr.get 14 = .ptr 4 0 0) (f15 : fr.get 15 = .ptr 5 0 0) :
    ∃ fr' : PT, ex cx D 0 14 222 (.seq (.region 19 g14_18 false) (.cond (.tmp 176) (.seq (.region 20 g14_19 false) .ret) .skip)) fr [X, Y, P, Q, ndB' k1 p ch t s na, ndB' k2 p ch t s nb] = some (.normal, fr', [X, Y, P, Q, ndB' k1 p ch t s na, ndB' k2 p ch t s nb]) ∧ W14 fr' v w n c ∧ fr'.get 12 = .ptr 2 0 0 ∧ fr'.get 13 = .ptr 3 0 0 ∧ fr'.get 14 = .ptr 4 0 0 ∧ fr'.get 15 = .ptr 5 0 0 := by
  have h62 := opp_ok k1 k2
  rw [ho] at h62
  have hpe := pair_neq eqt63
  cases ch with
  | false =>
    simp -implicitDefEqProofs (maxDischargeDepth := 4) only [go_sem, ↓reduceIte, Nat.reduceLT, Nat.reduceAdd, Nat.reduceMul, Nat.reduceSub, Nat.reduceEqDiff, Nat.reduceLeDiff, Nat.reduceBEq, reduceCtorEq, Int.reduceLT, Int.reduceLE, Int.reduceEq, Int.reduceNe, Nat.reducePow, elAt_eq, stV_eq, cellsB_cells, hp_get_r, hp_get_r0, hp_get_l, hp_set_r, hp_set_r0, hp_set_l, hp_one, hp_ne, List.drop_succ_cons, List.drop_zero, List.take_succ_cons, List.take_zero, F.f8, f14, f15, sa.shr, sa.notOwn, sb.shr, sb.notOwn, elP_Sl sa, elP_Sl sb, alen_sl sa, alen_sl sb, List.length_map, hl, h62, hpe, nbeq, u_not]
    refine ⟨_, rfl, F.of fun t ht => ?_, by simp -implicitDefEqProofs (maxDischargeDepth := 4) only [go_sem, ↓reduceIte, Nat.reduceLT, Nat.reduceAdd, Nat.reduceMul, Nat.reduceSub, Nat.reduceEqDiff, Nat.reduceLeDiff, Nat.reduceBEq, reduceCtorEq, Int.reduceLT, Int.reduceLE, Int.reduceEq, Int.reduceNe, Nat.reducePow, f12], by simp -implicitDefEqProofs (maxDischargeDepth := 4) only [go_sem, ↓reduceIte, Nat.reduceLT, Nat.reduceAdd, Nat.reduceMul, Nat.reduceSub, Nat.reduceEqDiff, Nat.reduceLeDiff, Nat.reduceBEq, reduceCtorEq, Int.reduceLT, Int.reduceLE, Int.reduceEq, Int.reduceNe, Nat.reducePow, f13], by simp -implicitDefEqProofs (maxDischargeDepth := 4) only [go_sem, ↓reduceIte, Nat.reduceLT, Nat.reduceAdd, Nat.reduceMul, Nat.reduceSub, Nat.reduceEqDiff, Nat.reduceLeDiff, Nat.reduceBEq, reduceCtorEq, Int.reduceLT, Int.reduceLE, Int.reduceEq, Int.reduceNe, Nat.reducePow, f14], by simp -implicitDefEqProofs (maxDischargeDepth := 4) only [go_sem, ↓reduceIte, Nat.reduceLT, Nat.reduceAdd, Nat.reduceMul, Nat.reduceSub, Nat.reduceEqDiff, Nat.reduceLeDiff, Nat.reduceBEq, reduceCtorEq, Int.reduceLT, Int.reduceLE, Int.reduceEq, Int.reduceNe, Nat.reducePow, f15]⟩
    rcases ht with rfl | rfl | rfl | rfl | rfl | rfl <;> simp -implicitDefEqProofs (maxDischargeDepth := 4) only [go_sem, ↓reduceIte, Nat.reduceLT, Nat.reduceAdd, Nat.reduceMul, Nat.reduceSub, Nat.reduceEqDiff, Nat.reduceLeDiff, Nat.reduceBEq, reduceCtorEq, Int.reduceLT, Int.reduceLE, Int.reduceEq, Int.reduceNe, Nat.reducePow]
  | true =>
    have a1 : ¬ ((n : Int) ≤ t) := by have := hp rfl; omega
    simp -implicitDefEqProofs (maxDischargeDepth := 4) only [go_sem, ↓reduceIte, Nat.reduceLT, Nat.reduceAdd, Nat.reduceMul, Nat.reduceSub, Nat.reduceEqDiff, Nat.reduceLeDiff, Nat.reduceBEq, reduceCtorEq, Int.reduceLT, Int.reduceLE, Int.reduceEq, Int.reduceNe, Nat.reducePow, elAt_eq, stV_eq, cellsB_cells, hp_get_r, hp_get_r0, hp_get_l, hp_set_r, hp_set_r0, hp_set_l, hp_one, hp_ne, List.drop_succ_cons, List.drop_zero, List.take_succ_cons, List.take_zero, F.f8, f14, f15, sa.shr, sa.notOwn, sb.shr, sb.notOwn, elP_Sl sa, elP_Sl sb, alen_sl sa, alen_sl sb, List.length_map, hl, h62, hpe, a1, nbeq, u_not]
    refine ⟨_, rfl, F.of fun t ht => ?_, by simp -implicitDefEqProofs (maxDischargeDepth := 4) only [go_sem, ↓reduceIte, Nat.reduceLT, Nat.reduceAdd, Nat.reduceMul, Nat.reduceSub, Nat.reduceEqDiff, Nat.reduceLeDiff, Nat.reduceBEq, reduceCtorEq, Int.reduceLT, Int.reduceLE, Int.reduceEq, Int.reduceNe, Nat.reducePow, f12], by simp -implicitDefEqProofs (maxDischargeDepth := 4) only [go_sem, ↓reduceIte, Nat.reduceLT, Nat.reduceAdd, Nat.reduceMul, Nat.reduceSub, Nat.reduceEqDiff, Nat.reduceLeDiff, Nat.reduceBEq, reduceCtorEq, Int.reduceLT, Int.reduceLE, Int.reduceEq, Int.reduceNe, Nat.reducePow, f13], by simp -implicitDefEqProofs (maxDischargeDepth := 4) only [go_sem, ↓reduceIte, Nat.reduceLT, Nat.reduceAdd, Nat.reduceMul, Nat.reduceSub, Nat.reduceEqDiff, Nat.reduceLeDiff, Nat.reduceBEq, reduceCtorEq, Int.reduceLT, Int.reduceLE, Int.reduceEq, Int.reduceNe, Nat.reducePow, f14], by simp -implicitDefEqProofs (maxDischargeDepth := 4) only [go_sem, ↓reduceIte, Nat.reduceLT, Nat.reduceAdd, Nat.reduceMul, Nat.reduceSub, Nat.reduceEqDiff, Nat.reduceLeDiff, Nat.reduceBEq, reduceCtorEq, Int.reduceLT, Int.reduceLE, Int.reduceEq, Int.reduceNe, Nat.reducePow, f15]⟩
    rcases ht with rfl | rfl | rfl | rfl | rfl | rfl <;> simp -implicitDefEqProofs (maxDischargeDepth := 4) only [go_sem, ↓reduceIte, Nat.reduceLT, Nat.reduceAdd, Nat.reduceMul, Nat.reduceSub, Nat.reduceEqDiff, Nat.reduceLeDiff, Nat.reduceBEq, reduceCtorEq, Int.reduceLT, Int.reduceLE, Int.reduceEq, Int.reduceNe, Nat.reducePow]
theorem w14_end {v w : AV} {n c : Nat} {X Y P Q B : ABlock} {k1 p t s : Int} {ch : Bool} {ea : List (Int × Int)} {na : AV} (sa : Sl 2 na (ea.map ed)) (hl : ea.length = 0)
    {fr : PT} (F : W14 fr v w n c) (f14 : fr.get 14 = .ptr 4 0 0) :
    ∃ fr' : PT, ex cx D 0 14 222 (.seq (.region 21 g14_20 false) (.cond (.tmp 180) (.seq (.region 22 g14_21 false) .ret) .skip)) fr [X, Y, P, Q, ndB' k1 p ch t s na, B] = some (.ret, fr', [X, Y, P, Q, ndB' k1 p ch t s na, B]) ∧ fr'.get 6 = bv true := by
  simp -implicitDefEqProofs (maxDischargeDepth := 4) only [go_sem, ↓reduceIte, Nat.reduceLT, Nat.reduceAdd, Nat.reduceMul, Nat.reduceSub, Nat.reduceEqDiff, Nat.reduceLeDiff, Nat.reduceBEq, reduceCtorEq, Int.reduceLT, Int.reduceLE, Int.reduceEq, Int.reduceNe, Nat.reducePow, elAt_eq, stV_eq, cellsB_cells, hp_get_r, hp_get_r0, hp_get_l, hp_set_r, hp_set_r0, hp_set_l, hp_one, hp_ne, List.drop_succ_cons, List.drop_zero, List.take_succ_cons, List.take_zero, f14, sa.shr, sa.notOwn, elP_Sl sa, alen_sl sa, List.length_map, hl]
  exact ⟨_, rfl, by simp -implicitDefEqProofs (maxDischargeDepth := 4) only [go_sem, ↓reduceIte, Nat.reduceLT, Nat.reduceAdd, Nat.reduceMul, Nat.reduceSub, Nat.reduceEqDiff, Nat.reduceLeDiff, Nat.reduceBEq, reduceCtorEq, Int.reduceLT, Int.reduceLE, Int.reduceEq, Int.reduceNe, Nat.reducePow]⟩
theorem w14_on {v w : AV} {n c : Nat} {X Y P Q B : ABlock} {k1 p t s : Int} {ch : Bool} {ea : List (Int × Int)} {na : AV} (sa : Sl 2 na (ea.map ed)) (hl : ¬ ea.length = 0)
    {fr : PT} (F : W14 fr v w n c) (f12 : fr.get 12 = .ptr 2 0 0) (f13 : fr.get 13 = .ptr 3 0 0) (f14 : fr.get 14 = .ptr 4 0 0) (f15 : fr.get 15 = .ptr 5 0 0) :
    ∃ fr' : PT, ex cx D 0 14 222 (.seq (.region 21 g14_20 false) (.cond (.tmp 180) (.seq (.region 22 g14_21 false) .ret) .skip)) fr [X, Y, P, Q, ndB' k1 p ch t s na, B] = some (.normal, fr', [X, Y, P, Q, ndB' k1 p ch t s na, B]) ∧ W14 fr' v w n c ∧ fr'.get 12 = .ptr 2 0 0 ∧ fr'.get 13 = .ptr 3 0 0 ∧ fr'.get 14 = .ptr 4 0 0 ∧ fr'.get 15 = .ptr 5 0 0 := by
  have hl' : ¬ (ea.length : Int) = 0 := by omega
  simp -implicitDefEqProofs (maxDischargeDepth := 4) only [go_sem, ↓reduceIte, Nat.reduceLT, Nat.reduceAdd, Nat.reduceMul, Nat.reduceSub, Nat.reduceEqDiff, Nat.reduceLeDiff, Nat.reduceBEq, reduceCtorEq, Int.reduceLT, Int.reduceLE, Int.reduceEq, Int.reduceNe, Nat.reducePow, elAt_eq, stV_eq, cellsB_cells, hp_get_r, hp_get_r0, hp_get_l, hp_set_r, hp_set_r0, hp_set_l, hp_one, hp_ne, List.drop_succ_cons, List.drop_zero, List.take_succ_cons, List.take_zero, f14, sa.shr, sa.notOwn, elP_Sl sa, alen_sl sa, List.length_map, hl']
  refine ⟨_, rfl, F.of fun t ht => ?_, by simp -implicitDefEqProofs (maxDischargeDepth := 4) only [go_sem, ↓reduceIte, Nat.reduceLT, Nat.reduceAdd, Nat.reduceMul, Nat.reduceSub, Nat.reduceEqDiff, Nat.reduceLeDiff, Nat.reduceBEq, reduceCtorEq, Int.reduceLT, Int.reduceLE, Int.reduceEq, Int.reduceNe, Nat.reducePow, f12], by simp -implicitDefEqProofs (maxDischargeDepth := 4) only [go_sem, ↓reduceIte, Nat.reduceLT, Nat.reduceAdd, Nat.reduceMul, Nat.reduceSub, Nat.reduceEqDiff, Nat.reduceLeDiff, Nat.reduceBEq, reduceCtorEq, Int.reduceLT, Int.reduceLE, Int.reduceEq, Int.reduceNe, Nat.reducePow, f13], by simp -implicitDefEqProofs (maxDischargeDepth := 4) only [go_sem, ↓reduceIte, Nat.reduceLT, Nat.reduceAdd, Nat.reduceMul, Nat.reduceSub, Nat.reduceEqDiff, Nat.reduceLeDiff, Nat.reduceBEq, reduceCtorEq, Int.reduceLT, Int.reduceLE, Int.reduceEq, Int.reduceNe, Nat.reducePow, f14], by simp -implicitDefEqProofs (maxDischargeDepth := 4) only [go_sem, ↓reduceIte, Nat.reduceLT, Nat.reduceAdd, Nat.reduceMul, Nat.reduceSub, Nat.reduceEqDiff, Nat.reduceLeDiff, Nat.reduceBEq, reduceCtorEq, Int.reduceLT, Int.reduceLE, Int.reduceEq, Int.reduceNe, Nat.reducePow, f15]⟩
  rcases ht with rfl | rfl | rfl | rfl | rfl | rfl <;> simp -implicitDefEqProofs (maxDischargeDepth := 4) only [go_sem, ↓reduceIte, Nat.reduceLT, Nat.reduceAdd, Nat.reduceMul, Nat.reduceSub, Nat.reduceEqDiff, Nat.reduceLeDiff, Nat.reduceBEq, reduceCtorEq, Int.reduceLT, Int.reduceLE, Int.reduceEq, Int.reduceNe, Nat.reducePow]
end Go.Abs.Tab

/- Duals: both halves are walked along: function 14. -/
set_option linter.unusedVariables false
namespace Go.Abs.Tab
open Go.Gr
theorem tmod_nat {b : Int} (h : 0 ≤ b) {l : Nat} (hl : ¬ l = 0) : ∃ k : Nat, b.tmod l = k ∧ k < l := by
  have h1 := Int.tmod_nonneg (a := b) l h
  have h2 := Int.tmod_lt_of_pos b (show (0 : Int) < l by omega)
  exact ⟨(b.tmod l).toNat, by omega, by omega⟩
theorem w14_k {v w : AV} {n c : Nat} {X Y P Q B : ABlock} {k1 p t s : Int} {ch : Bool} {ea : List (Int × Int)} {na : AV} (sa : Sl 2 na (ea.map ed)) (hl : ¬ ea.length = 0) {ws : List Int} (hw : Sl 1 w (ws.map byV)) (hc : c < ws.length) {k : Nat} (hk : (ws.getD c 0).tmod ea.length = k) (hb : 0 ≤ ws.getD c 0 ∧ ws.getD c 0 ≤ 255)
    {fr : PT} (F : W14 fr v w n c) (f12 : fr.get 12 = .ptr 2 0 0) (f13 : fr.get 13 = .ptr 3 0 0) (f14 : fr.get 14 = .ptr 4 0 0) (f15 : fr.get 15 = .ptr 5 0 0) :
    ∃ fr' : PT, ex cx D 0 14 222 (.region 23 g14_22 true) fr [X, Y, P, Q, ndB' k1 p ch t s na, B] = some (.normal, fr', [X, Y, P, Q, ndB' k1 p ch t s na, B]) ∧ W14 fr' v w n c ∧ fr'.get 12 = .ptr 2 0 0 ∧ fr'.get 13 = .ptr 3 0 0 ∧ fr'.get 14 = .ptr 4 0 0 ∧ fr'.get 15 = .ptr 5 0 0 ∧ fr'.get 16 = iv k := by
  have hl' : ¬ (ea.length : Int) = 0 := by omega
  have e1 : aindexAddr cx.T 22 w (iv c) = some (.vp (byV (ws.getD c 0)) 0) := by rw [aindexAddr_sl hw sl22 (by simp; omega) rfl, getD_map byV ws c 0 .dead (by omega)]
  have e2 : wrapK .i64 (ws.getD c 0) = ws.getD c 0 := wrapK_i64 (by omega) (by omega)
  generalize ws.getD c 0 = b at *
  simp -implicitDefEqProofs (maxDischargeDepth := 4) only [go_sem, ↓reduceIte, Nat.reduceLT, Nat.reduceAdd, Nat.reduceMul, Nat.reduceSub, Nat.reduceEqDiff, Nat.reduceLeDiff, Nat.reduceBEq, reduceCtorEq, Int.reduceLT, Int.reduceLE, Int.reduceEq, Int.reduceNe, Nat.reducePow, elAt_eq, stV_eq, cellsB_cells, hp_get_r, hp_get_r0, hp_get_l, hp_set_r, hp_set_r0, hp_set_l, hp_one, hp_ne, List.drop_succ_cons, List.drop_zero, List.take_succ_cons, List.take_zero, F.f2, F.f11, f14, hw.shr, hw.notOwn, e1, e2, hk, sa.shr, sa.notOwn, sa.lenRd, elP_Sl sa, alen_sl sa, List.length_map, hl']
  refine ⟨_, rfl, F.of fun t ht => ?_, by simp -implicitDefEqProofs (maxDischargeDepth := 4) only [go_sem, ↓reduceIte, Nat.reduceLT, Nat.reduceAdd, Nat.reduceMul, Nat.reduceSub, Nat.reduceEqDiff, Nat.reduceLeDiff, Nat.reduceBEq, reduceCtorEq, Int.reduceLT, Int.reduceLE, Int.reduceEq, Int.reduceNe, Nat.reducePow, f12], by simp -implicitDefEqProofs (maxDischargeDepth := 4) only [go_sem, ↓reduceIte, Nat.reduceLT, Nat.reduceAdd, Nat.reduceMul, Nat.reduceSub, Nat.reduceEqDiff, Nat.reduceLeDiff, Nat.reduceBEq, reduceCtorEq, Int.reduceLT, Int.reduceLE, Int.reduceEq, Int.reduceNe, Nat.reducePow, f13], by simp -implicitDefEqProofs (maxDischargeDepth := 4) only [go_sem, ↓reduceIte, Nat.reduceLT, Nat.reduceAdd, Nat.reduceMul, Nat.reduceSub, Nat.reduceEqDiff, Nat.reduceLeDiff, Nat.reduceBEq, reduceCtorEq, Int.reduceLT, Int.reduceLE, Int.reduceEq, Int.reduceNe, Nat.reducePow, f14], by simp -implicitDefEqProofs (maxDischargeDepth := 4) only [go_sem, ↓reduceIte, Nat.reduceLT, Nat.reduceAdd, Nat.reduceMul, Nat.reduceSub, Nat.reduceEqDiff, Nat.reduceLeDiff, Nat.reduceBEq, reduceCtorEq, Int.reduceLT, Int.reduceLE, Int.reduceEq, Int.reduceNe, Nat.reducePow, f15], by simp -implicitDefEqProofs (maxDischargeDepth := 4) only [go_sem, ↓reduceIte, Nat.reduceLT, Nat.reduceAdd, Nat.reduceMul, Nat.reduceSub, Nat.reduceEqDiff, Nat.reduceLeDiff, Nat.reduceBEq, reduceCtorEq, Int.reduceLT, Int.reduceLE, Int.reduceEq, Int.reduceNe, Nat.reducePow]⟩
  rcases ht with rfl | rfl | rfl | rfl | rfl | rfl <;> simp -implicitDefEqProofs (maxDischargeDepth := 4) only [go_sem, ↓reduceIte, Nat.reduceLT, Nat.reduceAdd, Nat.reduceMul, Nat.reduceSub, Nat.reduceEqDiff, Nat.reduceLeDiff, Nat.reduceBEq, reduceCtorEq, Int.reduceLT, Int.reduceLE, Int.reduceEq, Int.reduceNe, Nat.reducePow]
theorem w14_x {v w : AV} {n c : Nat} {x : Int × Int} {Y Q B : ABlock} {k1 p t s : Int} {ch : Bool} {ea : List (Int × Int)} {na : AV} (sa : Sl 2 na (ea.map ed)) {k : Nat} (hk : k < ea.length) {m o i d : Int} (he : ea.getD k (0, 0) = (i, d))
    {fr : PT} (F : W14 fr v w n c) (f12 : fr.get 12 = .ptr 2 0 0) (f13 : fr.get 13 = .ptr 3 0 0) (f14 : fr.get 14 = .ptr 4 0 0) (f15 : fr.get 15 = .ptr 5 0 0) (f16 : fr.get 16 = iv k) :
    ∃ fr' : PT, ex cx D 0 14 222 (.region 24 g14_23 true) fr [tyB x, Y, tyB (m, o), Q, ndB' k1 p ch t s na, B] = some (.normal, fr', [tyB (i, wrapK .i64 (o + d)), Y, tyB (m, o), Q, ndB' k1 p ch t s na, B]) ∧ W14 fr' v w n c ∧ fr'.get 12 = .ptr 2 0 0 ∧ fr'.get 13 = .ptr 3 0 0 ∧ fr'.get 14 = .ptr 4 0 0 ∧ fr'.get 15 = .ptr 5 0 0 ∧ fr'.get 16 = iv k := by
  have e1 := at_ed sa hk
  rw [he] at e1
  simp -implicitDefEqProofs (maxDischargeDepth := 4) only [go_sem, ↓reduceIte, Nat.reduceLT, Nat.reduceAdd, Nat.reduceMul, Nat.reduceSub, Nat.reduceEqDiff, Nat.reduceLeDiff, Nat.reduceBEq, reduceCtorEq, Int.reduceLT, Int.reduceLE, Int.reduceEq, Int.reduceNe, Nat.reducePow, elAt_eq, stV_eq, cellsB_cells, hp_get_r, hp_get_r0, hp_get_l, hp_set_r, hp_set_r0, hp_set_l, hp_one, hp_ne, List.drop_succ_cons, List.drop_zero, List.take_succ_cons, List.take_zero, F.f9, f12, f14, f16, sa.shr, sa.notOwn, elP_Sl sa, e1, build61]
  refine ⟨_, rfl, F.of fun t ht => ?_, by simp -implicitDefEqProofs (maxDischargeDepth := 4) only [go_sem, ↓reduceIte, Nat.reduceLT, Nat.reduceAdd, Nat.reduceMul, Nat.reduceSub, Nat.reduceEqDiff, Nat.reduceLeDiff, Nat.reduceBEq, reduceCtorEq, Int.reduceLT, Int.reduceLE, Int.reduceEq, Int.reduceNe, Nat.reducePow, f12], by simp -implicitDefEqProofs (maxDischargeDepth := 4) only [go_sem, ↓reduceIte, Nat.reduceLT, Nat.reduceAdd, Nat.reduceMul, Nat.reduceSub, Nat.reduceEqDiff, Nat.reduceLeDiff, Nat.reduceBEq, reduceCtorEq, Int.reduceLT, Int.reduceLE, Int.reduceEq, Int.reduceNe, Nat.reducePow, f13], by simp -implicitDefEqProofs (maxDischargeDepth := 4) only [go_sem, ↓reduceIte, Nat.reduceLT, Nat.reduceAdd, Nat.reduceMul, Nat.reduceSub, Nat.reduceEqDiff, Nat.reduceLeDiff, Nat.reduceBEq, reduceCtorEq, Int.reduceLT, Int.reduceLE, Int.reduceEq, Int.reduceNe, Nat.reducePow, f14], by simp -implicitDefEqProofs (maxDischargeDepth := 4) only [go_sem, ↓reduceIte, Nat.reduceLT, Nat.reduceAdd, Nat.reduceMul, Nat.reduceSub, Nat.reduceEqDiff, Nat.reduceLeDiff, Nat.reduceBEq, reduceCtorEq, Int.reduceLT, Int.reduceLE, Int.reduceEq, Int.reduceNe, Nat.reducePow, f15], by simp -implicitDefEqProofs (maxDischargeDepth := 4) only [go_sem, ↓reduceIte, Nat.reduceLT, Nat.reduceAdd, Nat.reduceMul, Nat.reduceSub, Nat.reduceEqDiff, Nat.reduceLeDiff, Nat.reduceBEq, reduceCtorEq, Int.reduceLT, Int.reduceLE, Int.reduceEq, Int.reduceNe, Nat.reducePow, f16]⟩
  rcases ht with rfl | rfl | rfl | rfl | rfl | rfl <;> simp -implicitDefEqProofs (maxDischargeDepth := 4) only [go_sem, ↓reduceIte, Nat.reduceLT, Nat.reduceAdd, Nat.reduceMul, Nat.reduceSub, Nat.reduceEqDiff, Nat.reduceLeDiff, Nat.reduceBEq, reduceCtorEq, Int.reduceLT, Int.reduceLE, Int.reduceEq, Int.reduceNe, Nat.reducePow]
theorem w14_y {v w : AV} {n c : Nat} {y : Int × Int} {X P A : ABlock} {k1 p t s : Int} {ch : Bool} {ea : List (Int × Int)} {na : AV} (sa : Sl 2 na (ea.map ed)) {k : Nat} (hk : k < ea.length) {m o i d : Int} (he : ea.getD k (0, 0) = (i, d))
    {fr : PT} (F : W14 fr v w n c) (f13 : fr.get 13 = .ptr 3 0 0) (f15 : fr.get 15 = .ptr 5 0 0) (f16 : fr.get 16 = iv k) :
    ∃ fr' : PT, ex cx D 0 14 222 (.region 25 g14_24 true) fr [X, tyB y, P, tyB (m, o), A, ndB' k1 p ch t s na] = some (.normal, fr', [X, tyB (i, wrapK .i64 (o + d)), P, tyB (m, o), A, ndB' k1 p ch t s na]) ∧ W14 fr' v w n c := by
  have e1 := at_ed sa hk
  rw [he] at e1
  simp -implicitDefEqProofs (maxDischargeDepth := 4) only [go_sem, ↓reduceIte, Nat.reduceLT, Nat.reduceAdd, Nat.reduceMul, Nat.reduceSub, Nat.reduceEqDiff, Nat.reduceLeDiff, Nat.reduceBEq, reduceCtorEq, Int.reduceLT, Int.reduceLE, Int.reduceEq, Int.reduceNe, Nat.reducePow, elAt_eq, stV_eq, cellsB_cells, hp_get_r, hp_get_r0, hp_get_l, hp_set_r, hp_set_r0, hp_set_l, hp_one, hp_ne, List.drop_succ_cons, List.drop_zero, List.take_succ_cons, List.take_zero, F.f10, f13, f15, f16, sa.shr, sa.notOwn, elP_Sl sa, e1, build61]
  refine ⟨_, rfl, F.of fun t ht => ?_⟩
  rcases ht with rfl | rfl | rfl | rfl | rfl | rfl <;> simp -implicitDefEqProofs (maxDischargeDepth := 4) only [go_sem, ↓reduceIte, Nat.reduceLT, Nat.reduceAdd, Nat.reduceMul, Nat.reduceSub, Nat.reduceEqDiff, Nat.reduceLeDiff, Nat.reduceBEq, reduceCtorEq, Int.reduceLT, Int.reduceLE, Int.reduceEq, Int.reduceNe, Nat.reducePow]
end Go.Abs.Tab

/- Duals: the statement DualWalks. -/
set_option linter.unusedVariables false
namespace Go.Abs.Tab
open Go.Gr
def Ends14 (z : Option Res) : Prop := ∃ (fr' : PT) (G' : Hp), z = some (.exit 0, fr', G') ∨ (z = some (.ret, fr', G') ∧ fr'.get 6 = bv true)
theorem Pr.lt {n i j : Nat} (h : Pr n i j) : i < n + n ∧ j < n + n := by unfold Pr at h; omega
theorem walks_loop {ns T : List Nd} {v w : AV} (hg : Good ns) (H : Half2 ns T) (hT : NsOk T v) {ws : List Int} (hw : Sl 1 w (ws.map byV)) (hb : ∀ b ∈ ws, 0 ≤ b ∧ b ≤ 255) :
    ∀ (d c : Nat) (fr : PT) (i j : Nat) (o : Int), 40 - c = d → c ≤ 40 → Pr ns.length i j → W14 fr v w ns.length c → Ends14 (D.loop 0 14 222 l14_0 fr [tyB ((i : Int), o), tyB ((j : Int), o)])
  | 0, c, fr, i, j, o, hd, hc, hp, F => by
    have h40 : ¬ ((c : Int) < 40) := by omega
    by_cases hlt : (c : Int) < (ws.length : Int)
    · rw [dl14_0]
      simp -implicitDefEqProofs (maxDischargeDepth := 4) only [go_sem, ↓reduceIte, Nat.reduceLT, Nat.reduceAdd, Nat.reduceMul, Nat.reduceSub, Nat.reduceEqDiff, Nat.reduceLeDiff, Nat.reduceBEq, reduceCtorEq, Int.reduceLT, Int.reduceLE, Int.reduceEq, Int.reduceNe, Nat.reducePow, elAt_eq, stV_eq, cellsB_cells, hp_get_r, hp_get_r0, hp_get_l, hp_set_r, hp_set_r0, hp_set_l, hp_one, hp_ne, List.drop_succ_cons, List.drop_zero, List.take_succ_cons, List.take_zero, F.f2, F.f11, hw.shr, hw.notOwn, alen_sl hw, List.length_map, hlt, h40]
      exact ⟨_, _, .inl rfl⟩
    · rw [dl14_0]
      simp -implicitDefEqProofs (maxDischargeDepth := 4) only [go_sem, ↓reduceIte, Nat.reduceLT, Nat.reduceAdd, Nat.reduceMul, Nat.reduceSub, Nat.reduceEqDiff, Nat.reduceLeDiff, Nat.reduceBEq, reduceCtorEq, Int.reduceLT, Int.reduceLE, Int.reduceEq, Int.reduceNe, Nat.reducePow, elAt_eq, stV_eq, cellsB_cells, hp_get_r, hp_get_r0, hp_get_l, hp_set_r, hp_set_r0, hp_set_l, hp_one, hp_ne, List.drop_succ_cons, List.drop_zero, List.take_succ_cons, List.take_zero, F.f2, F.f11, hw.shr, hw.notOwn, alen_sl hw, List.length_map, hlt, h40]
      exact ⟨_, _, .inl rfl⟩
  | d + 1, c, fr, i, j, o, hd, hc, hp, F => by
    by_cases hlt : (c : Int) < (ws.length : Int)
    rotate_left
    · rw [dl14_0]
      simp -implicitDefEqProofs (maxDischargeDepth := 4) only [go_sem, ↓reduceIte, Nat.reduceLT, Nat.reduceAdd, Nat.reduceMul, Nat.reduceSub, Nat.reduceEqDiff, Nat.reduceLeDiff, Nat.reduceBEq, reduceCtorEq, Int.reduceLT, Int.reduceLE, Int.reduceEq, Int.reduceNe, Nat.reducePow, elAt_eq, stV_eq, cellsB_cells, hp_get_r, hp_get_r0, hp_get_l, hp_set_r, hp_set_r0, hp_set_l, hp_one, hp_ne, List.drop_succ_cons, List.drop_zero, List.take_succ_cons, List.take_zero, F.f2, F.f11, hw.shr, hw.notOwn, alen_sl hw, List.length_map, hlt]
      exact ⟨_, _, .inl rfl⟩
    have h40 : ((c : Int) < 40) := by omega
    have hcl : c < ws.length := by omega
    have w3 := wrap_succ (show c ≤ 1000 by omega)
    obtain ⟨fr1, e1, F1⟩ : ∃ fr1 : PT, ex cx D 0 14 222 (.seq (.region 11 g14_11 false) (.cond (.tmp 64) .skip (.exit 0))) fr [tyB ((i : Int), o), tyB ((j : Int), o)] = some (.normal, fr1, [tyB ((i : Int), o), tyB ((j : Int), o)]) ∧ W14 fr1 v w ns.length c := by
      simp -implicitDefEqProofs (maxDischargeDepth := 4) only [go_sem, ↓reduceIte, Nat.reduceLT, Nat.reduceAdd, Nat.reduceMul, Nat.reduceSub, Nat.reduceEqDiff, Nat.reduceLeDiff, Nat.reduceBEq, reduceCtorEq, Int.reduceLT, Int.reduceLE, Int.reduceEq, Int.reduceNe, Nat.reducePow, elAt_eq, stV_eq, cellsB_cells, hp_get_r, hp_get_r0, hp_get_l, hp_set_r, hp_set_r0, hp_set_l, hp_one, hp_ne, List.drop_succ_cons, List.drop_zero, List.take_succ_cons, List.take_zero, F.f2, F.f11, hw.shr, hw.notOwn, alen_sl hw, List.length_map, hlt, h40]
      refine ⟨_, rfl, F.of fun t ht => ?_⟩
      rcases ht with rfl | rfl | rfl | rfl | rfl | rfl <;> simp -implicitDefEqProofs (maxDischargeDepth := 4) only [go_sem, ↓reduceIte, Nat.reduceLT, Nat.reduceAdd, Nat.reduceMul, Nat.reduceSub, Nat.reduceEqDiff, Nat.reduceLeDiff, Nat.reduceBEq, reduceCtorEq, Int.reduceLT, Int.reduceLE, Int.reduceEq, Int.reduceNe, Nat.reducePow]
    obtain ⟨fr2, e2, F2⟩ := w14_mates hT (mates_pair hg H hp o) (mates_pair hg H hp.symm o) (mates_self hg H hp o) F1
    obtain ⟨m, m', o', q1, q2, hq⟩ := walk_pair hg H hp o
    obtain ⟨fr3, e3, F3, g12, g13⟩ := w14_res hT (x := ((i : Int), o)) (y := ((j : Int), o)) q1 q2 F2
    have hlm := hq.lt
    obtain ⟨fr4, e4, F4, h12, h13⟩ := w14_in hT (X := tyB ((i : Int), o)) (Y := tyB ((j : Int), o)) (m := m) (m' := m') (o := o') (by rw [H.ln]; exact hlm.1) (by rw [H.ln]; exact hlm.2) F3 g12 g13
    obtain ⟨u, z, hu, hz, O⟩ := pair_nodes hg H hq
    obtain ⟨fr5, e5, F5, i12, i13, i14, i15⟩ := w14_nodes hT (X := tyB ((i : Int), o)) (Y := tyB ((j : Int), o)) (o := o') hu hz F4 h12 h13
    have su : Sl 2 u.nx (u.es.map ed) := hT.ok u (List.mem_of_getElem? hu)
    have sz : Sl 2 z.nx (z.es.map ed) := hT.ok z (List.mem_of_getElem? hz)
    obtain ⟨ok, op, oc, ot, os, opn, ol, ol8, oe⟩ := O
    obtain ⟨k1, p1, c1, t1, s1, ea, na⟩ := u
    obtain ⟨k2, p2, c2, t2, s2, eb, nb⟩ := z
    dsimp only at ok op oc ot os opn ol ol8 oe su sz
    subst op oc ot os
    obtain ⟨fr6, e6, F6, j12, j13, j14, j15⟩ := w14_opp (X := tyB ((i : Int), o)) (Y := tyB ((j : Int), o)) (P := tyB ((m : Int), o')) (Q := tyB ((m' : Int), o')) (p := p2) (s := s2) su sz ok opn ol F5 i12 i13 i14 i15
    by_cases hl0 : ea.length = 0
    · obtain ⟨fr7, e7, r6⟩ := w14_end (X := tyB ((i : Int), o)) (Y := tyB ((j : Int), o)) (P := tyB ((m : Int), o')) (Q := tyB ((m' : Int), o')) (B := ndB' k2 p2 c2 t2 s2 nb) (k1 := k1) (p := p2) (t := t2) (s := s2) (ch := c2) su hl0 F6 j14
      rw [dl14_0, x_cont1 e1]
      have eb : ∀ Z, ex cx D 0 14 222 (.block 1 (.seq (.seq (.region 13 g14_12 false) (.cond (.tmp 84) (.seq (.region 14 g14_13 false) .ret) .skip)) (.seq (.region 15 g14_14 true) (.seq (.seq (.region 16 g14_15 false) (.cond (.tmp 119) (.seq (.region 17 g14_16 false) .ret) .skip)) (.seq (.region 18 g14_17 true) (.seq (.seq (.region 19 g14_18 false) (.cond (.tmp 176) (.seq (.region 20 g14_19 false) .ret) .skip)) (.seq (.seq (.region 21 g14_20 false) (.cond (.tmp 180) (.seq (.region 22 g14_21 false) .ret) .skip)) Z)))))) ) fr1 [tyB ((i : Int), o), tyB ((j : Int), o)] = some (.ret, fr7, [tyB ((i : Int), o), tyB ((j : Int), o), tyB ((m : Int), o'), tyB ((m' : Int), o'), ndB' k1 p2 c2 t2 s2 na, ndB' k2 p2 c2 t2 s2 nb]) := fun Z => by
        rw [x_block, x_cont1 e2, x_cont1 e3, x_cont1 e4, x_cont1 e5, x_cont1 e6, x_seq, e7]
        rfl
      rw [x_seq, eb]
      exact ⟨fr7, _, .inr ⟨rfl, r6⟩⟩
    · obtain ⟨fr7, e7, F7, k12, k13, k14, k15⟩ := w14_on (X := tyB ((i : Int), o)) (Y := tyB ((j : Int), o)) (P := tyB ((m : Int), o')) (Q := tyB ((m' : Int), o')) (B := ndB' k2 p2 c2 t2 s2 nb) (k1 := k1) (p := p2) (t := t2) (s := s2) (ch := c2) su hl0 F6 j12 j13 j14 j15
      have hbc : 0 ≤ ws.getD c 0 ∧ ws.getD c 0 ≤ 255 := by
        rw [List.getD_eq_getElem?_getD, List.getElem?_eq_getElem hcl, Option.getD_some]
        exact hb _ (List.getElem_mem _)
      obtain ⟨k, hk, hkl⟩ := tmod_nat hbc.1 hl0
      obtain ⟨fr8, e8, F8, l12, l13, l14, l15, l16⟩ := w14_k (X := tyB ((i : Int), o)) (Y := tyB ((j : Int), o)) (P := tyB ((m : Int), o')) (Q := tyB ((m' : Int), o')) (B := ndB' k2 p2 c2 t2 s2 nb) (k1 := k1) (p := p2) (t := t2) (s := s2) (ch := c2) su hl0 hw hcl hk hbc F7 k12 k13 k14 k15
      obtain ⟨i', j', dd, x1, x2, hpp⟩ := oe k hkl
      obtain ⟨fr9, e9, F9, n12, n13, n14, n15, n16⟩ := w14_x (x := ((i : Int), o)) (Y := tyB ((j : Int), o)) (Q := tyB ((m' : Int), o')) (B := ndB' k2 p2 c2 t2 s2 nb) (k1 := k1) (p := p2) (t := t2) (s := s2) (ch := c2) (m := m) (o := o') su hkl x1 F8 l12 l13 l14 l15 l16
      obtain ⟨fra, ea', Fa⟩ := w14_y (y := ((j : Int), o)) (X := tyB ((i' : Int), wrapK .i64 (o' + dd))) (P := tyB ((m : Int), o')) (A := ndB' k1 p2 c2 t2 s2 na) (k1 := k2) (p := p2) (t := t2) (s := s2) (ch := c2) (m := m') (o := o') sz (by rw [ol]; exact hkl) x2 F9 n13 n15 n16
      obtain ⟨frb, eb', Fb⟩ : ∃ frb : PT, ex cx D 0 14 222 (.region 12 g14_25 false) fra [tyB ((i' : Int), wrapK .i64 (o' + dd)), tyB ((j' : Int), wrapK .i64 (o' + dd)), tyB ((m : Int), o'), tyB ((m' : Int), o'), ndB' k1 p2 c2 t2 s2 na, ndB' k2 p2 c2 t2 s2 nb] =
          some (.normal, frb, [tyB ((i' : Int), wrapK .i64 (o' + dd)), tyB ((j' : Int), wrapK .i64 (o' + dd)), tyB ((m : Int), o'), tyB ((m' : Int), o'), ndB' k1 p2 c2 t2 s2 na, ndB' k2 p2 c2 t2 s2 nb]) ∧ W14 frb v w ns.length (c + 1) := by
        simp -implicitDefEqProofs (maxDischargeDepth := 4) only [go_sem, ↓reduceIte, Nat.reduceLT, Nat.reduceAdd, Nat.reduceMul, Nat.reduceSub, Nat.reduceEqDiff, Nat.reduceLeDiff, Nat.reduceBEq, reduceCtorEq, Int.reduceLT, Int.reduceLE, Int.reduceEq, Int.reduceNe, Nat.reducePow, Fa.f11, w3]
        exact ⟨_, rfl, by simp -implicitDefEqProofs (maxDischargeDepth := 4) only [go_sem, ↓reduceIte, Nat.reduceLT, Nat.reduceAdd, Nat.reduceMul, Nat.reduceSub, Nat.reduceEqDiff, Nat.reduceLeDiff, Nat.reduceBEq, reduceCtorEq, Int.reduceLT, Int.reduceLE, Int.reduceEq, Int.reduceNe, Nat.reducePow, Fa.f2], by simp -implicitDefEqProofs (maxDischargeDepth := 4) only [go_sem, ↓reduceIte, Nat.reduceLT, Nat.reduceAdd, Nat.reduceMul, Nat.reduceSub, Nat.reduceEqDiff, Nat.reduceLeDiff, Nat.reduceBEq, reduceCtorEq, Int.reduceLT, Int.reduceLE, Int.reduceEq, Int.reduceNe, Nat.reducePow, Fa.f7], by simp -implicitDefEqProofs (maxDischargeDepth := 4) only [go_sem, ↓reduceIte, Nat.reduceLT, Nat.reduceAdd, Nat.reduceMul, Nat.reduceSub, Nat.reduceEqDiff, Nat.reduceLeDiff, Nat.reduceBEq, reduceCtorEq, Int.reduceLT, Int.reduceLE, Int.reduceEq, Int.reduceNe, Nat.reducePow, Fa.f8], by simp -implicitDefEqProofs (maxDischargeDepth := 4) only [go_sem, ↓reduceIte, Nat.reduceLT, Nat.reduceAdd, Nat.reduceMul, Nat.reduceSub, Nat.reduceEqDiff, Nat.reduceLeDiff, Nat.reduceBEq, reduceCtorEq, Int.reduceLT, Int.reduceLE, Int.reduceEq, Int.reduceNe, Nat.reducePow, Fa.f9], by simp -implicitDefEqProofs (maxDischargeDepth := 4) only [go_sem, ↓reduceIte, Nat.reduceLT, Nat.reduceAdd, Nat.reduceMul, Nat.reduceSub, Nat.reduceEqDiff, Nat.reduceLeDiff, Nat.reduceBEq, reduceCtorEq, Int.reduceLT, Int.reduceLE, Int.reduceEq, Int.reduceNe, Nat.reducePow, Fa.f10], by simp -implicitDefEqProofs (maxDischargeDepth := 4) only [go_sem, ↓reduceIte, Nat.reduceLT, Nat.reduceAdd, Nat.reduceMul, Nat.reduceSub, Nat.reduceEqDiff, Nat.reduceLeDiff, Nat.reduceBEq, reduceCtorEq, Int.reduceLT, Int.reduceLE, Int.reduceEq, Int.reduceNe, Nat.reducePow]⟩
      have eb : ex cx D 0 14 222 (.block 1 (.seq (.seq (.region 13 g14_12 false) (.cond (.tmp 84) (.seq (.region 14 g14_13 false) .ret) .skip)) (.seq (.region 15 g14_14 true) (.seq (.seq (.region 16 g14_15 false) (.cond (.tmp 119) (.seq (.region 17 g14_16 false) .ret) .skip)) (.seq (.region 18 g14_17 true) (.seq (.seq (.region 19 g14_18 false) (.cond (.tmp 176) (.seq (.region 20 g14_19 false) .ret) .skip)) (.seq (.seq (.region 21 g14_20 false) (.cond (.tmp 180) (.seq (.region 22 g14_21 false) .ret) .skip)) (.seq (.region 23 g14_22 true) (.seq (.region 24 g14_23 true) (.region 25 g14_24 true)))))))))) fr1 [tyB ((i : Int), o), tyB ((j : Int), o)] = some (.normal, fra, [tyB ((i' : Int), wrapK .i64 (o' + dd)), tyB ((j' : Int), wrapK .i64 (o' + dd)), tyB ((m : Int), o'), tyB ((m' : Int), o'), ndB' k1 p2 c2 t2 s2 na, ndB' k2 p2 c2 t2 s2 nb]) := by
        rw [x_block, x_cont1 e2, x_cont1 e3, x_cont1 e4, x_cont1 e5, x_cont1 e6, x_cont1 e7, x_cont1 e8, x_cont1 e9, ea']
        rfl
      rw [dl14_0, x_cont1 e1, x_cont1 eb, eb', xbind_some, contR_normal]
      refine trim_gen (P := Ends14) [2, 7, 8, 9, 10, 11] (by simp) (fun t ht => ?_) fun fr' G' hG' hf hk' => ?_
      · simp only [List.mem_cons, List.not_mem_nil, or_false] at ht
        rcases ht with rfl | rfl | rfl | rfl | rfl | rfl
        · rw [Fb.f2, kill_Sl hw]
        · rw [Fb.f7, kill_Sl hT.sl]
        · rw [Fb.f8]; rfl
        · rw [Fb.f9]; rfl
        · rw [Fb.f10]; rfl
        · rw [Fb.f11]; rfl
      · have hGB : G' = [tyB ((i' : Int), wrapK .i64 (o' + dd)), tyB ((j' : Int), wrapK .i64 (o' + dd))] := by
          match G', hG' with
          | [y1, y2], _ =>
            have a1 := hk' 0 (tyB ((i' : Int), wrapK .i64 (o' + dd))) (Nat.succ_pos _) rfl rfl
            have a2 := hk' 1 (tyB ((j' : Int), wrapK .i64 (o' + dd))) (Nat.lt_succ_self _) rfl rfl
            cases a1; cases a2; rfl
        subst hGB
        exact walks_loop hg H hT hw hb d (c + 1) fr' i' j' _ (by omega) (by omega) hpp ⟨by rw [hf 2 (by simp), Fb.f2], by rw [hf 7 (by simp), Fb.f7], by rw [hf 8 (by simp), Fb.f8], by rw [hf 9 (by simp), Fb.f9], by rw [hf 10 (by simp), Fb.f10], by rw [hf 11 (by simp), Fb.f11]⟩
theorem mod_two {b : Int} (hb : 0 ≤ b) {n : Nat} (h1 : 1 ≤ n) : ∃ i : Nat, b.tmod (2 * (n : Int)) = i ∧ i < n + n := by
  have e : 2 * (n : Int) = ((n + n : Nat) : Int) := by omega
  rw [e]
  exact tmod_nat hb (by omega)
theorem pr_of {n i : Nat} (h : i < n + n) : ∃ j, Pr n i j := by
  by_cases hi : i < n
  · exact ⟨n + i, .inl ⟨hi, rfl⟩⟩
  · exact ⟨i - n, .inr ⟨by omega, by omega⟩⟩
theorem dwalks_ok {v w : AV} {b : Int} {ns : List Nd} (hs : Sl 6 v (ns.map nodeV)) (hok : ∀ x ∈ ns, NdOk x) (hb : 0 ≤ b ∧ b ≤ 255) {ws : List Int} (hw : Sl 1 w (ws.map byV)) (hwb : ∀ b ∈ ws, 0 ≤ b ∧ b ≤ 255) :
    ∃ H', callB cx D 0 14 [v, byV b, w] [] = some (bv true, H') := by
  obtain ⟨a, h1, hc⟩ := cut_nodes hs hok
  have hm : aminmax false [iv ns.length, iv 70] = some (iv ((min ns.length 70 : Nat) : Int)) := min_lit ns.length 70
  generalize ns.take 70 = cs at hc
  have wb : wrapK .i64 b = b := wrapK_i64 (by omega) (by omega)
  by_cases h0 : (chk cs).2 = 0
  · have hg := chk_good h0
    obtain ⟨p, n1, n2, h54, hd⟩ := table_ok hc h0
    have H := hd.half2
    have hT := hd.nsOk hg.le
    generalize n1 ++ n2 = T at H hT
    have hgl := hg.le
    have hgp := hg.pos
    have w2 : wrapK .i64 (2 * (cs.length : Int)) = 2 * (cs.length : Int) := wrapK_i64 (by omega) (by omega)
    have hTl : (T.length : Int) = 2 * (cs.length : Int) := by rw [H.ln]; omega
    have hT0 : ¬ (T.length : Int) = 0 := by omega
    have h20 : ¬ 2 * (cs.length : Int) = 0 := by omega
    obtain ⟨i, hi, hin⟩ := mod_two hb.1 hgp
    obtain ⟨j, hp⟩ := pr_of hin
    have hmt := mate_ok cs.length i
    rw [mate_pr hgp hgl hp] at hmt
    obtain ⟨fr1, e1, F1⟩ : ∃ fr1 : PT, ex cx D 0 14 222 (.seq (.region 0 g14_0 false) (.seq (.seq (.region 1 g14_1 false) (.cond (.tmp 18) (.seq (.region 2 g14_2 false) .ret) .skip)) (.seq (.region 3 g14_3 false) (.seq (.region 4 g14_4 false) (.seq (.seq (.region 5 g14_5 false) (.cond (.tmp 36) (.seq (.region 6 g14_6 false) .ret) .skip)) (.seq (.region 7 g14_7 false) (.seq (.region 8 g14_8 false) (.seq (.region 9 g14_9 false) (.region 10 g14_10 false)))))))))
        (((PT.nil.set 0 (drp v)).set 1 (drp (byV b))).set 2 (drp w)) [] = some (.normal, fr1, [tyB ((i : Int), b), tyB ((j : Int), b)]) ∧ W14 fr1 p w cs.length 0 := by
      simp -implicitDefEqProofs (maxDischargeDepth := 4) only [go_sem, ↓reduceIte, Nat.reduceLT, Nat.reduceAdd, Nat.reduceMul, Nat.reduceSub, Nat.reduceEqDiff, Nat.reduceLeDiff, Nat.reduceBEq, reduceCtorEq, Int.reduceLT, Int.reduceLE, Int.reduceEq, Int.reduceNe, Nat.reducePow, elAt_eq, stV_eq, cellsB_cells, hp_get_r, hp_get_r0, hp_get_l, hp_set_r, hp_set_r0, hp_set_l, hp_one, hp_ne, List.drop_succ_cons, List.drop_zero, List.take_succ_cons, List.take_zero, dworks_ok, u_not, hs.drp, hs.shr, hs.notOwn, alen_sl hs, List.length_map, hm, h1, hc.sl.shr, hc.sl.notOwn, hc.sl.shut1, alen_sl hc.sl, h54, hT.sl.shr, hT.sl.notOwn, hT.sl.drp, alen_sl hT.sl, w2, hTl, h20, hw.drp, hw.shr, hw.notOwn, wb, hi, hmt, build61, nbeq, Nat.zero_le, Nat.le_refl, Nat.not_lt_zero]
      exact ⟨_, rfl, by simp -implicitDefEqProofs (maxDischargeDepth := 4) only [go_sem, ↓reduceIte, Nat.reduceLT, Nat.reduceAdd, Nat.reduceMul, Nat.reduceSub, Nat.reduceEqDiff, Nat.reduceLeDiff, Nat.reduceBEq, reduceCtorEq, Int.reduceLT, Int.reduceLE, Int.reduceEq, Int.reduceNe, Nat.reducePow], by simp -implicitDefEqProofs (maxDischargeDepth := 4) only [go_sem, ↓reduceIte, Nat.reduceLT, Nat.reduceAdd, Nat.reduceMul, Nat.reduceSub, Nat.reduceEqDiff, Nat.reduceLeDiff, Nat.reduceBEq, reduceCtorEq, Int.reduceLT, Int.reduceLE, Int.reduceEq, Int.reduceNe, Nat.reducePow], by simp -implicitDefEqProofs (maxDischargeDepth := 4) only [go_sem, ↓reduceIte, Nat.reduceLT, Nat.reduceAdd, Nat.reduceMul, Nat.reduceSub, Nat.reduceEqDiff, Nat.reduceLeDiff, Nat.reduceBEq, reduceCtorEq, Int.reduceLT, Int.reduceLE, Int.reduceEq, Int.reduceNe, Nat.reducePow], by simp -implicitDefEqProofs (maxDischargeDepth := 4) only [go_sem, ↓reduceIte, Nat.reduceLT, Nat.reduceAdd, Nat.reduceMul, Nat.reduceSub, Nat.reduceEqDiff, Nat.reduceLeDiff, Nat.reduceBEq, reduceCtorEq, Int.reduceLT, Int.reduceLE, Int.reduceEq, Int.reduceNe, Nat.reducePow], by simp -implicitDefEqProofs (maxDischargeDepth := 4) only [go_sem, ↓reduceIte, Nat.reduceLT, Nat.reduceAdd, Nat.reduceMul, Nat.reduceSub, Nat.reduceEqDiff, Nat.reduceLeDiff, Nat.reduceBEq, reduceCtorEq, Int.reduceLT, Int.reduceLE, Int.reduceEq, Int.reduceNe, Nat.reducePow], by simp -implicitDefEqProofs (maxDischargeDepth := 4) only [go_sem, ↓reduceIte, Nat.reduceLT, Nat.reduceAdd, Nat.reduceMul, Nat.reduceSub, Nat.reduceEqDiff, Nat.reduceLeDiff, Nat.reduceBEq, reduceCtorEq, Int.reduceLT, Int.reduceLE, Int.reduceEq, Int.reduceNe, Nat.reducePow]; rfl⟩
    obtain ⟨_, _, p0, r⟩ := x_split e1
    obtain ⟨_, _, p1, r⟩ := x_split r
    obtain ⟨_, _, p3, r⟩ := x_split r
    obtain ⟨_, _, p4, r⟩ := x_split r
    obtain ⟨_, _, p5, r⟩ := x_split r
    obtain ⟨_, _, p7, r⟩ := x_split r
    obtain ⟨_, _, p8, r⟩ := x_split r
    obtain ⟨_, _, p9, r⟩ := x_split r
    rw [c14, x_cont1 p0, x_cont1 p1, x_cont1 p3, x_cont1 p4, x_cont1 p5, x_cont1 p7, x_cont1 p8, x_cont1 p9, x_assoc, x_cont1 r]
    obtain ⟨fr2, G2, e | ⟨e, h6⟩⟩ := walks_loop hg H hT hw hwb 40 0 fr1 i j b rfl (by omega) hp F1
    · have e2 : ex cx D 0 14 222 (.block 0 (.loop l14_0)) fr1 [tyB ((i : Int), b), tyB ((j : Int), b)] = some (.normal, fr2, G2) := by
        rw [x_block, x_loop, e]; rfl
      rw [x_cont1 e2]
      simp -implicitDefEqProofs (maxDischargeDepth := 4) only [go_sem, ↓reduceIte, Nat.reduceLT, Nat.reduceAdd, Nat.reduceMul, Nat.reduceSub, Nat.reduceEqDiff, Nat.reduceLeDiff, Nat.reduceBEq, reduceCtorEq, Int.reduceLT, Int.reduceLE, Int.reduceEq, Int.reduceNe, Nat.reducePow, elAt_eq, stV_eq, cellsB_cells, hp_get_r, hp_get_r0, hp_get_l, hp_set_r, hp_set_r0, hp_set_l, hp_one, hp_ne, List.drop_succ_cons, List.drop_zero, List.take_succ_cons, List.take_zero,]
      exact ⟨_, rfl⟩
    · rw [x_seq, x_block, x_loop, e]
      simp -implicitDefEqProofs (maxDischargeDepth := 4) only [go_sem, ↓reduceIte, Nat.reduceLT, Nat.reduceAdd, Nat.reduceMul, Nat.reduceSub, Nat.reduceEqDiff, Nat.reduceLeDiff, Nat.reduceBEq, reduceCtorEq, Int.reduceLT, Int.reduceLE, Int.reduceEq, Int.reduceNe, Nat.reducePow, elAt_eq, stV_eq, cellsB_cells, hp_get_r, hp_get_r0, hp_get_l, hp_set_r, hp_set_r0, hp_set_l, hp_one, hp_ne, List.drop_succ_cons, List.drop_zero, List.take_succ_cons, List.take_zero, h6]
      exact ⟨_, rfl⟩
  · have h54 := table_no hc h0
    rw [c14]
    simp -implicitDefEqProofs (maxDischargeDepth := 4) only [go_sem, ↓reduceIte, Nat.reduceLT, Nat.reduceAdd, Nat.reduceMul, Nat.reduceSub, Nat.reduceEqDiff, Nat.reduceLeDiff, Nat.reduceBEq, reduceCtorEq, Int.reduceLT, Int.reduceLE, Int.reduceEq, Int.reduceNe, Nat.reducePow, elAt_eq, stV_eq, cellsB_cells, hp_get_r, hp_get_r0, hp_get_l, hp_set_r, hp_set_r0, hp_set_l, hp_one, hp_ne, List.drop_succ_cons, List.drop_zero, List.take_succ_cons, List.take_zero, dworks_ok, u_not, hs.drp, hs.shr, hs.notOwn, alen_sl hs, List.length_map, hm, h1, hc.sl.shr, hc.sl.notOwn, hc.sl.shut1, h54]
    exact ⟨_, rfl⟩
theorem bytes_read {d : Nat} {v : AV} (h : Rdd Go.Proofs.Try.prog (d + 6) 22 [v]) : ∃ ws : List Int, Sl 1 v (ws.map byV) ∧ ∀ b ∈ ws, 0 ≤ b ∧ b ≤ 255 := by
  have hc : Go.Proofs.Try.prog.cellsOf 5 = 1 := by kernel_rfl
  obtain ⟨a, ls, e, _, e1, e2⟩ := rd_slice Go.Proofs.Try.underlying22 h
  cases e
  rw [hc] at e2
  obtain ⟨ws, q1, q2, q3⟩ := map_mem (f := wrapAs Go.Proofs.Try.prog 5) (g := byV) (Q := fun b => 0 ≤ b ∧ b ≤ 255) (ls := ls) fun y hy => by
    obtain ⟨n, w, rfl⟩ := rd_int Go.Proofs.Try.underlying5 (e1 y hy)
    exact ⟨n, by rw [wrap_int Go.Proofs.Try.underlying5]; rfl, Go.bounds_u8 w⟩
  rw [q3] at e2
  exact ⟨ws, e2, q2⟩
theorem dwalks_row {v0 v1 v2 : AV} (h0 : Rdd Go.Proofs.Try.prog 20 56 [v0]) (h1 : Rdd Go.Proofs.Try.prog 20 5 [v1]) (h2 : Rdd Go.Proofs.Try.prog 20 22 [v2]) : ∃ H', callB cx D 0 14 [v0, v1, v2] [] = some (bv true, H') := by
  obtain ⟨ns, hs, hok⟩ := nodes_read (d := 5) h0
  obtain ⟨b, w1, e⟩ := rd_int Go.Proofs.Try.underlying5 h1
  cases e
  obtain ⟨ws, hw, hwb⟩ := bytes_read (d := 14) h2
  exact dwalks_ok hs hok (Go.bounds_u8 w1) hw hwb
end Go.Abs.Tab
