/- Order: how far an edge rises (order.Jump). -/
import Derived.Test.YtiinagmombigpaaWkA
import Derived.Test.YtiinagmombigpaaEvY
import Derived.Test.YtiinagmombigpaaFnA
set_option linter.unusedSimpArgs false
set_option linter.unusedVariables false
set_option linter.unnecessarySimpa false

/- Order: how far an edge rises (order.Jump). -/
set_option linter.unusedVariables false
namespace Go.Abs.Tab
open Go.Gr
def inn (n : Nat) (i : Int) : Bool := decide (0 ≤ i) && decide (i < (n : Int))
theorem inn_call {ns : List Nd} {a : AV} (hns : NsOk ns a) {ro b : Nat} {G : Hp} (hb : G[b]? = some (.cells 1 56 [a])) (i : Int) : callB cx D ro 129 [iv i, .ptr b 0 0] G = some (bv (inn ns.length i), G) := by
  have ea : elP false 1 a 0 = some a := elP_Sl hns.sl
  rw [c129]
  unfold inn
  by_cases h : 0 ≤ i
  · simp -implicitDefEqProofs (maxDischargeDepth := 4) only [go_sem, hb, ea, hns.sl.shr, hns.sl.notOwn, alen_sl hns.sl, List.length_map, h]
  · simp -implicitDefEqProofs (maxDischargeDepth := 4) only [go_sem, hb, ea, hns.sl.shr, hns.sl.notOwn, alen_sl hns.sl, List.length_map, h]
def jmp (ns : List Nd) (i : Int) (e : Int × Int) : Int × Bool :=
  if inn ns.length i = true ∧ inn ns.length e.1 = true ∧ (chk ns).2 = 0 then
    match ns[i.toNat]? with
    | some x => (match rise1 ns x.prio e with
      | some r => (r.2, true)
      | none => (0, false))
    | none => (0, false)
  else (0, false)
abbrev jmpV (r : Int × Bool) : AV := .tup [iv r.1, bv r.2]
abbrev c4 (b : Bool) : ABlock := .cells 1 4 [bv b]
noncomputable def lp69 (rfr : PT) : ALoop := { fn := 69, nt := 40, fr := rfr, params := [37, 38], assign := q69_0, body := r69_0, state := .ready, pending := none }
structure J69 (G : Hp) : Prop where
  b0 : G[2]? = some (c3 0)
  b1 : G[3]? = some (c4 false)
  lp : ∃ rfr, G[7]? = some (.loop (lp69 rfr)) ∧ rfr.get 6 = .ptr 2 0 0 ∧ rfr.get 7 = .ptr 3 0 0
structure Q69 (x : Int × Int) (G : Hp) : Prop where
  b0 : G[2]? = some (c3 x.2)
  b1 : G[3]? = some (c4 true)
  lp : ∃ r : ALoop, G[7]? = some (.loop r) ∧ r.state = .done ∧ r.pending = some .ret
theorem rnd69 : ERnd 8 7 6 4 5 (fun _ => True) (fun _ => true) (fun _ => J69) Q69 := by
  refine ⟨?_, ?_, ?_, ?_⟩
  · rintro c G L ⟨h0, h1, rfr, h3, h4⟩
    exact ⟨by rw [hp_get_l (lt_of_get h0), h0], by rw [hp_get_l (lt_of_get h1), h1], rfr, by rw [hp_get_l (lt_of_get h3), h3], h4⟩
  · rintro c G ⟨h0, h1, rfr, h3, h4, h5⟩ hG
    refine ⟨?_, ?_, rfr.map (kill 8), ?_, ?_, ?_⟩
    · rw [List.getElem?_map, List.getElem?_take_of_lt (by decide), h0]; rfl
    · rw [List.getElem?_map, List.getElem?_take_of_lt (by decide), h1]; rfl
    · rw [List.getElem?_map, List.getElem?_take_of_lt (by decide), h3]; rfl
    · rw [get_mapkill, h4, kill_ptr (by decide)]
    · rw [get_mapkill, h5, kill_ptr (by decide)]
  · intro c G x _ _ _ hst
    cases hst
  · rintro c G x ⟨h0, h1, rfr, h3, h4, h5⟩ hG _ _
    obtain ⟨fr1, e1, f12, f6, f7⟩ : ∃ fr1, ex cx D 0 69 40 q69_0 (setArgs [(37, iv x.1), (38, iv x.2)] rfr) G = some (.normal, fr1, G) ∧ fr1.get 12 = iv x.2 ∧ fr1.get 6 = .ptr 2 0 0 ∧ fr1.get 7 = .ptr 3 0 0 := by
      unfold q69_0
      simp -implicitDefEqProofs (maxDischargeDepth := 4) only [go_sem]
      exact ⟨_, rfl, by simp -implicitDefEqProofs (maxDischargeDepth := 4) only [go_sem], by simp -implicitDefEqProofs (maxDischargeDepth := 4) only [go_sem, h4], by simp -implicitDefEqProofs (maxDischargeDepth := 4) only [go_sem, h5]⟩
    obtain ⟨G1, hG1⟩ : ∃ G1, G.set 7 (.loop { lp69 rfr with state := .busy }) = G1 := ⟨_, rfl⟩
    have hl : G1.length = G.length := by rw [← hG1, List.length_set]
    have g0 : G1[2]? = some (c3 0) := by rw [← hG1, hp_ne (by decide), h0]
    have g1 : G1[3]? = some (c4 false) := by rw [← hG1, hp_ne (by decide), h1]
    have g7 : G1[7]? = some (.loop { lp69 rfr with state := .busy }) := by rw [← hG1, hp_one (by omega)]
    rw [round_eq h3 (Nat.zero_le _) rfl rfl rfl, show setArgs ((lp69 rfr).params.zip [iv x.1, iv x.2]) (lp69 rfr).fr = setArgs [(37, iv x.1), (38, iv x.2)] rfr from rfl,
      show ex cx (den cx) 0 (lp69 rfr).fn (lp69 rfr).nt (lp69 rfr).assign = ex cx D 0 69 40 q69_0 from rfl, e1, bodyRound_eq h3 rfl, show ex cx (den cx) 0 (lp69 rfr).fn (lp69 rfr).nt (lp69 rfr).body = ex cx D 0 69 40 r69_0 from rfl, hG1]
    have n1 : (G1.set 2 (c3 x.2))[3]? = some (c4 false) := by rw [hp_ne (by decide), g1]
    obtain ⟨fr2, e2⟩ : ∃ fr2, ex cx D 0 69 40 r69_0 fr1 G1 = some (.ret, fr2, (G1.set 2 (c3 x.2)).set 3 (c4 true)) := by
      unfold r69_0
      simp -implicitDefEqProofs (maxDischargeDepth := 4) only [go_sem, f12, f6, f7, g0, g1, n1, Nat.not_lt_zero]
      exact ⟨_, rfl⟩
    have hb : ((G1.set 2 (c3 x.2)).set 3 (c4 true))[7]? = some (.loop { lp69 rfr with state := .busy }) := by rw [hp_ne (by decide), hp_ne (by decide), g7]
    rw [e2, endRound_other hb (by decide)]
    refine ⟨_, rfl, ?_, ?_, _, by rw [hp_one (by rw [List.length_set, List.length_set]; omega)], rfl, rfl⟩
    · rw [hp_ne (by decide), hp_ne (by decide), hp_one (by omega)]
    · rw [hp_ne (by decide), hp_one (by rw [List.length_set]; omega)]
theorem jump_call {ns : List Nd} {a : AV} (hns : NsOk ns a) (i : Int) (e : Int × Int) : ∃ H', callB cx D 0 69 [a, iv i, ed e] [] = some (jmpV (jmp ns i e), H') := by
  have h48 := chk_ok hns
  unfold errV at h48
  have ea : elP false 1 a 0 = some a := elP_Sl hns.sl
  have k1 := fun ro => inn_call hns (ro := ro) (b := 0) (G := [.cells 1 56 [a], .cells 2 63 [ed e], c3 0, c4 false]) rfl i
  have k2 := fun ro => inn_call hns (ro := ro) (b := 0) (G := [.cells 1 56 [a], .cells 2 63 [ed e], c3 0, c4 false]) rfl e.1
  cases hi : inn ns.length i with
  | false =>
    have hr : jmp ns i e = (0, false) := by unfold jmp; rw [if_neg (by rw [hi]; simp)]
    rw [hi] at k1
    rw [hr, c69]
    simp -implicitDefEqProofs (maxDischargeDepth := 4) only [go_sem, hns.sl.shr, hns.sl.notOwn, hns.sl.drp, hns.sl.fitA, k1, u_not, xapply_quiet, pu129, qu129, Nat.zero_le, Nat.le_refl, Nat.not_lt_zero]
    exact ⟨_, rfl⟩
  | true =>
  rw [hi] at k1
  cases he : inn ns.length e.1 with
  | false =>
    have hr : jmp ns i e = (0, false) := by unfold jmp; rw [if_neg (by rw [he]; simp)]
    rw [he] at k2
    rw [hr, c69]
    simp -implicitDefEqProofs (maxDischargeDepth := 4) only [go_sem, hns.sl.shr, hns.sl.notOwn, hns.sl.drp, hns.sl.fitA, k1, k2, u_not, xapply_quiet, pu129, qu129, Nat.zero_le, Nat.le_refl, Nat.not_lt_zero]
    exact ⟨_, rfl⟩
  | true =>
  rw [he] at k2
  by_cases h0 : (chk ns).2 = 0
  rotate_left
  · have hr : jmp ns i e = (0, false) := by unfold jmp; rw [if_neg (by simp [h0])]
    rw [hr]
    generalize (chk ns).1 = w at h48
    generalize (chk ns).2 = v at h48 h0
    rw [c69]
    simp -implicitDefEqProofs (maxDischargeDepth := 4) only [go_sem, hns.sl.shr, hns.sl.notOwn, hns.sl.drp, hns.sl.fitA, hns.sl.shut1, ea, k1, k2, h48, h0, u_not, Nat.zero_le, Nat.le_refl, Nat.not_lt_zero]
    exact ⟨_, rfl⟩
  · rw [h0] at h48
    generalize (chk ns).1 = w at h48
    have hin : 0 ≤ i ∧ i < (ns.length : Int) := by simpa [inn] using hi
    obtain ⟨nd, rfl⟩ : ∃ nd : Nat, i = nd := ⟨i.toNat, by omega⟩
    obtain ⟨x, hx⟩ := ex_nd (ns := ns) (i := nd) (by omega)
    have hr : jmp ns nd e = match rise1 ns x.prio e with | some r => (r.2, true) | none => (0, false) := by
      unfold jmp
      rw [if_pos ⟨hi, he, h0⟩, Int.toNat_natCast, hx]
    rw [hr]
    obtain ⟨fr1, e1, f1, f3, f5, f6, f7⟩ : ∃ fr1 : PT, ex cx D 0 69 40 (.seq (.region 0 g69_0 false) (.seq (.region 1 g69_1 false) (.seq (.seq (.region 2 g69_2 false) (.cond (.tmp 24) (.seq (.region 3 g69_3 false) .ret) .skip)) (.seq (.region 4 g69_4 false) (.seq (.region 5 g69_5 false) (.cond (.tmp 31) (.seq (.region 6 g69_6 false) .ret) .skip))))))
        (((PT.nil.set 0 (drp a)).set 1 (drp (iv nd))).set 2 (drp (ed e))) [] = some (.normal, fr1, [.cells 1 56 [a], .cells 2 63 [ed e], c3 0, c4 false]) ∧ fr1.get 1 = iv nd ∧ fr1.get 3 = .ptr 0 0 0 ∧ fr1.get 5 = .ptr 1 0 0 ∧ fr1.get 6 = .ptr 2 0 0 ∧ fr1.get 7 = .ptr 3 0 0 := by
      simp -implicitDefEqProofs (maxDischargeDepth := 4) only [go_sem, hns.sl.shr, hns.sl.notOwn, hns.sl.drp, hns.sl.fitA, hns.sl.shut1, ea, k1, k2, h48, u_not, Nat.zero_le, Nat.le_refl, Nat.not_lt_zero]
      exact ⟨_, rfl, by simp -implicitDefEqProofs (maxDischargeDepth := 4) only [go_sem], by simp -implicitDefEqProofs (maxDischargeDepth := 4) only [go_sem], by simp -implicitDefEqProofs (maxDischargeDepth := 4) only [go_sem], by simp -implicitDefEqProofs (maxDischargeDepth := 4) only [go_sem], by simp -implicitDefEqProofs (maxDischargeDepth := 4) only [go_sem]⟩
    have sw : Sl 2 (.vec 2 .exact [ed e]) ([e].map ed) := .inl rfl
    have hm := edges_mk (ro := 0) hns sw (H := [.cells 1 56 [a], .cells 2 63 [ed e], c3 0, c4 false]) (Nat.zero_le _) nd
    have hm' : callB cx D 0 127 [a, iv nd, .vec 2 .exact [ed e]] [.cells 1 56 [a], .cells 2 63 [ed e], c3 0, c4 false] = some (.fn 160 [.ptr 6 0 0, .ptr 4 0 0, .ptr 5 0 0], [.cells 1 56 [a], .cells 2 63 [ed e], c3 0, c4 false, .cells 1 212 [a], .cells 1 3 [iv nd], .cells 1 64 [.vec 2 .exact [ed e]]]) := hm
    obtain ⟨fr2, e2, l6, l7, l36⟩ : ∃ fr2 : PT, ex cx D 0 69 40 (.region 7 g69_7 false) fr1 [.cells 1 56 [a], .cells 2 63 [ed e], c3 0, c4 false] = some (.normal, fr2, [.cells 1 56 [a], .cells 2 63 [ed e], c3 0, c4 false, .cells 1 212 [a], .cells 1 3 [iv nd], .cells 1 64 [.vec 2 .exact [ed e]]]) ∧ fr2.get 6 = .ptr 2 0 0 ∧ fr2.get 7 = .ptr 3 0 0 ∧ fr2.get 36 = .fn 160 [.ptr 6 0 0, .ptr 4 0 0, .ptr 5 0 0] := by
      simp -implicitDefEqProofs (maxDischargeDepth := 4) only [go_sem, f1, f3, f5, ea, hns.sl.shr, hns.sl.notOwn, hns.sl.drp, hm']
      exact ⟨_, rfl, by simp -implicitDefEqProofs (maxDischargeDepth := 4) only [go_sem, f6], by simp -implicitDefEqProofs (maxDischargeDepth := 4) only [go_sem, f7], by simp -implicitDefEqProofs (maxDischargeDepth := 4) only [go_sem]⟩
    obtain ⟨G', ee, q1, q2⟩ := oedges_call hns sw (show 1 ≤ 1000 by decide) hx rnd69 (by decide) (by decide) (by decide) (by decide) (G := [.cells 1 56 [a], .cells 2 63 [ed e], c3 0, c4 false, .cells 1 212 [a], .cells 1 3 [iv nd], .cells 1 64 [.vec 2 .exact [ed e]], .loop (lp69 (fr2.map drp))]) rfl (c := [])
      ⟨rfl, rfl, _, rfl, by rw [get_mapdrp, l6]; rfl, by rw [get_mapdrp, l7]; rfl⟩ ⟨rfl, rfl, rfl⟩ (fun _ _ => trivial)
    have q1' : D.call 0 160 [.yld 7, .ptr 6 0 0, .ptr 4 0 0, .ptr 5 0 0] [.cells 1 56 [a], .cells 2 63 [ed e], c3 0, c4 false, .cells 1 212 [a], .cells 1 3 [iv nd], .cells 1 64 [.vec 2 .exact [ed e]], .loop (lp69 (fr2.map drp))] = some (.tup [], G') := by rw [den_call_eq]; exact q1
    have q3 : ex cx D 0 69 40 (.rangeFunc (.tmp 36) #[37, 38] q69_0 r69_0) fr2 [.cells 1 56 [a], .cells 2 63 [ed e], c3 0, c4 false, .cells 1 212 [a], .cells 1 3 [iv nd], .cells 1 64 [.vec 2 .exact [ed e]]] = endLoop 7 fr2 (some (.tup [], G')) := by
      rw [x_range, ev_tmp, l36, shr_fn, ranged_fn, ← q1']; rfl
    obtain ⟨_, _, p0, r⟩ := x_split e1
    obtain ⟨_, _, p1, r⟩ := x_split r
    obtain ⟨_, _, p2, r⟩ := x_split r
    rw [c69, x_cont1 p0, x_cont1 p1, x_cont1 p2, x_cont1 r, x_assoc, x_cont1 e2]
    rw [rises_cons] at q2
    unfold ERes at q2
    cases hrise : rise1 ns x.prio e with
    | none =>
      rw [hrise] at q2
      obtain ⟨_, j0, j1, rfr, j3, j4, j5⟩ := q2
      rw [endLoop_eq j3 (show LS.ready ≠ LS.busy by decide)] at q3
      have eb : ex cx D 0 69 40 (.block 0 (.rangeFunc (.tmp 36) #[37, 38] q69_0 r69_0)) fr2 [.cells 1 56 [a], .cells 2 63 [ed e], c3 0, c4 false, .cells 1 212 [a], .cells 1 3 [iv nd], .cells 1 64 [.vec 2 .exact [ed e]]] = some (.normal, fr2, G'.set 7 (.loop { lp69 rfr with state := .exhausted })) := by
        rw [x_block, q3]; rfl
      rw [x_cont1 eb]
      have m0 : (G'.set 7 (.loop { lp69 rfr with state := .exhausted }))[2]? = some (c3 0) := by rw [hp_ne (by decide), j0]
      have m1 : (G'.set 7 (.loop { lp69 rfr with state := .exhausted }))[3]? = some (c4 false) := by rw [hp_ne (by decide), j1]
      generalize G'.set 7 (.loop { lp69 rfr with state := .exhausted }) = G2 at m0 m1
      have m2 : (G2.set 2 (c3 0))[3]? = some (c4 false) := by rw [hp_ne (by decide), m1]
      have hl2 := lt_of_get m0
      have hl3 := lt_of_get m1
      have m3 : ((G2.set 2 (c3 0)).set 3 (c4 false))[2]? = some (c3 0) := by rw [hp_ne (by decide), hp_one hl2]
      have m4 : ((G2.set 2 (c3 0)).set 3 (c4 false))[3]? = some (c4 false) := by rw [hp_one (by rw [List.length_set]; exact hl3)]
      simp -implicitDefEqProofs (maxDischargeDepth := 4) only [go_sem, l6, l7, m0, m1, m2, m3, m4, Nat.not_lt_zero]
      exact ⟨_, rfl⟩
    | some r =>
      rw [hrise] at q2
      obtain ⟨_, j0, j1, rr, j3, j4, j5⟩ := q2
      rw [endLoop_eq j3 (by rw [j4]; decide), j5] at q3
      obtain ⟨G2, eb, m0, m1⟩ : ∃ G2, ex cx D 0 69 40 (.block 0 (.rangeFunc (.tmp 36) #[37, 38] q69_0 r69_0)) fr2 [.cells 1 56 [a], .cells 2 63 [ed e], c3 0, c4 false, .cells 1 212 [a], .cells 1 3 [iv nd], .cells 1 64 [.vec 2 .exact [ed e]]] = some (.ret, fr2, G2) ∧ G2[2]? = some (c3 r.2) ∧ G2[3]? = some (c4 true) := by
        rw [x_block, q3]
        exact ⟨_, rfl, by rw [hp_ne (by decide), j0], by rw [hp_ne (by decide), j1]⟩
      rw [x_seq, eb]
      simp -implicitDefEqProofs (maxDischargeDepth := 4) only [go_sem, l6, l7, m0, m1, Nat.not_lt_zero]
      exact ⟨_, rfl⟩
theorem jump_ok {ns : List Nd} {a : AV} (hns : NsOk ns a) (i : Int) (e : Int × Int) : pcall D 69 [a, iv i, ed e] = some (jmpV (jmp ns i e)) := by
  obtain ⟨H', h⟩ := jump_call hns i e
  rw [pcall_eq (v := jmpV (jmp ns i e)) (H' := H') (by rw [List.map_cons, List.map_cons, List.map_cons, List.map_nil, hns.sl.cl2]; exact h)]
  rfl
end Go.Abs.Tab

/- Order: how far an edge rises, as the document says. -/
set_option linter.unusedVariables false
namespace Go.Abs.Tab
open Go.Gr
theorem good_walk1 {ns : List Nd} (hg : Good ns) {i : Nat} (hi : i < ns.length) (o : Int) : ∃ (m : Nat) (o' : Int) (y : Nd), wlk ns ns.length i o = ((m : Int), o') ∧ ns[m]? = some y ∧ y.kind ≠ 5 := by
  have hb : bad ns i = false := by
    rcases chkB_spec (ns := ns) ns.length 0 with ⟨_, h⟩ | ⟨w, h, _⟩
    · exact h i (Nat.zero_le _) (by omega)
    · rw [hg.nb] at h
      simp only [Prod.mk.injEq] at h
      omega
  unfold bad at hb
  rw [decide_eq_false_iff_not, wlk_fst ns.length i 0 o] at hb
  rcases wlk_cases (ns := ns) ns.length i o with h | ⟨m, x, o', h, hx, _, h5⟩
  · rw [h] at hb
    exact absurd (show (-1 : Int) < 0 by decide) hb
  · exact ⟨m, o', x, h, hx, h5⟩
theorem inn_false {n : Nat} {i : Int} (h : inn n i = false) : i < 0 ∨ (¬ i < 0 ∧ (n : Int) ≤ i) := by
  simp only [inn, Bool.and_eq_false_iff, decide_eq_false_iff_not] at h
  omega
theorem rjump_call {ns : List Nd} {a : AV} (hns : NsOk ns a) (i : Int) (e : Int × Int) : ∃ H', callB cx D 0 70 [a, iv i, ed e] [] = some (jmpV (jmp ns i e), H') := by
  have h49 := rchk_ok hns
  unfold errV at h49
  have hL : ∀ H, alen cx.T 56 H a = some (iv ns.length) := fun H => by rw [alen_sl hns.sl (by rw [sl56]; rfl), List.length_map]
  rw [c70]
  by_cases h0 : (chk ns).2 = 0
  rotate_left
  · have hr : jmp ns i e = (0, false) := by unfold jmp; rw [if_neg (by simp [h0])]
    rw [hr]
    generalize (chk ns).1 = w at h49
    generalize (chk ns).2 = v at h49 h0
    simp -implicitDefEqProofs (maxDischargeDepth := 4) only [go_sem, hns.sl.shr, hns.sl.notOwn, hns.sl.drp, hns.sl.fitA, hns.sl.shut1, h49, h0, Nat.zero_le, Nat.le_refl, Nat.not_lt_zero]
    exact ⟨_, rfl⟩
  have hg := chk_good h0
  rw [h0] at h49
  generalize (chk ns).1 = w at h49
  cases hi : inn ns.length i with
  | false =>
    have hr : jmp ns i e = (0, false) := by unfold jmp; rw [if_neg (by rw [hi]; simp)]
    rw [hr]
    rcases inn_false hi with h | ⟨h, h'⟩
    · simp -implicitDefEqProofs (maxDischargeDepth := 4) only [go_sem, hns.sl.shr, hns.sl.notOwn, hns.sl.drp, hns.sl.fitA, hns.sl.shut1, h49, hL, h, Nat.zero_le, Nat.le_refl, Nat.not_lt_zero]
      exact ⟨_, rfl⟩
    · simp -implicitDefEqProofs (maxDischargeDepth := 4) only [go_sem, hns.sl.shr, hns.sl.notOwn, hns.sl.drp, hns.sl.fitA, hns.sl.shut1, h49, hL, h, h', Nat.zero_le, Nat.le_refl, Nat.not_lt_zero]
      exact ⟨_, rfl⟩
  | true =>
  have hin : 0 ≤ i ∧ i < (ns.length : Int) := by simpa [inn] using hi
  have n1 : ¬ i < 0 := by omega
  have n2 : ¬ (ns.length : Int) ≤ i := by omega
  cases he : inn ns.length e.1 with
  | false =>
    have hr : jmp ns i e = (0, false) := by unfold jmp; rw [if_neg (by rw [he]; simp)]
    rw [hr]
    rcases inn_false he with h | ⟨h, h'⟩
    · simp -implicitDefEqProofs (maxDischargeDepth := 4) only [go_sem, hns.sl.shr, hns.sl.notOwn, hns.sl.drp, hns.sl.fitA, hns.sl.shut1, h49, hL, n1, n2, h, Nat.zero_le, Nat.le_refl, Nat.not_lt_zero]
      exact ⟨_, rfl⟩
    · simp -implicitDefEqProofs (maxDischargeDepth := 4) only [go_sem, hns.sl.shr, hns.sl.notOwn, hns.sl.drp, hns.sl.fitA, hns.sl.shut1, h49, hL, n1, n2, h, h', Nat.zero_le, Nat.le_refl, Nat.not_lt_zero]
      exact ⟨_, rfl⟩
  | true =>
  have hen : 0 ≤ e.1 ∧ e.1 < (ns.length : Int) := by simpa [inn] using he
  have n3 : ¬ e.1 < 0 := by omega
  have n4 : ¬ (ns.length : Int) ≤ e.1 := by omega
  obtain ⟨nd, rfl⟩ : ∃ nd : Nat, i = nd := ⟨i.toNat, by omega⟩
  obtain ⟨x, hx⟩ := ex_nd (ns := ns) (i := nd) (by omega)
  have hr : jmp ns nd e = match rise1 ns x.prio e with | some r => (r.2, true) | none => (0, false) := by
    unfold jmp
    rw [if_pos ⟨hi, he, h0⟩, Int.toNat_natCast, hx]
    all_goals rfl
  rw [hr]
  obtain ⟨t, o⟩ := e
  dsimp only at n3 n4 hen he hr ⊢
  obtain ⟨q, rfl⟩ : ∃ q : Nat, t = q := ⟨t.toNat, by omega⟩
  obtain ⟨m, o', y, hw, hy, hk5⟩ := good_walk1 hg (i := q) (by omega) o
  have r52 := rres_ok hns (q : Int) o
  rw [hw] at r52
  have t1 := hns.at hx
  have t2 := hns.at hy
  have sx : Sl 2 x.nx (x.es.map ed) := hns.ok x (List.mem_of_getElem? hx)
  have sy : Sl 2 y.nx (y.es.map ed) := hns.ok y (List.mem_of_getElem? hy)
  have hyk := shp_kind (hg.sh y (List.mem_of_getElem? hy))
  have hrise : rise1 ns x.prio ((q : Int), o) = if actK y.kind = true then some ((m : Int), wrapK .i64 (wrapK .i64 (y.prio + o') - x.prio)) else none := by
    unfold rise1
    rw [hw, show atN ns (m : Int) = some y by unfold atN; rw [if_neg (by omega), Int.toNat_natCast, hy]]
  rw [hrise]
  by_cases hz : y.kind = 0
  · have hak : actK y.kind = false := by unfold actK; rw [hz]; rfl
    rw [hak, if_neg (by decide)]
    simp -implicitDefEqProofs (maxDischargeDepth := 4) only [go_sem, hns.sl.shr, hns.sl.notOwn, hns.sl.drp, hns.sl.fitA, hns.sl.shut1, h49, hL, n1, n2, n3, n4, build61, r52, t1, t2, sx.shr, sy.shr, hz, Nat.zero_le, Nat.le_refl, Nat.not_lt_zero]
    exact ⟨_, rfl⟩
  · have hak : actK y.kind = true := by unfold actK; simp; omega
    rw [hak, if_pos rfl]
    simp -implicitDefEqProofs (maxDischargeDepth := 4) only [go_sem, hns.sl.shr, hns.sl.notOwn, hns.sl.drp, hns.sl.fitA, hns.sl.shut1, h49, hL, n1, n2, n3, n4, build61, r52, t1, t2, sx.shr, sy.shr, hz, Nat.zero_le, Nat.le_refl, Nat.not_lt_zero]
    exact ⟨_, rfl⟩
theorem rjump_ok {ns : List Nd} {a : AV} (hns : NsOk ns a) (i : Int) (e : Int × Int) : pcall D 70 [a, iv i, ed e] = some (jmpV (jmp ns i e)) := by
  obtain ⟨H', h⟩ := rjump_call hns i e
  rw [pcall_eq (v := jmpV (jmp ns i e)) (H' := H') (by rw [List.map_cons, List.map_cons, List.map_cons, List.map_nil, hns.sl.cl2]; exact h)]
  rfl
end Go.Abs.Tab

/- Order: whether priorities rise, as the document says (the reference's Check). -/
set_option linter.unusedVariables false
namespace Go.Abs.Tab
open Go.Gr
theorem items_Sl {sz : Nat} {a : AV} {els : List AV} (h : Sl sz a els) (H : Hp) : items sz H a = some els := by
  rcases h with rfl | rfl | ⟨rfl, rfl⟩
  · simp [items]
  · simp [items]
  · rfl
theorem app_all {es : List (Int × Int)} (hl : es.length ≤ 8) : ∃ v, apV 2 16 (es.map ed) (.lit (.slice none 0 0)) = some v ∧ Grow 2 v (es.map ed) := by
  cases es with
  | nil => exact ⟨_, rfl, .inr ⟨rfl, rfl⟩⟩
  | cons e t =>
    refine ⟨_, apV_none ?_ (by decide), .inl rfl⟩
    rw [List.length_cons] at hl
    rw [List.length_map]
    omega
def jmpB (ns : List Nd) (i : Int) (e : Int × Int) : Bool := (jmp ns i e).2 && decide ((jmp ns i e).1 < 1)
structure KFr (fr : PT) (a v : AV) (i : Nat) : Prop where
  f0 : fr.get 0 = a
  f6 : fr.get 6 = iv i
  f7 : fr.get 7 = v
theorem loop68_0 {ns : List Nd} {a v : AV} (hns : NsOk ns a) {L : List (Int × Int)} (hv : Sl 2 (shr v) (L.map ed)) (hl : L.length ≤ 9) (i : Nat) :
    ∀ (d k : Nat) (fr : PT), L.length - k = d → k ≤ L.length → KFr fr a v i → fr.get 8 = iv k →
    ∃ e fr', D.loop 0 68 74 l68_0 fr [] = some (e, fr', []) ∧ fr'.get 0 = a ∧ fr'.get 6 = iv i ∧ (if (L.drop k).any (jmpB ns i) = true then e = .ret ∧ fr'.get 2 = iv i ∧ fr'.get 3 = iv 10 else e = .exit 2)
  | 0, k, fr, hd, hk, F, f8 => by
    have hlt := lp1 hd hk
    rw [dl68_0]
    simp -implicitDefEqProofs (maxDischargeDepth := 4) only [go_sem, F.f0, F.f7, f8, mvV_false, hv.shr, hv.notOwn, alen_sl hv, List.length_map, hlt]
    refine ⟨_, _, rfl, by simp -implicitDefEqProofs (maxDischargeDepth := 4) only [go_sem, F.f0], by simp -implicitDefEqProofs (maxDischargeDepth := 4) only [go_sem, F.f6], ?_⟩
    rw [List.drop_eq_nil_of_le (by omega), List.any_nil, if_neg (by decide)]
  | d + 1, k, fr, hd, hk, F, f8 => by
    have hlt := lp2 hd
    have hkl := lp3 hd
    have w3 := wrap_succ (show k ≤ 1000 by have := lp3 hd; omega)
    have e1 := at_ed hv hkl
    have j70 := rjump_ok hns i (L.getD k (0, 0))
    rw [dl68_0, drop_ed hkl, List.any_cons]
    generalize L.getD k (0, 0) = e0 at *
    have hjb : jmpB ns i e0 = ((jmp ns i e0).2 && decide ((jmp ns i e0).1 < 1)) := rfl
    rw [hjb]
    generalize jmp ns i e0 = r at *
    obtain ⟨r1, r2⟩ := r
    dsimp only at *
    cases r2 with
    | false =>
      simp -implicitDefEqProofs (maxDischargeDepth := 4) only [go_sem, F.f0, F.f6, F.f7, f8, mvV_false, hns.sl.shr, hns.sl.notOwn, hns.sl.shut1, hv.shr, hv.notOwn, alen_sl hv, List.length_map, hlt, e1, j70, w3]
      exact loop68_0 hns hv hl i d (k + 1) _ (nd1 hd) (nd2 hd) ⟨by simp -implicitDefEqProofs (maxDischargeDepth := 4) only [go_sem, F.f0], by simp -implicitDefEqProofs (maxDischargeDepth := 4) only [go_sem, F.f6], by simp -implicitDefEqProofs (maxDischargeDepth := 4) only [go_sem, F.f7]⟩ (by simp -implicitDefEqProofs (maxDischargeDepth := 4) only [go_sem])
    | true =>
      by_cases hlow : r1 < 1
      · simp -implicitDefEqProofs (maxDischargeDepth := 4) only [go_sem, F.f0, F.f6, F.f7, f8, mvV_false, hns.sl.shr, hns.sl.notOwn, hns.sl.shut1, hv.shr, hv.notOwn, alen_sl hv, List.length_map, hlt, e1, j70, hlow]
        exact ⟨_, _, rfl, by simp -implicitDefEqProofs (maxDischargeDepth := 4) only [go_sem, F.f0], by simp -implicitDefEqProofs (maxDischargeDepth := 4) only [go_sem, F.f6], rfl, by simp -implicitDefEqProofs (maxDischargeDepth := 4) only [go_sem], by simp -implicitDefEqProofs (maxDischargeDepth := 4) only [go_sem]⟩
      · simp -implicitDefEqProofs (maxDischargeDepth := 4) only [go_sem, F.f0, F.f6, F.f7, f8, mvV_false, hns.sl.shr, hns.sl.notOwn, hns.sl.shut1, hv.shr, hv.notOwn, alen_sl hv, List.length_map, hlt, e1, j70, hlow, w3]
        exact loop68_0 hns hv hl i d (k + 1) _ (nd1 hd) (nd2 hd) ⟨by simp -implicitDefEqProofs (maxDischargeDepth := 4) only [go_sem, F.f0], by simp -implicitDefEqProofs (maxDischargeDepth := 4) only [go_sem, F.f6], by simp -implicitDefEqProofs (maxDischargeDepth := 4) only [go_sem, F.f7]⟩ (by simp -implicitDefEqProofs (maxDischargeDepth := 4) only [go_sem])
theorem jmp_in {ns : List Nd} (h0 : (chk ns).2 = 0) {i : Nat} {x : Nd} (hx : ns[i]? = some x) {e : Int × Int} (he : 0 ≤ e.1 ∧ e.1 < (ns.length : Int)) : jmpB ns i e = match rise1 ns x.prio e with | some r => lowR r | none => false := by
  have hi := (List.getElem?_eq_some_iff.1 hx).1
  unfold jmpB jmp
  rw [if_pos ⟨by unfold inn; simp; omega, by unfold inn; simp; omega, h0⟩, Int.toNat_natCast, hx]
  dsimp only
  obtain ⟨o, ho⟩ : ∃ o, rise1 ns x.prio e = o := ⟨_, rfl⟩
  simp only [ho]
  cases o <;> rfl
theorem any_rises {ns : List Nd} (h0 : (chk ns).2 = 0) {i : Nat} {x : Nd} (hx : ns[i]? = some x) : ∀ {l : List (Int × Int)}, (∀ e ∈ l, 0 ≤ e.1 ∧ e.1 < (ns.length : Int)) → l.any (jmpB ns i) = (rises ns x.prio l).any lowR
  | [], _ => rfl
  | e :: l, h => by
    rw [List.any_cons, any_rises h0 hx fun e he => h e (List.mem_cons_of_mem _ he), jmp_in h0 hx (h e (List.mem_cons_self ..)), rises_cons]
    cases rise1 ns x.prio e with
    | none => rw [Bool.false_or]
    | some r => rw [List.any_cons]
theorem opn_all {n : Int} {x : Nd} (h : opn n x = false) : ∀ e ∈ oE x, 0 ≤ e.1 ∧ e.1 < n := by
  unfold opn at h
  rw [Bool.or_eq_false_iff, List.any_eq_false] at h
  intro e he
  unfold oE at he
  rw [List.mem_append] at he
  rcases he with he | he
  · have h1 := h.1 e he
    simp only [outE, Bool.or_eq_true, decide_eq_true_eq, not_or] at h1
    omega
  · split at he
    · rename_i hc
      have h2 := h.2
      rw [hc, Bool.true_and] at h2
      simp only [outE, Bool.or_eq_false_iff, decide_eq_false_iff_not] at h2
      rw [List.mem_singleton] at he
      subst he
      dsimp only
      omega
    · cases he
theorem loop68_1 {ns : List Nd} {a : AV} (hns : NsOk ns a) (h0 : (chk ns).2 = 0) :
    ∀ (d i : Nat) (fr : PT), ns.length - i = d → i ≤ ns.length → fr.get 0 = a → fr.get 6 = iv i →
    ∃ e fr', D.loop 0 68 74 l68_1 fr [] = some (e, fr', []) ∧ ((oChk ns i (ns.drop i) = (-1, 0) ∧ e = .exit 0) ∨ (∃ j : Int, oChk ns i (ns.drop i) = (j, 10) ∧ e = .ret ∧ fr'.get 2 = iv j ∧ fr'.get 3 = iv 10))
  | 0, i, fr, hd, hi, f0, f6 => by
    have hlt := lp1 hd hi
    rw [dl68_1]
    simp -implicitDefEqProofs (maxDischargeDepth := 4) only [go_sem, f0, f6, hns.sl.shr, hns.sl.notOwn, alen_sl hns.sl, List.length_map, hlt]
    refine ⟨_, _, rfl, .inl ⟨?_, rfl⟩⟩
    rw [List.drop_eq_nil_of_le (by omega)]
    rfl
  | d + 1, i, fr, hd, hi, f0, f6 => by
    have hg := chk_good h0
    have hlt := lp2 hd
    have w3 := wrap_succ (lp5 hd hg.le)
    obtain ⟨x, hx⟩ := ex_nd (lp3 hd)
    have hat := hns.at hx
    have hxm := List.mem_of_getElem? hx
    have hs : Sl 2 x.nx (x.es.map ed) := hns.ok x hxm
    have hl8 := shp_len (hg.sh x hxm)
    have h128 : pcall D 128 [.agg (nodeC x)] = some (bv (actK x.kind)) := ractsN (hns.ok x hxm)
    rw [dl68_1, drop_nd hx]
    simp only [oChk]
    cases hk : actK x.kind with
    | false =>
      rw [hk] at h128
      have hbad : oBad ns x = false := by unfold oBad; rw [hk, Bool.false_and]
      rw [hbad, if_neg (by decide)]
      simp -implicitDefEqProofs (maxDischargeDepth := 4) only [go_sem, f0, f6, hns.sl.shr, hns.sl.notOwn, alen_sl hns.sl, List.length_map, hlt, hat, hs.shr, hs.shut0, h128, u_not, w3]
      exact loop68_1 hns h0 d (i + 1) _ (nd1 hd) (nd2 hd) (by simp -implicitDefEqProofs (maxDischargeDepth := 4) only [go_sem, f0]) (by simp -implicitDefEqProofs (maxDischargeDepth := 4) only [go_sem])
    | true =>
      rw [hk] at h128
      obtain ⟨v, hv, hG⟩ := app_all hl8
      have hit := fun H => items_Sl hs H
      obtain ⟨u, hu1, hu2, hGu⟩ : ∃ u, (x.chan = true → apV 2 16 [ed (x.pt, x.ps)] v = some u) ∧ (x.chan = false → u = v) ∧ Grow 2 u ((oE x).map ed) := by
        cases hc : x.chan with
        | false => exact ⟨v, fun h => (by cases h), fun _ => rfl, by unfold oE; rw [hc, if_neg (by decide), List.append_nil]; exact hG⟩
        | true =>
          have hE : (oE x).map ed = x.es.map ed ++ [ed (x.pt, x.ps)] := by unfold oE; rw [hc, if_pos rfl, List.map_append]; rfl
          refine ⟨.vec 2 .own (x.es.map ed ++ [ed (x.pt, x.ps)]), fun _ => ?_, fun h => (by cases h), .inl (by rw [hE])⟩
          rcases hG with rfl | ⟨rfl, he⟩
          · exact apV_own (by rw [List.length_map]; exact ap_small' hl8) (by decide)
          · rw [he]; exact apV_none (show (0 + 1) * (16 + 1) ≤ 1099511627776 by decide) (by decide)
      have hE9 : (oE x).length ≤ 9 := by unfold oE; split <;> simp <;> omega
      have hbadE : oBad ns x = (oE x).any (jmpB ns i) := by unfold oBad; rw [hk, Bool.true_and, any_rises h0 hx (opn_all (hg.cl x hxm))]
      rw [hbadE]
      obtain ⟨fr1, e1, k0, k6⟩ : ∃ fr1 : PT, ex cx D 0 68 74 (.seq (.region 5 g68_5 false) (.cond (.tmp 23) .skip (.exit 0))) fr [] = some (.normal, fr1, []) ∧ fr1.get 0 = a ∧ fr1.get 6 = iv i := by
        simp -implicitDefEqProofs (maxDischargeDepth := 4) only [go_sem, f0, f6, hns.sl.shr, hns.sl.notOwn, alen_sl hns.sl, List.length_map, hlt]
        exact ⟨_, rfl, by simp -implicitDefEqProofs (maxDischargeDepth := 4) only [go_sem, f0], by simp -implicitDefEqProofs (maxDischargeDepth := 4) only [go_sem, f6]⟩
      obtain ⟨fr2, e2, l0, l6, l7⟩ : ∃ fr2 : PT, ex cx D 0 68 74 (.seq (.seq (.region 7 g68_6 false) (.cond (.tmp 31) (.exit 1) .skip)) (.seq (.region 8 g68_7 false) (.region 9 g68_8 false))) fr1 [] = some (.normal, fr2, []) ∧ fr2.get 0 = a ∧ fr2.get 6 = iv i ∧ fr2.get 7 = v := by
        rcases hG with rfl | ⟨rfl, he⟩
        · simp -implicitDefEqProofs (maxDischargeDepth := 4) only [go_sem, k0, k6, hns.sl.shr, hns.sl.notOwn, hat, hs.shr, hs.notOwn, hs.shut0, h128, u_not, hit, hv]
          exact ⟨_, rfl, by simp -implicitDefEqProofs (maxDischargeDepth := 4) only [go_sem, k0], by simp -implicitDefEqProofs (maxDischargeDepth := 4) only [go_sem, k6], by simp -implicitDefEqProofs (maxDischargeDepth := 4) only [go_sem]⟩
        · simp -implicitDefEqProofs (maxDischargeDepth := 4) only [go_sem, k0, k6, hns.sl.shr, hns.sl.notOwn, hat, hs.shr, hs.notOwn, hs.shut0, h128, u_not, hit, hv]
          exact ⟨_, rfl, by simp -implicitDefEqProofs (maxDischargeDepth := 4) only [go_sem, k0], by simp -implicitDefEqProofs (maxDischargeDepth := 4) only [go_sem, k6], by simp -implicitDefEqProofs (maxDischargeDepth := 4) only [go_sem]⟩
      obtain ⟨fr3, e3, F3⟩ : ∃ fr3 : PT, ex cx D 0 68 74 (.seq (.region 10 g68_9 false) (.cond (.tmp 43) (.region 11 g68_10 false) .skip)) fr2 [] = some (.normal, fr3, []) ∧ KFr fr3 a u i := by
        cases hc : x.chan with
        | false =>
          have := hu2 hc
          subst this
          simp -implicitDefEqProofs (maxDischargeDepth := 4) only [go_sem, l0, l6, l7, hns.sl.shr, hns.sl.notOwn, hat, hc]
          exact ⟨_, rfl, by simp -implicitDefEqProofs (maxDischargeDepth := 4) only [go_sem, l0], by simp -implicitDefEqProofs (maxDischargeDepth := 4) only [go_sem, l6], by simp -implicitDefEqProofs (maxDischargeDepth := 4) only [go_sem, l7]⟩
        | true =>
          have hap := hu1 hc
          rcases hGu with rfl | ⟨_, hn⟩
          rotate_left
          · unfold oE at hn
            rw [hc, if_pos rfl] at hn
            simp at hn
          rcases hG with rfl | ⟨rfl, he⟩
          · simp -implicitDefEqProofs (maxDischargeDepth := 4) only [go_sem, l0, l6, l7, hns.sl.shr, hns.sl.notOwn, hat, hc, hap]
            exact ⟨_, rfl, by simp -implicitDefEqProofs (maxDischargeDepth := 4) only [go_sem, l0], by simp -implicitDefEqProofs (maxDischargeDepth := 4) only [go_sem, l6], by simp -implicitDefEqProofs (maxDischargeDepth := 4) only [go_sem]⟩
          · simp -implicitDefEqProofs (maxDischargeDepth := 4) only [go_sem, l0, l6, l7, hns.sl.shr, hns.sl.notOwn, hat, hc, hap]
            exact ⟨_, rfl, by simp -implicitDefEqProofs (maxDischargeDepth := 4) only [go_sem, l0], by simp -implicitDefEqProofs (maxDischargeDepth := 4) only [go_sem, l6], by simp -implicitDefEqProofs (maxDischargeDepth := 4) only [go_sem]⟩
      obtain ⟨fr4, e4, F4, m8⟩ : ∃ fr4 : PT, ex cx D 0 68 74 (.region 12 g68_11 false) fr3 [] = some (.normal, fr4, []) ∧ KFr fr4 a u i ∧ fr4.get 8 = iv (0 : Nat) := by
        simp -implicitDefEqProofs (maxDischargeDepth := 4) only [go_sem]
        exact ⟨_, rfl, ⟨by simp -implicitDefEqProofs (maxDischargeDepth := 4) only [go_sem, F3.f0], by simp -implicitDefEqProofs (maxDischargeDepth := 4) only [go_sem, F3.f6], by simp -implicitDefEqProofs (maxDischargeDepth := 4) only [go_sem, F3.f7]⟩, by simp -implicitDefEqProofs (maxDischargeDepth := 4) only [go_sem]; rfl⟩
      obtain ⟨ee, fr5, e5, r0, r6, hres⟩ := loop68_0 hns hGu.sl hE9 i (oE x).length 0 fr4 (Nat.sub_zero _) (Nat.zero_le _) F4 m8
      rw [List.drop_zero] at hres
      obtain ⟨_, _, p1, r⟩ := x_split e2
      obtain ⟨_, _, p2, p3⟩ := x_split r
      rw [x_cont1 e1]
      have eb : ex cx D 0 68 74 (.block 1 (.seq (.seq (.region 7 g68_6 false) (.cond (.tmp 31) (.exit 1) .skip)) (.seq (.region 8 g68_7 false) (.seq (.region 9 g68_8 false) (.seq (.seq (.region 10 g68_9 false) (.cond (.tmp 43) (.region 11 g68_10 false) .skip)) (.seq (.region 12 g68_11 false) (.block 2 (.loop l68_0)))))))) fr1 [] = xbind (xbind (some (ee, fr5, [])) (outB 2)) (outB 1) := by
        rw [x_block, x_cont1 p1, x_cont1 p2, x_cont1 p3, x_cont1 e3, x_cont1 e4, x_block, x_loop, e5]
      cases hany : (oE x).any (jmpB ns i) with
      | false =>
        rw [hany, if_neg (by decide)] at hres
        subst hres
        rw [if_neg (by decide), x_cont1 (fr' := fr5) (H' := []) (by rw [eb]; rfl)]
        simp -implicitDefEqProofs (maxDischargeDepth := 4) only [go_sem, r6, w3]
        exact loop68_1 hns h0 d (i + 1) _ (nd1 hd) (nd2 hd) (by simp -implicitDefEqProofs (maxDischargeDepth := 4) only [go_sem, r0]) (by simp -implicitDefEqProofs (maxDischargeDepth := 4) only [go_sem])
      | true =>
        rw [hany, if_pos rfl] at hres
        obtain ⟨rfl, h2, h3⟩ := hres
        rw [if_pos rfl, x_seq, eb]
        exact ⟨_, _, rfl, .inr ⟨_, rfl, rfl, h2, h3⟩⟩
theorem rord_call {ns : List Nd} {a : AV} (hns : NsOk ns a) : ∃ H', callB cx D 0 68 [a] [] = some (errV (ordC ns), H') := by
  have h49 := rchk_ok hns
  unfold errV at h49 ⊢
  by_cases h0 : (chk ns).2 = 0
  · have hr : ordC ns = oChk ns 0 ns := by unfold ordC; rw [if_pos h0]
    rw [hr]
    rw [h0] at h49
    generalize (chk ns).1 = w at h49
    obtain ⟨fr1, e1, k0, k6⟩ : ∃ fr1 : PT, ex cx D 0 68 74 (.seq (.region 0 g68_0 false) (.seq (.region 1 g68_1 false) (.seq (.seq (.region 2 g68_2 false) (.cond (.tmp 17) (.seq (.region 3 g68_3 false) .ret) .skip)) (.region 4 g68_4 false)))) (PT.nil.set 0 (drp a)) [] = some (.normal, fr1, []) ∧ fr1.get 0 = a ∧ fr1.get 6 = iv (0 : Nat) := by
      simp -implicitDefEqProofs (maxDischargeDepth := 4) only [go_sem, hns.sl.shr, hns.sl.notOwn, hns.sl.drp, hns.sl.shut1, h49]
      exact ⟨_, rfl, by simp -implicitDefEqProofs (maxDischargeDepth := 4) only [go_sem], by simp -implicitDefEqProofs (maxDischargeDepth := 4) only [go_sem]; rfl⟩
    obtain ⟨_, _, p0, r⟩ := x_split e1
    obtain ⟨_, _, p1, r⟩ := x_split r
    obtain ⟨_, _, p2, p3⟩ := x_split r
    obtain ⟨e, fr2, e2, O⟩ := loop68_1 hns h0 ns.length 0 fr1 (Nat.sub_zero _) (Nat.zero_le _) k0 k6
    rw [List.drop_zero] at O
    rw [c68, x_cont1 p0, x_cont1 p1, x_cont1 p2, x_assoc, x_cont1 p3]
    rcases O with ⟨hr, rfl⟩ | ⟨j, hr, rfl, h2, h3⟩
    · rw [hr]
      have e3 : ex cx D 0 68 74 (.block 0 (.loop l68_1)) fr1 [] = some (.normal, fr2, []) := by rw [x_block, x_loop, e2]; rfl
      rw [x_cont1 e3]
      simp -implicitDefEqProofs (maxDischargeDepth := 4) only [go_sem]
      exact ⟨_, rfl⟩
    · rw [hr]
      have e3 : ex cx D 0 68 74 (.block 0 (.loop l68_1)) fr1 [] = some (.ret, fr2, []) := by rw [x_block, x_loop, e2]; rfl
      rw [x_seq, e3]
      simp -implicitDefEqProofs (maxDischargeDepth := 4) only [go_sem, h2, h3]
      exact ⟨_, rfl⟩
  · have hr : ordC ns = chk ns := by unfold ordC; rw [if_neg h0]
    rw [hr]
    generalize (chk ns).1 = w at h49 ⊢
    generalize (chk ns).2 = v at h49 h0 ⊢
    rw [c68]
    simp -implicitDefEqProofs (maxDischargeDepth := 4) only [go_sem, hns.sl.shr, hns.sl.notOwn, hns.sl.drp, hns.sl.shut1, h49, h0]
    exact ⟨_, rfl⟩
theorem rord_ok {ns : List Nd} {a : AV} (hns : NsOk ns a) : pcall D 68 [a] = some (errV (ordC ns)) := by
  obtain ⟨H', h⟩ := rord_call hns
  rw [pcall_eq (v := errV (ordC ns)) (H' := H') (by rw [List.map_cons, List.map_nil, hns.sl.cl2]; exact h), frz_err]
end Go.Abs.Tab

/- Order: a table made small (few). -/
set_option linter.unusedVariables false
namespace Go.Abs.Tab
open Go.Gr
structure MFr (fr : PT) (a g : AV) (i : Nat) : Prop where
  f0 : fr.get 0 = a
  f3 : fr.get 3 = g
  f4 : fr.get 4 = iv i
theorem nx_cut {x : Nd} (hx : NdOk x) : ∃ b, aslice cx.T 64 x.nx none (some (iv ((min x.es.length 9 : Nat) : Int))) none = some b ∧ Sl 2 b ((x.es.take 9).map ed) := by
  have hs : Sl 2 x.nx (x.es.map ed) := hx
  obtain ⟨b, h1, h2⟩ := aslice_take (n := min x.es.length 9) hs sl64 (by rw [List.length_map]; omega)
  refine ⟨b, h1, ?_⟩
  rw [← List.map_take, List.take_eq_take_iff.2 (show min (min x.es.length 9) x.es.length = min 9 x.es.length by omega)] at h2
  exact h2
def cut9 (x : Nd) (b : AV) : Nd := { x with es := x.es.take 9, nx := b }
theorem few_loop {ns : List Nd} {a : AV} (ha : Sl 6 a (ns.map nodeV)) (hok : ∀ x ∈ ns, NdOk x) :
    ∀ (d i : Nat) (fr : PT) (g : AV) (os : List Nd), 16 - i = d → i ≤ 16 → MFr fr a g i → Grow 6 g (os.map nodeV) → os.length = i → (∀ x ∈ os, NdOk x ∧ x.es.length ≤ 9) →
    ∃ (fr' : PT) (g' : AV) (os' : List Nd), D.loop 0 63 33 l63_0 fr [] = some (.exit 0, fr', []) ∧ fr'.get 3 = g' ∧ Grow 6 g' (os'.map nodeV) ∧ os'.length ≤ 16 ∧ ∀ x ∈ os', NdOk x ∧ x.es.length ≤ 9
  | 0, i, fr, g, os, hd, hi, F, hg, hl, ho => by
    have h16 : ¬ ((i : Int) < 16) := by omega
    by_cases hlt : (i : Int) < (ns.length : Int)
    · rw [dl63_0]
      simp -implicitDefEqProofs (maxDischargeDepth := 4) only [go_sem, F.f0, F.f4, ha.shr, ha.notOwn, alen_sl ha, List.length_map, hlt, h16]
      exact ⟨_, g, os, rfl, by simp -implicitDefEqProofs (maxDischargeDepth := 4) only [go_sem, F.f3], hg, by omega, ho⟩
    · rw [dl63_0]
      simp -implicitDefEqProofs (maxDischargeDepth := 4) only [go_sem, F.f0, F.f4, ha.shr, ha.notOwn, alen_sl ha, List.length_map, hlt, h16]
      exact ⟨_, g, os, rfl, by simp -implicitDefEqProofs (maxDischargeDepth := 4) only [go_sem, F.f3], hg, by omega, ho⟩
  | d + 1, i, fr, g, os, hd, hi, F, hg, hl, ho => by
    by_cases hlt : (i : Int) < (ns.length : Int)
    rotate_left
    · rw [dl63_0]
      simp -implicitDefEqProofs (maxDischargeDepth := 4) only [go_sem, F.f0, F.f4, ha.shr, ha.notOwn, alen_sl ha, List.length_map, hlt]
      exact ⟨_, g, os, rfl, by simp -implicitDefEqProofs (maxDischargeDepth := 4) only [go_sem, F.f3], hg, by omega, ho⟩
    have h16 : ((i : Int) < 16) := by omega
    have w3 := wrap_succ (show i ≤ 1000 by omega)
    obtain ⟨x, hx⟩ := ex_nd (ns := ns) (i := i) (by omega)
    have hxo := hok x (List.mem_of_getElem? hx)
    have hs : Sl 2 x.nx (x.es.map ed) := hxo
    have hat : aindexAddr cx.T 56 a (iv i) = some (.vp (nodeV x) 0) := by
      rw [aindexAddr_sl ha sl56 (by rw [List.length_map]; omega) rfl]
      simp [List.getD_eq_getElem?_getD, hx]
    have hm : aminmax false [iv x.es.length, iv 9] = some (iv ((min x.es.length 9 : Nat) : Int)) := min_lit x.es.length 9
    obtain ⟨b, hb1, hb2⟩ := nx_cut hxo
    have hle : os.length < 2 ^ 20 := Nat.lt_of_le_of_lt (show os.length ≤ 16 by omega) (by decide)
    have hap : apV 6 64 [nodeV (cut9 x b)] g = some (.vec 6 .own (os.map nodeV ++ [nodeV (cut9 x b)])) := by
      rcases hg with rfl | ⟨rfl, he⟩
      · exact apV_own (ap_small6 (by rw [List.length_map]; exact hle)) (by decide)
      · rw [he]; exact apV_none (show (0 + 1) * (64 + 1) ≤ 1099511627776 by decide) (by decide)
    have hnew : os.map nodeV ++ [nodeV (cut9 x b)] = (os ++ [cut9 x b]).map nodeV := by rw [List.map_append]; rfl
    have hcx : NdOk (cut9 x b) := hb2
    have sc : Sl 2 (cut9 x b).nx ((cut9 x b).es.map ed) := hcx
    obtain ⟨fr1, e1, F1⟩ : ∃ fr1 : PT, ex cx D 0 63 33 (.seq (.region 3 g63_3 false) (.cond (.tmp 13) .skip (.exit 0))) fr [] = some (.normal, fr1, []) ∧ MFr fr1 a g i := by
      simp -implicitDefEqProofs (maxDischargeDepth := 4) only [go_sem, F.f0, F.f4, ha.shr, ha.notOwn, alen_sl ha, List.length_map, hlt, h16]
      exact ⟨_, rfl, by simp -implicitDefEqProofs (maxDischargeDepth := 4) only [go_sem, F.f0], by simp -implicitDefEqProofs (maxDischargeDepth := 4) only [go_sem, F.f3], by simp -implicitDefEqProofs (maxDischargeDepth := 4) only [go_sem, F.f4]⟩
    obtain ⟨fr2, e2, F2, k5⟩ : ∃ fr2 : PT, ex cx D 0 63 33 (.region 5 g63_4 false) fr1 [] = some (.normal, fr2, [.cells 6 66 [nodeV x]]) ∧ MFr fr2 a g i ∧ fr2.get 5 = .ptr 0 0 0 := by
      simp -implicitDefEqProofs (maxDischargeDepth := 4) only [go_sem, F1.f0, F1.f4, ha.shr, ha.notOwn, hat, hs.shr, hs.notOwn, hs.drp, hs.fitA, Nat.zero_le, Nat.le_refl, Nat.not_lt_zero]
      exact ⟨_, rfl, ⟨by simp -implicitDefEqProofs (maxDischargeDepth := 4) only [go_sem, F1.f0], by simp -implicitDefEqProofs (maxDischargeDepth := 4) only [go_sem, F1.f3], by simp -implicitDefEqProofs (maxDischargeDepth := 4) only [go_sem, F1.f4]⟩, by simp -implicitDefEqProofs (maxDischargeDepth := 4) only [go_sem]⟩
    obtain ⟨fr3, e3, F3, l5⟩ : ∃ fr3 : PT, ex cx D 0 63 33 (.region 6 g63_5 false) fr2 [.cells 6 66 [nodeV x]] = some (.normal, fr3, [.cells 6 66 [nodeV (cut9 x b)]]) ∧ MFr fr3 a g i ∧ fr3.get 5 = .ptr 0 0 0 := by
      simp -implicitDefEqProofs (maxDischargeDepth := 4) only [go_sem, k5, hs.shr, hs.notOwn, hs.drp, elP_Sl hs, alen_sl hs, List.length_map, hm, hb1, hb2.shr, hb2.notOwn, hb2.drp, hb2.fitA, Nat.not_lt_zero]
      exact ⟨_, rfl, ⟨by simp -implicitDefEqProofs (maxDischargeDepth := 4) only [go_sem, F2.f0], by simp -implicitDefEqProofs (maxDischargeDepth := 4) only [go_sem, F2.f3], by simp -implicitDefEqProofs (maxDischargeDepth := 4) only [go_sem, F2.f4]⟩, by simp -implicitDefEqProofs (maxDischargeDepth := 4) only [go_sem, k5]⟩
    obtain ⟨fr4, e4, F4⟩ : ∃ fr4 : PT, ex cx D 0 63 33 (.region 7 g63_6 false) fr3 [.cells 6 66 [nodeV (cut9 x b)]] = some (.normal, fr4, [.cells 6 66 [nodeV (cut9 x b)]]) ∧ MFr fr4 a (.vec 6 .own ((os ++ [cut9 x b]).map nodeV)) i := by
      rw [← hnew]
      rcases hg with rfl | ⟨rfl, he⟩
      · simp -implicitDefEqProofs (maxDischargeDepth := 4) only [go_sem, F3.f3, l5, sc.shr, sc.notOwn, sc.drp, sc.cl0, hap]
        exact ⟨_, rfl, ⟨by simp -implicitDefEqProofs (maxDischargeDepth := 4) only [go_sem, F3.f0], by simp -implicitDefEqProofs (maxDischargeDepth := 4) only [go_sem], by simp -implicitDefEqProofs (maxDischargeDepth := 4) only [go_sem, F3.f4]⟩⟩
      · simp -implicitDefEqProofs (maxDischargeDepth := 4) only [go_sem, F3.f3, l5, sc.shr, sc.notOwn, sc.drp, sc.cl0, hap]
        exact ⟨_, rfl, ⟨by simp -implicitDefEqProofs (maxDischargeDepth := 4) only [go_sem, F3.f0], by simp -implicitDefEqProofs (maxDischargeDepth := 4) only [go_sem], by simp -implicitDefEqProofs (maxDischargeDepth := 4) only [go_sem, F3.f4]⟩⟩
    obtain ⟨fr5, e5, F5⟩ : ∃ fr5 : PT, ex cx D 0 63 33 (.region 4 g63_7 false) fr4 [.cells 6 66 [nodeV (cut9 x b)]] = some (.normal, fr5, [.cells 6 66 [nodeV (cut9 x b)]]) ∧ MFr fr5 a (.vec 6 .own ((os ++ [cut9 x b]).map nodeV)) (i + 1) := by
      simp -implicitDefEqProofs (maxDischargeDepth := 4) only [go_sem, F4.f4, w3]
      exact ⟨_, rfl, ⟨by simp -implicitDefEqProofs (maxDischargeDepth := 4) only [go_sem, F4.f0], by simp -implicitDefEqProofs (maxDischargeDepth := 4) only [go_sem, F4.f3], by simp -implicitDefEqProofs (maxDischargeDepth := 4) only [go_sem]⟩⟩
    have eb : ex cx D 0 63 33 (.block 1 (.seq (.region 5 g63_4 false) (.seq (.region 6 g63_5 false) (.region 7 g63_6 false)))) fr1 [] = some (.normal, fr4, [.cells 6 66 [nodeV (cut9 x b)]]) := by
      rw [x_block, x_cont1 e2, x_cont1 e3, e4]; rfl
    rw [dl63_0, x_cont1 e1, x_cont1 eb, e5, xbind_some, contR_normal]
    refine trim_gen (P := fun z => ∃ (fr' : PT) (g' : AV) (os' : List Nd), z = some (.exit 0, fr', []) ∧ fr'.get 3 = g' ∧ Grow 6 g' (os'.map nodeV) ∧ os'.length ≤ 16 ∧ ∀ x ∈ os', NdOk x ∧ x.es.length ≤ 9) [0, 3, 4] (Nat.zero_le _) (fun t ht => ?_) fun fr' G' hG' hf hk' => ?_
    · simp only [List.mem_cons, List.not_mem_nil, or_false] at ht
      rcases ht with rfl | rfl | rfl
      · rw [F5.f0, kill_Sl ha]
      · rw [F5.f3]; rfl
      · rw [F5.f4]; rfl
    · have hGB : G' = [] := List.length_eq_zero_iff.1 hG'
      subst hGB
      refine few_loop ha hok d (i + 1) fr' _ (os ++ [cut9 x b]) (nd1 hd) (nd2 hd) ⟨by rw [hf 0 (by simp), F5.f0], by rw [hf 3 (by simp), F5.f3], by rw [hf 4 (by simp), F5.f4]⟩ (.inl rfl) (by rw [List.length_append, hl]; rfl) fun y hy => ?_
      rw [List.mem_append, List.mem_singleton] at hy
      rcases hy with hy | rfl
      · exact ho y hy
      · exact ⟨hcx, by show (x.es.take 9).length ≤ 9; rw [List.length_take]; omega⟩
theorem few_ok9 {ns : List Nd} {a : AV} (ha : Sl 6 a (ns.map nodeV)) (hok : ∀ x ∈ ns, NdOk x) : ∃ (os : List Nd) (w : AV), pcall D 63 [a] = some w ∧ NsOk os w ∧ os.length ≤ 16 ∧ ∀ x ∈ os, x.es.length ≤ 9 := by
  obtain ⟨fr1, e1, F1⟩ : ∃ fr1 : PT, ex cx D 0 63 33 (.seq (.region 0 g63_0 false) (.seq (.region 1 g63_1 false) (.region 2 g63_2 false))) (PT.nil.set 0 (drp a)) [] = some (.normal, fr1, []) ∧ MFr fr1 a (.lit (.slice none 0 0)) 0 := by
    simp -implicitDefEqProofs (maxDischargeDepth := 4) only [go_sem, ha.drp]
    exact ⟨_, rfl, by simp -implicitDefEqProofs (maxDischargeDepth := 4) only [go_sem, ha.drp], by simp -implicitDefEqProofs (maxDischargeDepth := 4) only [go_sem], by simp -implicitDefEqProofs (maxDischargeDepth := 4) only [go_sem]; rfl⟩
  obtain ⟨fr2, g, os, e2, f3, hg, hl, ho⟩ := few_loop ha hok 16 0 fr1 _ [] rfl (Nat.zero_le _) F1 (.inr ⟨rfl, rfl⟩) rfl (fun x hx => by cases hx)
  obtain ⟨_, _, p0, r⟩ := x_split e1
  obtain ⟨_, _, p1, p2⟩ := x_split r
  have e3 : ex cx D 0 63 33 (.block 0 (.loop l63_0)) fr1 [] = some (.normal, fr2, []) := by rw [x_block, x_loop, e2]; rfl
  have hs := hg.sl
  have run : callB cx D 0 63 [a] [] = some (shr g, []) := by
    rw [c63, x_cont1 p0, x_cont1 p1, x_assoc, x_cont1 p2, x_cont1 e3]
    rcases hg with rfl | ⟨rfl, _⟩ <;> simp -implicitDefEqProofs (maxDischargeDepth := 4) only [go_sem, f3]
  refine ⟨os, shr g, ?_, ⟨hs, fun x hx => (ho x hx).1, Nat.lt_of_le_of_lt hl (by decide)⟩, hl, fun x hx => (ho x hx).2⟩
  rw [pcall_eq (v := shr g) (H' := []) (by rw [List.map_cons, List.map_nil, ha.cl2]; exact run), Sl.frz_id' hs]
theorem few_ok {ns : List Nd} {a : AV} (ha : Sl 6 a (ns.map nodeV)) (hok : ∀ x ∈ ns, NdOk x) : ∃ (os : List Nd) (w : AV), pcall D 63 [a] = some w ∧ NsOk os w ∧ os.length ≤ 16 := by
  obtain ⟨os, w, h1, h2, h3, _⟩ := few_ok9 ha hok
  exact ⟨os, w, h1, h2, h3⟩
end Go.Abs.Tab

/- Maps from ints to ints (type 213). -/
set_option linter.unusedVariables false
namespace Go.Abs.Tab
abbrev MI := List (Int × Int)
abbrev miv (n : Int) : AV := .lit (.int .i64 n)
def mEs (l : MI) : List (AV × AV) := l.map fun p => (miv p.1, miv p.2)
def mGet (k : Int) : MI → Option Int
  | [] => none
  | p :: l => if k = p.1 then some p.2 else mGet k l
def mSet (k v : Int) : MI → MI
  | [] => [(k, v)]
  | p :: l => if k = p.1 then (k, v) :: l else p :: mSet k v l
def mDel (k : Int) : MI → MI
  | [] => []
  | p :: l => if k = p.1 then l else p :: mDel k l
def mapOf : Option ABlock → Option (List (AV × AV))
  | some (.mapo es) => some es
  | _ => none
@[go_sem] theorem mapOf_mapo (es : List (AV × AV)) : mapOf (some (.mapo es)) = some es := nr rfl
def mpOf (H : Hp) : AV → Option (Nat × List (AV × AV))
  | .mp m => xbind (mapOf H[m]?) fun es => some (m, es)
  | _ => none
@[go_sem] theorem mpOf_mp (H : Hp) (m : Nat) : mpOf H (.mp m) = xbind (mapOf H[m]?) fun es => some (m, es) := nr rfl
noncomputable def ok3 (k : AV) : Bool := keyOk cx.T 3 k
@[go_sem] theorem ok3_iv (n : Int) : ok3 (miv n) = true := nr (by kernel_rfl)
noncomputable def fnd (es : List (AV × AV)) (k : AV) : Option (Option (Nat × AV)) := if ok3 k = false then none else mfind cx.T 3 k es 0
theorem keyEq3 (a b : Int) : keyEq cx.T 3 (miv a) (miv b) = some (a == b) := nr (by kernel_rfl)
theorem mfind_get (k : Int) : ∀ (l : MI) (i : Nat), mfind cx.T 3 (miv k) (mEs l) i = some ((mGet k l).map fun v => (i + l.findIdx (fun p => k == p.1), miv v))
  | [], i => rfl
  | p :: l, i => by
    show (match keyEq cx.T 3 (miv k) (miv p.1) with
      | some true => some (some (i, miv p.2))
      | some false => mfind cx.T 3 (miv k) (mEs l) (i + 1)
      | none => none) = _
    rw [keyEq3, mGet, List.findIdx_cons]
    by_cases h : k = p.1
    · rw [if_pos h, show (k == p.1) = true by simpa using h]; rfl
    · rw [if_neg h, show (k == p.1) = false by simpa using h]
      show mfind cx.T 3 (miv k) (mEs l) (i + 1) = _
      rw [mfind_get k l (i + 1)]
      cases mGet k l with
      | none => rfl
      | some v => simp only [Option.map_some, cond_false]; congr 3; omega
theorem fnd_get (k : Int) (l : MI) : fnd (mEs l) (miv k) = some ((mGet k l).map fun v => (l.findIdx (fun p => k == p.1), miv v)) := by
  unfold fnd
  rw [ok3_iv, if_neg (by decide), mfind_get, Nat.zero_add]
theorem set_at (k v : Int) : ∀ (l : MI) (w : Int), mGet k l = some w → (mEs l).set (l.findIdx (fun p => k == p.1)) (miv k, miv v) = mEs (mSet k v l)
  | [], w, h => by cases h
  | p :: l, w, h => by
    rw [mGet] at h
    rw [mSet, List.findIdx_cons]
    by_cases e : k = p.1
    · rw [if_pos e, show (k == p.1) = true by simpa using e]; rfl
    · rw [if_neg e] at h ⊢
      rw [show (k == p.1) = false by simpa using e]
      show (miv p.1, miv p.2) :: (mEs l).set (l.findIdx (fun p => k == p.1)) (miv k, miv v) = (miv p.1, miv p.2) :: mEs (mSet k v l)
      rw [set_at k v l w h]
theorem set_new (k v : Int) : ∀ l : MI, mGet k l = none → mEs l ++ [(miv k, miv v)] = mEs (mSet k v l)
  | [], _ => rfl
  | p :: l, h => by
    rw [mGet] at h
    rw [mSet]
    by_cases e : k = p.1
    · rw [if_pos e] at h; cases h
    · rw [if_neg e] at h ⊢
      show (miv p.1, miv p.2) :: (mEs l ++ [(miv k, miv v)]) = (miv p.1, miv p.2) :: mEs (mSet k v l)
      rw [set_new k v l h]
theorem del_at (k : Int) : ∀ (l : MI) (w : Int), mGet k l = some w → (mEs l).eraseIdx (l.findIdx (fun p => k == p.1)) = mEs (mDel k l)
  | [], w, h => by cases h
  | p :: l, w, h => by
    rw [mGet] at h
    rw [mDel, List.findIdx_cons]
    by_cases e : k = p.1
    · rw [if_pos e, show (k == p.1) = true by simpa using e]; rfl
    · rw [if_neg e] at h ⊢
      rw [show (k == p.1) = false by simpa using e]
      show (miv p.1, miv p.2) :: (mEs l).eraseIdx (l.findIdx (fun p => k == p.1)) = (miv p.1, miv p.2) :: mEs (mDel k l)
      rw [del_at k l w h]
theorem del_not (k : Int) : ∀ l : MI, mGet k l = none → mDel k l = l
  | [], _ => rfl
  | p :: l, h => by
    rw [mGet] at h
    rw [mDel]
    by_cases e : k = p.1
    · rw [if_pos e] at h; cases h
    · rw [if_neg e] at h ⊢
      rw [del_not k l h]
/-- what is looked up -/
def lkM (ok : Bool) : Option (Option (Nat × AV)) → Option AV
  | some (some (_, v)) => some (if ok then .tup [v, .lit (.bool true)] else v)
  | some none => some (if ok then .tup [miv 0, .lit (.bool false)] else miv 0)
  | none => none
def updM (es : List (AV × AV)) (k x : AV) : Option (Option (Nat × AV)) → Option (List (AV × AV))
  | some (some (i, _)) => some (es.set i (k, x))
  | some none => some (es ++ [(k, x)])
  | none => none
def delM (es : List (AV × AV)) : Option (Option (Nat × AV)) → Option (List (AV × AV))
  | some (some (i, _)) => some (es.eraseIdx i)
  | some none => some es
  | none => none
@[go_sem] theorem lk_iv (l : MI) (k : Int) (ok : Bool) : lkM ok (fnd (mEs l) (miv k)) = some (if ok then .tup [miv ((mGet k l).getD 0), .lit (.bool (mGet k l).isSome)] else miv ((mGet k l).getD 0)) := by
  rw [fnd_get]
  cases mGet k l <;> rfl
@[go_sem] theorem upd_iv (l : MI) (k x : Int) : updM (mEs l) (miv k) (miv x) (fnd (mEs l) (miv k)) = some (mEs (mSet k x l)) := by
  rw [fnd_get]
  cases h : mGet k l with
  | none => exact congrArg some (set_new k x l h)
  | some w => exact congrArg some (set_at k x l w h)
@[go_sem] theorem del_iv (l : MI) (k : Int) : delM (mEs l) (fnd (mEs l) (miv k)) = some (mEs (mDel k l)) := by
  rw [fnd_get]
  cases h : mGet k l with
  | none => exact congrArg some (by rw [del_not k l h])
  | some w => exact congrArg some (del_at k l w h)
theorem T213_eq : cx.T 213 = some T213 := by kernel_rfl
theorem T213_d : T213.d = .map 3 3 := by kernel_rfl
theorem T3_eq : cx.T 3 = some T3 := by kernel_rfl
theorem T3_z : zeroAV T3 = some (miv 0) := by kernel_rfl
section
variable {h : Hd} {ro fn nt nm : Nat} {ops : Array Oper} {fr : PT} {H : Hp} {d : Tmp} {dd : Option Tmp}
@[go_sem] theorem xo_lookup (x k : Operand) (ok : Bool) : xop cx h ro fn nt ops nm fr H dd (.lookup 213 x k ok) = xbind (mpOf H (ev fr x)) fun p => xbind (lkM ok (fnd p.2 (ev fr k))) fun v => setO nt dd fr H v := by
  have hok : ok3 (ev fr k) = keyOk cx.T 3 (ev fr k) := rfl
  simp only [xop, calleeOf, lop, lLookup, T213_eq, T213_d, T3_eq, T3_z, fnd, hok]
  by_cases hk : keyOk cx.T 3 (ev fr k) = false
  · simp only [hk, if_true]
    cases hx : ev fr x with
    | mp m =>
      simp only [mpOf]
      cases mapOf H[m]? with
      | none => rfl
      | some es => rfl
    | _ => rfl
  · simp only [hk, if_false]
    cases hx : ev fr x with
    | mp m =>
      simp only [mpOf]
      cases hH : H[m]? with
      | none => rfl
      | some b =>
        cases b with
        | mapo es =>
          simp only [mapOf, xbind_some]
          cases hm : mfind cx.T 3 (ev fr k) es 0 with
          | none => rfl
          | some o => cases o with
            | none => rfl
            | some q => obtain ⟨i, v⟩ := q; rfl
        | _ => rfl
    | _ => rfl
theorem put_in {b : Nat} {blk x : ABlock} (hb : H[b]? = some x) : putB H (some (b, blk)) = H.set b blk := by
  have := lt_of_get hb
  simp only [putB]
  rw [if_neg (by omega)]
@[go_sem] theorem xo_mapUpdate (x k v : Operand) : xop cx h ro fn nt ops nm fr H dd (.mapUpdate 213 x k v) = xbind (mpOf H (ev fr x)) fun p => if p.1 < ro then none else xbind (updM p.2 (cl1 (ev fr k)) (cl1 (ev fr v)) (fnd p.2 (ev fr k))) fun es => setO nt dd fr (H.set p.1 (.mapo es)) (.tup []) := by
  have hok : ok3 (ev fr k) = keyOk cx.T 3 (ev fr k) := rfl
  simp only [xop, calleeOf, lop, lMapUpdate, T213_eq, T213_d, fnd, hok]
  cases hx : ev fr x with
  | mp m =>
    simp only [mpOf]
    by_cases hr : m < ro
    · simp only [hr, true_or, if_true]
      cases mapOf H[m]? with
      | none => rfl
      | some es => simp only [xbind_some, hr, if_true]; rfl
    · by_cases hk : keyOk cx.T 3 (ev fr k) = false
      · simp only [hr, hk, or_true, if_true]
        cases mapOf H[m]? with
        | none => rfl
        | some es => simp only [xbind_some, hr, if_false]; rfl
      · simp only [hr, hk, or_self, if_false]
        cases hH : H[m]? with
        | none => rfl
        | some b =>
          cases b with
          | mapo es =>
            simp only [mapOf, xbind_some, hr, if_false]
            cases hm : mfind cx.T 3 (ev fr k) es 0 with
            | none => rfl
            | some o => cases o with
              | none => simp only [lUpd, updM, xbind_some, xeff, unownT, put_in hH, Bool.true_eq_false, or_self, or_false, if_false]; rfl
              | some q => obtain ⟨i, w⟩ := q; simp only [lUpd, updM, xbind_some, xeff, unownT, put_in hH, Bool.true_eq_false, or_self, or_false, if_false]; rfl
          | _ => rfl
  | _ => rfl
@[go_sem] theorem xo_delete (x k : Operand) (ts : List TypeId) : xop cx h ro fn nt ops nm fr H dd (.call ⟨.builtin .delete, #[x, k], (213 :: ts).toArray⟩) = xbind (mpOf H (ev fr x)) fun p => if p.1 < ro then none else xbind (delM p.2 (fnd p.2 (ev fr k))) fun es => setO nt dd fr (H.set p.1 (.mapo es)) (.tup []) := by
  have hok : ok3 (ev fr k) = keyOk cx.T 3 (ev fr k) := rfl
  simp only [xop, calleeOf, lop, lCall, lBuiltin, lDelete, T213_eq, T213_d, fnd, hok]
  cases hx : ev fr x with
  | mp m =>
    simp only [mpOf]
    by_cases hr : m < ro
    · simp only [hr, true_or, if_true]
      cases mapOf H[m]? with
      | none => rfl
      | some es => simp only [xbind_some, hr, if_true]; rfl
    · by_cases hk : keyOk cx.T 3 (ev fr k) = false
      · simp only [hr, hk, or_true, if_true]
        cases mapOf H[m]? with
        | none => rfl
        | some es => simp only [xbind_some, hr, if_false]; rfl
      · simp only [hr, hk, or_self, if_false]
        cases hH : H[m]? with
        | none => rfl
        | some b =>
          cases b with
          | mapo es =>
            simp only [mapOf, xbind_some, hr, if_false]
            cases hm : mfind cx.T 3 (ev fr k) es 0 with
            | none => rfl
            | some o => cases o with
              | none => simp only [lDel, delM, xbind_some, xeff, unownT, put_in hH, Bool.true_eq_false, or_self, or_false, if_false]; rfl
              | some q => obtain ⟨i, w⟩ := q; simp only [lDel, delM, xbind_some, xeff, unownT, put_in hH, Bool.true_eq_false, or_self, or_false, if_false]; rfl
          | _ => rfl
  | _ => rfl
end
@[go_sem] theorem fitA_mp (m : Nat) : fitA false 1 (.mp m) = true := nr rfl
theorem mEs_length (l : MI) : (mEs l).length = l.length := List.length_map ..
@[go_sem] theorem alen_mp (H : Hp) (m : Nat) : alen cx.T 213 H (.mp m) = xbind (mapOf H[m]?) fun es => some (miv es.length) := by
  have hd := T213_d
  have hT := T213_eq
  generalize T213 = t at hd hT
  obtain ⟨sz, by', z, ag, d, eq⟩ := t
  cases hd
  simp only [alen, hT]
  cases H[m]? with
  | none => rfl
  | some b => cases b <;> rfl
@[go_sem] theorem fm_lookup {cx : Cx} {fn nm : Nat} {ops : Array Oper} {fr : PT} {H H' : Hp} {d : Tmp} {t : TypeId} {x k : Operand} {ok : Bool} : fmO cx fn ops nm fr H H' d (.lookup t x k ok) = match ev fr x with | .mp b => .rd b | _ => .bad := nr rfl
@[go_sem] theorem fm_mapUpdate {cx : Cx} {fn nm : Nat} {ops : Array Oper} {fr : PT} {H H' : Hp} {d : Tmp} {t : TypeId} {x k v : Operand} : fmO cx fn ops nm fr H H' d (.mapUpdate t x k v) = match ev fr x with | .mp b => .wr b | _ => .bad := nr rfl
end Go.Abs.Tab

/- Order: from a node that is settled its edges are looked at (order.Back's reach). -/
set_option linter.unusedVariables false
namespace Go.Abs.Tab
open Go.Gr
structure B64 (G : Hp) (a : AV) (op st : MI) : Prop where
  g0 : G[0]? = some (.cells 1 212 [a])
  g1 : G[1]? = some (.mapo (mEs op))
  g2 : G[2]? = some (.mapo (mEs st))
  g3 : G[3]? = some (.cells 1 213 [.mp 1])
  g4 : G[4]? = some (.cells 1 213 [.mp 2])
def relax1 (st : MI) (so : Int) (op : MI) (x : Int × Int) : MI :=
  if (mGet x.1 st).getD 0 = 0 ∧ ((mGet x.1 op).isSome = false ∨ wrapK .i64 (so + x.2) < (mGet x.1 op).getD 0) then mSet x.1 (wrapK .i64 (so + x.2)) op else op
theorem B64.grow {G L : Hp} {a : AV} {op st : MI} (B : B64 G a op st) : B64 (G ++ L) a op st :=
  ⟨by rw [hp_get_l (lt_of_get B.g0), B.g0], by rw [hp_get_l (lt_of_get B.g1), B.g1], by rw [hp_get_l (lt_of_get B.g2), B.g2], by rw [hp_get_l (lt_of_get B.g3), B.g3], by rw [hp_get_l (lt_of_get B.g4), B.g4]⟩
theorem B64.set {G : Hp} {a : AV} {op st : MI} (B : B64 G a op st) {j : Nat} (hj : 5 ≤ j) (x : ABlock) : B64 (G.set j x) a op st :=
  ⟨by rw [hp_ne (by omega), B.g0], by rw [hp_ne (by omega), B.g1], by rw [hp_ne (by omega), B.g2], by rw [hp_ne (by omega), B.g3], by rw [hp_ne (by omega), B.g4]⟩
theorem B64.op {G : Hp} {a : AV} {op st : MI} (B : B64 G a op st) (op' : MI) : B64 (G.set 1 (.mapo (mEs op'))) a op' st :=
  ⟨by rw [hp_ne (by decide), B.g0], by rw [hp_one (lt_of_get B.g1)], by rw [hp_ne (by decide), B.g2], by rw [hp_ne (by decide), B.g3], by rw [hp_ne (by decide), B.g4]⟩
theorem B64.st {G : Hp} {a : AV} {op st : MI} (B : B64 G a op st) (st' : MI) : B64 (G.set 2 (.mapo (mEs st'))) a op st' :=
  ⟨by rw [hp_ne (by decide), B.g0], by rw [hp_ne (by decide), B.g1], by rw [hp_one (lt_of_get B.g2)], by rw [hp_ne (by decide), B.g3], by rw [hp_ne (by decide), B.g4]⟩
theorem B64.trim {G : Hp} {a : AV} {els : List AV} (ha : Sl 6 a els) {op st : MI} (B : B64 G a op st) {m : Nat} (hm : 5 ≤ m) : B64 ((G.take m).map (killB m)) a op st := by
  have k2 : killB m (.cells 1 212 [a]) = .cells 1 212 [a] := by rcases ha with rfl | rfl | ⟨rfl, _⟩ <;> rfl
  have k3 : ∀ j, j < m → killB m (.cells 1 213 [.mp j]) = .cells 1 213 [.mp j] := fun j hj => by
    show ABlock.cells 1 213 [if j < m then AV.mp j else .dead] = _
    rw [if_pos hj]
  refine ⟨?_, ?_, ?_, ?_, ?_⟩
  · rw [List.getElem?_map, List.getElem?_take_of_lt (by omega), B.g0, Option.map_some, k2]
  · rw [List.getElem?_map, List.getElem?_take_of_lt (by omega), B.g1]; rfl
  · rw [List.getElem?_map, List.getElem?_take_of_lt (by omega), B.g2]; rfl
  · rw [List.getElem?_map, List.getElem?_take_of_lt (by omega), B.g3, Option.map_some, k3 1 (by omega)]
  · rw [List.getElem?_map, List.getElem?_take_of_lt (by omega), B.g4, Option.map_some, k3 2 (by omega)]
noncomputable def lp126 (rfr : PT) : ALoop := { fn := 126, nt := 47, fr := rfr, params := [19, 20], assign := q126_0, body := r126_0, state := .ready, pending := none }
structure J126 (a : AV) (op st : MI) (so : Int) (n : Nat) (c : List (Int × Int)) (G : Hp) : Prop where
  b : B64 G a (c.foldl (relax1 st so) op) st
  bn : G[n]? = some (c3 so)
  lp : ∃ rfr, G[n + 4]? = some (.loop (lp126 rfr)) ∧ rfr.get 3 = .ptr 3 0 0 ∧ rfr.get 4 = .ptr 4 0 0 ∧ rfr.get 6 = .ptr n 0 0
theorem body126 {a : AV} {op st : MI} {so : Int} {n : Nat} {G : Hp} (B : B64 G a op st) (bn : G[n]? = some (c3 so)) {fr : PT} {x : Int × Int} (f3 : fr.get 3 = .ptr 3 0 0) (f4 : fr.get 4 = .ptr 4 0 0) (f6 : fr.get 6 = .ptr n 0 0) (f7 : fr.get 7 = iv x.1) (f8 : fr.get 8 = iv x.2) :
    ∃ fr' G', ex cx D 0 126 47 r126_0 fr G = some (.normal, fr', G') ∧ (G' = G ∧ relax1 st so op x = op ∨ G' = G.set 1 (.mapo (mEs (relax1 st so op x)))) := by
  unfold r126_0 relax1
  by_cases h1 : (mGet x.1 st).getD 0 = 0
  rotate_left
  · rw [if_neg (fun h => h1 h.1)]
    simp -implicitDefEqProofs (maxDischargeDepth := 4) only [go_sem, f3, f4, f6, f7, f8, B.g1, B.g2, B.g3, B.g4, h1]
    exact ⟨_, G, rfl, by simp⟩
  · cases h2 : (mGet x.1 op).isSome with
    | false =>
      rw [if_pos ⟨h1, .inl rfl⟩]
      simp -implicitDefEqProofs (maxDischargeDepth := 4) only [go_sem, f3, f4, f6, f7, f8, B.g1, B.g2, B.g3, B.g4, h1, h2, bn, Nat.not_lt_zero]
      exact ⟨_, _, rfl, .inr rfl⟩
    | true =>
      by_cases h3 : wrapK .i64 (so + x.2) < (mGet x.1 op).getD 0
      · rw [if_pos ⟨h1, .inr h3⟩]
        simp -implicitDefEqProofs (maxDischargeDepth := 4) only [go_sem, f3, f4, f6, f7, f8, B.g1, B.g2, B.g3, B.g4, h1, h2, bn, h3, Nat.not_lt_zero]
        exact ⟨_, _, rfl, .inr rfl⟩
      · rw [if_neg (fun h => h.2.elim (fun h => by cases h) h3)]
        simp -implicitDefEqProofs (maxDischargeDepth := 4) only [go_sem, f3, f4, f6, f7, f8, B.g1, B.g2, B.g3, B.g4, h1, h2, bn, h3, Nat.not_lt_zero]
        exact ⟨_, G, rfl, by simp⟩
theorem rnd126 {a : AV} {els : List AV} (ha : Sl 6 a els) {op st : MI} {so : Int} {n : Nat} (hn : 5 ≤ n) : ERnd (n + 5) (n + 4) (n + 3) (n + 1) (n + 2) (fun _ => True) (fun _ => false) (J126 a op st so n) (fun _ _ => False) := by
  refine ⟨?_, ?_, ?_, ?_⟩
  · rintro c G L ⟨B, bn, rfr, h3, h4⟩
    exact ⟨B.grow, by rw [hp_get_l (lt_of_get bn), bn], rfr, by rw [hp_get_l (lt_of_get h3), h3], h4⟩
  · rintro c G ⟨B, bn, rfr, h3, h4, h5, h6⟩ hG
    refine ⟨B.trim ha (by omega), ?_, rfr.map (kill (n + 5)), ?_, ?_, ?_, ?_⟩
    · rw [List.getElem?_map, List.getElem?_take_of_lt (by omega), bn]; rfl
    · rw [List.getElem?_map, List.getElem?_take_of_lt (by omega), h3]; rfl
    · rw [get_mapkill, h4, kill_ptr (by omega)]
    · rw [get_mapkill, h5, kill_ptr (by omega)]
    · rw [get_mapkill, h6, kill_ptr (by omega)]
  · rintro c G x ⟨B, bn, rfr, h3, h4, h5, h6⟩ hG _ _
    obtain ⟨fr1, e1, f7, f8, f3, f4, f6⟩ : ∃ fr1, ex cx D 0 126 47 q126_0 (setArgs [(19, iv x.1), (20, iv x.2)] rfr) G = some (.normal, fr1, G) ∧ fr1.get 7 = iv x.1 ∧ fr1.get 8 = iv x.2 ∧ fr1.get 3 = .ptr 3 0 0 ∧ fr1.get 4 = .ptr 4 0 0 ∧ fr1.get 6 = .ptr n 0 0 := by
      unfold q126_0
      simp -implicitDefEqProofs (maxDischargeDepth := 4) only [go_sem]
      exact ⟨_, rfl, by simp -implicitDefEqProofs (maxDischargeDepth := 4) only [go_sem], by simp -implicitDefEqProofs (maxDischargeDepth := 4) only [go_sem], by simp -implicitDefEqProofs (maxDischargeDepth := 4) only [go_sem, h4], by simp -implicitDefEqProofs (maxDischargeDepth := 4) only [go_sem, h5], by simp -implicitDefEqProofs (maxDischargeDepth := 4) only [go_sem, h6]⟩
    obtain ⟨G1, hG1⟩ : ∃ G1, G.set (n + 4) (.loop { lp126 rfr with state := .busy }) = G1 := ⟨_, rfl⟩
    have hl : G1.length = G.length := by rw [← hG1, List.length_set]
    have B1 : B64 G1 a (c.foldl (relax1 st so) op) st := by rw [← hG1]; exact B.set (by omega) _
    have n1 : G1[n]? = some (c3 so) := by rw [← hG1, hp_ne (by omega), bn]
    have l1 : G1[n + 4]? = some (.loop { lp126 rfr with state := .busy }) := by rw [← hG1, hp_one (by omega)]
    have o1 : ∀ j, j ≠ n + 4 → G1[j]? = G[j]? := fun j hj => by rw [← hG1, hp_ne (Ne.symm hj)]
    rw [round_eq h3 (Nat.zero_le _) rfl rfl rfl, show setArgs ((lp126 rfr).params.zip [iv x.1, iv x.2]) (lp126 rfr).fr = setArgs [(19, iv x.1), (20, iv x.2)] rfr from rfl,
      show ex cx (den cx) 0 (lp126 rfr).fn (lp126 rfr).nt (lp126 rfr).assign = ex cx D 0 126 47 q126_0 from rfl, e1, bodyRound_eq h3 rfl, show ex cx (den cx) 0 (lp126 rfr).fn (lp126 rfr).nt (lp126 rfr).body = ex cx D 0 126 47 r126_0 from rfl, hG1]
    obtain ⟨fr2, G2, e2, hc⟩ := body126 B1 n1 (x := x) f3 f4 f6 f7 f8
    have hfold : (c ++ [x]).foldl (relax1 st so) op = relax1 st so (c.foldl (relax1 st so) op) x := by rw [List.foldl_append]; rfl
    obtain ⟨B2, n2, l2, hl2, o2⟩ : B64 G2 a ((c ++ [x]).foldl (relax1 st so) op) st ∧ G2[n]? = some (c3 so) ∧ G2[n + 4]? = some (.loop { lp126 rfr with state := .busy }) ∧ G2.length = G1.length ∧ ∀ j, 5 ≤ j → G2[j]? = G1[j]? := by
      rw [hfold]
      rcases hc with ⟨rfl, hc⟩ | rfl
      · rw [hc]; exact ⟨B1, n1, l1, rfl, fun _ _ => rfl⟩
      · exact ⟨B1.op _, by rw [hp_ne (by omega), n1], by rw [hp_ne (by omega), l1], List.length_set, fun j hj => hp_ne (by omega)⟩
    rw [e2, endRound_normal l2]
    refine ⟨_, rfl, ⟨B2.set (by omega) _, by rw [hp_ne (by omega), n2], rfr, by rw [hp_one (lt_of_get l2)]; rfl, h4, h5, h6⟩, by rw [List.length_set, hl2, hl]; exact Nat.le_refl _, fun j hj => ?_⟩
    rw [hp_ne (by omega), o2 j (by omega), o1 j (by omega)]
  · intro c G x _ _ _ hst
    cases hst
end Go.Abs.Tab

/- Order: order.Back's reach, called. -/
set_option linter.unusedVariables false
namespace Go.Abs.Tab
open Go.Gr
theorem find_none {α : Type} : ∀ l : List α, l.find? (fun _ => false) = none
  | [] => rfl
  | _ :: l => by rw [List.find?_cons_of_neg (by decide), find_none l]
theorem reach_call {ns : List Nd} {a : AV} (hns : NsOk ns a) {nd : Nat} {x : Nd} (hx : ns[nd]? = some x) (hl : x.es.length ≤ 1000) {op st : MI} {G : Hp} (B : B64 G a op st) (so : Int) :
    ∃ G', callB cx D 0 126 [iv nd, iv so, .ptr 0 0 0, .ptr 3 0 0, .ptr 4 0 0] G = some (.tup [], G') ∧ B64 G' a ((rises ns x.prio x.es).foldl (relax1 st so) op) st ∧ G.length ≤ G'.length := by
  obtain ⟨n, hn⟩ : ∃ n, G.length = n := ⟨_, rfl⟩
  have h5 : 5 ≤ n := by have := lt_of_get B.g4; omega
  have hs : Sl 2 x.nx (x.es.map ed) := hns.ok x (List.mem_of_getElem? hx)
  have ea : elP false 1 a 0 = some a := elP_Sl hns.sl
  have hat := hns.at2 hx
  have hm : callB cx D 0 127 [a, iv nd, x.nx] (G ++ [c3 so]) = some (.fn 160 [.ptr (n + 3) 0 0, .ptr (n + 1) 0 0, .ptr (n + 2) 0 0], G ++ [c3 so, .cells 1 212 [a], c3 nd, .cells 1 64 [x.nx]]) := by
    have := edges_mk (ro := 0) hns hs (H := G ++ [c3 so]) (Nat.zero_le _) nd
    rw [List.length_append, hn] at this
    rw [this, List.append_assoc]
    rfl
  have q0 : ∀ L, (G ++ L)[0]? = some (.cells 1 212 [a]) := fun L => by rw [hp_get_l (lt_of_get B.g0), B.g0]
  obtain ⟨fr1, e1, f0, f2, f3, f4, f6⟩ : ∃ fr1, ex cx D 0 126 47 (.region 0 g126_0 false) (((((PT.nil.set 0 (drp (iv nd))).set 1 (drp (iv so))).set 2 (drp (.ptr 0 0 0))).set 3 (drp (.ptr 3 0 0))).set 4 (drp (.ptr 4 0 0))) G = some (.normal, fr1, G ++ [c3 so]) ∧ fr1.get 0 = iv nd ∧ fr1.get 2 = .ptr 0 0 0 ∧ fr1.get 3 = .ptr 3 0 0 ∧ fr1.get 4 = .ptr 4 0 0 ∧ fr1.get 6 = .ptr n 0 0 := by
    simp -implicitDefEqProofs (maxDischargeDepth := 4) only [go_sem, hn, Nat.zero_le]
    exact ⟨_, rfl, by simp -implicitDefEqProofs (maxDischargeDepth := 4) only [go_sem], by simp -implicitDefEqProofs (maxDischargeDepth := 4) only [go_sem], by simp -implicitDefEqProofs (maxDischargeDepth := 4) only [go_sem], by simp -implicitDefEqProofs (maxDischargeDepth := 4) only [go_sem], by simp -implicitDefEqProofs (maxDischargeDepth := 4) only [go_sem]⟩
  obtain ⟨fr2, e2, k3, k4, k6, k18⟩ : ∃ fr2, ex cx D 0 126 47 (.region 1 g126_1 true) fr1 (G ++ [c3 so]) = some (.normal, fr2, G ++ [c3 so, .cells 1 212 [a], c3 nd, .cells 1 64 [x.nx]]) ∧ fr2.get 3 = .ptr 3 0 0 ∧ fr2.get 4 = .ptr 4 0 0 ∧ fr2.get 6 = .ptr n 0 0 ∧ fr2.get 18 = .fn 160 [.ptr (n + 3) 0 0, .ptr (n + 1) 0 0, .ptr (n + 2) 0 0] := by
    simp -implicitDefEqProofs (maxDischargeDepth := 4) only [go_sem, hn, f0, f2, q0, ea, hns.sl.shr, hns.sl.notOwn, hns.sl.drp, hs.shr, hs.notOwn, hs.drp, hat, hm]
    exact ⟨_, rfl, by simp -implicitDefEqProofs (maxDischargeDepth := 4) only [go_sem, f3], by simp -implicitDefEqProofs (maxDischargeDepth := 4) only [go_sem, f4], by simp -implicitDefEqProofs (maxDischargeDepth := 4) only [go_sem, f6], by simp -implicitDefEqProofs (maxDischargeDepth := 4) only [go_sem]⟩
  obtain ⟨G1, hG1⟩ : ∃ G1, G ++ [c3 so, .cells 1 212 [a], c3 nd, .cells 1 64 [x.nx]] = G1 := ⟨_, rfl⟩
  have hl1 : G1.length = n + 4 := by rw [← hG1, List.length_append, hn]; rfl
  have B1 : B64 (G1 ++ [.loop (lp126 (fr2.map drp))]) a op st := by rw [← hG1]; exact B.grow.grow
  have hJ : J126 a op st so n [] (G1 ++ [.loop (lp126 (fr2.map drp))]) := by
    refine ⟨B1, ?_, fr2.map drp, ?_, by rw [get_mapdrp, k3]; rfl, by rw [get_mapdrp, k4]; rfl, by rw [get_mapdrp, k6]; rfl⟩
    · rw [hp_get_l (by omega), ← hG1, hp_get_r0 hn]; rfl
    · rw [hp_get_r0 hl1]; rfl
  have hA : EdAt (G1 ++ [.loop (lp126 (fr2.map drp))]) (n + 3) (n + 1) (n + 2) a x.nx nd := by
    refine ⟨?_, ?_, ?_⟩
    · rw [hp_get_l (by omega), ← hG1, hp_get_r hn]; rfl
    · rw [hp_get_l (by omega), ← hG1, hp_get_r hn]; rfl
    · rw [hp_get_l (by omega), ← hG1, hp_get_r hn]; rfl
  obtain ⟨G', e, q1, q2⟩ := oedges_call hns hs hl hx (rnd126 hns.sl (op := op) (st := st) (so := so) h5) (by omega) (by omega) (by omega) (by omega) (G := G1 ++ [.loop (lp126 (fr2.map drp))]) (by rw [List.length_append, hl1]; rfl) hJ hA (fun _ _ => trivial)
  unfold ERes at q2
  rw [find_none] at q2
  obtain ⟨_, B2, bn, rfr, j3, j4⟩ := q2
  rw [List.nil_append] at B2
  have q1' : D.call 0 160 [.yld (n + 4), .ptr (n + 3) 0 0, .ptr (n + 1) 0 0, .ptr (n + 2) 0 0] (G1 ++ [.loop (lp126 (fr2.map drp))]) = some (.tup [], G') := by rw [den_call_eq]; exact q1
  have q3 : ex cx D 0 126 47 (.rangeFunc (.tmp 18) #[19, 20] q126_0 r126_0) fr2 G1 = endLoop (n + 4) fr2 (some (.tup [], G')) := by
    rw [x_range, ev_tmp, k18, shr_fn, ranged_fn, ← q1', hl1]; rfl
  rw [endLoop_eq j3 (show LS.ready ≠ LS.busy by decide)] at q3
  refine ⟨G'.set (n + 4) (.loop { lp126 rfr with state := .exhausted }), ?_, B2.set (by omega) _, ?_⟩
  · rw [hG1] at e2
    rw [c126, x_cont1 e1, x_cont1 e2, x_block, q3]
    rfl
  · rw [List.length_set, hn]
    have := lt_of_get j3
    omega
end Go.Abs.Tab

/- The least way back: what is known between two rounds (a plain law). -/
set_option linter.unusedVariables false
namespace Go.Abs.Tab
open Go.Gr
theorem mGet_set_self (k v : Int) : ∀ l : MI, mGet k (mSet k v l) = some v
  | [] => by rw [mSet, mGet, if_pos rfl]
  | p :: l => by
    rw [mSet]
    by_cases h : k = p.1
    · rw [if_pos h, mGet, if_pos rfl]
    · rw [if_neg h, mGet, if_neg h, mGet_set_self k v l]
theorem mGet_set_ne {k j : Int} (v : Int) (h : j ≠ k) : ∀ l : MI, mGet j (mSet k v l) = mGet j l
  | [] => by show (if j = k then some v else none) = none; rw [if_neg h]
  | p :: l => by
    rw [mSet]
    by_cases e : k = p.1
    · rw [if_pos e, mGet, if_neg h, mGet, if_neg (by rw [← e]; exact h)]
    · rw [if_neg e, mGet, mGet, mGet_set_ne v h l]
def Keys (l : MI) : Prop := ∀ (j : Nat) (p : Int × Int), l[j]? = some p → mGet p.1 (l.drop (j + 1)) = none
theorem keys_nil : Keys [] := fun j p h => by simp at h
theorem mGet_del_ne {k j : Int} (h : j ≠ k) : ∀ l : MI, mGet j (mDel k l) = mGet j l
  | [] => rfl
  | p :: l => by
    rw [mDel]
    by_cases e : k = p.1
    · rw [if_pos e, mGet, if_neg (by rw [← e]; exact h)]
    · rw [if_neg e, mGet, mGet, mGet_del_ne h l]
theorem keys_cons {p : Int × Int} {l : MI} : Keys (p :: l) ↔ mGet p.1 l = none ∧ Keys l := by
  constructor
  · intro h
    exact ⟨h 0 p rfl, fun j q hq => h (j + 1) q hq⟩
  · rintro ⟨h1, h2⟩ j q hq
    cases j with
    | zero => cases hq; exact h1
    | succ j => exact h2 j q hq
theorem mGet_del_self (k : Int) : ∀ l : MI, Keys l → mGet k (mDel k l) = none
  | [], _ => rfl
  | p :: l, h => by
    obtain ⟨h1, h2⟩ := keys_cons.1 h
    rw [mDel]
    by_cases e : k = p.1
    · rw [if_pos e, e]; exact h1
    · rw [if_neg e, mGet, if_neg e, mGet_del_self k l h2]
theorem mGet_none_set {j k v : Int} {l : MI} (hj : j ≠ k) (h : mGet j l = none) : mGet j (mSet k v l) = none := by rw [mGet_set_ne v hj, h]
theorem keys_set (k v : Int) : ∀ l : MI, Keys l → Keys (mSet k v l)
  | [], _ => keys_cons.2 ⟨rfl, keys_nil⟩
  | p :: l, h => by
    obtain ⟨h1, h2⟩ := keys_cons.1 h
    rw [mSet]
    by_cases e : k = p.1
    · rw [if_pos e]; exact keys_cons.2 ⟨by rw [show ((k, v) : Int × Int).1 = p.1 from e]; exact h1, h2⟩
    · rw [if_neg e]; exact keys_cons.2 ⟨mGet_none_set (fun h => e h.symm) h1, keys_set k v l h2⟩
theorem keys_del (k : Int) : ∀ l : MI, Keys l → Keys (mDel k l)
  | [], h => h
  | p :: l, h => by
    obtain ⟨h1, h2⟩ := keys_cons.1 h
    rw [mDel]
    by_cases e : k = p.1
    · rw [if_pos e]; exact h2
    · rw [if_neg e]; exact keys_cons.2 ⟨by rw [mGet_del_ne (fun h => e h.symm), h1], keys_del k l h2⟩
theorem mGet_ne_nil {l : MI} (h : l ≠ []) : ∃ k c, mGet k l = some c := by
  cases l with
  | nil => exact absurd rfl h
  | cons p l => exact ⟨p.1, p.2, by rw [mGet, if_pos rfl]⟩
structure Gph (n : Nat) (R : Nat → List (Int × Int)) (M : Int) : Prop where
  to : ∀ u, ∀ x ∈ R u, ∃ q : Nat, x.1 = q ∧ q < n
  lo : ∀ u, ∀ x ∈ R u, 1 ≤ x.2
  hi : ∀ u, ∀ x ∈ R u, x.2 ≤ M
inductive Way (R : Nat → List (Int × Int)) (s : Nat) : Nat → Int → Prop
  | one {v : Nat} {r : Int} : ((v : Int), r) ∈ R s → Way R s v r
  | snoc {u v : Nat} {c r : Int} : Way R s u c → ((v : Int), r) ∈ R u → Way R s v (c + r)
def Stl (st : MI) (v : Int) : Prop := (mGet v st).getD 0 ≠ 0
structure Dij (n : Nat) (R : Nat → List (Int × Int)) (s : Nat) (K : Int) (A : Nat → Int → Prop) (op st : MI) (d : Nat → Int) : Prop where
  ko : Keys op
  o : ∀ v c, mGet v op = some c → ∃ q : Nat, v = q ∧ q < n ∧ ¬ Stl st v ∧ Way R s q c ∧ 1 ≤ c ∧ c ≤ K
  e : ∀ u du, A u du → ∀ x ∈ R u, (Stl st x.1 ∧ d x.1.toNat ≤ du + x.2) ∨ ∃ c, mGet x.1 op = some c ∧ c ≤ du + x.2
  m : ∀ u : Nat, Stl st u → ∀ v c, mGet v op = some c → d u ≤ c
  ns : ¬ Stl st s
theorem Dij.mono {n : Nat} {R : Nat → List (Int × Int)} {s : Nat} {K K' : Int} {A A' : Nat → Int → Prop} {op st : MI} {d : Nat → Int} (h : Dij n R s K A op st d) (hA : ∀ u du, A' u du → A u du) (hK : K ≤ K') : Dij n R s K' A' op st d :=
  ⟨h.ko, fun v c hv => by obtain ⟨q, a1, a2, a3, a4, a5, a6⟩ := h.o v c hv; exact ⟨q, a1, a2, a3, a4, a5, Int.le_trans a6 hK⟩, fun u du ha => h.e u du (hA u du ha), h.m, h.ns⟩
/-- the sources that are looked at: the start, and what is settled -/
def Src (s : Nat) (st : MI) (d : Nat → Int) (u : Nat) (du : Int) : Prop := (u = s ∧ du = 0) ∨ (Stl st u ∧ du = d u)
theorem Dij.low {n : Nat} {R : Nat → List (Int × Int)} {M : Int} (G : Gph n R M) {s : Nat} {K : Int} {op st : MI} {d : Nat → Int} (h : Dij n R s K (Src s st d) op st d) {v : Nat} {c : Int} (w : Way R s v c) : (Stl st v ∧ d v ≤ c) ∨ ∃ u c', mGet u op = some c' ∧ c' ≤ c := by
  induction w with
  | one hr =>
    rcases h.e s 0 (.inl ⟨rfl, rfl⟩) _ hr with ⟨h1, h2⟩ | ⟨c', h1, h2⟩
    · exact .inl ⟨h1, by rw [Int.toNat_natCast] at h2; dsimp only at h2; omega⟩
    · exact .inr ⟨_, c', h1, by dsimp only at h2; omega⟩
  | @snoc u v c r _ hr ih =>
    have hlo := G.lo u _ hr
    dsimp only at hlo
    rcases ih with ⟨h1, h2⟩ | ⟨u', c', h1, h2⟩
    · rcases h.e u (d u) (.inr ⟨h1, rfl⟩) _ hr with ⟨h3, h4⟩ | ⟨c', h3, h4⟩
      · exact .inl ⟨h3, by rw [Int.toNat_natCast] at h4; dsimp only at h4; omega⟩
      · exact .inr ⟨_, c', h3, by dsimp only at h4; omega⟩
    · exact .inr ⟨u', c', h1, by omega⟩
/-- edges of a source, one by one -/
structure Fold (st : MI) (so : Int) (op0 : MI) (l : List (Int × Int)) (op : MI) : Prop where
  k : Keys op0 → Keys op
  a : ∀ v c, mGet v op = some c → mGet v op0 = some c ∨ ∃ x ∈ l, x.1 = v ∧ c = so + x.2 ∧ ¬ Stl st v
  b : ∀ v c0, mGet v op0 = some c0 → ∃ c, mGet v op = some c ∧ c ≤ c0
  c : ∀ x ∈ l, Stl st x.1 ∨ ∃ c, mGet x.1 op = some c ∧ c ≤ so + x.2
theorem fold_ok {st : MI} {so : Int} : ∀ (l : List (Int × Int)) (op0 : MI), (∀ x ∈ l, wrapK .i64 (so + x.2) = so + x.2) → Fold st so op0 l (l.foldl (relax1 st so) op0)
  | [], op0, _ => ⟨id, fun v c h => .inl h, fun v c h => ⟨c, h, Int.le_refl _⟩, fun x hx => by cases hx⟩
  | x :: l, op0, hw => by
    have hwx := hw x (List.mem_cons_self ..)
    have ih := fold_ok (st := st) (so := so) l (relax1 st so op0 x) (fun y hy => hw y (List.mem_cons_of_mem _ hy))
    rw [List.foldl_cons]
    generalize l.foldl (relax1 st so) (relax1 st so op0 x) = op at ih
    obtain ⟨k, a, b, c⟩ := ih
    have h1 : relax1 st so op0 x = op0 ∧ (Stl st x.1 ∨ ∃ c, mGet x.1 op0 = some c ∧ c ≤ so + x.2) ∨ relax1 st so op0 x = mSet x.1 (so + x.2) op0 ∧ ¬ Stl st x.1 ∧ ∀ c, mGet x.1 op0 = some c → so + x.2 ≤ c := by
      unfold relax1
      rw [hwx]
      split
      · rename_i hc
        refine .inr ⟨rfl, fun h => h hc.1, fun c hg => ?_⟩
        rcases hc.2 with h | h
        · rw [hg] at h; cases h
        · rw [hg, Option.getD_some] at h; omega
      · rename_i hc
        refine .inl ⟨rfl, ?_⟩
        by_cases hs : (mGet x.1 st).getD 0 = 0
        · right
          cases hg : mGet x.1 op0 with
          | none => exact absurd ⟨hs, .inl (by rw [hg]; rfl)⟩ hc
          | some c0 =>
            refine ⟨c0, rfl, ?_⟩
            have : ¬ so + x.2 < c0 := fun hlt => hc ⟨hs, .inr (by rw [hg]; exact hlt)⟩
            omega
        · exact .inl hs
    rcases h1 with ⟨h1, h2⟩ | ⟨h1, h2, h3⟩
    · rw [h1] at k a b
      refine ⟨k, fun v c' hv => ?_, b, fun y hy => ?_⟩
      · rcases a v c' hv with h | ⟨y, hy, e⟩
        · exact .inl h
        · exact .inr ⟨y, List.mem_cons_of_mem _ hy, e⟩
      · rcases List.mem_cons.1 hy with rfl | hy
        · rcases h2 with h | ⟨c0, h, hle⟩
          · exact .inl h
          · obtain ⟨c', h', hle'⟩ := b _ _ h
            exact .inr ⟨c', h', Int.le_trans hle' hle⟩
        · exact c y hy
    · rw [h1] at k a b
      refine ⟨fun hk => k (keys_set _ _ _ hk), fun v c' hv => ?_, fun v c0 hv => ?_, fun y hy => ?_⟩
      · rcases a v c' hv with h | ⟨y, hy, e⟩
        · by_cases hx : v = x.1
          · subst hx
            rw [mGet_set_self] at h
            exact .inr ⟨x, List.mem_cons_self .., rfl, (Option.some.inj h).symm, h2⟩
          · rw [mGet_set_ne _ hx] at h
            exact .inl h
        · exact .inr ⟨y, List.mem_cons_of_mem _ hy, e⟩
      · by_cases hx : v = x.1
        · subst hx
          obtain ⟨c', h', hle⟩ := b _ _ (mGet_set_self x.1 (so + x.2) op0)
          exact ⟨c', h', Int.le_trans hle (h3 c0 hv)⟩
        · exact b v c0 (by rw [mGet_set_ne _ hx]; exact hv)
      · rcases List.mem_cons.1 hy with rfl | hy
        · obtain ⟨c', h', hle⟩ := b _ _ (mGet_set_self y.1 (so + y.2) op0)
          exact .inr ⟨c', h', hle⟩
        · exact c y hy
theorem Dij.reach {n : Nat} {R : Nat → List (Int × Int)} {M : Int} (G : Gph n R M) {s : Nat} {K : Int} {A : Nat → Int → Prop} {op st : MI} {d : Nat → Int} (h : Dij n R s K A op st d) {u : Nat} {so : Int} (h0 : 0 ≤ so) (hK : so + M ≤ K) (hK' : K < 2 ^ 62)
    (hw : ∀ x ∈ R u, Way R s x.1.toNat (so + x.2)) (hd : ∀ v : Nat, Stl st v → d v ≤ so) : Dij n R s K (fun w dw => A w dw ∨ (w = u ∧ dw = so)) ((R u).foldl (relax1 st so) op) st d := by
  have hF := fold_ok (st := st) (so := so) (R u) op (fun x hx => by
    have h1 := G.lo u x hx
    have h2 := G.hi u x hx
    exact wrapK_i64 (by omega) (by omega))
  refine ⟨hF.k h.ko, fun v c hv => ?_, fun w dw hA x hx => ?_, fun w hw' v c hv => ?_, h.ns⟩
  · rcases hF.a v c hv with hv | ⟨x, hx, rfl, rfl, hs⟩
    · exact h.o v c hv
    · obtain ⟨q, hq, hqn⟩ := G.to u x hx
      have h1 := G.lo u x hx
      have h2 := G.hi u x hx
      refine ⟨q, hq, hqn, hs, ?_, by omega, by omega⟩
      have := hw x hx
      rw [hq, Int.toNat_natCast] at this
      exact this
  · rcases hA with hA | ⟨rfl, rfl⟩
    · rcases h.e w dw hA x hx with h1 | ⟨c, h1, h2⟩
      · exact .inl h1
      · obtain ⟨c', h3, h4⟩ := hF.b _ _ h1
        exact .inr ⟨c', h3, Int.le_trans h4 h2⟩
    · rcases hF.c x hx with h1 | h1
      · refine .inl ⟨h1, ?_⟩
        obtain ⟨q, hq, _⟩ := G.to w x hx
        have h2 := hd q (by rw [← hq]; exact h1)
        have h3 := G.lo w x hx
        rw [hq, Int.toNat_natCast]
        omega
      · exact .inr h1
  · rcases hF.a v c hv with hv | ⟨x, hx, _, rfl, _⟩
    · exact h.m w hw' v c hv
    · have h1 := G.lo u x hx
      have h2 := hd w hw'
      omega
theorem stl_set_self (v : Int) (st : MI) : Stl (mSet v 1 st) v := by
  unfold Stl
  rw [mGet_set_self, Option.getD_some]
  decide
theorem stl_set_ne {v w : Int} (h : w ≠ v) (st : MI) : Stl (mSet v 1 st) w ↔ Stl st w := by
  unfold Stl
  rw [mGet_set_ne _ h]
/-- the least is settled -/
theorem Dij.settle {n : Nat} {R : Nat → List (Int × Int)} {M : Int} (G : Gph n R M) {s : Nat} {K : Int} {A : Nat → Int → Prop} {op st : MI} {d : Nat → Int} (h : Dij n R s K A op st d) {v : Nat} {c : Int} (hv : mGet v op = some c) (hs : v ≠ s) (hm : ∀ u c', mGet u op = some c' → c ≤ c') :
    Dij n R s K A (mDel v op) (mSet v 1 st) (fun u => if u = v then c else d u) := by
  have hns : ¬ Stl st v := by obtain ⟨q, _, _, h1, _⟩ := h.o _ _ hv; exact h1
  have hdel : ∀ u c', mGet u (mDel v op) = some c' → u ≠ v ∧ mGet u op = some c' := fun u c' hu => by
    by_cases e : u = v
    · rw [e, mGet_del_self _ _ h.ko] at hu; cases hu
    · rw [mGet_del_ne e] at hu; exact ⟨e, hu⟩
  refine ⟨keys_del _ _ h.ko, fun u c' hu => ?_, fun u du hA x hx => ?_, fun u hu w c' hw => ?_, ?_⟩
  · obtain ⟨hne, hu'⟩ := hdel u c' hu
    obtain ⟨q, h1, h2, h3, h4⟩ := h.o u c' hu'
    exact ⟨q, h1, h2, fun hh => h3 ((stl_set_ne hne st).1 hh), h4⟩
  · rcases h.e u du hA x hx with ⟨h1, h2⟩ | ⟨c', h1, h2⟩
    · have hne : x.1 ≠ (v : Int) := fun e => hns (by rw [← e]; exact h1)
      refine .inl ⟨(stl_set_ne hne st).2 h1, ?_⟩
      by_cases e : x.1.toNat = v
      · rw [if_pos e]
        obtain ⟨q, hq, _⟩ := G.to u x hx
        exact absurd (show x.1 = (v : Int) by omega) hne
      · rw [if_neg e]; exact h2
    · by_cases e : x.1 = (v : Int)
      · left
        rw [e] at h1 ⊢
        rw [hv] at h1
        cases h1
        exact ⟨stl_set_self _ _, by rw [Int.toNat_natCast, if_pos rfl]; exact h2⟩
      · exact .inr ⟨c', by rw [mGet_del_ne e]; exact h1, h2⟩
  · obtain ⟨hne, hw'⟩ := hdel w c' hw
    by_cases e : u = v
    · subst e
      rw [if_pos rfl]
      exact hm w c' hw'
    · rw [if_neg e]
      exact h.m u ((stl_set_ne (by omega) st).1 hu) w c' hw'
  · exact fun hh => h.ns ((stl_set_ne (by omega) st).1 hh)
end Go.Abs.Tab

/- Order: the least that is open is looked for. -/
set_option linter.unusedVariables false
namespace Go.Abs.Tab
open Go.Gr
def pick1 (op : MI) (i : Nat) (r : Int × Int) : Int × Int := match mGet i op with
  | none => r
  | some c => if 0 ≤ r.1 ∧ r.2 ≤ c then r else ((i : Int), c)
def pick (op : MI) : Nat → Nat → Int × Int → Int × Int
  | 0, _, r => r
  | d + 1, i, r => pick op d (i + 1) (pick1 op i r)
structure Pick (op : MI) (d i : Nat) (r r' : Int × Int) : Prop where
  a : ∀ (j : Nat) c, i ≤ j → j < i + d → mGet j op = some c → 0 ≤ r'.1 ∧ r'.2 ≤ c
  b : 0 ≤ r.1 → 0 ≤ r'.1 ∧ r'.2 ≤ r.2
  c : r' = r ∨ ∃ j : Nat, r'.1 = j ∧ i ≤ j ∧ j < i + d ∧ mGet j op = some r'.2
theorem pick_ok (op : MI) : ∀ (d i : Nat) (r : Int × Int), Pick op d i r (pick op d i r)
  | 0, i, r => ⟨fun j c h1 h2 => by omega, fun h => ⟨h, Int.le_refl _⟩, .inl rfl⟩
  | d + 1, i, r => by
    obtain ⟨a, b, c⟩ := pick_ok op d (i + 1) (pick1 op i r)
    show Pick op (d + 1) i r (pick op d (i + 1) (pick1 op i r))
    generalize pick op d (i + 1) (pick1 op i r) = r' at *
    unfold pick1 at b c
    cases hg : mGet i op with
    | none =>
      rw [hg] at b c
      refine ⟨fun j c' h1 h2 hj => ?_, b, ?_⟩
      · by_cases e : j = i
        · subst e; rw [hg] at hj; cases hj
        · exact a j c' (by omega) (by omega) hj
      · rcases c with c | ⟨j, h1, h2, h3, h4⟩
        · exact .inl c
        · exact .inr ⟨j, h1, by omega, by omega, h4⟩
    | some c0 =>
      rw [hg] at b c
      dsimp only at b c
      by_cases hc : 0 ≤ r.1 ∧ r.2 ≤ c0
      · rw [if_pos hc] at b c
        refine ⟨fun j c' h1 h2 hj => ?_, b, ?_⟩
        · by_cases e : j = i
          · subst e
            rw [hg] at hj
            cases hj
            exact ⟨(b hc.1).1, Int.le_trans (b hc.1).2 hc.2⟩
          · exact a j c' (by omega) (by omega) hj
        · rcases c with c | ⟨j, h1, h2, h3, h4⟩
          · exact .inl c
          · exact .inr ⟨j, h1, by omega, by omega, h4⟩
      · rw [if_neg hc] at b c
        have hb := b (Int.natCast_nonneg i)
        dsimp only at hb
        refine ⟨fun j c' h1 h2 hj => ?_, fun h0 => ⟨hb.1, ?_⟩, ?_⟩
        · by_cases e : j = i
          · subst e
            rw [hg] at hj
            cases hj
            exact hb
          · exact a j c' (by omega) (by omega) hj
        · have : ¬ r.2 ≤ c0 := fun h => hc ⟨h0, h⟩
          omega
        · rcases c with c | ⟨j, h1, h2, h3, h4⟩
          · right
            refine ⟨i, by rw [c], by omega, by omega, by rw [c]; exact hg⟩
          · exact .inr ⟨j, h1, by omega, by omega, h4⟩
structure DFr (fr : PT) (a : AV) (s : Nat) : Prop where
  f0 : fr.get 0 = a
  f1 : fr.get 1 = iv s
  f9 : fr.get 9 = .ptr 3 0 0
  f10 : fr.get 10 = .ptr 4 0 0
  f11 : fr.get 11 = .fn 126 [.ptr 0 0 0, .ptr 3 0 0, .ptr 4 0 0]
theorem DFr.of {fr fr' : PT} {a : AV} {s : Nat} (F : DFr fr a s) (h : ∀ t, (t = 0 ∨ t = 1 ∨ t = 9 ∨ t = 10 ∨ t = 11) → fr'.get t = fr.get t) : DFr fr' a s :=
  ⟨by rw [h 0 (by simp), F.f0], by rw [h 1 (by simp), F.f1], by rw [h 9 (by simp), F.f9], by rw [h 10 (by simp), F.f10], by rw [h 11 (by simp), F.f11]⟩
theorem loop64_0 {a : AV} {s n : Nat} (hn : n ≤ 64) {op st : MI} {G : Hp} (B : B64 G a op st) :
    ∀ (d i : Nat) (fr : PT) (r : Int × Int), n - i = d → i ≤ n → DFr fr a s → fr.get 41 = iv n → fr.get 42 = iv i → fr.get 12 = iv r.1 → fr.get 13 = iv r.2 →
    ∃ fr' : PT, D.loop 0 64 81 l64_0 fr G = some (.exit 2, fr', G) ∧ DFr fr' a s ∧ fr'.get 12 = iv (pick op d i r).1 ∧ fr'.get 13 = iv (pick op d i r).2
  | 0, i, fr, r, hd, hi, F, f41, f42, f12, f13 => by
    have hlt := lp1 hd hi
    rw [dl64_0]
    simp -implicitDefEqProofs (maxDischargeDepth := 4) only [go_sem, f41, f42, hlt]
    refine ⟨_, rfl, F.of fun t ht => ?_, by simp -implicitDefEqProofs (maxDischargeDepth := 4) only [go_sem, f12]; rfl, by simp -implicitDefEqProofs (maxDischargeDepth := 4) only [go_sem, f13]; rfl⟩
    rcases ht with rfl | rfl | rfl | rfl | rfl <;> simp -implicitDefEqProofs (maxDischargeDepth := 4) only [go_sem]
  | d + 1, i, fr, r, hd, hi, F, f41, f42, f12, f13 => by
    have hlt := lp2 hd
    have w3 := wrap_succ (lp5 hd hn)
    have step : ∃ fr1 : PT, ex cx D 0 64 81 (.seq (.region 11 g64_11 false) (.seq (.cond (.tmp 43) .skip (.exit 2)) (.seq (.block 3 (.seq (.region 12 g64_12 false) (.seq (.region 13 g64_13 false) (.seq (.seq (.region 14 g64_14 false) (.cond (.tmp 61) (.exit 3) .skip)) (.region 15 g64_15 false))))) (.region 16 g64_16 false)))) fr G = some (.normal, fr1, G) ∧ DFr fr1 a s ∧ fr1.get 41 = iv n ∧ fr1.get 42 = iv (i + 1 : Nat) ∧ fr1.get 12 = iv (pick1 op i r).1 ∧ fr1.get 13 = iv (pick1 op i r).2 := by
      unfold pick1
      cases hg : mGet i op with
      | none =>
        simp -implicitDefEqProofs (maxDischargeDepth := 4) only [go_sem, F.f9, f41, f42, f12, f13, hlt, w3, B.g1, B.g3, hg, u_not, Option.isSome_none, Option.getD_none]
        refine ⟨_, rfl, F.of fun t ht => ?_, by simp -implicitDefEqProofs (maxDischargeDepth := 4) only [go_sem, f41], by simp -implicitDefEqProofs (maxDischargeDepth := 4) only [go_sem], by simp -implicitDefEqProofs (maxDischargeDepth := 4) only [go_sem, f12], by simp -implicitDefEqProofs (maxDischargeDepth := 4) only [go_sem, f13]⟩
        rcases ht with rfl | rfl | rfl | rfl | rfl <;> simp -implicitDefEqProofs (maxDischargeDepth := 4) only [go_sem]
      | some c =>
        dsimp only
        by_cases h0 : 0 ≤ r.1
        · by_cases h1 : r.2 ≤ c
          · rw [if_pos ⟨h0, h1⟩]
            simp -implicitDefEqProofs (maxDischargeDepth := 4) only [go_sem, F.f9, f41, f42, f12, f13, hlt, w3, B.g1, B.g3, hg, u_not, Option.isSome_some, Option.getD_some, h0, h1]
            refine ⟨_, rfl, F.of fun t ht => ?_, by simp -implicitDefEqProofs (maxDischargeDepth := 4) only [go_sem, f41], by simp -implicitDefEqProofs (maxDischargeDepth := 4) only [go_sem], by simp -implicitDefEqProofs (maxDischargeDepth := 4) only [go_sem, f12], by simp -implicitDefEqProofs (maxDischargeDepth := 4) only [go_sem, f13]⟩
            rcases ht with rfl | rfl | rfl | rfl | rfl <;> simp -implicitDefEqProofs (maxDischargeDepth := 4) only [go_sem]
          · rw [if_neg (fun h => h1 h.2)]
            simp -implicitDefEqProofs (maxDischargeDepth := 4) only [go_sem, F.f9, f41, f42, f12, f13, hlt, w3, B.g1, B.g3, hg, u_not, Option.isSome_some, Option.getD_some, h0, h1]
            refine ⟨_, rfl, F.of fun t ht => ?_, by simp -implicitDefEqProofs (maxDischargeDepth := 4) only [go_sem, f41], by simp -implicitDefEqProofs (maxDischargeDepth := 4) only [go_sem], by simp -implicitDefEqProofs (maxDischargeDepth := 4) only [go_sem], by simp -implicitDefEqProofs (maxDischargeDepth := 4) only [go_sem]⟩
            rcases ht with rfl | rfl | rfl | rfl | rfl <;> simp -implicitDefEqProofs (maxDischargeDepth := 4) only [go_sem]
        · rw [if_neg (fun h => h0 h.1)]
          simp -implicitDefEqProofs (maxDischargeDepth := 4) only [go_sem, F.f9, f41, f42, f12, f13, hlt, w3, B.g1, B.g3, hg, u_not, Option.isSome_some, Option.getD_some, h0]
          refine ⟨_, rfl, F.of fun t ht => ?_, by simp -implicitDefEqProofs (maxDischargeDepth := 4) only [go_sem, f41], by simp -implicitDefEqProofs (maxDischargeDepth := 4) only [go_sem], by simp -implicitDefEqProofs (maxDischargeDepth := 4) only [go_sem], by simp -implicitDefEqProofs (maxDischargeDepth := 4) only [go_sem]⟩
          rcases ht with rfl | rfl | rfl | rfl | rfl <;> simp -implicitDefEqProofs (maxDischargeDepth := 4) only [go_sem]
    obtain ⟨fr1, e1, F1, k41, k42, k12, k13⟩ := step
    obtain ⟨fr2, e2, F2, l12, l13⟩ := loop64_0 hn B d (i + 1) fr1 _ (nd1 hd) (nd2 hd) F1 k41 k42 k12 k13
    refine ⟨fr2, ?_, F2, l12, l13⟩
    rw [dl64_0, e1, xbind_some, contR_normal]
    unfold trimmed
    rw [if_pos rfl, e2]
end Go.Abs.Tab

/- Order: order.Back's rounds. -/
set_option linter.unusedVariables false
namespace Go.Abs.Tab
open Go.Gr
def unsL (st : MI) (i : Nat) : Bool := (mGet i st).getD 0 == 0
def uns (n : Nat) (st : MI) : Nat := ((List.range n).filter (unsL st)).length
theorem uns_same (st : MI) {v : Nat} : ∀ n, n ≤ v → uns n (mSet v 1 st) = uns n st
  | 0, _ => rfl
  | n + 1, h => by
    have ih := uns_same st (v := v) n (by omega)
    unfold uns at *
    rw [List.range_succ, List.filter_append, List.filter_append, List.length_append, List.length_append, ih]
    have : unsL (mSet v 1 st) n = unsL st n := by unfold unsL; rw [mGet_set_ne (k := (v : Int)) (j := (n : Int)) 1 (by omega)]
    rw [List.filter_cons, List.filter_cons, this]
    rfl
theorem uns_settle (st : MI) {v : Nat} (hs : ¬ Stl st v) : ∀ n, v < n → uns n (mSet v 1 st) + 1 = uns n st
  | 0, h => by omega
  | n + 1, h => by
    have h0 : (mGet v st).getD 0 = 0 := by unfold Stl at hs; omega
    by_cases e : v = n
    · subst e
      have ih := uns_same st (v := v) v (Nat.le_refl _)
      unfold uns at *
      rw [List.range_succ, List.filter_append, List.filter_append, List.length_append, List.length_append, ih]
      have h1 : unsL (mSet v 1 st) v = false := by unfold unsL; rw [mGet_set_self]; rfl
      have h2 : unsL st v = true := by unfold unsL; rw [h0]; rfl
      rw [List.filter_cons, List.filter_cons, h1, h2]
      simp
    · have ih := uns_settle st hs n (by omega)
      unfold uns at *
      rw [List.range_succ, List.filter_append, List.filter_append, List.length_append, List.length_append]
      have : unsL (mSet v 1 st) n = unsL st n := by unfold unsL; rw [mGet_set_ne (k := (v : Int)) (j := (n : Int)) 1 (by omega)]
      rw [List.filter_cons, List.filter_cons, this]
      simp only [List.filter_nil]
      omega
theorem uns_pos {st : MI} {v n : Nat} (hs : ¬ Stl st v) (hv : v < n) : 1 ≤ uns n st := by
  have := uns_settle st hs n hv
  omega
theorem uns_nil : ∀ n, uns n [] = n
  | 0 => rfl
  | n + 1 => by
    have ih := uns_nil n
    unfold uns at *
    rw [List.range_succ, List.filter_append, List.length_append, ih]
    rfl
/-- edges of nodes that act -/
def oR (ns : List Nd) (i : Nat) : List (Int × Int) := match ns[i]? with
  | some x => if actK x.kind = true then rises ns x.prio x.es else []
  | none => []
theorem oR_act {ns : List Nd} {i : Nat} {x : Nd} (hx : ns[i]? = some x) (hk : actK x.kind = true) : oR ns i = rises ns x.prio x.es := by
  unfold oR
  rw [hx]
  dsimp only
  rw [if_pos hk]
structure OrdOk (ns : List Nd) : Prop extends Good ns where
  up : ∀ x ∈ ns, oBad ns x = false
theorem oChk_ok {ns : List Nd} : ∀ (l : List Nd) (i : Nat), (oChk ns i l).2 = 0 → ∀ x ∈ l, oBad ns x = false
  | [], _, _, x, hx => by cases hx
  | y :: l, i, h, x, hx => by
    simp only [oChk] at h
    cases hb : oBad ns y with
    | true => rw [hb, if_pos rfl] at h; exact absurd h (show (10 : Int) ≠ 0 by decide)
    | false =>
      rw [hb, if_neg (by decide)] at h
      rcases List.mem_cons.1 hx with rfl | hx
      · exact hb
      · exact oChk_ok l (i + 1) h x hx
theorem ord_good {ns : List Nd} (h : (ordC ns).2 = 0) : OrdOk ns := by
  unfold ordC at h
  split at h
  · rename_i h0
    exact ⟨chk_good h0, oChk_ok ns 0 h⟩
  · rename_i h0
    exact absurd h h0
theorem shp_prio {x : Nd} (h : shp x = true) : 0 ≤ x.prio ∧ x.prio ≤ 1000 := by
  unfold shp at h
  simp only [Bool.and_eq_true] at h
  exact inB_iff.1 h.1.1.1.2
theorem rises_mem {ns : List Nd} {px : Int} {es : List (Int × Int)} {r : Int × Int} (h : r ∈ rises ns px es) : ∃ e ∈ es, rise1 ns px e = some r := by
  unfold rises at h
  rw [List.mem_filterMap] at h
  exact h
theorem oR_mem {ns : List Nd} {u : Nat} {r : Int × Int} (h : r ∈ oR ns u) : ∃ x e, ns[u]? = some x ∧ actK x.kind = true ∧ e ∈ x.es ∧ rise1 ns x.prio e = some r := by
  unfold oR at h
  cases hx : ns[u]? with
  | none => rw [hx] at h; cases h
  | some x =>
    rw [hx] at h
    dsimp only at h
    split at h
    · rename_i hk
      obtain ⟨e, he, hr⟩ := rises_mem h
      exact ⟨x, e, rfl, hk, he, hr⟩
    · cases h
theorem oR_to {ns : List Nd} {u : Nat} {r : Int × Int} (h : r ∈ oR ns u) : ∃ (q : Nat) (y : Nd), r.1 = q ∧ ns[q]? = some y ∧ actK y.kind = true := by
  obtain ⟨x, e, _, _, _, hr⟩ := oR_mem h
  obtain ⟨q, y, o, _, hy, hk, rfl⟩ := rise1_some hr
  exact ⟨q, y, rfl, hy, hk⟩
theorem oR_gph {ns : List Nd} (hg : OrdOk ns) : Gph ns.length (oR ns) 2000000 := by
  refine ⟨fun u r hr => ?_, fun u r hr => ?_, fun u r hr => ?_⟩
  · obtain ⟨q, y, h1, h2, _⟩ := oR_to hr
    exact ⟨q, h1, (List.getElem?_eq_some_iff.1 h2).1⟩
  · obtain ⟨x, e, hx, hk, he, hr⟩ := oR_mem hr
    have hb := hg.up x (List.mem_of_getElem? hx)
    unfold oBad at hb
    rw [hk, Bool.true_and, List.any_eq_false] at hb
    have := hb r (List.mem_filterMap.2 ⟨e, by unfold oE; exact List.mem_append_left _ he, hr⟩)
    simp only [lowR, decide_eq_true_eq] at this
    omega
  · obtain ⟨x, e, hx, hk, he, hr⟩ := oR_mem hr
    obtain ⟨q, y, o, hw, hy, _, rfl⟩ := rise1_some hr
    have hsm : Small ns := fun z hz => shp_small (hg.sh z hz)
    have he2 := shp_small (hg.sh x (List.mem_of_getElem? hx)) e he
    have hl := hg.le
    have h1 := (wlk_add hsm (d := 0) (by omega) hw (by omega) he2.1 (by omega)).2
    have p1 := shp_prio (hg.sh x (List.mem_of_getElem? hx))
    have p2 := shp_prio (hg.sh y (List.mem_of_getElem? hy))
    dsimp only
    rw [wrapK_i64 (n := y.prio + o) (by omega) (by omega), wrapK_i64 (by omega) (by omega)]
    omega
theorem way_to {ns : List Nd} {s v : Nat} {c : Int} (w : Way (oR ns) s v c) : ∃ y, ns[v]? = some y ∧ actK y.kind = true := by
  cases w with
  | one h =>
    obtain ⟨q, y, h1, h2, h3⟩ := oR_to h
    have : v = q := by dsimp only at h1; omega
    subst this
    exact ⟨y, h2, h3⟩
  | snoc _ h =>
    obtain ⟨q, y, h1, h2, h3⟩ := oR_to h
    have : v = q := by dsimp only at h1; omega
    subst this
    exact ⟨y, h2, h3⟩
end Go.Abs.Tab

/- Order: order.Back is the least way back. -/
set_option linter.unusedVariables false
namespace Go.Abs.Tab
open Go.Gr
/-- the least way back, or none -/
def Back (R : Nat → List (Int × Int)) (s : Nat) (r : Int × Bool) : Prop :=
  (r.2 = true ∧ Way R s s r.1 ∧ ∀ c', Way R s s c' → r.1 ≤ c') ∨ (r = (0, false) ∧ ∀ c', ¬ Way R s s c')
theorem Back.uniq {R : Nat → List (Int × Int)} {s : Nat} {r r' : Int × Bool} (h : Back R s r) (h' : Back R s r') : r = r' := by
  obtain ⟨a, b⟩ := r
  obtain ⟨a', b'⟩ := r'
  rcases h with ⟨h1, h2, h3⟩ | ⟨h1, h2⟩ <;> rcases h' with ⟨k1, k2, k3⟩ | ⟨k1, k2⟩
  · dsimp only at *
    subst h1 k1
    have := h3 _ k2
    have := k3 _ h2
    rw [show a = a' by omega]
  · exact absurd h2 (k2 _)
  · exact absurd k2 (h2 _)
  · rw [h1, k1]
def Fin64 (R : Nat → List (Int × Int)) (s : Nat) (e : Ex) (fr : PT) : Prop :=
  (e = .ret ∧ ∃ c, fr.get 4 = iv c ∧ fr.get 5 = bv true ∧ Back R s (c, true)) ∨ (e = .exit 0 ∧ Back R s (0, false))
theorem kill_fn126 {m : Nat} (hm : 5 ≤ m) : kill m (.fn 126 [.ptr 0 0 0, .ptr 3 0 0, .ptr 4 0 0]) = .fn 126 [.ptr 0 0 0, .ptr 3 0 0, .ptr 4 0 0] := by
  show (if ([.ptr 0 0 0, .ptr 3 0 0, .ptr 4 0 0] : List AV).all (fun x => match x with | .ptr b _ _ => decide (b < m) | _ => false) = true then AV.fn 126 [.ptr 0 0 0, .ptr 3 0 0, .ptr 4 0 0] else .dead) = _
  rw [if_pos]
  simp only [List.all_cons, List.all_nil, Bool.and_true, Bool.and_eq_true, decide_eq_true_eq]
  omega
theorem Kle {n : Nat} (hn : n ≤ 64) (u : Nat) : (2000000 : Int) * ((n : Int) + 1 - (u : Int)) < 2 ^ 62 := by
  have : (n : Int) + 1 - (u : Int) ≤ 65 := by omega
  omega
theorem loop64_1 {ns : List Nd} {a : AV} (hns : NsOk ns a) (hg : OrdOk ns) {s : Nat} (hs : s < ns.length) {m : Nat} (hm : 5 ≤ m) :
    ∀ (d : Nat) (fr : PT) (G : Hp) (op st : MI) (dd : Nat → Int), uns ns.length st ≤ d → G.length = m → DFr fr a s → B64 G a op st → Dij ns.length (oR ns) s (2000000 * ((ns.length : Int) + 1 - (uns ns.length st : Int))) (Src s st dd) op st dd →
    ∃ e fr' G', D.loop 0 64 81 l64_1 fr G = some (e, fr', G') ∧ Fin64 (oR ns) s e fr'
  | 0, fr, G, op, st, dd, hd, hG, F, B, I => by
    have := uns_pos I.ns hs
    omega
  | d + 1, fr, G, op, st, dd, hd, hG, F, B, I => by
    have hgr := oR_gph hg
    by_cases hop : op = []
    · subst hop
      have hlen : (mEs []).length = 0 := rfl
      rw [dl64_1]
      simp -implicitDefEqProofs (maxDischargeDepth := 4) only [go_sem, F.f9, B.g1, B.g3, hlen]
      refine ⟨_, _, _, rfl, .inr ⟨rfl, .inr ⟨rfl, fun c' w => ?_⟩⟩⟩
      rcases I.low hgr w with ⟨h, _⟩ | ⟨u, c, h, _⟩
      · exact I.ns h
      · cases h
    · obtain ⟨k0, c0, hk0⟩ := mGet_ne_nil hop
      obtain ⟨q0, rfl, hq0, _⟩ := I.o k0 c0 hk0
      have hP := pick_ok op ns.length 0 (-1, 0)
      have hp0 := hP.a q0 c0 (Nat.zero_le _) (by omega) hk0
      obtain ⟨j, hj1, hj2⟩ : ∃ j : Nat, (pick op ns.length 0 (-1, 0)).1 = j ∧ mGet j op = some (pick op ns.length 0 (-1, 0)).2 := by
        rcases hP.c with h | ⟨j, h1, _, _, h4⟩
        · rw [h] at hp0; exact absurd hp0.1 (by decide)
        · exact ⟨j, h1, h4⟩
      have hmin : ∀ u c', mGet u op = some c' → (pick op ns.length 0 (-1, 0)).2 ≤ c' := fun u c' hu => by
        obtain ⟨q, rfl, hq, _⟩ := I.o u c' hu
        exact (hP.a q c' (Nat.zero_le _) (by omega) hu).2
      obtain ⟨fr1, e1, F1⟩ : ∃ fr1 : PT, ex cx D 0 64 81 (.seq (.region 8 g64_8 false) (.cond (.tmp 39) .skip (.exit 0))) fr G = some (.normal, fr1, G) ∧ DFr fr1 a s := by
        have hlen : (0 : Int) < ((mEs op).length : Int) := by
          rw [mEs_length]
          have : 0 < op.length := List.length_pos_iff.2 hop
          omega
        simp -implicitDefEqProofs (maxDischargeDepth := 4) only [go_sem, F.f9, B.g1, B.g3, hlen]
        refine ⟨_, rfl, F.of fun t ht => ?_⟩
        rcases ht with rfl | rfl | rfl | rfl | rfl <;> simp -implicitDefEqProofs (maxDischargeDepth := 4) only [go_sem]
      obtain ⟨fr2, e2, F2, k41, k42, k12, k13⟩ : ∃ fr2 : PT, ex cx D 0 64 81 (.seq (.region 9 g64_9 false) (.region 10 g64_10 false)) fr1 G = some (.normal, fr2, G) ∧ DFr fr2 a s ∧ fr2.get 41 = iv ns.length ∧ fr2.get 42 = iv (0 : Nat) ∧ fr2.get 12 = iv (-1) ∧ fr2.get 13 = iv 0 := by
        simp -implicitDefEqProofs (maxDischargeDepth := 4) only [go_sem, F1.f0, hns.sl.shr, hns.sl.notOwn, alen_sl hns.sl, List.length_map]
        refine ⟨_, rfl, F1.of fun t ht => ?_, by simp -implicitDefEqProofs (maxDischargeDepth := 4) only [go_sem], by simp -implicitDefEqProofs (maxDischargeDepth := 4) only [go_sem]; rfl, by simp -implicitDefEqProofs (maxDischargeDepth := 4) only [go_sem], by simp -implicitDefEqProofs (maxDischargeDepth := 4) only [go_sem]⟩
        rcases ht with rfl | rfl | rfl | rfl | rfl <;> simp -implicitDefEqProofs (maxDischargeDepth := 4) only [go_sem]
      obtain ⟨fr3, e3, F3, l12, l13⟩ := loop64_0 hg.le B ns.length 0 fr2 (-1, 0) (Nat.sub_zero _) (Nat.zero_le _) F2 k41 k42 k12 k13
      rw [hj1] at l12
      generalize (pick op ns.length 0 (-1, 0)).2 = least at *
      obtain ⟨_, _, p9, p10⟩ := x_split e2
      have eL : ex cx D 0 64 81 (.block 2 (.loop l64_0)) fr2 G = some (.normal, fr3, G) := by rw [x_block, x_loop, e3]; rfl
      obtain ⟨qj, hqj, hjn, hjs, wj, cj1, cjK⟩ := I.o j least hj2
      obtain rfl : j = qj := by omega
      by_cases hjs' : j = s
      · subst hjs'
        obtain ⟨fr4, e4, r4, r5⟩ : ∃ fr4 : PT, ex cx D 0 64 81 (.seq (.region 17 g64_17 false) (.cond (.tmp 67) (.seq (.region 18 g64_18 false) .ret) .skip)) fr3 G = some (.ret, fr4, G) ∧ fr4.get 4 = iv least ∧ fr4.get 5 = bv true := by
          simp -implicitDefEqProofs (maxDischargeDepth := 4) only [go_sem, F3.f1, l12, l13]
          exact ⟨_, rfl, by simp -implicitDefEqProofs (maxDischargeDepth := 4) only [go_sem], by simp -implicitDefEqProofs (maxDischargeDepth := 4) only [go_sem]⟩
        refine ⟨.ret, fr4, G, ?_, .inl ⟨rfl, least, r4, r5, .inl ⟨rfl, wj, fun c' w => ?_⟩⟩⟩
        · rw [dl64_1, x_cont1 e1, x_block, x_cont1 p9, x_assoc, x_cont1 p10, x_cont1 eL, x_seq, e4]
          rfl
        · rcases I.low hgr w with ⟨h, _⟩ | ⟨u, c, h, h'⟩
          · exact absurd h I.ns
          · exact Int.le_trans (hmin u c h) h'
      · obtain ⟨y, hy, hyk⟩ := way_to wj
        have hyl := shp_len (hg.sh y (List.mem_of_getElem? hy))
        have hst0 : (mGet j st).getD 0 = 0 := by unfold Stl at hjs; omega
        have hne : ¬ (j : Int) = (s : Int) := by omega
        obtain ⟨fr4, e4, F4, m12, m13⟩ : ∃ fr4 : PT, ex cx D 0 64 81 (.seq (.region 17 g64_17 false) (.cond (.tmp 67) (.seq (.region 18 g64_18 false) .ret) .skip)) fr3 G = some (.normal, fr4, G) ∧ DFr fr4 a s ∧ fr4.get 12 = iv j ∧ fr4.get 13 = iv least := by
          simp -implicitDefEqProofs (maxDischargeDepth := 4) only [go_sem, F3.f1, l12, l13, hne]
          refine ⟨_, rfl, F3.of fun t ht => ?_, by simp -implicitDefEqProofs (maxDischargeDepth := 4) only [go_sem, l12], by simp -implicitDefEqProofs (maxDischargeDepth := 4) only [go_sem, l13]⟩
          rcases ht with rfl | rfl | rfl | rfl | rfl <;> simp -implicitDefEqProofs (maxDischargeDepth := 4) only [go_sem]
        have B1 := B.op (mDel j op)
        obtain ⟨fr5, e5, F5, n12, n13⟩ : ∃ fr5 : PT, ex cx D 0 64 81 (.region 19 g64_19 false) fr4 G = some (.normal, fr5, G.set 1 (.mapo (mEs (mDel j op)))) ∧ DFr fr5 a s ∧ fr5.get 12 = iv j ∧ fr5.get 13 = iv least := by
          simp -implicitDefEqProofs (maxDischargeDepth := 4) only [go_sem, F4.f9, m12, B.g1, B.g3, Nat.not_lt_zero]
          refine ⟨_, rfl, F4.of fun t ht => ?_, by simp -implicitDefEqProofs (maxDischargeDepth := 4) only [go_sem, m12], by simp -implicitDefEqProofs (maxDischargeDepth := 4) only [go_sem, m13]⟩
          rcases ht with rfl | rfl | rfl | rfl | rfl <;> simp -implicitDefEqProofs (maxDischargeDepth := 4) only [go_sem]
        generalize hG1 : G.set 1 (.mapo (mEs (mDel j op))) = G1 at e5 B1
        have hl1 : G1.length = m := by rw [← hG1, List.length_set, hG]
        obtain ⟨fr6, e6, F6, o12, o13⟩ : ∃ fr6 : PT, ex cx D 0 64 81 (.seq (.region 20 g64_20 false) (.cond (.tmp 74) (.exit 1) .skip)) fr5 G1 = some (.normal, fr6, G1) ∧ DFr fr6 a s ∧ fr6.get 12 = iv j ∧ fr6.get 13 = iv least := by
          simp -implicitDefEqProofs (maxDischargeDepth := 4) only [go_sem, F5.f10, n12, B1.g2, B1.g4, hst0]
          refine ⟨_, rfl, F5.of fun t ht => ?_, by simp -implicitDefEqProofs (maxDischargeDepth := 4) only [go_sem, n12], by simp -implicitDefEqProofs (maxDischargeDepth := 4) only [go_sem, n13]⟩
          rcases ht with rfl | rfl | rfl | rfl | rfl <;> simp -implicitDefEqProofs (maxDischargeDepth := 4) only [go_sem]
        have B2 := B1.st (mSet j 1 st)
        obtain ⟨fr7, e7, F7, q12, q13⟩ : ∃ fr7 : PT, ex cx D 0 64 81 (.region 21 g64_21 false) fr6 G1 = some (.normal, fr7, G1.set 2 (.mapo (mEs (mSet j 1 st)))) ∧ DFr fr7 a s ∧ fr7.get 12 = iv j ∧ fr7.get 13 = iv least := by
          simp -implicitDefEqProofs (maxDischargeDepth := 4) only [go_sem, F6.f10, o12, B1.g2, B1.g4, Nat.not_lt_zero]
          refine ⟨_, rfl, F6.of fun t ht => ?_, by simp -implicitDefEqProofs (maxDischargeDepth := 4) only [go_sem, o12], by simp -implicitDefEqProofs (maxDischargeDepth := 4) only [go_sem, o13]⟩
          rcases ht with rfl | rfl | rfl | rfl | rfl <;> simp -implicitDefEqProofs (maxDischargeDepth := 4) only [go_sem]
        generalize hG2 : G1.set 2 (.mapo (mEs (mSet j 1 st))) = G2 at e7 B2
        have hl2 : G2.length = m := by rw [← hG2, List.length_set, hl1]
        obtain ⟨G3, hcall, B3, hl3⟩ := reach_call hns hy (Nat.le_trans hyl (by decide)) B2 least
        obtain ⟨fr8, e8, F8⟩ : ∃ fr8 : PT, ex cx D 0 64 81 (.region 22 g64_22 false) fr7 G2 = some (.normal, fr8, G3) ∧ DFr fr8 a s := by
          simp -implicitDefEqProofs (maxDischargeDepth := 4) only [go_sem, F7.f11, q12, q13, hcall]
          refine ⟨_, rfl, F7.of fun t ht => ?_⟩
          rcases ht with rfl | rfl | rfl | rfl | rfl <;> simp -implicitDefEqProofs (maxDischargeDepth := 4) only [go_sem]
        have hu := uns_settle st hjs ns.length hjn
        have hK : (2000000 : Int) * ((ns.length : Int) + 1 - (uns ns.length st : Int)) + 2000000 = 2000000 * ((ns.length : Int) + 1 - (uns ns.length (mSet j 1 st) : Int)) := by omega
        have I1 := (I.settle hgr hj2 hjs' hmin).mono (K' := 2000000 * ((ns.length : Int) + 1 - (uns ns.length (mSet j 1 st) : Int))) (fun _ _ h => h) (by omega)
        have I2 := I1.reach hgr (u := j) (so := least) (by omega) (by omega) (Kle hg.le _) (fun x hx => by
            obtain ⟨q, hq, _⟩ := hgr.to j x hx
            rw [hq, Int.toNat_natCast]
            exact .snoc wj (by rw [← hq]; exact hx)) (fun v hv => by
            by_cases e : v = j
            · rw [if_pos e]; exact Int.le_refl _
            · rw [if_neg e]
              exact I.m v ((stl_set_ne (by omega) st).1 hv) j least hj2)
        rw [oR_act hy hyk] at I2
        have I3 := I2.mono (A' := Src s (mSet j 1 st) (fun u => if u = j then least else dd u)) (fun u du h => by
            rcases h with h | ⟨h1, h2⟩
            · exact .inl (.inl h)
            · dsimp only at h2
              by_cases e : u = j
              · rw [if_pos e] at h2
                exact .inr ⟨e, h2⟩
              · rw [if_neg e] at h2
                exact .inl (.inr ⟨(stl_set_ne (by omega) st).1 h1, h2⟩)) (Int.le_refl _)
        have eb : ex cx D 0 64 81 (.block 1 (.seq (.region 9 g64_9 false) (.seq (.seq (.region 10 g64_10 false) (.block 2 (.loop l64_0))) (.seq (.seq (.region 17 g64_17 false) (.cond (.tmp 67) (.seq (.region 18 g64_18 false) .ret) .skip)) (.seq (.region 19 g64_19 false) (.seq (.seq (.region 20 g64_20 false) (.cond (.tmp 74) (.exit 1) .skip)) (.seq (.region 21 g64_21 false) (.region 22 g64_22 false)))))))) fr1 G = some (.normal, fr8, G3) := by
          rw [x_block, x_cont1 p9, x_assoc, x_cont1 p10, x_cont1 eL, x_cont1 e4, x_cont1 e5, x_cont1 e6, x_cont1 e7, e8]
          rfl
        rw [dl64_1, x_cont1 e1, eb, xbind_some, contR_normal, hG]
        refine trim_I (P := fun z => ∃ e fr' G', z = some (e, fr', G') ∧ Fin64 (oR ns) s e fr') (I := fun G => B64 G a _ _) (fun h hh => h.trim hns.sl hm) B3 [0, 1, 9, 10, 11] (by omega) (fun t ht => ?_) fun fr' G' hG' hB' hf hk' => ?_
        · simp only [List.mem_cons, List.not_mem_nil, or_false] at ht
          rcases ht with rfl | rfl | rfl | rfl | rfl
          · rw [F8.f0, kill_Sl hns.sl]
          · rw [F8.f1]; rfl
          · rw [F8.f9, kill_ptr (by omega)]
          · rw [F8.f10, kill_ptr (by omega)]
          · rw [F8.f11, kill_fn126 hm]
        · exact loop64_1 hns hg hs hm d fr' G' _ _ _ (by omega) hG' ⟨by rw [hf 0 (by simp), F8.f0], by rw [hf 1 (by simp), F8.f1], by rw [hf 9 (by simp), F8.f9], by rw [hf 10 (by simp), F8.f10], by rw [hf 11 (by simp), F8.f11]⟩ hB' I3
end Go.Abs.Tab

/- Order: order.Back, called. -/
set_option linter.unusedVariables false
namespace Go.Abs.Tab
open Go.Gr
def BackAt (ns : List Nd) (i : Int) (r : Int × Bool) : Prop := if (ordC ns).2 = 0 ∧ actN ns i = true then Back (oR ns) i.toNat r else r = (0, false)
theorem BackAt.uniq {ns : List Nd} {i : Int} {r r' : Int × Bool} (h : BackAt ns i r) (h' : BackAt ns i r') : r = r' := by
  unfold BackAt at h h'
  split at h
  · rename_i hc
    rw [if_pos hc] at h'
    exact h.uniq h'
  · rename_i hc
    rw [if_neg hc] at h'
    rw [h, h']
theorem actN_some {ns : List Nd} {i : Int} (h : actN ns i = true) : ∃ (s : Nat) (x : Nd), i = s ∧ ns[s]? = some x ∧ actK x.kind = true := by
  unfold actN at h
  rcases atN_cases (ns := ns) i with ⟨ha, _⟩ | ⟨s, x, h1, _, hx, ha⟩
  · rw [ha] at h; cases h
  · rw [ha] at h; exact ⟨s, x, h1, hx, h⟩
theorem back_call {ns : List Nd} {a : AV} (hns : NsOk ns a) (i : Int) : ∃ r H', callB cx D 0 64 [a, iv i] [] = some (jmpV r, H') ∧ BackAt ns i r := by
  have h67 := ord_ok hns
  have h125 := acts_ok hns i
  have ea : elP false 1 a 0 = some a := elP_Sl hns.sl
  unfold errV at h67
  by_cases h0 : (ordC ns).2 = 0
  rotate_left
  · refine ⟨(0, false), ?_⟩
    unfold BackAt
    rw [if_neg (fun h => h0 h.1)]
    generalize (ordC ns).1 = w at h67
    generalize (ordC ns).2 = v at h67 h0
    rw [c64]
    simp -implicitDefEqProofs (maxDischargeDepth := 4) only [go_sem, hns.sl.shr, hns.sl.notOwn, hns.sl.drp, hns.sl.fitA, hns.sl.shut1, h67, h0, Nat.zero_le, Nat.le_refl, Nat.not_lt_zero]
    exact ⟨_, rfl⟩
  · cases hact : actN ns i with
    | false =>
      rw [hact] at h125
      refine ⟨(0, false), ?_⟩
      unfold BackAt
      rw [if_neg (fun h => by rw [hact] at h; cases h.2)]
      rw [h0] at h67
      generalize (ordC ns).1 = w at h67
      rw [c64]
      simp -implicitDefEqProofs (maxDischargeDepth := 4) only [go_sem, hns.sl.shr, hns.sl.notOwn, hns.sl.drp, hns.sl.fitA, hns.sl.shut1, ea, h67, h125, u_not, Nat.zero_le, Nat.le_refl, Nat.not_lt_zero]
      exact ⟨_, rfl⟩
    | true =>
      rw [hact] at h125
      rw [h0] at h67
      generalize (ordC ns).1 = w at h67
      obtain ⟨s, x, rfl, hx, hk⟩ := actN_some hact
      have hg := ord_good h0
      have hs := (List.getElem?_eq_some_iff.1 hx).1
      have hxl := shp_len (hg.sh x (List.mem_of_getElem? hx))
      have hB : ∀ r, BackAt ns s r ↔ Back (oR ns) s r := fun r => by unfold BackAt; rw [if_pos ⟨h0, hact⟩, Int.toNat_natCast]
      have B0 : B64 [.cells 1 212 [a], .mapo (mEs []), .mapo (mEs []), .cells 1 213 [.mp 1], .cells 1 213 [.mp 2]] a [] [] := ⟨rfl, rfl, rfl, rfl, rfl⟩
      obtain ⟨G1, hcall, B1, hl1⟩ := reach_call hns hx (Nat.le_trans hxl (by decide)) B0 0
      have hnil : mEs [] = [] := rfl
      rw [hnil] at hcall
      obtain ⟨fr0, e0, k0, k1⟩ : ∃ fr0 : PT, ex cx D 0 64 81 (.region 0 g64_0 false) ((PT.nil.set 0 (drp a)).set 1 (drp (iv s))) [] = some (.normal, fr0, []) ∧ fr0.get 0 = a ∧ fr0.get 1 = iv s := by
        simp -implicitDefEqProofs (maxDischargeDepth := 4) only [go_sem, hns.sl.drp]
        exact ⟨_, rfl, by simp -implicitDefEqProofs (maxDischargeDepth := 4) only [go_sem, hns.sl.drp], by simp -implicitDefEqProofs (maxDischargeDepth := 4) only [go_sem]⟩
      obtain ⟨fr1, e1, F1⟩ : ∃ fr1 : PT, ex cx D 0 64 81 (.seq (.region 1 g64_1 false) (.seq (.seq (.region 2 g64_2 false) (.seq (.region 3 g64_3 false) (.cond (.tmp 30) (.seq (.region 4 g64_4 false) .ret) .skip))) (.seq (.region 5 g64_5 false) (.seq (.region 6 g64_6 false) (.region 7 g64_7 false))))) fr0 [] = some (.normal, fr1, G1) ∧ DFr fr1 a s := by
        simp -implicitDefEqProofs (maxDischargeDepth := 4) only [go_sem, k0, k1, hns.sl.shr, hns.sl.notOwn, hns.sl.drp, hns.sl.fitA, hns.sl.shut1, ea, h67, h125, u_not, hcall, Nat.zero_le, Nat.le_refl, Nat.not_lt_zero]
        exact ⟨_, rfl, by simp -implicitDefEqProofs (maxDischargeDepth := 4) only [go_sem, k0], by simp -implicitDefEqProofs (maxDischargeDepth := 4) only [go_sem, k1], by simp -implicitDefEqProofs (maxDischargeDepth := 4) only [go_sem], by simp -implicitDefEqProofs (maxDischargeDepth := 4) only [go_sem], by simp -implicitDefEqProofs (maxDischargeDepth := 4) only [go_sem]⟩
      have I0 : Dij ns.length (oR ns) s 2000000 (fun _ _ => False) [] [] (fun _ => 0) :=
        ⟨keys_nil, fun v c h => (by cases h), fun u du h => h.elim, fun u h => absurd rfl h, fun h => h rfl⟩
      have hgr := oR_gph hg
      have I1 := I0.reach hgr (u := s) (so := 0) (Int.le_refl _) (by decide) (by decide) (fun y hy => by
        obtain ⟨q, hq, _⟩ := hgr.to s y hy
        rw [hq, Int.toNat_natCast, Int.zero_add]
        exact .one (by rw [← hq]; exact hy)) (fun v hv => absurd rfl hv)
      rw [oR_act hx hk] at I1
      have I2 := I1.mono (K' := 2000000 * ((ns.length : Int) + 1 - (uns ns.length [] : Int))) (A' := Src s [] (fun _ => 0)) (fun u du h => by
        rcases h with h | ⟨h1, h2⟩
        · exact .inr h
        · exact absurd rfl h1) (by rw [uns_nil]; omega)
      have h5 : 5 ≤ G1.length := by have := lt_of_get B1.g4; omega
      obtain ⟨e, fr2, G2, e2, hfin⟩ := loop64_1 hns hg hs h5 (uns ns.length []) fr1 G1 _ [] (fun _ => 0) (Nat.le_refl _) rfl F1 B1 I2
      obtain ⟨_, _, p1, r⟩ := x_split e1
      obtain ⟨_, _, p2, r⟩ := x_split r
      obtain ⟨_, _, p5, r⟩ := x_split r
      obtain ⟨_, _, p6, p7⟩ := x_split r
      have hlab : ∀ Z, ex cx D 0 64 81 (.seq (.label 0) Z) fr1 G1 = ex cx D 0 64 81 Z fr1 G1 := fun Z => x_cont1 rfl
      rcases hfin with ⟨rfl, c, r4, r5, hb⟩ | ⟨rfl, hb⟩
      · refine ⟨(c, true), G2, ?_, (hB _).2 hb⟩
        rw [c64, x_cont1 e0, x_scope, x_cont1 p1, x_cont1 p2, x_cont1 p5, x_cont1 p6, x_cont1 p7, hlab]
        rw [x_seq, x_block, x_loop, e2]
        simp -implicitDefEqProofs (maxDischargeDepth := 4) only [go_sem, r4, r5]
      · refine ⟨(0, false), G2, ?_, (hB _).2 hb⟩
        have e3 : ex cx D 0 64 81 (.block 0 (.loop l64_1)) fr1 G1 = some (.normal, fr2, G2) := by rw [x_block, x_loop, e2]; rfl
        rw [c64, x_cont1 e0, x_scope, x_cont1 p1, x_cont1 p2, x_cont1 p5, x_cont1 p6, x_cont1 p7, hlab, x_cont1 e3]
        simp -implicitDefEqProofs (maxDischargeDepth := 4) only [go_sem]
theorem back_ok {ns : List Nd} {a : AV} (hns : NsOk ns a) (i : Int) : ∃ r, pcall D 64 [a, iv i] = some (jmpV r) ∧ BackAt ns i r := by
  obtain ⟨r, H', h, hb⟩ := back_call hns i
  refine ⟨r, ?_, hb⟩
  rw [pcall_eq (v := jmpV r) (H' := H') (by rw [List.map_cons, List.map_cons, List.map_nil, hns.sl.cl2]; exact h)]
  rfl
end Go.Abs.Tab

/- Order: the document's Back: values made less, round by round, come to the least way back (a plain law). -/
set_option linter.unusedVariables false
namespace Go.Abs.Tab
open Go.Gr
def gi (ls : List Int) (v : Nat) : Int := ls.getD v 0
theorem gi_set {ls : List Int} {v : Nat} {x : Int} {w : Nat} (h : v < ls.length) : gi (ls.set v x) w = if v = w then x else gi ls w := by
  unfold gi
  simp only [List.getD_eq_getElem?_getD, List.getElem?_set]
  by_cases e : v = w
  · subst e; simp [h]
  · simp [e]
def rlx (so : Int) (ls : List Int) (x : Int × Int) : List Int :=
  if gi ls x.1.toNat < 0 ∨ wrapK .i64 (so + x.2) < gi ls x.1.toNat then ls.set x.1.toNat (wrapK .i64 (so + x.2)) else ls
def bfI (R : Nat → List (Int × Int)) (s : Nat) (ls : List Int) (i : Nat) : List Int :=
  if i ≠ s ∧ gi ls i < 0 then ls else (R i).foldl (rlx (if i = s then 0 else gi ls i)) ls
def bfF (R : Nat → List (Int × Int)) (s : Nat) : Nat → Nat → List Int → List Int
  | 0, _, ls => ls
  | d + 1, i, ls => bfF R s d (i + 1) (bfI R s ls i)
def bfR (R : Nat → List (Int × Int)) (s n : Nat) : Nat → List Int → List Int
  | 0, ls => ls
  | r + 1, ls => bfR R s n r (bfF R s n 0 ls)
structure Snd (n : Nat) (R : Nat → List (Int × Int)) (s : Nat) (K : Int) (ls : List Int) : Prop where
  len : ls.length = n
  val : ∀ v, v < n → gi ls v = -1 ∨ (1 ≤ gi ls v ∧ gi ls v ≤ K ∧ Way R s v (gi ls v))
theorem Snd.mono {n : Nat} {R : Nat → List (Int × Int)} {s : Nat} {K K' : Int} {ls : List Int} (h : Snd n R s K ls) (hK : K ≤ K') : Snd n R s K' ls :=
  ⟨h.len, fun v hv => by
    rcases h.val v hv with h1 | ⟨h1, h2, h3⟩
    · exact .inl h1
    · exact .inr ⟨h1, Int.le_trans h2 hK, h3⟩⟩
def Dn (ls ls' : List Int) : Prop := ∀ v, 0 ≤ gi ls v → 0 ≤ gi ls' v ∧ gi ls' v ≤ gi ls v
theorem Dn.refl (ls : List Int) : Dn ls ls := fun v h => ⟨h, Int.le_refl _⟩
theorem Dn.trans {a b c : List Int} (h : Dn a b) (k : Dn b c) : Dn a c := fun v hv => by
  have h1 := h v hv
  have h2 := k v h1.1
  exact ⟨h2.1, Int.le_trans h2.2 h1.2⟩
def Tgt (n : Nat) (R : Nat → List (Int × Int)) (s : Nat) (so : Int) (x : Int × Int) : Prop := ∃ q : Nat, x.1 = q ∧ q < n ∧ 1 ≤ x.2 ∧ x.2 ≤ 2000000 ∧ Way R s q (so + x.2)
theorem rlx_ok {n : Nat} {R : Nat → List (Int × Int)} {s : Nat} {K so : Int} {ls : List Int} {x : Int × Int} (h : Snd n R s K ls) (h0 : 0 ≤ so) (h1 : so + 2000000 ≤ K) (hK : K < 2 ^ 62) (ht : Tgt n R s so x) :
    Snd n R s K (rlx so ls x) ∧ Dn ls (rlx so ls x) ∧ 0 ≤ gi (rlx so ls x) x.1.toNat ∧ gi (rlx so ls x) x.1.toNat ≤ so + x.2 := by
  obtain ⟨q, hq, hqn, hx1, hx2, hw⟩ := ht
  have hwr : wrapK .i64 (so + x.2) = so + x.2 := wrapK_i64 (by omega) (by omega)
  unfold rlx
  rw [hwr, hq, Int.toNat_natCast]
  have hl : q < ls.length := by rw [h.len]; exact hqn
  split
  · rename_i hc
    refine ⟨⟨by rw [List.length_set, h.len], fun v hv => ?_⟩, fun v hv => ?_, ?_⟩
    · rw [gi_set hl]
      by_cases e : q = v
      · rw [if_pos e]
        subst e
        exact .inr ⟨by omega, by omega, hw⟩
      · rw [if_neg e]
        exact h.val v hv
    · rw [gi_set hl]
      by_cases e : q = v
      · rw [if_pos e]
        subst e
        omega
      · rw [if_neg e]
        exact ⟨hv, Int.le_refl _⟩
    · rw [gi_set hl, if_pos rfl]
      omega
  · rename_i hc
    exact ⟨h, Dn.refl _, by omega⟩
theorem rlxs_ok {n : Nat} {R : Nat → List (Int × Int)} {s : Nat} {K so : Int} (h0 : 0 ≤ so) (h1 : so + 2000000 ≤ K) (hK : K < 2 ^ 62) : ∀ (l : List (Int × Int)) (ls : List Int), Snd n R s K ls → (∀ x ∈ l, Tgt n R s so x) →
    Snd n R s K (l.foldl (rlx so) ls) ∧ Dn ls (l.foldl (rlx so) ls) ∧ ∀ x ∈ l, 0 ≤ gi (l.foldl (rlx so) ls) x.1.toNat ∧ gi (l.foldl (rlx so) ls) x.1.toNat ≤ so + x.2
  | [], ls, h, _ => ⟨h, Dn.refl _, fun x hx => by cases hx⟩
  | x :: l, ls, h, ht => by
    obtain ⟨a1, a2, a3⟩ := rlx_ok h h0 h1 hK (ht x (List.mem_cons_self ..))
    obtain ⟨b1, b2, b3⟩ := rlxs_ok h0 h1 hK l (rlx so ls x) a1 (fun y hy => ht y (List.mem_cons_of_mem _ hy))
    rw [List.foldl_cons]
    refine ⟨b1, a2.trans b2, fun y hy => ?_⟩
    rcases List.mem_cons.1 hy with rfl | hy
    · have := b2 _ a3.1
      exact ⟨this.1, Int.le_trans this.2 a3.2⟩
    · exact b3 y hy
def Cov (ls ls' : List Int) (R : Nat → List (Int × Int)) (s u : Nat) : Prop :=
  ∀ x ∈ R u, ∀ c, (u = s ∧ 0 ≤ c ∨ (0 ≤ gi ls u ∧ gi ls u ≤ c)) → 0 ≤ gi ls' x.1.toNat ∧ gi ls' x.1.toNat ≤ c + x.2
theorem Cov.dn {ls0 ls ls' ls2 : List Int} {R : Nat → List (Int × Int)} {s u : Nat} (h : Cov ls ls' R s u) (h0 : Dn ls0 ls) (h1 : Dn ls' ls2) : Cov ls0 ls2 R s u := fun x hx c hc => by
  have := h x hx c (by
    rcases hc with hc | ⟨h2, h3⟩
    · exact .inl hc
    · have := h0 u h2
      exact .inr ⟨this.1, Int.le_trans this.2 h3⟩)
  have h2 := h1 _ this.1
  exact ⟨h2.1, Int.le_trans h2.2 this.2⟩
theorem bfI_ok {n : Nat} {R : Nat → List (Int × Int)} {s : Nat} (G : Gph n R 2000000) {K : Int} {ls : List Int} (h : Snd n R s K ls) (hK0 : 0 ≤ K) (hK : K + 2000000 < 2 ^ 62) {i : Nat} (hi : i < n) :
    Snd n R s (K + 2000000) (bfI R s ls i) ∧ Dn ls (bfI R s ls i) ∧ Cov ls (bfI R s ls i) R s i := by
  unfold bfI
  split
  · rename_i hc
    exact ⟨h.mono (by omega), Dn.refl _, fun x hx c hc' => by omega⟩
  · rename_i hc
    by_cases e : i = s
    · rw [if_pos e]
      obtain ⟨a1, a2, a3⟩ := rlxs_ok (so := 0) (K := K + 2000000) (Int.le_refl _) (by omega) hK (R i) ls (h.mono (by omega)) (fun x hx => by
        obtain ⟨q, h1, h2⟩ := G.to i x hx
        refine ⟨q, h1, h2, G.lo i x hx, G.hi i x hx, ?_⟩
        rw [Int.zero_add]
        exact .one (by rw [← h1, ← e]; exact hx))
      refine ⟨a1, a2, fun x hx c hc' => ?_⟩
      have := a3 x hx
      rcases hc' with h1 | h1 <;> omega
    · rw [if_neg e]
      have hp : 0 ≤ gi ls i := by
        have : ¬ gi ls i < 0 := fun hh => hc ⟨e, hh⟩
        omega
      rcases h.val i hi with h1 | ⟨h1, h2, h3⟩
      · omega
      · obtain ⟨a1, a2, a3⟩ := rlxs_ok (so := gi ls i) (K := K + 2000000) hp (by omega) hK (R i) ls (h.mono (by omega)) (fun x hx => by
          obtain ⟨q, k1, k2⟩ := G.to i x hx
          exact ⟨q, k1, k2, G.lo i x hx, G.hi i x hx, .snoc h3 (by rw [← k1]; exact hx)⟩)
        refine ⟨a1, a2, fun x hx c hc' => ?_⟩
        have := a3 x hx
        rcases hc' with h1 | h1 <;> omega
theorem bfF_ok {n : Nat} {R : Nat → List (Int × Int)} {s : Nat} (G : Gph n R 2000000) : ∀ (d i : Nat) (K : Int) (ls : List Int), Snd n R s K ls → 0 ≤ K → K + 2000000 * (d : Int) < 2 ^ 62 → d + i = n →
    Snd n R s (K + 2000000 * (d : Int)) (bfF R s d i ls) ∧ Dn ls (bfF R s d i ls) ∧ ∀ u, i ≤ u → u < n → Cov ls (bfF R s d i ls) R s u
  | 0, i, K, ls, h, hK0, hK, hd => ⟨h.mono (by omega), Dn.refl _, fun u h1 h2 => by omega⟩
  | d + 1, i, K, ls, h, hK0, hK, hd => by
    obtain ⟨a1, a2, a3⟩ := bfI_ok G h hK0 (by omega) (show i < n by omega)
    obtain ⟨b1, b2, b3⟩ := bfF_ok G d (i + 1) (K + 2000000) (bfI R s ls i) a1 (by omega) (by omega) (by omega)
    refine ⟨b1.mono (by omega), a2.trans b2, fun u h1 h2 => ?_⟩
    show Cov ls (bfF R s d (i + 1) (bfI R s ls i)) R s u
    by_cases e : u = i
    · subst e
      exact a3.dn (Dn.refl _) b2
    · exact (b3 u (by omega) h2).dn a2 (Dn.refl _)
inductive WayK (R : Nat → List (Int × Int)) (s : Nat) : Nat → Nat → Int → Prop
  | one {v : Nat} {r : Int} : ((v : Int), r) ∈ R s → WayK R s 1 v r
  | snoc {k u v : Nat} {c r : Int} : WayK R s k u c → ((v : Int), r) ∈ R u → WayK R s (k + 1) v (c + r)
def Cmp (R : Nat → List (Int × Int)) (s k : Nat) (ls : List Int) : Prop := ∀ j v c, j ≤ k → WayK R s j v c → 0 ≤ gi ls v ∧ gi ls v ≤ c
theorem wayK_pos {R : Nat → List (Int × Int)} {s j v : Nat} {c : Int} (w : WayK R s j v c) : 1 ≤ j := by
  cases w <;> omega
theorem wayK_lt {n : Nat} {R : Nat → List (Int × Int)} {M : Int} (G : Gph n R M) {s j v : Nat} {c : Int} (w : WayK R s j v c) : v < n := by
  cases w with
  | one h => obtain ⟨q, h1, h2⟩ := G.to _ _ h; dsimp only at h1; omega
  | snoc _ h => obtain ⟨q, h1, h2⟩ := G.to _ _ h; dsimp only at h1; omega
theorem bfR_step {n : Nat} {R : Nat → List (Int × Int)} {s : Nat} (G : Gph n R 2000000) (hs : s < n) {k : Nat} {ls ls' : List Int} (hc : Cmp R s k ls) (hv : ∀ u, u < n → Cov ls ls' R s u) : Cmp R s (k + 1) ls' := fun j v c hj w => by
  cases w with
  | one h =>
    have := hv s hs _ h 0 (.inl ⟨rfl, Int.le_refl _⟩)
    rw [Int.toNat_natCast, Int.zero_add] at this
    exact this
  | @snoc j' u _ c' r w h =>
    have := hv u (wayK_lt G w) _ h c' (.inr (hc j' u c' (by omega) w))
    rw [Int.toNat_natCast] at this
    exact this
theorem bfR_ok {n : Nat} {R : Nat → List (Int × Int)} {s : Nat} (G : Gph n R 2000000) (hn : n ≤ 64) (hs : s < n) : ∀ (r k : Nat) (K : Int) (ls : List Int), Snd n R s K ls → 0 ≤ K → K + 128000000 * (r : Int) < 2 ^ 62 → Cmp R s k ls →
    Snd n R s (K + 128000000 * (r : Int)) (bfR R s n r ls) ∧ Cmp R s (k + r) (bfR R s n r ls)
  | 0, k, K, ls, h, hK0, hK, hc => ⟨h.mono (by omega), hc⟩
  | r + 1, k, K, ls, h, hK0, hK, hc => by
    obtain ⟨a1, a2, a3⟩ := bfF_ok G n 0 K ls h hK0 (by omega) rfl
    have a4 := bfR_step G hs hc (fun u hu => a3 u (Nat.zero_le _) hu)
    obtain ⟨b1, b2⟩ := bfR_ok G hn hs r (k + 1) (K + 128000000) (bfF R s n 0 ls) (a1.mono (by omega)) (by omega) (by omega) a4
    refine ⟨b1.mono (by omega), ?_⟩
    rw [show k + (r + 1) = k + 1 + r by omega]
    exact b2
/-! ways are cut short -/
structure Trc (R : Nat → List (Int × Int)) (s k : Nat) (f : Nat → Nat) (g : Nat → Int) : Prop where
  f0 : f 0 = s
  g0 : g 0 = 0
  st : ∀ i, i < k → (((f (i + 1) : Nat) : Int), g (i + 1) - g i) ∈ R (f i)
theorem way_trc {R : Nat → List (Int × Int)} {s v : Nat} {c : Int} (w : Way R s v c) : ∃ k f g, Trc R s (k + 1) f g ∧ f (k + 1) = v ∧ g (k + 1) = c := by
  induction w with
  | @one v r h =>
    refine ⟨0, fun i => if i = 0 then s else v, fun i => if i = 0 then 0 else r, ⟨rfl, rfl, fun i hi => ?_⟩, rfl, rfl⟩
    have : i = 0 := by omega
    subst this
    simpa using h
  | @snoc u v c r w h ih =>
    obtain ⟨k, f, g, T, h1, h2⟩ := ih
    refine ⟨k + 1, fun i => if i ≤ k + 1 then f i else v, fun i => if i ≤ k + 1 then g i else c + r, ⟨?_, ?_, fun i hi => ?_⟩, ?_, ?_⟩
    · rw [if_pos (Nat.zero_le _), T.f0]
    · rw [if_pos (Nat.zero_le _), T.g0]
    · by_cases e : i = k + 1
      · subst e
        have a1 : ¬ k + 1 + 1 ≤ k + 1 := by omega
        show (((if k + 1 + 1 ≤ k + 1 then f (k + 1 + 1) else v : Nat) : Int), (if k + 1 + 1 ≤ k + 1 then g (k + 1 + 1) else c + r) - (if k + 1 ≤ k + 1 then g (k + 1) else c + r)) ∈ R (if k + 1 ≤ k + 1 then f (k + 1) else v)
        rw [if_neg a1, if_neg a1, if_pos (Nat.le_refl _), if_pos (Nat.le_refl _), h1, h2, show c + r - c = r by omega]
        exact h
      · have a1 : i + 1 ≤ k + 1 := by omega
        have a2 : i ≤ k + 1 := by omega
        show (((if i + 1 ≤ k + 1 then f (i + 1) else v : Nat) : Int), (if i + 1 ≤ k + 1 then g (i + 1) else c + r) - (if i ≤ k + 1 then g i else c + r)) ∈ R (if i ≤ k + 1 then f i else v)
        rw [if_pos a1, if_pos a1, if_pos a2, if_pos a2]
        exact T.st i (by omega)
    · exact if_neg (by omega)
    · exact if_neg (by omega)
theorem trc_wayK {R : Nat → List (Int × Int)} {s k : Nat} {f : Nat → Nat} {g : Nat → Int} (T : Trc R s k f g) : ∀ i, i + 1 ≤ k → WayK R s (i + 1) (f (i + 1)) (g (i + 1))
  | 0, hi => by
    have := T.st 0 (by omega)
    rw [T.f0, T.g0, Int.sub_zero] at this
    exact .one this
  | i + 1, hi => by
    have h1 := trc_wayK T i (by omega)
    have h2 := T.st (i + 1) (by omega)
    have := WayK.snoc h1 h2
    rw [show g (i + 1) + (g (i + 1 + 1) - g (i + 1)) = g (i + 1 + 1) by omega] at this
    exact this
theorem trc_mono {n : Nat} {R : Nat → List (Int × Int)} {M : Int} (G : Gph n R M) {s k : Nat} {f : Nat → Nat} {g : Nat → Int} (T : Trc R s k f g) (i : Nat) : ∀ d, i + d ≤ k → g i ≤ g (i + d)
  | 0, _ => Int.le_refl _
  | d + 1, h => by
    have h1 := trc_mono G T i d (by omega)
    have h2 := G.lo _ _ (T.st (i + d) (by omega))
    dsimp only at h2
    rw [show i + (d + 1) = i + d + 1 by omega]
    omega
theorem trc_cut {n : Nat} {R : Nat → List (Int × Int)} {M : Int} (G : Gph n R M) {s : Nat} : ∀ (m k : Nat) (f : Nat → Nat) (g : Nat → Int), k ≤ m → Trc R s (k + 1) f g → ∃ k' f' g', k' + 1 ≤ n ∧ Trc R s (k' + 1) f' g' ∧ f' (k' + 1) = f (k + 1) ∧ g' (k' + 1) ≤ g (k + 1)
  | m, k, f, g, hm, T => by
    by_cases hk : k + 1 ≤ n
    · exact ⟨k, f, g, hk, T, rfl, Int.le_refl _⟩
    · obtain ⟨i, j, hij, hj, e⟩ := pigeon n (fun i => f (i + 1)) fun i hi => by
        obtain ⟨q, h1, h2⟩ := G.to _ _ (T.st i (by omega))
        dsimp only at h1 ⊢
        omega
      have e := e
      obtain ⟨δ, rfl⟩ : ∃ δ, j = i + (δ + 1) := ⟨j - i - 1, by omega⟩
      obtain ⟨k2, rfl⟩ : ∃ k2, k = k2 + (δ + 1) := ⟨k - (δ + 1), by omega⟩
      have hc := trc_mono G T (i + 1) (δ + 1) (by omega)
      have ej : i + (δ + 1) + 1 = i + 1 + (δ + 1) := by omega
      rw [ej] at e
      have T2 : Trc R s (k2 + 1) (fun t => if t ≤ i + 1 then f t else f (t + (δ + 1))) (fun t => if t ≤ i + 1 then g t else g (t + (δ + 1)) - (g (i + 1 + (δ + 1)) - g (i + 1))) := by
        refine ⟨?_, ?_, fun t ht => ?_⟩
        · rw [if_pos (Nat.zero_le _), T.f0]
        · rw [if_pos (Nat.zero_le _), T.g0]
        · show (((if t + 1 ≤ i + 1 then f (t + 1) else f (t + 1 + (δ + 1)) : Nat) : Int), (if t + 1 ≤ i + 1 then g (t + 1) else g (t + 1 + (δ + 1)) - (g (i + 1 + (δ + 1)) - g (i + 1))) - (if t ≤ i + 1 then g t else g (t + (δ + 1)) - (g (i + 1 + (δ + 1)) - g (i + 1)))) ∈ R (if t ≤ i + 1 then f t else f (t + (δ + 1)))
          by_cases h1 : t + 1 ≤ i + 1
          · have h2 : t ≤ i + 1 := by omega
            rw [if_pos h1, if_pos h1, if_pos h2, if_pos h2]
            exact T.st t (by omega)
          · rw [if_neg h1, if_neg h1]
            by_cases h2 : t = i + 1
            · subst h2
              rw [if_pos (Nat.le_refl _), if_pos (Nat.le_refl _), e]
              have := T.st (i + 1 + (δ + 1)) (by omega)
              rw [show i + 1 + 1 + (δ + 1) = i + 1 + (δ + 1) + 1 by omega, show g (i + 1 + (δ + 1) + 1) - (g (i + 1 + (δ + 1)) - g (i + 1)) - g (i + 1) = g (i + 1 + (δ + 1) + 1) - g (i + 1 + (δ + 1)) by omega]
              exact this
            · have h3 : ¬ t ≤ i + 1 := by omega
              rw [if_neg h3, if_neg h3]
              have := T.st (t + (δ + 1)) (by omega)
              rw [show t + 1 + (δ + 1) = t + (δ + 1) + 1 by omega, show g (t + (δ + 1) + 1) - (g (i + 1 + (δ + 1)) - g (i + 1)) - (g (t + (δ + 1)) - (g (i + 1 + (δ + 1)) - g (i + 1))) = g (t + (δ + 1) + 1) - g (t + (δ + 1)) by omega]
              exact this
      match m, hm with
      | 0, hm => omega
      | m + 1, hm =>
        obtain ⟨k', f', g', q1, q2, q3, q4⟩ := trc_cut G m k2 _ _ (by omega) T2
        refine ⟨k', f', g', q1, q2, ?_, ?_⟩
        · rw [q3]
          by_cases h1 : k2 + 1 ≤ i + 1
          · have : k2 = i := by omega
            subst this
            rw [if_pos h1, e]
            congr 1
            omega
          · rw [if_neg h1]
            congr 1
            omega
        · refine Int.le_trans q4 ?_
          by_cases h1 : k2 + 1 ≤ i + 1
          · have : k2 = i := by omega
            subst this
            rw [if_pos h1, show k2 + (δ + 1) + 1 = k2 + 1 + (δ + 1) by omega]
            exact hc
          · rw [if_neg h1, show k2 + (δ + 1) + 1 = k2 + 1 + (δ + 1) by omega]
            omega
theorem way_short {n : Nat} {R : Nat → List (Int × Int)} {M : Int} (G : Gph n R M) {s v : Nat} {c : Int} (w : Way R s v c) : ∃ k c', k ≤ n ∧ c' ≤ c ∧ WayK R s k v c' := by
  obtain ⟨k, f, g, T, h1, h2⟩ := way_trc w
  obtain ⟨k', f', g', q1, q2, q3, q4⟩ := trc_cut G k k f g (Nat.le_refl _) T
  refine ⟨k' + 1, g' (k' + 1), q1, by rw [← h2]; exact q4, ?_⟩
  rw [← h1, ← q3]
  exact trc_wayK q2 k' (Nat.le_refl _)
def bfV (R : Nat → List (Int × Int)) (s n : Nat) : List Int := bfR R s n (n + 1) (List.replicate n (-1))
theorem bf_back {n : Nat} {R : Nat → List (Int × Int)} {s : Nat} (G : Gph n R 2000000) (hn : n ≤ 64) (hs : s < n) : Back R s (if gi (bfV R s n) s < 0 then (0, false) else (gi (bfV R s n) s, true)) := by
  have S0 : Snd n R s 0 (List.replicate n (-1)) := ⟨List.length_replicate, fun v hv => .inl (by unfold gi; simp [List.getD_eq_getElem?_getD, List.getElem?_replicate, hv])⟩
  obtain ⟨S, C⟩ := bfR_ok G hn hs (n + 1) 0 0 _ S0 (Int.le_refl _) (by omega) (fun j v c hj w => by have := wayK_pos w; omega)
  have key : ∀ c', Way R s s c' → 0 ≤ gi (bfV R s n) s ∧ gi (bfV R s n) s ≤ c' := fun c' w => by
    obtain ⟨k, c2, h1, h2, h3⟩ := way_short G w
    have := C k s c2 (by omega) h3
    exact ⟨this.1, Int.le_trans this.2 h2⟩
  split
  · rename_i hc
    exact .inr ⟨rfl, fun c' w => by have := (key c' w).1; omega⟩
  · rename_i hc
    rcases S.val s hs with h1 | ⟨h1, h2, h3⟩
    · exact absurd (show gi (bfV R s n) s < 0 by show gi (bfR R s n (n + 1) (List.replicate n (-1))) s < 0; omega) hc
    · exact .inl ⟨rfl, h3, fun c' w => (key c' w).2⟩
end Go.Abs.Tab

/- Order: the document's Back, walked. -/
set_option linter.unusedVariables false
namespace Go.Abs.Tab
open Go.Gr
def bk3 (ls : List Int) : Hp := [.cells 1 3 (ls.map iv)]
@[go_sem] theorem bk3_get (ls : List Int) : cellsB (bk3 ls)[0]? = some (1, 3, ls.map iv) := nr rfl
@[go_sem] theorem bk3_set (ls : List Int) (i : Nat) (x : Int) : (bk3 ls).set 0 (.cells 1 3 ((ls.map iv).set i (iv x))) = bk3 (ls.set i x) := by
  unfold bk3
  rw [List.map_set]
  rfl
theorem bk3_len (ls ls' : List Int) : (bk3 ls).length = (bk3 ls').length := rfl
theorem iv_get {ls : List Int} {i : Nat} (h : i < ls.length) : (ls.map iv)[i]? = some (iv (gi ls i)) := by
  unfold gi
  simp [List.getD_eq_getElem?_getD, List.getElem?_eq_getElem h]
theorem adr31 {n i : Nat} (h : i < n) : aindexAddr cx.T 31 (.sl 0 1 0 n n) (iv i) = some (.ptr 0 i 0) := by rw [aindexAddr_blk sl31 rfl h, Nat.zero_add]
structure PFr (fr : PT) (a : AV) (s n : Nat) : Prop where
  f0 : fr.get 0 = a
  f1 : fr.get 1 = iv s
  f8 : fr.get 8 = .sl 0 1 0 n n
theorem PFr.of {fr fr' : PT} {a : AV} {s n : Nat} (F : PFr fr a s n) (h : ∀ t, (t = 0 ∨ t = 1 ∨ t = 8) → fr'.get t = fr.get t) : PFr fr' a s n :=
  ⟨by rw [h 0 (by simp), F.f0], by rw [h 1 (by simp), F.f1], by rw [h 8 (by simp), F.f8]⟩
theorem fill_set (i d : Nat) : (List.replicate i (-1 : Int) ++ List.replicate (d + 1) 0).set i (-1) = List.replicate (i + 1) (-1) ++ List.replicate d 0 := by
  rw [List.set_append_right _ _ (by rw [List.length_replicate]; exact Nat.le_refl _), List.length_replicate, Nat.sub_self, List.replicate_succ, List.set_cons_zero, List.replicate_succ', List.append_assoc]
  rfl
theorem loop65_0 {a : AV} {s n : Nat} (hn : n ≤ 64) : ∀ (d i : Nat) (fr : PT), n - i = d → i ≤ n → PFr fr a s n → fr.get 9 = iv i →
    ∃ fr', D.loop 0 65 161 l65_0 fr (bk3 (List.replicate i (-1) ++ List.replicate d 0)) = some (.exit 0, fr', bk3 (List.replicate n (-1))) ∧ PFr fr' a s n
  | 0, i, fr, hd, hi, F, f9 => by
    have hlt : ¬ ((i : Int) < (n : Int)) := by omega
    have e : n = i := by omega
    rw [List.replicate_zero, List.append_nil, ← e]
    rw [← e] at f9 hlt
    rw [dl65_0]
    simp -implicitDefEqProofs (maxDischargeDepth := 4) only [go_sem, F.f8, f9, hlt]
    exact ⟨_, rfl, F.of fun t ht => by rcases ht with rfl | rfl | rfl <;> simp -implicitDefEqProofs (maxDischargeDepth := 4) only [go_sem]⟩
  | d + 1, i, fr, hd, hi, F, f9 => by
    have hlt : ((i : Int) < (n : Int)) := by omega
    have hin : i < n := by omega
    have w3 := wrap_succ (show i ≤ 1000 by omega)
    have q := adr31 hin
    obtain ⟨ls, hls⟩ : ∃ ls, List.replicate i (-1 : Int) ++ List.replicate (d + 1) 0 = ls := ⟨_, rfl⟩
    have hll : i < ls.length := by rw [← hls, List.length_append, List.length_replicate, List.length_replicate]; omega
    have g := iv_get hll
    have hset : ls.set i (-1) = List.replicate (i + 1) (-1) ++ List.replicate d 0 := by rw [← hls]; exact fill_set i d
    rw [hls, dl65_0]
    simp -implicitDefEqProofs (maxDischargeDepth := 4) only [go_sem, F.f8, f9, hlt, q, g, w3, Nat.not_lt_zero]
    rw [trimmed_l (bk3_len _ _), hset]
    exact loop65_0 hn d (i + 1) _ (nd1 hd) (nd2 hd) (F.of fun t ht => by rcases ht with rfl | rfl | rfl <;> simp -implicitDefEqProofs (maxDischargeDepth := 4) only [go_sem]) (by simp -implicitDefEqProofs (maxDischargeDepth := 4) only [go_sem])
theorem rlx_len (so : Int) (ls : List Int) (x : Int × Int) : (rlx so ls x).length = ls.length := by
  unfold rlx
  split
  · rw [List.length_set]
  · rfl
theorem rlxs_len (so : Int) : ∀ (l : List (Int × Int)) (ls : List Int), (l.foldl (rlx so) ls).length = ls.length
  | [], ls => rfl
  | x :: l, ls => by rw [List.foldl_cons, rlxs_len so l, rlx_len]
theorem rise1_to {ns : List Nd} (hg : Good ns) {px : Int} {e r : Int × Int} (he : 0 ≤ e.1 ∧ e.1 < (ns.length : Int)) (hs : 0 ≤ e.2 ∧ e.2 ≤ 1000) (h : rise1 ns px e = some r) :
    ∃ q : Nat, r.1 = q ∧ q < ns.length ∧ (wlk ns ns.length e.1 0).1 = q := by
  obtain ⟨q, y, o, hw, hy, _, rfl⟩ := rise1_some h
  obtain ⟨i, hi⟩ : ∃ i : Nat, e.1 = i := ⟨e.1.toNat, by omega⟩
  obtain ⟨m, o', z, h1, h2, _⟩ := good_walk1 hg (i := i) (by omega) 0
  have hsm : Small ns := fun z hz => shp_small (hg.sh z hz)
  have hl := hg.le
  have h3 := (wlk_add hsm (d := e.2) (by omega) h1 (by omega) (Int.le_refl _) (by omega)).1
  rw [Int.zero_add, ← hi, hw] at h3
  have h4 : (q : Int) = (m : Int) := congrArg Prod.fst h3
  refine ⟨q, rfl, (List.getElem?_eq_some_iff.1 hy).1, ?_⟩
  rw [hi, h1]
  exact h4.symm
structure KFr65 (fr : PT) (a : AV) (s n r i : Nat) (so : Int) : Prop extends PFr fr a s n where
  f10 : fr.get 10 = iv r
  f11 : fr.get 11 = iv i
  f12 : fr.get 12 = iv so
theorem KFr65.of {fr fr' : PT} {a : AV} {s n r i : Nat} {so : Int} (F : KFr65 fr a s n r i so) (h : ∀ t, (t = 0 ∨ t = 1 ∨ t = 8 ∨ t = 10 ∨ t = 11 ∨ t = 12) → fr'.get t = fr.get t) : KFr65 fr' a s n r i so :=
  ⟨F.toPFr.of fun t ht => h t (by rcases ht with rfl | rfl | rfl <;> simp), by rw [h 10 (by simp), F.f10], by rw [h 11 (by simp), F.f11], by rw [h 12 (by simp), F.f12]⟩
theorem jmp_is {ns : List Nd} (h0 : (chk ns).2 = 0) {i : Nat} {x : Nd} (hx : ns[i]? = some x) {e : Int × Int} (he : 0 ≤ e.1 ∧ e.1 < (ns.length : Int)) : jmp ns i e = match rise1 ns x.prio e with | some r => (r.2, true) | none => (0, false) := by
  have hi := (List.getElem?_eq_some_iff.1 hx).1
  unfold jmp
  rw [if_pos ⟨by unfold inn; simp; omega, by unfold inn; simp; omega, h0⟩, Int.toNat_natCast, hx]
  all_goals
    obtain ⟨o, ho⟩ : ∃ o, rise1 ns x.prio e = o := ⟨_, rfl⟩
    simp only [ho]
    cases o <;> rfl
theorem loop65_1 {ns : List Nd} {a : AV} (hns : NsOk ns a) (h0 : (chk ns).2 = 0) {s r i : Nat} {x : Nd} (hx : ns[i]? = some x) {so : Int} :
    ∀ (d k : Nat) (fr : PT) (ls : List Int), x.es.length - k = d → k ≤ x.es.length → ls.length = ns.length → KFr65 fr a s ns.length r i so → fr.get 13 = iv k →
    ∃ fr', D.loop 0 65 161 l65_1 fr (bk3 ls) = some (.exit 6, fr', bk3 ((rises ns x.prio (x.es.drop k)).foldl (rlx so) ls)) ∧ KFr65 fr' a s ns.length r i so
  | 0, k, fr, ls, hd, hk, hl, F, f13 => by
    have hlt := lp1 hd hk
    have hs : Sl 2 x.nx (x.es.map ed) := hns.ok x (List.mem_of_getElem? hx)
    have hat := hns.at hx
    rw [List.drop_eq_nil_of_le (show x.es.length ≤ k by omega), show rises ns x.prio [] = [] from rfl, List.foldl_nil]
    rw [dl65_1]
    simp -implicitDefEqProofs (maxDischargeDepth := 4) only [go_sem, F.f0, F.f11, f13, hat, hns.sl.shr, hns.sl.notOwn, hs.shr, hs.notOwn, alen_sl hs, List.length_map, hlt]
    exact ⟨_, rfl, F.of fun t ht => by rcases ht with rfl | rfl | rfl | rfl | rfl | rfl <;> simp -implicitDefEqProofs (maxDischargeDepth := 4) only [go_sem]⟩
  | d + 1, k, fr, ls, hd, hk, hl, F, f13 => by
    have hg := chk_good h0
    have hm := List.mem_of_getElem? hx
    have hs : Sl 2 x.nx (x.es.map ed) := hns.ok x hm
    have hat := hns.at hx
    have hkl : k < x.es.length := by omega
    have hlt : ((k : Int) < (x.es.length : Int)) := by omega
    have h8 := shp_len (hg.sh x hm)
    have w3 := wrap_succ (show k ≤ 1000 by omega)
    have e1 := at_ed hs hkl
    have hmem : x.es.getD k (0, 0) ∈ x.es := by
      rw [List.getD_eq_getElem?_getD, List.getElem?_eq_getElem hkl]
      exact List.getElem_mem hkl
    have hcl := opn_all (hg.cl x hm) (x.es.getD k (0, 0)) (by unfold oE; exact List.mem_append_left _ hmem)
    have hsm := shp_small (hg.sh x hm) _ hmem
    have j70 := rjump_ok hns i (x.es.getD k (0, 0))
    have r52 := rres_ok hns (x.es.getD k (0, 0)).1 0
    rw [jmp_is h0 hx hcl] at j70
    rw [drop_ed hkl, rises_cons]
    generalize x.es.getD k (0, 0) = e at *
    obtain ⟨fr1, p1, F1, g13⟩ : ∃ fr1 : PT, ex cx D 0 65 161 (.seq (.region 20 g65_18 false) (.cond (.tmp 98) .skip (.exit 6))) fr (bk3 ls) = some (.normal, fr1, bk3 ls) ∧ KFr65 fr1 a s ns.length r i so ∧ fr1.get 13 = iv k := by
      simp -implicitDefEqProofs (maxDischargeDepth := 4) only [go_sem, F.f0, F.f11, f13, hat, hns.sl.shr, hns.sl.notOwn, hs.shr, hs.notOwn, alen_sl hs, List.length_map, hlt]
      exact ⟨_, rfl, F.of fun t ht => by rcases ht with rfl | rfl | rfl | rfl | rfl | rfl <;> simp -implicitDefEqProofs (maxDischargeDepth := 4) only [go_sem], by simp -implicitDefEqProofs (maxDischargeDepth := 4) only [go_sem, f13]⟩
    cases hr : rise1 ns x.prio e with
    | none =>
      rw [hr] at j70
      obtain ⟨fr2, p2, F2, k13⟩ : ∃ fr2 : PT, ex cx D 0 65 161 (.block 7 (.seq (.region 22 g65_19 false) (.seq (.region 23 g65_20 false) (.seq (.region 24 g65_21 false) (.cond (.tmp 145) (.region 25 g65_22 false) .skip))))) fr1 (bk3 ls) = some (.normal, fr2, bk3 ls) ∧ KFr65 fr2 a s ns.length r i so ∧ fr2.get 13 = iv k := by
        simp -implicitDefEqProofs (maxDischargeDepth := 4) only [go_sem, F1.f0, F1.f11, g13, hat, hns.sl.shr, hns.sl.notOwn, hns.sl.shut1, hs.shr, hs.notOwn, e1, j70, build61a, r52, field61_0]
        exact ⟨_, rfl, F1.of fun t ht => by rcases ht with rfl | rfl | rfl | rfl | rfl | rfl <;> simp -implicitDefEqProofs (maxDischargeDepth := 4) only [go_sem], by simp -implicitDefEqProofs (maxDischargeDepth := 4) only [go_sem, g13]⟩
      obtain ⟨fr3, p3, F3, m13⟩ : ∃ fr3 : PT, ex cx D 0 65 161 (.region 21 g65_23 false) fr2 (bk3 ls) = some (.normal, fr3, bk3 ls) ∧ KFr65 fr3 a s ns.length r i so ∧ fr3.get 13 = iv (k + 1 : Nat) := by
        simp -implicitDefEqProofs (maxDischargeDepth := 4) only [go_sem, k13, w3]
        exact ⟨_, rfl, F2.of fun t ht => by rcases ht with rfl | rfl | rfl | rfl | rfl | rfl <;> simp -implicitDefEqProofs (maxDischargeDepth := 4) only [go_sem], by simp -implicitDefEqProofs (maxDischargeDepth := 4) only [go_sem]⟩
      rw [dl65_1, x_cont1 p1, x_cont1 p2, p3, xbind_some, contR_normal, trimmed_l (bk3_len _ _)]
      exact loop65_1 hns h0 hx d (k + 1) fr3 ls (nd1 hd) (nd2 hd) hl F3 m13
    | some q2 =>
      rw [hr] at j70
      obtain ⟨q, hq, hqn, hto⟩ := rise1_to hg hcl hsm hr
      obtain ⟨q1, rr⟩ := q2
      dsimp only at hq j70
      subst hq
      have adr := adr31 hqn
      have g := iv_get (ls := ls) (i := q) (by rw [hl]; exact hqn)
      obtain ⟨wo, hwo⟩ : ∃ wo, wlk ns ns.length e.1 0 = ((q : Int), wo) := ⟨_, by rw [← hto]⟩
      rw [hwo] at r52
      obtain ⟨fr2, p2, F2, k13⟩ : ∃ fr2 : PT, ex cx D 0 65 161 (.block 7 (.seq (.region 22 g65_19 false) (.seq (.region 23 g65_20 false) (.seq (.region 24 g65_21 false) (.cond (.tmp 145) (.region 25 g65_22 false) .skip))))) fr1 (bk3 ls) = some (.normal, fr2, bk3 (rlx so ls ((q : Int), rr))) ∧ KFr65 fr2 a s ns.length r i so ∧ fr2.get 13 = iv k := by
        unfold rlx
        dsimp only
        rw [Int.toNat_natCast]
        by_cases c1 : gi ls q < 0
        · simp -implicitDefEqProofs (maxDischargeDepth := 4) only [go_sem, F1.f0, F1.f8, F1.f11, F1.f12, g13, hat, hns.sl.shr, hns.sl.notOwn, hns.sl.shut1, hs.shr, hs.notOwn, e1, j70, build61a, r52, field61_0, adr, g, c1, Nat.not_lt_zero]
          exact ⟨_, rfl, F1.of fun t ht => by rcases ht with rfl | rfl | rfl | rfl | rfl | rfl <;> simp -implicitDefEqProofs (maxDischargeDepth := 4) only [go_sem], by simp -implicitDefEqProofs (maxDischargeDepth := 4) only [go_sem, g13]⟩
        · by_cases c2 : wrapK .i64 (so + rr) < gi ls q
          · simp -implicitDefEqProofs (maxDischargeDepth := 4) only [go_sem, F1.f0, F1.f8, F1.f11, F1.f12, g13, hat, hns.sl.shr, hns.sl.notOwn, hns.sl.shut1, hs.shr, hs.notOwn, e1, j70, build61a, r52, field61_0, adr, g, c1, c2, Nat.not_lt_zero]
            exact ⟨_, rfl, F1.of fun t ht => by rcases ht with rfl | rfl | rfl | rfl | rfl | rfl <;> simp -implicitDefEqProofs (maxDischargeDepth := 4) only [go_sem], by simp -implicitDefEqProofs (maxDischargeDepth := 4) only [go_sem, g13]⟩
          · simp -implicitDefEqProofs (maxDischargeDepth := 4) only [go_sem, F1.f0, F1.f8, F1.f11, F1.f12, g13, hat, hns.sl.shr, hns.sl.notOwn, hns.sl.shut1, hs.shr, hs.notOwn, e1, j70, build61a, r52, field61_0, adr, g, c1, c2, Nat.not_lt_zero]
            exact ⟨_, rfl, F1.of fun t ht => by rcases ht with rfl | rfl | rfl | rfl | rfl | rfl <;> simp -implicitDefEqProofs (maxDischargeDepth := 4) only [go_sem], by simp -implicitDefEqProofs (maxDischargeDepth := 4) only [go_sem, g13]⟩
      obtain ⟨fr3, p3, F3, m13⟩ : ∃ fr3 : PT, ex cx D 0 65 161 (.region 21 g65_23 false) fr2 (bk3 (rlx so ls ((q : Int), rr))) = some (.normal, fr3, bk3 (rlx so ls ((q : Int), rr))) ∧ KFr65 fr3 a s ns.length r i so ∧ fr3.get 13 = iv (k + 1 : Nat) := by
        simp -implicitDefEqProofs (maxDischargeDepth := 4) only [go_sem, k13, w3]
        exact ⟨_, rfl, F2.of fun t ht => by rcases ht with rfl | rfl | rfl | rfl | rfl | rfl <;> simp -implicitDefEqProofs (maxDischargeDepth := 4) only [go_sem], by simp -implicitDefEqProofs (maxDischargeDepth := 4) only [go_sem]⟩
      rw [dl65_1, x_cont1 p1, x_cont1 p2, p3, xbind_some, contR_normal, trimmed_l (bk3_len _ _)]
      exact loop65_1 hns h0 hx d (k + 1) fr3 _ (nd1 hd) (nd2 hd) (by rw [rlx_len, hl]) F3 m13
end Go.Abs.Tab

/- Order: the document's Back is the least way back. -/
set_option linter.unusedVariables false
namespace Go.Abs.Tab
open Go.Gr
structure NFr65 (fr : PT) (a : AV) (s n r i : Nat) : Prop extends PFr fr a s n where
  f10 : fr.get 10 = iv r
  f11 : fr.get 11 = iv i
theorem NFr65.of {fr fr' : PT} {a : AV} {s n r i : Nat} (F : NFr65 fr a s n r i) (h : ∀ t, (t = 0 ∨ t = 1 ∨ t = 8 ∨ t = 10 ∨ t = 11) → fr'.get t = fr.get t) : NFr65 fr' a s n r i :=
  ⟨F.toPFr.of fun t ht => h t (by rcases ht with rfl | rfl | rfl <;> simp), by rw [h 10 (by simp), F.f10], by rw [h 11 (by simp), F.f11]⟩
theorem bfI_len (R : Nat → List (Int × Int)) (s : Nat) (ls : List Int) (i : Nat) : (bfI R s ls i).length = ls.length := by
  unfold bfI
  split
  · rfl
  · rw [rlxs_len]
theorem bfF_len (R : Nat → List (Int × Int)) (s : Nat) : ∀ (d i : Nat) (ls : List Int), (bfF R s d i ls).length = ls.length
  | 0, _, _ => rfl
  | d + 1, i, ls => by
    show (bfF R s d (i + 1) (bfI R s ls i)).length = _
    rw [bfF_len R s d, bfI_len]
theorem oR_not {ns : List Nd} {i : Nat} {x : Nd} (hx : ns[i]? = some x) (hk : actK x.kind = false) : oR ns i = [] := by
  unfold oR
  rw [hx]
  dsimp only
  rw [hk, if_neg (by decide)]
theorem node65 {ns : List Nd} {a : AV} (hns : NsOk ns a) (h0 : (chk ns).2 = 0) {s r i : Nat} {x : Nd} (hx : ns[i]? = some x) {fr : PT} {ls : List Int} (hl : ls.length = ns.length) (F : NFr65 fr a s ns.length r i) :
    ∃ fr', ex cx D 0 65 161 (.block 5 (.seq (.seq (.region 15 g65_13 false) (.cond (.tmp 83) (.exit 5) .skip)) (.seq (.region 16 g65_14 false) (.seq (.seq (.region 17 g65_15 false) (.cond (.tmp 86) (.region 18 g65_16 false) .skip)) (.seq (.region 19 g65_17 false) (.block 6 (.loop l65_1))))))) fr (bk3 ls) = some (.normal, fr', bk3 (bfI (oR ns) s ls i)) ∧ NFr65 fr' a s ns.length r i := by
  have hxo := hns.ok x (List.mem_of_getElem? hx)
  have hs : Sl 2 x.nx (x.es.map ed) := hxo
  have hat := hns.at hx
  have hin := (List.getElem?_eq_some_iff.1 hx).1
  have adr := adr31 hin
  have g := iv_get (ls := ls) (i := i) (by rw [hl]; exact hin)
  have r128 := ractsN hxo
  cases hk : actK x.kind with
  | false =>
    rw [hk] at r128
    have hb : bfI (oR ns) s ls i = ls := by
      unfold bfI
      rw [oR_not hx hk]
      split <;> rfl
    rw [hb]
    simp -implicitDefEqProofs (maxDischargeDepth := 4) only [go_sem, F.f0, F.f11, hat, hns.sl.shr, hns.sl.notOwn, hs.shr, hs.notOwn, hs.shut0, r128, u_not]
    exact ⟨_, rfl, F.of fun t ht => by rcases ht with rfl | rfl | rfl | rfl | rfl <;> simp -implicitDefEqProofs (maxDischargeDepth := 4) only [go_sem]⟩
  | true =>
    rw [hk] at r128
    by_cases his : i = s
    · subst his
      have hb : bfI (oR ns) i ls i = (rises ns x.prio x.es).foldl (rlx 0) ls := by
        unfold bfI
        rw [if_neg (fun h => h.1 rfl), if_pos rfl, oR_act hx hk]
      obtain ⟨fr1, p1, F1, g13⟩ : ∃ fr1 : PT, ex cx D 0 65 161 (.seq (.seq (.region 15 g65_13 false) (.cond (.tmp 83) (.exit 5) .skip)) (.seq (.region 16 g65_14 false) (.seq (.seq (.region 17 g65_15 false) (.cond (.tmp 86) (.region 18 g65_16 false) .skip)) (.region 19 g65_17 false)))) fr (bk3 ls) = some (.normal, fr1, bk3 ls) ∧ KFr65 fr1 a i ns.length r i 0 ∧ fr1.get 13 = iv (0 : Nat) := by
        simp -implicitDefEqProofs (maxDischargeDepth := 4) only [go_sem, F.f0, F.f1, F.f8, F.f11, hat, hns.sl.shr, hns.sl.notOwn, hs.shr, hs.notOwn, hs.shut0, r128, u_not]
        refine ⟨_, rfl, ⟨⟨by simp -implicitDefEqProofs (maxDischargeDepth := 4) only [go_sem, F.f0], by simp -implicitDefEqProofs (maxDischargeDepth := 4) only [go_sem, F.f1], by simp -implicitDefEqProofs (maxDischargeDepth := 4) only [go_sem, F.f8]⟩, by simp -implicitDefEqProofs (maxDischargeDepth := 4) only [go_sem, F.f10], by simp -implicitDefEqProofs (maxDischargeDepth := 4) only [go_sem, F.f11], by simp -implicitDefEqProofs (maxDischargeDepth := 4) only [go_sem]⟩, by simp -implicitDefEqProofs (maxDischargeDepth := 4) only [go_sem]; rfl⟩
      obtain ⟨_, _, q1, r⟩ := x_split p1
      obtain ⟨_, _, q2, r⟩ := x_split r
      obtain ⟨_, _, q3, q4⟩ := x_split r
      obtain ⟨fr2, e2, F2⟩ := loop65_1 hns h0 hx x.es.length 0 fr1 ls (Nat.sub_zero _) (Nat.zero_le _) hl F1 g13
      rw [List.drop_zero, ← hb] at e2
      refine ⟨fr2, ?_, F2.toPFr, F2.f10, F2.f11⟩
      rw [x_block, x_cont1 q1, x_cont1 q2, x_cont1 q3, x_cont1 q4, x_block, x_loop, e2]
      rfl
    · have hne : ¬ (i : Int) = (s : Int) := by omega
      by_cases hneg : gi ls i < 0
      · have hb : bfI (oR ns) s ls i = ls := by
          unfold bfI
          rw [if_pos ⟨his, hneg⟩]
        rw [hb]
        simp -implicitDefEqProofs (maxDischargeDepth := 4) only [go_sem, F.f0, F.f1, F.f8, F.f11, hat, hns.sl.shr, hns.sl.notOwn, hs.shr, hs.notOwn, hs.shut0, r128, u_not, hne, adr, g, hneg]
        exact ⟨_, rfl, F.of fun t ht => by rcases ht with rfl | rfl | rfl | rfl | rfl <;> simp -implicitDefEqProofs (maxDischargeDepth := 4) only [go_sem]⟩
      · have hb : bfI (oR ns) s ls i = (rises ns x.prio x.es).foldl (rlx (gi ls i)) ls := by
          unfold bfI
          rw [if_neg (fun h => hneg h.2), if_neg his, oR_act hx hk]
        obtain ⟨fr1, p1, F1, g13⟩ : ∃ fr1 : PT, ex cx D 0 65 161 (.seq (.seq (.region 15 g65_13 false) (.cond (.tmp 83) (.exit 5) .skip)) (.seq (.region 16 g65_14 false) (.seq (.seq (.region 17 g65_15 false) (.cond (.tmp 86) (.region 18 g65_16 false) .skip)) (.region 19 g65_17 false)))) fr (bk3 ls) = some (.normal, fr1, bk3 ls) ∧ KFr65 fr1 a s ns.length r i (gi ls i) ∧ fr1.get 13 = iv (0 : Nat) := by
          simp -implicitDefEqProofs (maxDischargeDepth := 4) only [go_sem, F.f0, F.f1, F.f8, F.f11, hat, hns.sl.shr, hns.sl.notOwn, hs.shr, hs.notOwn, hs.shut0, r128, u_not, hne, adr, g, hneg]
          refine ⟨_, rfl, ⟨⟨by simp -implicitDefEqProofs (maxDischargeDepth := 4) only [go_sem, F.f0], by simp -implicitDefEqProofs (maxDischargeDepth := 4) only [go_sem, F.f1], by simp -implicitDefEqProofs (maxDischargeDepth := 4) only [go_sem, F.f8]⟩, by simp -implicitDefEqProofs (maxDischargeDepth := 4) only [go_sem, F.f10], by simp -implicitDefEqProofs (maxDischargeDepth := 4) only [go_sem, F.f11], by simp -implicitDefEqProofs (maxDischargeDepth := 4) only [go_sem]⟩, by simp -implicitDefEqProofs (maxDischargeDepth := 4) only [go_sem]; rfl⟩
        obtain ⟨_, _, q1, r⟩ := x_split p1
        obtain ⟨_, _, q2, r⟩ := x_split r
        obtain ⟨_, _, q3, q4⟩ := x_split r
        obtain ⟨fr2, e2, F2⟩ := loop65_1 hns h0 hx x.es.length 0 fr1 ls (Nat.sub_zero _) (Nat.zero_le _) hl F1 g13
        rw [List.drop_zero, ← hb] at e2
        refine ⟨fr2, ?_, F2.toPFr, F2.f10, F2.f11⟩
        rw [x_block, x_cont1 q1, x_cont1 q2, x_cont1 q3, x_cont1 q4, x_block, x_loop, e2]
        rfl
structure RFr65 (fr : PT) (a : AV) (s n r : Nat) : Prop extends PFr fr a s n where
  f10 : fr.get 10 = iv r
theorem loop65_2 {ns : List Nd} {a : AV} (hns : NsOk ns a) (h0 : (chk ns).2 = 0) {s r : Nat} :
    ∀ (d i : Nat) (fr : PT) (ls : List Int), ns.length - i = d → i ≤ ns.length → ls.length = ns.length → NFr65 fr a s ns.length r i →
    ∃ fr', D.loop 0 65 161 l65_2 fr (bk3 ls) = some (.exit 4, fr', bk3 (bfF (oR ns) s d i ls)) ∧ RFr65 fr' a s ns.length r
  | 0, i, fr, ls, hd, hi, hl, F => by
    have hlt := lp1 hd hi
    rw [dl65_2]
    simp -implicitDefEqProofs (maxDischargeDepth := 4) only [go_sem, F.f0, F.f11, hns.sl.shr, hns.sl.notOwn, alen_sl hns.sl, List.length_map, hlt]
    exact ⟨_, rfl, ⟨by simp -implicitDefEqProofs (maxDischargeDepth := 4) only [go_sem, F.f0], by simp -implicitDefEqProofs (maxDischargeDepth := 4) only [go_sem, F.f1], by simp -implicitDefEqProofs (maxDischargeDepth := 4) only [go_sem, F.f8]⟩, by simp -implicitDefEqProofs (maxDischargeDepth := 4) only [go_sem, F.f10]⟩
  | d + 1, i, fr, ls, hd, hi, hl, F => by
    have hle := (chk_good h0).le
    have hlt : ((i : Int) < (ns.length : Int)) := by omega
    have w3 := wrap_succ (show i ≤ 1000 by omega)
    obtain ⟨x, hx⟩ := ex_nd (ns := ns) (i := i) (by omega)
    obtain ⟨fr1, p1, F1⟩ : ∃ fr1 : PT, ex cx D 0 65 161 (.seq (.region 13 g65_12 false) (.cond (.tmp 63) .skip (.exit 4))) fr (bk3 ls) = some (.normal, fr1, bk3 ls) ∧ NFr65 fr1 a s ns.length r i := by
      simp -implicitDefEqProofs (maxDischargeDepth := 4) only [go_sem, F.f0, F.f11, hns.sl.shr, hns.sl.notOwn, alen_sl hns.sl, List.length_map, hlt]
      exact ⟨_, rfl, F.of fun t ht => by rcases ht with rfl | rfl | rfl | rfl | rfl <;> simp -implicitDefEqProofs (maxDischargeDepth := 4) only [go_sem]⟩
    obtain ⟨fr2, p2, F2⟩ := node65 hns h0 hx hl F1
    obtain ⟨fr3, p3, F3⟩ : ∃ fr3 : PT, ex cx D 0 65 161 (.region 14 g65_24 false) fr2 (bk3 (bfI (oR ns) s ls i)) = some (.normal, fr3, bk3 (bfI (oR ns) s ls i)) ∧ NFr65 fr3 a s ns.length r (i + 1) := by
      simp -implicitDefEqProofs (maxDischargeDepth := 4) only [go_sem, F2.f11, w3]
      exact ⟨_, rfl, ⟨by simp -implicitDefEqProofs (maxDischargeDepth := 4) only [go_sem, F2.f0], by simp -implicitDefEqProofs (maxDischargeDepth := 4) only [go_sem, F2.f1], by simp -implicitDefEqProofs (maxDischargeDepth := 4) only [go_sem, F2.f8]⟩, by simp -implicitDefEqProofs (maxDischargeDepth := 4) only [go_sem, F2.f10], by simp -implicitDefEqProofs (maxDischargeDepth := 4) only [go_sem]⟩
    rw [dl65_2, x_cont1 p1, x_cont1 p2, p3, xbind_some, contR_normal, trimmed_l (bk3_len _ _)]
    exact loop65_2 hns h0 d (i + 1) fr3 _ (nd1 hd) (nd2 hd) (by rw [bfI_len, hl]) F3
theorem loop65_3 {ns : List Nd} {a : AV} (hns : NsOk ns a) (h0 : (chk ns).2 = 0) {s : Nat} :
    ∀ (d r : Nat) (fr : PT) (ls : List Int), ns.length + 1 - r = d → r ≤ ns.length + 1 → ls.length = ns.length → RFr65 fr a s ns.length r →
    ∃ fr', D.loop 0 65 161 l65_3 fr (bk3 ls) = some (.exit 2, fr', bk3 (bfR (oR ns) s ns.length d ls)) ∧ PFr fr' a s ns.length
  | 0, r, fr, ls, hd, hr, hl, F => by
    have hlt : ¬ ((r : Int) ≤ (ns.length : Int)) := by omega
    rw [dl65_3]
    simp -implicitDefEqProofs (maxDischargeDepth := 4) only [go_sem, F.f0, F.f10, hns.sl.shr, hns.sl.notOwn, alen_sl hns.sl, List.length_map, hlt]
    exact ⟨_, rfl, by simp -implicitDefEqProofs (maxDischargeDepth := 4) only [go_sem, F.f0], by simp -implicitDefEqProofs (maxDischargeDepth := 4) only [go_sem, F.f1], by simp -implicitDefEqProofs (maxDischargeDepth := 4) only [go_sem, F.f8]⟩
  | d + 1, r, fr, ls, hd, hr, hl, F => by
    have hle := (chk_good h0).le
    have hlt : ((r : Int) ≤ (ns.length : Int)) := by omega
    have w3 := wrap_succ (show r ≤ 1000 by omega)
    obtain ⟨fr1, p1, F1⟩ : ∃ fr1 : PT, ex cx D 0 65 161 (.seq (.region 10 g65_10 false) (.cond (.tmp 57) .skip (.exit 2))) fr (bk3 ls) = some (.normal, fr1, bk3 ls) ∧ RFr65 fr1 a s ns.length r := by
      simp -implicitDefEqProofs (maxDischargeDepth := 4) only [go_sem, F.f0, F.f10, hns.sl.shr, hns.sl.notOwn, alen_sl hns.sl, List.length_map, hlt]
      exact ⟨_, rfl, ⟨by simp -implicitDefEqProofs (maxDischargeDepth := 4) only [go_sem, F.f0], by simp -implicitDefEqProofs (maxDischargeDepth := 4) only [go_sem, F.f1], by simp -implicitDefEqProofs (maxDischargeDepth := 4) only [go_sem, F.f8]⟩, by simp -implicitDefEqProofs (maxDischargeDepth := 4) only [go_sem, F.f10]⟩
    obtain ⟨fr2, p2, F2⟩ : ∃ fr2 : PT, ex cx D 0 65 161 (.region 12 g65_11 false) fr1 (bk3 ls) = some (.normal, fr2, bk3 ls) ∧ NFr65 fr2 a s ns.length r 0 := by
      simp -implicitDefEqProofs (maxDischargeDepth := 4) only [go_sem]
      exact ⟨_, rfl, ⟨by simp -implicitDefEqProofs (maxDischargeDepth := 4) only [go_sem, F1.f0], by simp -implicitDefEqProofs (maxDischargeDepth := 4) only [go_sem, F1.f1], by simp -implicitDefEqProofs (maxDischargeDepth := 4) only [go_sem, F1.f8]⟩, by simp -implicitDefEqProofs (maxDischargeDepth := 4) only [go_sem, F1.f10], by simp -implicitDefEqProofs (maxDischargeDepth := 4) only [go_sem]; rfl⟩
    obtain ⟨fr3, p3, F3⟩ := loop65_2 hns h0 ns.length 0 fr2 ls (Nat.sub_zero _) (Nat.zero_le _) hl F2
    obtain ⟨fr4, p4, F4⟩ : ∃ fr4 : PT, ex cx D 0 65 161 (.region 11 g65_25 false) fr3 (bk3 (bfF (oR ns) s ns.length 0 ls)) = some (.normal, fr4, bk3 (bfF (oR ns) s ns.length 0 ls)) ∧ RFr65 fr4 a s ns.length (r + 1) := by
      simp -implicitDefEqProofs (maxDischargeDepth := 4) only [go_sem, F3.f10, w3]
      exact ⟨_, rfl, ⟨by simp -implicitDefEqProofs (maxDischargeDepth := 4) only [go_sem, F3.f0], by simp -implicitDefEqProofs (maxDischargeDepth := 4) only [go_sem, F3.f1], by simp -implicitDefEqProofs (maxDischargeDepth := 4) only [go_sem, F3.f8]⟩, by simp -implicitDefEqProofs (maxDischargeDepth := 4) only [go_sem]⟩
    have eb : ex cx D 0 65 161 (.block 3 (.seq (.region 12 g65_11 false) (.block 4 (.loop l65_2)))) fr1 (bk3 ls) = some (.normal, fr3, bk3 (bfF (oR ns) s ns.length 0 ls)) := by
      rw [x_block, x_cont1 p2, x_block, x_loop, p3]
      rfl
    rw [dl65_3, x_cont1 p1, x_cont1 eb, p4, xbind_some, contR_normal, trimmed_l (bk3_len _ _)]
    exact loop65_3 hns h0 d (r + 1) fr4 _ (by omega) (by omega) (by rw [bfF_len, hl]) F4
end Go.Abs.Tab

/- Order: works. -/
set_option linter.unusedVariables false
namespace Go.Abs.Tab
open Go.Gr
theorem build66_w3 (k p : Int) (l : List AV) : abuild cx.T 66 [(0, iv k), (1, iv p), (4, .vec 2 .exact l)] = some (.agg [iv k, iv p, bv false, iv 0, iv 0, .vec 2 .exact l]) := nr (by kernel_rfl)
theorem build66_w5 (k p : Int) (c : Bool) (t s : Int) (l : List AV) : abuild cx.T 66 [(0, iv k), (1, iv p), (2, bv c), (3, .agg [iv t, iv s]), (4, .vec 2 .exact l)] = some (.agg [iv k, iv p, bv c, iv t, iv s, .vec 2 .exact l]) := nr (by kernel_rfl)
theorem build66_w2 (k : Int) (c : Bool) (l : List AV) : abuild cx.T 66 [(0, iv k), (2, bv c), (4, .vec 2 .exact l)] = some (.agg [iv k, iv 0, bv c, iv 0, iv 0, .vec 2 .exact l]) := nr (by kernel_rfl)
theorem build63_0 (a : Int) : abuild cx.T 63 [(0, iv a)] = some (.agg [iv a, iv 0]) := nr (by kernel_rfl)
theorem word_ok (k p t s : Int) : pcall D 71 [iv k, iv p, iv t, iv s] = some (.agg [iv k, iv p, bv false, iv 0, iv 0, .vec 2 .exact [.agg [iv t, iv s]]]) := by
  have h : ∃ H', callB cx D 0 71 [iv k, iv p, iv t, iv s] [] = some (.agg [iv k, iv p, bv false, iv 0, iv 0, .vec 2 .exact [.agg [iv t, iv s]]], H') := by
    rw [c71]
    simp -implicitDefEqProofs (maxDischargeDepth := 4) only [go_sem, build63', build66_w3, Nat.zero_le, Nat.le_refl, Nat.not_lt_zero]
    exact ⟨_, rfl⟩
  obtain ⟨H', h⟩ := h
  rw [pcall_eq (vs := [iv k, iv p, iv t, iv s]) (v := .agg [iv k, iv p, bv false, iv 0, iv 0, .vec 2 .exact [.agg [iv t, iv s]]]) (H' := H') h]
  rfl
def oA : List Nd := [mkNd 1 0 false 0 0 [(1, 0)], mkNd 2 1 false 0 0 [(0, 2)]]
def oB : List Nd := [mkNd 1 0 false 0 0 [(1, 0)], mkNd 2 1 false 0 0 [(0, 1)]]
def oC : List Nd := [mkNd 1 3 true 1 0 [(1, 0)], niN 0 0 false 0 0]
theorem pair_ok {x y : Nd} (hx : NdOk x) (hy : NdOk y) : NsOk [x, y] (.vec 6 .exact [nodeV x, nodeV y]) := by
  refine ⟨.inl rfl, fun z hz => ?_, show 2 < 2 ^ 30 by decide⟩
  simp only [List.mem_cons, List.not_mem_nil, or_false] at hz
  rcases hz with rfl | rfl
  · exact hx
  · exact hy
theorem way_pos {n : Nat} {R : Nat → List (Int × Int)} {M : Int} (G : Gph n R M) {s v : Nat} {c : Int} (w : Way R s v c) : 1 ≤ c := by
  induction w with
  | one h => exact G.lo _ _ h
  | snoc _ h ih =>
    have := G.lo _ _ h
    dsimp only at this
    omega
theorem way_none {R : Nat → List (Int × Int)} {s v : Nat} {c : Int} (h : R s = []) (w : Way R s v c) : False := by
  induction w with
  | one hr => rw [h] at hr; cases hr
  | snoc _ _ ih => exact ih
theorem way_two {n : Nat} {R : Nat → List (Int × Int)} {M : Int} (G : Gph n R M) {s : Nat} (h0 : ∀ r, ((s : Int), r) ∉ R s) {c : Int} (w : Way R s s c) : 2 ≤ c := by
  cases w with
  | one h => exact absurd h (h0 _)
  | snoc w h =>
    have h1 := way_pos G w
    have h2 := G.lo _ _ h
    dsimp only at h2
    omega
abbrev vA : AV := .vec 6 .exact [.agg [iv 1, iv 0, bv false, iv 0, iv 0, .vec 2 .exact [.agg [iv 1, iv 0]]], .agg [iv 2, iv 1, bv false, iv 0, iv 0, .vec 2 .exact [.agg [iv 0, iv 2]]]]
abbrev vB : AV := .vec 6 .exact [.agg [iv 1, iv 0, bv false, iv 0, iv 0, .vec 2 .exact [.agg [iv 1, iv 0]]], .agg [iv 2, iv 1, bv false, iv 0, iv 0, .vec 2 .exact [.agg [iv 0, iv 1]]]]
abbrev vC : AV := .vec 6 .exact [.agg [iv 1, iv 3, bv true, iv 1, iv 0, .vec 2 .exact [.agg [iv 1, iv 0]]], .agg [iv 0, iv 0, bv false, iv 0, iv 0, .lit (.slice none 0 0)]]
abbrev vD : AV := .vec 6 .exact [.agg [iv 1, iv 0, bv true, iv 0, iv 0, .vec 2 .exact [.agg [iv 1, iv 0]]], .agg [iv 0, iv 0, bv false, iv 0, iv 0, .lit (.slice none 0 0)]]
theorem backA : BackAt oA 0 (2, true) := by
  have h0 : (ordC oA).2 = 0 := by decide
  have hg := oR_gph (ord_good h0)
  unfold BackAt
  rw [if_pos ⟨h0, by decide⟩]
  refine .inl ⟨rfl, ?_, fun c' w => way_two hg (s := 0) (fun r hr => ?_) w⟩
  · exact Way.snoc (s := 0) (v := 0) (u := 1) (c := 1) (r := 1) (.one (show (((1 : Nat) : Int), (1 : Int)) ∈ oR oA 0 by decide)) (show (((0 : Nat) : Int), (1 : Int)) ∈ oR oA 1 by decide)
  · rw [show oR oA 0 = [(1, 1)] by decide] at hr
    simp at hr
theorem backB : BackAt oB 0 (0, false) := by
  unfold BackAt
  rw [if_neg (fun h => absurd h.1 (by decide))]
theorem backC : BackAt oC 0 (0, false) := by
  unfold BackAt
  rw [if_pos ⟨by decide, by decide⟩]
  exact .inr ⟨rfl, fun c' w => way_none (show oR oC 0 = [] by decide) w⟩
theorem back_is {ns : List Nd} {a : AV} (hns : NsOk ns a) {i : Int} {r : Int × Bool} (h : BackAt ns i r) : pcall D 64 [a, iv i] = some (jmpV r) := by
  obtain ⟨r', h1, h2⟩ := back_ok hns i
  rw [h.uniq h2]
  exact h1
theorem oworks_call : ∃ H', callB cx D 0 66 [] [] = some (bv true, H') := by
  have kA := pair_ok (mkNd_ok 1 0 false 0 0 [(1, 0)]) (mkNd_ok 2 1 false 0 0 [(0, 2)])
  have kB := pair_ok (mkNd_ok 1 0 false 0 0 [(1, 0)]) (mkNd_ok 2 1 false 0 0 [(0, 1)])
  have kC := pair_ok (mkNd_ok 1 3 true 1 0 [(1, 0)]) (niN_ok 0 0 false 0 0)
  have kD := pair_ok (mkNd_ok 1 0 true 0 0 [(1, 0)]) (niN_ok 0 0 false 0 0)
  have a1 : pcall D 67 [vA] = some (.tup [iv (-1), iv 0]) := by
    have := ord_ok kA
    rw [show ordC [mkNd 1 0 false 0 0 [(1, 0)], mkNd 2 1 false 0 0 [(0, 2)]] = (-1, 0) by decide] at this
    exact this
  have a2 : pcall D 67 [vB] = some (.tup [iv 1, iv 10]) := by
    have := ord_ok kB
    rw [show ordC [mkNd 1 0 false 0 0 [(1, 0)], mkNd 2 1 false 0 0 [(0, 1)]] = (1, 10) by decide] at this
    exact this
  have a3 : pcall D 67 [vC] = some (.tup [iv (-1), iv 0]) := by
    have := ord_ok kC
    rw [show ordC [mkNd 1 3 true 1 0 [(1, 0)], niN 0 0 false 0 0] = (-1, 0) by decide] at this
    exact this
  have a4 : pcall D 67 [vD] = some (.tup [iv 0, iv 10]) := by
    have := ord_ok kD
    rw [show ordC [mkNd 1 0 true 0 0 [(1, 0)], niN 0 0 false 0 0] = (0, 10) by decide] at this
    exact this
  have b1 : pcall D 64 [vA, iv 0] = some (.tup [iv 2, bv true]) := back_is kA (i := 0) backA
  have b2 : pcall D 64 [vB, iv 0] = some (.tup [iv 0, bv false]) := back_is kB (i := 0) backB
  have b3 : pcall D 64 [vC, iv 0] = some (.tup [iv 0, bv false]) := back_is kC (i := 0) backC
  rw [c66]
  simp -implicitDefEqProofs (maxDischargeDepth := 4) only [go_sem, word_ok, build63_0, build66_w5, build66_w2, build66_0, a1, a2, a3, a4, b1, b2, b3, u_not]
  exact ⟨_, rfl⟩
theorem oworks_ok : pcall D 66 [] = some (bv true) := by
  obtain ⟨H', h⟩ := oworks_call
  rw [pcall_eq (vs := []) (v := bv true) (H' := H') (by rw [List.map_nil]; exact h)]
  rfl
end Go.Abs.Tab

/- Order: the document's Back, called; the statement OrderBacks. -/
set_option linter.unusedVariables false
namespace Go.Abs.Tab
open Go.Gr
theorem bk3_new (n : Nat) : [ABlock.cells 1 3 (List.replicate n (iv 0))] = bk3 (List.replicate n 0) := by unfold bk3; rw [List.map_replicate]
theorem len_small8 {n : Nat} (h : n ≤ 64) : n * (8 + 1) ≤ 1099511627776 := by omega
theorem bfR_len (R : Nat → List (Int × Int)) (s n : Nat) : ∀ (r : Nat) (ls : List Int), (bfR R s n r ls).length = ls.length
  | 0, _ => rfl
  | r + 1, ls => by
    show (bfR R s n r (bfF R s n 0 ls)).length = _
    rw [bfR_len R s n r, bfF_len]
theorem rback_call {ns : List Nd} {a : AV} (hns : NsOk ns a) (i : Int) : ∃ r H', callB cx D 0 65 [a, iv i] [] = some (jmpV r, H') ∧ BackAt ns i r := by
  have h68 := rord_ok hns
  unfold errV at h68
  by_cases h0 : (ordC ns).2 = 0
  rotate_left
  · refine ⟨(0, false), ?_⟩
    unfold BackAt
    rw [if_neg (fun h => h0 h.1)]
    generalize (ordC ns).1 = w at h68
    generalize (ordC ns).2 = v at h68 h0
    rw [c65]
    simp -implicitDefEqProofs (maxDischargeDepth := 4) only [go_sem, hns.sl.shr, hns.sl.notOwn, hns.sl.drp, hns.sl.shut1, h68, h0]
    exact ⟨_, rfl⟩
  · rw [h0] at h68
    have hg := ord_good h0
    have hchk : (chk ns).2 = 0 := by
      unfold ordC at h0
      split at h0
      · assumption
      · assumption
    rcases atN_cases (ns := ns) i with ⟨ha, hor⟩ | ⟨s, x, rfl, hm, hx, ha⟩
    · refine ⟨(0, false), ?_⟩
      unfold BackAt
      rw [if_neg (fun h => by unfold actN at h; rw [ha] at h; cases h.2)]
      generalize (ordC ns).1 = w at h68
      rw [c65]
      by_cases hlt : i < 0
      · simp -implicitDefEqProofs (maxDischargeDepth := 4) only [go_sem, hns.sl.shr, hns.sl.notOwn, hns.sl.drp, hns.sl.shut1, h68, hlt]
        exact ⟨_, rfl⟩
      · have hge : (ns.length : Int) ≤ i := by omega
        simp -implicitDefEqProofs (maxDischargeDepth := 4) only [go_sem, hns.sl.shr, hns.sl.notOwn, hns.sl.drp, hns.sl.shut1, h68, hlt, alen_sl hns.sl, List.length_map, hge]
        exact ⟨_, rfl⟩
    · have hn0 : ¬ (s : Int) < 0 := by omega
      have hlt : ¬ (ns.length : Int) ≤ (s : Int) := by omega
      have hxo := hns.ok x (List.mem_of_getElem? hx)
      have hs : Sl 2 x.nx (x.es.map ed) := hxo
      have hat := hns.at hx
      have r128 := ractsN hxo
      generalize (ordC ns).1 = w at h68
      cases hk : actK x.kind with
      | false =>
        rw [hk] at r128
        refine ⟨(0, false), ?_⟩
        unfold BackAt
        rw [if_neg (fun h => by unfold actN at h; rw [ha] at h; dsimp only at h; rw [hk] at h; cases h.2)]
        rw [c65]
        simp -implicitDefEqProofs (maxDischargeDepth := 4) only [go_sem, hns.sl.shr, hns.sl.notOwn, hns.sl.drp, hns.sl.shut1, h68, hn0, alen_sl hns.sl, List.length_map, hlt, hat, hs.shr, hs.notOwn, hs.shut0, r128, u_not]
        exact ⟨_, rfl⟩
      | true =>
        rw [hk] at r128
        have hact : actN ns s = true := by unfold actN; rw [ha]; exact hk
        have hB : ∀ r, BackAt ns s r ↔ Back (oR ns) s r := fun r => by unfold BackAt; rw [if_pos ⟨h0, hact⟩, Int.toNat_natCast]
        have hb := bf_back (oR_gph hg) hg.le hm
        have h9 := len_small8 hg.le
        obtain ⟨fr1, p1, F1⟩ : ∃ fr1 : PT, ex cx D 0 65 161 (.seq (.region 0 g65_0 false) (.seq (.region 1 g65_1 false) (.seq (.region 2 g65_2 false) (.cond (.tmp 41) (.seq (.region 3 g65_3 false) .ret) .skip)))) ((PT.nil.set 0 (drp a)).set 1 (drp (iv s))) [] = some (.normal, fr1, []) ∧ fr1.get 0 = a ∧ fr1.get 1 = iv s := by
          simp -implicitDefEqProofs (maxDischargeDepth := 4) only [go_sem, hns.sl.shr, hns.sl.notOwn, hns.sl.drp, hns.sl.shut1, h68, hn0, alen_sl hns.sl, List.length_map, hlt, hat, hs.shr, hs.notOwn, hs.shut0, r128, u_not]
          exact ⟨_, rfl, by simp -implicitDefEqProofs (maxDischargeDepth := 4) only [go_sem], by simp -implicitDefEqProofs (maxDischargeDepth := 4) only [go_sem]⟩
        obtain ⟨fr2, p2, F2, k9⟩ : ∃ fr2 : PT, ex cx D 0 65 161 (.seq (.region 4 g65_4 false) (.region 5 g65_5 false)) fr1 [] = some (.normal, fr2, bk3 (List.replicate ns.length 0)) ∧ PFr fr2 a s ns.length ∧ fr2.get 9 = iv (0 : Nat) := by
          rw [← bk3_new]
          simp -implicitDefEqProofs (maxDischargeDepth := 4) only [go_sem, F1.1, hns.sl.shr, hns.sl.notOwn, alen_sl hns.sl, List.length_map, h9, Nat.le_refl, Nat.zero_le]
          exact ⟨_, rfl, ⟨by simp -implicitDefEqProofs (maxDischargeDepth := 4) only [go_sem, F1.1], by simp -implicitDefEqProofs (maxDischargeDepth := 4) only [go_sem, F1.2], by simp -implicitDefEqProofs (maxDischargeDepth := 4) only [go_sem]⟩, by simp -implicitDefEqProofs (maxDischargeDepth := 4) only [go_sem]; rfl⟩
        obtain ⟨fr3, p3, F3⟩ := loop65_0 (a := a) (s := s) hg.le ns.length 0 fr2 (Nat.sub_zero _) (Nat.zero_le _) F2 k9
        rw [List.replicate_zero, List.nil_append] at p3
        obtain ⟨fr4, p4, F4⟩ : ∃ fr4 : PT, ex cx D 0 65 161 (.region 9 g65_9 false) fr3 (bk3 (List.replicate ns.length (-1))) = some (.normal, fr4, bk3 (List.replicate ns.length (-1))) ∧ RFr65 fr4 a s ns.length 0 := by
          simp -implicitDefEqProofs (maxDischargeDepth := 4) only [go_sem]
          exact ⟨_, rfl, ⟨by simp -implicitDefEqProofs (maxDischargeDepth := 4) only [go_sem, F3.f0], by simp -implicitDefEqProofs (maxDischargeDepth := 4) only [go_sem, F3.f1], by simp -implicitDefEqProofs (maxDischargeDepth := 4) only [go_sem, F3.f8]⟩, by simp -implicitDefEqProofs (maxDischargeDepth := 4) only [go_sem]; rfl⟩
        obtain ⟨fr5, p5, F5⟩ := loop65_3 hns hchk (ns.length + 1) 0 fr4 _ (Nat.sub_zero _) (Nat.zero_le _) List.length_replicate F4
        have hlen : (bfV (oR ns) s ns.length).length = ns.length := by unfold bfV; rw [bfR_len, List.length_replicate]
        change D.loop 0 65 161 l65_3 fr4 (bk3 (List.replicate ns.length (-1))) = some (.exit 2, fr5, bk3 (bfV (oR ns) s ns.length)) at p5
        generalize bfV (oR ns) s ns.length = V at hb p5 hlen
        have g := iv_get (ls := V) (i := s) (by rw [hlen]; exact hm)
        have adr := adr31 hm
        obtain ⟨_, _, q0, t⟩ := x_split p1
        obtain ⟨_, _, q1, q2⟩ := x_split t
        obtain ⟨_, _, q3, q4⟩ := x_split p2
        have e1 : ex cx D 0 65 161 (.block 0 (.loop l65_0)) fr2 (bk3 (List.replicate ns.length 0)) = some (.normal, fr3, bk3 (List.replicate ns.length (-1))) := by rw [x_block, x_loop, p3]; rfl
        have e2 : ex cx D 0 65 161 (.block 2 (.loop l65_3)) fr4 (bk3 (List.replicate ns.length (-1))) = some (.normal, fr5, bk3 V) := by rw [x_block, x_loop, p5]; rfl
        by_cases hneg : gi V s < 0
        · rw [if_pos hneg] at hb
          refine ⟨(0, false), bk3 V, ?_, (hB _).2 hb⟩
          rw [c65, x_cont1 q0, x_cont1 q1, x_cont1 q2, x_cont1 q3, x_assoc, x_cont1 q4, x_cont1 e1, x_assoc, x_cont1 p4, x_cont1 e2]
          simp -implicitDefEqProofs (maxDischargeDepth := 4) only [go_sem, F5.f1, F5.f8, adr, g, hneg]
        · rw [if_neg hneg] at hb
          refine ⟨(gi V s, true), bk3 V, ?_, (hB _).2 hb⟩
          rw [c65, x_cont1 q0, x_cont1 q1, x_cont1 q2, x_cont1 q3, x_assoc, x_cont1 q4, x_cont1 e1, x_assoc, x_cont1 p4, x_cont1 e2]
          simp -implicitDefEqProofs (maxDischargeDepth := 4) only [go_sem, F5.f1, F5.f8, adr, g, hneg]
theorem rback_ok {ns : List Nd} {a : AV} (hns : NsOk ns a) (i : Int) : ∃ r, pcall D 65 [a, iv i] = some (jmpV r) ∧ BackAt ns i r := by
  obtain ⟨r, H', h, hb⟩ := rback_call hns i
  refine ⟨r, ?_, hb⟩
  rw [pcall_eq (v := jmpV r) (H' := H') (by rw [List.map_cons, List.map_cons, List.map_nil, hns.sl.cl2]; exact h)]
  rfl
/-- both tell the same -/
theorem backs_ok {ns : List Nd} {a : AV} (hns : NsOk ns a) (i : Int) : ∃ r, pcall D 64 [a, iv i] = some (jmpV r) ∧ pcall D 65 [a, iv i] = some (jmpV r) := by
  obtain ⟨r, h1, h2⟩ := back_ok hns i
  obtain ⟨r', h3, h4⟩ := rback_ok hns i
  rw [← h2.uniq h4] at h3
  exact ⟨r, h1, h3⟩
structure BkFr (fr : PT) (a : AV) (v i : Int) : Prop where
  f0 : fr.get 0 = a
  f1 : fr.get 1 = iv v
  f5 : fr.get 5 = iv i
theorem loop16 {ns : List Nd} {a : AV} (hns : NsOk ns a) (hn : ns.length ≤ 16) {v : Int} : ∀ (d i : Nat) (fr : PT), ns.length - i = d → i ≤ ns.length → BkFr fr a v i →
    ∃ fr' j, D.loop 0 16 65 l16_0 fr [] = some (.exit 0, fr', []) ∧ BkFr fr' a v j
  | 0, i, fr, hd, hi, F => by
    have hlt := lp1 hd hi
    rw [dl16_0]
    simp -implicitDefEqProofs (maxDischargeDepth := 4) only [go_sem, F.f0, F.f5, hns.sl.shr, hns.sl.notOwn, alen_sl hns.sl, List.length_map, hlt]
    exact ⟨_, i, rfl, by simp -implicitDefEqProofs (maxDischargeDepth := 4) only [go_sem, F.f0], by simp -implicitDefEqProofs (maxDischargeDepth := 4) only [go_sem, F.f1], by simp -implicitDefEqProofs (maxDischargeDepth := 4) only [go_sem, F.f5]⟩
  | d + 1, i, fr, hd, hi, F => by
    have hlt : ((i : Int) < (ns.length : Int)) := by omega
    have w3 := wrap_succ (show i ≤ 1000 by omega)
    obtain ⟨r, h1, h2⟩ := backs_ok hns i
    obtain ⟨r1, r2⟩ := r
    cases r2 <;> (
    rw [dl16_0]
    simp -implicitDefEqProofs (maxDischargeDepth := 4) only [go_sem, F.f0, F.f5, hns.sl.shr, hns.sl.notOwn, hns.sl.shut1, alen_sl hns.sl, List.length_map, hlt, h1, h2, w3]
    exact loop16 hns hn d (i + 1) _ (nd1 hd) (nd2 hd) ⟨by simp -implicitDefEqProofs (maxDischargeDepth := 4) only [go_sem, F.f0], by simp -implicitDefEqProofs (maxDischargeDepth := 4) only [go_sem, F.f1], by simp -implicitDefEqProofs (maxDischargeDepth := 4) only [go_sem]⟩)
theorem obacks_ok {v : AV} {ns : List Nd} (hs : Sl 6 v (ns.map nodeV)) (hok : ∀ x ∈ ns, NdOk x) (i : Int) : ∃ H', callB cx D 0 16 [v, iv i] [] = some (bv true, H') := by
  obtain ⟨os, w, h63, hw, hl⟩ := few_ok hs hok
  obtain ⟨fr1, p1, F1⟩ : ∃ fr1 : PT, ex cx D 0 16 65 (.seq (.region 0 g16_0 false) (.seq (.region 1 g16_1 false) (.region 2 g16_2 false))) ((PT.nil.set 0 (drp v)).set 1 (drp (iv i))) [] = some (.normal, fr1, []) ∧ BkFr fr1 w i (0 : Nat) := by
    simp -implicitDefEqProofs (maxDischargeDepth := 4) only [go_sem, hs.drp, hs.shr, hs.notOwn, hs.shut1, h63, hw.sl.shr, hw.sl.notOwn]
    exact ⟨_, rfl, by simp -implicitDefEqProofs (maxDischargeDepth := 4) only [go_sem], by simp -implicitDefEqProofs (maxDischargeDepth := 4) only [go_sem], by simp -implicitDefEqProofs (maxDischargeDepth := 4) only [go_sem]; rfl⟩
  obtain ⟨fr2, j, p2, F2⟩ := loop16 hw hl os.length 0 fr1 (Nat.sub_zero _) (Nat.zero_le _) F1
  obtain ⟨_, _, q0, t⟩ := x_split p1
  obtain ⟨_, _, q1, q2⟩ := x_split t
  have e1 : ex cx D 0 16 65 (.block 0 (.loop l16_0)) fr1 [] = some (.normal, fr2, []) := by rw [x_block, x_loop, p2]; rfl
  obtain ⟨r, h1, h2⟩ := backs_ok hw i
  obtain ⟨r1, r2⟩ := r
  rw [c16, x_cont1 q0, x_cont1 q1, x_assoc, x_cont1 q2, x_cont1 e1]
  cases r2 <;> (
  simp -implicitDefEqProofs (maxDischargeDepth := 4) only [go_sem, F2.f0, F2.f1, hw.sl.shr, hw.sl.notOwn, hw.sl.shut1, h1, h2, oworks_ok]
  exact ⟨_, rfl⟩)
theorem obacks_row {v0 v1 : AV} (h0 : Rdd Go.Proofs.Try.prog 20 56 [v0]) (h1 : Rdd Go.Proofs.Try.prog 20 3 [v1]) : ∃ H', callB cx D 0 16 [v0, v1] [] = some (bv true, H') := by
  obtain ⟨ns, hs, hok⟩ := nodes_read (d := 5) h0
  obtain ⟨i, w1, e⟩ := rd_int Go.Proofs.Try.underlying3 h1
  cases e
  exact obacks_ok hs hok i
end Go.Abs.Tab
