/- A region that draws its order goes through in whatever order. -/
import Derived.Test.YtiinagmombigpaaAbs36
import Derived.Orders
set_option linter.unusedVariables false
set_option linter.unusedSimpArgs false
set_option linter.unnecessarySimpa false
namespace Go.Abs
variable {P : Program}

section
variable {cx : Cx} {h : Hd} {ro nt : Nat} {fn : FuncId} {ops : Array Oper} {nm : Nat → Nat}

theorem run_fst : ∀ (l : List Nat) {fr fr' : PT} {H H' : Hp} {fs : List (Nat × Fp)}, run cx h ro fn nt ops (fun _ i => nm i) l fr H = some (fs, fr', H') → fs.map (·.1) = l
  | [], fr, fr', H, H', fs, hr => by simp only [run] at hr; cases hr; rfl
  | i :: l, fr, fr', H, H', fs, hr => by
    obtain ⟨f, fr1, H1, fs1, h1, h2, rfl⟩ := run_cons hr
    simp only [List.map_cons, run_fst l h2]

def Bound (cx : Cx) (fn : FuncId) (ops : Array Oper) (nm : Nat → Nat) (H : Hp) : Prop := ∀ (i : Nat) (o : Oper), ops[i]? = some o → isAlloc cx fn o = true → nm i < H.length

theorem front (G : Grow h) {i : Nat} {l2 : List Nat} : ∀ (l1 : List Nat) {fr fr' : PT} {H H' : Hp} {fs : List (Nat × Fp)}, Bound cx fn ops nm H → run cx h ro fn nt ops (fun _ i => nm i) (l1 ++ i :: l2) fr H = some (fs, fr', H') →
    (∀ f a b, fs = a ++ (i, f) :: b → a.length = l1.length → ∀ p ∈ a, p.2.apart f = true) →
    ∃ f fr1 H1 a b, step cx h ro fn nt ops (nm i) fr H ops[i]? = some (f, fr1, H1) ∧ run cx h ro fn nt ops (fun _ i => nm i) (l1 ++ l2) fr1 H1 = some (a ++ b, fr', H') ∧ fs = a ++ (i, f) :: b ∧ a.length = l1.length
  | [], fr, fr', H, H', fs, hB, hr, hap => by
    obtain ⟨f, fr1, H1, fs1, h1, h2, rfl⟩ := run_cons hr
    exact ⟨f, fr1, H1, [], fs1, h1, h2, rfl, rfl⟩
  | j :: l1, fr, fr', H, H', fs, hB, hr, hap => by
    obtain ⟨g, fr1, H1, fs1, h1, h2, rfl⟩ := run_cons hr
    have hB1 : Bound cx fn ops nm H1 := fun i o ho ha => Nat.lt_of_lt_of_le (hB i o ho ha) (step_grow G h1)
    obtain ⟨f, fr2, H2, a, b, k1, k2, k3, k4⟩ := front G l1 hB1 h2 fun f a b e hl p hp => hap f ((j, g) :: a) b (by rw [e]; rfl) (by simp [hl]) p (by simp [hp])
    have hgf := hap f ((j, g) :: a) b (by rw [k3]; rfl) (by simp [k4]) (j, g) (by simp)
    obtain ⟨fr3, H3, s1, s2⟩ := swap h1 k1 hgf (fun o ho ha => hB j o ho ha) (fun o ho ha => hB1 i o ho ha)
    refine ⟨f, fr3, H3, (j, g) :: a, b, s1, ?_, by rw [k3]; rfl, by simp [k4]⟩
    simp only [List.cons_append, run, s2, k2, cons1]

/-- what is listed has all that it waits for listed -/
def Closed (ops : Array Oper) (listed : Array Bool) : Prop := ∀ (i : Nat) (o : Oper), listed[i]? = some true → ops[i]? = some o → ∀ e ∈ o.after.toList, Region.binds .any e = true → listed[e.on]? = some true

theorem bits_one (acc : List Nat) (j : Nat) : ∀ (l : List Edge) (s : Nat), (l.foldl (fun s e => if Region.binds .any e then s ||| 2 ^ e.on ||| acc.getD e.on 0 else s) s).testBit j = true →
    s.testBit j = true ∨ ∃ e ∈ l, Region.binds .any e = true ∧ (e.on = j ∨ (acc.getD e.on 0).testBit j = true)
  | [], s, hb => .inl hb
  | e :: l, s, hb => by
    rw [List.foldl_cons] at hb
    rcases bits_one acc j l _ hb with h1 | ⟨e', h1, h2⟩
    · split at h1
      · rename_i hbd
        simp only [Nat.testBit_or, Nat.testBit_two_pow, Bool.or_eq_true, decide_eq_true_eq] at h1
        rcases h1 with (h1 | h1) | h1
        · exact .inl h1
        · exact .inr ⟨e, by simp, hbd, .inl h1⟩
        · exact .inr ⟨e, by simp, hbd, .inr h1⟩
      · exact .inl h1
    · exact .inr ⟨e', by simp [h1], h2⟩

def GoodB (pre : List Oper) (acc : List Nat) : Prop := acc.length = pre.length ∧ ∀ i j, (acc.getD i 0).testBit j = true →
  ∃ o, pre[i]? = some o ∧ ∃ e ∈ o.after.toList, Region.binds .any e = true ∧ (e.on = j ∨ (e.on < i ∧ (acc.getD e.on 0).testBit j = true))

theorem goodB : ∀ (os pre : List Oper) (acc : List Nat), GoodB pre acc → GoodB (pre ++ os) (os.foldl (fun acc o => acc ++ [o.after.toList.foldl (fun s e => if Region.binds .any e then s ||| 2 ^ e.on ||| acc.getD e.on 0 else s) 0]) acc)
  | [], pre, acc, hg => by simpa using hg
  | o :: os, pre, acc, hg => by
    rw [List.foldl_cons, List.append_cons]
    refine goodB os (pre ++ [o]) _ ⟨by simp [hg.1], fun i j hb => ?_⟩
    have hlen := hg.1
    have hout : ∀ k, acc.length ≤ k → (acc.getD k 0).testBit j = false := fun k hk => by
      rw [List.getD_eq_getElem?_getD, List.getElem?_eq_none hk]; simp
    have hkeep : ∀ (x k : Nat), (acc.getD k 0).testBit j = true → k < acc.length ∧ ((acc ++ [x]).getD k 0).testBit j = true := fun x k hk => by
      have hlt : k < acc.length := by
        apply Nat.lt_of_not_le
        intro hle
        rw [hout k hle] at hk; cases hk
      refine ⟨hlt, ?_⟩
      rw [List.getD_eq_getElem?_getD, List.getElem?_append_left hlt, ← List.getD_eq_getElem?_getD]; exact hk
    by_cases hi : i < acc.length
    · rw [List.getD_eq_getElem?_getD, List.getElem?_append_left hi, ← List.getD_eq_getElem?_getD] at hb
      obtain ⟨o', h1, e, h2, h3, h4⟩ := hg.2 i j hb
      refine ⟨o', by rw [List.getElem?_append_left (by omega)]; exact h1, e, h2, h3, ?_⟩
      rcases h4 with h4 | ⟨h4, h5⟩
      · exact .inl h4
      · exact .inr ⟨h4, (hkeep _ _ h5).2⟩
    · by_cases hie : i = acc.length
      · subst hie
        rw [List.getD_eq_getElem?_getD, List.getElem?_concat_length, Option.getD_some] at hb
        rcases bits_one acc j _ _ hb with h1 | ⟨e, h1, h2, h3⟩
        · simp at h1
        · refine ⟨o, by rw [hlen]; simp, e, h1, h2, ?_⟩
          rcases h3 with h3 | h3
          · exact .inl h3
          · exact .inr (hkeep _ _ h3)
      · rw [List.getD_eq_getElem?_getD, List.getElem?_eq_none (by simp; omega)] at hb
        simp at hb

theorem befores_good (ops : Array Oper) : GoodB ops.toList (befores ops) := by
  have := goodB ops.toList [] [] ⟨rfl, fun i j hb => by simp at hb⟩
  simpa [befores] using this

/-- who waits, in however many steps, for one that is not listed, has itself one not listed that it waits for -/
theorem listed_of_bit {listed : Array Bool} (hc : Closed ops listed) {j : Nat} : ∀ (n i : Nat), i < n → ∀ o, ops[i]? = some o → (∀ e ∈ o.after.toList, Region.binds .any e = true → listed[e.on]? = some true) →
    ((befores ops).getD i 0).testBit j = true → listed[j]? = some true
  | 0, i, hi, o, ho, ha, hb => by omega
  | n + 1, i, hi, o, ho, ha, hb => by
    obtain ⟨o', h1, e, h2, h3, h4⟩ := (befores_good ops).2 i j hb
    rw [Array.getElem?_toList, ho] at h1
    cases h1
    have h5 := ha e h2 h3
    rcases h4 with rfl | ⟨h4, h6⟩
    · exact h5
    · obtain ⟨o2, k1, _⟩ := (befores_good ops).2 e.on j h6
      rw [Array.getElem?_toList] at k1
      exact listed_of_bit hc n e.on (by omega) o2 k1 (hc e.on o2 h5 k1) h6

theorem apartAll_mid {bs : List Nat} {i : Nat} {f : Fp} : ∀ {a b : List (Nat × Fp)}, apartAll bs (a ++ (i, f) :: b) = true →
    (∀ p ∈ a, (bs.getD i 0).testBit p.1 = true ∨ p.2.apart f = true) ∧ apartAll bs (a ++ b) = true
  | [], b, hap => by
    simp only [List.nil_append, apartAll, Bool.and_eq_true] at hap
    exact ⟨fun p hp => (by cases hp), hap.2⟩
  | (j, g) :: a, b, hap => by
    simp only [List.cons_append, apartAll, Bool.and_eq_true, List.all_eq_true] at hap
    obtain ⟨h1, h2⟩ := hap
    obtain ⟨h3, h4⟩ := apartAll_mid h2
    refine ⟨fun p hp => ?_, ?_⟩
    · rcases List.mem_cons.1 hp with rfl | hp
      · have := h1 (i, f) (by simp)
        simpa using this
      · exact h3 p hp
    · simp only [List.cons_append, apartAll, Bool.and_eq_true, List.all_eq_true]
      refine ⟨fun p hp => h1 p ?_, h4⟩
      rcases List.mem_append.1 hp with hp | hp
      · exact List.mem_append.2 (.inl hp)
      · exact List.mem_append.2 (.inr (by simp [hp]))

theorem exists_min : ∀ (l : List Nat), l ≠ [] → ∃ m ∈ l, ∀ x ∈ l, m ≤ x
  | [], hn => absurd rfl hn
  | [x], _ => ⟨x, by simp, fun y hy => by simp at hy; omega⟩
  | x :: y :: l, _ => by
    obtain ⟨m, h1, h2⟩ := exists_min (y :: l) (by simp)
    by_cases hx : x ≤ m
    · exact ⟨x, by simp, fun z hz => by
        rcases List.mem_cons.1 hz with rfl | hz
        · exact Nat.le_refl _
        · exact Nat.le_trans hx (h2 z hz)⟩
    · exact ⟨m, by simp only [List.mem_cons] at h1 ⊢; exact .inr h1, fun z hz => by
        rcases List.mem_cons.1 hz with rfl | hz
        · omega
        · exact h2 z hz⟩

theorem ready_spec {listed : Array Bool} {i : Nat} (hs : listed.size = ops.size) : i ∈ Region.ready .any ops listed ↔
    i < ops.size ∧ listed[i]? = some false ∧ ∀ o, ops[i]? = some o → ∀ e ∈ o.after.toList, Region.binds .any e = true → listed[e.on]? = some true := by
  have hgd : ∀ k, listed.getD k false = true ↔ listed[k]? = some true := fun k => by
    rw [Array.getD_eq_getD_getElem?]
    cases listed[k]? with
    | none => simp
    | some b => simp
  have hgt : ∀ k, k < listed.size → ((!listed.getD k true) = true ↔ listed[k]? = some false) := fun k hk => by
    rw [Array.getD_eq_getD_getElem?]
    rw [Array.getElem?_eq_getElem hk]
    simp
  unfold Region.ready
  rw [List.mem_filter, List.mem_range, Bool.and_eq_true]
  constructor
  · rintro ⟨h1, h2, h3⟩
    refine ⟨h1, (hgt i (by omega)).1 h2, fun o ho e he hb => ?_⟩
    rw [ho] at h3
    simp only [Option.map_some, Option.getD_some, Array.all_eq_true'] at h3
    have := h3 e (by simpa using he)
    rw [hb] at this
    simp only [Bool.not_true, Bool.false_or] at this
    exact (hgd _).1 this
  · rintro ⟨h1, h2, h3⟩
    refine ⟨h1, (hgt i (by omega)).2 h2, ?_⟩
    rw [Array.getElem?_eq_getElem h1]
    simp only [Option.map_some, Option.getD_some, Array.all_eq_true']
    intro e he
    cases hb : Region.binds .any e with
    | false => simp
    | true =>
      simp only [Bool.not_true, Bool.false_or]
      exact (hgd _).2 (h3 _ (Array.getElem?_eq_getElem h1) e (by simpa using he) hb)

theorem lin (G : Grow h) (hfw : forward ops = true) : ∀ (n t : Nat) (listed : Array Bool) (L : List Nat) {fr fr' : PT} {H H' : Hp} {fs : List (Nat × Fp)}, L.length = n → listed.size = ops.size → (∀ i, i ∈ L ↔ listed[i]? = some false) → L.Nodup → Closed ops listed → Bound cx fn ops nm H →
    run cx h ro fn nt ops (fun _ i => nm i) L fr H = some (fs, fr', H') → apartAll (befores ops) fs = true →
    ∃ fs', run cx h ro fn nt ops (fun _ i => nm i) (Region.linearise.go .any ops n t listed []) fr H = some (fs', fr', H')
  | 0, t, listed, L, fr, fr', H, H', fs, hl, hs, hL, hnd, hc, hB, hr, hap => by
    have : L = [] := List.length_eq_zero_iff.1 hl
    subst this
    exact ⟨fs, hr⟩
  | n + 1, t, listed, L, fr, fr', H, H', fs, hl, hs, hL, hnd, hc, hB, hr, hap => by
    have hlt : ∀ i, i ∈ L → i < ops.size := fun i hi => by
      have := (Array.getElem?_eq_some_iff.1 ((hL i).1 hi)).1
      omega
    have hne : Region.ready .any ops listed ≠ [] := by
      have hLn : L ≠ [] := by intro e; rw [e] at hl; cases hl
      obtain ⟨m, h1, h2⟩ := exists_min L hLn
      intro hnil
      have : m ∈ Region.ready .any ops listed := by
        rw [ready_spec hs]
        refine ⟨hlt m h1, (hL m).1 h1, fun o ho e he hb => ?_⟩
        have hlt' : e.on < m := by
          unfold forward at hfw
          rw [List.all_eq_true] at hfw
          have := hfw (o, m) (by
            rw [List.mem_iff_getElem?]
            exact ⟨m, by rw [List.getElem?_zipIdx, Array.getElem?_toList, ho]; simp⟩)
          simp only [List.all_eq_true] at this
          have := this e he
          rw [hb] at this
          simpa using this
        have hnm : e.on ∉ L := fun hin => by have := h2 _ hin; omega
        have hsz : e.on < listed.size := by have := hlt m h1; omega
        rw [Array.getElem?_eq_getElem hsz]
        cases hv : listed[e.on] with
        | true => rfl
        | false => exact absurd ((hL e.on).2 (by rw [Array.getElem?_eq_getElem hsz, hv])) hnm
      rw [hnil] at this
      cases this
    simp only [Region.linearise.go]
    change ∃ fs', run cx h ro fn nt ops (fun _ i => nm i) (match (Region.ready .any ops listed)[t % (Region.ready .any ops listed).length]? with
      | some i => Region.linearise.go .any ops n (t / (Region.ready .any ops listed).length) (listed.setIfInBounds i true) [i]
      | none => [].reverse) fr H = some (fs', fr', H')
    cases hi : (Region.ready .any ops listed)[t % (Region.ready .any ops listed).length]? with
    | none =>
      exfalso
      have hpos : 0 < (Region.ready .any ops listed).length := List.length_pos_iff.2 hne
      have := Nat.mod_lt t hpos
      rw [List.getElem?_eq_none_iff] at hi
      omega
    | some i =>
      simp only []
      rw [linearise_go_acc, List.reverse_singleton, List.singleton_append]
      have hmem := List.mem_of_getElem? hi
      rw [ready_spec hs] at hmem
      obtain ⟨r1, r2, r3⟩ := hmem
      have hiL := (hL i).2 r2
      obtain ⟨l1, l2, rfl⟩ := List.append_of_mem hiL
      have hfst := run_fst _ hr
      obtain ⟨f, fr1, H1, a, b, k1, k2, k3, k4⟩ := front G l1 hB hr (fun f a b e hlen p hp => by
        rw [e] at hap hfst
        rcases (apartAll_mid hap).1 p hp with hbit | hok
        · exfalso
          have hj := listed_of_bit hc (i + 1) i (by omega) _ (Array.getElem?_eq_getElem r1) (r3 _ (Array.getElem?_eq_getElem r1)) hbit
          have hpL : p.1 ∈ l1 ++ i :: l2 := by
            rw [← hfst]
            exact List.mem_map.2 ⟨p, List.mem_append.2 (.inl hp), rfl⟩
          rw [(hL p.1).1 hpL] at hj
          cases hj
        · exact hok)
      have hnd2 : (l1 ++ l2).Nodup ∧ i ∉ l1 ++ l2 := by
        rw [List.nodup_append] at hnd ⊢
        obtain ⟨n1, n2, n3⟩ := hnd
        rw [List.nodup_cons] at n2
        refine ⟨⟨n1, n2.2, fun a ha b hb => n3 a ha b (by simp [hb])⟩, fun hin => ?_⟩
        rcases List.mem_append.1 hin with hin | hin
        · exact n3 i hin i (by simp) rfl
        · exact n2.1 hin
      have hset : ∀ k, (listed.setIfInBounds i true)[k]? = if i = k then some true else listed[k]? := fun k => by
        rw [Array.getElem?_setIfInBounds]
        split
        · rename_i e; subst e; rw [if_pos (by omega)]
        · rfl
      obtain ⟨fs', hfin⟩ := lin G hfw n (t / (Region.ready .any ops listed).length) (listed.setIfInBounds i true) (l1 ++ l2) (fs := a ++ b) (by simp at hl ⊢; omega) (by simpa using hs) (fun k => by
          rw [hset k]
          constructor
          · intro hk
            rw [if_neg (fun (e : i = k) => hnd2.2 (e ▸ hk))]
            refine (hL k).1 ?_
            rcases List.mem_append.1 hk with hk | hk
            · exact List.mem_append.2 (.inl hk)
            · exact List.mem_append.2 (.inr (by simp [hk]))
          · intro hk
            split at hk
            · cases hk
            · rename_i hne'
              have := (hL k).2 hk
              rcases List.mem_append.1 this with h' | h'
              · exact List.mem_append.2 (.inl h')
              · rcases List.mem_cons.1 h' with h' | h'
                · exact absurd h'.symm hne'
                · exact List.mem_append.2 (.inr h')) hnd2.1 (fun k o hk ho e he hb => by
          rw [hset] at hk ⊢
          split
          · rfl
          · split at hk
            · rename_i hke; subst hke; exact r3 o ho e he hb
            · exact hc k o hk ho e he hb) (fun j o ho ha => Nat.lt_of_lt_of_le (hB j o ho ha) (step_grow G k1)) k2 (by rw [k3] at hap; exact (apartAll_mid hap).2)
      exact ⟨(i, f) :: fs', by simp only [run, k1, hfin, cons1]⟩

end

theorem reorders {cx : Cx} {h : Hd} (hm : P.follows .mixedOrders = true) (G : Grow h) : Reorders P cx h :=
  ⟨hm, fun {ro fn nt ops nm fr fr' H H' fs} hfw hB hr hap t => by
    unfold Region.linearise
    refine lin G hfw ops.size t (Array.replicate ops.size false) (List.range ops.size) (by simp) (by simp) (fun i => ?_) List.nodup_range (fun i o hi => ?_) hB hr hap
    · rw [List.mem_range, Array.getElem?_replicate]
      split
      · rename_i h; simp [h]
      · rename_i h; simp [h]
    · rw [Array.getElem?_replicate] at hi
      split at hi <;> cases hi⟩

theorem lvl_sound {cx : Cx} (hT : TOk P cx.T) (hF : FOk P cx) (hm : P.follows .mixedOrders = true) (k : Nat) : HdOk P k (lvl cx k) :=
  lvl_ok hT hF (fun k => reorders hm (lvl_grow cx k)) k

end Go.Abs
