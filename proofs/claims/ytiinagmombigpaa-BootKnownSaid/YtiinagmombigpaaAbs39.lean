/- The evaluator without fuel. -/
import Derived.Test.YtiinagmombigpaaAbs38
set_option linter.unusedVariables false
set_option linter.unusedSimpArgs false
set_option linter.unnecessarySimpa false
namespace Go.Abs

structure Le (h h' : Hd) : Prop where
  call : ∀ {ro f args H r}, h.call ro f args H = some r → h'.call ro f args H = some r
  loop : ∀ {ro fn nt c fr H r}, h.loop ro fn nt c fr H = some r → h'.loop ro fn nt c fr H = some r
  code : ∀ {ro fn nt c fr H r}, h.code ro fn nt c fr H = some r → h'.code ro fn nt c fr H = some r
theorem Le.refl (h : Hd) : Le h h := ⟨id, id, id⟩
theorem Le.trans {a b c : Hd} (h : Le a b) (k : Le b c) : Le a c := ⟨fun x => k.call (h.call x), fun x => k.loop (h.loop x), fun x => k.code (h.code x)⟩

structure Chain (S : Nat → Hd) (D : Hd) : Prop where
  up : ∀ k, Le (S k) (S (k + 1))
  le : ∀ k, Le (S k) D
  call : ∀ {ro f args H r}, D.call ro f args H = some r → ∃ k, (S k).call ro f args H = some r
  loop : ∀ {ro fn nt c fr H r}, D.loop ro fn nt c fr H = some r → ∃ k, (S k).loop ro fn nt c fr H = some r
  code : ∀ {ro fn nt c fr H r}, D.code ro fn nt c fr H = some r → ∃ k, (S k).code ro fn nt c fr H = some r

theorem Chain.mono {S : Nat → Hd} {D : Hd} (C : Chain S D) {k : Nat} : ∀ {k' : Nat}, k ≤ k' → Le (S k) (S k')
  | 0, h => by have : k = 0 := by omega
               subst this; exact .refl _
  | k' + 1, h => by
    by_cases e : k = k' + 1
    · subst e; exact .refl _
    · exact (C.mono (show k ≤ k' by omega)).trans (C.up k')

structure Cont (S : Nat → Hd) (D : Hd) {α : Type} (X : Hd → Option α) : Prop where
  up : ∀ {k k' r}, k ≤ k' → X (S k) = some r → X (S k') = some r
  lim : ∀ {r}, X D = some r → ∃ k, X (S k) = some r
  le : ∀ {k r}, X (S k) = some r → X D = some r

section
variable {S : Nat → Hd} {D : Hd} {α β : Type}

theorem Cont.const (x : Option α) : Cont S D fun _ => x := ⟨fun _ h => h, fun h => ⟨0, h⟩, fun h => h⟩

theorem Cont.comp {F : Hd → Option α → Option β} {X : Hd → Option α} (hn : ∀ h, F h none = none) (hX : Cont S D X) (hF : ∀ a, Cont S D fun h => F h (some a)) : Cont S D fun h => F h (X h) := by
  refine ⟨fun {k k' r} hk h => ?_, fun {r} h => ?_, fun {k r} h => ?_⟩
  · cases hx : X (S k) with
    | none => rw [hx, hn] at h; cases h
    | some a => rw [hx] at h; rw [hX.up hk hx]; exact (hF a).up hk h
  · cases hx : X D with
    | none => rw [hx, hn] at h; cases h
    | some a =>
      rw [hx] at h
      obtain ⟨k1, h1⟩ := hX.lim hx
      obtain ⟨k2, h2⟩ := (hF a).lim h
      refine ⟨max k1 k2, ?_⟩
      rw [hX.up (Nat.le_max_left _ _) h1]
      exact (hF a).up (Nat.le_max_right _ _) h2
  · cases hx : X (S k) with
    | none => rw [hx, hn] at h; cases h
    | some a => rw [hx] at h; rw [hX.le hx]; exact (hF a).le h

theorem Cont.call (C : Chain S D) {ro f args H} : Cont S D fun h => h.call ro f args H := ⟨fun hk h => (C.mono hk).call h, fun h => C.call h, fun {k r} h => (C.le k).call h⟩
theorem Cont.loop (C : Chain S D) {ro fn nt c fr H} : Cont S D fun h => h.loop ro fn nt c fr H := ⟨fun hk h => (C.mono hk).loop h, fun h => C.loop h, fun {k r} h => (C.le k).loop h⟩
theorem Cont.code (C : Chain S D) {ro fn nt c fr H} : Cont S D fun h => h.code ro fn nt c fr H := ⟨fun hk h => (C.mono hk).code h, fun h => C.code h, fun {k r} h => (C.le k).code h⟩

theorem cont_docall (C : Chain S D) {ro : Nat} {g : FuncId} {args : List AV} {H : Hp} (w : Way) : Cont S D fun h => docall h ro g args H w := by
  cases w with
  | pure => exact Cont.comp (F := fun _ x => purely x 0 H) (fun _ => rfl) (Cont.call C) fun a => .const _
  | quiet => exact Cont.comp (F := fun _ x => purely x H.length H) (fun _ => rfl) (Cont.call C) fun a => .const _
  | full => exact Cont.call C

theorem cont_round (C : Chain S D) {ro l : Nat} {args : List AV} {H : Hp} : Cont S D fun h => round h ro l args H := by
  simp only [round]
  split
  · exact .const _
  · split
    · rename_i r _
      split
      · refine Cont.comp (F := fun h x => bodyRound h ro l r x) (fun _ => rfl) (Cont.code C) fun a => ?_
        obtain ⟨e, fr, H1⟩ := a
        cases e with
        | normal =>
          simp only [bodyRound]
          split
          · split
            · exact Cont.comp (F := fun _ x => endRound l x) (fun _ => rfl) (Cont.code C) fun a => .const _
            · exact .const _
          · exact .const _
        | exit id => exact .const none
        | ret => exact .const none
      · exact .const _
    · exact .const _

theorem cont_step (C : Chain S D) {cx : Cx} {ro nt nm : Nat} {fn : FuncId} {ops : Array Oper} {fr : PT} {H : Hp} (oo : Option Oper) : Cont S D fun h => step cx h ro fn nt ops nm fr H oo := by
  cases oo with
  | none => exact .const none
  | some o =>
    simp only [step]
    cases hw : wants ops fr o with
    | none => exact .const none
    | some b =>
      cases b with
      | false => exact .const _
      | true =>
        simp only [stepG, stepO]
        split
        · rename_i f args _
          simp only [calls]
          split
          · exact Cont.comp (F := fun _ x => stepped nt ops o fr _ _ x) (fun _ => rfl) (cont_docall C _) fun a => .const _
          · exact Cont.comp (F := fun _ x => stepped nt ops o fr _ _ x) (fun _ => rfl) (cont_round C) fun a => .const _
          · exact .const _
        · exact .const _

theorem cont_run (C : Chain S D) {cx : Cx} {ro nt : Nat} {fn : FuncId} {ops : Array Oper} {nm : Hp → Nat → Nat} : ∀ (l : List Nat) {fr : PT} {H : Hp}, Cont S D fun h => run cx h ro fn nt ops nm l fr H
  | [], fr, H => .const _
  | i :: l, fr, H => by
    simp only [run]
    refine Cont.comp (F := fun h x => match x with | some (f, fr', H') => cons1 i f (run cx h ro fn nt ops nm l fr' H') | none => none) (fun _ => rfl) (cont_step C _) fun a => ?_
    obtain ⟨f, fr1, H1⟩ := a
    exact Cont.comp (F := fun _ x => cons1 i f x) (fun _ => rfl) (cont_run C l) fun a => .const _

theorem cont_region (C : Chain S D) {cx : Cx} {ro nt : Nat} {fn : FuncId} {ops : Array Oper} {fr : PT} {H : Hp} (d : Bool) : Cont S D fun h => region cx h ro fn nt ops fr H d := by
  cases d with
  | true =>
    simp only [region]
    split
    · exact Cont.comp (F := fun _ x => ranAny (befores ops) x) (fun _ => rfl) (cont_run C _) fun a => .const _
    · exact .const _
  | false => exact Cont.comp (F := fun _ x => ranOnly x) (fun _ => rfl) (cont_run C _) fun a => .const _

theorem cont_ex (C : Chain S D) {cx : Cx} {ro nt : Nat} {fn : FuncId} : ∀ (c : Code) {fr : PT} {H : Hp}, Cont S D fun h => ex cx h ro fn nt c fr H
  | .skip, fr, H => .const _
  | .label _, fr, H => .const _
  | .region id ops draw, fr, H => by
    simp only [ex]
    exact Cont.comp (F := fun _ x => normR x) (fun _ => rfl) (cont_region C draw) fun a => .const _
  | .seq x y, fr, H => by
    simp only [ex]
    refine Cont.comp (F := fun h r => thenR (ex cx h ro fn nt y) r) (fun _ => rfl) (cont_ex C x) fun a => ?_
    obtain ⟨e, fr1, H1⟩ := a
    cases e with
    | normal => exact cont_ex C y
    | exit id => exact .const _
    | ret => exact .const _
  | .cond c x y, fr, H => by
    simp only [ex, condR]
    split
    · exact cont_ex C x
    · exact cont_ex C y
    · exact .const _
  | .block id x, fr, H => by
    simp only [ex]
    exact Cont.comp (F := fun _ r => blockR id r) (fun _ => rfl) (cont_ex C x) fun a => .const _
  | .loop x, fr, H => by simp only [ex]; exact Cont.loop C
  | .rangeFunc f ps assign body, fr, H => by
    simp only [ex, ranged]
    split
    · exact Cont.comp (F := fun _ r => endLoop H.length fr r) (fun _ => rfl) (Cont.call C) fun a => .const _
    · exact .const _
  | .exit id, fr, H => .const _
  | .scope x, fr, H => by simp only [ex]; exact cont_ex C x
  | .ret, fr, H => .const _
  | .goto _, fr, H => .const _
  | .refuse _, fr, H => .const _

theorem cont_loopB (C : Chain S D) {cx : Cx} {ro nt : Nat} {fn : FuncId} {c : Code} {fr : PT} {H : Hp} : Cont S D fun h => loopB cx h ro fn nt c fr H := by
  simp only [loopB]
  refine Cont.comp (F := fun h r => thenR (trimmed (h.loop ro fn nt c) H.length) r) (fun _ => rfl) (cont_ex C c) fun a => ?_
  obtain ⟨e, fr1, H1⟩ := a
  cases e with
  | normal =>
    simp only [thenR, trimmed]
    split
    · exact Cont.loop C
    · exact Cont.loop C
  | exit id => exact .const _
  | ret => exact .const _

theorem cont_callB (C : Chain S D) {cx : Cx} {ro : Nat} {f : FuncId} {args : List AV} {H : Hp} : Cont S D fun h => callB cx h ro f args H := by
  simp only [callB]
  cases cx.fns f with
  | none => exact .const none
  | some fn =>
    simp only [funced]
    cases fn.body with
    | none => exact .const none
    | some c =>
      simp only [bodied]
      split
      · exact Cont.comp (F := fun _ r => returned cx fn.results.toList r) (fun _ => rfl) (cont_ex C c) fun a => .const _
      · exact .const _
end

theorem chain_two {h h' : Hd} (l : Le h h') : Chain (fun k => if k = 0 then h else h') h' := by
  refine ⟨fun k => ?_, fun k => ?_, fun hr => ⟨1, by simpa using hr⟩, fun hr => ⟨1, by simpa using hr⟩, fun hr => ⟨1, by simpa using hr⟩⟩
  · by_cases e : k = 0
    · simp [e, l]
    · simp [e, Le.refl]
  · by_cases e : k = 0
    · simp [e, l]
    · simp [e, Le.refl]

theorem lvl_up (cx : Cx) : ∀ k, Le (lvl cx k) (lvl cx (k + 1))
  | 0 => ⟨fun h => (by cases h), fun h => (by cases h), fun h => by cases h⟩
  | k + 1 => by
    have C := chain_two (lvl_up cx k)
    exact ⟨fun h => (cont_callB C).le (k := 0) (by exact h), fun h => (cont_loopB C).le (k := 0) (by exact h), fun h => (cont_ex C _).le (k := 0) (by exact h)⟩

theorem lvl_mono (cx : Cx) {k : Nat} : ∀ {k' : Nat}, k ≤ k' → Le (lvl cx k) (lvl cx k')
  | 0, h => by have : k = 0 := by omega
               subst this; exact .refl _
  | k' + 1, h => by
    by_cases e : k = k' + 1
    · subst e; exact .refl _
    · exact (lvl_mono cx (show k ≤ k' by omega)).trans (lvl_up cx k')

open Classical in
/-- what comes, with enough fuel -/
noncomputable def limit {α : Type} (X : Nat → Option α) : Option α := if h : ∃ k r, X k = some r then some h.choose_spec.choose else none

theorem limit_spec {α : Type} {X : Nat → Option α} (hm : ∀ k k' r, k ≤ k' → X k = some r → X k' = some r) {r : α} : limit X = some r ↔ ∃ k, X k = some r := by
  unfold limit
  split
  · rename_i h
    have h1 := h.choose_spec.choose_spec
    constructor
    · intro e; cases e; exact ⟨_, h1⟩
    · rintro ⟨k, hk⟩
      have a := hm _ (max k h.choose) _ (Nat.le_max_right _ _) h1
      have b := hm _ (max k h.choose) _ (Nat.le_max_left _ _) hk
      rw [a] at b; exact b
  · rename_i h
    constructor
    · intro e; cases e
    · rintro ⟨k, hk⟩; exact absurd ⟨k, _, hk⟩ h

noncomputable def den (cx : Cx) : Hd where
  call ro f args H := limit fun k => (lvl cx k).call ro f args H
  loop ro fn nt c fr H := limit fun k => (lvl cx k).loop ro fn nt c fr H
  code ro fn nt c fr H := limit fun k => (lvl cx k).code ro fn nt c fr H

theorem den_call {cx : Cx} {ro f args H r} : (den cx).call ro f args H = some r ↔ ∃ k, (lvl cx k).call ro f args H = some r := limit_spec fun k k' r hk h => (lvl_mono cx hk).call h
theorem den_loop {cx : Cx} {ro fn nt c fr H r} : (den cx).loop ro fn nt c fr H = some r ↔ ∃ k, (lvl cx k).loop ro fn nt c fr H = some r := limit_spec fun k k' r hk h => (lvl_mono cx hk).loop h
theorem den_code {cx : Cx} {ro fn nt c fr H r} : (den cx).code ro fn nt c fr H = some r ↔ ∃ k, (lvl cx k).code ro fn nt c fr H = some r := limit_spec fun k k' r hk h => (lvl_mono cx hk).code h

theorem den_chain (cx : Cx) : Chain (lvl cx) (den cx) :=
  ⟨lvl_up cx, fun k => ⟨fun h => den_call.2 ⟨k, h⟩, fun h => den_loop.2 ⟨k, h⟩, fun h => den_code.2 ⟨k, h⟩⟩, fun h => den_call.1 h, fun h => den_loop.1 h, fun h => den_code.1 h⟩

theorem opt_eq {α : Type} {x y : Option α} (h : ∀ r, x = some r ↔ y = some r) : x = y := by
  cases x with
  | none => cases y with
    | none => rfl
    | some b => have := (h b).2 rfl; cases this
  | some a => exact ((h a).1 rfl).symm

theorem den_call_eq (cx : Cx) (ro : Nat) (f : FuncId) (args : List AV) (H : Hp) : (den cx).call ro f args H = callB cx (den cx) ro f args H := by
  refine opt_eq fun r => ⟨fun h => ?_, fun h => ?_⟩
  · obtain ⟨k, hk⟩ := den_call.1 h
    cases k with
    | zero => cases hk
    | succ k => exact (cont_callB (den_chain cx)).le (k := k) hk
  · obtain ⟨k, hk⟩ := (cont_callB (den_chain cx)).lim h
    exact den_call.2 ⟨k + 1, hk⟩
theorem den_loop_eq (cx : Cx) (ro : Nat) (fn : FuncId) (nt : Nat) (c : Code) (fr : PT) (H : Hp) : (den cx).loop ro fn nt c fr H = loopB cx (den cx) ro fn nt c fr H := by
  refine opt_eq fun r => ⟨fun h => ?_, fun h => ?_⟩
  · obtain ⟨k, hk⟩ := den_loop.1 h
    cases k with
    | zero => cases hk
    | succ k => exact (cont_loopB (den_chain cx)).le (k := k) hk
  · obtain ⟨k, hk⟩ := (cont_loopB (den_chain cx)).lim h
    exact den_loop.2 ⟨k + 1, hk⟩
theorem den_code_eq (cx : Cx) (ro : Nat) (fn : FuncId) (nt : Nat) (c : Code) (fr : PT) (H : Hp) : (den cx).code ro fn nt c fr H = ex cx (den cx) ro fn nt c fr H := by
  refine opt_eq fun r => ⟨fun h => ?_, fun h => ?_⟩
  · obtain ⟨k, hk⟩ := den_code.1 h
    cases k with
    | zero => cases hk
    | succ k => exact (cont_ex (den_chain cx) c).le (k := k) hk
  · obtain ⟨k, hk⟩ := (cont_ex (den_chain cx) c).lim h
    exact den_code.2 ⟨k + 1, hk⟩

end Go.Abs
