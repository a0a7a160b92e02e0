/- Code. -/
import Derived.Test.YtiinagmombigpaaAbs26
import Derived.Scope
set_option linter.unusedVariables false
set_option linter.unusedSimpArgs false
set_option linter.unnecessarySimpa false
namespace Go.Abs
variable {P : Program}

/-- a region that draws its order goes through in whatever order -/
def Reorders (P : Program) (cx : Cx) (h : Hd) : Prop :=
  P.follows .mixedOrders = true ∧
  ∀ {ro : Nat} {fn : FuncId} {nt : Nat} {ops : Array Oper} {nm : Nat → Nat} {fr fr' : PT} {H H' : Hp} {fs : List (Nat × Fp)}, forward ops = true →
    (∀ (i : Nat) (o : Oper), ops[i]? = some o → isAlloc cx fn o = true → nm i < H.length) →
    run cx h ro fn nt ops (fun _ i => nm i) (List.range ops.size) fr H = some (fs, fr', H') → apartAll (befores ops) fs = true →
    ∀ t, ∃ fs', run cx h ro fn nt ops (fun _ i => nm i) (Region.linearise .any ops t) fr H = some (fs', fr', H')

theorem MR.reserve {g : Gh} {ro : Nat} {H : Hp} {w : World} (h : MR g ro H w) (k : Nat) : MR g ro (H ++ List.replicate k .res) w := by
  refine ⟨by have := h.role; simp; omega, h.imm, fun b hb => h.dom b (by simp at hb; omega), h.inj, h.lt, h.owlt, h.prot, h.free, fun b blk hb => ?_⟩
  rw [List.getElem?_append] at hb
  split at hb
  · exact h.blk b blk hb
  · rename_i hlt
    have := List.mem_of_getElem? hb
    rw [(List.mem_replicate.1 this).2]
    exact h.dom b (by omega)

theorem Rel.reserve {g : Gh} {ro nt : Nat} {fr : PT} {H : Hp} {tm : Array Value} {w : World} (h : Rel g ro nt fr H tm w) (k : Nat) : Rel g ro nt fr (H ++ List.replicate k .res) tm w :=
  ⟨h.size, h.nt_le, h.slots, h.mem.reserve k⟩
theorem Rel.drew {g : Gh} {ro nt : Nat} {fr : PT} {H : Hp} {tm : Array Value} {w : World} (h : Rel g ro nt fr H tm w) : Rel g ro nt fr H tm w.drew :=
  ⟨h.size, h.nt_le, h.slots, h.mem.drew⟩
theorem Ev.undrew {ro : Nat} {g g' : Gh} {w w' : World} (h : Ev ro g w.drew g' w') : Ev ro g w g' w' :=
  ⟨h.imm, ⟨h.mun.le, h.mun.new⟩, h.size, h.prot, h.loops, ⟨h.out.os, h.out.tape, h.out.output⟩⟩

theorem region_ok {cx : Cx} {k : Nat} {h : Hd} (hT : TOk P cx.T) (hh : HdOk P k h) (hre : Reorders P cx h) {ro : Nat} {fn : FuncId} {nt id : Nat} {ops : Array Oper} {draw : Bool} {fr fr' : PT} {H H' : Hp}
    (hr : region cx h ro fn nt ops fr H draw = some (fr', H')) : CodeOk P ro nt (.region id ops draw) fr H .normal fr' H' := by
  intro r n n0 g a w hR hM hI Q hq
  cases draw with
  | false =>
    simp only [region] at hr
    cases hrun : run cx h ro fn nt ops (fun H _ => H.length) (List.range ops.size) fr H with
    | none => rw [hrun] at hr; cases hr
    | some res =>
      obtain ⟨fs, fr1, H1⟩ := res
      rw [hrun] at hr
      simp only [ranOnly, Option.some.injEq, Prod.mk.injEq] at hr
      obtain ⟨rfl, rfl⟩ := hr
      exact wpIn_region (run_ok hT hh _ hR hrun fun a' w' g' h1 h2 h3 => hq a' w' g' h1 (by rw [h2]; exact hM.ev h3) h3)
  | true =>
    simp only [region] at hr
    split at hr
    · rename_i hfw
      cases hrun : run cx h ro fn nt ops (fun _ i => H.length + ((ops.toList.take i).filter (isAlloc cx fn)).length) (List.range ops.size) fr (H ++ List.replicate (ops.toList.filter (isAlloc cx fn)).length .res) with
      | none => rw [hrun] at hr; cases hr
      | some res =>
        obtain ⟨fs, fr1, H1⟩ := res
        rw [hrun] at hr
        simp only [ranAny] at hr
        split at hr
        · rename_i hap
          simp only [Option.some.injEq, Prod.mk.injEq] at hr
          obtain ⟨rfl, rfl⟩ := hr
          obtain ⟨hmix, hre⟩ := hre
          refine wpIn_region_draw fun t => ?_
          have hsch : Region.schedule (P.follows .mixedOrders) ops t = Region.linearise .any ops t := by simp [Region.schedule, hmix]
          rw [hsch]
          obtain ⟨fs', hrun'⟩ := hre hfw (fun i o ho hal => by
            simp only [List.length_append, List.length_replicate]
            have h1 : ops.toList = ops.toList.take i ++ o :: ops.toList.drop (i + 1) := by
              have hlt : i < ops.toList.length := by have := (Array.getElem?_eq_some_iff.1 ho).1; simpa using this
              have he : ops.toList[i] = o := by have := (Array.getElem?_eq_some_iff.1 ho).2; simpa using this
              rw [← he, List.getElem_cons_drop, List.take_append_drop]
            have h2 : (ops.toList.filter (isAlloc cx fn)).length = ((ops.toList.take i).filter (isAlloc cx fn)).length + (1 + ((ops.toList.drop (i + 1)).filter (isAlloc cx fn)).length) := by
              conv => lhs; rw [h1]
              rw [List.filter_append, List.length_append, List.filter_cons_of_pos hal, List.length_cons, Nat.add_comm 1]
            omega) hrun hap t
          exact run_ok hT hh _ (hR.reserve _).drew hrun' fun a' w' g' h1 h2 h3 => hq a' w' g' h1 (by rw [h2]; exact hM.ev h3.undrew) h3.undrew
        · cases hr
    · cases hr

theorem wpIn_scope_straight {F : Fence} {n : Nat} {Q : Exit → Act → World → Prop} {a : Act} {w : World} {c : Code} (h : c.wpIn F n P (Exit.noGoto Q) a w) : (Code.scope c).wpIn F n P Q a w := by
  intro b k cs hro hb hr
  have s1 : ∀ {a w}, Go.step P (lone (b.atR a (.code (.scope c) :: k)) cs w) = .next (lone (b.atR a (.code c :: .inScope c :: k)) cs w) := fun {a w} => step_lone_go (by simp [Go.stepG, Go.stepG.exec, Frame.atR])
  have s2 : ∀ {a w}, Go.step P (lone (b.atR a (.inScope c :: k)) cs w) = .next (lone (b.atR a k) cs w) := fun {a w} => step_lone_go (by simp [Go.stepG, Go.stepG.exec, Frame.atR])
  have hx : ∀ id, exitTo id (.inScope c :: k) = exitTo id k := fun id => by simp [exitTo]
  have h0 : (lone (b.atR a (.code (.scope c) :: k)) cs w).fenced P F := fenced_calm hb hr rfl
  obtain ⟨e, a₁, w₁, hq, harr⟩ := h b (.inScope c :: k) cs hro hb hr
  cases e with
  | normal => exact ⟨.normal, a₁, w₁, hq, .head h0 s1 (StepsIn.trans harr (.one (fenced_calm hb hr rfl) s2))⟩
  | exit id => exact ⟨.exit id, a₁, w₁, hq, fun k' hk => .head h0 s1 (harr.1 k' (by rw [hx]; exact hk)), fun hr' hk => let ⟨k₁, h1, h2⟩ := harr.2 hr' (by rw [hx]; exact hk); ⟨k₁, h1, .head h0 s1 h2⟩⟩
  | goto l => exact hq.elim
  | ret => exact ⟨_, a₁, w₁, hq, .of_steps (.one h0 s1) harr⟩
  | panic ch => exact ⟨_, a₁, w₁, hq, .of_steps (.one h0 s1) harr⟩
  | outgrown => exact ⟨_, a₁, w₁, hq, .of_steps (.one h0 s1) harr⟩

end Go.Abs
