/- The statement GraphShapes; nodes, read as arguments. -/
import Derived.Test.YtiinagmombigpaaGraB
import Derived.Test.YtiinagmombigpaaOpen2
set_option linter.unusedSimpArgs false
set_option linter.unusedVariables false
set_option linter.unnecessarySimpa false

/- The statement GraphShapes; nodes, read as arguments. -/
set_option linter.unusedVariables false
namespace Go.Abs.Tab
open Go.Gr
theorem map_mem {α : Type} {f : List AV → AV} {g : α → AV} {Q : α → Prop} : ∀ {ls : List (List AV)}, (∀ x ∈ ls, ∃ y, f x = g y ∧ Q y) → ∃ ys : List α, ls.length = ys.length ∧ (∀ y ∈ ys, Q y) ∧ ls.map f = ys.map g
  | [], _ => ⟨[], rfl, by simp, rfl⟩
  | x :: ls, h => by
    obtain ⟨y, h1, h2⟩ := h x (by simp)
    obtain ⟨ys, k1, k2, k3⟩ := map_mem (ls := ls) fun z hz => h z (List.mem_cons_of_mem _ hz)
    refine ⟨y :: ys, by simp [k1], fun z hz => ?_, by simp [h1, k3]⟩
    rcases List.mem_cons.1 hz with rfl | hz
    · exact h2
    · exact k2 z hz
theorem edge_read {d : Nat} {l : List AV} (h : Rdd Go.Proofs.Try.prog (d + 6) 63 l) : ∃ a b : Int, l = [iv a, iv b] := by
  have h1 := rd_struct Go.Proofs.Try.underlying63 h
  obtain ⟨a1, b1, rfl, k1, h2⟩ := rdF_cons h1
  obtain ⟨p, _, rfl⟩ := rd_int Go.Proofs.Try.underlying3 k1
  obtain ⟨a2, b2, rfl, k2, h3⟩ := rdF_cons h2
  obtain ⟨q, _, rfl⟩ := rd_int Go.Proofs.Try.underlying3 k2
  obtain rfl := rdF_nil h3
  exact ⟨p, q, rfl⟩
theorem type_read {d : Nat} {l : List AV} (h : Rdd Go.Proofs.Try.prog (d + 6) 61 l) : ∃ a b : Int, l = [iv a, iv b] := by
  have h1 := rd_struct Go.Proofs.Try.underlying61 h
  obtain ⟨a1, b1, rfl, k1, h2⟩ := rdF_cons h1
  obtain ⟨p, _, rfl⟩ := rd_int Go.Proofs.Try.underlying3 k1
  obtain ⟨a2, b2, rfl, k2, h3⟩ := rdF_cons h2
  obtain ⟨q, _, rfl⟩ := rd_int Go.Proofs.Try.underlying3 k2
  obtain rfl := rdF_nil h3
  exact ⟨p, q, rfl⟩
theorem cells63 : Go.Proofs.Try.prog.cellsOf 63 = 2 := by kernel_rfl
theorem cells66 : Go.Proofs.Try.prog.cellsOf 66 = 6 := by kernel_rfl
theorem node_read {d : Nat} {l : List AV} (h : Rdd Go.Proofs.Try.prog (d + 14) 66 l) : ∃ x : Nd, AV.agg l = nodeV x ∧ NdOk x := by
  have h1 := rd_struct Go.Proofs.Try.underlying66 h
  obtain ⟨a1, b1, rfl, k1, h2⟩ := rdF_cons h1
  obtain ⟨k, _, rfl⟩ := rd_int Go.Proofs.Try.underlying3 k1
  obtain ⟨a2, b2, rfl, k2, h3⟩ := rdF_cons h2
  obtain ⟨p, _, rfl⟩ := rd_int Go.Proofs.Try.underlying3 k2
  obtain ⟨a3, b3, rfl, k3, h4⟩ := rdF_cons h3
  obtain ⟨c, rfl⟩ := rd_bool Go.Proofs.Try.underlying4 k3
  obtain ⟨a4, b4, rfl, k4, h5⟩ := rdF_cons h4
  obtain ⟨t, s, rfl⟩ := edge_read (d := d + 3) k4
  obtain ⟨a5, b5, rfl, k5, h6⟩ := rdF_cons h5
  obtain ⟨nx, ls, rfl, _, e1, e2⟩ := rd_slice Go.Proofs.Try.underlying64 k5
  obtain rfl := rdF_nil h6
  rw [cells63] at e2
  obtain ⟨es, q1, q2, q3⟩ := map_mem (f := wrapAs Go.Proofs.Try.prog 63) (g := ed) (Q := fun _ => True) (ls := ls) fun y hy => by
    obtain ⟨u, v, rfl⟩ := edge_read (d := d + 1) (e1 y hy)
    exact ⟨(u, v), by rw [wrap_struct Go.Proofs.Try.underlying63], trivial⟩
  rw [q3] at e2
  exact ⟨⟨k, p, c, t, s, es, nx⟩, rfl, e2⟩
/-- a table that is read -/
theorem nodes_read {d : Nat} {v : AV} (h : Rdd Go.Proofs.Try.prog (d + 15) 56 [v]) : ∃ ns : List Nd, Sl 6 v (ns.map nodeV) ∧ ∀ x ∈ ns, NdOk x := by
  obtain ⟨a, ls, e, _, e1, e2⟩ := rd_slice Go.Proofs.Try.underlying56 h
  cases e
  rw [cells66] at e2
  obtain ⟨ns, q1, q2, q3⟩ := map_mem (f := wrapAs Go.Proofs.Try.prog 66) (g := nodeV) (Q := NdOk) (ls := ls) fun y hy => by
    obtain ⟨x, h1, h2⟩ := node_read (d := d) (e1 y hy)
    exact ⟨x, by rw [wrap_struct Go.Proofs.Try.underlying66]; exact h1, h2⟩
  rw [q3] at e2
  exact ⟨ns, e2, q2⟩
/-- the first seventy -/
theorem cut_nodes {v : AV} {ns : List Nd} (h : Sl 6 v (ns.map nodeV)) (hok : ∀ x ∈ ns, NdOk x) : ∃ b, aslice cx.T 56 v none (some (iv ((min ns.length 70 : Nat) : Int))) none = some b ∧ NsOk (ns.take 70) b := by
  obtain ⟨b, h1, h2⟩ := aslice_take (n := min ns.length 70) h sl56 (by rw [List.length_map]; omega)
  refine ⟨b, h1, ⟨?_, fun x hx => hok x (List.mem_of_mem_take hx), ?_⟩⟩
  · rw [← List.map_take] at h2
    have : ns.take (min ns.length 70) = ns.take 70 := by
      by_cases hl : ns.length ≤ 70
      · rw [Nat.min_eq_left hl, List.take_length, List.take_of_length_le hl]
      · rw [Nat.min_eq_right (by omega)]
    rw [this] at h2; exact h2
  · rw [List.length_take]; omega
end Go.Abs.Tab

/- Slices that are appended to. -/
set_option linter.unusedVariables false
namespace Go.Abs.Tab
open Go.Gr
/-- a slice that is appended to -/
def Grow (sz : Nat) (v : AV) (els : List AV) : Prop := v = .vec sz .own els ∨ (v = .lit (.slice none 0 0) ∧ els = [])
theorem Grow.sl {sz : Nat} {v : AV} {els : List AV} (h : Grow sz v els) : Sl sz (Abs.shr v) els := by
  rcases h with rfl | ⟨rfl, rfl⟩
  · exact .inr (.inl rfl)
  · exact .inr (.inr ⟨rfl, rfl⟩)
theorem Grow.kill {sz : Nat} {v : AV} {els : List AV} (h : Grow sz v els) (m : Nat) : Abs.kill m v = v := by
  rcases h with rfl | ⟨rfl, rfl⟩ <;> rfl
theorem ap_small {L : List AV} (h : L.length < 2 ^ 20) : (L.length + (0 + 1)) * (16 + 1) ≤ 1099511627776 := by omega
theorem ap_small6 {L : List AV} (h : L.length < 2 ^ 20) : (L.length + (0 + 1)) * (64 + 1) ≤ 1099511627776 := by omega
theorem nd1 {n i d : Nat} (h : n - i = d + 1) : n - (i + 1) = d := by omega
theorem nd2 {n i d : Nat} (h : n - i = d + 1) : i + 1 ≤ n := by omega
theorem mvV_false {nt : Nat} {fr : PT} {H : Hp} {dd : Option Tmp} {t : Tmp} (v : AV) : mvV nt fr H dd t false v = setO nt dd fr H (shr v) := by
  unfold mvV
  split
  · rfl
  · rename_i h
    rw [shr_of_notOwn]
    cases v with
    | vec s k l => cases k with
      | own => exact absurd rfl (h s l)
      | _ => rfl
    | _ => rfl
theorem x_split {cx : Cx} {h : Hd} {ro fn nt : Nat} {fr fr' : PT} {H H' : Hp} {a b : Code} (e : ex cx h ro fn nt (.seq a b) fr H = some (.normal, fr', H')) : ∃ fr1 H1, ex cx h ro fn nt a fr H = some (.normal, fr1, H1) ∧ ex cx h ro fn nt b fr1 H1 = some (.normal, fr', H') := by
  rw [x_seq] at e
  cases ha : ex cx h ro fn nt a fr H with
  | none => rw [ha] at e; cases e
  | some r =>
    obtain ⟨x, fr1, H1⟩ := r
    rw [ha] at e
    cases x with
    | normal => rw [xbind_some, contR_normal] at e; exact ⟨fr1, H1, rfl, e⟩
    | _ => cases e
end Go.Abs.Tab
