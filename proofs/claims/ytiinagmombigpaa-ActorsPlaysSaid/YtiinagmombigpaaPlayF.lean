/- Codes of this seat's functions, their regions step by step. (Printed by a program.) -/
import Derived.Test.YtiinagmombigpaaEvY
set_option linter.unusedSimpArgs false
set_option linter.unusedVariables false
set_option linter.unnecessarySimpa false

/- Codes of this seat's functions, their regions step by step. (Printed by a program.) -/
set_option linter.unusedVariables false
namespace Go.Abs.Tab
/-! function 37: colloquy/colloquylaw22.ints -/
noncomputable def g37_0 : Array Oper := regAt Go.Proofs.Try.f37 0
theorem k37_0 : guardsOk g37_0 = true := nr (by kernel_rfl)
@[go_sem] theorem x37_0 {h : Hd} {ro nt id : Nat} {fr : PT} {H : Hp} : ex cx h ro 37 nt (.region id g37_0 false) fr H = xbind (xrun cx h ro 37 nt g37_0 [(some 4, (.assign (.const (.bool false))), none)] fr H) fun p => some (.normal, p.1, p.2) := x_region _ k37_0 (nr (by kernel_rfl))
@[go_sem] theorem t37_0 (d : Tmp) : takes g37_0 d = false := nr (by kernel_rfl)
noncomputable def g37_1 : Array Oper := regAt Go.Proofs.Try.f37 1
theorem k37_1 : guardsOk g37_1 = true := nr (by kernel_rfl)
@[go_sem] theorem x37_1 {h : Hd} {ro nt id : Nat} {fr : PT} {H : Hp} : ex cx h ro 37 nt (.region id g37_1 false) fr H = xbind (xrun cx h ro 37 nt g37_1 [(some 6, (.move (.tmp 0)), none), (some 7, (.call ⟨(.builtin .len), #[(.tmp 6)], #[31]⟩), none), (some 8, (.move (.tmp 1)), none), (some 9, (.call ⟨(.builtin .len), #[(.tmp 8)], #[31]⟩), none), (some 10, (.binOp .neq 3 (.tmp 7) (.tmp 9) 3), none)] fr H) fun p => some (.normal, p.1, p.2) := x_region _ k37_1 (nr (by kernel_rfl))
@[go_sem] theorem t37_1 (d : Tmp) : takes g37_1 d = false := nr (by kernel_rfl)
noncomputable def g37_2 : Array Oper := regAt Go.Proofs.Try.f37 2
theorem k37_2 : guardsOk g37_2 = true := nr (by kernel_rfl)
@[go_sem] theorem x37_2 {h : Hd} {ro nt id : Nat} {fr : PT} {H : Hp} : ex cx h ro 37 nt (.region id g37_2 false) fr H = xbind (xrun cx h ro 37 nt g37_2 [(some 4, (.assign (.const (.bool false))), none)] fr H) fun p => some (.normal, p.1, p.2) := x_region _ k37_2 (nr (by kernel_rfl))
@[go_sem] theorem t37_2 (d : Tmp) : takes g37_2 d = false := nr (by kernel_rfl)
noncomputable def g37_3 : Array Oper := regAt Go.Proofs.Try.f37 3
theorem k37_3 : guardsOk g37_3 = true := nr (by kernel_rfl)
@[go_sem] theorem x37_3 {h : Hd} {ro nt id : Nat} {fr : PT} {H : Hp} : ex cx h ro 37 nt (.region id g37_3 false) fr H = xbind (xrun cx h ro 37 nt g37_3 [(some 5, (.assign (.const (.int .i64 0))), none)] fr H) fun p => some (.normal, p.1, p.2) := x_region _ k37_3 (nr (by kernel_rfl))
@[go_sem] theorem t37_3 (d : Tmp) : takes g37_3 d = false := nr (by kernel_rfl)
noncomputable def g37_4 : Array Oper := regAt Go.Proofs.Try.f37 4
theorem k37_4 : guardsOk g37_4 = true := nr (by kernel_rfl)
@[go_sem] theorem x37_4 {h : Hd} {ro nt id : Nat} {fr : PT} {H : Hp} : ex cx h ro 37 nt (.region id g37_4 false) fr H = xbind (xrun cx h ro 37 nt g37_4 [(some 11, (.move (.tmp 5)), none), (some 12, (.move (.tmp 0)), none), (some 13, (.call ⟨(.builtin .len), #[(.tmp 12)], #[31]⟩), none), (some 14, (.binOp .lss 3 (.tmp 11) (.tmp 13) 3), none)] fr H) fun p => some (.normal, p.1, p.2) := x_region _ k37_4 (nr (by kernel_rfl))
@[go_sem] theorem t37_4 (d : Tmp) : takes g37_4 d = false := nr (by kernel_rfl)
noncomputable def g37_5 : Array Oper := regAt Go.Proofs.Try.f37 5
theorem k37_5 : guardsOk g37_5 = true := nr (by kernel_rfl)
@[go_sem] theorem x37_5 {h : Hd} {ro nt id : Nat} {fr : PT} {H : Hp} : ex cx h ro 37 nt (.region id g37_5 true) fr H = orRaw (xrunU cx h ro 37 nt g37_5 H.length [(0, 0, [], (some 17, (.move (.tmp 0)), none)), (1, 0, [0], (some 18, (.move (.tmp 5)), none)), (2, 0, [], (some 19, (.indexAddr 31 (.tmp 17) (.tmp 18)), none)), (3, 0, [], (some 20, (.load 3 (.tmp 19)), none)), (4, 0, [0, 1, 2, 3], (some 21, (.move (.tmp 1)), none)), (5, 0, [0, 1, 2, 3, 4], (some 22, (.move (.tmp 5)), none)), (6, 0, [0, 1, 2, 3], (some 23, (.indexAddr 31 (.tmp 21) (.tmp 22)), none)), (7, 0, [0, 1, 2, 3], (some 24, (.load 3 (.tmp 23)), none)), (8, 0, [], (some 25, (.binOp .neq 3 (.tmp 20) (.tmp 24) 3), none))] fr (H ++ List.replicate 0 .res) []) fun _ => regionRaw cx h ro 37 nt g37_5 fr H := x_regionU _ _ k37_5 (nr (by kernel_rfl)) (nr (by kernel_rfl)) (nr (by kernel_rfl)) (nr (by kernel_rfl))
@[go_sem] theorem t37_5 (d : Tmp) : takes g37_5 d = false := nr (by kernel_rfl)
noncomputable def g37_6 : Array Oper := regAt Go.Proofs.Try.f37 6
theorem k37_6 : guardsOk g37_6 = true := nr (by kernel_rfl)
@[go_sem] theorem x37_6 {h : Hd} {ro nt id : Nat} {fr : PT} {H : Hp} : ex cx h ro 37 nt (.region id g37_6 false) fr H = xbind (xrun cx h ro 37 nt g37_6 [(some 4, (.assign (.const (.bool false))), none)] fr H) fun p => some (.normal, p.1, p.2) := x_region _ k37_6 (nr (by kernel_rfl))
@[go_sem] theorem t37_6 (d : Tmp) : takes g37_6 d = false := nr (by kernel_rfl)
noncomputable def g37_7 : Array Oper := regAt Go.Proofs.Try.f37 7
theorem k37_7 : guardsOk g37_7 = true := nr (by kernel_rfl)
@[go_sem] theorem x37_7 {h : Hd} {ro nt id : Nat} {fr : PT} {H : Hp} : ex cx h ro 37 nt (.region id g37_7 false) fr H = xbind (xrun cx h ro 37 nt g37_7 [(some 15, (.move (.tmp 5)), none), (some 16, (.binOp .add 3 (.tmp 15) (.const (.int .i64 1)) 3), none), (some 5, (.assign (.tmp 16)), none)] fr H) fun p => some (.normal, p.1, p.2) := x_region _ k37_7 (nr (by kernel_rfl))
@[go_sem] theorem t37_7 (d : Tmp) : takes g37_7 d = false := nr (by kernel_rfl)
noncomputable def g37_8 : Array Oper := regAt Go.Proofs.Try.f37 8
theorem k37_8 : guardsOk g37_8 = true := nr (by kernel_rfl)
@[go_sem] theorem x37_8 {h : Hd} {ro nt id : Nat} {fr : PT} {H : Hp} : ex cx h ro 37 nt (.region id g37_8 false) fr H = xbind (xrun cx h ro 37 nt g37_8 [(some 4, (.assign (.const (.bool true))), none)] fr H) fun p => some (.normal, p.1, p.2) := x_region _ k37_8 (nr (by kernel_rfl))
@[go_sem] theorem t37_8 (d : Tmp) : takes g37_8 d = false := nr (by kernel_rfl)
noncomputable def l37_0 : Code := (.seq (.seq (.region 4 g37_4 false) (.cond (.tmp 14) .skip (.exit 0))) (.seq (.block 1 (.seq (.region 6 g37_5 true) (.cond (.tmp 25) (.seq (.region 7 g37_6 false) .ret) .skip))) (.region 5 g37_7 false)))
theorem dl37_0 {ro nt : Nat} {fr : PT} {H : Hp} : (den cx).loop ro 37 nt l37_0 fr H = xbind (ex cx (den cx) ro 37 nt (.seq (.seq (.region 4 g37_4 false) (.cond (.tmp 14) .skip (.exit 0))) (.seq (.block 1 (.seq (.region 6 g37_5 true) (.cond (.tmp 25) (.seq (.region 7 g37_6 false) .ret) .skip))) (.region 5 g37_7 false))) fr H) (contR (trimmed ((den cx).loop ro 37 nt l37_0) H.length)) := den_loop_x l37_0
theorem b37 : Go.Proofs.Try.f37.body = some (.seq (.region 0 g37_0 false) (.seq (.seq (.region 1 g37_1 false) (.cond (.tmp 10) (.seq (.region 2 g37_2 false) .ret) .skip)) (.seq (.seq (.region 3 g37_3 false) (.block 0 (.loop l37_0))) (.seq (.region 8 g37_8 false) .ret)))) := by kernel_rfl
theorem c37 {h : Hd} {ro : Nat} {H : Hp} (a0 a1 : AV) : callB cx h ro 37 [a0, a1] H = returned cx [(.tmp 4)] (ex cx h ro 37 26 (.seq (.region 0 g37_0 false) (.seq (.seq (.region 1 g37_1 false) (.cond (.tmp 10) (.seq (.region 2 g37_2 false) .ret) .skip)) (.seq (.seq (.region 3 g37_3 false) (.block 0 (.loop l37_0))) (.seq (.region 8 g37_8 false) .ret)))) ((PT.nil.set 0 (drp a0)).set 1 (drp a1)) H) := by
  have hf : cx.fns 37 = some Go.Proofs.Try.f37 := by kernel_rfl
  simp only [callB, hf, funced, b37, bodied]
  rfl
/-! function 115: colloquy/colloquylaw22.words -/
noncomputable def g115_0 : Array Oper := regAt Go.Proofs.Try.f115 0
theorem k115_0 : guardsOk g115_0 = true := nr (by kernel_rfl)
@[go_sem] theorem x115_0 {h : Hd} {ro nt id : Nat} {fr : PT} {H : Hp} : ex cx h ro 115 nt (.region id g115_0 false) fr H = xbind (xrun cx h ro 115 nt g115_0 [(some 4, (.assign (.const (.bool false))), none)] fr H) fun p => some (.normal, p.1, p.2) := x_region _ k115_0 (nr (by kernel_rfl))
@[go_sem] theorem t115_0 (d : Tmp) : takes g115_0 d = false := nr (by kernel_rfl)
noncomputable def g115_1 : Array Oper := regAt Go.Proofs.Try.f115 1
theorem k115_1 : guardsOk g115_1 = true := nr (by kernel_rfl)
@[go_sem] theorem x115_1 {h : Hd} {ro nt id : Nat} {fr : PT} {H : Hp} : ex cx h ro 115 nt (.region id g115_1 false) fr H = xbind (xrun cx h ro 115 nt g115_1 [(some 6, (.move (.tmp 0)), none), (some 7, (.call ⟨(.builtin .len), #[(.tmp 6)], #[39]⟩), none), (some 8, (.move (.tmp 1)), none), (some 9, (.call ⟨(.builtin .len), #[(.tmp 8)], #[39]⟩), none), (some 10, (.binOp .neq 3 (.tmp 7) (.tmp 9) 3), none)] fr H) fun p => some (.normal, p.1, p.2) := x_region _ k115_1 (nr (by kernel_rfl))
@[go_sem] theorem t115_1 (d : Tmp) : takes g115_1 d = false := nr (by kernel_rfl)
noncomputable def g115_2 : Array Oper := regAt Go.Proofs.Try.f115 2
theorem k115_2 : guardsOk g115_2 = true := nr (by kernel_rfl)
@[go_sem] theorem x115_2 {h : Hd} {ro nt id : Nat} {fr : PT} {H : Hp} : ex cx h ro 115 nt (.region id g115_2 false) fr H = xbind (xrun cx h ro 115 nt g115_2 [(some 4, (.assign (.const (.bool false))), none)] fr H) fun p => some (.normal, p.1, p.2) := x_region _ k115_2 (nr (by kernel_rfl))
@[go_sem] theorem t115_2 (d : Tmp) : takes g115_2 d = false := nr (by kernel_rfl)
noncomputable def g115_3 : Array Oper := regAt Go.Proofs.Try.f115 3
theorem k115_3 : guardsOk g115_3 = true := nr (by kernel_rfl)
@[go_sem] theorem x115_3 {h : Hd} {ro nt id : Nat} {fr : PT} {H : Hp} : ex cx h ro 115 nt (.region id g115_3 false) fr H = xbind (xrun cx h ro 115 nt g115_3 [(some 5, (.assign (.const (.int .i64 0))), none)] fr H) fun p => some (.normal, p.1, p.2) := x_region _ k115_3 (nr (by kernel_rfl))
@[go_sem] theorem t115_3 (d : Tmp) : takes g115_3 d = false := nr (by kernel_rfl)
noncomputable def g115_4 : Array Oper := regAt Go.Proofs.Try.f115 4
theorem k115_4 : guardsOk g115_4 = true := nr (by kernel_rfl)
@[go_sem] theorem x115_4 {h : Hd} {ro nt id : Nat} {fr : PT} {H : Hp} : ex cx h ro 115 nt (.region id g115_4 false) fr H = xbind (xrun cx h ro 115 nt g115_4 [(some 11, (.move (.tmp 5)), none), (some 12, (.move (.tmp 0)), none), (some 13, (.call ⟨(.builtin .len), #[(.tmp 12)], #[39]⟩), none), (some 14, (.binOp .lss 3 (.tmp 11) (.tmp 13) 3), none)] fr H) fun p => some (.normal, p.1, p.2) := x_region _ k115_4 (nr (by kernel_rfl))
@[go_sem] theorem t115_4 (d : Tmp) : takes g115_4 d = false := nr (by kernel_rfl)
noncomputable def g115_5 : Array Oper := regAt Go.Proofs.Try.f115 5
theorem k115_5 : guardsOk g115_5 = true := nr (by kernel_rfl)
@[go_sem] theorem x115_5 {h : Hd} {ro nt id : Nat} {fr : PT} {H : Hp} : ex cx h ro 115 nt (.region id g115_5 true) fr H = orRaw (xrunU cx h ro 115 nt g115_5 H.length [(0, 0, [], (some 17, (.move (.tmp 0)), none)), (1, 0, [0], (some 18, (.move (.tmp 5)), none)), (2, 0, [], (some 19, (.indexAddr 39 (.tmp 17) (.tmp 18)), none)), (3, 0, [], (some 20, (.load 2 (.tmp 19)), none)), (4, 0, [0, 1, 2, 3], (some 21, (.move (.tmp 1)), none)), (5, 0, [0, 1, 2, 3, 4], (some 22, (.move (.tmp 5)), none)), (6, 0, [0, 1, 2, 3], (some 23, (.indexAddr 39 (.tmp 21) (.tmp 22)), none)), (7, 0, [0, 1, 2, 3], (some 24, (.load 2 (.tmp 23)), none)), (8, 0, [], (some 25, (.binOp .neq 2 (.tmp 20) (.tmp 24) 2), none))] fr (H ++ List.replicate 0 .res) []) fun _ => regionRaw cx h ro 115 nt g115_5 fr H := x_regionU _ _ k115_5 (nr (by kernel_rfl)) (nr (by kernel_rfl)) (nr (by kernel_rfl)) (nr (by kernel_rfl))
@[go_sem] theorem t115_5 (d : Tmp) : takes g115_5 d = false := nr (by kernel_rfl)
noncomputable def g115_6 : Array Oper := regAt Go.Proofs.Try.f115 6
theorem k115_6 : guardsOk g115_6 = true := nr (by kernel_rfl)
@[go_sem] theorem x115_6 {h : Hd} {ro nt id : Nat} {fr : PT} {H : Hp} : ex cx h ro 115 nt (.region id g115_6 false) fr H = xbind (xrun cx h ro 115 nt g115_6 [(some 4, (.assign (.const (.bool false))), none)] fr H) fun p => some (.normal, p.1, p.2) := x_region _ k115_6 (nr (by kernel_rfl))
@[go_sem] theorem t115_6 (d : Tmp) : takes g115_6 d = false := nr (by kernel_rfl)
noncomputable def g115_7 : Array Oper := regAt Go.Proofs.Try.f115 7
theorem k115_7 : guardsOk g115_7 = true := nr (by kernel_rfl)
@[go_sem] theorem x115_7 {h : Hd} {ro nt id : Nat} {fr : PT} {H : Hp} : ex cx h ro 115 nt (.region id g115_7 false) fr H = xbind (xrun cx h ro 115 nt g115_7 [(some 15, (.move (.tmp 5)), none), (some 16, (.binOp .add 3 (.tmp 15) (.const (.int .i64 1)) 3), none), (some 5, (.assign (.tmp 16)), none)] fr H) fun p => some (.normal, p.1, p.2) := x_region _ k115_7 (nr (by kernel_rfl))
@[go_sem] theorem t115_7 (d : Tmp) : takes g115_7 d = false := nr (by kernel_rfl)
noncomputable def g115_8 : Array Oper := regAt Go.Proofs.Try.f115 8
theorem k115_8 : guardsOk g115_8 = true := nr (by kernel_rfl)
@[go_sem] theorem x115_8 {h : Hd} {ro nt id : Nat} {fr : PT} {H : Hp} : ex cx h ro 115 nt (.region id g115_8 false) fr H = xbind (xrun cx h ro 115 nt g115_8 [(some 4, (.assign (.const (.bool true))), none)] fr H) fun p => some (.normal, p.1, p.2) := x_region _ k115_8 (nr (by kernel_rfl))
@[go_sem] theorem t115_8 (d : Tmp) : takes g115_8 d = false := nr (by kernel_rfl)
noncomputable def l115_0 : Code := (.seq (.seq (.region 4 g115_4 false) (.cond (.tmp 14) .skip (.exit 0))) (.seq (.block 1 (.seq (.region 6 g115_5 true) (.cond (.tmp 25) (.seq (.region 7 g115_6 false) .ret) .skip))) (.region 5 g115_7 false)))
theorem dl115_0 {ro nt : Nat} {fr : PT} {H : Hp} : (den cx).loop ro 115 nt l115_0 fr H = xbind (ex cx (den cx) ro 115 nt (.seq (.seq (.region 4 g115_4 false) (.cond (.tmp 14) .skip (.exit 0))) (.seq (.block 1 (.seq (.region 6 g115_5 true) (.cond (.tmp 25) (.seq (.region 7 g115_6 false) .ret) .skip))) (.region 5 g115_7 false))) fr H) (contR (trimmed ((den cx).loop ro 115 nt l115_0) H.length)) := den_loop_x l115_0
theorem b115 : Go.Proofs.Try.f115.body = some (.seq (.region 0 g115_0 false) (.seq (.seq (.region 1 g115_1 false) (.cond (.tmp 10) (.seq (.region 2 g115_2 false) .ret) .skip)) (.seq (.seq (.region 3 g115_3 false) (.block 0 (.loop l115_0))) (.seq (.region 8 g115_8 false) .ret)))) := by kernel_rfl
theorem c115 {h : Hd} {ro : Nat} {H : Hp} (a0 a1 : AV) : callB cx h ro 115 [a0, a1] H = returned cx [(.tmp 4)] (ex cx h ro 115 26 (.seq (.region 0 g115_0 false) (.seq (.seq (.region 1 g115_1 false) (.cond (.tmp 10) (.seq (.region 2 g115_2 false) .ret) .skip)) (.seq (.seq (.region 3 g115_3 false) (.block 0 (.loop l115_0))) (.seq (.region 8 g115_8 false) .ret)))) ((PT.nil.set 0 (drp a0)).set 1 (drp a1)) H) := by
  have hf : cx.fns 115 = some Go.Proofs.Try.f115 := by kernel_rfl
  simp only [callB, hf, funced, b115, bodied]
  rfl
end Go.Abs.Tab

/- Codes of this seat's functions, their regions step by step. (Printed by a program.) -/
set_option linter.unusedVariables false
namespace Go.Abs.Tab
/-! function 34: colloquy/actors.New -/
noncomputable def g34_0 : Array Oper := regAt Go.Proofs.Try.f34 0
theorem k34_0 : guardsOk g34_0 = true := nr (by kernel_rfl)
@[go_sem] theorem x34_0 {h : Hd} {ro nt id : Nat} {fr : PT} {H : Hp} : ex cx h ro 34 nt (.region id g34_0 false) fr H = xbind (xrun cx h ro 34 nt g34_0 [(some 2, (.assign (.const (.pointer none))), none)] fr H) fun p => some (.normal, p.1, p.2) := x_region _ k34_0 (nr (by kernel_rfl))
@[go_sem] theorem t34_0 (d : Tmp) : takes g34_0 d = false := nr (by kernel_rfl)
noncomputable def g34_1 : Array Oper := regAt Go.Proofs.Try.f34 1
theorem k34_1 : guardsOk g34_1 = true := nr (by kernel_rfl)
@[go_sem] theorem x34_1 {h : Hd} {ro nt id : Nat} {fr : PT} {H : Hp} : ex cx h ro 34 nt (.region id g34_1 false) fr H = xbind (xrun cx h ro 34 nt g34_1 [(some 3, (.move (.tmp 0)), none), (some 4, (.binOp .lss 3 (.tmp 3) (.const (.int .i64 1)) 3), none), (some 5, (.move (.tmp 4)), none), (some 6, (.move (.tmp 0)), some (5, false)), (some 7, (.binOp .gtr 3 (.tmp 6) (.const (.int .i64 32)) 3), some (5, false)), (some 8, (.pick (.tmp 5) (.const (.bool true)) (.tmp 7)), none)] fr H) fun p => some (.normal, p.1, p.2) := x_region _ k34_1 (nr (by kernel_rfl))
@[go_sem] theorem t34_1 (d : Tmp) : takes g34_1 d = false := nr (by kernel_rfl)
noncomputable def g34_2 : Array Oper := regAt Go.Proofs.Try.f34 2
theorem k34_2 : guardsOk g34_2 = true := nr (by kernel_rfl)
@[go_sem] theorem x34_2 {h : Hd} {ro nt id : Nat} {fr : PT} {H : Hp} : ex cx h ro 34 nt (.region id g34_2 false) fr H = xbind (xrun cx h ro 34 nt g34_2 [(some 2, (.assign (.const (.pointer none))), none)] fr H) fun p => some (.normal, p.1, p.2) := x_region _ k34_2 (nr (by kernel_rfl))
@[go_sem] theorem t34_2 (d : Tmp) : takes g34_2 d = false := nr (by kernel_rfl)
noncomputable def g34_3 : Array Oper := regAt Go.Proofs.Try.f34 3
theorem k34_3 : guardsOk g34_3 = true := nr (by kernel_rfl)
@[go_sem] theorem x34_3 {h : Hd} {ro nt id : Nat} {fr : PT} {H : Hp} : ex cx h ro 34 nt (.region id g34_3 false) fr H = xbind (xrun cx h ro 34 nt g34_3 [(some 9, (.move (.tmp 0)), none), (some 10, (.makeSlice 178 (.tmp 9) (.tmp 9)), none), (some 11, (.build 180 #[(0, (.tmp 10))]), none), (some 12, (.box 180 (.tmp 11)), none), (some 2, (.assign (.tmp 12)), none)] fr H) fun p => some (.normal, p.1, p.2) := x_region _ k34_3 (nr (by kernel_rfl))
@[go_sem] theorem t34_3 (d : Tmp) : takes g34_3 d = false := nr (by kernel_rfl)
theorem b34 : Go.Proofs.Try.f34.body = some (.seq (.region 0 g34_0 false) (.seq (.seq (.region 1 g34_1 false) (.cond (.tmp 8) (.seq (.region 2 g34_2 false) .ret) .skip)) (.seq (.region 3 g34_3 false) .ret))) := by kernel_rfl
theorem c34 {h : Hd} {ro : Nat} {H : Hp} (a0 : AV) : callB cx h ro 34 [a0] H = returned cx [(.tmp 2)] (ex cx h ro 34 13 (.seq (.region 0 g34_0 false) (.seq (.seq (.region 1 g34_1 false) (.cond (.tmp 8) (.seq (.region 2 g34_2 false) .ret) .skip)) (.seq (.region 3 g34_3 false) .ret))) (PT.nil.set 0 (drp a0)) H) := by
  have hf : cx.fns 34 = some Go.Proofs.Try.f34 := by kernel_rfl
  simp only [callB, hf, funced, b34, bodied]
  rfl
/-! function 35: (*colloquy/actors.Table).Add -/
noncomputable def g35_0 : Array Oper := regAt Go.Proofs.Try.f35 0
theorem k35_0 : guardsOk g35_0 = true := nr (by kernel_rfl)
@[go_sem] theorem x35_0 {h : Hd} {ro nt id : Nat} {fr : PT} {H : Hp} : ex cx h ro 35 nt (.region id g35_0 false) fr H = xbind (xrun cx h ro 35 nt g35_0 [(some 3, (.box 24 (.tmp 0)), none), (some 4, (.box 3 (.tmp 1)), none), (some 5, (.box 39 (.tmp 2)), none), (some 6, (.alloc 3), none), (some 7, (.alloc 27), none)] fr H) fun p => some (.normal, p.1, p.2) := x_region _ k35_0 (nr (by kernel_rfl))
@[go_sem] theorem t35_0 (d : Tmp) : takes g35_0 d = false := nr (by kernel_rfl)
noncomputable def g35_1 : Array Oper := regAt Go.Proofs.Try.f35 1
theorem k35_1 : guardsOk g35_1 = true := nr (by kernel_rfl)
@[go_sem] theorem x35_1 {h : Hd} {ro nt id : Nat} {fr : PT} {H : Hp} : ex cx h ro 35 nt (.region id g35_1 false) fr H = xbind (xrun cx h ro 35 nt g35_1 [(some 10, (.load 24 (.tmp 3)), none), (some 11, (.binOp .eql 24 (.tmp 10) (.const (.pointer none)) 24), none)] fr H) fun p => some (.normal, p.1, p.2) := x_region _ k35_1 (nr (by kernel_rfl))
@[go_sem] theorem t35_1 (d : Tmp) : takes g35_1 d = false := nr (by kernel_rfl)
noncomputable def g35_2 : Array Oper := regAt Go.Proofs.Try.f35 2
theorem k35_2 : guardsOk g35_2 = true := nr (by kernel_rfl)
@[go_sem] theorem x35_2 {h : Hd} {ro nt id : Nat} {fr : PT} {H : Hp} : ex cx h ro 35 nt (.region id g35_2 false) fr H = xbind (xrun cx h ro 35 nt g35_2 [(none, (.store 3 (.tmp 6) (.const (.int .i64 (-1)))), none), (none, (.store 27 (.tmp 7) (.const (.int .i64 1))), none)] fr H) fun p => some (.normal, p.1, p.2) := x_region _ k35_2 (nr (by kernel_rfl))
@[go_sem] theorem t35_2 (d : Tmp) : takes g35_2 d = false := nr (by kernel_rfl)
noncomputable def g35_3 : Array Oper := regAt Go.Proofs.Try.f35 3
theorem k35_3 : guardsOk g35_3 = true := nr (by kernel_rfl)
@[go_sem] theorem x35_3 {h : Hd} {ro nt id : Nat} {fr : PT} {H : Hp} : ex cx h ro 35 nt (.region id g35_3 false) fr H = xbind (xrun cx h ro 35 nt g35_3 [(some 12, (.load 39 (.tmp 5)), none), (some 13, (.call ⟨(.builtin .len), #[(.tmp 12)], #[39]⟩), none), (some 14, (.binOp .gtr 3 (.tmp 13) (.const (.int .i64 16)) 3), none)] fr H) fun p => some (.normal, p.1, p.2) := x_region _ k35_3 (nr (by kernel_rfl))
@[go_sem] theorem t35_3 (d : Tmp) : takes g35_3 d = false := nr (by kernel_rfl)
noncomputable def g35_4 : Array Oper := regAt Go.Proofs.Try.f35 4
theorem k35_4 : guardsOk g35_4 = true := nr (by kernel_rfl)
@[go_sem] theorem x35_4 {h : Hd} {ro nt id : Nat} {fr : PT} {H : Hp} : ex cx h ro 35 nt (.region id g35_4 false) fr H = xbind (xrun cx h ro 35 nt g35_4 [(none, (.store 3 (.tmp 6) (.const (.int .i64 (-1)))), none), (none, (.store 27 (.tmp 7) (.const (.int .i64 2))), none)] fr H) fun p => some (.normal, p.1, p.2) := x_region _ k35_4 (nr (by kernel_rfl))
@[go_sem] theorem t35_4 (d : Tmp) : takes g35_4 d = false := nr (by kernel_rfl)
noncomputable def g35_5 : Array Oper := regAt Go.Proofs.Try.f35 5
theorem k35_5 : guardsOk g35_5 = true := nr (by kernel_rfl)
@[go_sem] theorem x35_5 {h : Hd} {ro nt id : Nat} {fr : PT} {H : Hp} : ex cx h ro 35 nt (.region id g35_5 false) fr H = xbind (xrun cx h ro 35 nt g35_5 [(some 15, (.load 24 (.tmp 3)), none), (some 16, (.call ⟨(.value (.func 108)), #[(.tmp 15), (.const (.bool false))], #[24, 4]⟩), none)] fr H) fun p => some (.normal, p.1, p.2) := x_region _ k35_5 (nr (by kernel_rfl))
@[go_sem] theorem t35_5 (d : Tmp) : takes g35_5 d = false := nr (by kernel_rfl)
noncomputable def g35_6 : Array Oper := regAt Go.Proofs.Try.f35 6
theorem k35_6 : guardsOk g35_6 = true := nr (by kernel_rfl)
@[go_sem] theorem x35_6 {h : Hd} {ro nt id : Nat} {fr : PT} {H : Hp} : ex cx h ro 35 nt (.region id g35_6 false) fr H = xbind (xrun cx h ro 35 nt g35_6 [(some 8, (.assign (.tmp 17)), none)] fr H) fun p => some (.normal, p.1, p.2) := x_region _ k35_6 (nr (by kernel_rfl))
@[go_sem] theorem t35_6 (d : Tmp) : takes g35_6 d = false := nr (by kernel_rfl)
noncomputable def g35_7 : Array Oper := regAt Go.Proofs.Try.f35 7
theorem k35_7 : guardsOk g35_7 = true := nr (by kernel_rfl)
@[go_sem] theorem x35_7 {h : Hd} {ro nt id : Nat} {fr : PT} {H : Hp} : ex cx h ro 35 nt (.region id g35_7 false) fr H = xbind (xrun cx h ro 35 nt g35_7 [(some 18, (.build 185 #[(1, (.const (.bool true)))]), none), (some 9, (.alloc 185), none), (none, (.store 185 (.tmp 9) (.tmp 18)), none)] fr H) fun p => some (.normal, p.1, p.2) := x_region _ k35_7 (nr (by kernel_rfl))
@[go_sem] theorem t35_7 (d : Tmp) : takes g35_7 d = false := nr (by kernel_rfl)
noncomputable def g35_8 : Array Oper := regAt Go.Proofs.Try.f35 8
theorem k35_8 : guardsOk g35_8 = true := nr (by kernel_rfl)
@[go_sem] theorem x35_8 {h : Hd} {ro nt id : Nat} {fr : PT} {H : Hp} : ex cx h ro 35 nt (.region id g35_8 false) fr H = xbind (xrun cx h ro 35 nt g35_8 [(some 19, (.load 3 (.tmp 4)), none), (some 20, (.fieldAddr 185 (.tmp 9) 0), none), (some 21, (.fieldAddr 44 (.tmp 20) 0), none), (none, (.store 3 (.tmp 21) (.tmp 19)), none)] fr H) fun p => some (.normal, p.1, p.2) := x_region _ k35_8 (nr (by kernel_rfl))
@[go_sem] theorem t35_8 (d : Tmp) : takes g35_8 d = false := nr (by kernel_rfl)
noncomputable def g35_9 : Array Oper := regAt Go.Proofs.Try.f35 9
theorem k35_9 : guardsOk g35_9 = true := nr (by kernel_rfl)
@[go_sem] theorem x35_9 {h : Hd} {ro nt id : Nat} {fr : PT} {H : Hp} : ex cx h ro 35 nt (.region id g35_9 true) fr H = orRaw (xrunU cx h ro 35 nt g35_9 H.length [(0, 0, [], (some 22, (.fieldAddr 185 (.tmp 9) 0), none)), (1, 0, [], (some 23, (.fieldAddr 44 (.tmp 22) 3), none)), (2, 0, [], (some 24, (.slice 42 (.tmp 23) none none none), none)), (3, 0, [0, 1, 2], (some 25, (.load 39 (.tmp 5)), none)), (4, 0, [], (some 26, (.call ⟨(.builtin .copy), #[(.tmp 24), (.tmp 25)], #[39, 39]⟩), none))] fr (H ++ List.replicate 0 .res) []) fun _ => regionRaw cx h ro 35 nt g35_9 fr H := x_regionU _ _ k35_9 (nr (by kernel_rfl)) (nr (by kernel_rfl)) (nr (by kernel_rfl)) (nr (by kernel_rfl))
@[go_sem] theorem t35_9 (d : Tmp) : takes g35_9 d = false := nr (by kernel_rfl)
noncomputable def g35_10 : Array Oper := regAt Go.Proofs.Try.f35 10
theorem k35_10 : guardsOk g35_10 = true := nr (by kernel_rfl)
@[go_sem] theorem x35_10 {h : Hd} {ro nt id : Nat} {fr : PT} {H : Hp} : ex cx h ro 35 nt (.region id g35_10 true) fr H = orRaw (xrunU cx h ro 35 nt g35_10 H.length [(0, 0, [], (some 27, (.load 24 (.tmp 3)), none)), (1, 0, [], (some 28, (.nilCheck (.tmp 27)), none)), (2, 0, [], (some 29, (.fieldAddr 180 (.tmp 28) 0), none)), (3, 0, [], (some 30, (.load 178 (.tmp 29)), none)), (4, 0, [0, 1, 2, 3], (some 31, (.move (.tmp 8)), none)), (5, 0, [0, 1, 2, 3, 4], (some 32, (.load 185 (.tmp 9)), none)), (6, 0, [], (some 33, (.indexAddr 178 (.tmp 30) (.tmp 31)), none)), (7, 0, [], (none, (.store 185 (.tmp 33) (.tmp 32)), none))] fr (H ++ List.replicate 0 .res) []) fun _ => regionRaw cx h ro 35 nt g35_10 fr H := x_regionU _ _ k35_10 (nr (by kernel_rfl)) (nr (by kernel_rfl)) (nr (by kernel_rfl)) (nr (by kernel_rfl))
@[go_sem] theorem t35_10 (d : Tmp) : takes g35_10 d = false := nr (by kernel_rfl)
noncomputable def g35_11 : Array Oper := regAt Go.Proofs.Try.f35 11
theorem k35_11 : guardsOk g35_11 = true := nr (by kernel_rfl)
@[go_sem] theorem x35_11 {h : Hd} {ro nt id : Nat} {fr : PT} {H : Hp} : ex cx h ro 35 nt (.region id g35_11 false) fr H = xbind (xrun cx h ro 35 nt g35_11 [(some 34, (.move (.tmp 8)), none), (none, (.store 3 (.tmp 6) (.tmp 34)), none), (none, (.store 27 (.tmp 7) (.const (.int .i64 0))), none)] fr H) fun p => some (.normal, p.1, p.2) := x_region _ k35_11 (nr (by kernel_rfl))
@[go_sem] theorem t35_11 (d : Tmp) : takes g35_11 d = false := nr (by kernel_rfl)
noncomputable def g35_12 : Array Oper := regAt Go.Proofs.Try.f35 12
theorem k35_12 : guardsOk g35_12 = true := nr (by kernel_rfl)
@[go_sem] theorem x35_12 {h : Hd} {ro nt id : Nat} {fr : PT} {H : Hp} : ex cx h ro 35 nt (.region id g35_12 false) fr H = xbind (xrun cx h ro 35 nt g35_12 [(none, (.store 3 (.tmp 6) (.const (.int .i64 (-1)))), none), (none, (.store 27 (.tmp 7) (.const (.int .i64 22))), none)] fr H) fun p => some (.normal, p.1, p.2) := x_region _ k35_12 (nr (by kernel_rfl))
@[go_sem] theorem t35_12 (d : Tmp) : takes g35_12 d = false := nr (by kernel_rfl)
noncomputable def q35_0 : Code := (.region 6 g35_6 false)
noncomputable def r35_0 : Code := (.block 1 (.seq (.region 7 g35_7 false) (.seq (.region 8 g35_8 false) (.seq (.region 9 g35_9 true) (.seq (.region 10 g35_10 true) (.seq (.region 11 g35_11 false) .ret))))))
theorem b35 : Go.Proofs.Try.f35.body = some (.seq (.region 0 g35_0 false) (.seq (.seq (.region 1 g35_1 false) (.cond (.tmp 11) (.seq (.region 2 g35_2 false) .ret) .skip)) (.seq (.seq (.region 3 g35_3 false) (.cond (.tmp 14) (.seq (.region 4 g35_4 false) .ret) .skip)) (.seq (.seq (.region 5 g35_5 false) (.block 0 (.rangeFunc (.tmp 16) #[17] q35_0 r35_0))) (.seq (.region 12 g35_12 false) .ret))))) := by kernel_rfl
theorem c35 {h : Hd} {ro : Nat} {H : Hp} (a0 a1 a2 : AV) : callB cx h ro 35 [a0, a1, a2] H = returned cx [(.cell 6 3), (.cell 7 27)] (ex cx h ro 35 35 (.seq (.region 0 g35_0 false) (.seq (.seq (.region 1 g35_1 false) (.cond (.tmp 11) (.seq (.region 2 g35_2 false) .ret) .skip)) (.seq (.seq (.region 3 g35_3 false) (.cond (.tmp 14) (.seq (.region 4 g35_4 false) .ret) .skip)) (.seq (.seq (.region 5 g35_5 false) (.block 0 (.rangeFunc (.tmp 16) #[17] q35_0 r35_0))) (.seq (.region 12 g35_12 false) .ret))))) (((PT.nil.set 0 (drp a0)).set 1 (drp a1)).set 2 (drp a2)) H) := by
  have hf : cx.fns 35 = some Go.Proofs.Try.f35 := by kernel_rfl
  simp only [callB, hf, funced, b35, bodied]
  rfl
/-! function 36: (*colloquy/actors.Table).Drop -/
noncomputable def g36_0 : Array Oper := regAt Go.Proofs.Try.f36 0
theorem k36_0 : guardsOk g36_0 = true := nr (by kernel_rfl)
@[go_sem] theorem x36_0 {h : Hd} {ro nt id : Nat} {fr : PT} {H : Hp} : ex cx h ro 36 nt (.region id g36_0 false) fr H = xbind (xrun cx h ro 36 nt g36_0 [(some 4, (.assign (.const (.int .i64 0))), none)] fr H) fun p => some (.normal, p.1, p.2) := x_region _ k36_0 (nr (by kernel_rfl))
@[go_sem] theorem t36_0 (d : Tmp) : takes g36_0 d = false := nr (by kernel_rfl)
noncomputable def g36_1 : Array Oper := regAt Go.Proofs.Try.f36 1
theorem k36_1 : guardsOk g36_1 = true := nr (by kernel_rfl)
@[go_sem] theorem x36_1 {h : Hd} {ro nt id : Nat} {fr : PT} {H : Hp} : ex cx h ro 36 nt (.region id g36_1 false) fr H = xbind (xrun cx h ro 36 nt g36_1 [(some 8, (.move (.tmp 0)), none), (some 9, (.move (.tmp 1)), none), (some 10, (.call ⟨(.value (.func 109)), #[(.tmp 8), (.tmp 9)], #[24, 3]⟩), none), (some 7, (.move (.tmp 10)), none), (some 11, (.extract (.tmp 7) 0), none), (some 12, (.extract (.tmp 7) 1), none), (some 5, (.assign (.tmp 11)), none), (some 6, (.assign (.tmp 12)), none)] fr H) fun p => some (.normal, p.1, p.2) := x_region _ k36_1 (nr (by kernel_rfl))
@[go_sem] theorem t36_1 (d : Tmp) : takes g36_1 d = false := nr (by kernel_rfl)
noncomputable def g36_2 : Array Oper := regAt Go.Proofs.Try.f36 2
theorem k36_2 : guardsOk g36_2 = true := nr (by kernel_rfl)
@[go_sem] theorem x36_2 {h : Hd} {ro nt id : Nat} {fr : PT} {H : Hp} : ex cx h ro 36 nt (.region id g36_2 false) fr H = xbind (xrun cx h ro 36 nt g36_2 [(some 13, (.move (.tmp 6)), none), (some 14, (.binOp .eql 27 (.tmp 13) (.const (.int .i64 0)) 27), none)] fr H) fun p => some (.normal, p.1, p.2) := x_region _ k36_2 (nr (by kernel_rfl))
@[go_sem] theorem t36_2 (d : Tmp) : takes g36_2 d = false := nr (by kernel_rfl)
noncomputable def g36_3 : Array Oper := regAt Go.Proofs.Try.f36 3
theorem k36_3 : guardsOk g36_3 = true := nr (by kernel_rfl)
@[go_sem] theorem x36_3 {h : Hd} {ro nt id : Nat} {fr : PT} {H : Hp} : ex cx h ro 36 nt (.region id g36_3 false) fr H = xbind (xrun cx h ro 36 nt g36_3 [(some 15, (.move (.tmp 5)), none), (some 16, (.build 185 #[]), none), (some 17, (.nilCheck (.tmp 15)), none), (none, (.store 185 (.tmp 17) (.tmp 16)), none)] fr H) fun p => some (.normal, p.1, p.2) := x_region _ k36_3 (nr (by kernel_rfl))
@[go_sem] theorem t36_3 (d : Tmp) : takes g36_3 d = false := nr (by kernel_rfl)
noncomputable def g36_4 : Array Oper := regAt Go.Proofs.Try.f36 4
theorem k36_4 : guardsOk g36_4 = true := nr (by kernel_rfl)
@[go_sem] theorem x36_4 {h : Hd} {ro nt id : Nat} {fr : PT} {H : Hp} : ex cx h ro 36 nt (.region id g36_4 false) fr H = xbind (xrun cx h ro 36 nt g36_4 [(some 18, (.move (.tmp 6)), none), (some 4, (.assign (.tmp 18)), none)] fr H) fun p => some (.normal, p.1, p.2) := x_region _ k36_4 (nr (by kernel_rfl))
@[go_sem] theorem t36_4 (d : Tmp) : takes g36_4 d = false := nr (by kernel_rfl)
theorem b36 : Go.Proofs.Try.f36.body = some (.seq (.region 0 g36_0 false) (.seq (.region 1 g36_1 false) (.seq (.seq (.region 2 g36_2 false) (.cond (.tmp 14) (.region 3 g36_3 false) .skip)) (.seq (.region 4 g36_4 false) .ret)))) := by kernel_rfl
theorem c36 {h : Hd} {ro : Nat} {H : Hp} (a0 a1 : AV) : callB cx h ro 36 [a0, a1] H = returned cx [(.tmp 4)] (ex cx h ro 36 19 (.seq (.region 0 g36_0 false) (.seq (.region 1 g36_1 false) (.seq (.seq (.region 2 g36_2 false) (.cond (.tmp 14) (.region 3 g36_3 false) .skip)) (.seq (.region 4 g36_4 false) .ret)))) ((PT.nil.set 0 (drp a0)).set 1 (drp a1)) H) := by
  have hf : cx.fns 36 = some Go.Proofs.Try.f36 := by kernel_rfl
  simp only [callB, hf, funced, b36, bodied]
  rfl
/-! function 38: (*colloquy/actors.Table).Live -/
noncomputable def g38_0 : Array Oper := regAt Go.Proofs.Try.f38 0
theorem k38_0 : guardsOk g38_0 = true := nr (by kernel_rfl)
@[go_sem] theorem x38_0 {h : Hd} {ro nt id : Nat} {fr : PT} {H : Hp} : ex cx h ro 38 nt (.region id g38_0 false) fr H = xbind (xrun cx h ro 38 nt g38_0 [(some 2, (.assign (.const (.slice none 0 0))), none)] fr H) fun p => some (.normal, p.1, p.2) := x_region _ k38_0 (nr (by kernel_rfl))
@[go_sem] theorem t38_0 (d : Tmp) : takes g38_0 d = false := nr (by kernel_rfl)
noncomputable def g38_1 : Array Oper := regAt Go.Proofs.Try.f38 1
theorem k38_1 : guardsOk g38_1 = true := nr (by kernel_rfl)
@[go_sem] theorem x38_1 {h : Hd} {ro nt id : Nat} {fr : PT} {H : Hp} : ex cx h ro 38 nt (.region id g38_1 false) fr H = xbind (xrun cx h ro 38 nt g38_1 [(some 3, (.move (.tmp 0)), none), (some 4, (.binOp .eql 24 (.tmp 3) (.const (.pointer none)) 24), none)] fr H) fun p => some (.normal, p.1, p.2) := x_region _ k38_1 (nr (by kernel_rfl))
@[go_sem] theorem t38_1 (d : Tmp) : takes g38_1 d = false := nr (by kernel_rfl)
noncomputable def g38_2 : Array Oper := regAt Go.Proofs.Try.f38 2
theorem k38_2 : guardsOk g38_2 = true := nr (by kernel_rfl)
@[go_sem] theorem x38_2 {h : Hd} {ro nt id : Nat} {fr : PT} {H : Hp} : ex cx h ro 38 nt (.region id g38_2 false) fr H = xbind (xrun cx h ro 38 nt g38_2 [(some 2, (.assign (.const (.slice none 0 0))), none)] fr H) fun p => some (.normal, p.1, p.2) := x_region _ k38_2 (nr (by kernel_rfl))
@[go_sem] theorem t38_2 (d : Tmp) : takes g38_2 d = false := nr (by kernel_rfl)
noncomputable def g38_3 : Array Oper := regAt Go.Proofs.Try.f38 3
theorem k38_3 : guardsOk g38_3 = true := nr (by kernel_rfl)
@[go_sem] theorem x38_3 {h : Hd} {ro nt id : Nat} {fr : PT} {H : Hp} : ex cx h ro 38 nt (.region id g38_3 false) fr H = xbind (xrun cx h ro 38 nt g38_3 [(some 5, (.move (.tmp 0)), none), (some 6, (.call ⟨(.value (.func 108)), #[(.tmp 5), (.const (.bool true))], #[24, 4]⟩), none), (some 7, (.call ⟨(.value (.func 110)), #[(.tmp 6)], #[182]⟩), none), (some 2, (.assign (.tmp 7)), none)] fr H) fun p => some (.normal, p.1, p.2) := x_region _ k38_3 (nr (by kernel_rfl))
@[go_sem] theorem t38_3 (d : Tmp) : takes g38_3 d = false := nr (by kernel_rfl)
theorem b38 : Go.Proofs.Try.f38.body = some (.seq (.region 0 g38_0 false) (.seq (.seq (.region 1 g38_1 false) (.cond (.tmp 4) (.seq (.region 2 g38_2 false) .ret) .skip)) (.seq (.region 3 g38_3 false) .ret))) := by kernel_rfl
theorem c38 {h : Hd} {ro : Nat} {H : Hp} (a0 : AV) : callB cx h ro 38 [a0] H = returned cx [(.tmp 2)] (ex cx h ro 38 8 (.seq (.region 0 g38_0 false) (.seq (.seq (.region 1 g38_1 false) (.cond (.tmp 4) (.seq (.region 2 g38_2 false) .ret) .skip)) (.seq (.region 3 g38_3 false) .ret))) (PT.nil.set 0 (drp a0)) H) := by
  have hf : cx.fns 38 = some Go.Proofs.Try.f38 := by kernel_rfl
  simp only [callB, hf, funced, b38, bodied]
  rfl
/-! function 108: (*colloquy/actors.Table).all -/
noncomputable def g108_0 : Array Oper := regAt Go.Proofs.Try.f108 0
theorem k108_0 : guardsOk g108_0 = true := nr (by kernel_rfl)
@[go_sem] theorem x108_0 {h : Hd} {ro nt id : Nat} {fr : PT} {H : Hp} : ex cx h ro 108 nt (.region id g108_0 false) fr H = xbind (xrun cx h ro 108 nt g108_0 [(some 2, (.box 24 (.tmp 0)), none), (some 3, (.box 4 (.tmp 1)), none), (some 4, (.assign (.const .nilFunc)), none)] fr H) fun p => some (.normal, p.1, p.2) := x_region _ k108_0 (nr (by kernel_rfl))
@[go_sem] theorem t108_0 (d : Tmp) : takes g108_0 d = false := nr (by kernel_rfl)
noncomputable def g108_1 : Array Oper := regAt Go.Proofs.Try.f108 1
theorem k108_1 : guardsOk g108_1 = true := nr (by kernel_rfl)
@[go_sem] theorem x108_1 {h : Hd} {ro nt id : Nat} {fr : PT} {H : Hp} : ex cx h ro 108 nt (.region id g108_1 false) fr H = xbind (xrun cx h ro 108 nt g108_1 [(some 5, (.makeFunc (.func 150) #[] #[(.tmp 2), (.tmp 3)]), none), (some 4, (.assign (.tmp 5)), none)] fr H) fun p => some (.normal, p.1, p.2) := x_region _ k108_1 (nr (by kernel_rfl))
@[go_sem] theorem t108_1 (d : Tmp) : takes g108_1 d = false := nr (by kernel_rfl)
theorem b108 : Go.Proofs.Try.f108.body = some (.seq (.region 0 g108_0 false) (.seq (.region 1 g108_1 false) .ret)) := by kernel_rfl
theorem c108 {h : Hd} {ro : Nat} {H : Hp} (a0 a1 : AV) : callB cx h ro 108 [a0, a1] H = returned cx [(.tmp 4)] (ex cx h ro 108 6 (.seq (.region 0 g108_0 false) (.seq (.region 1 g108_1 false) .ret)) ((PT.nil.set 0 (drp a0)).set 1 (drp a1)) H) := by
  have hf : cx.fns 108 = some Go.Proofs.Try.f108 := by kernel_rfl
  simp only [callB, hf, funced, b108, bodied]
  rfl
/-! function 109: (*colloquy/actors.Table).at -/
noncomputable def g109_0 : Array Oper := regAt Go.Proofs.Try.f109 0
theorem k109_0 : guardsOk g109_0 = true := nr (by kernel_rfl)
@[go_sem] theorem x109_0 {h : Hd} {ro nt id : Nat} {fr : PT} {H : Hp} : ex cx h ro 109 nt (.region id g109_0 false) fr H = xbind (xrun cx h ro 109 nt g109_0 [(some 4, (.assign (.const (.pointer none))), none), (some 5, (.assign (.const (.int .i64 0))), none)] fr H) fun p => some (.normal, p.1, p.2) := x_region _ k109_0 (nr (by kernel_rfl))
@[go_sem] theorem t109_0 (d : Tmp) : takes g109_0 d = false := nr (by kernel_rfl)
noncomputable def g109_1 : Array Oper := regAt Go.Proofs.Try.f109 1
theorem k109_1 : guardsOk g109_1 = true := nr (by kernel_rfl)
@[go_sem] theorem x109_1 {h : Hd} {ro nt id : Nat} {fr : PT} {H : Hp} : ex cx h ro 109 nt (.region id g109_1 false) fr H = xbind (xrun cx h ro 109 nt g109_1 [(some 7, (.move (.tmp 0)), none), (some 8, (.binOp .eql 24 (.tmp 7) (.const (.pointer none)) 24), none), (some 6, (.assign (.tmp 8)), none)] fr H) fun p => some (.normal, p.1, p.2) := x_region _ k109_1 (nr (by kernel_rfl))
@[go_sem] theorem t109_1 (d : Tmp) : takes g109_1 d = false := nr (by kernel_rfl)
noncomputable def g109_2 : Array Oper := regAt Go.Proofs.Try.f109 2
theorem k109_2 : guardsOk g109_2 = true := nr (by kernel_rfl)
@[go_sem] theorem x109_2 {h : Hd} {ro nt id : Nat} {fr : PT} {H : Hp} : ex cx h ro 109 nt (.region id g109_2 false) fr H = xbind (xrun cx h ro 109 nt g109_2 [(some 4, (.assign (.const (.pointer none))), none), (some 5, (.assign (.const (.int .i64 1))), none)] fr H) fun p => some (.normal, p.1, p.2) := x_region _ k109_2 (nr (by kernel_rfl))
@[go_sem] theorem t109_2 (d : Tmp) : takes g109_2 d = false := nr (by kernel_rfl)
noncomputable def g109_3 : Array Oper := regAt Go.Proofs.Try.f109 3
theorem k109_3 : guardsOk g109_3 = true := nr (by kernel_rfl)
@[go_sem] theorem x109_3 {h : Hd} {ro nt id : Nat} {fr : PT} {H : Hp} : ex cx h ro 109 nt (.region id g109_3 false) fr H = xbind (xrun cx h ro 109 nt g109_3 [(some 10, (.move (.tmp 1)), none), (some 11, (.binOp .lss 3 (.tmp 10) (.const (.int .i64 0)) 3), none), (some 12, (.move (.tmp 11)), none), (some 13, (.move (.tmp 1)), some (12, false)), (some 14, (.move (.tmp 0)), some (12, false)), (some 15, (.nilCheck (.tmp 14)), some (12, false)), (some 16, (.fieldAddr 180 (.tmp 15) 0), some (12, false)), (some 17, (.load 178 (.tmp 16)), some (12, false)), (some 18, (.call ⟨(.builtin .len), #[(.tmp 17)], #[178]⟩), some (12, false)), (some 19, (.binOp .geq 3 (.tmp 13) (.tmp 18) 3), some (12, false)), (some 20, (.pick (.tmp 12) (.const (.bool true)) (.tmp 19)), none), (some 21, (.move (.tmp 20)), none), (some 22, (.move (.tmp 0)), some (21, false)), (some 23, (.nilCheck (.tmp 22)), some (21, false)), (some 24, (.fieldAddr 180 (.tmp 23) 0), some (21, false)), (some 25, (.load 178 (.tmp 24)), some (21, false)), (some 26, (.move (.tmp 1)), some (21, false)), (some 27, (.indexAddr 178 (.tmp 25) (.tmp 26)), some (21, false)), (some 28, (.fieldAddr 185 (.tmp 27) 1), some (21, false)), (some 29, (.load 4 (.tmp 28)), some (21, false)), (some 30, (.unOp .not 4 (.tmp 29)), some (21, false)), (some 31, (.pick (.tmp 21) (.const (.bool true)) (.tmp 30)), none), (some 9, (.assign (.tmp 31)), none)] fr H) fun p => some (.normal, p.1, p.2) := x_region _ k109_3 (nr (by kernel_rfl))
@[go_sem] theorem t109_3 (d : Tmp) : takes g109_3 d = false := nr (by kernel_rfl)
noncomputable def g109_4 : Array Oper := regAt Go.Proofs.Try.f109 4
theorem k109_4 : guardsOk g109_4 = true := nr (by kernel_rfl)
@[go_sem] theorem x109_4 {h : Hd} {ro nt id : Nat} {fr : PT} {H : Hp} : ex cx h ro 109 nt (.region id g109_4 false) fr H = xbind (xrun cx h ro 109 nt g109_4 [(some 4, (.assign (.const (.pointer none))), none), (some 5, (.assign (.const (.int .i64 24))), none)] fr H) fun p => some (.normal, p.1, p.2) := x_region _ k109_4 (nr (by kernel_rfl))
@[go_sem] theorem t109_4 (d : Tmp) : takes g109_4 d = false := nr (by kernel_rfl)
noncomputable def g109_5 : Array Oper := regAt Go.Proofs.Try.f109 5
theorem k109_5 : guardsOk g109_5 = true := nr (by kernel_rfl)
@[go_sem] theorem x109_5 {h : Hd} {ro nt id : Nat} {fr : PT} {H : Hp} : ex cx h ro 109 nt (.region id g109_5 false) fr H = xbind (xrun cx h ro 109 nt g109_5 [(some 32, (.move (.tmp 0)), none), (some 33, (.nilCheck (.tmp 32)), none), (some 34, (.fieldAddr 180 (.tmp 33) 0), none), (some 35, (.load 178 (.tmp 34)), none), (some 36, (.move (.tmp 1)), none), (some 37, (.indexAddr 178 (.tmp 35) (.tmp 36)), none), (some 4, (.assign (.tmp 37)), none), (some 5, (.assign (.const (.int .i64 0))), none)] fr H) fun p => some (.normal, p.1, p.2) := x_region _ k109_5 (nr (by kernel_rfl))
@[go_sem] theorem t109_5 (d : Tmp) : takes g109_5 d = false := nr (by kernel_rfl)
theorem b109 : Go.Proofs.Try.f109.body = some (.seq (.region 0 g109_0 false) (.seq (.block 0 (.seq (.region 1 g109_1 false) (.cond (.tmp 6) (.seq (.region 2 g109_2 false) .ret) (.seq (.region 3 g109_3 false) (.cond (.tmp 9) (.seq (.region 4 g109_4 false) .ret) .skip))))) (.seq (.region 5 g109_5 false) .ret))) := by kernel_rfl
theorem c109 {h : Hd} {ro : Nat} {H : Hp} (a0 a1 : AV) : callB cx h ro 109 [a0, a1] H = returned cx [(.tmp 4), (.tmp 5)] (ex cx h ro 109 38 (.seq (.region 0 g109_0 false) (.seq (.block 0 (.seq (.region 1 g109_1 false) (.cond (.tmp 6) (.seq (.region 2 g109_2 false) .ret) (.seq (.region 3 g109_3 false) (.cond (.tmp 9) (.seq (.region 4 g109_4 false) .ret) .skip))))) (.seq (.region 5 g109_5 false) .ret))) ((PT.nil.set 0 (drp a0)).set 1 (drp a1)) H) := by
  have hf : cx.fns 109 = some Go.Proofs.Try.f109 := by kernel_rfl
  simp only [callB, hf, funced, b109, bodied]
  rfl
/-! function 110: slices.Collect[int] -/
noncomputable def g110_0 : Array Oper := regAt Go.Proofs.Try.f110 0
theorem k110_0 : guardsOk g110_0 = true := nr (by kernel_rfl)
@[go_sem] theorem x110_0 {h : Hd} {ro nt id : Nat} {fr : PT} {H : Hp} : ex cx h ro 110 nt (.region id g110_0 false) fr H = xbind (xrun cx h ro 110 nt g110_0 [(some 2, (.assign (.const (.slice none 0 0))), none)] fr H) fun p => some (.normal, p.1, p.2) := x_region _ k110_0 (nr (by kernel_rfl))
@[go_sem] theorem t110_0 (d : Tmp) : takes g110_0 d = false := nr (by kernel_rfl)
noncomputable def g110_1 : Array Oper := regAt Go.Proofs.Try.f110 1
theorem k110_1 : guardsOk g110_1 = true := nr (by kernel_rfl)
@[go_sem] theorem x110_1 {h : Hd} {ro nt id : Nat} {fr : PT} {H : Hp} : ex cx h ro 110 nt (.region id g110_1 false) fr H = xbind (xrun cx h ro 110 nt g110_1 [(some 3, (.move (.tmp 0)), none), (some 4, (.call ⟨(.value (.func 151)), #[(.const (.slice none 0 0)), (.tmp 3)], #[31, 182]⟩), none), (some 2, (.assign (.tmp 4)), none)] fr H) fun p => some (.normal, p.1, p.2) := x_region _ k110_1 (nr (by kernel_rfl))
@[go_sem] theorem t110_1 (d : Tmp) : takes g110_1 d = false := nr (by kernel_rfl)
theorem b110 : Go.Proofs.Try.f110.body = some (.seq (.region 0 g110_0 false) (.seq (.region 1 g110_1 false) .ret)) := by kernel_rfl
theorem c110 {h : Hd} {ro : Nat} {H : Hp} (a0 : AV) : callB cx h ro 110 [a0] H = returned cx [(.tmp 2)] (ex cx h ro 110 5 (.seq (.region 0 g110_0 false) (.seq (.region 1 g110_1 false) .ret)) (PT.nil.set 0 (drp a0)) H) := by
  have hf : cx.fns 110 = some Go.Proofs.Try.f110 := by kernel_rfl
  simp only [callB, hf, funced, b110, bodied]
  rfl
/-! function 150: (*colloquy/actors.Table).all$1 -/
noncomputable def g150_0 : Array Oper := regAt Go.Proofs.Try.f150 0
theorem k150_0 : guardsOk g150_0 = true := nr (by kernel_rfl)
@[go_sem] theorem x150_0 {h : Hd} {ro nt id : Nat} {fr : PT} {H : Hp} : ex cx h ro 150 nt (.region id g150_0 false) fr H = xbind (xrun cx h ro 150 nt g150_0 [(some 5, (.load 24 (.tmp 1)), none), (some 6, (.nilCheck (.tmp 5)), none), (some 7, (.fieldAddr 180 (.tmp 6) 0), none), (some 8, (.load 178 (.tmp 7)), none), (some 9, (.call ⟨(.builtin .len), #[(.tmp 8)], #[178]⟩), none), (some 10, (.move (.const (.int .i64 0))), none)] fr H) fun p => some (.normal, p.1, p.2) := x_region _ k150_0 (nr (by kernel_rfl))
@[go_sem] theorem t150_0 (d : Tmp) : takes g150_0 d = false := nr (by kernel_rfl)
noncomputable def g150_1 : Array Oper := regAt Go.Proofs.Try.f150 1
theorem k150_1 : guardsOk g150_1 = true := nr (by kernel_rfl)
@[go_sem] theorem x150_1 {h : Hd} {ro nt id : Nat} {fr : PT} {H : Hp} : ex cx h ro 150 nt (.region id g150_1 false) fr H = xbind (xrun cx h ro 150 nt g150_1 [(some 11, (.binOp .lss 3 (.tmp 10) (.tmp 9) 3), none)] fr H) fun p => some (.normal, p.1, p.2) := x_region _ k150_1 (nr (by kernel_rfl))
@[go_sem] theorem t150_1 (d : Tmp) : takes g150_1 d = false := nr (by kernel_rfl)
noncomputable def g150_2 : Array Oper := regAt Go.Proofs.Try.f150 2
theorem k150_2 : guardsOk g150_2 = true := nr (by kernel_rfl)
@[go_sem] theorem x150_2 {h : Hd} {ro nt id : Nat} {fr : PT} {H : Hp} : ex cx h ro 150 nt (.region id g150_2 false) fr H = xbind (xrun cx h ro 150 nt g150_2 [(some 12, (.move (.tmp 10)), none), (some 4, (.assign (.tmp 12)), none)] fr H) fun p => some (.normal, p.1, p.2) := x_region _ k150_2 (nr (by kernel_rfl))
@[go_sem] theorem t150_2 (d : Tmp) : takes g150_2 d = false := nr (by kernel_rfl)
noncomputable def g150_3 : Array Oper := regAt Go.Proofs.Try.f150 3
theorem k150_3 : guardsOk g150_3 = true := nr (by kernel_rfl)
@[go_sem] theorem x150_3 {h : Hd} {ro nt id : Nat} {fr : PT} {H : Hp} : ex cx h ro 150 nt (.region id g150_3 true) fr H = orRaw (xrunU cx h ro 150 nt g150_3 H.length [(0, 0, [], (some 13, (.load 24 (.tmp 1)), none)), (1, 0, [], (some 14, (.nilCheck (.tmp 13)), none)), (2, 0, [], (some 15, (.fieldAddr 180 (.tmp 14) 0), none)), (3, 0, [], (some 16, (.load 178 (.tmp 15)), none)), (4, 0, [0, 1, 2, 3], (some 17, (.move (.tmp 4)), none)), (5, 0, [], (some 18, (.indexAddr 178 (.tmp 16) (.tmp 17)), none)), (6, 0, [], (some 19, (.fieldAddr 185 (.tmp 18) 1), none)), (7, 0, [], (some 20, (.load 4 (.tmp 19)), none)), (8, 0, [0, 1, 2, 3, 4, 5, 6, 7], (some 21, (.load 4 (.tmp 2)), none)), (9, 0, [], (some 22, (.binOp .eql 4 (.tmp 20) (.tmp 21) 4), none)), (10, 0, [], (some 23, (.move (.tmp 22)), none)), (11, 0, [], (some 24, (.move (.tmp 0)), some (23, true))), (12, 0, [11], (some 25, (.move (.tmp 4)), some (23, true))), (13, 0, [], (some 26, (.call ⟨(.value (.tmp 24)), #[(.tmp 25)], #[3]⟩), some (23, true))), (14, 0, [], (some 27, (.unOp .not 4 (.tmp 26)), some (23, true))), (15, 0, [], (some 28, (.pick (.tmp 23) (.tmp 27) (.const (.bool false))), none))] fr (H ++ List.replicate 0 .res) []) fun _ => regionRaw cx h ro 150 nt g150_3 fr H := x_regionU _ _ k150_3 (nr (by kernel_rfl)) (nr (by kernel_rfl)) (nr (by kernel_rfl)) (nr (by kernel_rfl))
@[go_sem] theorem t150_3 (d : Tmp) : takes g150_3 d = false := nr (by kernel_rfl)
noncomputable def g150_4 : Array Oper := regAt Go.Proofs.Try.f150 4
theorem k150_4 : guardsOk g150_4 = true := nr (by kernel_rfl)
@[go_sem] theorem x150_4 {h : Hd} {ro nt id : Nat} {fr : PT} {H : Hp} : ex cx h ro 150 nt (.region id g150_4 false) fr H = xbind (xrun cx h ro 150 nt g150_4 [(some 29, (.binOp .add 3 (.tmp 10) (.const (.int .i64 1)) 3), none), (some 10, (.move (.tmp 29)), none)] fr H) fun p => some (.normal, p.1, p.2) := x_region _ k150_4 (nr (by kernel_rfl))
@[go_sem] theorem t150_4 (d : Tmp) : takes g150_4 d = false := nr (by kernel_rfl)
noncomputable def l150_0 : Code := (.seq (.region 1 g150_1 false) (.seq (.cond (.tmp 11) .skip (.exit 0)) (.seq (.block 1 (.seq (.region 2 g150_2 false) (.seq (.region 3 g150_3 true) (.cond (.tmp 28) .ret .skip)))) (.region 4 g150_4 false))))
theorem dl150_0 {ro nt : Nat} {fr : PT} {H : Hp} : (den cx).loop ro 150 nt l150_0 fr H = xbind (ex cx (den cx) ro 150 nt (.seq (.region 1 g150_1 false) (.seq (.cond (.tmp 11) .skip (.exit 0)) (.seq (.block 1 (.seq (.region 2 g150_2 false) (.seq (.region 3 g150_3 true) (.cond (.tmp 28) .ret .skip)))) (.region 4 g150_4 false)))) fr H) (contR (trimmed ((den cx).loop ro 150 nt l150_0) H.length)) := den_loop_x l150_0
theorem b150 : Go.Proofs.Try.f150.body = some (.seq (.region 0 g150_0 false) (.block 0 (.loop l150_0))) := by kernel_rfl
theorem c150 {h : Hd} {ro : Nat} {H : Hp} (a0 a1 a2 : AV) : callB cx h ro 150 [a0, a1, a2] H = returned cx [] (ex cx h ro 150 30 (.seq (.region 0 g150_0 false) (.block 0 (.loop l150_0))) (((PT.nil.set 0 (drp a0)).set 1 (drp a1)).set 2 (drp a2)) H) := by
  have hf : cx.fns 150 = some Go.Proofs.Try.f150 := by kernel_rfl
  simp only [callB, hf, funced, b150, bodied]
  rfl
/-! function 151: slices.AppendSeq[[]int,int] -/
noncomputable def g151_0 : Array Oper := regAt Go.Proofs.Try.f151 0
theorem k151_0 : guardsOk g151_0 = true := nr (by kernel_rfl)
@[go_sem] theorem x151_0 {h : Hd} {ro nt id : Nat} {fr : PT} {H : Hp} : ex cx h ro 151 nt (.region id g151_0 false) fr H = xbind (xrun cx h ro 151 nt g151_0 [(some 2, (.box 31 (.tmp 0)), none), (some 4, (.assign (.const (.slice none 0 0))), none)] fr H) fun p => some (.normal, p.1, p.2) := x_region _ k151_0 (nr (by kernel_rfl))
@[go_sem] theorem t151_0 (d : Tmp) : takes g151_0 d = false := nr (by kernel_rfl)
noncomputable def g151_1 : Array Oper := regAt Go.Proofs.Try.f151 1
theorem k151_1 : guardsOk g151_1 = true := nr (by kernel_rfl)
@[go_sem] theorem x151_1 {h : Hd} {ro nt id : Nat} {fr : PT} {H : Hp} : ex cx h ro 151 nt (.region id g151_1 false) fr H = xbind (xrun cx h ro 151 nt g151_1 [(some 6, (.move (.tmp 1)), none)] fr H) fun p => some (.normal, p.1, p.2) := x_region _ k151_1 (nr (by kernel_rfl))
@[go_sem] theorem t151_1 (d : Tmp) : takes g151_1 d = false := nr (by kernel_rfl)
noncomputable def g151_2 : Array Oper := regAt Go.Proofs.Try.f151 2
theorem k151_2 : guardsOk g151_2 = true := nr (by kernel_rfl)
@[go_sem] theorem x151_2 {h : Hd} {ro nt id : Nat} {fr : PT} {H : Hp} : ex cx h ro 151 nt (.region id g151_2 false) fr H = xbind (xrun cx h ro 151 nt g151_2 [(some 5, (.assign (.tmp 7)), none)] fr H) fun p => some (.normal, p.1, p.2) := x_region _ k151_2 (nr (by kernel_rfl))
@[go_sem] theorem t151_2 (d : Tmp) : takes g151_2 d = false := nr (by kernel_rfl)
noncomputable def g151_3 : Array Oper := regAt Go.Proofs.Try.f151 3
theorem k151_3 : guardsOk g151_3 = true := nr (by kernel_rfl)
@[go_sem] theorem x151_3 {h : Hd} {ro nt id : Nat} {fr : PT} {H : Hp} : ex cx h ro 151 nt (.region id g151_3 false) fr H = xbind (xrun cx h ro 151 nt g151_3 [(some 8, (.load 31 (.tmp 2)), none), (some 9, (.move (.tmp 5)), none), (some 10, (.buildSlice 31 1 #[(0, (.tmp 9))]), none), (some 11, (.call ⟨(.builtin .append), #[(.tmp 8), (.tmp 10)], #[31, 31]⟩), none), (none, (.store 31 (.tmp 2) (.tmp 11)), none)] fr H) fun p => some (.normal, p.1, p.2) := x_region _ k151_3 (nr (by kernel_rfl))
@[go_sem] theorem t151_3_8 : takes g151_3 8 = true := nr (by kernel_rfl)
@[go_sem] theorem t151_3_9 : takes g151_3 9 = false := nr (by kernel_rfl)
@[go_sem] theorem t151_3_10 : takes g151_3 10 = false := nr (by kernel_rfl)
@[go_sem] theorem t151_3_11 : takes g151_3 11 = false := nr (by kernel_rfl)
noncomputable def g151_4 : Array Oper := regAt Go.Proofs.Try.f151 4
theorem k151_4 : guardsOk g151_4 = true := nr (by kernel_rfl)
@[go_sem] theorem x151_4 {h : Hd} {ro nt id : Nat} {fr : PT} {H : Hp} : ex cx h ro 151 nt (.region id g151_4 false) fr H = xbind (xrun cx h ro 151 nt g151_4 [(some 12, (.load 31 (.tmp 2)), none), (some 4, (.assign (.tmp 12)), none)] fr H) fun p => some (.normal, p.1, p.2) := x_region _ k151_4 (nr (by kernel_rfl))
@[go_sem] theorem t151_4 (d : Tmp) : takes g151_4 d = false := nr (by kernel_rfl)
noncomputable def q151_0 : Code := (.region 2 g151_2 false)
noncomputable def r151_0 : Code := (.block 1 (.region 3 g151_3 false))
theorem b151 : Go.Proofs.Try.f151.body = some (.seq (.region 0 g151_0 false) (.seq (.seq (.region 1 g151_1 false) (.block 0 (.rangeFunc (.tmp 6) #[7] q151_0 r151_0))) (.seq (.region 4 g151_4 false) .ret))) := by kernel_rfl
theorem c151 {h : Hd} {ro : Nat} {H : Hp} (a0 a1 : AV) : callB cx h ro 151 [a0, a1] H = returned cx [(.tmp 4)] (ex cx h ro 151 13 (.seq (.region 0 g151_0 false) (.seq (.seq (.region 1 g151_1 false) (.block 0 (.rangeFunc (.tmp 6) #[7] q151_0 r151_0))) (.seq (.region 4 g151_4 false) .ret))) ((PT.nil.set 0 (drp a0)).set 1 (drp a1)) H) := by
  have hf : cx.fns 151 = some Go.Proofs.Try.f151 := by kernel_rfl
  simp only [callB, hf, funced, b151, bodied]
  rfl
/-! function 33: colloquy/colloquylaw22.works -/
noncomputable def g33_0 : Array Oper := regAt Go.Proofs.Try.f33 0
theorem k33_0 : guardsOk g33_0 = true := nr (by kernel_rfl)
@[go_sem] theorem x33_0 {h : Hd} {ro nt id : Nat} {fr : PT} {H : Hp} : ex cx h ro 33 nt (.region id g33_0 false) fr H = xbind (xrun cx h ro 33 nt g33_0 [(some 0, (.assign (.const (.bool false))), none)] fr H) fun p => some (.normal, p.1, p.2) := x_region _ k33_0 (nr (by kernel_rfl))
@[go_sem] theorem t33_0 (d : Tmp) : takes g33_0 d = false := nr (by kernel_rfl)
noncomputable def g33_1 : Array Oper := regAt Go.Proofs.Try.f33 1
theorem k33_1 : guardsOk g33_1 = true := nr (by kernel_rfl)
@[go_sem] theorem x33_1 {h : Hd} {ro nt id : Nat} {fr : PT} {H : Hp} : ex cx h ro 33 nt (.region id g33_1 false) fr H = xbind (xrun cx h ro 33 nt g33_1 [(some 17, (.call ⟨(.value (.func 34)), #[(.const (.int .i64 2))], #[3]⟩), none), (some 1, (.assign (.tmp 17)), none)] fr H) fun p => some (.normal, p.1, p.2) := x_region _ k33_1 (nr (by kernel_rfl))
@[go_sem] theorem t33_1 (d : Tmp) : takes g33_1 d = false := nr (by kernel_rfl)
noncomputable def g33_2 : Array Oper := regAt Go.Proofs.Try.f33 2
theorem k33_2 : guardsOk g33_2 = true := nr (by kernel_rfl)
@[go_sem] theorem x33_2 {h : Hd} {ro nt id : Nat} {fr : PT} {H : Hp} : ex cx h ro 33 nt (.region id g33_2 false) fr H = xbind (xrun cx h ro 33 nt g33_2 [(some 18, (.move (.tmp 1)), none), (some 19, (.binOp .eql 24 (.tmp 18) (.const (.pointer none)) 24), none)] fr H) fun p => some (.normal, p.1, p.2) := x_region _ k33_2 (nr (by kernel_rfl))
@[go_sem] theorem t33_2 (d : Tmp) : takes g33_2 d = false := nr (by kernel_rfl)
noncomputable def g33_3 : Array Oper := regAt Go.Proofs.Try.f33 3
theorem k33_3 : guardsOk g33_3 = true := nr (by kernel_rfl)
@[go_sem] theorem x33_3 {h : Hd} {ro nt id : Nat} {fr : PT} {H : Hp} : ex cx h ro 33 nt (.region id g33_3 false) fr H = xbind (xrun cx h ro 33 nt g33_3 [(some 0, (.assign (.const (.bool false))), none)] fr H) fun p => some (.normal, p.1, p.2) := x_region _ k33_3 (nr (by kernel_rfl))
@[go_sem] theorem t33_3 (d : Tmp) : takes g33_3 d = false := nr (by kernel_rfl)
noncomputable def g33_4 : Array Oper := regAt Go.Proofs.Try.f33 4
theorem k33_4 : guardsOk g33_4 = true := nr (by kernel_rfl)
@[go_sem] theorem x33_4 {h : Hd} {ro nt id : Nat} {fr : PT} {H : Hp} : ex cx h ro 33 nt (.region id g33_4 false) fr H = xbind (xrun cx h ro 33 nt g33_4 [(some 21, (.move (.tmp 1)), none), (some 22, (.buildSlice 39 1 #[(0, (.const (.int .i64 7)))]), none), (some 23, (.call ⟨(.value (.func 35)), #[(.tmp 21), (.const (.int .i64 3)), (.tmp 22)], #[24, 3, 39]⟩), none), (some 20, (.move (.tmp 23)), none), (some 24, (.extract (.tmp 20) 0), none), (some 25, (.extract (.tmp 20) 1), none), (some 2, (.assign (.tmp 24)), none), (some 3, (.assign (.tmp 25)), none)] fr H) fun p => some (.normal, p.1, p.2) := x_region _ k33_4 (nr (by kernel_rfl))
@[go_sem] theorem t33_4 (d : Tmp) : takes g33_4 d = false := nr (by kernel_rfl)
noncomputable def g33_5 : Array Oper := regAt Go.Proofs.Try.f33 5
theorem k33_5 : guardsOk g33_5 = true := nr (by kernel_rfl)
@[go_sem] theorem x33_5 {h : Hd} {ro nt id : Nat} {fr : PT} {H : Hp} : ex cx h ro 33 nt (.region id g33_5 false) fr H = xbind (xrun cx h ro 33 nt g33_5 [(some 27, (.move (.tmp 1)), none), (some 28, (.call ⟨(.value (.func 35)), #[(.tmp 27), (.const (.int .i64 4)), (.const (.slice none 0 0))], #[24, 3, 39]⟩), none), (some 26, (.move (.tmp 28)), none), (some 29, (.extract (.tmp 26) 0), none), (some 30, (.extract (.tmp 26) 1), none), (some 4, (.assign (.tmp 29)), none), (some 5, (.assign (.tmp 30)), none)] fr H) fun p => some (.normal, p.1, p.2) := x_region _ k33_5 (nr (by kernel_rfl))
@[go_sem] theorem t33_5 (d : Tmp) : takes g33_5 d = false := nr (by kernel_rfl)
noncomputable def g33_6 : Array Oper := regAt Go.Proofs.Try.f33 6
theorem k33_6 : guardsOk g33_6 = true := nr (by kernel_rfl)
@[go_sem] theorem x33_6 {h : Hd} {ro nt id : Nat} {fr : PT} {H : Hp} : ex cx h ro 33 nt (.region id g33_6 false) fr H = xbind (xrun cx h ro 33 nt g33_6 [(some 32, (.move (.tmp 1)), none), (some 33, (.call ⟨(.value (.func 35)), #[(.tmp 32), (.const (.int .i64 5)), (.const (.slice none 0 0))], #[24, 3, 39]⟩), none), (some 31, (.move (.tmp 33)), none), (some 34, (.extract (.tmp 31) 0), none), (some 35, (.extract (.tmp 31) 1), none), (some 6, (.assign (.tmp 34)), none), (some 7, (.assign (.tmp 35)), none)] fr H) fun p => some (.normal, p.1, p.2) := x_region _ k33_6 (nr (by kernel_rfl))
@[go_sem] theorem t33_6 (d : Tmp) : takes g33_6 d = false := nr (by kernel_rfl)
noncomputable def g33_7 : Array Oper := regAt Go.Proofs.Try.f33 7
theorem k33_7 : guardsOk g33_7 = true := nr (by kernel_rfl)
@[go_sem] theorem x33_7 {h : Hd} {ro nt id : Nat} {fr : PT} {H : Hp} : ex cx h ro 33 nt (.region id g33_7 false) fr H = xbind (xrun cx h ro 33 nt g33_7 [(some 37, (.move (.tmp 1)), none), (some 38, (.call ⟨(.value (.func 46)), #[(.tmp 37), (.const (.int .i64 0))], #[24, 3]⟩), none), (some 36, (.move (.tmp 38)), none), (some 39, (.extract (.tmp 36) 0), none), (some 40, (.extract (.tmp 36) 1), none), (some 8, (.alloc 44), none), (none, (.store 44 (.tmp 8) (.tmp 39)), none), (some 9, (.assign (.tmp 40)), none)] fr H) fun p => some (.normal, p.1, p.2) := x_region _ k33_7 (nr (by kernel_rfl))
@[go_sem] theorem t33_7 (d : Tmp) : takes g33_7 d = false := nr (by kernel_rfl)
noncomputable def g33_8 : Array Oper := regAt Go.Proofs.Try.f33 8
theorem k33_8 : guardsOk g33_8 = true := nr (by kernel_rfl)
@[go_sem] theorem x33_8 {h : Hd} {ro nt id : Nat} {fr : PT} {H : Hp} : ex cx h ro 33 nt (.region id g33_8 false) fr H = xbind (xrun cx h ro 33 nt g33_8 [(some 41, (.move (.tmp 1)), none), (some 42, (.call ⟨(.value (.func 36)), #[(.tmp 41), (.const (.int .i64 0))], #[24, 3]⟩), none), (some 10, (.assign (.tmp 42)), none)] fr H) fun p => some (.normal, p.1, p.2) := x_region _ k33_8 (nr (by kernel_rfl))
@[go_sem] theorem t33_8 (d : Tmp) : takes g33_8 d = false := nr (by kernel_rfl)
noncomputable def g33_9 : Array Oper := regAt Go.Proofs.Try.f33 9
theorem k33_9 : guardsOk g33_9 = true := nr (by kernel_rfl)
@[go_sem] theorem x33_9 {h : Hd} {ro nt id : Nat} {fr : PT} {H : Hp} : ex cx h ro 33 nt (.region id g33_9 false) fr H = xbind (xrun cx h ro 33 nt g33_9 [(some 44, (.move (.tmp 1)), none), (some 45, (.call ⟨(.value (.func 46)), #[(.tmp 44), (.const (.int .i64 0))], #[24, 3]⟩), none), (some 43, (.move (.tmp 45)), none), (some 46, (.extract (.tmp 43) 0), none), (some 47, (.extract (.tmp 43) 1), none), (some 11, (.alloc 44), none), (none, (.store 44 (.tmp 11) (.tmp 46)), none), (some 12, (.assign (.tmp 47)), none)] fr H) fun p => some (.normal, p.1, p.2) := x_region _ k33_9 (nr (by kernel_rfl))
@[go_sem] theorem t33_9 (d : Tmp) : takes g33_9 d = false := nr (by kernel_rfl)
noncomputable def g33_10 : Array Oper := regAt Go.Proofs.Try.f33 10
theorem k33_10 : guardsOk g33_10 = true := nr (by kernel_rfl)
@[go_sem] theorem x33_10 {h : Hd} {ro nt id : Nat} {fr : PT} {H : Hp} : ex cx h ro 33 nt (.region id g33_10 false) fr H = xbind (xrun cx h ro 33 nt g33_10 [(some 48, (.move (.tmp 1)), none), (some 49, (.call ⟨(.value (.func 36)), #[(.tmp 48), (.const (.int .i64 0))], #[24, 3]⟩), none), (some 50, (.move (.tmp 1)), none), (some 51, (.call ⟨(.value (.func 38)), #[(.tmp 50)], #[24]⟩), none), (some 13, (.assign (.tmp 49)), none), (some 14, (.assign (.tmp 51)), none)] fr H) fun p => some (.normal, p.1, p.2) := x_region _ k33_10 (nr (by kernel_rfl))
@[go_sem] theorem t33_10 (d : Tmp) : takes g33_10 d = false := nr (by kernel_rfl)
noncomputable def g33_11 : Array Oper := regAt Go.Proofs.Try.f33 11
theorem k33_11 : guardsOk g33_11 = true := nr (by kernel_rfl)
@[go_sem] theorem x33_11 {h : Hd} {ro nt id : Nat} {fr : PT} {H : Hp} : ex cx h ro 33 nt (.region id g33_11 false) fr H = xbind (xrun cx h ro 33 nt g33_11 [(some 53, (.move (.tmp 1)), none), (some 54, (.call ⟨(.value (.func 35)), #[(.tmp 53), (.const (.int .i64 6)), (.const (.slice none 0 0))], #[24, 3, 39]⟩), none), (some 52, (.move (.tmp 54)), none), (some 55, (.extract (.tmp 52) 0), none), (some 56, (.extract (.tmp 52) 1), none), (some 15, (.assign (.tmp 55)), none), (some 16, (.assign (.tmp 56)), none)] fr H) fun p => some (.normal, p.1, p.2) := x_region _ k33_11 (nr (by kernel_rfl))
@[go_sem] theorem t33_11 (d : Tmp) : takes g33_11 d = false := nr (by kernel_rfl)
noncomputable def g33_12 : Array Oper := regAt Go.Proofs.Try.f33 12
theorem k33_12 : guardsOk g33_12 = true := nr (by kernel_rfl)
@[go_sem] theorem x33_12 {h : Hd} {ro nt id : Nat} {fr : PT} {H : Hp} : ex cx h ro 33 nt (.region id g33_12 false) fr H = xbind (xrun cx h ro 33 nt g33_12 [(some 57, (.move (.tmp 2)), none), (some 58, (.binOp .eql 3 (.tmp 57) (.const (.int .i64 0)) 3), none), (some 59, (.move (.tmp 58)), none), (some 60, (.move (.tmp 4)), some (59, true)), (some 61, (.binOp .eql 3 (.tmp 60) (.const (.int .i64 1)) 3), some (59, true)), (some 62, (.pick (.tmp 59) (.tmp 61) (.const (.bool false))), none), (some 63, (.move (.tmp 62)), none), (some 64, (.move (.tmp 7)), some (63, true)), (some 65, (.binOp .eql 27 (.tmp 64) (.const (.int .i64 22)) 27), some (63, true)), (some 66, (.pick (.tmp 63) (.tmp 65) (.const (.bool false))), none), (some 67, (.move (.tmp 66)), none), (some 68, (.move (.tmp 9)), some (67, true)), (some 69, (.pick (.tmp 67) (.tmp 68) (.const (.bool false))), none), (some 70, (.move (.tmp 69)), none), (some 71, (.fieldAddr 44 (.tmp 8) 0), some (70, true)), (some 72, (.load 3 (.tmp 71)), some (70, true)), (some 73, (.binOp .eql 3 (.tmp 72) (.const (.int .i64 3)) 3), some (70, true)), (some 74, (.pick (.tmp 70) (.tmp 73) (.const (.bool false))), none), (some 75, (.move (.tmp 74)), none), (some 76, (.fieldAddr 44 (.tmp 8) 1), some (75, true)), (some 77, (.load 3 (.tmp 76)), some (75, true)), (some 78, (.binOp .eql 3 (.tmp 77) (.const (.int .i64 0)) 3), some (75, true)), (some 79, (.pick (.tmp 75) (.tmp 78) (.const (.bool false))), none), (some 80, (.move (.tmp 79)), none), (some 81, (.fieldAddr 44 (.tmp 8) 3), some (80, true)), (some 82, (.indexAddr 42 (.tmp 81) (.const (.int .i64 0))), some (80, true)), (some 83, (.load 2 (.tmp 82)), some (80, true)), (some 84, (.binOp .eql 2 (.tmp 83) (.const (.int .i64 7)) 2), some (80, true)), (some 85, (.pick (.tmp 80) (.tmp 84) (.const (.bool false))), none), (some 86, (.move (.tmp 85)), none), (some 87, (.fieldAddr 44 (.tmp 8) 3), some (86, true)), (some 88, (.indexAddr 42 (.tmp 87) (.const (.int .i64 1))), some (86, true)), (some 89, (.load 2 (.tmp 88)), some (86, true)), (some 90, (.binOp .eql 2 (.tmp 89) (.const (.int .i64 0)) 2), some (86, true)), (some 91, (.pick (.tmp 86) (.tmp 90) (.const (.bool false))), none), (some 92, (.move (.tmp 91)), none), (some 93, (.fieldAddr 44 (.tmp 8) 2), some (92, true)), (some 94, (.load 39 (.tmp 93)), some (92, true)), (some 95, (.call ⟨(.builtin .len), #[(.tmp 94)], #[39]⟩), some (92, true)), (some 96, (.binOp .eql 3 (.tmp 95) (.const (.int .i64 0)) 3), some (92, true)), (some 97, (.pick (.tmp 92) (.tmp 96) (.const (.bool false))), none), (some 98, (.move (.tmp 97)), none), (some 99, (.move (.tmp 10)), some (98, true)), (some 100, (.binOp .eql 27 (.tmp 99) (.const (.int .i64 0)) 27), some (98, true)), (some 101, (.pick (.tmp 98) (.tmp 100) (.const (.bool false))), none), (some 102, (.move (.tmp 101)), none), (some 103, (.move (.tmp 12)), some (102, true)), (some 104, (.unOp .not 4 (.tmp 103)), some (102, true)), (some 105, (.pick (.tmp 102) (.tmp 104) (.const (.bool false))), none), (some 106, (.move (.tmp 105)), none), (some 107, (.move (.tmp 13)), some (106, true)), (some 108, (.binOp .eql 27 (.tmp 107) (.const (.int .i64 24)) 27), some (106, true)), (some 109, (.pick (.tmp 106) (.tmp 108) (.const (.bool false))), none), (some 110, (.move (.tmp 109)), none), (some 111, (.move (.tmp 14)), some (110, true)), (some 112, (.buildSlice 31 1 #[(0, (.const (.int .i64 1)))]), some (110, true)), (some 113, (.call ⟨(.value (.func 37)), #[(.tmp 111), (.tmp 112)], #[31, 31]⟩), some (110, true)), (some 114, (.pick (.tmp 110) (.tmp 113) (.const (.bool false))), none), (some 115, (.move (.tmp 114)), none), (some 116, (.move (.tmp 15)), some (115, true)), (some 117, (.binOp .eql 3 (.tmp 116) (.const (.int .i64 0)) 3), some (115, true)), (some 118, (.pick (.tmp 115) (.tmp 117) (.const (.bool false))), none), (some 0, (.assign (.tmp 118)), none)] fr H) fun p => some (.normal, p.1, p.2) := x_region _ k33_12 (nr (by kernel_rfl))
@[go_sem] theorem t33_12 (d : Tmp) : takes g33_12 d = false := nr (by kernel_rfl)
theorem b33 : Go.Proofs.Try.f33.body = some (.seq (.region 0 g33_0 false) (.seq (.region 1 g33_1 false) (.seq (.seq (.region 2 g33_2 false) (.cond (.tmp 19) (.seq (.region 3 g33_3 false) .ret) .skip)) (.seq (.region 4 g33_4 false) (.seq (.region 5 g33_5 false) (.seq (.region 6 g33_6 false) (.seq (.region 7 g33_7 false) (.seq (.region 8 g33_8 false) (.seq (.region 9 g33_9 false) (.seq (.region 10 g33_10 false) (.seq (.region 11 g33_11 false) (.seq (.region 12 g33_12 false) .ret)))))))))))) := by kernel_rfl
theorem c33 {h : Hd} {ro : Nat} {H : Hp} : callB cx h ro 33 [] H = returned cx [(.tmp 0)] (ex cx h ro 33 119 (.seq (.region 0 g33_0 false) (.seq (.region 1 g33_1 false) (.seq (.seq (.region 2 g33_2 false) (.cond (.tmp 19) (.seq (.region 3 g33_3 false) .ret) .skip)) (.seq (.region 4 g33_4 false) (.seq (.region 5 g33_5 false) (.seq (.region 6 g33_6 false) (.seq (.region 7 g33_7 false) (.seq (.region 8 g33_8 false) (.seq (.region 9 g33_9 false) (.seq (.region 10 g33_10 false) (.seq (.region 11 g33_11 false) (.seq (.region 12 g33_12 false) .ret)))))))))))) PT.nil H) := by
  have hf : cx.fns 33 = some Go.Proofs.Try.f33 := by kernel_rfl
  simp only [callB, hf, funced, b33, bodied]
  rfl
end Go.Abs.Tab
