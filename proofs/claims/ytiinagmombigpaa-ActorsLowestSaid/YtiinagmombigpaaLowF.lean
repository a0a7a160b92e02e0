/- Codes of this seat's functions, their regions step by step. (Printed by a program.) -/
import Derived.Test.YtiinagmombigpaaEvY
set_option linter.unusedSimpArgs false
set_option linter.unusedVariables false
set_option linter.unnecessarySimpa false

/- Codes of this seat's functions, their regions step by step. (Printed by a program.) -/
set_option linter.unusedVariables false
namespace Go.Abs.Tab
/-! function 118: colloquy/graph.within -/
noncomputable def g118_0 : Array Oper := regAt Go.Proofs.Try.f118 0
theorem s118_0 : strip g118_0 = [(some 4, (.assign (.const (.bool false))), none)] := nr (by kernel_rfl)
theorem k118_0 : guardsOk g118_0 = true := nr (by kernel_rfl)
@[go_sem] theorem x118_0 {h : Hd} {ro nt id : Nat} {fr : PT} {H : Hp} : ex cx h ro 118 nt (.region id g118_0 false) fr H = xbind (xrun cx h ro 118 nt g118_0 [(some 4, (.assign (.const (.bool false))), none)] fr H) fun p => some (.normal, p.1, p.2) := x_region _ k118_0 s118_0
@[go_sem] theorem t118_0 (d : Tmp) : takes g118_0 d = false := nr (by kernel_rfl)
noncomputable def g118_1 : Array Oper := regAt Go.Proofs.Try.f118 1
theorem s118_1 : strip g118_1 = [(some 5, (.move (.tmp 0)), none), (some 6, (.binOp .geq 3 (.tmp 5) (.const (.int .i64 0)) 3), none), (some 7, (.move (.tmp 6)), none), (some 8, (.move (.tmp 0)), some (7, true)), (some 9, (.move (.tmp 1)), some (7, true)), (some 10, (.binOp .leq 3 (.tmp 8) (.tmp 9) 3), some (7, true)), (some 11, (.pick (.tmp 7) (.tmp 10) (.const (.bool false))), none), (some 4, (.assign (.tmp 11)), none)] := nr (by kernel_rfl)
theorem k118_1 : guardsOk g118_1 = true := nr (by kernel_rfl)
@[go_sem] theorem x118_1 {h : Hd} {ro nt id : Nat} {fr : PT} {H : Hp} : ex cx h ro 118 nt (.region id g118_1 false) fr H = xbind (xrun cx h ro 118 nt g118_1 [(some 5, (.move (.tmp 0)), none), (some 6, (.binOp .geq 3 (.tmp 5) (.const (.int .i64 0)) 3), none), (some 7, (.move (.tmp 6)), none), (some 8, (.move (.tmp 0)), some (7, true)), (some 9, (.move (.tmp 1)), some (7, true)), (some 10, (.binOp .leq 3 (.tmp 8) (.tmp 9) 3), some (7, true)), (some 11, (.pick (.tmp 7) (.tmp 10) (.const (.bool false))), none), (some 4, (.assign (.tmp 11)), none)] fr H) fun p => some (.normal, p.1, p.2) := x_region _ k118_1 s118_1
@[go_sem] theorem t118_1 (d : Tmp) : takes g118_1 d = false := nr (by kernel_rfl)
theorem b118 : Go.Proofs.Try.f118.body = some (.seq (.region 0 g118_0 false) (.seq (.region 1 g118_1 false) .ret)) := by kernel_rfl
theorem c118 {h : Hd} {ro : Nat} {H : Hp} (a0 a1 : AV) : callB cx h ro 118 [a0, a1] H = returned cx [(.tmp 4)] (ex cx h ro 118 12 (.seq (.region 0 g118_0 false) (.seq (.region 1 g118_1 false) .ret)) ((PT.nil.set 0 (drp a0)).set 1 (drp a1)) H) := by
  have hf : cx.fns 118 = some Go.Proofs.Try.f118 := by kernel_rfl
  simp only [callB, hf, funced, b118, bodied]
  rfl
/-! function 37: colloquy/colloquylaw22.ints -/
noncomputable def g37_0 : Array Oper := regAt Go.Proofs.Try.f37 0
theorem s37_0 : strip g37_0 = [(some 4, (.assign (.const (.bool false))), none)] := nr (by kernel_rfl)
theorem k37_0 : guardsOk g37_0 = true := nr (by kernel_rfl)
@[go_sem] theorem x37_0 {h : Hd} {ro nt id : Nat} {fr : PT} {H : Hp} : ex cx h ro 37 nt (.region id g37_0 false) fr H = xbind (xrun cx h ro 37 nt g37_0 [(some 4, (.assign (.const (.bool false))), none)] fr H) fun p => some (.normal, p.1, p.2) := x_region _ k37_0 s37_0
@[go_sem] theorem t37_0 (d : Tmp) : takes g37_0 d = false := nr (by kernel_rfl)
noncomputable def g37_1 : Array Oper := regAt Go.Proofs.Try.f37 1
theorem s37_1 : strip g37_1 = [(some 6, (.move (.tmp 0)), none), (some 7, (.call ⟨(.builtin .len), #[(.tmp 6)], #[31]⟩), none), (some 8, (.move (.tmp 1)), none), (some 9, (.call ⟨(.builtin .len), #[(.tmp 8)], #[31]⟩), none), (some 10, (.binOp .neq 3 (.tmp 7) (.tmp 9) 3), none)] := nr (by kernel_rfl)
theorem k37_1 : guardsOk g37_1 = true := nr (by kernel_rfl)
@[go_sem] theorem x37_1 {h : Hd} {ro nt id : Nat} {fr : PT} {H : Hp} : ex cx h ro 37 nt (.region id g37_1 false) fr H = xbind (xrun cx h ro 37 nt g37_1 [(some 6, (.move (.tmp 0)), none), (some 7, (.call ⟨(.builtin .len), #[(.tmp 6)], #[31]⟩), none), (some 8, (.move (.tmp 1)), none), (some 9, (.call ⟨(.builtin .len), #[(.tmp 8)], #[31]⟩), none), (some 10, (.binOp .neq 3 (.tmp 7) (.tmp 9) 3), none)] fr H) fun p => some (.normal, p.1, p.2) := x_region _ k37_1 s37_1
@[go_sem] theorem t37_1 (d : Tmp) : takes g37_1 d = false := nr (by kernel_rfl)
noncomputable def g37_2 : Array Oper := regAt Go.Proofs.Try.f37 2
theorem s37_2 : strip g37_2 = [(some 4, (.assign (.const (.bool false))), none)] := nr (by kernel_rfl)
theorem k37_2 : guardsOk g37_2 = true := nr (by kernel_rfl)
@[go_sem] theorem x37_2 {h : Hd} {ro nt id : Nat} {fr : PT} {H : Hp} : ex cx h ro 37 nt (.region id g37_2 false) fr H = xbind (xrun cx h ro 37 nt g37_2 [(some 4, (.assign (.const (.bool false))), none)] fr H) fun p => some (.normal, p.1, p.2) := x_region _ k37_2 s37_2
@[go_sem] theorem t37_2 (d : Tmp) : takes g37_2 d = false := nr (by kernel_rfl)
noncomputable def g37_3 : Array Oper := regAt Go.Proofs.Try.f37 3
theorem s37_3 : strip g37_3 = [(some 5, (.assign (.const (.int .i64 0))), none)] := nr (by kernel_rfl)
theorem k37_3 : guardsOk g37_3 = true := nr (by kernel_rfl)
@[go_sem] theorem x37_3 {h : Hd} {ro nt id : Nat} {fr : PT} {H : Hp} : ex cx h ro 37 nt (.region id g37_3 false) fr H = xbind (xrun cx h ro 37 nt g37_3 [(some 5, (.assign (.const (.int .i64 0))), none)] fr H) fun p => some (.normal, p.1, p.2) := x_region _ k37_3 s37_3
@[go_sem] theorem t37_3 (d : Tmp) : takes g37_3 d = false := nr (by kernel_rfl)
noncomputable def g37_4 : Array Oper := regAt Go.Proofs.Try.f37 4
theorem s37_4 : strip g37_4 = [(some 11, (.move (.tmp 5)), none), (some 12, (.move (.tmp 0)), none), (some 13, (.call ⟨(.builtin .len), #[(.tmp 12)], #[31]⟩), none), (some 14, (.binOp .lss 3 (.tmp 11) (.tmp 13) 3), none)] := nr (by kernel_rfl)
theorem k37_4 : guardsOk g37_4 = true := nr (by kernel_rfl)
@[go_sem] theorem x37_4 {h : Hd} {ro nt id : Nat} {fr : PT} {H : Hp} : ex cx h ro 37 nt (.region id g37_4 false) fr H = xbind (xrun cx h ro 37 nt g37_4 [(some 11, (.move (.tmp 5)), none), (some 12, (.move (.tmp 0)), none), (some 13, (.call ⟨(.builtin .len), #[(.tmp 12)], #[31]⟩), none), (some 14, (.binOp .lss 3 (.tmp 11) (.tmp 13) 3), none)] fr H) fun p => some (.normal, p.1, p.2) := x_region _ k37_4 s37_4
@[go_sem] theorem t37_4 (d : Tmp) : takes g37_4 d = false := nr (by kernel_rfl)
noncomputable def g37_5 : Array Oper := regAt Go.Proofs.Try.f37 5
theorem s37_5 : strip g37_5 = [(some 17, (.move (.tmp 0)), none), (some 18, (.move (.tmp 5)), none), (some 19, (.indexAddr 31 (.tmp 17) (.tmp 18)), none), (some 20, (.load 3 (.tmp 19)), none), (some 21, (.move (.tmp 1)), none), (some 22, (.move (.tmp 5)), none), (some 23, (.indexAddr 31 (.tmp 21) (.tmp 22)), none), (some 24, (.load 3 (.tmp 23)), none), (some 25, (.binOp .neq 3 (.tmp 20) (.tmp 24) 3), none)] := nr (by kernel_rfl)
theorem k37_5 : guardsOk g37_5 = true := nr (by kernel_rfl)
theorem u37_5 : stripU cx 37 g37_5 = [(0, 0, [], (some 17, (.move (.tmp 0)), none)), (1, 0, [0], (some 18, (.move (.tmp 5)), none)), (2, 0, [], (some 19, (.indexAddr 31 (.tmp 17) (.tmp 18)), none)), (3, 0, [], (some 20, (.load 3 (.tmp 19)), none)), (4, 0, [0, 1, 2, 3], (some 21, (.move (.tmp 1)), none)), (5, 0, [0, 1, 2, 3, 4], (some 22, (.move (.tmp 5)), none)), (6, 0, [0, 1, 2, 3], (some 23, (.indexAddr 31 (.tmp 21) (.tmp 22)), none)), (7, 0, [0, 1, 2, 3], (some 24, (.load 3 (.tmp 23)), none)), (8, 0, [], (some 25, (.binOp .neq 3 (.tmp 20) (.tmp 24) 3), none))] := nr (by kernel_rfl)
@[go_sem] theorem x37_5 {h : Hd} {ro nt id : Nat} {fr : PT} {H : Hp} : ex cx h ro 37 nt (.region id g37_5 true) fr H = orRaw (xrunU cx h ro 37 nt g37_5 H.length [(0, 0, [], (some 17, (.move (.tmp 0)), none)), (1, 0, [0], (some 18, (.move (.tmp 5)), none)), (2, 0, [], (some 19, (.indexAddr 31 (.tmp 17) (.tmp 18)), none)), (3, 0, [], (some 20, (.load 3 (.tmp 19)), none)), (4, 0, [0, 1, 2, 3], (some 21, (.move (.tmp 1)), none)), (5, 0, [0, 1, 2, 3, 4], (some 22, (.move (.tmp 5)), none)), (6, 0, [0, 1, 2, 3], (some 23, (.indexAddr 31 (.tmp 21) (.tmp 22)), none)), (7, 0, [0, 1, 2, 3], (some 24, (.load 3 (.tmp 23)), none)), (8, 0, [], (some 25, (.binOp .neq 3 (.tmp 20) (.tmp 24) 3), none))] fr (H ++ List.replicate 0 .res) []) fun _ => regionRaw cx h ro 37 nt g37_5 fr H := x_regionU _ _ k37_5 (nr (by kernel_rfl)) (nr (by kernel_rfl)) u37_5 (nr (by kernel_rfl))
@[go_sem] theorem t37_5 (d : Tmp) : takes g37_5 d = false := nr (by kernel_rfl)
noncomputable def g37_6 : Array Oper := regAt Go.Proofs.Try.f37 6
theorem s37_6 : strip g37_6 = [(some 4, (.assign (.const (.bool false))), none)] := nr (by kernel_rfl)
theorem k37_6 : guardsOk g37_6 = true := nr (by kernel_rfl)
@[go_sem] theorem x37_6 {h : Hd} {ro nt id : Nat} {fr : PT} {H : Hp} : ex cx h ro 37 nt (.region id g37_6 false) fr H = xbind (xrun cx h ro 37 nt g37_6 [(some 4, (.assign (.const (.bool false))), none)] fr H) fun p => some (.normal, p.1, p.2) := x_region _ k37_6 s37_6
@[go_sem] theorem t37_6 (d : Tmp) : takes g37_6 d = false := nr (by kernel_rfl)
noncomputable def g37_7 : Array Oper := regAt Go.Proofs.Try.f37 7
theorem s37_7 : strip g37_7 = [(some 15, (.move (.tmp 5)), none), (some 16, (.binOp .add 3 (.tmp 15) (.const (.int .i64 1)) 3), none), (some 5, (.assign (.tmp 16)), none)] := nr (by kernel_rfl)
theorem k37_7 : guardsOk g37_7 = true := nr (by kernel_rfl)
@[go_sem] theorem x37_7 {h : Hd} {ro nt id : Nat} {fr : PT} {H : Hp} : ex cx h ro 37 nt (.region id g37_7 false) fr H = xbind (xrun cx h ro 37 nt g37_7 [(some 15, (.move (.tmp 5)), none), (some 16, (.binOp .add 3 (.tmp 15) (.const (.int .i64 1)) 3), none), (some 5, (.assign (.tmp 16)), none)] fr H) fun p => some (.normal, p.1, p.2) := x_region _ k37_7 s37_7
@[go_sem] theorem t37_7 (d : Tmp) : takes g37_7 d = false := nr (by kernel_rfl)
noncomputable def g37_8 : Array Oper := regAt Go.Proofs.Try.f37 8
theorem s37_8 : strip g37_8 = [(some 4, (.assign (.const (.bool true))), none)] := nr (by kernel_rfl)
theorem k37_8 : guardsOk g37_8 = true := nr (by kernel_rfl)
@[go_sem] theorem x37_8 {h : Hd} {ro nt id : Nat} {fr : PT} {H : Hp} : ex cx h ro 37 nt (.region id g37_8 false) fr H = xbind (xrun cx h ro 37 nt g37_8 [(some 4, (.assign (.const (.bool true))), none)] fr H) fun p => some (.normal, p.1, p.2) := x_region _ k37_8 s37_8
@[go_sem] theorem t37_8 (d : Tmp) : takes g37_8 d = false := nr (by kernel_rfl)
noncomputable def l37_0 : Code := (.seq (.seq (.region 4 g37_4 false) (.cond (.tmp 14) .skip (.exit 0))) (.seq (.block 1 (.seq (.region 6 g37_5 true) (.cond (.tmp 25) (.seq (.region 7 g37_6 false) .ret) .skip))) (.region 5 g37_7 false)))
theorem dl37_0 {ro nt : Nat} {fr : PT} {H : Hp} : (den cx).loop ro 37 nt l37_0 fr H = xbind (ex cx (den cx) ro 37 nt (.seq (.seq (.region 4 g37_4 false) (.cond (.tmp 14) .skip (.exit 0))) (.seq (.block 1 (.seq (.region 6 g37_5 true) (.cond (.tmp 25) (.seq (.region 7 g37_6 false) .ret) .skip))) (.region 5 g37_7 false))) fr H) (contR (trimmed ((den cx).loop ro 37 nt l37_0) H.length)) := den_loop_x l37_0
theorem b37 : Go.Proofs.Try.f37.body = some (.seq (.region 0 g37_0 false) (.seq (.seq (.region 1 g37_1 false) (.cond (.tmp 10) (.seq (.region 2 g37_2 false) .ret) .skip)) (.seq (.seq (.region 3 g37_3 false) (.block 0 (.loop l37_0))) (.seq (.region 8 g37_8 false) .ret)))) := by kernel_rfl
theorem c37 {h : Hd} {ro : Nat} {H : Hp} (a0 a1 : AV) : callB cx h ro 37 [a0, a1] H = returned cx [(.tmp 4)] (ex cx h ro 37 26 (.seq (.region 0 g37_0 false) (.seq (.seq (.region 1 g37_1 false) (.cond (.tmp 10) (.seq (.region 2 g37_2 false) .ret) .skip)) (.seq (.seq (.region 3 g37_3 false) (.block 0 (.loop l37_0))) (.seq (.region 8 g37_8 false) .ret)))) ((PT.nil.set 0 (drp a0)).set 1 (drp a1)) H) := by
  have hf : cx.fns 37 = some Go.Proofs.Try.f37 := by kernel_rfl
  simp only [callB, hf, funced, b37, bodied]
  rfl
/-! function 115: colloquy/colloquylaw22.words -/
noncomputable def g115_0 : Array Oper := regAt Go.Proofs.Try.f115 0
theorem s115_0 : strip g115_0 = [(some 4, (.assign (.const (.bool false))), none)] := nr (by kernel_rfl)
theorem k115_0 : guardsOk g115_0 = true := nr (by kernel_rfl)
@[go_sem] theorem x115_0 {h : Hd} {ro nt id : Nat} {fr : PT} {H : Hp} : ex cx h ro 115 nt (.region id g115_0 false) fr H = xbind (xrun cx h ro 115 nt g115_0 [(some 4, (.assign (.const (.bool false))), none)] fr H) fun p => some (.normal, p.1, p.2) := x_region _ k115_0 s115_0
@[go_sem] theorem t115_0 (d : Tmp) : takes g115_0 d = false := nr (by kernel_rfl)
noncomputable def g115_1 : Array Oper := regAt Go.Proofs.Try.f115 1
theorem s115_1 : strip g115_1 = [(some 6, (.move (.tmp 0)), none), (some 7, (.call ⟨(.builtin .len), #[(.tmp 6)], #[39]⟩), none), (some 8, (.move (.tmp 1)), none), (some 9, (.call ⟨(.builtin .len), #[(.tmp 8)], #[39]⟩), none), (some 10, (.binOp .neq 3 (.tmp 7) (.tmp 9) 3), none)] := nr (by kernel_rfl)
theorem k115_1 : guardsOk g115_1 = true := nr (by kernel_rfl)
@[go_sem] theorem x115_1 {h : Hd} {ro nt id : Nat} {fr : PT} {H : Hp} : ex cx h ro 115 nt (.region id g115_1 false) fr H = xbind (xrun cx h ro 115 nt g115_1 [(some 6, (.move (.tmp 0)), none), (some 7, (.call ⟨(.builtin .len), #[(.tmp 6)], #[39]⟩), none), (some 8, (.move (.tmp 1)), none), (some 9, (.call ⟨(.builtin .len), #[(.tmp 8)], #[39]⟩), none), (some 10, (.binOp .neq 3 (.tmp 7) (.tmp 9) 3), none)] fr H) fun p => some (.normal, p.1, p.2) := x_region _ k115_1 s115_1
@[go_sem] theorem t115_1 (d : Tmp) : takes g115_1 d = false := nr (by kernel_rfl)
noncomputable def g115_2 : Array Oper := regAt Go.Proofs.Try.f115 2
theorem s115_2 : strip g115_2 = [(some 4, (.assign (.const (.bool false))), none)] := nr (by kernel_rfl)
theorem k115_2 : guardsOk g115_2 = true := nr (by kernel_rfl)
@[go_sem] theorem x115_2 {h : Hd} {ro nt id : Nat} {fr : PT} {H : Hp} : ex cx h ro 115 nt (.region id g115_2 false) fr H = xbind (xrun cx h ro 115 nt g115_2 [(some 4, (.assign (.const (.bool false))), none)] fr H) fun p => some (.normal, p.1, p.2) := x_region _ k115_2 s115_2
@[go_sem] theorem t115_2 (d : Tmp) : takes g115_2 d = false := nr (by kernel_rfl)
noncomputable def g115_3 : Array Oper := regAt Go.Proofs.Try.f115 3
theorem s115_3 : strip g115_3 = [(some 5, (.assign (.const (.int .i64 0))), none)] := nr (by kernel_rfl)
theorem k115_3 : guardsOk g115_3 = true := nr (by kernel_rfl)
@[go_sem] theorem x115_3 {h : Hd} {ro nt id : Nat} {fr : PT} {H : Hp} : ex cx h ro 115 nt (.region id g115_3 false) fr H = xbind (xrun cx h ro 115 nt g115_3 [(some 5, (.assign (.const (.int .i64 0))), none)] fr H) fun p => some (.normal, p.1, p.2) := x_region _ k115_3 s115_3
@[go_sem] theorem t115_3 (d : Tmp) : takes g115_3 d = false := nr (by kernel_rfl)
noncomputable def g115_4 : Array Oper := regAt Go.Proofs.Try.f115 4
theorem s115_4 : strip g115_4 = [(some 11, (.move (.tmp 5)), none), (some 12, (.move (.tmp 0)), none), (some 13, (.call ⟨(.builtin .len), #[(.tmp 12)], #[39]⟩), none), (some 14, (.binOp .lss 3 (.tmp 11) (.tmp 13) 3), none)] := nr (by kernel_rfl)
theorem k115_4 : guardsOk g115_4 = true := nr (by kernel_rfl)
@[go_sem] theorem x115_4 {h : Hd} {ro nt id : Nat} {fr : PT} {H : Hp} : ex cx h ro 115 nt (.region id g115_4 false) fr H = xbind (xrun cx h ro 115 nt g115_4 [(some 11, (.move (.tmp 5)), none), (some 12, (.move (.tmp 0)), none), (some 13, (.call ⟨(.builtin .len), #[(.tmp 12)], #[39]⟩), none), (some 14, (.binOp .lss 3 (.tmp 11) (.tmp 13) 3), none)] fr H) fun p => some (.normal, p.1, p.2) := x_region _ k115_4 s115_4
@[go_sem] theorem t115_4 (d : Tmp) : takes g115_4 d = false := nr (by kernel_rfl)
noncomputable def g115_5 : Array Oper := regAt Go.Proofs.Try.f115 5
theorem s115_5 : strip g115_5 = [(some 17, (.move (.tmp 0)), none), (some 18, (.move (.tmp 5)), none), (some 19, (.indexAddr 39 (.tmp 17) (.tmp 18)), none), (some 20, (.load 2 (.tmp 19)), none), (some 21, (.move (.tmp 1)), none), (some 22, (.move (.tmp 5)), none), (some 23, (.indexAddr 39 (.tmp 21) (.tmp 22)), none), (some 24, (.load 2 (.tmp 23)), none), (some 25, (.binOp .neq 2 (.tmp 20) (.tmp 24) 2), none)] := nr (by kernel_rfl)
theorem k115_5 : guardsOk g115_5 = true := nr (by kernel_rfl)
theorem u115_5 : stripU cx 115 g115_5 = [(0, 0, [], (some 17, (.move (.tmp 0)), none)), (1, 0, [0], (some 18, (.move (.tmp 5)), none)), (2, 0, [], (some 19, (.indexAddr 39 (.tmp 17) (.tmp 18)), none)), (3, 0, [], (some 20, (.load 2 (.tmp 19)), none)), (4, 0, [0, 1, 2, 3], (some 21, (.move (.tmp 1)), none)), (5, 0, [0, 1, 2, 3, 4], (some 22, (.move (.tmp 5)), none)), (6, 0, [0, 1, 2, 3], (some 23, (.indexAddr 39 (.tmp 21) (.tmp 22)), none)), (7, 0, [0, 1, 2, 3], (some 24, (.load 2 (.tmp 23)), none)), (8, 0, [], (some 25, (.binOp .neq 2 (.tmp 20) (.tmp 24) 2), none))] := nr (by kernel_rfl)
@[go_sem] theorem x115_5 {h : Hd} {ro nt id : Nat} {fr : PT} {H : Hp} : ex cx h ro 115 nt (.region id g115_5 true) fr H = orRaw (xrunU cx h ro 115 nt g115_5 H.length [(0, 0, [], (some 17, (.move (.tmp 0)), none)), (1, 0, [0], (some 18, (.move (.tmp 5)), none)), (2, 0, [], (some 19, (.indexAddr 39 (.tmp 17) (.tmp 18)), none)), (3, 0, [], (some 20, (.load 2 (.tmp 19)), none)), (4, 0, [0, 1, 2, 3], (some 21, (.move (.tmp 1)), none)), (5, 0, [0, 1, 2, 3, 4], (some 22, (.move (.tmp 5)), none)), (6, 0, [0, 1, 2, 3], (some 23, (.indexAddr 39 (.tmp 21) (.tmp 22)), none)), (7, 0, [0, 1, 2, 3], (some 24, (.load 2 (.tmp 23)), none)), (8, 0, [], (some 25, (.binOp .neq 2 (.tmp 20) (.tmp 24) 2), none))] fr (H ++ List.replicate 0 .res) []) fun _ => regionRaw cx h ro 115 nt g115_5 fr H := x_regionU _ _ k115_5 (nr (by kernel_rfl)) (nr (by kernel_rfl)) u115_5 (nr (by kernel_rfl))
@[go_sem] theorem t115_5 (d : Tmp) : takes g115_5 d = false := nr (by kernel_rfl)
noncomputable def g115_6 : Array Oper := regAt Go.Proofs.Try.f115 6
theorem s115_6 : strip g115_6 = [(some 4, (.assign (.const (.bool false))), none)] := nr (by kernel_rfl)
theorem k115_6 : guardsOk g115_6 = true := nr (by kernel_rfl)
@[go_sem] theorem x115_6 {h : Hd} {ro nt id : Nat} {fr : PT} {H : Hp} : ex cx h ro 115 nt (.region id g115_6 false) fr H = xbind (xrun cx h ro 115 nt g115_6 [(some 4, (.assign (.const (.bool false))), none)] fr H) fun p => some (.normal, p.1, p.2) := x_region _ k115_6 s115_6
@[go_sem] theorem t115_6 (d : Tmp) : takes g115_6 d = false := nr (by kernel_rfl)
noncomputable def g115_7 : Array Oper := regAt Go.Proofs.Try.f115 7
theorem s115_7 : strip g115_7 = [(some 15, (.move (.tmp 5)), none), (some 16, (.binOp .add 3 (.tmp 15) (.const (.int .i64 1)) 3), none), (some 5, (.assign (.tmp 16)), none)] := nr (by kernel_rfl)
theorem k115_7 : guardsOk g115_7 = true := nr (by kernel_rfl)
@[go_sem] theorem x115_7 {h : Hd} {ro nt id : Nat} {fr : PT} {H : Hp} : ex cx h ro 115 nt (.region id g115_7 false) fr H = xbind (xrun cx h ro 115 nt g115_7 [(some 15, (.move (.tmp 5)), none), (some 16, (.binOp .add 3 (.tmp 15) (.const (.int .i64 1)) 3), none), (some 5, (.assign (.tmp 16)), none)] fr H) fun p => some (.normal, p.1, p.2) := x_region _ k115_7 s115_7
@[go_sem] theorem t115_7 (d : Tmp) : takes g115_7 d = false := nr (by kernel_rfl)
noncomputable def g115_8 : Array Oper := regAt Go.Proofs.Try.f115 8
theorem s115_8 : strip g115_8 = [(some 4, (.assign (.const (.bool true))), none)] := nr (by kernel_rfl)
theorem k115_8 : guardsOk g115_8 = true := nr (by kernel_rfl)
@[go_sem] theorem x115_8 {h : Hd} {ro nt id : Nat} {fr : PT} {H : Hp} : ex cx h ro 115 nt (.region id g115_8 false) fr H = xbind (xrun cx h ro 115 nt g115_8 [(some 4, (.assign (.const (.bool true))), none)] fr H) fun p => some (.normal, p.1, p.2) := x_region _ k115_8 s115_8
@[go_sem] theorem t115_8 (d : Tmp) : takes g115_8 d = false := nr (by kernel_rfl)
noncomputable def l115_0 : Code := (.seq (.seq (.region 4 g115_4 false) (.cond (.tmp 14) .skip (.exit 0))) (.seq (.block 1 (.seq (.region 6 g115_5 true) (.cond (.tmp 25) (.seq (.region 7 g115_6 false) .ret) .skip))) (.region 5 g115_7 false)))
theorem dl115_0 {ro nt : Nat} {fr : PT} {H : Hp} : (den cx).loop ro 115 nt l115_0 fr H = xbind (ex cx (den cx) ro 115 nt (.seq (.seq (.region 4 g115_4 false) (.cond (.tmp 14) .skip (.exit 0))) (.seq (.block 1 (.seq (.region 6 g115_5 true) (.cond (.tmp 25) (.seq (.region 7 g115_6 false) .ret) .skip))) (.region 5 g115_7 false))) fr H) (contR (trimmed ((den cx).loop ro 115 nt l115_0) H.length)) := den_loop_x l115_0
theorem b115 : Go.Proofs.Try.f115.body = some (.seq (.region 0 g115_0 false) (.seq (.seq (.region 1 g115_1 false) (.cond (.tmp 10) (.seq (.region 2 g115_2 false) .ret) .skip)) (.seq (.seq (.region 3 g115_3 false) (.block 0 (.loop l115_0))) (.seq (.region 8 g115_8 false) .ret)))) := by kernel_rfl
theorem c115 {h : Hd} {ro : Nat} {H : Hp} (a0 a1 : AV) : callB cx h ro 115 [a0, a1] H = returned cx [(.tmp 4)] (ex cx h ro 115 26 (.seq (.region 0 g115_0 false) (.seq (.seq (.region 1 g115_1 false) (.cond (.tmp 10) (.seq (.region 2 g115_2 false) .ret) .skip)) (.seq (.seq (.region 3 g115_3 false) (.block 0 (.loop l115_0))) (.seq (.region 8 g115_8 false) .ret)))) ((PT.nil.set 0 (drp a0)).set 1 (drp a1)) H) := by
  have hf : cx.fns 115 = some Go.Proofs.Try.f115 := by kernel_rfl
  simp only [callB, hf, funced, b115, bodied]
  rfl
/-! function 116: colloquy/graph.shaped -/
noncomputable def g116_0 : Array Oper := regAt Go.Proofs.Try.f116 0
theorem s116_0 : strip g116_0 = [(some 1, (.box 66 (.tmp 0)), none), (some 2, (.assign (.const (.bool false))), none)] := nr (by kernel_rfl)
theorem k116_0 : guardsOk g116_0 = true := nr (by kernel_rfl)
@[go_sem] theorem x116_0 {h : Hd} {ro nt id : Nat} {fr : PT} {H : Hp} : ex cx h ro 116 nt (.region id g116_0 false) fr H = xbind (xrun cx h ro 116 nt g116_0 [(some 1, (.box 66 (.tmp 0)), none), (some 2, (.assign (.const (.bool false))), none)] fr H) fun p => some (.normal, p.1, p.2) := x_region _ k116_0 s116_0
@[go_sem] theorem t116_0 (d : Tmp) : takes g116_0 d = false := nr (by kernel_rfl)
noncomputable def g116_1 : Array Oper := regAt Go.Proofs.Try.f116 1
theorem s116_1 : strip g116_1 = [(some 5, (.fieldAddr 66 (.tmp 1) 0), none), (some 6, (.load 3 (.tmp 5)), none), (some 7, (.call ⟨(.value (.func 118)), #[(.tmp 6), (.const (.int .i64 5))], #[3, 3]⟩), none), (some 8, (.unOp .not 4 (.tmp 7)), none)] := nr (by kernel_rfl)
theorem k116_1 : guardsOk g116_1 = true := nr (by kernel_rfl)
@[go_sem] theorem x116_1 {h : Hd} {ro nt id : Nat} {fr : PT} {H : Hp} : ex cx h ro 116 nt (.region id g116_1 false) fr H = xbind (xrun cx h ro 116 nt g116_1 [(some 5, (.fieldAddr 66 (.tmp 1) 0), none), (some 6, (.load 3 (.tmp 5)), none), (some 7, (.call ⟨(.value (.func 118)), #[(.tmp 6), (.const (.int .i64 5))], #[3, 3]⟩), none), (some 8, (.unOp .not 4 (.tmp 7)), none)] fr H) fun p => some (.normal, p.1, p.2) := x_region _ k116_1 s116_1
@[go_sem] theorem t116_1 (d : Tmp) : takes g116_1 d = false := nr (by kernel_rfl)
noncomputable def g116_2 : Array Oper := regAt Go.Proofs.Try.f116 2
theorem s116_2 : strip g116_2 = [(some 2, (.assign (.const (.bool false))), none)] := nr (by kernel_rfl)
theorem k116_2 : guardsOk g116_2 = true := nr (by kernel_rfl)
@[go_sem] theorem x116_2 {h : Hd} {ro nt id : Nat} {fr : PT} {H : Hp} : ex cx h ro 116 nt (.region id g116_2 false) fr H = xbind (xrun cx h ro 116 nt g116_2 [(some 2, (.assign (.const (.bool false))), none)] fr H) fun p => some (.normal, p.1, p.2) := x_region _ k116_2 s116_2
@[go_sem] theorem t116_2 (d : Tmp) : takes g116_2 d = false := nr (by kernel_rfl)
noncomputable def g116_3 : Array Oper := regAt Go.Proofs.Try.f116 3
theorem s116_3 : strip g116_3 = [(some 9, (.call ⟨(.value (.func 152)), #[], #[]⟩), none), (some 10, (.fieldAddr 66 (.tmp 1) 0), none), (some 11, (.load 3 (.tmp 10)), none), (some 12, (.index 249 (.tmp 9) (.tmp 11)), none), (some 3, (.alloc 248), none), (none, (.store 248 (.tmp 3) (.tmp 12)), none)] := nr (by kernel_rfl)
theorem k116_3 : guardsOk g116_3 = true := nr (by kernel_rfl)
theorem u116_3 : stripU cx 116 g116_3 = [(0, 0, [], (some 9, (.call ⟨(.value (.func 152)), #[], #[]⟩), none)), (1, 0, [0], (some 10, (.fieldAddr 66 (.tmp 1) 0), none)), (2, 0, [0], (some 11, (.load 3 (.tmp 10)), none)), (3, 0, [], (some 12, (.index 249 (.tmp 9) (.tmp 11)), none)), (4, 0, [0, 1, 2, 3], (some 3, (.alloc 248), none)), (5, 1, [], (none, (.store 248 (.tmp 3) (.tmp 12)), none))] := nr (by kernel_rfl)
@[go_sem] theorem x116_3 {h : Hd} {ro nt id : Nat} {fr : PT} {H : Hp} : ex cx h ro 116 nt (.region id g116_3 true) fr H = orRaw (xrunU cx h ro 116 nt g116_3 H.length [(0, 0, [], (some 9, (.call ⟨(.value (.func 152)), #[], #[]⟩), none)), (1, 0, [0], (some 10, (.fieldAddr 66 (.tmp 1) 0), none)), (2, 0, [0], (some 11, (.load 3 (.tmp 10)), none)), (3, 0, [], (some 12, (.index 249 (.tmp 9) (.tmp 11)), none)), (4, 0, [0, 1, 2, 3], (some 3, (.alloc 248), none)), (5, 1, [], (none, (.store 248 (.tmp 3) (.tmp 12)), none))] fr (H ++ List.replicate 1 .res) []) fun _ => regionRaw cx h ro 116 nt g116_3 fr H := x_regionU _ _ k116_3 (nr (by kernel_rfl)) (nr (by kernel_rfl)) u116_3 (nr (by kernel_rfl))
@[go_sem] theorem t116_3 (d : Tmp) : takes g116_3 d = false := nr (by kernel_rfl)
noncomputable def g116_4 : Array Oper := regAt Go.Proofs.Try.f116 4
theorem s116_4 : strip g116_4 = [(some 4, (.assign (.func 153)), none)] := nr (by kernel_rfl)
theorem k116_4 : guardsOk g116_4 = true := nr (by kernel_rfl)
@[go_sem] theorem x116_4 {h : Hd} {ro nt id : Nat} {fr : PT} {H : Hp} : ex cx h ro 116 nt (.region id g116_4 false) fr H = xbind (xrun cx h ro 116 nt g116_4 [(some 4, (.assign (.func 153)), none)] fr H) fun p => some (.normal, p.1, p.2) := x_region _ k116_4 s116_4
@[go_sem] theorem t116_4 (d : Tmp) : takes g116_4 d = false := nr (by kernel_rfl)
noncomputable def g116_5 : Array Oper := regAt Go.Proofs.Try.f116 5
theorem s116_5 : strip g116_5 = [(some 14, (.fieldAddr 66 (.tmp 1) 4), none), (some 15, (.load 64 (.tmp 14)), none), (some 16, (.call ⟨(.builtin .len), #[(.tmp 15)], #[64]⟩), none), (some 17, (.fieldAddr 248 (.tmp 3) 0), none), (some 18, (.load 3 (.tmp 17)), none), (some 19, (.binOp .lss 3 (.tmp 16) (.tmp 18) 3), none), (some 20, (.move (.tmp 19)), none), (some 21, (.fieldAddr 66 (.tmp 1) 4), some (20, false)), (some 22, (.load 64 (.tmp 21)), some (20, false)), (some 23, (.call ⟨(.builtin .len), #[(.tmp 22)], #[64]⟩), some (20, false)), (some 24, (.fieldAddr 248 (.tmp 3) 1), some (20, false)), (some 25, (.load 3 (.tmp 24)), some (20, false)), (some 26, (.binOp .gtr 3 (.tmp 23) (.tmp 25) 3), some (20, false)), (some 27, (.pick (.tmp 20) (.const (.bool true)) (.tmp 26)), none), (some 13, (.assign (.tmp 27)), none)] := nr (by kernel_rfl)
theorem k116_5 : guardsOk g116_5 = true := nr (by kernel_rfl)
@[go_sem] theorem x116_5 {h : Hd} {ro nt id : Nat} {fr : PT} {H : Hp} : ex cx h ro 116 nt (.region id g116_5 false) fr H = xbind (xrun cx h ro 116 nt g116_5 [(some 14, (.fieldAddr 66 (.tmp 1) 4), none), (some 15, (.load 64 (.tmp 14)), none), (some 16, (.call ⟨(.builtin .len), #[(.tmp 15)], #[64]⟩), none), (some 17, (.fieldAddr 248 (.tmp 3) 0), none), (some 18, (.load 3 (.tmp 17)), none), (some 19, (.binOp .lss 3 (.tmp 16) (.tmp 18) 3), none), (some 20, (.move (.tmp 19)), none), (some 21, (.fieldAddr 66 (.tmp 1) 4), some (20, false)), (some 22, (.load 64 (.tmp 21)), some (20, false)), (some 23, (.call ⟨(.builtin .len), #[(.tmp 22)], #[64]⟩), some (20, false)), (some 24, (.fieldAddr 248 (.tmp 3) 1), some (20, false)), (some 25, (.load 3 (.tmp 24)), some (20, false)), (some 26, (.binOp .gtr 3 (.tmp 23) (.tmp 25) 3), some (20, false)), (some 27, (.pick (.tmp 20) (.const (.bool true)) (.tmp 26)), none), (some 13, (.assign (.tmp 27)), none)] fr H) fun p => some (.normal, p.1, p.2) := x_region _ k116_5 s116_5
@[go_sem] theorem t116_5 (d : Tmp) : takes g116_5 d = false := nr (by kernel_rfl)
noncomputable def g116_6 : Array Oper := regAt Go.Proofs.Try.f116 6
theorem s116_6 : strip g116_6 = [(some 2, (.assign (.const (.bool false))), none)] := nr (by kernel_rfl)
theorem k116_6 : guardsOk g116_6 = true := nr (by kernel_rfl)
@[go_sem] theorem x116_6 {h : Hd} {ro nt id : Nat} {fr : PT} {H : Hp} : ex cx h ro 116 nt (.region id g116_6 false) fr H = xbind (xrun cx h ro 116 nt g116_6 [(some 2, (.assign (.const (.bool false))), none)] fr H) fun p => some (.normal, p.1, p.2) := x_region _ k116_6 s116_6
@[go_sem] theorem t116_6 (d : Tmp) : takes g116_6 d = false := nr (by kernel_rfl)
noncomputable def g116_7 : Array Oper := regAt Go.Proofs.Try.f116 7
theorem s116_7 : strip g116_7 = [(some 29, (.fieldAddr 66 (.tmp 1) 1), none), (some 30, (.load 3 (.tmp 29)), none), (some 31, (.call ⟨(.value (.func 118)), #[(.tmp 30), (.const (.int .i64 1000))], #[3, 3]⟩), none), (some 32, (.unOp .not 4 (.tmp 31)), none), (some 33, (.move (.tmp 32)), none), (some 34, (.fieldAddr 248 (.tmp 3) 3), some (33, false)), (some 35, (.load 4 (.tmp 34)), some (33, false)), (some 36, (.move (.tmp 35)), some (33, false)), (some 37, (.fieldAddr 66 (.tmp 1) 1), some (36, true)), (some 38, (.load 3 (.tmp 37)), some (36, true)), (some 39, (.binOp .gtr 3 (.tmp 38) (.const (.int .i64 0)) 3), some (36, true)), (some 40, (.pick (.tmp 36) (.tmp 39) (.const (.bool false))), some (33, false)), (some 41, (.pick (.tmp 33) (.const (.bool true)) (.tmp 40)), none), (some 28, (.assign (.tmp 41)), none)] := nr (by kernel_rfl)
theorem k116_7 : guardsOk g116_7 = true := nr (by kernel_rfl)
@[go_sem] theorem x116_7 {h : Hd} {ro nt id : Nat} {fr : PT} {H : Hp} : ex cx h ro 116 nt (.region id g116_7 false) fr H = xbind (xrun cx h ro 116 nt g116_7 [(some 29, (.fieldAddr 66 (.tmp 1) 1), none), (some 30, (.load 3 (.tmp 29)), none), (some 31, (.call ⟨(.value (.func 118)), #[(.tmp 30), (.const (.int .i64 1000))], #[3, 3]⟩), none), (some 32, (.unOp .not 4 (.tmp 31)), none), (some 33, (.move (.tmp 32)), none), (some 34, (.fieldAddr 248 (.tmp 3) 3), some (33, false)), (some 35, (.load 4 (.tmp 34)), some (33, false)), (some 36, (.move (.tmp 35)), some (33, false)), (some 37, (.fieldAddr 66 (.tmp 1) 1), some (36, true)), (some 38, (.load 3 (.tmp 37)), some (36, true)), (some 39, (.binOp .gtr 3 (.tmp 38) (.const (.int .i64 0)) 3), some (36, true)), (some 40, (.pick (.tmp 36) (.tmp 39) (.const (.bool false))), some (33, false)), (some 41, (.pick (.tmp 33) (.const (.bool true)) (.tmp 40)), none), (some 28, (.assign (.tmp 41)), none)] fr H) fun p => some (.normal, p.1, p.2) := x_region _ k116_7 s116_7
@[go_sem] theorem t116_7 (d : Tmp) : takes g116_7 d = false := nr (by kernel_rfl)
noncomputable def g116_8 : Array Oper := regAt Go.Proofs.Try.f116 8
theorem s116_8 : strip g116_8 = [(some 2, (.assign (.const (.bool false))), none)] := nr (by kernel_rfl)
theorem k116_8 : guardsOk g116_8 = true := nr (by kernel_rfl)
@[go_sem] theorem x116_8 {h : Hd} {ro nt id : Nat} {fr : PT} {H : Hp} : ex cx h ro 116 nt (.region id g116_8 false) fr H = xbind (xrun cx h ro 116 nt g116_8 [(some 2, (.assign (.const (.bool false))), none)] fr H) fun p => some (.normal, p.1, p.2) := x_region _ k116_8 s116_8
@[go_sem] theorem t116_8 (d : Tmp) : takes g116_8 d = false := nr (by kernel_rfl)
noncomputable def g116_9 : Array Oper := regAt Go.Proofs.Try.f116 9
theorem s116_9 : strip g116_9 = [(some 43, (.fieldAddr 66 (.tmp 1) 2), none), (some 44, (.load 4 (.tmp 43)), none), (some 45, (.move (.tmp 44)), none), (some 46, (.fieldAddr 248 (.tmp 3) 2), some (45, true)), (some 47, (.load 4 (.tmp 46)), some (45, true)), (some 48, (.unOp .not 4 (.tmp 47)), some (45, true)), (some 49, (.pick (.tmp 45) (.tmp 48) (.const (.bool false))), none), (some 50, (.move (.tmp 49)), none), (some 51, (.fieldAddr 66 (.tmp 1) 2), some (50, false)), (some 52, (.load 4 (.tmp 51)), some (50, false)), (some 53, (.unOp .not 4 (.tmp 52)), some (50, false)), (some 54, (.move (.tmp 53)), some (50, false)), (some 55, (.fieldAddr 66 (.tmp 1) 3), some (54, true)), (some 56, (.load 63 (.tmp 55)), some (54, true)), (some 57, (.build 63 #[]), some (54, true)), (some 58, (.binOp .neq 63 (.tmp 56) (.tmp 57) 63), some (54, true)), (some 59, (.pick (.tmp 54) (.tmp 58) (.const (.bool false))), some (50, false)), (some 60, (.pick (.tmp 50) (.const (.bool true)) (.tmp 59)), none), (some 42, (.assign (.tmp 60)), none)] := nr (by kernel_rfl)
theorem k116_9 : guardsOk g116_9 = true := nr (by kernel_rfl)
@[go_sem] theorem x116_9 {h : Hd} {ro nt id : Nat} {fr : PT} {H : Hp} : ex cx h ro 116 nt (.region id g116_9 false) fr H = xbind (xrun cx h ro 116 nt g116_9 [(some 43, (.fieldAddr 66 (.tmp 1) 2), none), (some 44, (.load 4 (.tmp 43)), none), (some 45, (.move (.tmp 44)), none), (some 46, (.fieldAddr 248 (.tmp 3) 2), some (45, true)), (some 47, (.load 4 (.tmp 46)), some (45, true)), (some 48, (.unOp .not 4 (.tmp 47)), some (45, true)), (some 49, (.pick (.tmp 45) (.tmp 48) (.const (.bool false))), none), (some 50, (.move (.tmp 49)), none), (some 51, (.fieldAddr 66 (.tmp 1) 2), some (50, false)), (some 52, (.load 4 (.tmp 51)), some (50, false)), (some 53, (.unOp .not 4 (.tmp 52)), some (50, false)), (some 54, (.move (.tmp 53)), some (50, false)), (some 55, (.fieldAddr 66 (.tmp 1) 3), some (54, true)), (some 56, (.load 63 (.tmp 55)), some (54, true)), (some 57, (.build 63 #[]), some (54, true)), (some 58, (.binOp .neq 63 (.tmp 56) (.tmp 57) 63), some (54, true)), (some 59, (.pick (.tmp 54) (.tmp 58) (.const (.bool false))), some (50, false)), (some 60, (.pick (.tmp 50) (.const (.bool true)) (.tmp 59)), none), (some 42, (.assign (.tmp 60)), none)] fr H) fun p => some (.normal, p.1, p.2) := x_region _ k116_9 s116_9
@[go_sem] theorem t116_9 (d : Tmp) : takes g116_9 d = false := nr (by kernel_rfl)
noncomputable def g116_10 : Array Oper := regAt Go.Proofs.Try.f116 10
theorem s116_10 : strip g116_10 = [(some 2, (.assign (.const (.bool false))), none)] := nr (by kernel_rfl)
theorem k116_10 : guardsOk g116_10 = true := nr (by kernel_rfl)
@[go_sem] theorem x116_10 {h : Hd} {ro nt id : Nat} {fr : PT} {H : Hp} : ex cx h ro 116 nt (.region id g116_10 false) fr H = xbind (xrun cx h ro 116 nt g116_10 [(some 2, (.assign (.const (.bool false))), none)] fr H) fun p => some (.normal, p.1, p.2) := x_region _ k116_10 s116_10
@[go_sem] theorem t116_10 (d : Tmp) : takes g116_10 d = false := nr (by kernel_rfl)
noncomputable def g116_11 : Array Oper := regAt Go.Proofs.Try.f116 11
theorem s116_11 : strip g116_11 = [(some 61, (.load 66 (.tmp 1)), none), (some 62, (.call ⟨(.value (.func 117)), #[(.tmp 61)], #[66]⟩), none), (some 63, (.move (.tmp 4)), none), (some 64, (.call ⟨(.value (.func 154)), #[(.tmp 62), (.tmp 63)], #[64, 251]⟩), none), (some 65, (.unOp .not 4 (.tmp 64)), none), (some 2, (.assign (.tmp 65)), none)] := nr (by kernel_rfl)
theorem k116_11 : guardsOk g116_11 = true := nr (by kernel_rfl)
@[go_sem] theorem x116_11 {h : Hd} {ro nt id : Nat} {fr : PT} {H : Hp} : ex cx h ro 116 nt (.region id g116_11 false) fr H = xbind (xrun cx h ro 116 nt g116_11 [(some 61, (.load 66 (.tmp 1)), none), (some 62, (.call ⟨(.value (.func 117)), #[(.tmp 61)], #[66]⟩), none), (some 63, (.move (.tmp 4)), none), (some 64, (.call ⟨(.value (.func 154)), #[(.tmp 62), (.tmp 63)], #[64, 251]⟩), none), (some 65, (.unOp .not 4 (.tmp 64)), none), (some 2, (.assign (.tmp 65)), none)] fr H) fun p => some (.normal, p.1, p.2) := x_region _ k116_11 s116_11
@[go_sem] theorem t116_11 (d : Tmp) : takes g116_11 d = false := nr (by kernel_rfl)
theorem b116 : Go.Proofs.Try.f116.body = some (.seq (.region 0 g116_0 false) (.seq (.seq (.region 1 g116_1 false) (.cond (.tmp 8) (.seq (.region 2 g116_2 false) .ret) .skip)) (.seq (.region 3 g116_3 true) (.seq (.region 4 g116_4 false) (.seq (.block 0 (.seq (.region 5 g116_5 false) (.cond (.tmp 13) (.seq (.region 6 g116_6 false) .ret) (.seq (.region 7 g116_7 false) (.cond (.tmp 28) (.seq (.region 8 g116_8 false) .ret) (.seq (.region 9 g116_9 false) (.cond (.tmp 42) (.seq (.region 10 g116_10 false) .ret) .skip))))))) (.seq (.region 11 g116_11 false) .ret)))))) := by kernel_rfl
theorem c116 {h : Hd} {ro : Nat} {H : Hp} (a0 : AV) : callB cx h ro 116 [a0] H = returned cx [(.tmp 2)] (ex cx h ro 116 66 (.seq (.region 0 g116_0 false) (.seq (.seq (.region 1 g116_1 false) (.cond (.tmp 8) (.seq (.region 2 g116_2 false) .ret) .skip)) (.seq (.region 3 g116_3 true) (.seq (.region 4 g116_4 false) (.seq (.block 0 (.seq (.region 5 g116_5 false) (.cond (.tmp 13) (.seq (.region 6 g116_6 false) .ret) (.seq (.region 7 g116_7 false) (.cond (.tmp 28) (.seq (.region 8 g116_8 false) .ret) (.seq (.region 9 g116_9 false) (.cond (.tmp 42) (.seq (.region 10 g116_10 false) .ret) .skip))))))) (.seq (.region 11 g116_11 false) .ret)))))) (PT.nil.set 0 (drp a0)) H) := by
  have hf : cx.fns 116 = some Go.Proofs.Try.f116 := by kernel_rfl
  simp only [callB, hf, funced, b116, bodied]
  rfl
end Go.Abs.Tab

/- Codes of this seat's functions, their regions step by step. (Printed by a program.) -/
set_option linter.unusedVariables false
namespace Go.Abs.Tab
/-! function 34: colloquy/actors.New -/
noncomputable def g34_0 : Array Oper := regAt Go.Proofs.Try.f34 0
theorem s34_0 : strip g34_0 = [(some 2, (.assign (.const (.pointer none))), none)] := nr (by kernel_rfl)
theorem k34_0 : guardsOk g34_0 = true := nr (by kernel_rfl)
@[go_sem] theorem x34_0 {h : Hd} {ro nt id : Nat} {fr : PT} {H : Hp} : ex cx h ro 34 nt (.region id g34_0 false) fr H = xbind (xrun cx h ro 34 nt g34_0 [(some 2, (.assign (.const (.pointer none))), none)] fr H) fun p => some (.normal, p.1, p.2) := x_region _ k34_0 s34_0
@[go_sem] theorem t34_0 (d : Tmp) : takes g34_0 d = false := nr (by kernel_rfl)
noncomputable def g34_1 : Array Oper := regAt Go.Proofs.Try.f34 1
theorem s34_1 : strip g34_1 = [(some 3, (.move (.tmp 0)), none), (some 4, (.binOp .lss 3 (.tmp 3) (.const (.int .i64 1)) 3), none), (some 5, (.move (.tmp 4)), none), (some 6, (.move (.tmp 0)), some (5, false)), (some 7, (.binOp .gtr 3 (.tmp 6) (.const (.int .i64 32)) 3), some (5, false)), (some 8, (.pick (.tmp 5) (.const (.bool true)) (.tmp 7)), none)] := nr (by kernel_rfl)
theorem k34_1 : guardsOk g34_1 = true := nr (by kernel_rfl)
@[go_sem] theorem x34_1 {h : Hd} {ro nt id : Nat} {fr : PT} {H : Hp} : ex cx h ro 34 nt (.region id g34_1 false) fr H = xbind (xrun cx h ro 34 nt g34_1 [(some 3, (.move (.tmp 0)), none), (some 4, (.binOp .lss 3 (.tmp 3) (.const (.int .i64 1)) 3), none), (some 5, (.move (.tmp 4)), none), (some 6, (.move (.tmp 0)), some (5, false)), (some 7, (.binOp .gtr 3 (.tmp 6) (.const (.int .i64 32)) 3), some (5, false)), (some 8, (.pick (.tmp 5) (.const (.bool true)) (.tmp 7)), none)] fr H) fun p => some (.normal, p.1, p.2) := x_region _ k34_1 s34_1
@[go_sem] theorem t34_1 (d : Tmp) : takes g34_1 d = false := nr (by kernel_rfl)
noncomputable def g34_2 : Array Oper := regAt Go.Proofs.Try.f34 2
theorem s34_2 : strip g34_2 = [(some 2, (.assign (.const (.pointer none))), none)] := nr (by kernel_rfl)
theorem k34_2 : guardsOk g34_2 = true := nr (by kernel_rfl)
@[go_sem] theorem x34_2 {h : Hd} {ro nt id : Nat} {fr : PT} {H : Hp} : ex cx h ro 34 nt (.region id g34_2 false) fr H = xbind (xrun cx h ro 34 nt g34_2 [(some 2, (.assign (.const (.pointer none))), none)] fr H) fun p => some (.normal, p.1, p.2) := x_region _ k34_2 s34_2
@[go_sem] theorem t34_2 (d : Tmp) : takes g34_2 d = false := nr (by kernel_rfl)
noncomputable def g34_3 : Array Oper := regAt Go.Proofs.Try.f34 3
theorem s34_3 : strip g34_3 = [(some 9, (.move (.tmp 0)), none), (some 10, (.makeSlice 178 (.tmp 9) (.tmp 9)), none), (some 11, (.build 180 #[(0, (.tmp 10))]), none), (some 12, (.box 180 (.tmp 11)), none), (some 2, (.assign (.tmp 12)), none)] := nr (by kernel_rfl)
theorem k34_3 : guardsOk g34_3 = true := nr (by kernel_rfl)
@[go_sem] theorem x34_3 {h : Hd} {ro nt id : Nat} {fr : PT} {H : Hp} : ex cx h ro 34 nt (.region id g34_3 false) fr H = xbind (xrun cx h ro 34 nt g34_3 [(some 9, (.move (.tmp 0)), none), (some 10, (.makeSlice 178 (.tmp 9) (.tmp 9)), none), (some 11, (.build 180 #[(0, (.tmp 10))]), none), (some 12, (.box 180 (.tmp 11)), none), (some 2, (.assign (.tmp 12)), none)] fr H) fun p => some (.normal, p.1, p.2) := x_region _ k34_3 s34_3
@[go_sem] theorem t34_3 (d : Tmp) : takes g34_3 d = false := nr (by kernel_rfl)
theorem b34 : Go.Proofs.Try.f34.body = some (.seq (.region 0 g34_0 false) (.seq (.seq (.region 1 g34_1 false) (.cond (.tmp 8) (.seq (.region 2 g34_2 false) .ret) .skip)) (.seq (.region 3 g34_3 false) .ret))) := by kernel_rfl
theorem c34 {h : Hd} {ro : Nat} {H : Hp} (a0 : AV) : callB cx h ro 34 [a0] H = returned cx [(.tmp 2)] (ex cx h ro 34 13 (.seq (.region 0 g34_0 false) (.seq (.seq (.region 1 g34_1 false) (.cond (.tmp 8) (.seq (.region 2 g34_2 false) .ret) .skip)) (.seq (.region 3 g34_3 false) .ret))) (PT.nil.set 0 (drp a0)) H) := by
  have hf : cx.fns 34 = some Go.Proofs.Try.f34 := by kernel_rfl
  simp only [callB, hf, funced, b34, bodied]
  rfl
/-! function 35: (*colloquy/actors.Table).Add -/
noncomputable def g35_0 : Array Oper := regAt Go.Proofs.Try.f35 0
theorem s35_0 : strip g35_0 = [(some 3, (.box 24 (.tmp 0)), none), (some 4, (.box 3 (.tmp 1)), none), (some 5, (.box 39 (.tmp 2)), none), (some 6, (.alloc 3), none), (some 7, (.alloc 27), none)] := nr (by kernel_rfl)
theorem k35_0 : guardsOk g35_0 = true := nr (by kernel_rfl)
@[go_sem] theorem x35_0 {h : Hd} {ro nt id : Nat} {fr : PT} {H : Hp} : ex cx h ro 35 nt (.region id g35_0 false) fr H = xbind (xrun cx h ro 35 nt g35_0 [(some 3, (.box 24 (.tmp 0)), none), (some 4, (.box 3 (.tmp 1)), none), (some 5, (.box 39 (.tmp 2)), none), (some 6, (.alloc 3), none), (some 7, (.alloc 27), none)] fr H) fun p => some (.normal, p.1, p.2) := x_region _ k35_0 s35_0
@[go_sem] theorem t35_0 (d : Tmp) : takes g35_0 d = false := nr (by kernel_rfl)
noncomputable def g35_1 : Array Oper := regAt Go.Proofs.Try.f35 1
theorem s35_1 : strip g35_1 = [(some 10, (.load 24 (.tmp 3)), none), (some 11, (.binOp .eql 24 (.tmp 10) (.const (.pointer none)) 24), none)] := nr (by kernel_rfl)
theorem k35_1 : guardsOk g35_1 = true := nr (by kernel_rfl)
@[go_sem] theorem x35_1 {h : Hd} {ro nt id : Nat} {fr : PT} {H : Hp} : ex cx h ro 35 nt (.region id g35_1 false) fr H = xbind (xrun cx h ro 35 nt g35_1 [(some 10, (.load 24 (.tmp 3)), none), (some 11, (.binOp .eql 24 (.tmp 10) (.const (.pointer none)) 24), none)] fr H) fun p => some (.normal, p.1, p.2) := x_region _ k35_1 s35_1
@[go_sem] theorem t35_1 (d : Tmp) : takes g35_1 d = false := nr (by kernel_rfl)
noncomputable def g35_2 : Array Oper := regAt Go.Proofs.Try.f35 2
theorem s35_2 : strip g35_2 = [(none, (.store 3 (.tmp 6) (.const (.int .i64 (-1)))), none), (none, (.store 27 (.tmp 7) (.const (.int .i64 1))), none)] := nr (by kernel_rfl)
theorem k35_2 : guardsOk g35_2 = true := nr (by kernel_rfl)
@[go_sem] theorem x35_2 {h : Hd} {ro nt id : Nat} {fr : PT} {H : Hp} : ex cx h ro 35 nt (.region id g35_2 false) fr H = xbind (xrun cx h ro 35 nt g35_2 [(none, (.store 3 (.tmp 6) (.const (.int .i64 (-1)))), none), (none, (.store 27 (.tmp 7) (.const (.int .i64 1))), none)] fr H) fun p => some (.normal, p.1, p.2) := x_region _ k35_2 s35_2
@[go_sem] theorem t35_2 (d : Tmp) : takes g35_2 d = false := nr (by kernel_rfl)
noncomputable def g35_3 : Array Oper := regAt Go.Proofs.Try.f35 3
theorem s35_3 : strip g35_3 = [(some 12, (.load 39 (.tmp 5)), none), (some 13, (.call ⟨(.builtin .len), #[(.tmp 12)], #[39]⟩), none), (some 14, (.binOp .gtr 3 (.tmp 13) (.const (.int .i64 16)) 3), none)] := nr (by kernel_rfl)
theorem k35_3 : guardsOk g35_3 = true := nr (by kernel_rfl)
@[go_sem] theorem x35_3 {h : Hd} {ro nt id : Nat} {fr : PT} {H : Hp} : ex cx h ro 35 nt (.region id g35_3 false) fr H = xbind (xrun cx h ro 35 nt g35_3 [(some 12, (.load 39 (.tmp 5)), none), (some 13, (.call ⟨(.builtin .len), #[(.tmp 12)], #[39]⟩), none), (some 14, (.binOp .gtr 3 (.tmp 13) (.const (.int .i64 16)) 3), none)] fr H) fun p => some (.normal, p.1, p.2) := x_region _ k35_3 s35_3
@[go_sem] theorem t35_3 (d : Tmp) : takes g35_3 d = false := nr (by kernel_rfl)
noncomputable def g35_4 : Array Oper := regAt Go.Proofs.Try.f35 4
theorem s35_4 : strip g35_4 = [(none, (.store 3 (.tmp 6) (.const (.int .i64 (-1)))), none), (none, (.store 27 (.tmp 7) (.const (.int .i64 2))), none)] := nr (by kernel_rfl)
theorem k35_4 : guardsOk g35_4 = true := nr (by kernel_rfl)
@[go_sem] theorem x35_4 {h : Hd} {ro nt id : Nat} {fr : PT} {H : Hp} : ex cx h ro 35 nt (.region id g35_4 false) fr H = xbind (xrun cx h ro 35 nt g35_4 [(none, (.store 3 (.tmp 6) (.const (.int .i64 (-1)))), none), (none, (.store 27 (.tmp 7) (.const (.int .i64 2))), none)] fr H) fun p => some (.normal, p.1, p.2) := x_region _ k35_4 s35_4
@[go_sem] theorem t35_4 (d : Tmp) : takes g35_4 d = false := nr (by kernel_rfl)
noncomputable def g35_5 : Array Oper := regAt Go.Proofs.Try.f35 5
theorem s35_5 : strip g35_5 = [(some 15, (.load 24 (.tmp 3)), none), (some 16, (.call ⟨(.value (.func 108)), #[(.tmp 15), (.const (.bool false))], #[24, 4]⟩), none)] := nr (by kernel_rfl)
theorem k35_5 : guardsOk g35_5 = true := nr (by kernel_rfl)
@[go_sem] theorem x35_5 {h : Hd} {ro nt id : Nat} {fr : PT} {H : Hp} : ex cx h ro 35 nt (.region id g35_5 false) fr H = xbind (xrun cx h ro 35 nt g35_5 [(some 15, (.load 24 (.tmp 3)), none), (some 16, (.call ⟨(.value (.func 108)), #[(.tmp 15), (.const (.bool false))], #[24, 4]⟩), none)] fr H) fun p => some (.normal, p.1, p.2) := x_region _ k35_5 s35_5
@[go_sem] theorem t35_5 (d : Tmp) : takes g35_5 d = false := nr (by kernel_rfl)
noncomputable def g35_6 : Array Oper := regAt Go.Proofs.Try.f35 6
theorem s35_6 : strip g35_6 = [(some 8, (.assign (.tmp 17)), none)] := nr (by kernel_rfl)
theorem k35_6 : guardsOk g35_6 = true := nr (by kernel_rfl)
@[go_sem] theorem x35_6 {h : Hd} {ro nt id : Nat} {fr : PT} {H : Hp} : ex cx h ro 35 nt (.region id g35_6 false) fr H = xbind (xrun cx h ro 35 nt g35_6 [(some 8, (.assign (.tmp 17)), none)] fr H) fun p => some (.normal, p.1, p.2) := x_region _ k35_6 s35_6
@[go_sem] theorem t35_6 (d : Tmp) : takes g35_6 d = false := nr (by kernel_rfl)
noncomputable def g35_7 : Array Oper := regAt Go.Proofs.Try.f35 7
theorem s35_7 : strip g35_7 = [(some 18, (.build 185 #[(1, (.const (.bool true)))]), none), (some 9, (.alloc 185), none), (none, (.store 185 (.tmp 9) (.tmp 18)), none)] := nr (by kernel_rfl)
theorem k35_7 : guardsOk g35_7 = true := nr (by kernel_rfl)
@[go_sem] theorem x35_7 {h : Hd} {ro nt id : Nat} {fr : PT} {H : Hp} : ex cx h ro 35 nt (.region id g35_7 false) fr H = xbind (xrun cx h ro 35 nt g35_7 [(some 18, (.build 185 #[(1, (.const (.bool true)))]), none), (some 9, (.alloc 185), none), (none, (.store 185 (.tmp 9) (.tmp 18)), none)] fr H) fun p => some (.normal, p.1, p.2) := x_region _ k35_7 s35_7
@[go_sem] theorem t35_7 (d : Tmp) : takes g35_7 d = false := nr (by kernel_rfl)
noncomputable def g35_8 : Array Oper := regAt Go.Proofs.Try.f35 8
theorem s35_8 : strip g35_8 = [(some 19, (.load 3 (.tmp 4)), none), (some 20, (.fieldAddr 185 (.tmp 9) 0), none), (some 21, (.fieldAddr 44 (.tmp 20) 0), none), (none, (.store 3 (.tmp 21) (.tmp 19)), none)] := nr (by kernel_rfl)
theorem k35_8 : guardsOk g35_8 = true := nr (by kernel_rfl)
@[go_sem] theorem x35_8 {h : Hd} {ro nt id : Nat} {fr : PT} {H : Hp} : ex cx h ro 35 nt (.region id g35_8 false) fr H = xbind (xrun cx h ro 35 nt g35_8 [(some 19, (.load 3 (.tmp 4)), none), (some 20, (.fieldAddr 185 (.tmp 9) 0), none), (some 21, (.fieldAddr 44 (.tmp 20) 0), none), (none, (.store 3 (.tmp 21) (.tmp 19)), none)] fr H) fun p => some (.normal, p.1, p.2) := x_region _ k35_8 s35_8
@[go_sem] theorem t35_8 (d : Tmp) : takes g35_8 d = false := nr (by kernel_rfl)
noncomputable def g35_9 : Array Oper := regAt Go.Proofs.Try.f35 9
theorem s35_9 : strip g35_9 = [(some 22, (.fieldAddr 185 (.tmp 9) 0), none), (some 23, (.fieldAddr 44 (.tmp 22) 3), none), (some 24, (.slice 42 (.tmp 23) none none none), none), (some 25, (.load 39 (.tmp 5)), none), (some 26, (.call ⟨(.builtin .copy), #[(.tmp 24), (.tmp 25)], #[39, 39]⟩), none)] := nr (by kernel_rfl)
theorem k35_9 : guardsOk g35_9 = true := nr (by kernel_rfl)
theorem u35_9 : stripU cx 35 g35_9 = [(0, 0, [], (some 22, (.fieldAddr 185 (.tmp 9) 0), none)), (1, 0, [], (some 23, (.fieldAddr 44 (.tmp 22) 3), none)), (2, 0, [], (some 24, (.slice 42 (.tmp 23) none none none), none)), (3, 0, [0, 1, 2], (some 25, (.load 39 (.tmp 5)), none)), (4, 0, [], (some 26, (.call ⟨(.builtin .copy), #[(.tmp 24), (.tmp 25)], #[39, 39]⟩), none))] := nr (by kernel_rfl)
@[go_sem] theorem x35_9 {h : Hd} {ro nt id : Nat} {fr : PT} {H : Hp} : ex cx h ro 35 nt (.region id g35_9 true) fr H = orRaw (xrunU cx h ro 35 nt g35_9 H.length [(0, 0, [], (some 22, (.fieldAddr 185 (.tmp 9) 0), none)), (1, 0, [], (some 23, (.fieldAddr 44 (.tmp 22) 3), none)), (2, 0, [], (some 24, (.slice 42 (.tmp 23) none none none), none)), (3, 0, [0, 1, 2], (some 25, (.load 39 (.tmp 5)), none)), (4, 0, [], (some 26, (.call ⟨(.builtin .copy), #[(.tmp 24), (.tmp 25)], #[39, 39]⟩), none))] fr (H ++ List.replicate 0 .res) []) fun _ => regionRaw cx h ro 35 nt g35_9 fr H := x_regionU _ _ k35_9 (nr (by kernel_rfl)) (nr (by kernel_rfl)) u35_9 (nr (by kernel_rfl))
@[go_sem] theorem t35_9 (d : Tmp) : takes g35_9 d = false := nr (by kernel_rfl)
noncomputable def g35_10 : Array Oper := regAt Go.Proofs.Try.f35 10
theorem s35_10 : strip g35_10 = [(some 27, (.load 24 (.tmp 3)), none), (some 28, (.nilCheck (.tmp 27)), none), (some 29, (.fieldAddr 180 (.tmp 28) 0), none), (some 30, (.load 178 (.tmp 29)), none), (some 31, (.move (.tmp 8)), none), (some 32, (.load 185 (.tmp 9)), none), (some 33, (.indexAddr 178 (.tmp 30) (.tmp 31)), none), (none, (.store 185 (.tmp 33) (.tmp 32)), none)] := nr (by kernel_rfl)
theorem k35_10 : guardsOk g35_10 = true := nr (by kernel_rfl)
theorem u35_10 : stripU cx 35 g35_10 = [(0, 0, [], (some 27, (.load 24 (.tmp 3)), none)), (1, 0, [], (some 28, (.nilCheck (.tmp 27)), none)), (2, 0, [], (some 29, (.fieldAddr 180 (.tmp 28) 0), none)), (3, 0, [], (some 30, (.load 178 (.tmp 29)), none)), (4, 0, [0, 1, 2, 3], (some 31, (.move (.tmp 8)), none)), (5, 0, [0, 1, 2, 3, 4], (some 32, (.load 185 (.tmp 9)), none)), (6, 0, [], (some 33, (.indexAddr 178 (.tmp 30) (.tmp 31)), none)), (7, 0, [], (none, (.store 185 (.tmp 33) (.tmp 32)), none))] := nr (by kernel_rfl)
@[go_sem] theorem x35_10 {h : Hd} {ro nt id : Nat} {fr : PT} {H : Hp} : ex cx h ro 35 nt (.region id g35_10 true) fr H = orRaw (xrunU cx h ro 35 nt g35_10 H.length [(0, 0, [], (some 27, (.load 24 (.tmp 3)), none)), (1, 0, [], (some 28, (.nilCheck (.tmp 27)), none)), (2, 0, [], (some 29, (.fieldAddr 180 (.tmp 28) 0), none)), (3, 0, [], (some 30, (.load 178 (.tmp 29)), none)), (4, 0, [0, 1, 2, 3], (some 31, (.move (.tmp 8)), none)), (5, 0, [0, 1, 2, 3, 4], (some 32, (.load 185 (.tmp 9)), none)), (6, 0, [], (some 33, (.indexAddr 178 (.tmp 30) (.tmp 31)), none)), (7, 0, [], (none, (.store 185 (.tmp 33) (.tmp 32)), none))] fr (H ++ List.replicate 0 .res) []) fun _ => regionRaw cx h ro 35 nt g35_10 fr H := x_regionU _ _ k35_10 (nr (by kernel_rfl)) (nr (by kernel_rfl)) u35_10 (nr (by kernel_rfl))
@[go_sem] theorem t35_10 (d : Tmp) : takes g35_10 d = false := nr (by kernel_rfl)
noncomputable def g35_11 : Array Oper := regAt Go.Proofs.Try.f35 11
theorem s35_11 : strip g35_11 = [(some 34, (.move (.tmp 8)), none), (none, (.store 3 (.tmp 6) (.tmp 34)), none), (none, (.store 27 (.tmp 7) (.const (.int .i64 0))), none)] := nr (by kernel_rfl)
theorem k35_11 : guardsOk g35_11 = true := nr (by kernel_rfl)
@[go_sem] theorem x35_11 {h : Hd} {ro nt id : Nat} {fr : PT} {H : Hp} : ex cx h ro 35 nt (.region id g35_11 false) fr H = xbind (xrun cx h ro 35 nt g35_11 [(some 34, (.move (.tmp 8)), none), (none, (.store 3 (.tmp 6) (.tmp 34)), none), (none, (.store 27 (.tmp 7) (.const (.int .i64 0))), none)] fr H) fun p => some (.normal, p.1, p.2) := x_region _ k35_11 s35_11
@[go_sem] theorem t35_11 (d : Tmp) : takes g35_11 d = false := nr (by kernel_rfl)
noncomputable def g35_12 : Array Oper := regAt Go.Proofs.Try.f35 12
theorem s35_12 : strip g35_12 = [(none, (.store 3 (.tmp 6) (.const (.int .i64 (-1)))), none), (none, (.store 27 (.tmp 7) (.const (.int .i64 22))), none)] := nr (by kernel_rfl)
theorem k35_12 : guardsOk g35_12 = true := nr (by kernel_rfl)
@[go_sem] theorem x35_12 {h : Hd} {ro nt id : Nat} {fr : PT} {H : Hp} : ex cx h ro 35 nt (.region id g35_12 false) fr H = xbind (xrun cx h ro 35 nt g35_12 [(none, (.store 3 (.tmp 6) (.const (.int .i64 (-1)))), none), (none, (.store 27 (.tmp 7) (.const (.int .i64 22))), none)] fr H) fun p => some (.normal, p.1, p.2) := x_region _ k35_12 s35_12
@[go_sem] theorem t35_12 (d : Tmp) : takes g35_12 d = false := nr (by kernel_rfl)
noncomputable def q35_0 : Code := (.region 6 g35_6 false)
noncomputable def r35_0 : Code := (.block 1 (.seq (.region 7 g35_7 false) (.seq (.region 8 g35_8 false) (.seq (.region 9 g35_9 true) (.seq (.region 10 g35_10 true) (.seq (.region 11 g35_11 false) .ret))))))
theorem b35 : Go.Proofs.Try.f35.body = some (.seq (.region 0 g35_0 false) (.seq (.seq (.region 1 g35_1 false) (.cond (.tmp 11) (.seq (.region 2 g35_2 false) .ret) .skip)) (.seq (.seq (.region 3 g35_3 false) (.cond (.tmp 14) (.seq (.region 4 g35_4 false) .ret) .skip)) (.seq (.seq (.region 5 g35_5 false) (.block 0 (.rangeFunc (.tmp 16) #[17] q35_0 r35_0))) (.seq (.region 12 g35_12 false) .ret))))) := by kernel_rfl
theorem c35 {h : Hd} {ro : Nat} {H : Hp} (a0 a1 a2 : AV) : callB cx h ro 35 [a0, a1, a2] H = returned cx [(.cell 6 3), (.cell 7 27)] (ex cx h ro 35 35 (.seq (.region 0 g35_0 false) (.seq (.seq (.region 1 g35_1 false) (.cond (.tmp 11) (.seq (.region 2 g35_2 false) .ret) .skip)) (.seq (.seq (.region 3 g35_3 false) (.cond (.tmp 14) (.seq (.region 4 g35_4 false) .ret) .skip)) (.seq (.seq (.region 5 g35_5 false) (.block 0 (.rangeFunc (.tmp 16) #[17] q35_0 r35_0))) (.seq (.region 12 g35_12 false) .ret))))) (((PT.nil.set 0 (drp a0)).set 1 (drp a1)).set 2 (drp a2)) H) := by
  have hf : cx.fns 35 = some Go.Proofs.Try.f35 := by kernel_rfl
  simp only [callB, hf, funced, b35, bodied]
  rfl
/-! function 36: (*colloquy/actors.Table).Drop -/
noncomputable def g36_0 : Array Oper := regAt Go.Proofs.Try.f36 0
theorem s36_0 : strip g36_0 = [(some 4, (.assign (.const (.int .i64 0))), none)] := nr (by kernel_rfl)
theorem k36_0 : guardsOk g36_0 = true := nr (by kernel_rfl)
@[go_sem] theorem x36_0 {h : Hd} {ro nt id : Nat} {fr : PT} {H : Hp} : ex cx h ro 36 nt (.region id g36_0 false) fr H = xbind (xrun cx h ro 36 nt g36_0 [(some 4, (.assign (.const (.int .i64 0))), none)] fr H) fun p => some (.normal, p.1, p.2) := x_region _ k36_0 s36_0
@[go_sem] theorem t36_0 (d : Tmp) : takes g36_0 d = false := nr (by kernel_rfl)
noncomputable def g36_1 : Array Oper := regAt Go.Proofs.Try.f36 1
theorem s36_1 : strip g36_1 = [(some 8, (.move (.tmp 0)), none), (some 9, (.move (.tmp 1)), none), (some 10, (.call ⟨(.value (.func 109)), #[(.tmp 8), (.tmp 9)], #[24, 3]⟩), none), (some 7, (.move (.tmp 10)), none), (some 11, (.extract (.tmp 7) 0), none), (some 12, (.extract (.tmp 7) 1), none), (some 5, (.assign (.tmp 11)), none), (some 6, (.assign (.tmp 12)), none)] := nr (by kernel_rfl)
theorem k36_1 : guardsOk g36_1 = true := nr (by kernel_rfl)
@[go_sem] theorem x36_1 {h : Hd} {ro nt id : Nat} {fr : PT} {H : Hp} : ex cx h ro 36 nt (.region id g36_1 false) fr H = xbind (xrun cx h ro 36 nt g36_1 [(some 8, (.move (.tmp 0)), none), (some 9, (.move (.tmp 1)), none), (some 10, (.call ⟨(.value (.func 109)), #[(.tmp 8), (.tmp 9)], #[24, 3]⟩), none), (some 7, (.move (.tmp 10)), none), (some 11, (.extract (.tmp 7) 0), none), (some 12, (.extract (.tmp 7) 1), none), (some 5, (.assign (.tmp 11)), none), (some 6, (.assign (.tmp 12)), none)] fr H) fun p => some (.normal, p.1, p.2) := x_region _ k36_1 s36_1
@[go_sem] theorem t36_1 (d : Tmp) : takes g36_1 d = false := nr (by kernel_rfl)
noncomputable def g36_2 : Array Oper := regAt Go.Proofs.Try.f36 2
theorem s36_2 : strip g36_2 = [(some 13, (.move (.tmp 6)), none), (some 14, (.binOp .eql 27 (.tmp 13) (.const (.int .i64 0)) 27), none)] := nr (by kernel_rfl)
theorem k36_2 : guardsOk g36_2 = true := nr (by kernel_rfl)
@[go_sem] theorem x36_2 {h : Hd} {ro nt id : Nat} {fr : PT} {H : Hp} : ex cx h ro 36 nt (.region id g36_2 false) fr H = xbind (xrun cx h ro 36 nt g36_2 [(some 13, (.move (.tmp 6)), none), (some 14, (.binOp .eql 27 (.tmp 13) (.const (.int .i64 0)) 27), none)] fr H) fun p => some (.normal, p.1, p.2) := x_region _ k36_2 s36_2
@[go_sem] theorem t36_2 (d : Tmp) : takes g36_2 d = false := nr (by kernel_rfl)
noncomputable def g36_3 : Array Oper := regAt Go.Proofs.Try.f36 3
theorem s36_3 : strip g36_3 = [(some 15, (.move (.tmp 5)), none), (some 16, (.build 185 #[]), none), (some 17, (.nilCheck (.tmp 15)), none), (none, (.store 185 (.tmp 17) (.tmp 16)), none)] := nr (by kernel_rfl)
theorem k36_3 : guardsOk g36_3 = true := nr (by kernel_rfl)
@[go_sem] theorem x36_3 {h : Hd} {ro nt id : Nat} {fr : PT} {H : Hp} : ex cx h ro 36 nt (.region id g36_3 false) fr H = xbind (xrun cx h ro 36 nt g36_3 [(some 15, (.move (.tmp 5)), none), (some 16, (.build 185 #[]), none), (some 17, (.nilCheck (.tmp 15)), none), (none, (.store 185 (.tmp 17) (.tmp 16)), none)] fr H) fun p => some (.normal, p.1, p.2) := x_region _ k36_3 s36_3
@[go_sem] theorem t36_3 (d : Tmp) : takes g36_3 d = false := nr (by kernel_rfl)
noncomputable def g36_4 : Array Oper := regAt Go.Proofs.Try.f36 4
theorem s36_4 : strip g36_4 = [(some 18, (.move (.tmp 6)), none), (some 4, (.assign (.tmp 18)), none)] := nr (by kernel_rfl)
theorem k36_4 : guardsOk g36_4 = true := nr (by kernel_rfl)
@[go_sem] theorem x36_4 {h : Hd} {ro nt id : Nat} {fr : PT} {H : Hp} : ex cx h ro 36 nt (.region id g36_4 false) fr H = xbind (xrun cx h ro 36 nt g36_4 [(some 18, (.move (.tmp 6)), none), (some 4, (.assign (.tmp 18)), none)] fr H) fun p => some (.normal, p.1, p.2) := x_region _ k36_4 s36_4
@[go_sem] theorem t36_4 (d : Tmp) : takes g36_4 d = false := nr (by kernel_rfl)
theorem b36 : Go.Proofs.Try.f36.body = some (.seq (.region 0 g36_0 false) (.seq (.region 1 g36_1 false) (.seq (.seq (.region 2 g36_2 false) (.cond (.tmp 14) (.region 3 g36_3 false) .skip)) (.seq (.region 4 g36_4 false) .ret)))) := by kernel_rfl
theorem c36 {h : Hd} {ro : Nat} {H : Hp} (a0 a1 : AV) : callB cx h ro 36 [a0, a1] H = returned cx [(.tmp 4)] (ex cx h ro 36 19 (.seq (.region 0 g36_0 false) (.seq (.region 1 g36_1 false) (.seq (.seq (.region 2 g36_2 false) (.cond (.tmp 14) (.region 3 g36_3 false) .skip)) (.seq (.region 4 g36_4 false) .ret)))) ((PT.nil.set 0 (drp a0)).set 1 (drp a1)) H) := by
  have hf : cx.fns 36 = some Go.Proofs.Try.f36 := by kernel_rfl
  simp only [callB, hf, funced, b36, bodied]
  rfl
/-! function 38: (*colloquy/actors.Table).Live -/
noncomputable def g38_0 : Array Oper := regAt Go.Proofs.Try.f38 0
theorem s38_0 : strip g38_0 = [(some 2, (.assign (.const (.slice none 0 0))), none)] := nr (by kernel_rfl)
theorem k38_0 : guardsOk g38_0 = true := nr (by kernel_rfl)
@[go_sem] theorem x38_0 {h : Hd} {ro nt id : Nat} {fr : PT} {H : Hp} : ex cx h ro 38 nt (.region id g38_0 false) fr H = xbind (xrun cx h ro 38 nt g38_0 [(some 2, (.assign (.const (.slice none 0 0))), none)] fr H) fun p => some (.normal, p.1, p.2) := x_region _ k38_0 s38_0
@[go_sem] theorem t38_0 (d : Tmp) : takes g38_0 d = false := nr (by kernel_rfl)
noncomputable def g38_1 : Array Oper := regAt Go.Proofs.Try.f38 1
theorem s38_1 : strip g38_1 = [(some 3, (.move (.tmp 0)), none), (some 4, (.binOp .eql 24 (.tmp 3) (.const (.pointer none)) 24), none)] := nr (by kernel_rfl)
theorem k38_1 : guardsOk g38_1 = true := nr (by kernel_rfl)
@[go_sem] theorem x38_1 {h : Hd} {ro nt id : Nat} {fr : PT} {H : Hp} : ex cx h ro 38 nt (.region id g38_1 false) fr H = xbind (xrun cx h ro 38 nt g38_1 [(some 3, (.move (.tmp 0)), none), (some 4, (.binOp .eql 24 (.tmp 3) (.const (.pointer none)) 24), none)] fr H) fun p => some (.normal, p.1, p.2) := x_region _ k38_1 s38_1
@[go_sem] theorem t38_1 (d : Tmp) : takes g38_1 d = false := nr (by kernel_rfl)
noncomputable def g38_2 : Array Oper := regAt Go.Proofs.Try.f38 2
theorem s38_2 : strip g38_2 = [(some 2, (.assign (.const (.slice none 0 0))), none)] := nr (by kernel_rfl)
theorem k38_2 : guardsOk g38_2 = true := nr (by kernel_rfl)
@[go_sem] theorem x38_2 {h : Hd} {ro nt id : Nat} {fr : PT} {H : Hp} : ex cx h ro 38 nt (.region id g38_2 false) fr H = xbind (xrun cx h ro 38 nt g38_2 [(some 2, (.assign (.const (.slice none 0 0))), none)] fr H) fun p => some (.normal, p.1, p.2) := x_region _ k38_2 s38_2
@[go_sem] theorem t38_2 (d : Tmp) : takes g38_2 d = false := nr (by kernel_rfl)
noncomputable def g38_3 : Array Oper := regAt Go.Proofs.Try.f38 3
theorem s38_3 : strip g38_3 = [(some 5, (.move (.tmp 0)), none), (some 6, (.call ⟨(.value (.func 108)), #[(.tmp 5), (.const (.bool true))], #[24, 4]⟩), none), (some 7, (.call ⟨(.value (.func 110)), #[(.tmp 6)], #[182]⟩), none), (some 2, (.assign (.tmp 7)), none)] := nr (by kernel_rfl)
theorem k38_3 : guardsOk g38_3 = true := nr (by kernel_rfl)
@[go_sem] theorem x38_3 {h : Hd} {ro nt id : Nat} {fr : PT} {H : Hp} : ex cx h ro 38 nt (.region id g38_3 false) fr H = xbind (xrun cx h ro 38 nt g38_3 [(some 5, (.move (.tmp 0)), none), (some 6, (.call ⟨(.value (.func 108)), #[(.tmp 5), (.const (.bool true))], #[24, 4]⟩), none), (some 7, (.call ⟨(.value (.func 110)), #[(.tmp 6)], #[182]⟩), none), (some 2, (.assign (.tmp 7)), none)] fr H) fun p => some (.normal, p.1, p.2) := x_region _ k38_3 s38_3
@[go_sem] theorem t38_3 (d : Tmp) : takes g38_3 d = false := nr (by kernel_rfl)
theorem b38 : Go.Proofs.Try.f38.body = some (.seq (.region 0 g38_0 false) (.seq (.seq (.region 1 g38_1 false) (.cond (.tmp 4) (.seq (.region 2 g38_2 false) .ret) .skip)) (.seq (.region 3 g38_3 false) .ret))) := by kernel_rfl
theorem c38 {h : Hd} {ro : Nat} {H : Hp} (a0 : AV) : callB cx h ro 38 [a0] H = returned cx [(.tmp 2)] (ex cx h ro 38 8 (.seq (.region 0 g38_0 false) (.seq (.seq (.region 1 g38_1 false) (.cond (.tmp 4) (.seq (.region 2 g38_2 false) .ret) .skip)) (.seq (.region 3 g38_3 false) .ret))) (PT.nil.set 0 (drp a0)) H) := by
  have hf : cx.fns 38 = some Go.Proofs.Try.f38 := by kernel_rfl
  simp only [callB, hf, funced, b38, bodied]
  rfl
/-! function 108: (*colloquy/actors.Table).all -/
noncomputable def g108_0 : Array Oper := regAt Go.Proofs.Try.f108 0
theorem s108_0 : strip g108_0 = [(some 2, (.box 24 (.tmp 0)), none), (some 3, (.box 4 (.tmp 1)), none), (some 4, (.assign (.const .nilFunc)), none)] := nr (by kernel_rfl)
theorem k108_0 : guardsOk g108_0 = true := nr (by kernel_rfl)
@[go_sem] theorem x108_0 {h : Hd} {ro nt id : Nat} {fr : PT} {H : Hp} : ex cx h ro 108 nt (.region id g108_0 false) fr H = xbind (xrun cx h ro 108 nt g108_0 [(some 2, (.box 24 (.tmp 0)), none), (some 3, (.box 4 (.tmp 1)), none), (some 4, (.assign (.const .nilFunc)), none)] fr H) fun p => some (.normal, p.1, p.2) := x_region _ k108_0 s108_0
@[go_sem] theorem t108_0 (d : Tmp) : takes g108_0 d = false := nr (by kernel_rfl)
noncomputable def g108_1 : Array Oper := regAt Go.Proofs.Try.f108 1
theorem s108_1 : strip g108_1 = [(some 5, (.makeFunc (.func 150) #[] #[(.tmp 2), (.tmp 3)]), none), (some 4, (.assign (.tmp 5)), none)] := nr (by kernel_rfl)
theorem k108_1 : guardsOk g108_1 = true := nr (by kernel_rfl)
@[go_sem] theorem x108_1 {h : Hd} {ro nt id : Nat} {fr : PT} {H : Hp} : ex cx h ro 108 nt (.region id g108_1 false) fr H = xbind (xrun cx h ro 108 nt g108_1 [(some 5, (.makeFunc (.func 150) #[] #[(.tmp 2), (.tmp 3)]), none), (some 4, (.assign (.tmp 5)), none)] fr H) fun p => some (.normal, p.1, p.2) := x_region _ k108_1 s108_1
@[go_sem] theorem t108_1 (d : Tmp) : takes g108_1 d = false := nr (by kernel_rfl)
theorem b108 : Go.Proofs.Try.f108.body = some (.seq (.region 0 g108_0 false) (.seq (.region 1 g108_1 false) .ret)) := by kernel_rfl
theorem c108 {h : Hd} {ro : Nat} {H : Hp} (a0 a1 : AV) : callB cx h ro 108 [a0, a1] H = returned cx [(.tmp 4)] (ex cx h ro 108 6 (.seq (.region 0 g108_0 false) (.seq (.region 1 g108_1 false) .ret)) ((PT.nil.set 0 (drp a0)).set 1 (drp a1)) H) := by
  have hf : cx.fns 108 = some Go.Proofs.Try.f108 := by kernel_rfl
  simp only [callB, hf, funced, b108, bodied]
  rfl
/-! function 109: (*colloquy/actors.Table).at -/
noncomputable def g109_0 : Array Oper := regAt Go.Proofs.Try.f109 0
theorem s109_0 : strip g109_0 = [(some 4, (.assign (.const (.pointer none))), none), (some 5, (.assign (.const (.int .i64 0))), none)] := nr (by kernel_rfl)
theorem k109_0 : guardsOk g109_0 = true := nr (by kernel_rfl)
@[go_sem] theorem x109_0 {h : Hd} {ro nt id : Nat} {fr : PT} {H : Hp} : ex cx h ro 109 nt (.region id g109_0 false) fr H = xbind (xrun cx h ro 109 nt g109_0 [(some 4, (.assign (.const (.pointer none))), none), (some 5, (.assign (.const (.int .i64 0))), none)] fr H) fun p => some (.normal, p.1, p.2) := x_region _ k109_0 s109_0
@[go_sem] theorem t109_0 (d : Tmp) : takes g109_0 d = false := nr (by kernel_rfl)
noncomputable def g109_1 : Array Oper := regAt Go.Proofs.Try.f109 1
theorem s109_1 : strip g109_1 = [(some 7, (.move (.tmp 0)), none), (some 8, (.binOp .eql 24 (.tmp 7) (.const (.pointer none)) 24), none), (some 6, (.assign (.tmp 8)), none)] := nr (by kernel_rfl)
theorem k109_1 : guardsOk g109_1 = true := nr (by kernel_rfl)
@[go_sem] theorem x109_1 {h : Hd} {ro nt id : Nat} {fr : PT} {H : Hp} : ex cx h ro 109 nt (.region id g109_1 false) fr H = xbind (xrun cx h ro 109 nt g109_1 [(some 7, (.move (.tmp 0)), none), (some 8, (.binOp .eql 24 (.tmp 7) (.const (.pointer none)) 24), none), (some 6, (.assign (.tmp 8)), none)] fr H) fun p => some (.normal, p.1, p.2) := x_region _ k109_1 s109_1
@[go_sem] theorem t109_1 (d : Tmp) : takes g109_1 d = false := nr (by kernel_rfl)
noncomputable def g109_2 : Array Oper := regAt Go.Proofs.Try.f109 2
theorem s109_2 : strip g109_2 = [(some 4, (.assign (.const (.pointer none))), none), (some 5, (.assign (.const (.int .i64 1))), none)] := nr (by kernel_rfl)
theorem k109_2 : guardsOk g109_2 = true := nr (by kernel_rfl)
@[go_sem] theorem x109_2 {h : Hd} {ro nt id : Nat} {fr : PT} {H : Hp} : ex cx h ro 109 nt (.region id g109_2 false) fr H = xbind (xrun cx h ro 109 nt g109_2 [(some 4, (.assign (.const (.pointer none))), none), (some 5, (.assign (.const (.int .i64 1))), none)] fr H) fun p => some (.normal, p.1, p.2) := x_region _ k109_2 s109_2
@[go_sem] theorem t109_2 (d : Tmp) : takes g109_2 d = false := nr (by kernel_rfl)
noncomputable def g109_3 : Array Oper := regAt Go.Proofs.Try.f109 3
theorem s109_3 : strip g109_3 = [(some 10, (.move (.tmp 1)), none), (some 11, (.binOp .lss 3 (.tmp 10) (.const (.int .i64 0)) 3), none), (some 12, (.move (.tmp 11)), none), (some 13, (.move (.tmp 1)), some (12, false)), (some 14, (.move (.tmp 0)), some (12, false)), (some 15, (.nilCheck (.tmp 14)), some (12, false)), (some 16, (.fieldAddr 180 (.tmp 15) 0), some (12, false)), (some 17, (.load 178 (.tmp 16)), some (12, false)), (some 18, (.call ⟨(.builtin .len), #[(.tmp 17)], #[178]⟩), some (12, false)), (some 19, (.binOp .geq 3 (.tmp 13) (.tmp 18) 3), some (12, false)), (some 20, (.pick (.tmp 12) (.const (.bool true)) (.tmp 19)), none), (some 21, (.move (.tmp 20)), none), (some 22, (.move (.tmp 0)), some (21, false)), (some 23, (.nilCheck (.tmp 22)), some (21, false)), (some 24, (.fieldAddr 180 (.tmp 23) 0), some (21, false)), (some 25, (.load 178 (.tmp 24)), some (21, false)), (some 26, (.move (.tmp 1)), some (21, false)), (some 27, (.indexAddr 178 (.tmp 25) (.tmp 26)), some (21, false)), (some 28, (.fieldAddr 185 (.tmp 27) 1), some (21, false)), (some 29, (.load 4 (.tmp 28)), some (21, false)), (some 30, (.unOp .not 4 (.tmp 29)), some (21, false)), (some 31, (.pick (.tmp 21) (.const (.bool true)) (.tmp 30)), none), (some 9, (.assign (.tmp 31)), none)] := nr (by kernel_rfl)
theorem k109_3 : guardsOk g109_3 = true := nr (by kernel_rfl)
@[go_sem] theorem x109_3 {h : Hd} {ro nt id : Nat} {fr : PT} {H : Hp} : ex cx h ro 109 nt (.region id g109_3 false) fr H = xbind (xrun cx h ro 109 nt g109_3 [(some 10, (.move (.tmp 1)), none), (some 11, (.binOp .lss 3 (.tmp 10) (.const (.int .i64 0)) 3), none), (some 12, (.move (.tmp 11)), none), (some 13, (.move (.tmp 1)), some (12, false)), (some 14, (.move (.tmp 0)), some (12, false)), (some 15, (.nilCheck (.tmp 14)), some (12, false)), (some 16, (.fieldAddr 180 (.tmp 15) 0), some (12, false)), (some 17, (.load 178 (.tmp 16)), some (12, false)), (some 18, (.call ⟨(.builtin .len), #[(.tmp 17)], #[178]⟩), some (12, false)), (some 19, (.binOp .geq 3 (.tmp 13) (.tmp 18) 3), some (12, false)), (some 20, (.pick (.tmp 12) (.const (.bool true)) (.tmp 19)), none), (some 21, (.move (.tmp 20)), none), (some 22, (.move (.tmp 0)), some (21, false)), (some 23, (.nilCheck (.tmp 22)), some (21, false)), (some 24, (.fieldAddr 180 (.tmp 23) 0), some (21, false)), (some 25, (.load 178 (.tmp 24)), some (21, false)), (some 26, (.move (.tmp 1)), some (21, false)), (some 27, (.indexAddr 178 (.tmp 25) (.tmp 26)), some (21, false)), (some 28, (.fieldAddr 185 (.tmp 27) 1), some (21, false)), (some 29, (.load 4 (.tmp 28)), some (21, false)), (some 30, (.unOp .not 4 (.tmp 29)), some (21, false)), (some 31, (.pick (.tmp 21) (.const (.bool true)) (.tmp 30)), none), (some 9, (.assign (.tmp 31)), none)] fr H) fun p => some (.normal, p.1, p.2) := x_region _ k109_3 s109_3
@[go_sem] theorem t109_3 (d : Tmp) : takes g109_3 d = false := nr (by kernel_rfl)
noncomputable def g109_4 : Array Oper := regAt Go.Proofs.Try.f109 4
theorem s109_4 : strip g109_4 = [(some 4, (.assign (.const (.pointer none))), none), (some 5, (.assign (.const (.int .i64 24))), none)] := nr (by kernel_rfl)
theorem k109_4 : guardsOk g109_4 = true := nr (by kernel_rfl)
@[go_sem] theorem x109_4 {h : Hd} {ro nt id : Nat} {fr : PT} {H : Hp} : ex cx h ro 109 nt (.region id g109_4 false) fr H = xbind (xrun cx h ro 109 nt g109_4 [(some 4, (.assign (.const (.pointer none))), none), (some 5, (.assign (.const (.int .i64 24))), none)] fr H) fun p => some (.normal, p.1, p.2) := x_region _ k109_4 s109_4
@[go_sem] theorem t109_4 (d : Tmp) : takes g109_4 d = false := nr (by kernel_rfl)
noncomputable def g109_5 : Array Oper := regAt Go.Proofs.Try.f109 5
theorem s109_5 : strip g109_5 = [(some 32, (.move (.tmp 0)), none), (some 33, (.nilCheck (.tmp 32)), none), (some 34, (.fieldAddr 180 (.tmp 33) 0), none), (some 35, (.load 178 (.tmp 34)), none), (some 36, (.move (.tmp 1)), none), (some 37, (.indexAddr 178 (.tmp 35) (.tmp 36)), none), (some 4, (.assign (.tmp 37)), none), (some 5, (.assign (.const (.int .i64 0))), none)] := nr (by kernel_rfl)
theorem k109_5 : guardsOk g109_5 = true := nr (by kernel_rfl)
@[go_sem] theorem x109_5 {h : Hd} {ro nt id : Nat} {fr : PT} {H : Hp} : ex cx h ro 109 nt (.region id g109_5 false) fr H = xbind (xrun cx h ro 109 nt g109_5 [(some 32, (.move (.tmp 0)), none), (some 33, (.nilCheck (.tmp 32)), none), (some 34, (.fieldAddr 180 (.tmp 33) 0), none), (some 35, (.load 178 (.tmp 34)), none), (some 36, (.move (.tmp 1)), none), (some 37, (.indexAddr 178 (.tmp 35) (.tmp 36)), none), (some 4, (.assign (.tmp 37)), none), (some 5, (.assign (.const (.int .i64 0))), none)] fr H) fun p => some (.normal, p.1, p.2) := x_region _ k109_5 s109_5
@[go_sem] theorem t109_5 (d : Tmp) : takes g109_5 d = false := nr (by kernel_rfl)
theorem b109 : Go.Proofs.Try.f109.body = some (.seq (.region 0 g109_0 false) (.seq (.block 0 (.seq (.region 1 g109_1 false) (.cond (.tmp 6) (.seq (.region 2 g109_2 false) .ret) (.seq (.region 3 g109_3 false) (.cond (.tmp 9) (.seq (.region 4 g109_4 false) .ret) .skip))))) (.seq (.region 5 g109_5 false) .ret))) := by kernel_rfl
theorem c109 {h : Hd} {ro : Nat} {H : Hp} (a0 a1 : AV) : callB cx h ro 109 [a0, a1] H = returned cx [(.tmp 4), (.tmp 5)] (ex cx h ro 109 38 (.seq (.region 0 g109_0 false) (.seq (.block 0 (.seq (.region 1 g109_1 false) (.cond (.tmp 6) (.seq (.region 2 g109_2 false) .ret) (.seq (.region 3 g109_3 false) (.cond (.tmp 9) (.seq (.region 4 g109_4 false) .ret) .skip))))) (.seq (.region 5 g109_5 false) .ret))) ((PT.nil.set 0 (drp a0)).set 1 (drp a1)) H) := by
  have hf : cx.fns 109 = some Go.Proofs.Try.f109 := by kernel_rfl
  simp only [callB, hf, funced, b109, bodied]
  rfl
/-! function 110: slices.Collect[int] -/
noncomputable def g110_0 : Array Oper := regAt Go.Proofs.Try.f110 0
theorem s110_0 : strip g110_0 = [(some 2, (.assign (.const (.slice none 0 0))), none)] := nr (by kernel_rfl)
theorem k110_0 : guardsOk g110_0 = true := nr (by kernel_rfl)
@[go_sem] theorem x110_0 {h : Hd} {ro nt id : Nat} {fr : PT} {H : Hp} : ex cx h ro 110 nt (.region id g110_0 false) fr H = xbind (xrun cx h ro 110 nt g110_0 [(some 2, (.assign (.const (.slice none 0 0))), none)] fr H) fun p => some (.normal, p.1, p.2) := x_region _ k110_0 s110_0
@[go_sem] theorem t110_0 (d : Tmp) : takes g110_0 d = false := nr (by kernel_rfl)
noncomputable def g110_1 : Array Oper := regAt Go.Proofs.Try.f110 1
theorem s110_1 : strip g110_1 = [(some 3, (.move (.tmp 0)), none), (some 4, (.call ⟨(.value (.func 151)), #[(.const (.slice none 0 0)), (.tmp 3)], #[31, 182]⟩), none), (some 2, (.assign (.tmp 4)), none)] := nr (by kernel_rfl)
theorem k110_1 : guardsOk g110_1 = true := nr (by kernel_rfl)
@[go_sem] theorem x110_1 {h : Hd} {ro nt id : Nat} {fr : PT} {H : Hp} : ex cx h ro 110 nt (.region id g110_1 false) fr H = xbind (xrun cx h ro 110 nt g110_1 [(some 3, (.move (.tmp 0)), none), (some 4, (.call ⟨(.value (.func 151)), #[(.const (.slice none 0 0)), (.tmp 3)], #[31, 182]⟩), none), (some 2, (.assign (.tmp 4)), none)] fr H) fun p => some (.normal, p.1, p.2) := x_region _ k110_1 s110_1
@[go_sem] theorem t110_1 (d : Tmp) : takes g110_1 d = false := nr (by kernel_rfl)
theorem b110 : Go.Proofs.Try.f110.body = some (.seq (.region 0 g110_0 false) (.seq (.region 1 g110_1 false) .ret)) := by kernel_rfl
theorem c110 {h : Hd} {ro : Nat} {H : Hp} (a0 : AV) : callB cx h ro 110 [a0] H = returned cx [(.tmp 2)] (ex cx h ro 110 5 (.seq (.region 0 g110_0 false) (.seq (.region 1 g110_1 false) .ret)) (PT.nil.set 0 (drp a0)) H) := by
  have hf : cx.fns 110 = some Go.Proofs.Try.f110 := by kernel_rfl
  simp only [callB, hf, funced, b110, bodied]
  rfl
/-! function 150: (*colloquy/actors.Table).all$1 -/
noncomputable def g150_0 : Array Oper := regAt Go.Proofs.Try.f150 0
theorem s150_0 : strip g150_0 = [(some 5, (.load 24 (.tmp 1)), none), (some 6, (.nilCheck (.tmp 5)), none), (some 7, (.fieldAddr 180 (.tmp 6) 0), none), (some 8, (.load 178 (.tmp 7)), none), (some 9, (.call ⟨(.builtin .len), #[(.tmp 8)], #[178]⟩), none), (some 10, (.move (.const (.int .i64 0))), none)] := nr (by kernel_rfl)
theorem k150_0 : guardsOk g150_0 = true := nr (by kernel_rfl)
@[go_sem] theorem x150_0 {h : Hd} {ro nt id : Nat} {fr : PT} {H : Hp} : ex cx h ro 150 nt (.region id g150_0 false) fr H = xbind (xrun cx h ro 150 nt g150_0 [(some 5, (.load 24 (.tmp 1)), none), (some 6, (.nilCheck (.tmp 5)), none), (some 7, (.fieldAddr 180 (.tmp 6) 0), none), (some 8, (.load 178 (.tmp 7)), none), (some 9, (.call ⟨(.builtin .len), #[(.tmp 8)], #[178]⟩), none), (some 10, (.move (.const (.int .i64 0))), none)] fr H) fun p => some (.normal, p.1, p.2) := x_region _ k150_0 s150_0
@[go_sem] theorem t150_0 (d : Tmp) : takes g150_0 d = false := nr (by kernel_rfl)
noncomputable def g150_1 : Array Oper := regAt Go.Proofs.Try.f150 1
theorem s150_1 : strip g150_1 = [(some 11, (.binOp .lss 3 (.tmp 10) (.tmp 9) 3), none)] := nr (by kernel_rfl)
theorem k150_1 : guardsOk g150_1 = true := nr (by kernel_rfl)
@[go_sem] theorem x150_1 {h : Hd} {ro nt id : Nat} {fr : PT} {H : Hp} : ex cx h ro 150 nt (.region id g150_1 false) fr H = xbind (xrun cx h ro 150 nt g150_1 [(some 11, (.binOp .lss 3 (.tmp 10) (.tmp 9) 3), none)] fr H) fun p => some (.normal, p.1, p.2) := x_region _ k150_1 s150_1
@[go_sem] theorem t150_1 (d : Tmp) : takes g150_1 d = false := nr (by kernel_rfl)
noncomputable def g150_2 : Array Oper := regAt Go.Proofs.Try.f150 2
theorem s150_2 : strip g150_2 = [(some 12, (.move (.tmp 10)), none), (some 4, (.assign (.tmp 12)), none)] := nr (by kernel_rfl)
theorem k150_2 : guardsOk g150_2 = true := nr (by kernel_rfl)
@[go_sem] theorem x150_2 {h : Hd} {ro nt id : Nat} {fr : PT} {H : Hp} : ex cx h ro 150 nt (.region id g150_2 false) fr H = xbind (xrun cx h ro 150 nt g150_2 [(some 12, (.move (.tmp 10)), none), (some 4, (.assign (.tmp 12)), none)] fr H) fun p => some (.normal, p.1, p.2) := x_region _ k150_2 s150_2
@[go_sem] theorem t150_2 (d : Tmp) : takes g150_2 d = false := nr (by kernel_rfl)
noncomputable def g150_3 : Array Oper := regAt Go.Proofs.Try.f150 3
theorem s150_3 : strip g150_3 = [(some 13, (.load 24 (.tmp 1)), none), (some 14, (.nilCheck (.tmp 13)), none), (some 15, (.fieldAddr 180 (.tmp 14) 0), none), (some 16, (.load 178 (.tmp 15)), none), (some 17, (.move (.tmp 4)), none), (some 18, (.indexAddr 178 (.tmp 16) (.tmp 17)), none), (some 19, (.fieldAddr 185 (.tmp 18) 1), none), (some 20, (.load 4 (.tmp 19)), none), (some 21, (.load 4 (.tmp 2)), none), (some 22, (.binOp .eql 4 (.tmp 20) (.tmp 21) 4), none), (some 23, (.move (.tmp 22)), none), (some 24, (.move (.tmp 0)), some (23, true)), (some 25, (.move (.tmp 4)), some (23, true)), (some 26, (.call ⟨(.value (.tmp 24)), #[(.tmp 25)], #[3]⟩), some (23, true)), (some 27, (.unOp .not 4 (.tmp 26)), some (23, true)), (some 28, (.pick (.tmp 23) (.tmp 27) (.const (.bool false))), none)] := nr (by kernel_rfl)
theorem k150_3 : guardsOk g150_3 = true := nr (by kernel_rfl)
theorem u150_3 : stripU cx 150 g150_3 = [(0, 0, [], (some 13, (.load 24 (.tmp 1)), none)), (1, 0, [], (some 14, (.nilCheck (.tmp 13)), none)), (2, 0, [], (some 15, (.fieldAddr 180 (.tmp 14) 0), none)), (3, 0, [], (some 16, (.load 178 (.tmp 15)), none)), (4, 0, [0, 1, 2, 3], (some 17, (.move (.tmp 4)), none)), (5, 0, [], (some 18, (.indexAddr 178 (.tmp 16) (.tmp 17)), none)), (6, 0, [], (some 19, (.fieldAddr 185 (.tmp 18) 1), none)), (7, 0, [], (some 20, (.load 4 (.tmp 19)), none)), (8, 0, [0, 1, 2, 3, 4, 5, 6, 7], (some 21, (.load 4 (.tmp 2)), none)), (9, 0, [], (some 22, (.binOp .eql 4 (.tmp 20) (.tmp 21) 4), none)), (10, 0, [], (some 23, (.move (.tmp 22)), none)), (11, 0, [], (some 24, (.move (.tmp 0)), some (23, true))), (12, 0, [11], (some 25, (.move (.tmp 4)), some (23, true))), (13, 0, [], (some 26, (.call ⟨(.value (.tmp 24)), #[(.tmp 25)], #[3]⟩), some (23, true))), (14, 0, [], (some 27, (.unOp .not 4 (.tmp 26)), some (23, true))), (15, 0, [], (some 28, (.pick (.tmp 23) (.tmp 27) (.const (.bool false))), none))] := nr (by kernel_rfl)
@[go_sem] theorem x150_3 {h : Hd} {ro nt id : Nat} {fr : PT} {H : Hp} : ex cx h ro 150 nt (.region id g150_3 true) fr H = orRaw (xrunU cx h ro 150 nt g150_3 H.length [(0, 0, [], (some 13, (.load 24 (.tmp 1)), none)), (1, 0, [], (some 14, (.nilCheck (.tmp 13)), none)), (2, 0, [], (some 15, (.fieldAddr 180 (.tmp 14) 0), none)), (3, 0, [], (some 16, (.load 178 (.tmp 15)), none)), (4, 0, [0, 1, 2, 3], (some 17, (.move (.tmp 4)), none)), (5, 0, [], (some 18, (.indexAddr 178 (.tmp 16) (.tmp 17)), none)), (6, 0, [], (some 19, (.fieldAddr 185 (.tmp 18) 1), none)), (7, 0, [], (some 20, (.load 4 (.tmp 19)), none)), (8, 0, [0, 1, 2, 3, 4, 5, 6, 7], (some 21, (.load 4 (.tmp 2)), none)), (9, 0, [], (some 22, (.binOp .eql 4 (.tmp 20) (.tmp 21) 4), none)), (10, 0, [], (some 23, (.move (.tmp 22)), none)), (11, 0, [], (some 24, (.move (.tmp 0)), some (23, true))), (12, 0, [11], (some 25, (.move (.tmp 4)), some (23, true))), (13, 0, [], (some 26, (.call ⟨(.value (.tmp 24)), #[(.tmp 25)], #[3]⟩), some (23, true))), (14, 0, [], (some 27, (.unOp .not 4 (.tmp 26)), some (23, true))), (15, 0, [], (some 28, (.pick (.tmp 23) (.tmp 27) (.const (.bool false))), none))] fr (H ++ List.replicate 0 .res) []) fun _ => regionRaw cx h ro 150 nt g150_3 fr H := x_regionU _ _ k150_3 (nr (by kernel_rfl)) (nr (by kernel_rfl)) u150_3 (nr (by kernel_rfl))
@[go_sem] theorem t150_3 (d : Tmp) : takes g150_3 d = false := nr (by kernel_rfl)
noncomputable def g150_4 : Array Oper := regAt Go.Proofs.Try.f150 4
theorem s150_4 : strip g150_4 = [(some 29, (.binOp .add 3 (.tmp 10) (.const (.int .i64 1)) 3), none), (some 10, (.move (.tmp 29)), none)] := nr (by kernel_rfl)
theorem k150_4 : guardsOk g150_4 = true := nr (by kernel_rfl)
@[go_sem] theorem x150_4 {h : Hd} {ro nt id : Nat} {fr : PT} {H : Hp} : ex cx h ro 150 nt (.region id g150_4 false) fr H = xbind (xrun cx h ro 150 nt g150_4 [(some 29, (.binOp .add 3 (.tmp 10) (.const (.int .i64 1)) 3), none), (some 10, (.move (.tmp 29)), none)] fr H) fun p => some (.normal, p.1, p.2) := x_region _ k150_4 s150_4
@[go_sem] theorem t150_4 (d : Tmp) : takes g150_4 d = false := nr (by kernel_rfl)
noncomputable def l150_0 : Code := (.seq (.region 1 g150_1 false) (.seq (.cond (.tmp 11) .skip (.exit 0)) (.seq (.block 1 (.seq (.region 2 g150_2 false) (.seq (.region 3 g150_3 true) (.cond (.tmp 28) .ret .skip)))) (.region 4 g150_4 false))))
theorem dl150_0 {ro nt : Nat} {fr : PT} {H : Hp} : (den cx).loop ro 150 nt l150_0 fr H = xbind (ex cx (den cx) ro 150 nt (.seq (.region 1 g150_1 false) (.seq (.cond (.tmp 11) .skip (.exit 0)) (.seq (.block 1 (.seq (.region 2 g150_2 false) (.seq (.region 3 g150_3 true) (.cond (.tmp 28) .ret .skip)))) (.region 4 g150_4 false)))) fr H) (contR (trimmed ((den cx).loop ro 150 nt l150_0) H.length)) := den_loop_x l150_0
theorem b150 : Go.Proofs.Try.f150.body = some (.seq (.region 0 g150_0 false) (.block 0 (.loop l150_0))) := by kernel_rfl
theorem c150 {h : Hd} {ro : Nat} {H : Hp} (a0 a1 a2 : AV) : callB cx h ro 150 [a0, a1, a2] H = returned cx [] (ex cx h ro 150 30 (.seq (.region 0 g150_0 false) (.block 0 (.loop l150_0))) (((PT.nil.set 0 (drp a0)).set 1 (drp a1)).set 2 (drp a2)) H) := by
  have hf : cx.fns 150 = some Go.Proofs.Try.f150 := by kernel_rfl
  simp only [callB, hf, funced, b150, bodied]
  rfl
/-! function 151: slices.AppendSeq[[]int,int] -/
noncomputable def g151_0 : Array Oper := regAt Go.Proofs.Try.f151 0
theorem s151_0 : strip g151_0 = [(some 2, (.box 31 (.tmp 0)), none), (some 4, (.assign (.const (.slice none 0 0))), none)] := nr (by kernel_rfl)
theorem k151_0 : guardsOk g151_0 = true := nr (by kernel_rfl)
@[go_sem] theorem x151_0 {h : Hd} {ro nt id : Nat} {fr : PT} {H : Hp} : ex cx h ro 151 nt (.region id g151_0 false) fr H = xbind (xrun cx h ro 151 nt g151_0 [(some 2, (.box 31 (.tmp 0)), none), (some 4, (.assign (.const (.slice none 0 0))), none)] fr H) fun p => some (.normal, p.1, p.2) := x_region _ k151_0 s151_0
@[go_sem] theorem t151_0 (d : Tmp) : takes g151_0 d = false := nr (by kernel_rfl)
noncomputable def g151_1 : Array Oper := regAt Go.Proofs.Try.f151 1
theorem s151_1 : strip g151_1 = [(some 6, (.move (.tmp 1)), none)] := nr (by kernel_rfl)
theorem k151_1 : guardsOk g151_1 = true := nr (by kernel_rfl)
@[go_sem] theorem x151_1 {h : Hd} {ro nt id : Nat} {fr : PT} {H : Hp} : ex cx h ro 151 nt (.region id g151_1 false) fr H = xbind (xrun cx h ro 151 nt g151_1 [(some 6, (.move (.tmp 1)), none)] fr H) fun p => some (.normal, p.1, p.2) := x_region _ k151_1 s151_1
@[go_sem] theorem t151_1 (d : Tmp) : takes g151_1 d = false := nr (by kernel_rfl)
noncomputable def g151_2 : Array Oper := regAt Go.Proofs.Try.f151 2
theorem s151_2 : strip g151_2 = [(some 5, (.assign (.tmp 7)), none)] := nr (by kernel_rfl)
theorem k151_2 : guardsOk g151_2 = true := nr (by kernel_rfl)
@[go_sem] theorem x151_2 {h : Hd} {ro nt id : Nat} {fr : PT} {H : Hp} : ex cx h ro 151 nt (.region id g151_2 false) fr H = xbind (xrun cx h ro 151 nt g151_2 [(some 5, (.assign (.tmp 7)), none)] fr H) fun p => some (.normal, p.1, p.2) := x_region _ k151_2 s151_2
@[go_sem] theorem t151_2 (d : Tmp) : takes g151_2 d = false := nr (by kernel_rfl)
noncomputable def g151_3 : Array Oper := regAt Go.Proofs.Try.f151 3
theorem s151_3 : strip g151_3 = [(some 8, (.load 31 (.tmp 2)), none), (some 9, (.move (.tmp 5)), none), (some 10, (.buildSlice 31 1 #[(0, (.tmp 9))]), none), (some 11, (.call ⟨(.builtin .append), #[(.tmp 8), (.tmp 10)], #[31, 31]⟩), none), (none, (.store 31 (.tmp 2) (.tmp 11)), none)] := nr (by kernel_rfl)
theorem k151_3 : guardsOk g151_3 = true := nr (by kernel_rfl)
@[go_sem] theorem x151_3 {h : Hd} {ro nt id : Nat} {fr : PT} {H : Hp} : ex cx h ro 151 nt (.region id g151_3 false) fr H = xbind (xrun cx h ro 151 nt g151_3 [(some 8, (.load 31 (.tmp 2)), none), (some 9, (.move (.tmp 5)), none), (some 10, (.buildSlice 31 1 #[(0, (.tmp 9))]), none), (some 11, (.call ⟨(.builtin .append), #[(.tmp 8), (.tmp 10)], #[31, 31]⟩), none), (none, (.store 31 (.tmp 2) (.tmp 11)), none)] fr H) fun p => some (.normal, p.1, p.2) := x_region _ k151_3 s151_3
@[go_sem] theorem t151_3_8 : takes g151_3 8 = true := nr (by kernel_rfl)
@[go_sem] theorem t151_3_9 : takes g151_3 9 = false := nr (by kernel_rfl)
@[go_sem] theorem t151_3_10 : takes g151_3 10 = false := nr (by kernel_rfl)
@[go_sem] theorem t151_3_11 : takes g151_3 11 = false := nr (by kernel_rfl)
noncomputable def g151_4 : Array Oper := regAt Go.Proofs.Try.f151 4
theorem s151_4 : strip g151_4 = [(some 12, (.load 31 (.tmp 2)), none), (some 4, (.assign (.tmp 12)), none)] := nr (by kernel_rfl)
theorem k151_4 : guardsOk g151_4 = true := nr (by kernel_rfl)
@[go_sem] theorem x151_4 {h : Hd} {ro nt id : Nat} {fr : PT} {H : Hp} : ex cx h ro 151 nt (.region id g151_4 false) fr H = xbind (xrun cx h ro 151 nt g151_4 [(some 12, (.load 31 (.tmp 2)), none), (some 4, (.assign (.tmp 12)), none)] fr H) fun p => some (.normal, p.1, p.2) := x_region _ k151_4 s151_4
@[go_sem] theorem t151_4 (d : Tmp) : takes g151_4 d = false := nr (by kernel_rfl)
noncomputable def q151_0 : Code := (.region 2 g151_2 false)
noncomputable def r151_0 : Code := (.block 1 (.region 3 g151_3 false))
theorem b151 : Go.Proofs.Try.f151.body = some (.seq (.region 0 g151_0 false) (.seq (.seq (.region 1 g151_1 false) (.block 0 (.rangeFunc (.tmp 6) #[7] q151_0 r151_0))) (.seq (.region 4 g151_4 false) .ret))) := by kernel_rfl
theorem c151 {h : Hd} {ro : Nat} {H : Hp} (a0 a1 : AV) : callB cx h ro 151 [a0, a1] H = returned cx [(.tmp 4)] (ex cx h ro 151 13 (.seq (.region 0 g151_0 false) (.seq (.seq (.region 1 g151_1 false) (.block 0 (.rangeFunc (.tmp 6) #[7] q151_0 r151_0))) (.seq (.region 4 g151_4 false) .ret))) ((PT.nil.set 0 (drp a0)).set 1 (drp a1)) H) := by
  have hf : cx.fns 151 = some Go.Proofs.Try.f151 := by kernel_rfl
  simp only [callB, hf, funced, b151, bodied]
  rfl
/-! function 33: colloquy/colloquylaw22.works -/
noncomputable def g33_0 : Array Oper := regAt Go.Proofs.Try.f33 0
theorem s33_0 : strip g33_0 = [(some 0, (.assign (.const (.bool false))), none)] := nr (by kernel_rfl)
theorem k33_0 : guardsOk g33_0 = true := nr (by kernel_rfl)
@[go_sem] theorem x33_0 {h : Hd} {ro nt id : Nat} {fr : PT} {H : Hp} : ex cx h ro 33 nt (.region id g33_0 false) fr H = xbind (xrun cx h ro 33 nt g33_0 [(some 0, (.assign (.const (.bool false))), none)] fr H) fun p => some (.normal, p.1, p.2) := x_region _ k33_0 s33_0
@[go_sem] theorem t33_0 (d : Tmp) : takes g33_0 d = false := nr (by kernel_rfl)
noncomputable def g33_1 : Array Oper := regAt Go.Proofs.Try.f33 1
theorem s33_1 : strip g33_1 = [(some 17, (.call ⟨(.value (.func 34)), #[(.const (.int .i64 2))], #[3]⟩), none), (some 1, (.assign (.tmp 17)), none)] := nr (by kernel_rfl)
theorem k33_1 : guardsOk g33_1 = true := nr (by kernel_rfl)
@[go_sem] theorem x33_1 {h : Hd} {ro nt id : Nat} {fr : PT} {H : Hp} : ex cx h ro 33 nt (.region id g33_1 false) fr H = xbind (xrun cx h ro 33 nt g33_1 [(some 17, (.call ⟨(.value (.func 34)), #[(.const (.int .i64 2))], #[3]⟩), none), (some 1, (.assign (.tmp 17)), none)] fr H) fun p => some (.normal, p.1, p.2) := x_region _ k33_1 s33_1
@[go_sem] theorem t33_1 (d : Tmp) : takes g33_1 d = false := nr (by kernel_rfl)
noncomputable def g33_2 : Array Oper := regAt Go.Proofs.Try.f33 2
theorem s33_2 : strip g33_2 = [(some 18, (.move (.tmp 1)), none), (some 19, (.binOp .eql 24 (.tmp 18) (.const (.pointer none)) 24), none)] := nr (by kernel_rfl)
theorem k33_2 : guardsOk g33_2 = true := nr (by kernel_rfl)
@[go_sem] theorem x33_2 {h : Hd} {ro nt id : Nat} {fr : PT} {H : Hp} : ex cx h ro 33 nt (.region id g33_2 false) fr H = xbind (xrun cx h ro 33 nt g33_2 [(some 18, (.move (.tmp 1)), none), (some 19, (.binOp .eql 24 (.tmp 18) (.const (.pointer none)) 24), none)] fr H) fun p => some (.normal, p.1, p.2) := x_region _ k33_2 s33_2
@[go_sem] theorem t33_2 (d : Tmp) : takes g33_2 d = false := nr (by kernel_rfl)
noncomputable def g33_3 : Array Oper := regAt Go.Proofs.Try.f33 3
theorem s33_3 : strip g33_3 = [(some 0, (.assign (.const (.bool false))), none)] := nr (by kernel_rfl)
theorem k33_3 : guardsOk g33_3 = true := nr (by kernel_rfl)
@[go_sem] theorem x33_3 {h : Hd} {ro nt id : Nat} {fr : PT} {H : Hp} : ex cx h ro 33 nt (.region id g33_3 false) fr H = xbind (xrun cx h ro 33 nt g33_3 [(some 0, (.assign (.const (.bool false))), none)] fr H) fun p => some (.normal, p.1, p.2) := x_region _ k33_3 s33_3
@[go_sem] theorem t33_3 (d : Tmp) : takes g33_3 d = false := nr (by kernel_rfl)
noncomputable def g33_4 : Array Oper := regAt Go.Proofs.Try.f33 4
theorem s33_4 : strip g33_4 = [(some 21, (.move (.tmp 1)), none), (some 22, (.buildSlice 39 1 #[(0, (.const (.int .i64 7)))]), none), (some 23, (.call ⟨(.value (.func 35)), #[(.tmp 21), (.const (.int .i64 3)), (.tmp 22)], #[24, 3, 39]⟩), none), (some 20, (.move (.tmp 23)), none), (some 24, (.extract (.tmp 20) 0), none), (some 25, (.extract (.tmp 20) 1), none), (some 2, (.assign (.tmp 24)), none), (some 3, (.assign (.tmp 25)), none)] := nr (by kernel_rfl)
theorem k33_4 : guardsOk g33_4 = true := nr (by kernel_rfl)
@[go_sem] theorem x33_4 {h : Hd} {ro nt id : Nat} {fr : PT} {H : Hp} : ex cx h ro 33 nt (.region id g33_4 false) fr H = xbind (xrun cx h ro 33 nt g33_4 [(some 21, (.move (.tmp 1)), none), (some 22, (.buildSlice 39 1 #[(0, (.const (.int .i64 7)))]), none), (some 23, (.call ⟨(.value (.func 35)), #[(.tmp 21), (.const (.int .i64 3)), (.tmp 22)], #[24, 3, 39]⟩), none), (some 20, (.move (.tmp 23)), none), (some 24, (.extract (.tmp 20) 0), none), (some 25, (.extract (.tmp 20) 1), none), (some 2, (.assign (.tmp 24)), none), (some 3, (.assign (.tmp 25)), none)] fr H) fun p => some (.normal, p.1, p.2) := x_region _ k33_4 s33_4
@[go_sem] theorem t33_4 (d : Tmp) : takes g33_4 d = false := nr (by kernel_rfl)
noncomputable def g33_5 : Array Oper := regAt Go.Proofs.Try.f33 5
theorem s33_5 : strip g33_5 = [(some 27, (.move (.tmp 1)), none), (some 28, (.call ⟨(.value (.func 35)), #[(.tmp 27), (.const (.int .i64 4)), (.const (.slice none 0 0))], #[24, 3, 39]⟩), none), (some 26, (.move (.tmp 28)), none), (some 29, (.extract (.tmp 26) 0), none), (some 30, (.extract (.tmp 26) 1), none), (some 4, (.assign (.tmp 29)), none), (some 5, (.assign (.tmp 30)), none)] := nr (by kernel_rfl)
theorem k33_5 : guardsOk g33_5 = true := nr (by kernel_rfl)
@[go_sem] theorem x33_5 {h : Hd} {ro nt id : Nat} {fr : PT} {H : Hp} : ex cx h ro 33 nt (.region id g33_5 false) fr H = xbind (xrun cx h ro 33 nt g33_5 [(some 27, (.move (.tmp 1)), none), (some 28, (.call ⟨(.value (.func 35)), #[(.tmp 27), (.const (.int .i64 4)), (.const (.slice none 0 0))], #[24, 3, 39]⟩), none), (some 26, (.move (.tmp 28)), none), (some 29, (.extract (.tmp 26) 0), none), (some 30, (.extract (.tmp 26) 1), none), (some 4, (.assign (.tmp 29)), none), (some 5, (.assign (.tmp 30)), none)] fr H) fun p => some (.normal, p.1, p.2) := x_region _ k33_5 s33_5
@[go_sem] theorem t33_5 (d : Tmp) : takes g33_5 d = false := nr (by kernel_rfl)
noncomputable def g33_6 : Array Oper := regAt Go.Proofs.Try.f33 6
theorem s33_6 : strip g33_6 = [(some 32, (.move (.tmp 1)), none), (some 33, (.call ⟨(.value (.func 35)), #[(.tmp 32), (.const (.int .i64 5)), (.const (.slice none 0 0))], #[24, 3, 39]⟩), none), (some 31, (.move (.tmp 33)), none), (some 34, (.extract (.tmp 31) 0), none), (some 35, (.extract (.tmp 31) 1), none), (some 6, (.assign (.tmp 34)), none), (some 7, (.assign (.tmp 35)), none)] := nr (by kernel_rfl)
theorem k33_6 : guardsOk g33_6 = true := nr (by kernel_rfl)
@[go_sem] theorem x33_6 {h : Hd} {ro nt id : Nat} {fr : PT} {H : Hp} : ex cx h ro 33 nt (.region id g33_6 false) fr H = xbind (xrun cx h ro 33 nt g33_6 [(some 32, (.move (.tmp 1)), none), (some 33, (.call ⟨(.value (.func 35)), #[(.tmp 32), (.const (.int .i64 5)), (.const (.slice none 0 0))], #[24, 3, 39]⟩), none), (some 31, (.move (.tmp 33)), none), (some 34, (.extract (.tmp 31) 0), none), (some 35, (.extract (.tmp 31) 1), none), (some 6, (.assign (.tmp 34)), none), (some 7, (.assign (.tmp 35)), none)] fr H) fun p => some (.normal, p.1, p.2) := x_region _ k33_6 s33_6
@[go_sem] theorem t33_6 (d : Tmp) : takes g33_6 d = false := nr (by kernel_rfl)
noncomputable def g33_7 : Array Oper := regAt Go.Proofs.Try.f33 7
theorem s33_7 : strip g33_7 = [(some 37, (.move (.tmp 1)), none), (some 38, (.call ⟨(.value (.func 46)), #[(.tmp 37), (.const (.int .i64 0))], #[24, 3]⟩), none), (some 36, (.move (.tmp 38)), none), (some 39, (.extract (.tmp 36) 0), none), (some 40, (.extract (.tmp 36) 1), none), (some 8, (.alloc 44), none), (none, (.store 44 (.tmp 8) (.tmp 39)), none), (some 9, (.assign (.tmp 40)), none)] := nr (by kernel_rfl)
theorem k33_7 : guardsOk g33_7 = true := nr (by kernel_rfl)
@[go_sem] theorem x33_7 {h : Hd} {ro nt id : Nat} {fr : PT} {H : Hp} : ex cx h ro 33 nt (.region id g33_7 false) fr H = xbind (xrun cx h ro 33 nt g33_7 [(some 37, (.move (.tmp 1)), none), (some 38, (.call ⟨(.value (.func 46)), #[(.tmp 37), (.const (.int .i64 0))], #[24, 3]⟩), none), (some 36, (.move (.tmp 38)), none), (some 39, (.extract (.tmp 36) 0), none), (some 40, (.extract (.tmp 36) 1), none), (some 8, (.alloc 44), none), (none, (.store 44 (.tmp 8) (.tmp 39)), none), (some 9, (.assign (.tmp 40)), none)] fr H) fun p => some (.normal, p.1, p.2) := x_region _ k33_7 s33_7
@[go_sem] theorem t33_7 (d : Tmp) : takes g33_7 d = false := nr (by kernel_rfl)
noncomputable def g33_8 : Array Oper := regAt Go.Proofs.Try.f33 8
theorem s33_8 : strip g33_8 = [(some 41, (.move (.tmp 1)), none), (some 42, (.call ⟨(.value (.func 36)), #[(.tmp 41), (.const (.int .i64 0))], #[24, 3]⟩), none), (some 10, (.assign (.tmp 42)), none)] := nr (by kernel_rfl)
theorem k33_8 : guardsOk g33_8 = true := nr (by kernel_rfl)
@[go_sem] theorem x33_8 {h : Hd} {ro nt id : Nat} {fr : PT} {H : Hp} : ex cx h ro 33 nt (.region id g33_8 false) fr H = xbind (xrun cx h ro 33 nt g33_8 [(some 41, (.move (.tmp 1)), none), (some 42, (.call ⟨(.value (.func 36)), #[(.tmp 41), (.const (.int .i64 0))], #[24, 3]⟩), none), (some 10, (.assign (.tmp 42)), none)] fr H) fun p => some (.normal, p.1, p.2) := x_region _ k33_8 s33_8
@[go_sem] theorem t33_8 (d : Tmp) : takes g33_8 d = false := nr (by kernel_rfl)
noncomputable def g33_9 : Array Oper := regAt Go.Proofs.Try.f33 9
theorem s33_9 : strip g33_9 = [(some 44, (.move (.tmp 1)), none), (some 45, (.call ⟨(.value (.func 46)), #[(.tmp 44), (.const (.int .i64 0))], #[24, 3]⟩), none), (some 43, (.move (.tmp 45)), none), (some 46, (.extract (.tmp 43) 0), none), (some 47, (.extract (.tmp 43) 1), none), (some 11, (.alloc 44), none), (none, (.store 44 (.tmp 11) (.tmp 46)), none), (some 12, (.assign (.tmp 47)), none)] := nr (by kernel_rfl)
theorem k33_9 : guardsOk g33_9 = true := nr (by kernel_rfl)
@[go_sem] theorem x33_9 {h : Hd} {ro nt id : Nat} {fr : PT} {H : Hp} : ex cx h ro 33 nt (.region id g33_9 false) fr H = xbind (xrun cx h ro 33 nt g33_9 [(some 44, (.move (.tmp 1)), none), (some 45, (.call ⟨(.value (.func 46)), #[(.tmp 44), (.const (.int .i64 0))], #[24, 3]⟩), none), (some 43, (.move (.tmp 45)), none), (some 46, (.extract (.tmp 43) 0), none), (some 47, (.extract (.tmp 43) 1), none), (some 11, (.alloc 44), none), (none, (.store 44 (.tmp 11) (.tmp 46)), none), (some 12, (.assign (.tmp 47)), none)] fr H) fun p => some (.normal, p.1, p.2) := x_region _ k33_9 s33_9
@[go_sem] theorem t33_9 (d : Tmp) : takes g33_9 d = false := nr (by kernel_rfl)
noncomputable def g33_10 : Array Oper := regAt Go.Proofs.Try.f33 10
theorem s33_10 : strip g33_10 = [(some 48, (.move (.tmp 1)), none), (some 49, (.call ⟨(.value (.func 36)), #[(.tmp 48), (.const (.int .i64 0))], #[24, 3]⟩), none), (some 50, (.move (.tmp 1)), none), (some 51, (.call ⟨(.value (.func 38)), #[(.tmp 50)], #[24]⟩), none), (some 13, (.assign (.tmp 49)), none), (some 14, (.assign (.tmp 51)), none)] := nr (by kernel_rfl)
theorem k33_10 : guardsOk g33_10 = true := nr (by kernel_rfl)
@[go_sem] theorem x33_10 {h : Hd} {ro nt id : Nat} {fr : PT} {H : Hp} : ex cx h ro 33 nt (.region id g33_10 false) fr H = xbind (xrun cx h ro 33 nt g33_10 [(some 48, (.move (.tmp 1)), none), (some 49, (.call ⟨(.value (.func 36)), #[(.tmp 48), (.const (.int .i64 0))], #[24, 3]⟩), none), (some 50, (.move (.tmp 1)), none), (some 51, (.call ⟨(.value (.func 38)), #[(.tmp 50)], #[24]⟩), none), (some 13, (.assign (.tmp 49)), none), (some 14, (.assign (.tmp 51)), none)] fr H) fun p => some (.normal, p.1, p.2) := x_region _ k33_10 s33_10
@[go_sem] theorem t33_10 (d : Tmp) : takes g33_10 d = false := nr (by kernel_rfl)
noncomputable def g33_11 : Array Oper := regAt Go.Proofs.Try.f33 11
theorem s33_11 : strip g33_11 = [(some 53, (.move (.tmp 1)), none), (some 54, (.call ⟨(.value (.func 35)), #[(.tmp 53), (.const (.int .i64 6)), (.const (.slice none 0 0))], #[24, 3, 39]⟩), none), (some 52, (.move (.tmp 54)), none), (some 55, (.extract (.tmp 52) 0), none), (some 56, (.extract (.tmp 52) 1), none), (some 15, (.assign (.tmp 55)), none), (some 16, (.assign (.tmp 56)), none)] := nr (by kernel_rfl)
theorem k33_11 : guardsOk g33_11 = true := nr (by kernel_rfl)
@[go_sem] theorem x33_11 {h : Hd} {ro nt id : Nat} {fr : PT} {H : Hp} : ex cx h ro 33 nt (.region id g33_11 false) fr H = xbind (xrun cx h ro 33 nt g33_11 [(some 53, (.move (.tmp 1)), none), (some 54, (.call ⟨(.value (.func 35)), #[(.tmp 53), (.const (.int .i64 6)), (.const (.slice none 0 0))], #[24, 3, 39]⟩), none), (some 52, (.move (.tmp 54)), none), (some 55, (.extract (.tmp 52) 0), none), (some 56, (.extract (.tmp 52) 1), none), (some 15, (.assign (.tmp 55)), none), (some 16, (.assign (.tmp 56)), none)] fr H) fun p => some (.normal, p.1, p.2) := x_region _ k33_11 s33_11
@[go_sem] theorem t33_11 (d : Tmp) : takes g33_11 d = false := nr (by kernel_rfl)
noncomputable def g33_12 : Array Oper := regAt Go.Proofs.Try.f33 12
theorem s33_12 : strip g33_12 = [(some 57, (.move (.tmp 2)), none), (some 58, (.binOp .eql 3 (.tmp 57) (.const (.int .i64 0)) 3), none), (some 59, (.move (.tmp 58)), none), (some 60, (.move (.tmp 4)), some (59, true)), (some 61, (.binOp .eql 3 (.tmp 60) (.const (.int .i64 1)) 3), some (59, true)), (some 62, (.pick (.tmp 59) (.tmp 61) (.const (.bool false))), none), (some 63, (.move (.tmp 62)), none), (some 64, (.move (.tmp 7)), some (63, true)), (some 65, (.binOp .eql 27 (.tmp 64) (.const (.int .i64 22)) 27), some (63, true)), (some 66, (.pick (.tmp 63) (.tmp 65) (.const (.bool false))), none), (some 67, (.move (.tmp 66)), none), (some 68, (.move (.tmp 9)), some (67, true)), (some 69, (.pick (.tmp 67) (.tmp 68) (.const (.bool false))), none), (some 70, (.move (.tmp 69)), none), (some 71, (.fieldAddr 44 (.tmp 8) 0), some (70, true)), (some 72, (.load 3 (.tmp 71)), some (70, true)), (some 73, (.binOp .eql 3 (.tmp 72) (.const (.int .i64 3)) 3), some (70, true)), (some 74, (.pick (.tmp 70) (.tmp 73) (.const (.bool false))), none), (some 75, (.move (.tmp 74)), none), (some 76, (.fieldAddr 44 (.tmp 8) 1), some (75, true)), (some 77, (.load 3 (.tmp 76)), some (75, true)), (some 78, (.binOp .eql 3 (.tmp 77) (.const (.int .i64 0)) 3), some (75, true)), (some 79, (.pick (.tmp 75) (.tmp 78) (.const (.bool false))), none), (some 80, (.move (.tmp 79)), none), (some 81, (.fieldAddr 44 (.tmp 8) 3), some (80, true)), (some 82, (.indexAddr 42 (.tmp 81) (.const (.int .i64 0))), some (80, true)), (some 83, (.load 2 (.tmp 82)), some (80, true)), (some 84, (.binOp .eql 2 (.tmp 83) (.const (.int .i64 7)) 2), some (80, true)), (some 85, (.pick (.tmp 80) (.tmp 84) (.const (.bool false))), none), (some 86, (.move (.tmp 85)), none), (some 87, (.fieldAddr 44 (.tmp 8) 3), some (86, true)), (some 88, (.indexAddr 42 (.tmp 87) (.const (.int .i64 1))), some (86, true)), (some 89, (.load 2 (.tmp 88)), some (86, true)), (some 90, (.binOp .eql 2 (.tmp 89) (.const (.int .i64 0)) 2), some (86, true)), (some 91, (.pick (.tmp 86) (.tmp 90) (.const (.bool false))), none), (some 92, (.move (.tmp 91)), none), (some 93, (.fieldAddr 44 (.tmp 8) 2), some (92, true)), (some 94, (.load 39 (.tmp 93)), some (92, true)), (some 95, (.call ⟨(.builtin .len), #[(.tmp 94)], #[39]⟩), some (92, true)), (some 96, (.binOp .eql 3 (.tmp 95) (.const (.int .i64 0)) 3), some (92, true)), (some 97, (.pick (.tmp 92) (.tmp 96) (.const (.bool false))), none), (some 98, (.move (.tmp 97)), none), (some 99, (.move (.tmp 10)), some (98, true)), (some 100, (.binOp .eql 27 (.tmp 99) (.const (.int .i64 0)) 27), some (98, true)), (some 101, (.pick (.tmp 98) (.tmp 100) (.const (.bool false))), none), (some 102, (.move (.tmp 101)), none), (some 103, (.move (.tmp 12)), some (102, true)), (some 104, (.unOp .not 4 (.tmp 103)), some (102, true)), (some 105, (.pick (.tmp 102) (.tmp 104) (.const (.bool false))), none), (some 106, (.move (.tmp 105)), none), (some 107, (.move (.tmp 13)), some (106, true)), (some 108, (.binOp .eql 27 (.tmp 107) (.const (.int .i64 24)) 27), some (106, true)), (some 109, (.pick (.tmp 106) (.tmp 108) (.const (.bool false))), none), (some 110, (.move (.tmp 109)), none), (some 111, (.move (.tmp 14)), some (110, true)), (some 112, (.buildSlice 31 1 #[(0, (.const (.int .i64 1)))]), some (110, true)), (some 113, (.call ⟨(.value (.func 37)), #[(.tmp 111), (.tmp 112)], #[31, 31]⟩), some (110, true)), (some 114, (.pick (.tmp 110) (.tmp 113) (.const (.bool false))), none), (some 115, (.move (.tmp 114)), none), (some 116, (.move (.tmp 15)), some (115, true)), (some 117, (.binOp .eql 3 (.tmp 116) (.const (.int .i64 0)) 3), some (115, true)), (some 118, (.pick (.tmp 115) (.tmp 117) (.const (.bool false))), none), (some 0, (.assign (.tmp 118)), none)] := nr (by kernel_rfl)
theorem k33_12 : guardsOk g33_12 = true := nr (by kernel_rfl)
@[go_sem] theorem x33_12 {h : Hd} {ro nt id : Nat} {fr : PT} {H : Hp} : ex cx h ro 33 nt (.region id g33_12 false) fr H = xbind (xrun cx h ro 33 nt g33_12 [(some 57, (.move (.tmp 2)), none), (some 58, (.binOp .eql 3 (.tmp 57) (.const (.int .i64 0)) 3), none), (some 59, (.move (.tmp 58)), none), (some 60, (.move (.tmp 4)), some (59, true)), (some 61, (.binOp .eql 3 (.tmp 60) (.const (.int .i64 1)) 3), some (59, true)), (some 62, (.pick (.tmp 59) (.tmp 61) (.const (.bool false))), none), (some 63, (.move (.tmp 62)), none), (some 64, (.move (.tmp 7)), some (63, true)), (some 65, (.binOp .eql 27 (.tmp 64) (.const (.int .i64 22)) 27), some (63, true)), (some 66, (.pick (.tmp 63) (.tmp 65) (.const (.bool false))), none), (some 67, (.move (.tmp 66)), none), (some 68, (.move (.tmp 9)), some (67, true)), (some 69, (.pick (.tmp 67) (.tmp 68) (.const (.bool false))), none), (some 70, (.move (.tmp 69)), none), (some 71, (.fieldAddr 44 (.tmp 8) 0), some (70, true)), (some 72, (.load 3 (.tmp 71)), some (70, true)), (some 73, (.binOp .eql 3 (.tmp 72) (.const (.int .i64 3)) 3), some (70, true)), (some 74, (.pick (.tmp 70) (.tmp 73) (.const (.bool false))), none), (some 75, (.move (.tmp 74)), none), (some 76, (.fieldAddr 44 (.tmp 8) 1), some (75, true)), (some 77, (.load 3 (.tmp 76)), some (75, true)), (some 78, (.binOp .eql 3 (.tmp 77) (.const (.int .i64 0)) 3), some (75, true)), (some 79, (.pick (.tmp 75) (.tmp 78) (.const (.bool false))), none), (some 80, (.move (.tmp 79)), none), (some 81, (.fieldAddr 44 (.tmp 8) 3), some (80, true)), (some 82, (.indexAddr 42 (.tmp 81) (.const (.int .i64 0))), some (80, true)), (some 83, (.load 2 (.tmp 82)), some (80, true)), (some 84, (.binOp .eql 2 (.tmp 83) (.const (.int .i64 7)) 2), some (80, true)), (some 85, (.pick (.tmp 80) (.tmp 84) (.const (.bool false))), none), (some 86, (.move (.tmp 85)), none), (some 87, (.fieldAddr 44 (.tmp 8) 3), some (86, true)), (some 88, (.indexAddr 42 (.tmp 87) (.const (.int .i64 1))), some (86, true)), (some 89, (.load 2 (.tmp 88)), some (86, true)), (some 90, (.binOp .eql 2 (.tmp 89) (.const (.int .i64 0)) 2), some (86, true)), (some 91, (.pick (.tmp 86) (.tmp 90) (.const (.bool false))), none), (some 92, (.move (.tmp 91)), none), (some 93, (.fieldAddr 44 (.tmp 8) 2), some (92, true)), (some 94, (.load 39 (.tmp 93)), some (92, true)), (some 95, (.call ⟨(.builtin .len), #[(.tmp 94)], #[39]⟩), some (92, true)), (some 96, (.binOp .eql 3 (.tmp 95) (.const (.int .i64 0)) 3), some (92, true)), (some 97, (.pick (.tmp 92) (.tmp 96) (.const (.bool false))), none), (some 98, (.move (.tmp 97)), none), (some 99, (.move (.tmp 10)), some (98, true)), (some 100, (.binOp .eql 27 (.tmp 99) (.const (.int .i64 0)) 27), some (98, true)), (some 101, (.pick (.tmp 98) (.tmp 100) (.const (.bool false))), none), (some 102, (.move (.tmp 101)), none), (some 103, (.move (.tmp 12)), some (102, true)), (some 104, (.unOp .not 4 (.tmp 103)), some (102, true)), (some 105, (.pick (.tmp 102) (.tmp 104) (.const (.bool false))), none), (some 106, (.move (.tmp 105)), none), (some 107, (.move (.tmp 13)), some (106, true)), (some 108, (.binOp .eql 27 (.tmp 107) (.const (.int .i64 24)) 27), some (106, true)), (some 109, (.pick (.tmp 106) (.tmp 108) (.const (.bool false))), none), (some 110, (.move (.tmp 109)), none), (some 111, (.move (.tmp 14)), some (110, true)), (some 112, (.buildSlice 31 1 #[(0, (.const (.int .i64 1)))]), some (110, true)), (some 113, (.call ⟨(.value (.func 37)), #[(.tmp 111), (.tmp 112)], #[31, 31]⟩), some (110, true)), (some 114, (.pick (.tmp 110) (.tmp 113) (.const (.bool false))), none), (some 115, (.move (.tmp 114)), none), (some 116, (.move (.tmp 15)), some (115, true)), (some 117, (.binOp .eql 3 (.tmp 116) (.const (.int .i64 0)) 3), some (115, true)), (some 118, (.pick (.tmp 115) (.tmp 117) (.const (.bool false))), none), (some 0, (.assign (.tmp 118)), none)] fr H) fun p => some (.normal, p.1, p.2) := x_region _ k33_12 s33_12
@[go_sem] theorem t33_12 (d : Tmp) : takes g33_12 d = false := nr (by kernel_rfl)
theorem b33 : Go.Proofs.Try.f33.body = some (.seq (.region 0 g33_0 false) (.seq (.region 1 g33_1 false) (.seq (.seq (.region 2 g33_2 false) (.cond (.tmp 19) (.seq (.region 3 g33_3 false) .ret) .skip)) (.seq (.region 4 g33_4 false) (.seq (.region 5 g33_5 false) (.seq (.region 6 g33_6 false) (.seq (.region 7 g33_7 false) (.seq (.region 8 g33_8 false) (.seq (.region 9 g33_9 false) (.seq (.region 10 g33_10 false) (.seq (.region 11 g33_11 false) (.seq (.region 12 g33_12 false) .ret)))))))))))) := by kernel_rfl
theorem c33 {h : Hd} {ro : Nat} {H : Hp} : callB cx h ro 33 [] H = returned cx [(.tmp 0)] (ex cx h ro 33 119 (.seq (.region 0 g33_0 false) (.seq (.region 1 g33_1 false) (.seq (.seq (.region 2 g33_2 false) (.cond (.tmp 19) (.seq (.region 3 g33_3 false) .ret) .skip)) (.seq (.region 4 g33_4 false) (.seq (.region 5 g33_5 false) (.seq (.region 6 g33_6 false) (.seq (.region 7 g33_7 false) (.seq (.region 8 g33_8 false) (.seq (.region 9 g33_9 false) (.seq (.region 10 g33_10 false) (.seq (.region 11 g33_11 false) (.seq (.region 12 g33_12 false) .ret)))))))))))) PT.nil H) := by
  have hf : cx.fns 33 = some Go.Proofs.Try.f33 := by kernel_rfl
  simp only [callB, hf, funced, b33, bodied]
  rfl
end Go.Abs.Tab

/- Codes of this seat's functions, their regions step by step. (Printed by a program.) -/
set_option linter.unusedVariables false
namespace Go.Abs.Tab
/-! function 3: colloquy/colloquylaw22.ActorsLowest -/
noncomputable def g3_0 : Array Oper := regAt Go.Proofs.Try.f3 0
theorem s3_0 : strip g3_0 = [(some 4, (.assign (.const (.bool false))), none)] := nr (by kernel_rfl)
theorem k3_0 : guardsOk g3_0 = true := nr (by kernel_rfl)
@[go_sem] theorem x3_0 {h : Hd} {ro nt id : Nat} {fr : PT} {H : Hp} : ex cx h ro 3 nt (.region id g3_0 false) fr H = xbind (xrun cx h ro 3 nt g3_0 [(some 4, (.assign (.const (.bool false))), none)] fr H) fun p => some (.normal, p.1, p.2) := x_region _ k3_0 s3_0
@[go_sem] theorem t3_0 (d : Tmp) : takes g3_0 d = false := nr (by kernel_rfl)
noncomputable def g3_1 : Array Oper := regAt Go.Proofs.Try.f3 1
theorem s3_1 : strip g3_1 = [(some 16, (.call ⟨(.value (.func 33)), #[], #[]⟩), none), (some 17, (.unOp .not 4 (.tmp 16)), none)] := nr (by kernel_rfl)
theorem k3_1 : guardsOk g3_1 = true := nr (by kernel_rfl)
@[go_sem] theorem x3_1 {h : Hd} {ro nt id : Nat} {fr : PT} {H : Hp} : ex cx h ro 3 nt (.region id g3_1 false) fr H = xbind (xrun cx h ro 3 nt g3_1 [(some 16, (.call ⟨(.value (.func 33)), #[], #[]⟩), none), (some 17, (.unOp .not 4 (.tmp 16)), none)] fr H) fun p => some (.normal, p.1, p.2) := x_region _ k3_1 s3_1
@[go_sem] theorem t3_1 (d : Tmp) : takes g3_1 d = false := nr (by kernel_rfl)
noncomputable def g3_2 : Array Oper := regAt Go.Proofs.Try.f3 2
theorem s3_2 : strip g3_2 = [(some 4, (.assign (.const (.bool false))), none)] := nr (by kernel_rfl)
theorem k3_2 : guardsOk g3_2 = true := nr (by kernel_rfl)
@[go_sem] theorem x3_2 {h : Hd} {ro nt id : Nat} {fr : PT} {H : Hp} : ex cx h ro 3 nt (.region id g3_2 false) fr H = xbind (xrun cx h ro 3 nt g3_2 [(some 4, (.assign (.const (.bool false))), none)] fr H) fun p => some (.normal, p.1, p.2) := x_region _ k3_2 s3_2
@[go_sem] theorem t3_2 (d : Tmp) : takes g3_2 d = false := nr (by kernel_rfl)
noncomputable def g3_3 : Array Oper := regAt Go.Proofs.Try.f3 3
theorem s3_3 : strip g3_3 = [(some 18, (.move (.tmp 0)), none), (some 19, (.binOp .rem 5 (.tmp 18) (.const (.int .u8 32)) 5), none), (some 20, (.convert 5 3 (.tmp 19)), none), (some 21, (.binOp .add 3 (.const (.int .i64 1)) (.tmp 20) 3), none), (some 5, (.assign (.tmp 21)), none)] := nr (by kernel_rfl)
theorem k3_3 : guardsOk g3_3 = true := nr (by kernel_rfl)
@[go_sem] theorem x3_3 {h : Hd} {ro nt id : Nat} {fr : PT} {H : Hp} : ex cx h ro 3 nt (.region id g3_3 false) fr H = xbind (xrun cx h ro 3 nt g3_3 [(some 18, (.move (.tmp 0)), none), (some 19, (.binOp .rem 5 (.tmp 18) (.const (.int .u8 32)) 5), none), (some 20, (.convert 5 3 (.tmp 19)), none), (some 21, (.binOp .add 3 (.const (.int .i64 1)) (.tmp 20) 3), none), (some 5, (.assign (.tmp 21)), none)] fr H) fun p => some (.normal, p.1, p.2) := x_region _ k3_3 s3_3
@[go_sem] theorem t3_3 (d : Tmp) : takes g3_3 d = false := nr (by kernel_rfl)
noncomputable def g3_4 : Array Oper := regAt Go.Proofs.Try.f3 4
theorem s3_4 : strip g3_4 = [(some 22, (.move (.tmp 5)), none), (some 23, (.call ⟨(.value (.func 34)), #[(.tmp 22)], #[3]⟩), none), (some 6, (.assign (.tmp 23)), none)] := nr (by kernel_rfl)
theorem k3_4 : guardsOk g3_4 = true := nr (by kernel_rfl)
@[go_sem] theorem x3_4 {h : Hd} {ro nt id : Nat} {fr : PT} {H : Hp} : ex cx h ro 3 nt (.region id g3_4 false) fr H = xbind (xrun cx h ro 3 nt g3_4 [(some 22, (.move (.tmp 5)), none), (some 23, (.call ⟨(.value (.func 34)), #[(.tmp 22)], #[3]⟩), none), (some 6, (.assign (.tmp 23)), none)] fr H) fun p => some (.normal, p.1, p.2) := x_region _ k3_4 s3_4
@[go_sem] theorem t3_4 (d : Tmp) : takes g3_4 d = false := nr (by kernel_rfl)
noncomputable def g3_5 : Array Oper := regAt Go.Proofs.Try.f3 5
theorem s3_5 : strip g3_5 = [(some 24, (.move (.tmp 6)), none), (some 25, (.binOp .eql 24 (.tmp 24) (.const (.pointer none)) 24), none)] := nr (by kernel_rfl)
theorem k3_5 : guardsOk g3_5 = true := nr (by kernel_rfl)
@[go_sem] theorem x3_5 {h : Hd} {ro nt id : Nat} {fr : PT} {H : Hp} : ex cx h ro 3 nt (.region id g3_5 false) fr H = xbind (xrun cx h ro 3 nt g3_5 [(some 24, (.move (.tmp 6)), none), (some 25, (.binOp .eql 24 (.tmp 24) (.const (.pointer none)) 24), none)] fr H) fun p => some (.normal, p.1, p.2) := x_region _ k3_5 s3_5
@[go_sem] theorem t3_5 (d : Tmp) : takes g3_5 d = false := nr (by kernel_rfl)
noncomputable def g3_6 : Array Oper := regAt Go.Proofs.Try.f3 6
theorem s3_6 : strip g3_6 = [(some 4, (.assign (.const (.bool false))), none)] := nr (by kernel_rfl)
theorem k3_6 : guardsOk g3_6 = true := nr (by kernel_rfl)
@[go_sem] theorem x3_6 {h : Hd} {ro nt id : Nat} {fr : PT} {H : Hp} : ex cx h ro 3 nt (.region id g3_6 false) fr H = xbind (xrun cx h ro 3 nt g3_6 [(some 4, (.assign (.const (.bool false))), none)] fr H) fun p => some (.normal, p.1, p.2) := x_region _ k3_6 s3_6
@[go_sem] theorem t3_6 (d : Tmp) : takes g3_6 d = false := nr (by kernel_rfl)
noncomputable def g3_7 : Array Oper := regAt Go.Proofs.Try.f3 7
theorem s3_7 : strip g3_7 = [(some 26, (.move (.tmp 5)), none), (some 27, (.makeSlice 26 (.tmp 26) (.tmp 26)), none), (some 7, (.assign (.tmp 27)), none)] := nr (by kernel_rfl)
theorem k3_7 : guardsOk g3_7 = true := nr (by kernel_rfl)
@[go_sem] theorem x3_7 {h : Hd} {ro nt id : Nat} {fr : PT} {H : Hp} : ex cx h ro 3 nt (.region id g3_7 false) fr H = xbind (xrun cx h ro 3 nt g3_7 [(some 26, (.move (.tmp 5)), none), (some 27, (.makeSlice 26 (.tmp 26) (.tmp 26)), none), (some 7, (.assign (.tmp 27)), none)] fr H) fun p => some (.normal, p.1, p.2) := x_region _ k3_7 s3_7
@[go_sem] theorem t3_7 (d : Tmp) : takes g3_7 d = false := nr (by kernel_rfl)
noncomputable def g3_8 : Array Oper := regAt Go.Proofs.Try.f3 8
theorem s3_8 : strip g3_8 = [(some 8, (.assign (.const (.int .i64 0))), none)] := nr (by kernel_rfl)
theorem k3_8 : guardsOk g3_8 = true := nr (by kernel_rfl)
@[go_sem] theorem x3_8 {h : Hd} {ro nt id : Nat} {fr : PT} {H : Hp} : ex cx h ro 3 nt (.region id g3_8 false) fr H = xbind (xrun cx h ro 3 nt g3_8 [(some 8, (.assign (.const (.int .i64 0))), none)] fr H) fun p => some (.normal, p.1, p.2) := x_region _ k3_8 s3_8
@[go_sem] theorem t3_8 (d : Tmp) : takes g3_8 d = false := nr (by kernel_rfl)
noncomputable def g3_9 : Array Oper := regAt Go.Proofs.Try.f3 9
theorem s3_9 : strip g3_9 = [(some 28, (.move (.tmp 8)), none), (some 29, (.move (.tmp 1)), none), (some 30, (.call ⟨(.builtin .len), #[(.tmp 29)], #[22]⟩), none), (some 31, (.binOp .lss 3 (.tmp 28) (.tmp 30) 3), none), (some 32, (.move (.tmp 31)), none), (some 33, (.move (.tmp 8)), some (32, true)), (some 34, (.binOp .lss 3 (.tmp 33) (.const (.int .i64 40)) 3), some (32, true)), (some 35, (.pick (.tmp 32) (.tmp 34) (.const (.bool false))), none)] := nr (by kernel_rfl)
theorem k3_9 : guardsOk g3_9 = true := nr (by kernel_rfl)
@[go_sem] theorem x3_9 {h : Hd} {ro nt id : Nat} {fr : PT} {H : Hp} : ex cx h ro 3 nt (.region id g3_9 false) fr H = xbind (xrun cx h ro 3 nt g3_9 [(some 28, (.move (.tmp 8)), none), (some 29, (.move (.tmp 1)), none), (some 30, (.call ⟨(.builtin .len), #[(.tmp 29)], #[22]⟩), none), (some 31, (.binOp .lss 3 (.tmp 28) (.tmp 30) 3), none), (some 32, (.move (.tmp 31)), none), (some 33, (.move (.tmp 8)), some (32, true)), (some 34, (.binOp .lss 3 (.tmp 33) (.const (.int .i64 40)) 3), some (32, true)), (some 35, (.pick (.tmp 32) (.tmp 34) (.const (.bool false))), none)] fr H) fun p => some (.normal, p.1, p.2) := x_region _ k3_9 s3_9
@[go_sem] theorem t3_9 (d : Tmp) : takes g3_9 d = false := nr (by kernel_rfl)
noncomputable def g3_10 : Array Oper := regAt Go.Proofs.Try.f3 10
theorem s3_10 : strip g3_10 = [(some 9, (.assign (.const (.int .i64 (-1)))), none)] := nr (by kernel_rfl)
theorem k3_10 : guardsOk g3_10 = true := nr (by kernel_rfl)
@[go_sem] theorem x3_10 {h : Hd} {ro nt id : Nat} {fr : PT} {H : Hp} : ex cx h ro 3 nt (.region id g3_10 false) fr H = xbind (xrun cx h ro 3 nt g3_10 [(some 9, (.assign (.const (.int .i64 (-1)))), none)] fr H) fun p => some (.normal, p.1, p.2) := x_region _ k3_10 s3_10
@[go_sem] theorem t3_10 (d : Tmp) : takes g3_10 d = false := nr (by kernel_rfl)
noncomputable def g3_11 : Array Oper := regAt Go.Proofs.Try.f3 11
theorem s3_11 : strip g3_11 = [(some 38, (.move (.tmp 5)), none), (some 39, (.binOp .sub 3 (.tmp 38) (.const (.int .i64 1)) 3), none), (some 10, (.assign (.tmp 39)), none)] := nr (by kernel_rfl)
theorem k3_11 : guardsOk g3_11 = true := nr (by kernel_rfl)
@[go_sem] theorem x3_11 {h : Hd} {ro nt id : Nat} {fr : PT} {H : Hp} : ex cx h ro 3 nt (.region id g3_11 false) fr H = xbind (xrun cx h ro 3 nt g3_11 [(some 38, (.move (.tmp 5)), none), (some 39, (.binOp .sub 3 (.tmp 38) (.const (.int .i64 1)) 3), none), (some 10, (.assign (.tmp 39)), none)] fr H) fun p => some (.normal, p.1, p.2) := x_region _ k3_11 s3_11
@[go_sem] theorem t3_11 (d : Tmp) : takes g3_11 d = false := nr (by kernel_rfl)
noncomputable def g3_12 : Array Oper := regAt Go.Proofs.Try.f3 12
theorem s3_12 : strip g3_12 = [(some 40, (.move (.tmp 10)), none), (some 41, (.binOp .geq 3 (.tmp 40) (.const (.int .i64 0)) 3), none)] := nr (by kernel_rfl)
theorem k3_12 : guardsOk g3_12 = true := nr (by kernel_rfl)
@[go_sem] theorem x3_12 {h : Hd} {ro nt id : Nat} {fr : PT} {H : Hp} : ex cx h ro 3 nt (.region id g3_12 false) fr H = xbind (xrun cx h ro 3 nt g3_12 [(some 40, (.move (.tmp 10)), none), (some 41, (.binOp .geq 3 (.tmp 40) (.const (.int .i64 0)) 3), none)] fr H) fun p => some (.normal, p.1, p.2) := x_region _ k3_12 s3_12
@[go_sem] theorem t3_12 (d : Tmp) : takes g3_12 d = false := nr (by kernel_rfl)
noncomputable def g3_13 : Array Oper := regAt Go.Proofs.Try.f3 13
theorem s3_13 : strip g3_13 = [(some 44, (.move (.tmp 7)), none), (some 45, (.move (.tmp 10)), none), (some 46, (.indexAddr 26 (.tmp 44) (.tmp 45)), none), (some 47, (.load 4 (.tmp 46)), none), (some 48, (.unOp .not 4 (.tmp 47)), none)] := nr (by kernel_rfl)
theorem k3_13 : guardsOk g3_13 = true := nr (by kernel_rfl)
@[go_sem] theorem x3_13 {h : Hd} {ro nt id : Nat} {fr : PT} {H : Hp} : ex cx h ro 3 nt (.region id g3_13 false) fr H = xbind (xrun cx h ro 3 nt g3_13 [(some 44, (.move (.tmp 7)), none), (some 45, (.move (.tmp 10)), none), (some 46, (.indexAddr 26 (.tmp 44) (.tmp 45)), none), (some 47, (.load 4 (.tmp 46)), none), (some 48, (.unOp .not 4 (.tmp 47)), none)] fr H) fun p => some (.normal, p.1, p.2) := x_region _ k3_13 s3_13
@[go_sem] theorem t3_13 (d : Tmp) : takes g3_13 d = false := nr (by kernel_rfl)
noncomputable def g3_14 : Array Oper := regAt Go.Proofs.Try.f3 14
theorem s3_14 : strip g3_14 = [(some 49, (.move (.tmp 10)), none), (some 9, (.assign (.tmp 49)), none)] := nr (by kernel_rfl)
theorem k3_14 : guardsOk g3_14 = true := nr (by kernel_rfl)
@[go_sem] theorem x3_14 {h : Hd} {ro nt id : Nat} {fr : PT} {H : Hp} : ex cx h ro 3 nt (.region id g3_14 false) fr H = xbind (xrun cx h ro 3 nt g3_14 [(some 49, (.move (.tmp 10)), none), (some 9, (.assign (.tmp 49)), none)] fr H) fun p => some (.normal, p.1, p.2) := x_region _ k3_14 s3_14
@[go_sem] theorem t3_14 (d : Tmp) : takes g3_14 d = false := nr (by kernel_rfl)
noncomputable def g3_15 : Array Oper := regAt Go.Proofs.Try.f3 15
theorem s3_15 : strip g3_15 = [(some 42, (.move (.tmp 10)), none), (some 43, (.binOp .sub 3 (.tmp 42) (.const (.int .i64 1)) 3), none), (some 10, (.assign (.tmp 43)), none)] := nr (by kernel_rfl)
theorem k3_15 : guardsOk g3_15 = true := nr (by kernel_rfl)
@[go_sem] theorem x3_15 {h : Hd} {ro nt id : Nat} {fr : PT} {H : Hp} : ex cx h ro 3 nt (.region id g3_15 false) fr H = xbind (xrun cx h ro 3 nt g3_15 [(some 42, (.move (.tmp 10)), none), (some 43, (.binOp .sub 3 (.tmp 42) (.const (.int .i64 1)) 3), none), (some 10, (.assign (.tmp 43)), none)] fr H) fun p => some (.normal, p.1, p.2) := x_region _ k3_15 s3_15
@[go_sem] theorem t3_15 (d : Tmp) : takes g3_15 d = false := nr (by kernel_rfl)
noncomputable def g3_16 : Array Oper := regAt Go.Proofs.Try.f3 16
theorem s3_16 : strip g3_16 = [(some 51, (.move (.tmp 6)), none), (some 52, (.move (.tmp 8)), none), (some 53, (.call ⟨(.value (.func 35)), #[(.tmp 51), (.tmp 52), (.const (.slice none 0 0))], #[24, 3, 39]⟩), none), (some 50, (.move (.tmp 53)), none), (some 54, (.extract (.tmp 50) 0), none), (some 55, (.extract (.tmp 50) 1), none), (some 11, (.assign (.tmp 54)), none), (some 12, (.assign (.tmp 55)), none)] := nr (by kernel_rfl)
theorem k3_16 : guardsOk g3_16 = true := nr (by kernel_rfl)
@[go_sem] theorem x3_16 {h : Hd} {ro nt id : Nat} {fr : PT} {H : Hp} : ex cx h ro 3 nt (.region id g3_16 false) fr H = xbind (xrun cx h ro 3 nt g3_16 [(some 51, (.move (.tmp 6)), none), (some 52, (.move (.tmp 8)), none), (some 53, (.call ⟨(.value (.func 35)), #[(.tmp 51), (.tmp 52), (.const (.slice none 0 0))], #[24, 3, 39]⟩), none), (some 50, (.move (.tmp 53)), none), (some 54, (.extract (.tmp 50) 0), none), (some 55, (.extract (.tmp 50) 1), none), (some 11, (.assign (.tmp 54)), none), (some 12, (.assign (.tmp 55)), none)] fr H) fun p => some (.normal, p.1, p.2) := x_region _ k3_16 s3_16
@[go_sem] theorem t3_16 (d : Tmp) : takes g3_16 d = false := nr (by kernel_rfl)
noncomputable def g3_17 : Array Oper := regAt Go.Proofs.Try.f3 17
theorem s3_17 : strip g3_17 = [(some 56, (.move (.tmp 11)), none), (some 57, (.move (.tmp 9)), none), (some 58, (.binOp .neq 3 (.tmp 56) (.tmp 57) 3), none), (some 59, (.move (.tmp 58)), none), (some 60, (.move (.tmp 12)), some (59, false)), (some 61, (.binOp .eql 27 (.tmp 60) (.const (.int .i64 0)) 27), some (59, false)), (some 62, (.move (.tmp 9)), some (59, false)), (some 63, (.binOp .geq 3 (.tmp 62) (.const (.int .i64 0)) 3), some (59, false)), (some 64, (.binOp .neq 4 (.tmp 61) (.tmp 63) 4), some (59, false)), (some 65, (.pick (.tmp 59) (.const (.bool true)) (.tmp 64)), none)] := nr (by kernel_rfl)
theorem k3_17 : guardsOk g3_17 = true := nr (by kernel_rfl)
@[go_sem] theorem x3_17 {h : Hd} {ro nt id : Nat} {fr : PT} {H : Hp} : ex cx h ro 3 nt (.region id g3_17 false) fr H = xbind (xrun cx h ro 3 nt g3_17 [(some 56, (.move (.tmp 11)), none), (some 57, (.move (.tmp 9)), none), (some 58, (.binOp .neq 3 (.tmp 56) (.tmp 57) 3), none), (some 59, (.move (.tmp 58)), none), (some 60, (.move (.tmp 12)), some (59, false)), (some 61, (.binOp .eql 27 (.tmp 60) (.const (.int .i64 0)) 27), some (59, false)), (some 62, (.move (.tmp 9)), some (59, false)), (some 63, (.binOp .geq 3 (.tmp 62) (.const (.int .i64 0)) 3), some (59, false)), (some 64, (.binOp .neq 4 (.tmp 61) (.tmp 63) 4), some (59, false)), (some 65, (.pick (.tmp 59) (.const (.bool true)) (.tmp 64)), none)] fr H) fun p => some (.normal, p.1, p.2) := x_region _ k3_17 s3_17
@[go_sem] theorem t3_17 (d : Tmp) : takes g3_17 d = false := nr (by kernel_rfl)
noncomputable def g3_18 : Array Oper := regAt Go.Proofs.Try.f3 18
theorem s3_18 : strip g3_18 = [(some 4, (.assign (.const (.bool false))), none)] := nr (by kernel_rfl)
theorem k3_18 : guardsOk g3_18 = true := nr (by kernel_rfl)
@[go_sem] theorem x3_18 {h : Hd} {ro nt id : Nat} {fr : PT} {H : Hp} : ex cx h ro 3 nt (.region id g3_18 false) fr H = xbind (xrun cx h ro 3 nt g3_18 [(some 4, (.assign (.const (.bool false))), none)] fr H) fun p => some (.normal, p.1, p.2) := x_region _ k3_18 s3_18
@[go_sem] theorem t3_18 (d : Tmp) : takes g3_18 d = false := nr (by kernel_rfl)
noncomputable def g3_19 : Array Oper := regAt Go.Proofs.Try.f3 19
theorem s3_19 : strip g3_19 = [(some 66, (.move (.tmp 9)), none), (some 67, (.binOp .geq 3 (.tmp 66) (.const (.int .i64 0)) 3), none)] := nr (by kernel_rfl)
theorem k3_19 : guardsOk g3_19 = true := nr (by kernel_rfl)
@[go_sem] theorem x3_19 {h : Hd} {ro nt id : Nat} {fr : PT} {H : Hp} : ex cx h ro 3 nt (.region id g3_19 false) fr H = xbind (xrun cx h ro 3 nt g3_19 [(some 66, (.move (.tmp 9)), none), (some 67, (.binOp .geq 3 (.tmp 66) (.const (.int .i64 0)) 3), none)] fr H) fun p => some (.normal, p.1, p.2) := x_region _ k3_19 s3_19
@[go_sem] theorem t3_19 (d : Tmp) : takes g3_19 d = false := nr (by kernel_rfl)
noncomputable def g3_20 : Array Oper := regAt Go.Proofs.Try.f3 20
theorem s3_20 : strip g3_20 = [(some 68, (.move (.tmp 7)), none), (some 69, (.move (.tmp 9)), none), (some 70, (.indexAddr 26 (.tmp 68) (.tmp 69)), none), (none, (.store 4 (.tmp 70) (.const (.bool true))), none)] := nr (by kernel_rfl)
theorem k3_20 : guardsOk g3_20 = true := nr (by kernel_rfl)
@[go_sem] theorem x3_20 {h : Hd} {ro nt id : Nat} {fr : PT} {H : Hp} : ex cx h ro 3 nt (.region id g3_20 false) fr H = xbind (xrun cx h ro 3 nt g3_20 [(some 68, (.move (.tmp 7)), none), (some 69, (.move (.tmp 9)), none), (some 70, (.indexAddr 26 (.tmp 68) (.tmp 69)), none), (none, (.store 4 (.tmp 70) (.const (.bool true))), none)] fr H) fun p => some (.normal, p.1, p.2) := x_region _ k3_20 s3_20
@[go_sem] theorem t3_20 (d : Tmp) : takes g3_20 d = false := nr (by kernel_rfl)
noncomputable def g3_21 : Array Oper := regAt Go.Proofs.Try.f3 21
theorem s3_21 : strip g3_21 = [(some 71, (.move (.tmp 1)), none), (some 72, (.move (.tmp 8)), none), (some 73, (.indexAddr 22 (.tmp 71) (.tmp 72)), none), (some 74, (.load 5 (.tmp 73)), none), (some 75, (.binOp .gtr 5 (.tmp 74) (.const (.int .u8 99)) 5), none)] := nr (by kernel_rfl)
theorem k3_21 : guardsOk g3_21 = true := nr (by kernel_rfl)
@[go_sem] theorem x3_21 {h : Hd} {ro nt id : Nat} {fr : PT} {H : Hp} : ex cx h ro 3 nt (.region id g3_21 false) fr H = xbind (xrun cx h ro 3 nt g3_21 [(some 71, (.move (.tmp 1)), none), (some 72, (.move (.tmp 8)), none), (some 73, (.indexAddr 22 (.tmp 71) (.tmp 72)), none), (some 74, (.load 5 (.tmp 73)), none), (some 75, (.binOp .gtr 5 (.tmp 74) (.const (.int .u8 99)) 5), none)] fr H) fun p => some (.normal, p.1, p.2) := x_region _ k3_21 s3_21
@[go_sem] theorem t3_21 (d : Tmp) : takes g3_21 d = false := nr (by kernel_rfl)
noncomputable def g3_22 : Array Oper := regAt Go.Proofs.Try.f3 22
theorem s3_22 : strip g3_22 = [(some 76, (.move (.tmp 1)), none), (some 77, (.move (.tmp 8)), none), (some 78, (.indexAddr 22 (.tmp 76) (.tmp 77)), none), (some 79, (.load 5 (.tmp 78)), none), (some 80, (.convert 5 3 (.tmp 79)), none), (some 81, (.move (.tmp 5)), none), (some 82, (.binOp .rem 3 (.tmp 80) (.tmp 81) 3), none), (some 13, (.assign (.tmp 82)), none)] := nr (by kernel_rfl)
theorem k3_22 : guardsOk g3_22 = true := nr (by kernel_rfl)
@[go_sem] theorem x3_22 {h : Hd} {ro nt id : Nat} {fr : PT} {H : Hp} : ex cx h ro 3 nt (.region id g3_22 false) fr H = xbind (xrun cx h ro 3 nt g3_22 [(some 76, (.move (.tmp 1)), none), (some 77, (.move (.tmp 8)), none), (some 78, (.indexAddr 22 (.tmp 76) (.tmp 77)), none), (some 79, (.load 5 (.tmp 78)), none), (some 80, (.convert 5 3 (.tmp 79)), none), (some 81, (.move (.tmp 5)), none), (some 82, (.binOp .rem 3 (.tmp 80) (.tmp 81) 3), none), (some 13, (.assign (.tmp 82)), none)] fr H) fun p => some (.normal, p.1, p.2) := x_region _ k3_22 s3_22
@[go_sem] theorem t3_22 (d : Tmp) : takes g3_22 d = false := nr (by kernel_rfl)
noncomputable def g3_23 : Array Oper := regAt Go.Proofs.Try.f3 23
theorem s3_23 : strip g3_23 = [(some 83, (.move (.tmp 6)), none), (some 84, (.move (.tmp 13)), none), (some 85, (.call ⟨(.value (.func 36)), #[(.tmp 83), (.tmp 84)], #[24, 3]⟩), none), (some 86, (.binOp .eql 27 (.tmp 85) (.const (.int .i64 0)) 27), none), (some 87, (.move (.tmp 7)), none), (some 88, (.move (.tmp 13)), none), (some 89, (.indexAddr 26 (.tmp 87) (.tmp 88)), none), (some 90, (.load 4 (.tmp 89)), none), (some 91, (.binOp .neq 4 (.tmp 86) (.tmp 90) 4), none)] := nr (by kernel_rfl)
theorem k3_23 : guardsOk g3_23 = true := nr (by kernel_rfl)
theorem u3_23 : stripU cx 3 g3_23 = [(0, 0, [], (some 83, (.move (.tmp 6)), none)), (1, 0, [0], (some 84, (.move (.tmp 13)), none)), (2, 0, [], (some 85, (.call ⟨(.value (.func 36)), #[(.tmp 83), (.tmp 84)], #[24, 3]⟩), none)), (3, 0, [], (some 86, (.binOp .eql 27 (.tmp 85) (.const (.int .i64 0)) 27), none)), (4, 0, [0, 1, 2, 3], (some 87, (.move (.tmp 7)), none)), (5, 0, [0, 1, 2, 3, 4], (some 88, (.move (.tmp 13)), none)), (6, 0, [0, 1, 2, 3], (some 89, (.indexAddr 26 (.tmp 87) (.tmp 88)), none)), (7, 0, [0, 1, 2, 3], (some 90, (.load 4 (.tmp 89)), none)), (8, 0, [], (some 91, (.binOp .neq 4 (.tmp 86) (.tmp 90) 4), none))] := nr (by kernel_rfl)
@[go_sem] theorem x3_23 {h : Hd} {ro nt id : Nat} {fr : PT} {H : Hp} : ex cx h ro 3 nt (.region id g3_23 true) fr H = orRaw (xrunU cx h ro 3 nt g3_23 H.length [(0, 0, [], (some 83, (.move (.tmp 6)), none)), (1, 0, [0], (some 84, (.move (.tmp 13)), none)), (2, 0, [], (some 85, (.call ⟨(.value (.func 36)), #[(.tmp 83), (.tmp 84)], #[24, 3]⟩), none)), (3, 0, [], (some 86, (.binOp .eql 27 (.tmp 85) (.const (.int .i64 0)) 27), none)), (4, 0, [0, 1, 2, 3], (some 87, (.move (.tmp 7)), none)), (5, 0, [0, 1, 2, 3, 4], (some 88, (.move (.tmp 13)), none)), (6, 0, [0, 1, 2, 3], (some 89, (.indexAddr 26 (.tmp 87) (.tmp 88)), none)), (7, 0, [0, 1, 2, 3], (some 90, (.load 4 (.tmp 89)), none)), (8, 0, [], (some 91, (.binOp .neq 4 (.tmp 86) (.tmp 90) 4), none))] fr (H ++ List.replicate 0 .res) []) fun _ => regionRaw cx h ro 3 nt g3_23 fr H := x_regionU _ _ k3_23 (nr (by kernel_rfl)) (nr (by kernel_rfl)) u3_23 (nr (by kernel_rfl))
@[go_sem] theorem t3_23 (d : Tmp) : takes g3_23 d = false := nr (by kernel_rfl)
noncomputable def g3_24 : Array Oper := regAt Go.Proofs.Try.f3 24
theorem s3_24 : strip g3_24 = [(some 4, (.assign (.const (.bool false))), none)] := nr (by kernel_rfl)
theorem k3_24 : guardsOk g3_24 = true := nr (by kernel_rfl)
@[go_sem] theorem x3_24 {h : Hd} {ro nt id : Nat} {fr : PT} {H : Hp} : ex cx h ro 3 nt (.region id g3_24 false) fr H = xbind (xrun cx h ro 3 nt g3_24 [(some 4, (.assign (.const (.bool false))), none)] fr H) fun p => some (.normal, p.1, p.2) := x_region _ k3_24 s3_24
@[go_sem] theorem t3_24 (d : Tmp) : takes g3_24 d = false := nr (by kernel_rfl)
noncomputable def g3_25 : Array Oper := regAt Go.Proofs.Try.f3 25
theorem s3_25 : strip g3_25 = [(some 92, (.move (.tmp 7)), none), (some 93, (.move (.tmp 13)), none), (some 94, (.indexAddr 26 (.tmp 92) (.tmp 93)), none), (none, (.store 4 (.tmp 94) (.const (.bool false))), none)] := nr (by kernel_rfl)
theorem k3_25 : guardsOk g3_25 = true := nr (by kernel_rfl)
@[go_sem] theorem x3_25 {h : Hd} {ro nt id : Nat} {fr : PT} {H : Hp} : ex cx h ro 3 nt (.region id g3_25 false) fr H = xbind (xrun cx h ro 3 nt g3_25 [(some 92, (.move (.tmp 7)), none), (some 93, (.move (.tmp 13)), none), (some 94, (.indexAddr 26 (.tmp 92) (.tmp 93)), none), (none, (.store 4 (.tmp 94) (.const (.bool false))), none)] fr H) fun p => some (.normal, p.1, p.2) := x_region _ k3_25 s3_25
@[go_sem] theorem t3_25 (d : Tmp) : takes g3_25 d = false := nr (by kernel_rfl)
noncomputable def g3_26 : Array Oper := regAt Go.Proofs.Try.f3 26
theorem s3_26 : strip g3_26 = [(some 14, (.assign (.const (.slice none 0 0))), none)] := nr (by kernel_rfl)
theorem k3_26 : guardsOk g3_26 = true := nr (by kernel_rfl)
@[go_sem] theorem x3_26 {h : Hd} {ro nt id : Nat} {fr : PT} {H : Hp} : ex cx h ro 3 nt (.region id g3_26 false) fr H = xbind (xrun cx h ro 3 nt g3_26 [(some 14, (.assign (.const (.slice none 0 0))), none)] fr H) fun p => some (.normal, p.1, p.2) := x_region _ k3_26 s3_26
@[go_sem] theorem t3_26 (d : Tmp) : takes g3_26 d = false := nr (by kernel_rfl)
noncomputable def g3_27 : Array Oper := regAt Go.Proofs.Try.f3 27
theorem s3_27 : strip g3_27 = [(some 15, (.assign (.const (.int .i64 0))), none)] := nr (by kernel_rfl)
theorem k3_27 : guardsOk g3_27 = true := nr (by kernel_rfl)
@[go_sem] theorem x3_27 {h : Hd} {ro nt id : Nat} {fr : PT} {H : Hp} : ex cx h ro 3 nt (.region id g3_27 false) fr H = xbind (xrun cx h ro 3 nt g3_27 [(some 15, (.assign (.const (.int .i64 0))), none)] fr H) fun p => some (.normal, p.1, p.2) := x_region _ k3_27 s3_27
@[go_sem] theorem t3_27 (d : Tmp) : takes g3_27 d = false := nr (by kernel_rfl)
noncomputable def g3_28 : Array Oper := regAt Go.Proofs.Try.f3 28
theorem s3_28 : strip g3_28 = [(some 95, (.move (.tmp 15)), none), (some 96, (.move (.tmp 5)), none), (some 97, (.binOp .lss 3 (.tmp 95) (.tmp 96) 3), none)] := nr (by kernel_rfl)
theorem k3_28 : guardsOk g3_28 = true := nr (by kernel_rfl)
@[go_sem] theorem x3_28 {h : Hd} {ro nt id : Nat} {fr : PT} {H : Hp} : ex cx h ro 3 nt (.region id g3_28 false) fr H = xbind (xrun cx h ro 3 nt g3_28 [(some 95, (.move (.tmp 15)), none), (some 96, (.move (.tmp 5)), none), (some 97, (.binOp .lss 3 (.tmp 95) (.tmp 96) 3), none)] fr H) fun p => some (.normal, p.1, p.2) := x_region _ k3_28 s3_28
@[go_sem] theorem t3_28 (d : Tmp) : takes g3_28 d = false := nr (by kernel_rfl)
noncomputable def g3_29 : Array Oper := regAt Go.Proofs.Try.f3 29
theorem s3_29 : strip g3_29 = [(some 100, (.move (.tmp 7)), none), (some 101, (.move (.tmp 15)), none), (some 102, (.indexAddr 26 (.tmp 100) (.tmp 101)), none), (some 103, (.load 4 (.tmp 102)), none)] := nr (by kernel_rfl)
theorem k3_29 : guardsOk g3_29 = true := nr (by kernel_rfl)
@[go_sem] theorem x3_29 {h : Hd} {ro nt id : Nat} {fr : PT} {H : Hp} : ex cx h ro 3 nt (.region id g3_29 false) fr H = xbind (xrun cx h ro 3 nt g3_29 [(some 100, (.move (.tmp 7)), none), (some 101, (.move (.tmp 15)), none), (some 102, (.indexAddr 26 (.tmp 100) (.tmp 101)), none), (some 103, (.load 4 (.tmp 102)), none)] fr H) fun p => some (.normal, p.1, p.2) := x_region _ k3_29 s3_29
@[go_sem] theorem t3_29 (d : Tmp) : takes g3_29 d = false := nr (by kernel_rfl)
noncomputable def g3_30 : Array Oper := regAt Go.Proofs.Try.f3 30
theorem s3_30 : strip g3_30 = [(some 104, (.move (.tmp 14)), none), (some 105, (.move (.tmp 15)), none), (some 106, (.buildSlice 31 1 #[(0, (.tmp 105))]), none), (some 107, (.call ⟨(.builtin .append), #[(.tmp 104), (.tmp 106)], #[31, 31]⟩), none), (some 14, (.assign (.tmp 107)), none)] := nr (by kernel_rfl)
theorem k3_30 : guardsOk g3_30 = true := nr (by kernel_rfl)
@[go_sem] theorem x3_30 {h : Hd} {ro nt id : Nat} {fr : PT} {H : Hp} : ex cx h ro 3 nt (.region id g3_30 false) fr H = xbind (xrun cx h ro 3 nt g3_30 [(some 104, (.move (.tmp 14)), none), (some 105, (.move (.tmp 15)), none), (some 106, (.buildSlice 31 1 #[(0, (.tmp 105))]), none), (some 107, (.call ⟨(.builtin .append), #[(.tmp 104), (.tmp 106)], #[31, 31]⟩), none), (some 14, (.assign (.tmp 107)), none)] fr H) fun p => some (.normal, p.1, p.2) := x_region _ k3_30 s3_30
@[go_sem] theorem t3_30_104 : takes g3_30 104 = true := nr (by kernel_rfl)
@[go_sem] theorem t3_30_105 : takes g3_30 105 = false := nr (by kernel_rfl)
@[go_sem] theorem t3_30_106 : takes g3_30 106 = false := nr (by kernel_rfl)
@[go_sem] theorem t3_30_107 : takes g3_30 107 = false := nr (by kernel_rfl)
@[go_sem] theorem t3_30_14 : takes g3_30 14 = false := nr (by kernel_rfl)
noncomputable def g3_31 : Array Oper := regAt Go.Proofs.Try.f3 31
theorem s3_31 : strip g3_31 = [(some 98, (.move (.tmp 15)), none), (some 99, (.binOp .add 3 (.tmp 98) (.const (.int .i64 1)) 3), none), (some 15, (.assign (.tmp 99)), none)] := nr (by kernel_rfl)
theorem k3_31 : guardsOk g3_31 = true := nr (by kernel_rfl)
@[go_sem] theorem x3_31 {h : Hd} {ro nt id : Nat} {fr : PT} {H : Hp} : ex cx h ro 3 nt (.region id g3_31 false) fr H = xbind (xrun cx h ro 3 nt g3_31 [(some 98, (.move (.tmp 15)), none), (some 99, (.binOp .add 3 (.tmp 98) (.const (.int .i64 1)) 3), none), (some 15, (.assign (.tmp 99)), none)] fr H) fun p => some (.normal, p.1, p.2) := x_region _ k3_31 s3_31
@[go_sem] theorem t3_31 (d : Tmp) : takes g3_31 d = false := nr (by kernel_rfl)
noncomputable def g3_32 : Array Oper := regAt Go.Proofs.Try.f3 32
theorem s3_32 : strip g3_32 = [(some 108, (.move (.tmp 6)), none), (some 109, (.call ⟨(.value (.func 38)), #[(.tmp 108)], #[24]⟩), none), (some 110, (.move (.tmp 14)), none), (some 111, (.call ⟨(.value (.func 37)), #[(.tmp 109), (.tmp 110)], #[31, 31]⟩), none), (some 112, (.unOp .not 4 (.tmp 111)), none)] := nr (by kernel_rfl)
theorem k3_32 : guardsOk g3_32 = true := nr (by kernel_rfl)
@[go_sem] theorem x3_32 {h : Hd} {ro nt id : Nat} {fr : PT} {H : Hp} : ex cx h ro 3 nt (.region id g3_32 false) fr H = xbind (xrun cx h ro 3 nt g3_32 [(some 108, (.move (.tmp 6)), none), (some 109, (.call ⟨(.value (.func 38)), #[(.tmp 108)], #[24]⟩), none), (some 110, (.move (.tmp 14)), none), (some 111, (.call ⟨(.value (.func 37)), #[(.tmp 109), (.tmp 110)], #[31, 31]⟩), none), (some 112, (.unOp .not 4 (.tmp 111)), none)] fr H) fun p => some (.normal, p.1, p.2) := x_region _ k3_32 s3_32
@[go_sem] theorem t3_32 (d : Tmp) : takes g3_32 d = false := nr (by kernel_rfl)
noncomputable def g3_33 : Array Oper := regAt Go.Proofs.Try.f3 33
theorem s3_33 : strip g3_33 = [(some 4, (.assign (.const (.bool false))), none)] := nr (by kernel_rfl)
theorem k3_33 : guardsOk g3_33 = true := nr (by kernel_rfl)
@[go_sem] theorem x3_33 {h : Hd} {ro nt id : Nat} {fr : PT} {H : Hp} : ex cx h ro 3 nt (.region id g3_33 false) fr H = xbind (xrun cx h ro 3 nt g3_33 [(some 4, (.assign (.const (.bool false))), none)] fr H) fun p => some (.normal, p.1, p.2) := x_region _ k3_33 s3_33
@[go_sem] theorem t3_33 (d : Tmp) : takes g3_33 d = false := nr (by kernel_rfl)
noncomputable def g3_34 : Array Oper := regAt Go.Proofs.Try.f3 34
theorem s3_34 : strip g3_34 = [(some 36, (.move (.tmp 8)), none), (some 37, (.binOp .add 3 (.tmp 36) (.const (.int .i64 1)) 3), none), (some 8, (.assign (.tmp 37)), none)] := nr (by kernel_rfl)
theorem k3_34 : guardsOk g3_34 = true := nr (by kernel_rfl)
@[go_sem] theorem x3_34 {h : Hd} {ro nt id : Nat} {fr : PT} {H : Hp} : ex cx h ro 3 nt (.region id g3_34 false) fr H = xbind (xrun cx h ro 3 nt g3_34 [(some 36, (.move (.tmp 8)), none), (some 37, (.binOp .add 3 (.tmp 36) (.const (.int .i64 1)) 3), none), (some 8, (.assign (.tmp 37)), none)] fr H) fun p => some (.normal, p.1, p.2) := x_region _ k3_34 s3_34
@[go_sem] theorem t3_34 (d : Tmp) : takes g3_34 d = false := nr (by kernel_rfl)
noncomputable def g3_35 : Array Oper := regAt Go.Proofs.Try.f3 35
theorem s3_35 : strip g3_35 = [(some 4, (.assign (.const (.bool true))), none)] := nr (by kernel_rfl)
theorem k3_35 : guardsOk g3_35 = true := nr (by kernel_rfl)
@[go_sem] theorem x3_35 {h : Hd} {ro nt id : Nat} {fr : PT} {H : Hp} : ex cx h ro 3 nt (.region id g3_35 false) fr H = xbind (xrun cx h ro 3 nt g3_35 [(some 4, (.assign (.const (.bool true))), none)] fr H) fun p => some (.normal, p.1, p.2) := x_region _ k3_35 s3_35
@[go_sem] theorem t3_35 (d : Tmp) : takes g3_35 d = false := nr (by kernel_rfl)
noncomputable def l3_0 : Code := (.seq (.seq (.region 13 g3_12 false) (.cond (.tmp 41) .skip (.exit 2))) (.seq (.block 3 (.seq (.region 15 g3_13 false) (.cond (.tmp 48) (.region 16 g3_14 false) .skip))) (.region 14 g3_15 false)))
theorem dl3_0 {ro nt : Nat} {fr : PT} {H : Hp} : (den cx).loop ro 3 nt l3_0 fr H = xbind (ex cx (den cx) ro 3 nt (.seq (.seq (.region 13 g3_12 false) (.cond (.tmp 41) .skip (.exit 2))) (.seq (.block 3 (.seq (.region 15 g3_13 false) (.cond (.tmp 48) (.region 16 g3_14 false) .skip))) (.region 14 g3_15 false))) fr H) (contR (trimmed ((den cx).loop ro 3 nt l3_0) H.length)) := den_loop_x l3_0
noncomputable def l3_1 : Code := (.seq (.seq (.region 29 g3_28 false) (.cond (.tmp 97) .skip (.exit 4))) (.seq (.block 5 (.seq (.region 31 g3_29 false) (.cond (.tmp 103) (.region 32 g3_30 false) .skip))) (.region 30 g3_31 false)))
theorem dl3_1 {ro nt : Nat} {fr : PT} {H : Hp} : (den cx).loop ro 3 nt l3_1 fr H = xbind (ex cx (den cx) ro 3 nt (.seq (.seq (.region 29 g3_28 false) (.cond (.tmp 97) .skip (.exit 4))) (.seq (.block 5 (.seq (.region 31 g3_29 false) (.cond (.tmp 103) (.region 32 g3_30 false) .skip))) (.region 30 g3_31 false))) fr H) (contR (trimmed ((den cx).loop ro 3 nt l3_1) H.length)) := den_loop_x l3_1
noncomputable def l3_2 : Code := (.seq (.seq (.region 9 g3_9 false) (.cond (.tmp 35) .skip (.exit 0))) (.seq (.block 1 (.seq (.region 11 g3_10 false) (.seq (.seq (.region 12 g3_11 false) (.block 2 (.loop l3_0))) (.seq (.region 17 g3_16 false) (.seq (.seq (.region 18 g3_17 false) (.cond (.tmp 65) (.seq (.region 19 g3_18 false) .ret) .skip)) (.seq (.seq (.region 20 g3_19 false) (.cond (.tmp 67) (.region 21 g3_20 false) .skip)) (.seq (.seq (.region 22 g3_21 false) (.cond (.tmp 75) (.seq (.region 23 g3_22 false) (.seq (.seq (.region 24 g3_23 true) (.cond (.tmp 91) (.seq (.region 25 g3_24 false) .ret) .skip)) (.region 26 g3_25 false))) .skip)) (.seq (.region 27 g3_26 false) (.seq (.seq (.region 28 g3_27 false) (.block 4 (.loop l3_1))) (.seq (.region 33 g3_32 false) (.cond (.tmp 112) (.seq (.region 34 g3_33 false) .ret) .skip))))))))))) (.region 10 g3_34 false)))
theorem dl3_2 {ro nt : Nat} {fr : PT} {H : Hp} : (den cx).loop ro 3 nt l3_2 fr H = xbind (ex cx (den cx) ro 3 nt (.seq (.seq (.region 9 g3_9 false) (.cond (.tmp 35) .skip (.exit 0))) (.seq (.block 1 (.seq (.region 11 g3_10 false) (.seq (.seq (.region 12 g3_11 false) (.block 2 (.loop l3_0))) (.seq (.region 17 g3_16 false) (.seq (.seq (.region 18 g3_17 false) (.cond (.tmp 65) (.seq (.region 19 g3_18 false) .ret) .skip)) (.seq (.seq (.region 20 g3_19 false) (.cond (.tmp 67) (.region 21 g3_20 false) .skip)) (.seq (.seq (.region 22 g3_21 false) (.cond (.tmp 75) (.seq (.region 23 g3_22 false) (.seq (.seq (.region 24 g3_23 true) (.cond (.tmp 91) (.seq (.region 25 g3_24 false) .ret) .skip)) (.region 26 g3_25 false))) .skip)) (.seq (.region 27 g3_26 false) (.seq (.seq (.region 28 g3_27 false) (.block 4 (.loop l3_1))) (.seq (.region 33 g3_32 false) (.cond (.tmp 112) (.seq (.region 34 g3_33 false) .ret) .skip))))))))))) (.region 10 g3_34 false))) fr H) (contR (trimmed ((den cx).loop ro 3 nt l3_2) H.length)) := den_loop_x l3_2
theorem b3 : Go.Proofs.Try.f3.body = some (.seq (.region 0 g3_0 false) (.seq (.seq (.region 1 g3_1 false) (.cond (.tmp 17) (.seq (.region 2 g3_2 false) .ret) .skip)) (.seq (.region 3 g3_3 false) (.seq (.region 4 g3_4 false) (.seq (.seq (.region 5 g3_5 false) (.cond (.tmp 25) (.seq (.region 6 g3_6 false) .ret) .skip)) (.seq (.region 7 g3_7 false) (.seq (.seq (.region 8 g3_8 false) (.block 0 (.loop l3_2))) (.seq (.region 35 g3_35 false) .ret)))))))) := by kernel_rfl
theorem c3 {h : Hd} {ro : Nat} {H : Hp} (a0 a1 : AV) : callB cx h ro 3 [a0, a1] H = returned cx [(.tmp 4)] (ex cx h ro 3 113 (.seq (.region 0 g3_0 false) (.seq (.seq (.region 1 g3_1 false) (.cond (.tmp 17) (.seq (.region 2 g3_2 false) .ret) .skip)) (.seq (.region 3 g3_3 false) (.seq (.region 4 g3_4 false) (.seq (.seq (.region 5 g3_5 false) (.cond (.tmp 25) (.seq (.region 6 g3_6 false) .ret) .skip)) (.seq (.region 7 g3_7 false) (.seq (.seq (.region 8 g3_8 false) (.block 0 (.loop l3_2))) (.seq (.region 35 g3_35 false) .ret)))))))) ((PT.nil.set 0 (drp a0)).set 1 (drp a1)) H) := by
  have hf : cx.fns 3 = some Go.Proofs.Try.f3 := by kernel_rfl
  simp only [callB, hf, funced, b3, bodied]
  rfl
end Go.Abs.Tab
