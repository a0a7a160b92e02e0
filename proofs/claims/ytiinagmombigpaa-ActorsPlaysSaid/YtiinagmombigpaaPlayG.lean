/- Codes of this seat's functions, their regions step by step. (Printed by a program.) -/
import Derived.Test.YtiinagmombigpaaEvY
set_option linter.unusedSimpArgs false
set_option linter.unusedVariables false
set_option linter.unnecessarySimpa false

/- Codes of this seat's functions, their regions step by step. (Printed by a program.) -/
set_option linter.unusedVariables false
namespace Go.Abs.Tab
/-! function 39: colloquy/colloquyref22.New -/
noncomputable def g39_0 : Array Oper := regAt Go.Proofs.Try.f39 0
theorem k39_0 : guardsOk g39_0 = true := nr (by kernel_rfl)
@[go_sem] theorem x39_0 {h : Hd} {ro nt id : Nat} {fr : PT} {H : Hp} : ex cx h ro 39 nt (.region id g39_0 false) fr H = xbind (xrun cx h ro 39 nt g39_0 [(some 2, (.assign (.const (.pointer none))), none)] fr H) fun p => some (.normal, p.1, p.2) := x_region _ k39_0 (nr (by kernel_rfl))
@[go_sem] theorem t39_0 (d : Tmp) : takes g39_0 d = false := nr (by kernel_rfl)
noncomputable def g39_1 : Array Oper := regAt Go.Proofs.Try.f39 1
theorem k39_1 : guardsOk g39_1 = true := nr (by kernel_rfl)
@[go_sem] theorem x39_1 {h : Hd} {ro nt id : Nat} {fr : PT} {H : Hp} : ex cx h ro 39 nt (.region id g39_1 false) fr H = xbind (xrun cx h ro 39 nt g39_1 [(some 3, (.move (.tmp 0)), none), (some 4, (.binOp .lss 3 (.tmp 3) (.const (.int .i64 1)) 3), none), (some 5, (.move (.tmp 4)), none), (some 6, (.move (.tmp 0)), some (5, false)), (some 7, (.binOp .gtr 3 (.tmp 6) (.const (.int .i64 32)) 3), some (5, false)), (some 8, (.pick (.tmp 5) (.const (.bool true)) (.tmp 7)), none)] fr H) fun p => some (.normal, p.1, p.2) := x_region _ k39_1 (nr (by kernel_rfl))
@[go_sem] theorem t39_1 (d : Tmp) : takes g39_1 d = false := nr (by kernel_rfl)
noncomputable def g39_2 : Array Oper := regAt Go.Proofs.Try.f39 2
theorem k39_2 : guardsOk g39_2 = true := nr (by kernel_rfl)
@[go_sem] theorem x39_2 {h : Hd} {ro nt id : Nat} {fr : PT} {H : Hp} : ex cx h ro 39 nt (.region id g39_2 false) fr H = xbind (xrun cx h ro 39 nt g39_2 [(some 2, (.assign (.const (.pointer none))), none)] fr H) fun p => some (.normal, p.1, p.2) := x_region _ k39_2 (nr (by kernel_rfl))
@[go_sem] theorem t39_2 (d : Tmp) : takes g39_2 d = false := nr (by kernel_rfl)
noncomputable def g39_3 : Array Oper := regAt Go.Proofs.Try.f39 3
theorem k39_3 : guardsOk g39_3 = true := nr (by kernel_rfl)
@[go_sem] theorem x39_3 {h : Hd} {ro nt id : Nat} {fr : PT} {H : Hp} : ex cx h ro 39 nt (.region id g39_3 true) fr H = orRaw (xrunU cx h ro 39 nt g39_3 H.length [(0, 0, [], (some 9, (.move (.tmp 0)), none)), (1, 0, [], (some 10, (.makeSlice 26 (.tmp 9) (.tmp 9)), none)), (2, 1, [0, 1], (some 11, (.move (.tmp 0)), none)), (3, 1, [0, 1], (some 12, (.makeSlice 190 (.tmp 11) (.tmp 11)), none)), (4, 2, [], (some 13, (.build 192 #[(0, (.tmp 10)), (1, (.tmp 12))]), none)), (5, 2, [], (some 14, (.box 192 (.tmp 13)), none)), (6, 3, [], (some 2, (.assign (.tmp 14)), none))] fr (H ++ List.replicate 3 .res) []) fun _ => regionRaw cx h ro 39 nt g39_3 fr H := x_regionU _ _ k39_3 (nr (by kernel_rfl)) (nr (by kernel_rfl)) (nr (by kernel_rfl)) (nr (by kernel_rfl))
@[go_sem] theorem t39_3 (d : Tmp) : takes g39_3 d = false := nr (by kernel_rfl)
theorem b39 : Go.Proofs.Try.f39.body = some (.seq (.region 0 g39_0 false) (.seq (.seq (.region 1 g39_1 false) (.cond (.tmp 8) (.seq (.region 2 g39_2 false) .ret) .skip)) (.seq (.region 3 g39_3 true) .ret))) := by kernel_rfl
theorem c39 {h : Hd} {ro : Nat} {H : Hp} (a0 : AV) : callB cx h ro 39 [a0] H = returned cx [(.tmp 2)] (ex cx h ro 39 15 (.seq (.region 0 g39_0 false) (.seq (.seq (.region 1 g39_1 false) (.cond (.tmp 8) (.seq (.region 2 g39_2 false) .ret) .skip)) (.seq (.region 3 g39_3 true) .ret))) (PT.nil.set 0 (drp a0)) H) := by
  have hf : cx.fns 39 = some Go.Proofs.Try.f39 := by kernel_rfl
  simp only [callB, hf, funced, b39, bodied]
  rfl
/-! function 40: (*colloquy/colloquyref22.Table).Add -/
noncomputable def g40_0 : Array Oper := regAt Go.Proofs.Try.f40 0
theorem k40_0 : guardsOk g40_0 = true := nr (by kernel_rfl)
@[go_sem] theorem x40_0 {h : Hd} {ro nt id : Nat} {fr : PT} {H : Hp} : ex cx h ro 40 nt (.region id g40_0 false) fr H = xbind (xrun cx h ro 40 nt g40_0 [(some 6, (.assign (.const (.int .i64 0))), none), (some 7, (.assign (.const (.int .i64 0))), none)] fr H) fun p => some (.normal, p.1, p.2) := x_region _ k40_0 (nr (by kernel_rfl))
@[go_sem] theorem t40_0 (d : Tmp) : takes g40_0 d = false := nr (by kernel_rfl)
noncomputable def g40_1 : Array Oper := regAt Go.Proofs.Try.f40 1
theorem k40_1 : guardsOk g40_1 = true := nr (by kernel_rfl)
@[go_sem] theorem x40_1 {h : Hd} {ro nt id : Nat} {fr : PT} {H : Hp} : ex cx h ro 40 nt (.region id g40_1 false) fr H = xbind (xrun cx h ro 40 nt g40_1 [(some 11, (.move (.tmp 2)), none), (some 12, (.call ⟨(.builtin .len), #[(.tmp 11)], #[39]⟩), none), (some 13, (.binOp .gtr 3 (.tmp 12) (.const (.int .i64 16)) 3), none)] fr H) fun p => some (.normal, p.1, p.2) := x_region _ k40_1 (nr (by kernel_rfl))
@[go_sem] theorem t40_1 (d : Tmp) : takes g40_1 d = false := nr (by kernel_rfl)
noncomputable def g40_2 : Array Oper := regAt Go.Proofs.Try.f40 2
theorem k40_2 : guardsOk g40_2 = true := nr (by kernel_rfl)
@[go_sem] theorem x40_2 {h : Hd} {ro nt id : Nat} {fr : PT} {H : Hp} : ex cx h ro 40 nt (.region id g40_2 false) fr H = xbind (xrun cx h ro 40 nt g40_2 [(some 6, (.assign (.const (.int .i64 (-1)))), none), (some 7, (.assign (.const (.int .i64 2))), none)] fr H) fun p => some (.normal, p.1, p.2) := x_region _ k40_2 (nr (by kernel_rfl))
@[go_sem] theorem t40_2 (d : Tmp) : takes g40_2 d = false := nr (by kernel_rfl)
noncomputable def g40_3 : Array Oper := regAt Go.Proofs.Try.f40 3
theorem k40_3 : guardsOk g40_3 = true := nr (by kernel_rfl)
@[go_sem] theorem x40_3 {h : Hd} {ro nt id : Nat} {fr : PT} {H : Hp} : ex cx h ro 40 nt (.region id g40_3 false) fr H = xbind (xrun cx h ro 40 nt g40_3 [(some 8, (.assign (.const (.int .i64 0))), none)] fr H) fun p => some (.normal, p.1, p.2) := x_region _ k40_3 (nr (by kernel_rfl))
@[go_sem] theorem t40_3 (d : Tmp) : takes g40_3 d = false := nr (by kernel_rfl)
noncomputable def g40_4 : Array Oper := regAt Go.Proofs.Try.f40 4
theorem k40_4 : guardsOk g40_4 = true := nr (by kernel_rfl)
@[go_sem] theorem x40_4 {h : Hd} {ro nt id : Nat} {fr : PT} {H : Hp} : ex cx h ro 40 nt (.region id g40_4 false) fr H = xbind (xrun cx h ro 40 nt g40_4 [(some 14, (.move (.tmp 8)), none), (some 15, (.move (.tmp 0)), none), (some 16, (.nilCheck (.tmp 15)), none), (some 17, (.fieldAddr 192 (.tmp 16) 1), none), (some 18, (.load 190 (.tmp 17)), none), (some 19, (.call ⟨(.builtin .len), #[(.tmp 18)], #[190]⟩), none), (some 20, (.binOp .lss 3 (.tmp 14) (.tmp 19) 3), none)] fr H) fun p => some (.normal, p.1, p.2) := x_region _ k40_4 (nr (by kernel_rfl))
@[go_sem] theorem t40_4 (d : Tmp) : takes g40_4 d = false := nr (by kernel_rfl)
noncomputable def g40_5 : Array Oper := regAt Go.Proofs.Try.f40 5
theorem k40_5 : guardsOk g40_5 = true := nr (by kernel_rfl)
@[go_sem] theorem x40_5 {h : Hd} {ro nt id : Nat} {fr : PT} {H : Hp} : ex cx h ro 40 nt (.region id g40_5 false) fr H = xbind (xrun cx h ro 40 nt g40_5 [(some 23, (.move (.tmp 0)), none), (some 24, (.nilCheck (.tmp 23)), none), (some 25, (.fieldAddr 192 (.tmp 24) 0), none), (some 26, (.load 26 (.tmp 25)), none), (some 27, (.move (.tmp 8)), none), (some 28, (.indexAddr 26 (.tmp 26) (.tmp 27)), none), (some 29, (.load 4 (.tmp 28)), none)] fr H) fun p => some (.normal, p.1, p.2) := x_region _ k40_5 (nr (by kernel_rfl))
@[go_sem] theorem t40_5 (d : Tmp) : takes g40_5 d = false := nr (by kernel_rfl)
noncomputable def g40_6 : Array Oper := regAt Go.Proofs.Try.f40 6
theorem k40_6 : guardsOk g40_6 = true := nr (by kernel_rfl)
@[go_sem] theorem x40_6 {h : Hd} {ro nt id : Nat} {fr : PT} {H : Hp} : ex cx h ro 40 nt (.region id g40_6 false) fr H = xbind (xrun cx h ro 40 nt g40_6 [(some 30, (.move (.tmp 1)), none), (some 31, (.build 45 #[(0, (.tmp 30))]), none), (some 9, (.alloc 45), none), (none, (.store 45 (.tmp 9) (.tmp 31)), none)] fr H) fun p => some (.normal, p.1, p.2) := x_region _ k40_6 (nr (by kernel_rfl))
@[go_sem] theorem t40_6 (d : Tmp) : takes g40_6 d = false := nr (by kernel_rfl)
noncomputable def g40_7 : Array Oper := regAt Go.Proofs.Try.f40 7
theorem k40_7 : guardsOk g40_7 = true := nr (by kernel_rfl)
@[go_sem] theorem x40_7 {h : Hd} {ro nt id : Nat} {fr : PT} {H : Hp} : ex cx h ro 40 nt (.region id g40_7 false) fr H = xbind (xrun cx h ro 40 nt g40_7 [(some 10, (.assign (.const (.int .i64 0))), none)] fr H) fun p => some (.normal, p.1, p.2) := x_region _ k40_7 (nr (by kernel_rfl))
@[go_sem] theorem t40_7 (d : Tmp) : takes g40_7 d = false := nr (by kernel_rfl)
noncomputable def g40_8 : Array Oper := regAt Go.Proofs.Try.f40 8
theorem k40_8 : guardsOk g40_8 = true := nr (by kernel_rfl)
@[go_sem] theorem x40_8 {h : Hd} {ro nt id : Nat} {fr : PT} {H : Hp} : ex cx h ro 40 nt (.region id g40_8 false) fr H = xbind (xrun cx h ro 40 nt g40_8 [(some 32, (.move (.tmp 10)), none), (some 33, (.move (.tmp 2)), none), (some 34, (.call ⟨(.builtin .len), #[(.tmp 33)], #[39]⟩), none), (some 35, (.binOp .lss 3 (.tmp 32) (.tmp 34) 3), none)] fr H) fun p => some (.normal, p.1, p.2) := x_region _ k40_8 (nr (by kernel_rfl))
@[go_sem] theorem t40_8 (d : Tmp) : takes g40_8 d = false := nr (by kernel_rfl)
noncomputable def g40_9 : Array Oper := regAt Go.Proofs.Try.f40 9
theorem k40_9 : guardsOk g40_9 = true := nr (by kernel_rfl)
@[go_sem] theorem x40_9 {h : Hd} {ro nt id : Nat} {fr : PT} {H : Hp} : ex cx h ro 40 nt (.region id g40_9 false) fr H = xbind (xrun cx h ro 40 nt g40_9 [(some 38, (.move (.tmp 10)), none), (some 39, (.move (.tmp 2)), none), (some 40, (.move (.tmp 10)), none), (some 41, (.indexAddr 39 (.tmp 39) (.tmp 40)), none), (some 42, (.load 2 (.tmp 41)), none), (some 43, (.fieldAddr 45 (.tmp 9) 3), none), (some 44, (.indexAddr 42 (.tmp 43) (.tmp 38)), none), (none, (.store 2 (.tmp 44) (.tmp 42)), none)] fr H) fun p => some (.normal, p.1, p.2) := x_region _ k40_9 (nr (by kernel_rfl))
@[go_sem] theorem t40_9 (d : Tmp) : takes g40_9 d = false := nr (by kernel_rfl)
noncomputable def g40_10 : Array Oper := regAt Go.Proofs.Try.f40 10
theorem k40_10 : guardsOk g40_10 = true := nr (by kernel_rfl)
@[go_sem] theorem x40_10 {h : Hd} {ro nt id : Nat} {fr : PT} {H : Hp} : ex cx h ro 40 nt (.region id g40_10 false) fr H = xbind (xrun cx h ro 40 nt g40_10 [(some 36, (.move (.tmp 10)), none), (some 37, (.binOp .add 3 (.tmp 36) (.const (.int .i64 1)) 3), none), (some 10, (.assign (.tmp 37)), none)] fr H) fun p => some (.normal, p.1, p.2) := x_region _ k40_10 (nr (by kernel_rfl))
@[go_sem] theorem t40_10 (d : Tmp) : takes g40_10 d = false := nr (by kernel_rfl)
noncomputable def g40_11 : Array Oper := regAt Go.Proofs.Try.f40 11
theorem k40_11 : guardsOk g40_11 = true := nr (by kernel_rfl)
@[go_sem] theorem x40_11 {h : Hd} {ro nt id : Nat} {fr : PT} {H : Hp} : ex cx h ro 40 nt (.region id g40_11 false) fr H = xbind (xrun cx h ro 40 nt g40_11 [(some 45, (.move (.tmp 0)), none), (some 46, (.nilCheck (.tmp 45)), none), (some 47, (.fieldAddr 192 (.tmp 46) 0), none), (some 48, (.load 26 (.tmp 47)), none), (some 49, (.move (.tmp 8)), none), (some 50, (.indexAddr 26 (.tmp 48) (.tmp 49)), none), (none, (.store 4 (.tmp 50) (.const (.bool true))), none)] fr H) fun p => some (.normal, p.1, p.2) := x_region _ k40_11 (nr (by kernel_rfl))
@[go_sem] theorem t40_11 (d : Tmp) : takes g40_11 d = false := nr (by kernel_rfl)
noncomputable def g40_12 : Array Oper := regAt Go.Proofs.Try.f40 12
theorem k40_12 : guardsOk g40_12 = true := nr (by kernel_rfl)
@[go_sem] theorem x40_12 {h : Hd} {ro nt id : Nat} {fr : PT} {H : Hp} : ex cx h ro 40 nt (.region id g40_12 true) fr H = orRaw (xrunU cx h ro 40 nt g40_12 H.length [(0, 0, [], (some 51, (.move (.tmp 0)), none)), (1, 0, [], (some 52, (.nilCheck (.tmp 51)), none)), (2, 0, [], (some 53, (.fieldAddr 192 (.tmp 52) 1), none)), (3, 0, [], (some 54, (.load 190 (.tmp 53)), none)), (4, 0, [0, 1, 2, 3], (some 55, (.move (.tmp 8)), none)), (5, 0, [0, 1, 2, 3, 4], (some 56, (.load 45 (.tmp 9)), none)), (6, 0, [], (some 57, (.indexAddr 190 (.tmp 54) (.tmp 55)), none)), (7, 0, [], (none, (.store 45 (.tmp 57) (.tmp 56)), none))] fr (H ++ List.replicate 0 .res) []) fun _ => regionRaw cx h ro 40 nt g40_12 fr H := x_regionU _ _ k40_12 (nr (by kernel_rfl)) (nr (by kernel_rfl)) (nr (by kernel_rfl)) (nr (by kernel_rfl))
@[go_sem] theorem t40_12 (d : Tmp) : takes g40_12 d = false := nr (by kernel_rfl)
noncomputable def g40_13 : Array Oper := regAt Go.Proofs.Try.f40 13
theorem k40_13 : guardsOk g40_13 = true := nr (by kernel_rfl)
@[go_sem] theorem x40_13 {h : Hd} {ro nt id : Nat} {fr : PT} {H : Hp} : ex cx h ro 40 nt (.region id g40_13 false) fr H = xbind (xrun cx h ro 40 nt g40_13 [(some 58, (.move (.tmp 8)), none), (some 6, (.assign (.tmp 58)), none), (some 7, (.assign (.const (.int .i64 0))), none)] fr H) fun p => some (.normal, p.1, p.2) := x_region _ k40_13 (nr (by kernel_rfl))
@[go_sem] theorem t40_13 (d : Tmp) : takes g40_13 d = false := nr (by kernel_rfl)
noncomputable def g40_14 : Array Oper := regAt Go.Proofs.Try.f40 14
theorem k40_14 : guardsOk g40_14 = true := nr (by kernel_rfl)
@[go_sem] theorem x40_14 {h : Hd} {ro nt id : Nat} {fr : PT} {H : Hp} : ex cx h ro 40 nt (.region id g40_14 false) fr H = xbind (xrun cx h ro 40 nt g40_14 [(some 21, (.move (.tmp 8)), none), (some 22, (.binOp .add 3 (.tmp 21) (.const (.int .i64 1)) 3), none), (some 8, (.assign (.tmp 22)), none)] fr H) fun p => some (.normal, p.1, p.2) := x_region _ k40_14 (nr (by kernel_rfl))
@[go_sem] theorem t40_14 (d : Tmp) : takes g40_14 d = false := nr (by kernel_rfl)
noncomputable def g40_15 : Array Oper := regAt Go.Proofs.Try.f40 15
theorem k40_15 : guardsOk g40_15 = true := nr (by kernel_rfl)
@[go_sem] theorem x40_15 {h : Hd} {ro nt id : Nat} {fr : PT} {H : Hp} : ex cx h ro 40 nt (.region id g40_15 false) fr H = xbind (xrun cx h ro 40 nt g40_15 [(some 6, (.assign (.const (.int .i64 (-1)))), none), (some 7, (.assign (.const (.int .i64 22))), none)] fr H) fun p => some (.normal, p.1, p.2) := x_region _ k40_15 (nr (by kernel_rfl))
@[go_sem] theorem t40_15 (d : Tmp) : takes g40_15 d = false := nr (by kernel_rfl)
noncomputable def l40_0 : Code := (.seq (.seq (.region 9 g40_8 false) (.cond (.tmp 35) .skip (.exit 2))) (.seq (.block 3 (.region 11 g40_9 false)) (.region 10 g40_10 false)))
theorem dl40_0 {ro nt : Nat} {fr : PT} {H : Hp} : (den cx).loop ro 40 nt l40_0 fr H = xbind (ex cx (den cx) ro 40 nt (.seq (.seq (.region 9 g40_8 false) (.cond (.tmp 35) .skip (.exit 2))) (.seq (.block 3 (.region 11 g40_9 false)) (.region 10 g40_10 false))) fr H) (contR (trimmed ((den cx).loop ro 40 nt l40_0) H.length)) := den_loop_x l40_0
noncomputable def l40_1 : Code := (.seq (.seq (.region 4 g40_4 false) (.cond (.tmp 20) .skip (.exit 0))) (.seq (.block 1 (.seq (.seq (.region 6 g40_5 false) (.cond (.tmp 29) (.exit 1) .skip)) (.seq (.region 7 g40_6 false) (.seq (.seq (.region 8 g40_7 false) (.block 2 (.loop l40_0))) (.seq (.region 12 g40_11 false) (.seq (.region 13 g40_12 true) (.seq (.region 14 g40_13 false) .ret))))))) (.region 5 g40_14 false)))
theorem dl40_1 {ro nt : Nat} {fr : PT} {H : Hp} : (den cx).loop ro 40 nt l40_1 fr H = xbind (ex cx (den cx) ro 40 nt (.seq (.seq (.region 4 g40_4 false) (.cond (.tmp 20) .skip (.exit 0))) (.seq (.block 1 (.seq (.seq (.region 6 g40_5 false) (.cond (.tmp 29) (.exit 1) .skip)) (.seq (.region 7 g40_6 false) (.seq (.seq (.region 8 g40_7 false) (.block 2 (.loop l40_0))) (.seq (.region 12 g40_11 false) (.seq (.region 13 g40_12 true) (.seq (.region 14 g40_13 false) .ret))))))) (.region 5 g40_14 false))) fr H) (contR (trimmed ((den cx).loop ro 40 nt l40_1) H.length)) := den_loop_x l40_1
theorem b40 : Go.Proofs.Try.f40.body = some (.seq (.region 0 g40_0 false) (.seq (.seq (.region 1 g40_1 false) (.cond (.tmp 13) (.seq (.region 2 g40_2 false) .ret) .skip)) (.seq (.seq (.region 3 g40_3 false) (.block 0 (.loop l40_1))) (.seq (.region 15 g40_15 false) .ret)))) := by kernel_rfl
theorem c40 {h : Hd} {ro : Nat} {H : Hp} (a0 a1 a2 : AV) : callB cx h ro 40 [a0, a1, a2] H = returned cx [(.tmp 6), (.tmp 7)] (ex cx h ro 40 59 (.seq (.region 0 g40_0 false) (.seq (.seq (.region 1 g40_1 false) (.cond (.tmp 13) (.seq (.region 2 g40_2 false) .ret) .skip)) (.seq (.seq (.region 3 g40_3 false) (.block 0 (.loop l40_1))) (.seq (.region 15 g40_15 false) .ret)))) (((PT.nil.set 0 (drp a0)).set 1 (drp a1)).set 2 (drp a2)) H) := by
  have hf : cx.fns 40 = some Go.Proofs.Try.f40 := by kernel_rfl
  simp only [callB, hf, funced, b40, bodied]
  rfl
/-! function 41: (*colloquy/actors.Table).Set -/
noncomputable def g41_0 : Array Oper := regAt Go.Proofs.Try.f41 0
theorem k41_0 : guardsOk g41_0 = true := nr (by kernel_rfl)
@[go_sem] theorem x41_0 {h : Hd} {ro nt id : Nat} {fr : PT} {H : Hp} : ex cx h ro 41 nt (.region id g41_0 false) fr H = xbind (xrun cx h ro 41 nt g41_0 [(some 5, (.box 44 (.tmp 2)), none), (some 6, (.assign (.const (.int .i64 0))), none)] fr H) fun p => some (.normal, p.1, p.2) := x_region _ k41_0 (nr (by kernel_rfl))
@[go_sem] theorem t41_0 (d : Tmp) : takes g41_0 d = false := nr (by kernel_rfl)
noncomputable def g41_1 : Array Oper := regAt Go.Proofs.Try.f41 1
theorem k41_1 : guardsOk g41_1 = true := nr (by kernel_rfl)
@[go_sem] theorem x41_1 {h : Hd} {ro nt id : Nat} {fr : PT} {H : Hp} : ex cx h ro 41 nt (.region id g41_1 false) fr H = xbind (xrun cx h ro 41 nt g41_1 [(some 10, (.move (.tmp 0)), none), (some 11, (.move (.tmp 1)), none), (some 12, (.call ⟨(.value (.func 109)), #[(.tmp 10), (.tmp 11)], #[24, 3]⟩), none), (some 9, (.move (.tmp 12)), none), (some 13, (.extract (.tmp 9) 0), none), (some 14, (.extract (.tmp 9) 1), none), (some 7, (.assign (.tmp 13)), none), (some 8, (.assign (.tmp 14)), none)] fr H) fun p => some (.normal, p.1, p.2) := x_region _ k41_1 (nr (by kernel_rfl))
@[go_sem] theorem t41_1 (d : Tmp) : takes g41_1 d = false := nr (by kernel_rfl)
noncomputable def g41_2 : Array Oper := regAt Go.Proofs.Try.f41 2
theorem k41_2 : guardsOk g41_2 = true := nr (by kernel_rfl)
@[go_sem] theorem x41_2 {h : Hd} {ro nt id : Nat} {fr : PT} {H : Hp} : ex cx h ro 41 nt (.region id g41_2 false) fr H = xbind (xrun cx h ro 41 nt g41_2 [(some 15, (.move (.tmp 8)), none), (some 16, (.binOp .eql 27 (.tmp 15) (.const (.int .i64 0)) 27), none), (some 17, (.move (.tmp 16)), none), (some 18, (.fieldAddr 44 (.tmp 5) 2), some (17, true)), (some 19, (.load 39 (.tmp 18)), some (17, true)), (some 20, (.call ⟨(.builtin .len), #[(.tmp 19)], #[39]⟩), some (17, true)), (some 21, (.binOp .gtr 3 (.tmp 20) (.const (.int .i64 16)) 3), some (17, true)), (some 22, (.pick (.tmp 17) (.tmp 21) (.const (.bool false))), none)] fr H) fun p => some (.normal, p.1, p.2) := x_region _ k41_2 (nr (by kernel_rfl))
@[go_sem] theorem t41_2 (d : Tmp) : takes g41_2 d = false := nr (by kernel_rfl)
noncomputable def g41_3 : Array Oper := regAt Go.Proofs.Try.f41 3
theorem k41_3 : guardsOk g41_3 = true := nr (by kernel_rfl)
@[go_sem] theorem x41_3 {h : Hd} {ro nt id : Nat} {fr : PT} {H : Hp} : ex cx h ro 41 nt (.region id g41_3 false) fr H = xbind (xrun cx h ro 41 nt g41_3 [(some 8, (.assign (.const (.int .i64 15))), none)] fr H) fun p => some (.normal, p.1, p.2) := x_region _ k41_3 (nr (by kernel_rfl))
@[go_sem] theorem t41_3 (d : Tmp) : takes g41_3 d = false := nr (by kernel_rfl)
noncomputable def g41_4 : Array Oper := regAt Go.Proofs.Try.f41 4
theorem k41_4 : guardsOk g41_4 = true := nr (by kernel_rfl)
@[go_sem] theorem x41_4 {h : Hd} {ro nt id : Nat} {fr : PT} {H : Hp} : ex cx h ro 41 nt (.region id g41_4 false) fr H = xbind (xrun cx h ro 41 nt g41_4 [(some 23, (.move (.tmp 8)), none), (some 24, (.binOp .eql 27 (.tmp 23) (.const (.int .i64 0)) 27), none)] fr H) fun p => some (.normal, p.1, p.2) := x_region _ k41_4 (nr (by kernel_rfl))
@[go_sem] theorem t41_4 (d : Tmp) : takes g41_4 d = false := nr (by kernel_rfl)
noncomputable def g41_5 : Array Oper := regAt Go.Proofs.Try.f41 5
theorem k41_5 : guardsOk g41_5 = true := nr (by kernel_rfl)
@[go_sem] theorem x41_5 {h : Hd} {ro nt id : Nat} {fr : PT} {H : Hp} : ex cx h ro 41 nt (.region id g41_5 false) fr H = xbind (xrun cx h ro 41 nt g41_5 [(some 25, (.move (.tmp 7)), none), (some 26, (.load 44 (.tmp 5)), none), (some 27, (.call ⟨(.value (.func 111)), #[(.tmp 26)], #[44]⟩), none), (some 28, (.nilCheck (.tmp 25)), none), (some 29, (.fieldAddr 185 (.tmp 28) 0), none), (none, (.store 44 (.tmp 29) (.tmp 27)), none)] fr H) fun p => some (.normal, p.1, p.2) := x_region _ k41_5 (nr (by kernel_rfl))
@[go_sem] theorem t41_5 (d : Tmp) : takes g41_5 d = false := nr (by kernel_rfl)
noncomputable def g41_6 : Array Oper := regAt Go.Proofs.Try.f41 6
theorem k41_6 : guardsOk g41_6 = true := nr (by kernel_rfl)
@[go_sem] theorem x41_6 {h : Hd} {ro nt id : Nat} {fr : PT} {H : Hp} : ex cx h ro 41 nt (.region id g41_6 false) fr H = xbind (xrun cx h ro 41 nt g41_6 [(some 30, (.move (.tmp 8)), none), (some 6, (.assign (.tmp 30)), none)] fr H) fun p => some (.normal, p.1, p.2) := x_region _ k41_6 (nr (by kernel_rfl))
@[go_sem] theorem t41_6 (d : Tmp) : takes g41_6 d = false := nr (by kernel_rfl)
theorem b41 : Go.Proofs.Try.f41.body = some (.seq (.region 0 g41_0 false) (.seq (.region 1 g41_1 false) (.seq (.seq (.region 2 g41_2 false) (.cond (.tmp 22) (.region 3 g41_3 false) .skip)) (.seq (.seq (.region 4 g41_4 false) (.cond (.tmp 24) (.region 5 g41_5 false) .skip)) (.seq (.region 6 g41_6 false) .ret))))) := by kernel_rfl
theorem c41 {h : Hd} {ro : Nat} {H : Hp} (a0 a1 a2 : AV) : callB cx h ro 41 [a0, a1, a2] H = returned cx [(.tmp 6)] (ex cx h ro 41 31 (.seq (.region 0 g41_0 false) (.seq (.region 1 g41_1 false) (.seq (.seq (.region 2 g41_2 false) (.cond (.tmp 22) (.region 3 g41_3 false) .skip)) (.seq (.seq (.region 4 g41_4 false) (.cond (.tmp 24) (.region 5 g41_5 false) .skip)) (.seq (.region 6 g41_6 false) .ret))))) (((PT.nil.set 0 (drp a0)).set 1 (drp a1)).set 2 (drp a2)) H) := by
  have hf : cx.fns 41 = some Go.Proofs.Try.f41 := by kernel_rfl
  simp only [callB, hf, funced, b41, bodied]
  rfl
/-! function 42: (*colloquy/colloquyref22.Table).Set -/
noncomputable def g42_0 : Array Oper := regAt Go.Proofs.Try.f42 0
theorem k42_0 : guardsOk g42_0 = true := nr (by kernel_rfl)
@[go_sem] theorem x42_0 {h : Hd} {ro nt id : Nat} {fr : PT} {H : Hp} : ex cx h ro 42 nt (.region id g42_0 false) fr H = xbind (xrun cx h ro 42 nt g42_0 [(some 5, (.box 45 (.tmp 2)), none), (some 6, (.assign (.const (.int .i64 0))), none)] fr H) fun p => some (.normal, p.1, p.2) := x_region _ k42_0 (nr (by kernel_rfl))
@[go_sem] theorem t42_0 (d : Tmp) : takes g42_0 d = false := nr (by kernel_rfl)
noncomputable def g42_1 : Array Oper := regAt Go.Proofs.Try.f42 1
theorem k42_1 : guardsOk g42_1 = true := nr (by kernel_rfl)
@[go_sem] theorem x42_1 {h : Hd} {ro nt id : Nat} {fr : PT} {H : Hp} : ex cx h ro 42 nt (.region id g42_1 false) fr H = xbind (xrun cx h ro 42 nt g42_1 [(some 7, (.move (.tmp 0)), none), (some 8, (.move (.tmp 1)), none), (some 9, (.call ⟨(.value (.func 112)), #[(.tmp 7), (.tmp 8)], #[36, 3]⟩), none), (some 10, (.unOp .not 4 (.tmp 9)), none)] fr H) fun p => some (.normal, p.1, p.2) := x_region _ k42_1 (nr (by kernel_rfl))
@[go_sem] theorem t42_1 (d : Tmp) : takes g42_1 d = false := nr (by kernel_rfl)
noncomputable def g42_2 : Array Oper := regAt Go.Proofs.Try.f42 2
theorem k42_2 : guardsOk g42_2 = true := nr (by kernel_rfl)
@[go_sem] theorem x42_2 {h : Hd} {ro nt id : Nat} {fr : PT} {H : Hp} : ex cx h ro 42 nt (.region id g42_2 false) fr H = xbind (xrun cx h ro 42 nt g42_2 [(some 6, (.assign (.const (.int .i64 24))), none)] fr H) fun p => some (.normal, p.1, p.2) := x_region _ k42_2 (nr (by kernel_rfl))
@[go_sem] theorem t42_2 (d : Tmp) : takes g42_2 d = false := nr (by kernel_rfl)
noncomputable def g42_3 : Array Oper := regAt Go.Proofs.Try.f42 3
theorem k42_3 : guardsOk g42_3 = true := nr (by kernel_rfl)
@[go_sem] theorem x42_3 {h : Hd} {ro nt id : Nat} {fr : PT} {H : Hp} : ex cx h ro 42 nt (.region id g42_3 false) fr H = xbind (xrun cx h ro 42 nt g42_3 [(some 11, (.fieldAddr 45 (.tmp 5) 2), none), (some 12, (.load 39 (.tmp 11)), none), (some 13, (.call ⟨(.builtin .len), #[(.tmp 12)], #[39]⟩), none), (some 14, (.binOp .gtr 3 (.tmp 13) (.const (.int .i64 16)) 3), none)] fr H) fun p => some (.normal, p.1, p.2) := x_region _ k42_3 (nr (by kernel_rfl))
@[go_sem] theorem t42_3 (d : Tmp) : takes g42_3 d = false := nr (by kernel_rfl)
noncomputable def g42_4 : Array Oper := regAt Go.Proofs.Try.f42 4
theorem k42_4 : guardsOk g42_4 = true := nr (by kernel_rfl)
@[go_sem] theorem x42_4 {h : Hd} {ro nt id : Nat} {fr : PT} {H : Hp} : ex cx h ro 42 nt (.region id g42_4 false) fr H = xbind (xrun cx h ro 42 nt g42_4 [(some 6, (.assign (.const (.int .i64 15))), none)] fr H) fun p => some (.normal, p.1, p.2) := x_region _ k42_4 (nr (by kernel_rfl))
@[go_sem] theorem t42_4 (d : Tmp) : takes g42_4 d = false := nr (by kernel_rfl)
noncomputable def g42_5 : Array Oper := regAt Go.Proofs.Try.f42 5
theorem k42_5 : guardsOk g42_5 = true := nr (by kernel_rfl)
@[go_sem] theorem x42_5 {h : Hd} {ro nt id : Nat} {fr : PT} {H : Hp} : ex cx h ro 42 nt (.region id g42_5 true) fr H = orRaw (xrunU cx h ro 42 nt g42_5 H.length [(0, 0, [], (some 15, (.move (.tmp 0)), none)), (1, 0, [], (some 16, (.nilCheck (.tmp 15)), none)), (2, 0, [], (some 17, (.fieldAddr 192 (.tmp 16) 1), none)), (3, 0, [], (some 18, (.load 190 (.tmp 17)), none)), (4, 0, [0, 1, 2, 3], (some 19, (.move (.tmp 1)), none)), (5, 0, [0, 1, 2, 3, 4], (some 20, (.load 45 (.tmp 5)), none)), (6, 0, [0, 1, 2, 3, 4], (some 21, (.call ⟨(.value (.func 113)), #[(.tmp 20)], #[45]⟩), none)), (7, 0, [], (some 22, (.indexAddr 190 (.tmp 18) (.tmp 19)), none)), (8, 0, [], (none, (.store 45 (.tmp 22) (.tmp 21)), none))] fr (H ++ List.replicate 0 .res) []) fun _ => regionRaw cx h ro 42 nt g42_5 fr H := x_regionU _ _ k42_5 (nr (by kernel_rfl)) (nr (by kernel_rfl)) (nr (by kernel_rfl)) (nr (by kernel_rfl))
@[go_sem] theorem t42_5 (d : Tmp) : takes g42_5 d = false := nr (by kernel_rfl)
noncomputable def g42_6 : Array Oper := regAt Go.Proofs.Try.f42 6
theorem k42_6 : guardsOk g42_6 = true := nr (by kernel_rfl)
@[go_sem] theorem x42_6 {h : Hd} {ro nt id : Nat} {fr : PT} {H : Hp} : ex cx h ro 42 nt (.region id g42_6 false) fr H = xbind (xrun cx h ro 42 nt g42_6 [(some 6, (.assign (.const (.int .i64 0))), none)] fr H) fun p => some (.normal, p.1, p.2) := x_region _ k42_6 (nr (by kernel_rfl))
@[go_sem] theorem t42_6 (d : Tmp) : takes g42_6 d = false := nr (by kernel_rfl)
theorem b42 : Go.Proofs.Try.f42.body = some (.seq (.region 0 g42_0 false) (.seq (.seq (.region 1 g42_1 false) (.cond (.tmp 10) (.seq (.region 2 g42_2 false) .ret) .skip)) (.seq (.seq (.region 3 g42_3 false) (.cond (.tmp 14) (.seq (.region 4 g42_4 false) .ret) .skip)) (.seq (.region 5 g42_5 true) (.seq (.region 6 g42_6 false) .ret))))) := by kernel_rfl
theorem c42 {h : Hd} {ro : Nat} {H : Hp} (a0 a1 a2 : AV) : callB cx h ro 42 [a0, a1, a2] H = returned cx [(.tmp 6)] (ex cx h ro 42 23 (.seq (.region 0 g42_0 false) (.seq (.seq (.region 1 g42_1 false) (.cond (.tmp 10) (.seq (.region 2 g42_2 false) .ret) .skip)) (.seq (.seq (.region 3 g42_3 false) (.cond (.tmp 14) (.seq (.region 4 g42_4 false) .ret) .skip)) (.seq (.region 5 g42_5 true) (.seq (.region 6 g42_6 false) .ret))))) (((PT.nil.set 0 (drp a0)).set 1 (drp a1)).set 2 (drp a2)) H) := by
  have hf : cx.fns 42 = some Go.Proofs.Try.f42 := by kernel_rfl
  simp only [callB, hf, funced, b42, bodied]
  rfl
/-! function 43: (*colloquy/colloquyref22.Table).Drop -/
noncomputable def g43_0 : Array Oper := regAt Go.Proofs.Try.f43 0
theorem k43_0 : guardsOk g43_0 = true := nr (by kernel_rfl)
@[go_sem] theorem x43_0 {h : Hd} {ro nt id : Nat} {fr : PT} {H : Hp} : ex cx h ro 43 nt (.region id g43_0 false) fr H = xbind (xrun cx h ro 43 nt g43_0 [(some 4, (.assign (.const (.int .i64 0))), none)] fr H) fun p => some (.normal, p.1, p.2) := x_region _ k43_0 (nr (by kernel_rfl))
@[go_sem] theorem t43_0 (d : Tmp) : takes g43_0 d = false := nr (by kernel_rfl)
noncomputable def g43_1 : Array Oper := regAt Go.Proofs.Try.f43 1
theorem k43_1 : guardsOk g43_1 = true := nr (by kernel_rfl)
@[go_sem] theorem x43_1 {h : Hd} {ro nt id : Nat} {fr : PT} {H : Hp} : ex cx h ro 43 nt (.region id g43_1 false) fr H = xbind (xrun cx h ro 43 nt g43_1 [(some 5, (.move (.tmp 0)), none), (some 6, (.move (.tmp 1)), none), (some 7, (.call ⟨(.value (.func 112)), #[(.tmp 5), (.tmp 6)], #[36, 3]⟩), none), (some 8, (.unOp .not 4 (.tmp 7)), none)] fr H) fun p => some (.normal, p.1, p.2) := x_region _ k43_1 (nr (by kernel_rfl))
@[go_sem] theorem t43_1 (d : Tmp) : takes g43_1 d = false := nr (by kernel_rfl)
noncomputable def g43_2 : Array Oper := regAt Go.Proofs.Try.f43 2
theorem k43_2 : guardsOk g43_2 = true := nr (by kernel_rfl)
@[go_sem] theorem x43_2 {h : Hd} {ro nt id : Nat} {fr : PT} {H : Hp} : ex cx h ro 43 nt (.region id g43_2 false) fr H = xbind (xrun cx h ro 43 nt g43_2 [(some 4, (.assign (.const (.int .i64 24))), none)] fr H) fun p => some (.normal, p.1, p.2) := x_region _ k43_2 (nr (by kernel_rfl))
@[go_sem] theorem t43_2 (d : Tmp) : takes g43_2 d = false := nr (by kernel_rfl)
noncomputable def g43_3 : Array Oper := regAt Go.Proofs.Try.f43 3
theorem k43_3 : guardsOk g43_3 = true := nr (by kernel_rfl)
@[go_sem] theorem x43_3 {h : Hd} {ro nt id : Nat} {fr : PT} {H : Hp} : ex cx h ro 43 nt (.region id g43_3 false) fr H = xbind (xrun cx h ro 43 nt g43_3 [(some 9, (.move (.tmp 0)), none), (some 10, (.nilCheck (.tmp 9)), none), (some 11, (.fieldAddr 192 (.tmp 10) 0), none), (some 12, (.load 26 (.tmp 11)), none), (some 13, (.move (.tmp 1)), none), (some 14, (.indexAddr 26 (.tmp 12) (.tmp 13)), none), (none, (.store 4 (.tmp 14) (.const (.bool false))), none)] fr H) fun p => some (.normal, p.1, p.2) := x_region _ k43_3 (nr (by kernel_rfl))
@[go_sem] theorem t43_3 (d : Tmp) : takes g43_3 d = false := nr (by kernel_rfl)
noncomputable def g43_4 : Array Oper := regAt Go.Proofs.Try.f43 4
theorem k43_4 : guardsOk g43_4 = true := nr (by kernel_rfl)
@[go_sem] theorem x43_4 {h : Hd} {ro nt id : Nat} {fr : PT} {H : Hp} : ex cx h ro 43 nt (.region id g43_4 false) fr H = xbind (xrun cx h ro 43 nt g43_4 [(some 15, (.move (.tmp 0)), none), (some 16, (.nilCheck (.tmp 15)), none), (some 17, (.fieldAddr 192 (.tmp 16) 1), none), (some 18, (.load 190 (.tmp 17)), none), (some 19, (.move (.tmp 1)), none), (some 20, (.build 45 #[]), none), (some 21, (.indexAddr 190 (.tmp 18) (.tmp 19)), none), (none, (.store 45 (.tmp 21) (.tmp 20)), none)] fr H) fun p => some (.normal, p.1, p.2) := x_region _ k43_4 (nr (by kernel_rfl))
@[go_sem] theorem t43_4 (d : Tmp) : takes g43_4 d = false := nr (by kernel_rfl)
noncomputable def g43_5 : Array Oper := regAt Go.Proofs.Try.f43 5
theorem k43_5 : guardsOk g43_5 = true := nr (by kernel_rfl)
@[go_sem] theorem x43_5 {h : Hd} {ro nt id : Nat} {fr : PT} {H : Hp} : ex cx h ro 43 nt (.region id g43_5 false) fr H = xbind (xrun cx h ro 43 nt g43_5 [(some 4, (.assign (.const (.int .i64 0))), none)] fr H) fun p => some (.normal, p.1, p.2) := x_region _ k43_5 (nr (by kernel_rfl))
@[go_sem] theorem t43_5 (d : Tmp) : takes g43_5 d = false := nr (by kernel_rfl)
theorem b43 : Go.Proofs.Try.f43.body = some (.seq (.region 0 g43_0 false) (.seq (.seq (.region 1 g43_1 false) (.cond (.tmp 8) (.seq (.region 2 g43_2 false) .ret) .skip)) (.seq (.region 3 g43_3 false) (.seq (.region 4 g43_4 false) (.seq (.region 5 g43_5 false) .ret))))) := by kernel_rfl
theorem c43 {h : Hd} {ro : Nat} {H : Hp} (a0 a1 : AV) : callB cx h ro 43 [a0, a1] H = returned cx [(.tmp 4)] (ex cx h ro 43 22 (.seq (.region 0 g43_0 false) (.seq (.seq (.region 1 g43_1 false) (.cond (.tmp 8) (.seq (.region 2 g43_2 false) .ret) .skip)) (.seq (.region 3 g43_3 false) (.seq (.region 4 g43_4 false) (.seq (.region 5 g43_5 false) .ret))))) ((PT.nil.set 0 (drp a0)).set 1 (drp a1)) H) := by
  have hf : cx.fns 43 = some Go.Proofs.Try.f43 := by kernel_rfl
  simp only [callB, hf, funced, b43, bodied]
  rfl
/-! function 44: (*colloquy/colloquyref22.Table).Live -/
noncomputable def g44_0 : Array Oper := regAt Go.Proofs.Try.f44 0
theorem k44_0 : guardsOk g44_0 = true := nr (by kernel_rfl)
@[go_sem] theorem x44_0 {h : Hd} {ro nt id : Nat} {fr : PT} {H : Hp} : ex cx h ro 44 nt (.region id g44_0 false) fr H = xbind (xrun cx h ro 44 nt g44_0 [(some 2, (.assign (.const (.slice none 0 0))), none)] fr H) fun p => some (.normal, p.1, p.2) := x_region _ k44_0 (nr (by kernel_rfl))
@[go_sem] theorem t44_0 (d : Tmp) : takes g44_0 d = false := nr (by kernel_rfl)
noncomputable def g44_1 : Array Oper := regAt Go.Proofs.Try.f44 1
theorem k44_1 : guardsOk g44_1 = true := nr (by kernel_rfl)
@[go_sem] theorem x44_1 {h : Hd} {ro nt id : Nat} {fr : PT} {H : Hp} : ex cx h ro 44 nt (.region id g44_1 false) fr H = xbind (xrun cx h ro 44 nt g44_1 [(some 3, (.assign (.const (.slice none 0 0))), none)] fr H) fun p => some (.normal, p.1, p.2) := x_region _ k44_1 (nr (by kernel_rfl))
@[go_sem] theorem t44_1 (d : Tmp) : takes g44_1 d = false := nr (by kernel_rfl)
noncomputable def g44_2 : Array Oper := regAt Go.Proofs.Try.f44 2
theorem k44_2 : guardsOk g44_2 = true := nr (by kernel_rfl)
@[go_sem] theorem x44_2 {h : Hd} {ro nt id : Nat} {fr : PT} {H : Hp} : ex cx h ro 44 nt (.region id g44_2 false) fr H = xbind (xrun cx h ro 44 nt g44_2 [(some 4, (.assign (.const (.int .i64 0))), none)] fr H) fun p => some (.normal, p.1, p.2) := x_region _ k44_2 (nr (by kernel_rfl))
@[go_sem] theorem t44_2 (d : Tmp) : takes g44_2 d = false := nr (by kernel_rfl)
noncomputable def g44_3 : Array Oper := regAt Go.Proofs.Try.f44 3
theorem k44_3 : guardsOk g44_3 = true := nr (by kernel_rfl)
@[go_sem] theorem x44_3 {h : Hd} {ro nt id : Nat} {fr : PT} {H : Hp} : ex cx h ro 44 nt (.region id g44_3 false) fr H = xbind (xrun cx h ro 44 nt g44_3 [(some 5, (.move (.tmp 4)), none), (some 6, (.move (.tmp 0)), none), (some 7, (.nilCheck (.tmp 6)), none), (some 8, (.fieldAddr 192 (.tmp 7) 1), none), (some 9, (.load 190 (.tmp 8)), none), (some 10, (.call ⟨(.builtin .len), #[(.tmp 9)], #[190]⟩), none), (some 11, (.binOp .lss 3 (.tmp 5) (.tmp 10) 3), none)] fr H) fun p => some (.normal, p.1, p.2) := x_region _ k44_3 (nr (by kernel_rfl))
@[go_sem] theorem t44_3 (d : Tmp) : takes g44_3 d = false := nr (by kernel_rfl)
noncomputable def g44_4 : Array Oper := regAt Go.Proofs.Try.f44 4
theorem k44_4 : guardsOk g44_4 = true := nr (by kernel_rfl)
@[go_sem] theorem x44_4 {h : Hd} {ro nt id : Nat} {fr : PT} {H : Hp} : ex cx h ro 44 nt (.region id g44_4 false) fr H = xbind (xrun cx h ro 44 nt g44_4 [(some 14, (.move (.tmp 0)), none), (some 15, (.nilCheck (.tmp 14)), none), (some 16, (.fieldAddr 192 (.tmp 15) 0), none), (some 17, (.load 26 (.tmp 16)), none), (some 18, (.move (.tmp 4)), none), (some 19, (.indexAddr 26 (.tmp 17) (.tmp 18)), none), (some 20, (.load 4 (.tmp 19)), none)] fr H) fun p => some (.normal, p.1, p.2) := x_region _ k44_4 (nr (by kernel_rfl))
@[go_sem] theorem t44_4 (d : Tmp) : takes g44_4 d = false := nr (by kernel_rfl)
noncomputable def g44_5 : Array Oper := regAt Go.Proofs.Try.f44 5
theorem k44_5 : guardsOk g44_5 = true := nr (by kernel_rfl)
@[go_sem] theorem x44_5 {h : Hd} {ro nt id : Nat} {fr : PT} {H : Hp} : ex cx h ro 44 nt (.region id g44_5 false) fr H = xbind (xrun cx h ro 44 nt g44_5 [(some 21, (.move (.tmp 3)), none), (some 22, (.move (.tmp 4)), none), (some 23, (.buildSlice 31 1 #[(0, (.tmp 22))]), none), (some 24, (.call ⟨(.builtin .append), #[(.tmp 21), (.tmp 23)], #[31, 31]⟩), none), (some 3, (.assign (.tmp 24)), none)] fr H) fun p => some (.normal, p.1, p.2) := x_region _ k44_5 (nr (by kernel_rfl))
@[go_sem] theorem t44_5_21 : takes g44_5 21 = true := nr (by kernel_rfl)
@[go_sem] theorem t44_5_22 : takes g44_5 22 = false := nr (by kernel_rfl)
@[go_sem] theorem t44_5_23 : takes g44_5 23 = false := nr (by kernel_rfl)
@[go_sem] theorem t44_5_24 : takes g44_5 24 = false := nr (by kernel_rfl)
@[go_sem] theorem t44_5_3 : takes g44_5 3 = false := nr (by kernel_rfl)
noncomputable def g44_6 : Array Oper := regAt Go.Proofs.Try.f44 6
theorem k44_6 : guardsOk g44_6 = true := nr (by kernel_rfl)
@[go_sem] theorem x44_6 {h : Hd} {ro nt id : Nat} {fr : PT} {H : Hp} : ex cx h ro 44 nt (.region id g44_6 false) fr H = xbind (xrun cx h ro 44 nt g44_6 [(some 12, (.move (.tmp 4)), none), (some 13, (.binOp .add 3 (.tmp 12) (.const (.int .i64 1)) 3), none), (some 4, (.assign (.tmp 13)), none)] fr H) fun p => some (.normal, p.1, p.2) := x_region _ k44_6 (nr (by kernel_rfl))
@[go_sem] theorem t44_6 (d : Tmp) : takes g44_6 d = false := nr (by kernel_rfl)
noncomputable def g44_7 : Array Oper := regAt Go.Proofs.Try.f44 7
theorem k44_7 : guardsOk g44_7 = true := nr (by kernel_rfl)
@[go_sem] theorem x44_7 {h : Hd} {ro nt id : Nat} {fr : PT} {H : Hp} : ex cx h ro 44 nt (.region id g44_7 false) fr H = xbind (xrun cx h ro 44 nt g44_7 [(some 25, (.move (.tmp 3)), none), (some 2, (.assign (.tmp 25)), none)] fr H) fun p => some (.normal, p.1, p.2) := x_region _ k44_7 (nr (by kernel_rfl))
@[go_sem] theorem t44_7 (d : Tmp) : takes g44_7 d = false := nr (by kernel_rfl)
noncomputable def l44_0 : Code := (.seq (.seq (.region 3 g44_3 false) (.cond (.tmp 11) .skip (.exit 0))) (.seq (.block 1 (.seq (.region 5 g44_4 false) (.cond (.tmp 20) (.region 6 g44_5 false) .skip))) (.region 4 g44_6 false)))
theorem dl44_0 {ro nt : Nat} {fr : PT} {H : Hp} : (den cx).loop ro 44 nt l44_0 fr H = xbind (ex cx (den cx) ro 44 nt (.seq (.seq (.region 3 g44_3 false) (.cond (.tmp 11) .skip (.exit 0))) (.seq (.block 1 (.seq (.region 5 g44_4 false) (.cond (.tmp 20) (.region 6 g44_5 false) .skip))) (.region 4 g44_6 false))) fr H) (contR (trimmed ((den cx).loop ro 44 nt l44_0) H.length)) := den_loop_x l44_0
theorem b44 : Go.Proofs.Try.f44.body = some (.seq (.region 0 g44_0 false) (.seq (.region 1 g44_1 false) (.seq (.seq (.region 2 g44_2 false) (.block 0 (.loop l44_0))) (.seq (.region 7 g44_7 false) .ret)))) := by kernel_rfl
theorem c44 {h : Hd} {ro : Nat} {H : Hp} (a0 : AV) : callB cx h ro 44 [a0] H = returned cx [(.tmp 2)] (ex cx h ro 44 26 (.seq (.region 0 g44_0 false) (.seq (.region 1 g44_1 false) (.seq (.seq (.region 2 g44_2 false) (.block 0 (.loop l44_0))) (.seq (.region 7 g44_7 false) .ret)))) (PT.nil.set 0 (drp a0)) H) := by
  have hf : cx.fns 44 = some Go.Proofs.Try.f44 := by kernel_rfl
  simp only [callB, hf, funced, b44, bodied]
  rfl
/-! function 45: colloquy/colloquylaw22.alike -/
noncomputable def g45_0 : Array Oper := regAt Go.Proofs.Try.f45 0
theorem k45_0 : guardsOk g45_0 = true := nr (by kernel_rfl)
@[go_sem] theorem x45_0 {h : Hd} {ro nt id : Nat} {fr : PT} {H : Hp} : ex cx h ro 45 nt (.region id g45_0 false) fr H = xbind (xrun cx h ro 45 nt g45_0 [(some 6, (.assign (.const (.bool false))), none)] fr H) fun p => some (.normal, p.1, p.2) := x_region _ k45_0 (nr (by kernel_rfl))
@[go_sem] theorem t45_0 (d : Tmp) : takes g45_0 d = false := nr (by kernel_rfl)
noncomputable def g45_1 : Array Oper := regAt Go.Proofs.Try.f45 1
theorem k45_1 : guardsOk g45_1 = true := nr (by kernel_rfl)
@[go_sem] theorem x45_1 {h : Hd} {ro nt id : Nat} {fr : PT} {H : Hp} : ex cx h ro 45 nt (.region id g45_1 false) fr H = xbind (xrun cx h ro 45 nt g45_1 [(some 12, (.move (.tmp 0)), none), (some 13, (.move (.tmp 2)), none), (some 14, (.call ⟨(.value (.func 46)), #[(.tmp 12), (.tmp 13)], #[24, 3]⟩), none), (some 11, (.move (.tmp 14)), none), (some 15, (.extract (.tmp 11) 0), none), (some 16, (.extract (.tmp 11) 1), none), (some 7, (.alloc 44), none), (none, (.store 44 (.tmp 7) (.tmp 15)), none), (some 8, (.assign (.tmp 16)), none)] fr H) fun p => some (.normal, p.1, p.2) := x_region _ k45_1 (nr (by kernel_rfl))
@[go_sem] theorem t45_1 (d : Tmp) : takes g45_1 d = false := nr (by kernel_rfl)
noncomputable def g45_2 : Array Oper := regAt Go.Proofs.Try.f45 2
theorem k45_2 : guardsOk g45_2 = true := nr (by kernel_rfl)
@[go_sem] theorem x45_2 {h : Hd} {ro nt id : Nat} {fr : PT} {H : Hp} : ex cx h ro 45 nt (.region id g45_2 false) fr H = xbind (xrun cx h ro 45 nt g45_2 [(some 18, (.move (.tmp 1)), none), (some 19, (.move (.tmp 2)), none), (some 20, (.call ⟨(.value (.func 114)), #[(.tmp 18), (.tmp 19)], #[36, 3]⟩), none), (some 17, (.move (.tmp 20)), none), (some 21, (.extract (.tmp 17) 0), none), (some 22, (.extract (.tmp 17) 1), none), (some 9, (.alloc 45), none), (none, (.store 45 (.tmp 9) (.tmp 21)), none), (some 10, (.assign (.tmp 22)), none)] fr H) fun p => some (.normal, p.1, p.2) := x_region _ k45_2 (nr (by kernel_rfl))
@[go_sem] theorem t45_2 (d : Tmp) : takes g45_2 d = false := nr (by kernel_rfl)
noncomputable def g45_3 : Array Oper := regAt Go.Proofs.Try.f45 3
theorem k45_3 : guardsOk g45_3 = true := nr (by kernel_rfl)
@[go_sem] theorem x45_3 {h : Hd} {ro nt id : Nat} {fr : PT} {H : Hp} : ex cx h ro 45 nt (.region id g45_3 false) fr H = xbind (xrun cx h ro 45 nt g45_3 [(some 23, (.move (.tmp 8)), none), (some 24, (.move (.tmp 10)), none), (some 25, (.binOp .eql 4 (.tmp 23) (.tmp 24) 4), none), (some 26, (.move (.tmp 25)), none), (some 27, (.fieldAddr 44 (.tmp 7) 0), some (26, true)), (some 28, (.load 3 (.tmp 27)), some (26, true)), (some 29, (.fieldAddr 45 (.tmp 9) 0), some (26, true)), (some 30, (.load 3 (.tmp 29)), some (26, true)), (some 31, (.binOp .eql 3 (.tmp 28) (.tmp 30) 3), some (26, true)), (some 32, (.pick (.tmp 26) (.tmp 31) (.const (.bool false))), none), (some 33, (.move (.tmp 32)), none), (some 34, (.fieldAddr 44 (.tmp 7) 1), some (33, true)), (some 35, (.load 3 (.tmp 34)), some (33, true)), (some 36, (.fieldAddr 45 (.tmp 9) 1), some (33, true)), (some 37, (.load 3 (.tmp 36)), some (33, true)), (some 38, (.binOp .eql 3 (.tmp 35) (.tmp 37) 3), some (33, true)), (some 39, (.pick (.tmp 33) (.tmp 38) (.const (.bool false))), none), (some 40, (.move (.tmp 39)), none), (some 41, (.fieldAddr 44 (.tmp 7) 3), some (40, true)), (some 42, (.load 42 (.tmp 41)), some (40, true)), (some 43, (.fieldAddr 45 (.tmp 9) 3), some (40, true)), (some 44, (.load 42 (.tmp 43)), some (40, true)), (some 45, (.binOp .eql 42 (.tmp 42) (.tmp 44) 42), some (40, true)), (some 46, (.pick (.tmp 40) (.tmp 45) (.const (.bool false))), none), (some 47, (.move (.tmp 46)), none), (some 48, (.fieldAddr 44 (.tmp 7) 2), some (47, true)), (some 49, (.load 39 (.tmp 48)), some (47, true)), (some 50, (.fieldAddr 45 (.tmp 9) 2), some (47, true)), (some 51, (.load 39 (.tmp 50)), some (47, true)), (some 52, (.call ⟨(.value (.func 115)), #[(.tmp 49), (.tmp 51)], #[39, 39]⟩), some (47, true)), (some 53, (.pick (.tmp 47) (.tmp 52) (.const (.bool false))), none), (some 6, (.assign (.tmp 53)), none)] fr H) fun p => some (.normal, p.1, p.2) := x_region _ k45_3 (nr (by kernel_rfl))
@[go_sem] theorem t45_3 (d : Tmp) : takes g45_3 d = false := nr (by kernel_rfl)
theorem b45 : Go.Proofs.Try.f45.body = some (.seq (.region 0 g45_0 false) (.seq (.region 1 g45_1 false) (.seq (.region 2 g45_2 false) (.seq (.region 3 g45_3 false) .ret)))) := by kernel_rfl
theorem c45 {h : Hd} {ro : Nat} {H : Hp} (a0 a1 a2 : AV) : callB cx h ro 45 [a0, a1, a2] H = returned cx [(.tmp 6)] (ex cx h ro 45 54 (.seq (.region 0 g45_0 false) (.seq (.region 1 g45_1 false) (.seq (.region 2 g45_2 false) (.seq (.region 3 g45_3 false) .ret)))) (((PT.nil.set 0 (drp a0)).set 1 (drp a1)).set 2 (drp a2)) H) := by
  have hf : cx.fns 45 = some Go.Proofs.Try.f45 := by kernel_rfl
  simp only [callB, hf, funced, b45, bodied]
  rfl
/-! function 46: (*colloquy/actors.Table).Get -/
noncomputable def g46_0 : Array Oper := regAt Go.Proofs.Try.f46 0
theorem k46_0 : guardsOk g46_0 = true := nr (by kernel_rfl)
@[go_sem] theorem x46_0 {h : Hd} {ro nt id : Nat} {fr : PT} {H : Hp} : ex cx h ro 46 nt (.region id g46_0 false) fr H = xbind (xrun cx h ro 46 nt g46_0 [(some 4, (.alloc 44), none), (some 5, (.assign (.const (.bool false))), none)] fr H) fun p => some (.normal, p.1, p.2) := x_region _ k46_0 (nr (by kernel_rfl))
@[go_sem] theorem t46_0 (d : Tmp) : takes g46_0 d = false := nr (by kernel_rfl)
noncomputable def g46_1 : Array Oper := regAt Go.Proofs.Try.f46 1
theorem k46_1 : guardsOk g46_1 = true := nr (by kernel_rfl)
@[go_sem] theorem x46_1 {h : Hd} {ro nt id : Nat} {fr : PT} {H : Hp} : ex cx h ro 46 nt (.region id g46_1 false) fr H = xbind (xrun cx h ro 46 nt g46_1 [(some 9, (.move (.tmp 0)), none), (some 10, (.move (.tmp 1)), none), (some 11, (.call ⟨(.value (.func 109)), #[(.tmp 9), (.tmp 10)], #[24, 3]⟩), none), (some 8, (.move (.tmp 11)), none), (some 12, (.extract (.tmp 8) 0), none), (some 13, (.extract (.tmp 8) 1), none), (some 6, (.assign (.tmp 12)), none), (some 7, (.assign (.tmp 13)), none)] fr H) fun p => some (.normal, p.1, p.2) := x_region _ k46_1 (nr (by kernel_rfl))
@[go_sem] theorem t46_1 (d : Tmp) : takes g46_1 d = false := nr (by kernel_rfl)
noncomputable def g46_2 : Array Oper := regAt Go.Proofs.Try.f46 2
theorem k46_2 : guardsOk g46_2 = true := nr (by kernel_rfl)
@[go_sem] theorem x46_2 {h : Hd} {ro nt id : Nat} {fr : PT} {H : Hp} : ex cx h ro 46 nt (.region id g46_2 false) fr H = xbind (xrun cx h ro 46 nt g46_2 [(some 14, (.move (.tmp 7)), none), (some 15, (.binOp .neq 27 (.tmp 14) (.const (.int .i64 0)) 27), none)] fr H) fun p => some (.normal, p.1, p.2) := x_region _ k46_2 (nr (by kernel_rfl))
@[go_sem] theorem t46_2 (d : Tmp) : takes g46_2 d = false := nr (by kernel_rfl)
noncomputable def g46_3 : Array Oper := regAt Go.Proofs.Try.f46 3
theorem k46_3 : guardsOk g46_3 = true := nr (by kernel_rfl)
@[go_sem] theorem x46_3 {h : Hd} {ro nt id : Nat} {fr : PT} {H : Hp} : ex cx h ro 46 nt (.region id g46_3 false) fr H = xbind (xrun cx h ro 46 nt g46_3 [(some 16, (.build 44 #[]), none), (none, (.store 44 (.tmp 4) (.tmp 16)), none), (some 5, (.assign (.const (.bool false))), none)] fr H) fun p => some (.normal, p.1, p.2) := x_region _ k46_3 (nr (by kernel_rfl))
@[go_sem] theorem t46_3 (d : Tmp) : takes g46_3 d = false := nr (by kernel_rfl)
noncomputable def g46_4 : Array Oper := regAt Go.Proofs.Try.f46 4
theorem k46_4 : guardsOk g46_4 = true := nr (by kernel_rfl)
@[go_sem] theorem x46_4 {h : Hd} {ro nt id : Nat} {fr : PT} {H : Hp} : ex cx h ro 46 nt (.region id g46_4 false) fr H = xbind (xrun cx h ro 46 nt g46_4 [(some 17, (.move (.tmp 6)), none), (some 18, (.nilCheck (.tmp 17)), none), (some 19, (.fieldAddr 185 (.tmp 18) 0), none), (some 20, (.load 44 (.tmp 19)), none), (some 21, (.call ⟨(.value (.func 111)), #[(.tmp 20)], #[44]⟩), none), (none, (.store 44 (.tmp 4) (.tmp 21)), none), (some 5, (.assign (.const (.bool true))), none)] fr H) fun p => some (.normal, p.1, p.2) := x_region _ k46_4 (nr (by kernel_rfl))
@[go_sem] theorem t46_4 (d : Tmp) : takes g46_4 d = false := nr (by kernel_rfl)
theorem b46 : Go.Proofs.Try.f46.body = some (.seq (.region 0 g46_0 false) (.seq (.region 1 g46_1 false) (.seq (.seq (.region 2 g46_2 false) (.cond (.tmp 15) (.seq (.region 3 g46_3 false) .ret) .skip)) (.seq (.region 4 g46_4 false) .ret)))) := by kernel_rfl
theorem c46 {h : Hd} {ro : Nat} {H : Hp} (a0 a1 : AV) : callB cx h ro 46 [a0, a1] H = returned cx [(.cell 4 44), (.tmp 5)] (ex cx h ro 46 22 (.seq (.region 0 g46_0 false) (.seq (.region 1 g46_1 false) (.seq (.seq (.region 2 g46_2 false) (.cond (.tmp 15) (.seq (.region 3 g46_3 false) .ret) .skip)) (.seq (.region 4 g46_4 false) .ret)))) ((PT.nil.set 0 (drp a0)).set 1 (drp a1)) H) := by
  have hf : cx.fns 46 = some Go.Proofs.Try.f46 := by kernel_rfl
  simp only [callB, hf, funced, b46, bodied]
  rfl
/-! function 111: (colloquy/actors.Frame).own -/
noncomputable def g111_0 : Array Oper := regAt Go.Proofs.Try.f111 0
theorem k111_0 : guardsOk g111_0 = true := nr (by kernel_rfl)
@[go_sem] theorem x111_0 {h : Hd} {ro nt id : Nat} {fr : PT} {H : Hp} : ex cx h ro 111 nt (.region id g111_0 false) fr H = xbind (xrun cx h ro 111 nt g111_0 [(some 1, (.box 44 (.tmp 0)), none), (some 2, (.alloc 44), none)] fr H) fun p => some (.normal, p.1, p.2) := x_region _ k111_0 (nr (by kernel_rfl))
@[go_sem] theorem t111_0 (d : Tmp) : takes g111_0 d = false := nr (by kernel_rfl)
noncomputable def g111_1 : Array Oper := regAt Go.Proofs.Try.f111 1
theorem k111_1 : guardsOk g111_1 = true := nr (by kernel_rfl)
@[go_sem] theorem x111_1 {h : Hd} {ro nt id : Nat} {fr : PT} {H : Hp} : ex cx h ro 111 nt (.region id g111_1 true) fr H = orRaw (xrunU cx h ro 111 nt g111_1 H.length [(0, 0, [], (some 3, (.fieldAddr 44 (.tmp 1) 2), none)), (1, 0, [], (some 4, (.load 39 (.tmp 3)), none)), (2, 0, [], (some 5, (.slice 39 (.tmp 4) none (some (.const (.int .i64 0))) (some (.const (.int .i64 0)))), none)), (3, 0, [0, 1, 2], (some 6, (.fieldAddr 44 (.tmp 1) 2), none)), (4, 0, [0, 1, 2], (some 7, (.load 39 (.tmp 6)), none)), (5, 0, [], (some 8, (.call ⟨(.builtin .append), #[(.tmp 5), (.tmp 7)], #[39, 39]⟩), none)), (6, 0, [], (some 9, (.fieldAddr 44 (.tmp 1) 2), none)), (7, 0, [], (none, (.store 39 (.tmp 9) (.tmp 8)), none))] fr (H ++ List.replicate 0 .res) []) fun _ => regionRaw cx h ro 111 nt g111_1 fr H := x_regionU _ _ k111_1 (nr (by kernel_rfl)) (nr (by kernel_rfl)) (nr (by kernel_rfl)) (nr (by kernel_rfl))
@[go_sem] theorem t111_1_3 : takes g111_1 3 = false := nr (by kernel_rfl)
@[go_sem] theorem t111_1_4 : takes g111_1 4 = false := nr (by kernel_rfl)
@[go_sem] theorem t111_1_5 : takes g111_1 5 = true := nr (by kernel_rfl)
@[go_sem] theorem t111_1_6 : takes g111_1 6 = false := nr (by kernel_rfl)
@[go_sem] theorem t111_1_7 : takes g111_1 7 = false := nr (by kernel_rfl)
@[go_sem] theorem t111_1_8 : takes g111_1 8 = false := nr (by kernel_rfl)
@[go_sem] theorem t111_1_9 : takes g111_1 9 = false := nr (by kernel_rfl)
noncomputable def g111_2 : Array Oper := regAt Go.Proofs.Try.f111 2
theorem k111_2 : guardsOk g111_2 = true := nr (by kernel_rfl)
@[go_sem] theorem x111_2 {h : Hd} {ro nt id : Nat} {fr : PT} {H : Hp} : ex cx h ro 111 nt (.region id g111_2 false) fr H = xbind (xrun cx h ro 111 nt g111_2 [(some 10, (.load 44 (.tmp 1)), none), (none, (.store 44 (.tmp 2) (.tmp 10)), none)] fr H) fun p => some (.normal, p.1, p.2) := x_region _ k111_2 (nr (by kernel_rfl))
@[go_sem] theorem t111_2 (d : Tmp) : takes g111_2 d = false := nr (by kernel_rfl)
theorem b111 : Go.Proofs.Try.f111.body = some (.seq (.region 0 g111_0 false) (.seq (.region 1 g111_1 true) (.seq (.region 2 g111_2 false) .ret))) := by kernel_rfl
theorem c111 {h : Hd} {ro : Nat} {H : Hp} (a0 : AV) : callB cx h ro 111 [a0] H = returned cx [(.cell 2 44)] (ex cx h ro 111 11 (.seq (.region 0 g111_0 false) (.seq (.region 1 g111_1 true) (.seq (.region 2 g111_2 false) .ret))) (PT.nil.set 0 (drp a0)) H) := by
  have hf : cx.fns 111 = some Go.Proofs.Try.f111 := by kernel_rfl
  simp only [callB, hf, funced, b111, bodied]
  rfl
/-! function 112: (*colloquy/colloquyref22.Table).there -/
noncomputable def g112_0 : Array Oper := regAt Go.Proofs.Try.f112 0
theorem k112_0 : guardsOk g112_0 = true := nr (by kernel_rfl)
@[go_sem] theorem x112_0 {h : Hd} {ro nt id : Nat} {fr : PT} {H : Hp} : ex cx h ro 112 nt (.region id g112_0 false) fr H = xbind (xrun cx h ro 112 nt g112_0 [(some 4, (.assign (.const (.bool false))), none)] fr H) fun p => some (.normal, p.1, p.2) := x_region _ k112_0 (nr (by kernel_rfl))
@[go_sem] theorem t112_0 (d : Tmp) : takes g112_0 d = false := nr (by kernel_rfl)
noncomputable def g112_1 : Array Oper := regAt Go.Proofs.Try.f112 1
theorem k112_1 : guardsOk g112_1 = true := nr (by kernel_rfl)
@[go_sem] theorem x112_1 {h : Hd} {ro nt id : Nat} {fr : PT} {H : Hp} : ex cx h ro 112 nt (.region id g112_1 false) fr H = xbind (xrun cx h ro 112 nt g112_1 [(some 5, (.move (.tmp 1)), none), (some 6, (.binOp .geq 3 (.tmp 5) (.const (.int .i64 0)) 3), none), (some 7, (.move (.tmp 6)), none), (some 8, (.move (.tmp 1)), some (7, true)), (some 9, (.move (.tmp 0)), some (7, true)), (some 10, (.nilCheck (.tmp 9)), some (7, true)), (some 11, (.fieldAddr 192 (.tmp 10) 1), some (7, true)), (some 12, (.load 190 (.tmp 11)), some (7, true)), (some 13, (.call ⟨(.builtin .len), #[(.tmp 12)], #[190]⟩), some (7, true)), (some 14, (.binOp .lss 3 (.tmp 8) (.tmp 13) 3), some (7, true)), (some 15, (.pick (.tmp 7) (.tmp 14) (.const (.bool false))), none), (some 16, (.move (.tmp 15)), none), (some 17, (.move (.tmp 0)), some (16, true)), (some 18, (.nilCheck (.tmp 17)), some (16, true)), (some 19, (.fieldAddr 192 (.tmp 18) 0), some (16, true)), (some 20, (.load 26 (.tmp 19)), some (16, true)), (some 21, (.move (.tmp 1)), some (16, true)), (some 22, (.indexAddr 26 (.tmp 20) (.tmp 21)), some (16, true)), (some 23, (.load 4 (.tmp 22)), some (16, true)), (some 24, (.pick (.tmp 16) (.tmp 23) (.const (.bool false))), none), (some 4, (.assign (.tmp 24)), none)] fr H) fun p => some (.normal, p.1, p.2) := x_region _ k112_1 (nr (by kernel_rfl))
@[go_sem] theorem t112_1 (d : Tmp) : takes g112_1 d = false := nr (by kernel_rfl)
theorem b112 : Go.Proofs.Try.f112.body = some (.seq (.region 0 g112_0 false) (.seq (.region 1 g112_1 false) .ret)) := by kernel_rfl
theorem c112 {h : Hd} {ro : Nat} {H : Hp} (a0 a1 : AV) : callB cx h ro 112 [a0, a1] H = returned cx [(.tmp 4)] (ex cx h ro 112 25 (.seq (.region 0 g112_0 false) (.seq (.region 1 g112_1 false) .ret)) ((PT.nil.set 0 (drp a0)).set 1 (drp a1)) H) := by
  have hf : cx.fns 112 = some Go.Proofs.Try.f112 := by kernel_rfl
  simp only [callB, hf, funced, b112, bodied]
  rfl
/-! function 113: colloquy/colloquyref22.copied -/
noncomputable def g113_0 : Array Oper := regAt Go.Proofs.Try.f113 0
theorem k113_0 : guardsOk g113_0 = true := nr (by kernel_rfl)
@[go_sem] theorem x113_0 {h : Hd} {ro nt id : Nat} {fr : PT} {H : Hp} : ex cx h ro 113 nt (.region id g113_0 false) fr H = xbind (xrun cx h ro 113 nt g113_0 [(some 1, (.box 45 (.tmp 0)), none), (some 2, (.alloc 45), none)] fr H) fun p => some (.normal, p.1, p.2) := x_region _ k113_0 (nr (by kernel_rfl))
@[go_sem] theorem t113_0 (d : Tmp) : takes g113_0 d = false := nr (by kernel_rfl)
noncomputable def g113_1 : Array Oper := regAt Go.Proofs.Try.f113 1
theorem k113_1 : guardsOk g113_1 = true := nr (by kernel_rfl)
@[go_sem] theorem x113_1 {h : Hd} {ro nt id : Nat} {fr : PT} {H : Hp} : ex cx h ro 113 nt (.region id g113_1 false) fr H = xbind (xrun cx h ro 113 nt g113_1 [(some 3, (.buildSlice 39 0 #[]), none), (some 4, (.fieldAddr 45 (.tmp 1) 2), none), (some 5, (.load 39 (.tmp 4)), none), (some 6, (.call ⟨(.builtin .append), #[(.tmp 3), (.tmp 5)], #[39, 39]⟩), none), (some 7, (.fieldAddr 45 (.tmp 1) 2), none), (none, (.store 39 (.tmp 7) (.tmp 6)), none)] fr H) fun p => some (.normal, p.1, p.2) := x_region _ k113_1 (nr (by kernel_rfl))
@[go_sem] theorem t113_1_3 : takes g113_1 3 = true := nr (by kernel_rfl)
@[go_sem] theorem t113_1_4 : takes g113_1 4 = false := nr (by kernel_rfl)
@[go_sem] theorem t113_1_5 : takes g113_1 5 = false := nr (by kernel_rfl)
@[go_sem] theorem t113_1_6 : takes g113_1 6 = false := nr (by kernel_rfl)
@[go_sem] theorem t113_1_7 : takes g113_1 7 = false := nr (by kernel_rfl)
noncomputable def g113_2 : Array Oper := regAt Go.Proofs.Try.f113 2
theorem k113_2 : guardsOk g113_2 = true := nr (by kernel_rfl)
@[go_sem] theorem x113_2 {h : Hd} {ro nt id : Nat} {fr : PT} {H : Hp} : ex cx h ro 113 nt (.region id g113_2 false) fr H = xbind (xrun cx h ro 113 nt g113_2 [(some 8, (.load 45 (.tmp 1)), none), (none, (.store 45 (.tmp 2) (.tmp 8)), none)] fr H) fun p => some (.normal, p.1, p.2) := x_region _ k113_2 (nr (by kernel_rfl))
@[go_sem] theorem t113_2 (d : Tmp) : takes g113_2 d = false := nr (by kernel_rfl)
theorem b113 : Go.Proofs.Try.f113.body = some (.seq (.region 0 g113_0 false) (.seq (.region 1 g113_1 false) (.seq (.region 2 g113_2 false) .ret))) := by kernel_rfl
theorem c113 {h : Hd} {ro : Nat} {H : Hp} (a0 : AV) : callB cx h ro 113 [a0] H = returned cx [(.cell 2 45)] (ex cx h ro 113 9 (.seq (.region 0 g113_0 false) (.seq (.region 1 g113_1 false) (.seq (.region 2 g113_2 false) .ret))) (PT.nil.set 0 (drp a0)) H) := by
  have hf : cx.fns 113 = some Go.Proofs.Try.f113 := by kernel_rfl
  simp only [callB, hf, funced, b113, bodied]
  rfl
/-! function 114: (*colloquy/colloquyref22.Table).Get -/
noncomputable def g114_0 : Array Oper := regAt Go.Proofs.Try.f114 0
theorem k114_0 : guardsOk g114_0 = true := nr (by kernel_rfl)
@[go_sem] theorem x114_0 {h : Hd} {ro nt id : Nat} {fr : PT} {H : Hp} : ex cx h ro 114 nt (.region id g114_0 false) fr H = xbind (xrun cx h ro 114 nt g114_0 [(some 4, (.alloc 45), none), (some 5, (.assign (.const (.bool false))), none)] fr H) fun p => some (.normal, p.1, p.2) := x_region _ k114_0 (nr (by kernel_rfl))
@[go_sem] theorem t114_0 (d : Tmp) : takes g114_0 d = false := nr (by kernel_rfl)
noncomputable def g114_1 : Array Oper := regAt Go.Proofs.Try.f114 1
theorem k114_1 : guardsOk g114_1 = true := nr (by kernel_rfl)
@[go_sem] theorem x114_1 {h : Hd} {ro nt id : Nat} {fr : PT} {H : Hp} : ex cx h ro 114 nt (.region id g114_1 false) fr H = xbind (xrun cx h ro 114 nt g114_1 [(some 6, (.move (.tmp 0)), none), (some 7, (.move (.tmp 1)), none), (some 8, (.call ⟨(.value (.func 112)), #[(.tmp 6), (.tmp 7)], #[36, 3]⟩), none), (some 9, (.unOp .not 4 (.tmp 8)), none)] fr H) fun p => some (.normal, p.1, p.2) := x_region _ k114_1 (nr (by kernel_rfl))
@[go_sem] theorem t114_1 (d : Tmp) : takes g114_1 d = false := nr (by kernel_rfl)
noncomputable def g114_2 : Array Oper := regAt Go.Proofs.Try.f114 2
theorem k114_2 : guardsOk g114_2 = true := nr (by kernel_rfl)
@[go_sem] theorem x114_2 {h : Hd} {ro nt id : Nat} {fr : PT} {H : Hp} : ex cx h ro 114 nt (.region id g114_2 false) fr H = xbind (xrun cx h ro 114 nt g114_2 [(some 10, (.build 45 #[]), none), (none, (.store 45 (.tmp 4) (.tmp 10)), none), (some 5, (.assign (.const (.bool false))), none)] fr H) fun p => some (.normal, p.1, p.2) := x_region _ k114_2 (nr (by kernel_rfl))
@[go_sem] theorem t114_2 (d : Tmp) : takes g114_2 d = false := nr (by kernel_rfl)
noncomputable def g114_3 : Array Oper := regAt Go.Proofs.Try.f114 3
theorem k114_3 : guardsOk g114_3 = true := nr (by kernel_rfl)
@[go_sem] theorem x114_3 {h : Hd} {ro nt id : Nat} {fr : PT} {H : Hp} : ex cx h ro 114 nt (.region id g114_3 false) fr H = xbind (xrun cx h ro 114 nt g114_3 [(some 11, (.move (.tmp 0)), none), (some 12, (.nilCheck (.tmp 11)), none), (some 13, (.fieldAddr 192 (.tmp 12) 1), none), (some 14, (.load 190 (.tmp 13)), none), (some 15, (.move (.tmp 1)), none), (some 16, (.indexAddr 190 (.tmp 14) (.tmp 15)), none), (some 17, (.load 45 (.tmp 16)), none), (some 18, (.call ⟨(.value (.func 113)), #[(.tmp 17)], #[45]⟩), none), (none, (.store 45 (.tmp 4) (.tmp 18)), none), (some 5, (.assign (.const (.bool true))), none)] fr H) fun p => some (.normal, p.1, p.2) := x_region _ k114_3 (nr (by kernel_rfl))
@[go_sem] theorem t114_3 (d : Tmp) : takes g114_3 d = false := nr (by kernel_rfl)
theorem b114 : Go.Proofs.Try.f114.body = some (.seq (.region 0 g114_0 false) (.seq (.seq (.region 1 g114_1 false) (.cond (.tmp 9) (.seq (.region 2 g114_2 false) .ret) .skip)) (.seq (.region 3 g114_3 false) .ret))) := by kernel_rfl
theorem c114 {h : Hd} {ro : Nat} {H : Hp} (a0 a1 : AV) : callB cx h ro 114 [a0, a1] H = returned cx [(.cell 4 45), (.tmp 5)] (ex cx h ro 114 19 (.seq (.region 0 g114_0 false) (.seq (.seq (.region 1 g114_1 false) (.cond (.tmp 9) (.seq (.region 2 g114_2 false) .ret) .skip)) (.seq (.region 3 g114_3 false) .ret))) ((PT.nil.set 0 (drp a0)).set 1 (drp a1)) H) := by
  have hf : cx.fns 114 = some Go.Proofs.Try.f114 := by kernel_rfl
  simp only [callB, hf, funced, b114, bodied]
  rfl
end Go.Abs.Tab

/- Codes of this seat's functions, their regions step by step. (Printed by a program.) -/
set_option linter.unusedVariables false
namespace Go.Abs.Tab
/-! function 4: colloquy/colloquylaw22.ActorsPlays -/
noncomputable def g4_0 : Array Oper := regAt Go.Proofs.Try.f4 0
theorem k4_0 : guardsOk g4_0 = true := nr (by kernel_rfl)
@[go_sem] theorem x4_0 {h : Hd} {ro nt id : Nat} {fr : PT} {H : Hp} : ex cx h ro 4 nt (.region id g4_0 false) fr H = xbind (xrun cx h ro 4 nt g4_0 [(some 4, (.assign (.const (.bool false))), none)] fr H) fun p => some (.normal, p.1, p.2) := x_region _ k4_0 (nr (by kernel_rfl))
@[go_sem] theorem t4_0 (d : Tmp) : takes g4_0 d = false := nr (by kernel_rfl)
noncomputable def g4_1 : Array Oper := regAt Go.Proofs.Try.f4 1
theorem k4_1 : guardsOk g4_1 = true := nr (by kernel_rfl)
@[go_sem] theorem x4_1 {h : Hd} {ro nt id : Nat} {fr : PT} {H : Hp} : ex cx h ro 4 nt (.region id g4_1 false) fr H = xbind (xrun cx h ro 4 nt g4_1 [(some 18, (.move (.tmp 0)), none), (some 19, (.call ⟨(.value (.func 34)), #[(.tmp 18)], #[3]⟩), none), (some 20, (.move (.tmp 0)), none), (some 21, (.call ⟨(.value (.func 39)), #[(.tmp 20)], #[3]⟩), none), (some 5, (.assign (.tmp 19)), none), (some 6, (.assign (.tmp 21)), none)] fr H) fun p => some (.normal, p.1, p.2) := x_region _ k4_1 (nr (by kernel_rfl))
@[go_sem] theorem t4_1 (d : Tmp) : takes g4_1 d = false := nr (by kernel_rfl)
noncomputable def g4_2 : Array Oper := regAt Go.Proofs.Try.f4 2
theorem k4_2 : guardsOk g4_2 = true := nr (by kernel_rfl)
@[go_sem] theorem x4_2 {h : Hd} {ro nt id : Nat} {fr : PT} {H : Hp} : ex cx h ro 4 nt (.region id g4_2 false) fr H = xbind (xrun cx h ro 4 nt g4_2 [(some 22, (.move (.tmp 5)), none), (some 23, (.binOp .eql 24 (.tmp 22) (.const (.pointer none)) 24), none), (some 24, (.move (.tmp 23)), none), (some 25, (.move (.tmp 6)), some (24, false)), (some 26, (.binOp .eql 36 (.tmp 25) (.const (.pointer none)) 36), some (24, false)), (some 27, (.pick (.tmp 24) (.const (.bool true)) (.tmp 26)), none)] fr H) fun p => some (.normal, p.1, p.2) := x_region _ k4_2 (nr (by kernel_rfl))
@[go_sem] theorem t4_2 (d : Tmp) : takes g4_2 d = false := nr (by kernel_rfl)
noncomputable def g4_3 : Array Oper := regAt Go.Proofs.Try.f4 3
theorem k4_3 : guardsOk g4_3 = true := nr (by kernel_rfl)
@[go_sem] theorem x4_3 {h : Hd} {ro nt id : Nat} {fr : PT} {H : Hp} : ex cx h ro 4 nt (.region id g4_3 false) fr H = xbind (xrun cx h ro 4 nt g4_3 [(some 28, (.move (.tmp 5)), none), (some 29, (.binOp .eql 24 (.tmp 28) (.const (.pointer none)) 24), none), (some 30, (.move (.tmp 29)), none), (some 31, (.move (.tmp 6)), some (30, true)), (some 32, (.binOp .eql 36 (.tmp 31) (.const (.pointer none)) 36), some (30, true)), (some 33, (.pick (.tmp 30) (.tmp 32) (.const (.bool false))), none), (some 34, (.move (.tmp 33)), none), (some 35, (.call ⟨(.value (.func 33)), #[], #[]⟩), some (34, true)), (some 36, (.pick (.tmp 34) (.tmp 35) (.const (.bool false))), none), (some 4, (.assign (.tmp 36)), none)] fr H) fun p => some (.normal, p.1, p.2) := x_region _ k4_3 (nr (by kernel_rfl))
@[go_sem] theorem t4_3 (d : Tmp) : takes g4_3 d = false := nr (by kernel_rfl)
noncomputable def g4_4 : Array Oper := regAt Go.Proofs.Try.f4 4
theorem k4_4 : guardsOk g4_4 = true := nr (by kernel_rfl)
@[go_sem] theorem x4_4 {h : Hd} {ro nt id : Nat} {fr : PT} {H : Hp} : ex cx h ro 4 nt (.region id g4_4 false) fr H = xbind (xrun cx h ro 4 nt g4_4 [(some 7, (.assign (.const (.int .i64 0))), none)] fr H) fun p => some (.normal, p.1, p.2) := x_region _ k4_4 (nr (by kernel_rfl))
@[go_sem] theorem t4_4 (d : Tmp) : takes g4_4 d = false := nr (by kernel_rfl)
noncomputable def g4_5 : Array Oper := regAt Go.Proofs.Try.f4 5
theorem k4_5 : guardsOk g4_5 = true := nr (by kernel_rfl)
@[go_sem] theorem x4_5 {h : Hd} {ro nt id : Nat} {fr : PT} {H : Hp} : ex cx h ro 4 nt (.region id g4_5 false) fr H = xbind (xrun cx h ro 4 nt g4_5 [(some 37, (.move (.tmp 7)), none), (some 38, (.move (.tmp 1)), none), (some 39, (.call ⟨(.builtin .len), #[(.tmp 38)], #[35]⟩), none), (some 40, (.binOp .lss 3 (.tmp 37) (.tmp 39) 3), none), (some 41, (.move (.tmp 40)), none), (some 42, (.move (.tmp 7)), some (41, true)), (some 43, (.binOp .lss 3 (.tmp 42) (.const (.int .i64 50)) 3), some (41, true)), (some 44, (.pick (.tmp 41) (.tmp 43) (.const (.bool false))), none)] fr H) fun p => some (.normal, p.1, p.2) := x_region _ k4_5 (nr (by kernel_rfl))
@[go_sem] theorem t4_5 (d : Tmp) : takes g4_5 d = false := nr (by kernel_rfl)
noncomputable def g4_6 : Array Oper := regAt Go.Proofs.Try.f4 6
theorem k4_6 : guardsOk g4_6 = true := nr (by kernel_rfl)
@[go_sem] theorem x4_6 {h : Hd} {ro nt id : Nat} {fr : PT} {H : Hp} : ex cx h ro 4 nt (.region id g4_6 false) fr H = xbind (xrun cx h ro 4 nt g4_6 [(some 47, (.move (.tmp 1)), none), (some 48, (.move (.tmp 7)), none), (some 49, (.indexAddr 35 (.tmp 47) (.tmp 48)), none), (some 50, (.load 41 (.tmp 49)), none), (some 8, (.alloc 41), none), (none, (.store 41 (.tmp 8) (.tmp 50)), none)] fr H) fun p => some (.normal, p.1, p.2) := x_region _ k4_6 (nr (by kernel_rfl))
@[go_sem] theorem t4_6 (d : Tmp) : takes g4_6 d = false := nr (by kernel_rfl)
noncomputable def g4_7 : Array Oper := regAt Go.Proofs.Try.f4 7
theorem k4_7 : guardsOk g4_7 = true := nr (by kernel_rfl)
@[go_sem] theorem x4_7 {h : Hd} {ro nt id : Nat} {fr : PT} {H : Hp} : ex cx h ro 4 nt (.region id g4_7 false) fr H = xbind (xrun cx h ro 4 nt g4_7 [(some 51, (.fieldAddr 41 (.tmp 8) 3), none), (some 52, (.load 39 (.tmp 51)), none), (some 53, (.fieldAddr 41 (.tmp 8) 3), none), (some 54, (.load 39 (.tmp 53)), none), (some 55, (.call ⟨(.builtin .len), #[(.tmp 54)], #[39]⟩), none), (some 56, (.call ⟨(.builtin .min), #[(.tmp 55), (.const (.int .i64 20))], #[3, 3]⟩), none), (some 57, (.slice 39 (.tmp 52) none (some (.tmp 56)) none), none), (some 9, (.assign (.tmp 57)), none)] fr H) fun p => some (.normal, p.1, p.2) := x_region _ k4_7 (nr (by kernel_rfl))
@[go_sem] theorem t4_7 (d : Tmp) : takes g4_7 d = false := nr (by kernel_rfl)
noncomputable def g4_8 : Array Oper := regAt Go.Proofs.Try.f4 8
theorem k4_8 : guardsOk g4_8 = true := nr (by kernel_rfl)
@[go_sem] theorem x4_8 {h : Hd} {ro nt id : Nat} {fr : PT} {H : Hp} : ex cx h ro 4 nt (.region id g4_8 false) fr H = xbind (xrun cx h ro 4 nt g4_8 [(some 58, (.fieldAddr 41 (.tmp 8) 1), none), (some 59, (.load 38 (.tmp 58)), none), (some 60, (.convert 38 3 (.tmp 59)), none), (some 10, (.assign (.tmp 60)), none)] fr H) fun p => some (.normal, p.1, p.2) := x_region _ k4_8 (nr (by kernel_rfl))
@[go_sem] theorem t4_8 (d : Tmp) : takes g4_8 d = false := nr (by kernel_rfl)
noncomputable def g4_9 : Array Oper := regAt Go.Proofs.Try.f4 9
theorem k4_9 : guardsOk g4_9 = true := nr (by kernel_rfl)
@[go_sem] theorem x4_9 {h : Hd} {ro nt id : Nat} {fr : PT} {H : Hp} : ex cx h ro 4 nt (.region id g4_9 false) fr H = xbind (xrun cx h ro 4 nt g4_9 [(some 61, (.fieldAddr 41 (.tmp 8) 0), none), (some 62, (.load 38 (.tmp 61)), none), (some 63, (.binOp .and 38 (.tmp 62) (.const (.int .i8 3)) 38), none)] fr H) fun p => some (.normal, p.1, p.2) := x_region _ k4_9 (nr (by kernel_rfl))
@[go_sem] theorem t4_9 (d : Tmp) : takes g4_9 d = false := nr (by kernel_rfl)
noncomputable def g4_10 : Array Oper := regAt Go.Proofs.Try.f4 10
theorem k4_10 : guardsOk g4_10 = true := nr (by kernel_rfl)
@[go_sem] theorem x4_10 {h : Hd} {ro nt id : Nat} {fr : PT} {H : Hp} : ex cx h ro 4 nt (.region id g4_10 false) fr H = xbind (xrun cx h ro 4 nt g4_10 [(some 72, (.binOp .eql 38 (.tmp 63) (.const (.int .i8 0)) 38), none), (some 71, (.assign (.tmp 72)), none)] fr H) fun p => some (.normal, p.1, p.2) := x_region _ k4_10 (nr (by kernel_rfl))
@[go_sem] theorem t4_10 (d : Tmp) : takes g4_10 d = false := nr (by kernel_rfl)
noncomputable def g4_11 : Array Oper := regAt Go.Proofs.Try.f4 11
theorem k4_11 : guardsOk g4_11 = true := nr (by kernel_rfl)
@[go_sem] theorem x4_11 {h : Hd} {ro nt id : Nat} {fr : PT} {H : Hp} : ex cx h ro 4 nt (.region id g4_11 false) fr H = xbind (xrun cx h ro 4 nt g4_11 [(some 73, (.binOp .eql 38 (.tmp 63) (.const (.int .i8 1)) 38), none), (some 71, (.assign (.tmp 73)), none)] fr H) fun p => some (.normal, p.1, p.2) := x_region _ k4_11 (nr (by kernel_rfl))
@[go_sem] theorem t4_11 (d : Tmp) : takes g4_11 d = false := nr (by kernel_rfl)
noncomputable def g4_12 : Array Oper := regAt Go.Proofs.Try.f4 12
theorem k4_12 : guardsOk g4_12 = true := nr (by kernel_rfl)
@[go_sem] theorem x4_12 {h : Hd} {ro nt id : Nat} {fr : PT} {H : Hp} : ex cx h ro 4 nt (.region id g4_12 false) fr H = xbind (xrun cx h ro 4 nt g4_12 [(some 75, (.move (.tmp 5)), none), (some 76, (.fieldAddr 41 (.tmp 8) 2), none), (some 77, (.load 3 (.tmp 76)), none), (some 78, (.move (.tmp 9)), none), (some 79, (.call ⟨(.value (.func 35)), #[(.tmp 75), (.tmp 77), (.tmp 78)], #[24, 3, 39]⟩), none), (some 74, (.move (.tmp 79)), none), (some 80, (.extract (.tmp 74) 0), none), (some 81, (.extract (.tmp 74) 1), none), (some 11, (.assign (.tmp 80)), none), (some 12, (.assign (.tmp 81)), none)] fr H) fun p => some (.normal, p.1, p.2) := x_region _ k4_12 (nr (by kernel_rfl))
@[go_sem] theorem t4_12 (d : Tmp) : takes g4_12 d = false := nr (by kernel_rfl)
noncomputable def g4_13 : Array Oper := regAt Go.Proofs.Try.f4 13
theorem k4_13 : guardsOk g4_13 = true := nr (by kernel_rfl)
@[go_sem] theorem x4_13 {h : Hd} {ro nt id : Nat} {fr : PT} {H : Hp} : ex cx h ro 4 nt (.region id g4_13 false) fr H = xbind (xrun cx h ro 4 nt g4_13 [(some 83, (.move (.tmp 6)), none), (some 84, (.fieldAddr 41 (.tmp 8) 2), none), (some 85, (.load 3 (.tmp 84)), none), (some 86, (.move (.tmp 9)), none), (some 87, (.call ⟨(.value (.func 40)), #[(.tmp 83), (.tmp 85), (.tmp 86)], #[36, 3, 39]⟩), none), (some 82, (.move (.tmp 87)), none), (some 88, (.extract (.tmp 82) 0), none), (some 89, (.extract (.tmp 82) 1), none), (some 13, (.assign (.tmp 88)), none), (some 14, (.assign (.tmp 89)), none)] fr H) fun p => some (.normal, p.1, p.2) := x_region _ k4_13 (nr (by kernel_rfl))
@[go_sem] theorem t4_13 (d : Tmp) : takes g4_13 d = false := nr (by kernel_rfl)
noncomputable def g4_14 : Array Oper := regAt Go.Proofs.Try.f4 14
theorem k4_14 : guardsOk g4_14 = true := nr (by kernel_rfl)
@[go_sem] theorem x4_14 {h : Hd} {ro nt id : Nat} {fr : PT} {H : Hp} : ex cx h ro 4 nt (.region id g4_14 false) fr H = xbind (xrun cx h ro 4 nt g4_14 [(some 90, (.move (.tmp 11)), none), (some 91, (.move (.tmp 13)), none), (some 92, (.binOp .neq 3 (.tmp 90) (.tmp 91) 3), none), (some 93, (.move (.tmp 92)), none), (some 94, (.move (.tmp 12)), some (93, false)), (some 95, (.move (.tmp 14)), some (93, false)), (some 96, (.binOp .neq 27 (.tmp 94) (.tmp 95) 27), some (93, false)), (some 97, (.pick (.tmp 93) (.const (.bool true)) (.tmp 96)), none)] fr H) fun p => some (.normal, p.1, p.2) := x_region _ k4_14 (nr (by kernel_rfl))
@[go_sem] theorem t4_14 (d : Tmp) : takes g4_14 d = false := nr (by kernel_rfl)
noncomputable def g4_15 : Array Oper := regAt Go.Proofs.Try.f4 15
theorem k4_15 : guardsOk g4_15 = true := nr (by kernel_rfl)
@[go_sem] theorem x4_15 {h : Hd} {ro nt id : Nat} {fr : PT} {H : Hp} : ex cx h ro 4 nt (.region id g4_15 false) fr H = xbind (xrun cx h ro 4 nt g4_15 [(some 4, (.assign (.const (.bool false))), none)] fr H) fun p => some (.normal, p.1, p.2) := x_region _ k4_15 (nr (by kernel_rfl))
@[go_sem] theorem t4_15 (d : Tmp) : takes g4_15 d = false := nr (by kernel_rfl)
noncomputable def g4_16 : Array Oper := regAt Go.Proofs.Try.f4 16
theorem k4_16 : guardsOk g4_16 = true := nr (by kernel_rfl)
@[go_sem] theorem x4_16 {h : Hd} {ro nt id : Nat} {fr : PT} {H : Hp} : ex cx h ro 4 nt (.region id g4_16 false) fr H = xbind (xrun cx h ro 4 nt g4_16 [(some 99, (.binOp .eql 38 (.tmp 63) (.const (.int .i8 2)) 38), none), (some 98, (.assign (.tmp 99)), none)] fr H) fun p => some (.normal, p.1, p.2) := x_region _ k4_16 (nr (by kernel_rfl))
@[go_sem] theorem t4_16 (d : Tmp) : takes g4_16 d = false := nr (by kernel_rfl)
noncomputable def g4_17 : Array Oper := regAt Go.Proofs.Try.f4 17
theorem k4_17 : guardsOk g4_17 = true := nr (by kernel_rfl)
@[go_sem] theorem x4_17 {h : Hd} {ro nt id : Nat} {fr : PT} {H : Hp} : ex cx h ro 4 nt (.region id g4_17 false) fr H = xbind (xrun cx h ro 4 nt g4_17 [(some 100, (.move (.tmp 10)), none), (some 101, (.fieldAddr 41 (.tmp 8) 2), none), (some 102, (.load 3 (.tmp 101)), none), (some 103, (.move (.tmp 9)), none), (some 104, (.build 44 #[(0, (.tmp 100)), (1, (.tmp 102)), (2, (.tmp 103))]), none), (some 15, (.alloc 44), none), (none, (.store 44 (.tmp 15) (.tmp 104)), none)] fr H) fun p => some (.normal, p.1, p.2) := x_region _ k4_17 (nr (by kernel_rfl))
@[go_sem] theorem t4_17 (d : Tmp) : takes g4_17 d = false := nr (by kernel_rfl)
noncomputable def g4_18 : Array Oper := regAt Go.Proofs.Try.f4 18
theorem k4_18 : guardsOk g4_18 = true := nr (by kernel_rfl)
@[go_sem] theorem x4_18 {h : Hd} {ro nt id : Nat} {fr : PT} {H : Hp} : ex cx h ro 4 nt (.region id g4_18 false) fr H = xbind (xrun cx h ro 4 nt g4_18 [(some 105, (.move (.tmp 10)), none), (some 106, (.fieldAddr 41 (.tmp 8) 2), none), (some 107, (.load 3 (.tmp 106)), none), (some 108, (.move (.tmp 9)), none), (some 109, (.build 45 #[(0, (.tmp 105)), (1, (.tmp 107)), (2, (.tmp 108))]), none), (some 16, (.alloc 45), none), (none, (.store 45 (.tmp 16) (.tmp 109)), none)] fr H) fun p => some (.normal, p.1, p.2) := x_region _ k4_18 (nr (by kernel_rfl))
@[go_sem] theorem t4_18 (d : Tmp) : takes g4_18 d = false := nr (by kernel_rfl)
noncomputable def g4_19 : Array Oper := regAt Go.Proofs.Try.f4 19
theorem k4_19 : guardsOk g4_19 = true := nr (by kernel_rfl)
@[go_sem] theorem x4_19 {h : Hd} {ro nt id : Nat} {fr : PT} {H : Hp} : ex cx h ro 4 nt (.region id g4_19 false) fr H = xbind (xrun cx h ro 4 nt g4_19 [(some 110, (.move (.tmp 9)), none), (some 111, (.call ⟨(.builtin .len), #[(.tmp 110)], #[39]⟩), none), (some 112, (.binOp .gtr 3 (.tmp 111) (.const (.int .i64 0)) 3), none)] fr H) fun p => some (.normal, p.1, p.2) := x_region _ k4_19 (nr (by kernel_rfl))
@[go_sem] theorem t4_19 (d : Tmp) : takes g4_19 d = false := nr (by kernel_rfl)
noncomputable def g4_20 : Array Oper := regAt Go.Proofs.Try.f4 20
theorem k4_20 : guardsOk g4_20 = true := nr (by kernel_rfl)
@[go_sem] theorem x4_20 {h : Hd} {ro nt id : Nat} {fr : PT} {H : Hp} : ex cx h ro 4 nt (.region id g4_20 false) fr H = xbind (xrun cx h ro 4 nt g4_20 [(some 113, (.move (.tmp 9)), none), (some 114, (.indexAddr 39 (.tmp 113) (.const (.int .i64 0))), none), (some 115, (.load 2 (.tmp 114)), none), (some 116, (.fieldAddr 44 (.tmp 15) 3), none), (some 117, (.indexAddr 42 (.tmp 116) (.const (.int .i64 15))), none), (none, (.store 2 (.tmp 117) (.tmp 115)), none)] fr H) fun p => some (.normal, p.1, p.2) := x_region _ k4_20 (nr (by kernel_rfl))
@[go_sem] theorem t4_20 (d : Tmp) : takes g4_20 d = false := nr (by kernel_rfl)
noncomputable def g4_21 : Array Oper := regAt Go.Proofs.Try.f4 21
theorem k4_21 : guardsOk g4_21 = true := nr (by kernel_rfl)
@[go_sem] theorem x4_21 {h : Hd} {ro nt id : Nat} {fr : PT} {H : Hp} : ex cx h ro 4 nt (.region id g4_21 false) fr H = xbind (xrun cx h ro 4 nt g4_21 [(some 118, (.move (.tmp 9)), none), (some 119, (.indexAddr 39 (.tmp 118) (.const (.int .i64 0))), none), (some 120, (.load 2 (.tmp 119)), none), (some 121, (.fieldAddr 45 (.tmp 16) 3), none), (some 122, (.indexAddr 42 (.tmp 121) (.const (.int .i64 15))), none), (none, (.store 2 (.tmp 122) (.tmp 120)), none)] fr H) fun p => some (.normal, p.1, p.2) := x_region _ k4_21 (nr (by kernel_rfl))
@[go_sem] theorem t4_21 (d : Tmp) : takes g4_21 d = false := nr (by kernel_rfl)
noncomputable def g4_22 : Array Oper := regAt Go.Proofs.Try.f4 22
theorem k4_22 : guardsOk g4_22 = true := nr (by kernel_rfl)
@[go_sem] theorem x4_22 {h : Hd} {ro nt id : Nat} {fr : PT} {H : Hp} : ex cx h ro 4 nt (.region id g4_22 true) fr H = orRaw (xrunU cx h ro 4 nt g4_22 H.length [(0, 0, [], (some 123, (.move (.tmp 5)), none)), (1, 0, [0], (some 124, (.move (.tmp 10)), none)), (2, 0, [0, 1], (some 125, (.load 44 (.tmp 15)), none)), (3, 0, [], (some 126, (.call ⟨(.value (.func 41)), #[(.tmp 123), (.tmp 124), (.tmp 125)], #[24, 3, 44]⟩), none)), (4, 0, [0, 1, 2, 3], (some 127, (.move (.tmp 6)), none)), (5, 0, [0, 1, 2, 3, 4], (some 128, (.move (.tmp 10)), none)), (6, 0, [0, 1, 2, 3, 4, 5], (some 129, (.load 45 (.tmp 16)), none)), (7, 0, [], (some 130, (.call ⟨(.value (.func 42)), #[(.tmp 127), (.tmp 128), (.tmp 129)], #[36, 3, 45]⟩), none)), (8, 0, [], (some 131, (.binOp .neq 27 (.tmp 126) (.tmp 130) 27), none))] fr (H ++ List.replicate 0 .res) []) fun _ => regionRaw cx h ro 4 nt g4_22 fr H := x_regionU _ _ k4_22 (nr (by kernel_rfl)) (nr (by kernel_rfl)) (nr (by kernel_rfl)) (nr (by kernel_rfl))
@[go_sem] theorem t4_22 (d : Tmp) : takes g4_22 d = false := nr (by kernel_rfl)
noncomputable def g4_23 : Array Oper := regAt Go.Proofs.Try.f4 23
theorem k4_23 : guardsOk g4_23 = true := nr (by kernel_rfl)
@[go_sem] theorem x4_23 {h : Hd} {ro nt id : Nat} {fr : PT} {H : Hp} : ex cx h ro 4 nt (.region id g4_23 false) fr H = xbind (xrun cx h ro 4 nt g4_23 [(some 4, (.assign (.const (.bool false))), none)] fr H) fun p => some (.normal, p.1, p.2) := x_region _ k4_23 (nr (by kernel_rfl))
@[go_sem] theorem t4_23 (d : Tmp) : takes g4_23 d = false := nr (by kernel_rfl)
noncomputable def g4_24 : Array Oper := regAt Go.Proofs.Try.f4 24
theorem k4_24 : guardsOk g4_24 = true := nr (by kernel_rfl)
@[go_sem] theorem x4_24 {h : Hd} {ro nt id : Nat} {fr : PT} {H : Hp} : ex cx h ro 4 nt (.region id g4_24 false) fr H = xbind (xrun cx h ro 4 nt g4_24 [(some 64, (.move (.tmp 5)), none), (some 65, (.move (.tmp 10)), none), (some 66, (.call ⟨(.value (.func 36)), #[(.tmp 64), (.tmp 65)], #[24, 3]⟩), none), (some 67, (.move (.tmp 6)), none), (some 68, (.move (.tmp 10)), none), (some 69, (.call ⟨(.value (.func 43)), #[(.tmp 67), (.tmp 68)], #[36, 3]⟩), none), (some 70, (.binOp .neq 27 (.tmp 66) (.tmp 69) 27), none)] fr H) fun p => some (.normal, p.1, p.2) := x_region _ k4_24 (nr (by kernel_rfl))
@[go_sem] theorem t4_24 (d : Tmp) : takes g4_24 d = false := nr (by kernel_rfl)
noncomputable def g4_25 : Array Oper := regAt Go.Proofs.Try.f4 25
theorem k4_25 : guardsOk g4_25 = true := nr (by kernel_rfl)
@[go_sem] theorem x4_25 {h : Hd} {ro nt id : Nat} {fr : PT} {H : Hp} : ex cx h ro 4 nt (.region id g4_25 false) fr H = xbind (xrun cx h ro 4 nt g4_25 [(some 4, (.assign (.const (.bool false))), none)] fr H) fun p => some (.normal, p.1, p.2) := x_region _ k4_25 (nr (by kernel_rfl))
@[go_sem] theorem t4_25 (d : Tmp) : takes g4_25 d = false := nr (by kernel_rfl)
noncomputable def g4_26 : Array Oper := regAt Go.Proofs.Try.f4 26
theorem k4_26 : guardsOk g4_26 = true := nr (by kernel_rfl)
@[go_sem] theorem x4_26 {h : Hd} {ro nt id : Nat} {fr : PT} {H : Hp} : ex cx h ro 4 nt (.region id g4_26 false) fr H = xbind (xrun cx h ro 4 nt g4_26 [(some 132, (.move (.tmp 5)), none), (some 133, (.call ⟨(.value (.func 38)), #[(.tmp 132)], #[24]⟩), none), (some 134, (.move (.tmp 6)), none), (some 135, (.call ⟨(.value (.func 44)), #[(.tmp 134)], #[36]⟩), none), (some 136, (.call ⟨(.value (.func 37)), #[(.tmp 133), (.tmp 135)], #[31, 31]⟩), none), (some 137, (.unOp .not 4 (.tmp 136)), none), (some 138, (.move (.tmp 137)), none), (some 139, (.move (.tmp 5)), some (138, false)), (some 140, (.move (.tmp 6)), some (138, false)), (some 141, (.move (.tmp 10)), some (138, false)), (some 142, (.call ⟨(.value (.func 45)), #[(.tmp 139), (.tmp 140), (.tmp 141)], #[24, 36, 3]⟩), some (138, false)), (some 143, (.unOp .not 4 (.tmp 142)), some (138, false)), (some 144, (.pick (.tmp 138) (.const (.bool true)) (.tmp 143)), none)] fr H) fun p => some (.normal, p.1, p.2) := x_region _ k4_26 (nr (by kernel_rfl))
@[go_sem] theorem t4_26 (d : Tmp) : takes g4_26 d = false := nr (by kernel_rfl)
noncomputable def g4_27 : Array Oper := regAt Go.Proofs.Try.f4 27
theorem k4_27 : guardsOk g4_27 = true := nr (by kernel_rfl)
@[go_sem] theorem x4_27 {h : Hd} {ro nt id : Nat} {fr : PT} {H : Hp} : ex cx h ro 4 nt (.region id g4_27 false) fr H = xbind (xrun cx h ro 4 nt g4_27 [(some 4, (.assign (.const (.bool false))), none)] fr H) fun p => some (.normal, p.1, p.2) := x_region _ k4_27 (nr (by kernel_rfl))
@[go_sem] theorem t4_27 (d : Tmp) : takes g4_27 d = false := nr (by kernel_rfl)
noncomputable def g4_28 : Array Oper := regAt Go.Proofs.Try.f4 28
theorem k4_28 : guardsOk g4_28 = true := nr (by kernel_rfl)
@[go_sem] theorem x4_28 {h : Hd} {ro nt id : Nat} {fr : PT} {H : Hp} : ex cx h ro 4 nt (.region id g4_28 false) fr H = xbind (xrun cx h ro 4 nt g4_28 [(some 17, (.assign (.const (.int .i64 (-1)))), none)] fr H) fun p => some (.normal, p.1, p.2) := x_region _ k4_28 (nr (by kernel_rfl))
@[go_sem] theorem t4_28 (d : Tmp) : takes g4_28 d = false := nr (by kernel_rfl)
noncomputable def g4_29 : Array Oper := regAt Go.Proofs.Try.f4 29
theorem k4_29 : guardsOk g4_29 = true := nr (by kernel_rfl)
@[go_sem] theorem x4_29 {h : Hd} {ro nt id : Nat} {fr : PT} {H : Hp} : ex cx h ro 4 nt (.region id g4_29 false) fr H = xbind (xrun cx h ro 4 nt g4_29 [(some 145, (.move (.tmp 17)), none), (some 146, (.move (.tmp 0)), none), (some 147, (.binOp .leq 3 (.tmp 145) (.tmp 146) 3), none), (some 148, (.move (.tmp 147)), none), (some 149, (.move (.tmp 17)), some (148, true)), (some 150, (.binOp .lss 3 (.tmp 149) (.const (.int .i64 9)) 3), some (148, true)), (some 151, (.pick (.tmp 148) (.tmp 150) (.const (.bool false))), none)] fr H) fun p => some (.normal, p.1, p.2) := x_region _ k4_29 (nr (by kernel_rfl))
@[go_sem] theorem t4_29 (d : Tmp) : takes g4_29 d = false := nr (by kernel_rfl)
noncomputable def g4_30 : Array Oper := regAt Go.Proofs.Try.f4 30
theorem k4_30 : guardsOk g4_30 = true := nr (by kernel_rfl)
@[go_sem] theorem x4_30 {h : Hd} {ro nt id : Nat} {fr : PT} {H : Hp} : ex cx h ro 4 nt (.region id g4_30 false) fr H = xbind (xrun cx h ro 4 nt g4_30 [(some 154, (.move (.tmp 5)), none), (some 155, (.move (.tmp 6)), none), (some 156, (.move (.tmp 17)), none), (some 157, (.call ⟨(.value (.func 45)), #[(.tmp 154), (.tmp 155), (.tmp 156)], #[24, 36, 3]⟩), none), (some 158, (.unOp .not 4 (.tmp 157)), none)] fr H) fun p => some (.normal, p.1, p.2) := x_region _ k4_30 (nr (by kernel_rfl))
@[go_sem] theorem t4_30 (d : Tmp) : takes g4_30 d = false := nr (by kernel_rfl)
noncomputable def g4_31 : Array Oper := regAt Go.Proofs.Try.f4 31
theorem k4_31 : guardsOk g4_31 = true := nr (by kernel_rfl)
@[go_sem] theorem x4_31 {h : Hd} {ro nt id : Nat} {fr : PT} {H : Hp} : ex cx h ro 4 nt (.region id g4_31 false) fr H = xbind (xrun cx h ro 4 nt g4_31 [(some 4, (.assign (.const (.bool false))), none)] fr H) fun p => some (.normal, p.1, p.2) := x_region _ k4_31 (nr (by kernel_rfl))
@[go_sem] theorem t4_31 (d : Tmp) : takes g4_31 d = false := nr (by kernel_rfl)
noncomputable def g4_32 : Array Oper := regAt Go.Proofs.Try.f4 32
theorem k4_32 : guardsOk g4_32 = true := nr (by kernel_rfl)
@[go_sem] theorem x4_32 {h : Hd} {ro nt id : Nat} {fr : PT} {H : Hp} : ex cx h ro 4 nt (.region id g4_32 false) fr H = xbind (xrun cx h ro 4 nt g4_32 [(some 152, (.move (.tmp 17)), none), (some 153, (.binOp .add 3 (.tmp 152) (.const (.int .i64 1)) 3), none), (some 17, (.assign (.tmp 153)), none)] fr H) fun p => some (.normal, p.1, p.2) := x_region _ k4_32 (nr (by kernel_rfl))
@[go_sem] theorem t4_32 (d : Tmp) : takes g4_32 d = false := nr (by kernel_rfl)
noncomputable def g4_33 : Array Oper := regAt Go.Proofs.Try.f4 33
theorem k4_33 : guardsOk g4_33 = true := nr (by kernel_rfl)
@[go_sem] theorem x4_33 {h : Hd} {ro nt id : Nat} {fr : PT} {H : Hp} : ex cx h ro 4 nt (.region id g4_33 false) fr H = xbind (xrun cx h ro 4 nt g4_33 [(some 45, (.move (.tmp 7)), none), (some 46, (.binOp .add 3 (.tmp 45) (.const (.int .i64 1)) 3), none), (some 7, (.assign (.tmp 46)), none)] fr H) fun p => some (.normal, p.1, p.2) := x_region _ k4_33 (nr (by kernel_rfl))
@[go_sem] theorem t4_33 (d : Tmp) : takes g4_33 d = false := nr (by kernel_rfl)
noncomputable def g4_34 : Array Oper := regAt Go.Proofs.Try.f4 34
theorem k4_34 : guardsOk g4_34 = true := nr (by kernel_rfl)
@[go_sem] theorem x4_34 {h : Hd} {ro nt id : Nat} {fr : PT} {H : Hp} : ex cx h ro 4 nt (.region id g4_34 false) fr H = xbind (xrun cx h ro 4 nt g4_34 [(some 159, (.call ⟨(.value (.func 33)), #[], #[]⟩), none), (some 4, (.assign (.tmp 159)), none)] fr H) fun p => some (.normal, p.1, p.2) := x_region _ k4_34 (nr (by kernel_rfl))
@[go_sem] theorem t4_34 (d : Tmp) : takes g4_34 d = false := nr (by kernel_rfl)
noncomputable def l4_0 : Code := (.seq (.seq (.region 30 g4_29 false) (.cond (.tmp 151) .skip (.exit 3))) (.seq (.block 4 (.seq (.region 32 g4_30 false) (.cond (.tmp 158) (.seq (.region 33 g4_31 false) .ret) .skip))) (.region 31 g4_32 false)))
theorem dl4_0 {ro nt : Nat} {fr : PT} {H : Hp} : (den cx).loop ro 4 nt l4_0 fr H = xbind (ex cx (den cx) ro 4 nt (.seq (.seq (.region 30 g4_29 false) (.cond (.tmp 151) .skip (.exit 3))) (.seq (.block 4 (.seq (.region 32 g4_30 false) (.cond (.tmp 158) (.seq (.region 33 g4_31 false) .ret) .skip))) (.region 31 g4_32 false))) fr H) (contR (trimmed ((den cx).loop ro 4 nt l4_0) H.length)) := den_loop_x l4_0
noncomputable def l4_1 : Code := (.seq (.seq (.region 5 g4_5 false) (.cond (.tmp 44) .skip (.exit 0))) (.seq (.block 1 (.seq (.region 7 g4_6 false) (.seq (.region 8 g4_7 false) (.seq (.region 9 g4_8 false) (.seq (.seq (.region 10 g4_9 false) (.block 2 (.seq (.seq (.region 13 g4_10 false) (.cond (.tmp 71) .skip (.region 14 g4_11 false))) (.cond (.tmp 71) (.seq (.region 15 g4_12 false) (.seq (.region 16 g4_13 false) (.seq (.region 17 g4_14 false) (.cond (.tmp 97) (.seq (.region 18 g4_15 false) .ret) .skip)))) (.seq (.region 19 g4_16 false) (.cond (.tmp 98) (.seq (.region 20 g4_17 false) (.seq (.region 21 g4_18 false) (.seq (.seq (.region 22 g4_19 false) (.cond (.tmp 112) (.seq (.region 23 g4_20 false) (.region 24 g4_21 false)) .skip)) (.seq (.region 25 g4_22 true) (.cond (.tmp 131) (.seq (.region 26 g4_23 false) .ret) .skip))))) (.seq (.region 11 g4_24 false) (.cond (.tmp 70) (.seq (.region 12 g4_25 false) .ret) .skip)))))))) (.seq (.seq (.region 27 g4_26 false) (.cond (.tmp 144) (.seq (.region 28 g4_27 false) .ret) .skip)) (.seq (.region 29 g4_28 false) (.block 3 (.loop l4_0))))))))) (.region 6 g4_33 false)))
theorem dl4_1 {ro nt : Nat} {fr : PT} {H : Hp} : (den cx).loop ro 4 nt l4_1 fr H = xbind (ex cx (den cx) ro 4 nt (.seq (.seq (.region 5 g4_5 false) (.cond (.tmp 44) .skip (.exit 0))) (.seq (.block 1 (.seq (.region 7 g4_6 false) (.seq (.region 8 g4_7 false) (.seq (.region 9 g4_8 false) (.seq (.seq (.region 10 g4_9 false) (.block 2 (.seq (.seq (.region 13 g4_10 false) (.cond (.tmp 71) .skip (.region 14 g4_11 false))) (.cond (.tmp 71) (.seq (.region 15 g4_12 false) (.seq (.region 16 g4_13 false) (.seq (.region 17 g4_14 false) (.cond (.tmp 97) (.seq (.region 18 g4_15 false) .ret) .skip)))) (.seq (.region 19 g4_16 false) (.cond (.tmp 98) (.seq (.region 20 g4_17 false) (.seq (.region 21 g4_18 false) (.seq (.seq (.region 22 g4_19 false) (.cond (.tmp 112) (.seq (.region 23 g4_20 false) (.region 24 g4_21 false)) .skip)) (.seq (.region 25 g4_22 true) (.cond (.tmp 131) (.seq (.region 26 g4_23 false) .ret) .skip))))) (.seq (.region 11 g4_24 false) (.cond (.tmp 70) (.seq (.region 12 g4_25 false) .ret) .skip)))))))) (.seq (.seq (.region 27 g4_26 false) (.cond (.tmp 144) (.seq (.region 28 g4_27 false) .ret) .skip)) (.seq (.region 29 g4_28 false) (.block 3 (.loop l4_0))))))))) (.region 6 g4_33 false))) fr H) (contR (trimmed ((den cx).loop ro 4 nt l4_1) H.length)) := den_loop_x l4_1
theorem b4 : Go.Proofs.Try.f4.body = some (.seq (.region 0 g4_0 false) (.seq (.region 1 g4_1 false) (.seq (.seq (.region 2 g4_2 false) (.cond (.tmp 27) (.seq (.region 3 g4_3 false) .ret) .skip)) (.seq (.seq (.region 4 g4_4 false) (.block 0 (.loop l4_1))) (.seq (.region 34 g4_34 false) .ret))))) := by kernel_rfl
theorem c4 {h : Hd} {ro : Nat} {H : Hp} (a0 a1 : AV) : callB cx h ro 4 [a0, a1] H = returned cx [(.tmp 4)] (ex cx h ro 4 160 (.seq (.region 0 g4_0 false) (.seq (.region 1 g4_1 false) (.seq (.seq (.region 2 g4_2 false) (.cond (.tmp 27) (.seq (.region 3 g4_3 false) .ret) .skip)) (.seq (.seq (.region 4 g4_4 false) (.block 0 (.loop l4_1))) (.seq (.region 34 g4_34 false) .ret))))) ((PT.nil.set 0 (drp a0)).set 1 (drp a1)) H) := by
  have hf : cx.fns 4 = some Go.Proofs.Try.f4 := by kernel_rfl
  simp only [callB, hf, funced, b4, bodied]
  rfl
end Go.Abs.Tab
