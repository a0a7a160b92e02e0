/- Codes of this seat's functions, their regions step by step. (Printed by a program.) -/
import Derived.Test.YtiinagmombigpaaEvY
set_option linter.unusedSimpArgs false
set_option linter.unusedVariables false
set_option linter.unnecessarySimpa false

/- Codes of this seat's functions, their regions step by step. (Printed by a program.) -/
set_option linter.unusedVariables false
namespace Go.Abs.Tab
/-! function 118: colloquy/graph.within -/
noncomputable def g118_0 : Array Oper := regAt Go.Proofs.Try.f118 0
theorem k118_0 : guardsOk g118_0 = true := nr (by kernel_rfl)
@[go_sem] theorem x118_0 {h : Hd} {ro nt id : Nat} {fr : PT} {H : Hp} : ex cx h ro 118 nt (.region id g118_0 false) fr H = xbind (xrun cx h ro 118 nt g118_0 [(some 4, (.assign (.const (.bool false))), none)] fr H) fun p => some (.normal, p.1, p.2) := x_region _ k118_0 (nr (by kernel_rfl))
@[go_sem] theorem t118_0 (d : Tmp) : takes g118_0 d = false := nr (by kernel_rfl)
noncomputable def g118_1 : Array Oper := regAt Go.Proofs.Try.f118 1
theorem k118_1 : guardsOk g118_1 = true := nr (by kernel_rfl)
@[go_sem] theorem x118_1 {h : Hd} {ro nt id : Nat} {fr : PT} {H : Hp} : ex cx h ro 118 nt (.region id g118_1 false) fr H = xbind (xrun cx h ro 118 nt g118_1 [(some 5, (.move (.tmp 0)), none), (some 6, (.binOp .geq 3 (.tmp 5) (.const (.int .i64 0)) 3), none), (some 7, (.move (.tmp 6)), none), (some 8, (.move (.tmp 0)), some (7, true)), (some 9, (.move (.tmp 1)), some (7, true)), (some 10, (.binOp .leq 3 (.tmp 8) (.tmp 9) 3), some (7, true)), (some 11, (.pick (.tmp 7) (.tmp 10) (.const (.bool false))), none), (some 4, (.assign (.tmp 11)), none)] fr H) fun p => some (.normal, p.1, p.2) := x_region _ k118_1 (nr (by kernel_rfl))
@[go_sem] theorem t118_1 (d : Tmp) : takes g118_1 d = false := nr (by kernel_rfl)
theorem b118 : Go.Proofs.Try.f118.body = some (.seq (.region 0 g118_0 false) (.seq (.region 1 g118_1 false) .ret)) := by kernel_rfl
theorem c118 {h : Hd} {ro : Nat} {H : Hp} (a0 a1 : AV) : callB cx h ro 118 [a0, a1] H = returned cx [(.tmp 4)] (ex cx h ro 118 12 (.seq (.region 0 g118_0 false) (.seq (.region 1 g118_1 false) .ret)) ((PT.nil.set 0 (drp a0)).set 1 (drp a1)) H) := by
  have hf : cx.fns 118 = some Go.Proofs.Try.f118 := by kernel_rfl
  simp only [callB, hf, funced, b118, bodied]
  rfl
/-! function 116: colloquy/graph.shaped -/
noncomputable def g116_0 : Array Oper := regAt Go.Proofs.Try.f116 0
theorem k116_0 : guardsOk g116_0 = true := nr (by kernel_rfl)
@[go_sem] theorem x116_0 {h : Hd} {ro nt id : Nat} {fr : PT} {H : Hp} : ex cx h ro 116 nt (.region id g116_0 false) fr H = xbind (xrun cx h ro 116 nt g116_0 [(some 1, (.box 66 (.tmp 0)), none), (some 2, (.assign (.const (.bool false))), none)] fr H) fun p => some (.normal, p.1, p.2) := x_region _ k116_0 (nr (by kernel_rfl))
@[go_sem] theorem t116_0 (d : Tmp) : takes g116_0 d = false := nr (by kernel_rfl)
noncomputable def g116_1 : Array Oper := regAt Go.Proofs.Try.f116 1
theorem k116_1 : guardsOk g116_1 = true := nr (by kernel_rfl)
@[go_sem] theorem x116_1 {h : Hd} {ro nt id : Nat} {fr : PT} {H : Hp} : ex cx h ro 116 nt (.region id g116_1 false) fr H = xbind (xrun cx h ro 116 nt g116_1 [(some 5, (.fieldAddr 66 (.tmp 1) 0), none), (some 6, (.load 3 (.tmp 5)), none), (some 7, (.call ⟨(.value (.func 118)), #[(.tmp 6), (.const (.int .i64 5))], #[3, 3]⟩), none), (some 8, (.unOp .not 4 (.tmp 7)), none)] fr H) fun p => some (.normal, p.1, p.2) := x_region _ k116_1 (nr (by kernel_rfl))
@[go_sem] theorem t116_1 (d : Tmp) : takes g116_1 d = false := nr (by kernel_rfl)
noncomputable def g116_2 : Array Oper := regAt Go.Proofs.Try.f116 2
theorem k116_2 : guardsOk g116_2 = true := nr (by kernel_rfl)
@[go_sem] theorem x116_2 {h : Hd} {ro nt id : Nat} {fr : PT} {H : Hp} : ex cx h ro 116 nt (.region id g116_2 false) fr H = xbind (xrun cx h ro 116 nt g116_2 [(some 2, (.assign (.const (.bool false))), none)] fr H) fun p => some (.normal, p.1, p.2) := x_region _ k116_2 (nr (by kernel_rfl))
@[go_sem] theorem t116_2 (d : Tmp) : takes g116_2 d = false := nr (by kernel_rfl)
noncomputable def g116_3 : Array Oper := regAt Go.Proofs.Try.f116 3
theorem k116_3 : guardsOk g116_3 = true := nr (by kernel_rfl)
@[go_sem] theorem x116_3 {h : Hd} {ro nt id : Nat} {fr : PT} {H : Hp} : ex cx h ro 116 nt (.region id g116_3 true) fr H = orRaw (xrunU cx h ro 116 nt g116_3 H.length [(0, 0, [], (some 9, (.call ⟨(.value (.func 152)), #[], #[]⟩), none)), (1, 0, [0], (some 10, (.fieldAddr 66 (.tmp 1) 0), none)), (2, 0, [0], (some 11, (.load 3 (.tmp 10)), none)), (3, 0, [], (some 12, (.index 249 (.tmp 9) (.tmp 11)), none)), (4, 0, [0, 1, 2, 3], (some 3, (.alloc 248), none)), (5, 1, [], (none, (.store 248 (.tmp 3) (.tmp 12)), none))] fr (H ++ List.replicate 1 .res) []) fun _ => regionRaw cx h ro 116 nt g116_3 fr H := x_regionU _ _ k116_3 (nr (by kernel_rfl)) (nr (by kernel_rfl)) (nr (by kernel_rfl)) (nr (by kernel_rfl))
@[go_sem] theorem t116_3 (d : Tmp) : takes g116_3 d = false := nr (by kernel_rfl)
noncomputable def g116_4 : Array Oper := regAt Go.Proofs.Try.f116 4
theorem k116_4 : guardsOk g116_4 = true := nr (by kernel_rfl)
@[go_sem] theorem x116_4 {h : Hd} {ro nt id : Nat} {fr : PT} {H : Hp} : ex cx h ro 116 nt (.region id g116_4 false) fr H = xbind (xrun cx h ro 116 nt g116_4 [(some 4, (.assign (.func 153)), none)] fr H) fun p => some (.normal, p.1, p.2) := x_region _ k116_4 (nr (by kernel_rfl))
@[go_sem] theorem t116_4 (d : Tmp) : takes g116_4 d = false := nr (by kernel_rfl)
noncomputable def g116_5 : Array Oper := regAt Go.Proofs.Try.f116 5
theorem k116_5 : guardsOk g116_5 = true := nr (by kernel_rfl)
@[go_sem] theorem x116_5 {h : Hd} {ro nt id : Nat} {fr : PT} {H : Hp} : ex cx h ro 116 nt (.region id g116_5 false) fr H = xbind (xrun cx h ro 116 nt g116_5 [(some 14, (.fieldAddr 66 (.tmp 1) 4), none), (some 15, (.load 64 (.tmp 14)), none), (some 16, (.call ⟨(.builtin .len), #[(.tmp 15)], #[64]⟩), none), (some 17, (.fieldAddr 248 (.tmp 3) 0), none), (some 18, (.load 3 (.tmp 17)), none), (some 19, (.binOp .lss 3 (.tmp 16) (.tmp 18) 3), none), (some 20, (.move (.tmp 19)), none), (some 21, (.fieldAddr 66 (.tmp 1) 4), some (20, false)), (some 22, (.load 64 (.tmp 21)), some (20, false)), (some 23, (.call ⟨(.builtin .len), #[(.tmp 22)], #[64]⟩), some (20, false)), (some 24, (.fieldAddr 248 (.tmp 3) 1), some (20, false)), (some 25, (.load 3 (.tmp 24)), some (20, false)), (some 26, (.binOp .gtr 3 (.tmp 23) (.tmp 25) 3), some (20, false)), (some 27, (.pick (.tmp 20) (.const (.bool true)) (.tmp 26)), none), (some 13, (.assign (.tmp 27)), none)] fr H) fun p => some (.normal, p.1, p.2) := x_region _ k116_5 (nr (by kernel_rfl))
@[go_sem] theorem t116_5 (d : Tmp) : takes g116_5 d = false := nr (by kernel_rfl)
noncomputable def g116_6 : Array Oper := regAt Go.Proofs.Try.f116 6
theorem k116_6 : guardsOk g116_6 = true := nr (by kernel_rfl)
@[go_sem] theorem x116_6 {h : Hd} {ro nt id : Nat} {fr : PT} {H : Hp} : ex cx h ro 116 nt (.region id g116_6 false) fr H = xbind (xrun cx h ro 116 nt g116_6 [(some 2, (.assign (.const (.bool false))), none)] fr H) fun p => some (.normal, p.1, p.2) := x_region _ k116_6 (nr (by kernel_rfl))
@[go_sem] theorem t116_6 (d : Tmp) : takes g116_6 d = false := nr (by kernel_rfl)
noncomputable def g116_7 : Array Oper := regAt Go.Proofs.Try.f116 7
theorem k116_7 : guardsOk g116_7 = true := nr (by kernel_rfl)
@[go_sem] theorem x116_7 {h : Hd} {ro nt id : Nat} {fr : PT} {H : Hp} : ex cx h ro 116 nt (.region id g116_7 false) fr H = xbind (xrun cx h ro 116 nt g116_7 [(some 29, (.fieldAddr 66 (.tmp 1) 1), none), (some 30, (.load 3 (.tmp 29)), none), (some 31, (.call ⟨(.value (.func 118)), #[(.tmp 30), (.const (.int .i64 1000))], #[3, 3]⟩), none), (some 32, (.unOp .not 4 (.tmp 31)), none), (some 33, (.move (.tmp 32)), none), (some 34, (.fieldAddr 248 (.tmp 3) 3), some (33, false)), (some 35, (.load 4 (.tmp 34)), some (33, false)), (some 36, (.move (.tmp 35)), some (33, false)), (some 37, (.fieldAddr 66 (.tmp 1) 1), some (36, true)), (some 38, (.load 3 (.tmp 37)), some (36, true)), (some 39, (.binOp .gtr 3 (.tmp 38) (.const (.int .i64 0)) 3), some (36, true)), (some 40, (.pick (.tmp 36) (.tmp 39) (.const (.bool false))), some (33, false)), (some 41, (.pick (.tmp 33) (.const (.bool true)) (.tmp 40)), none), (some 28, (.assign (.tmp 41)), none)] fr H) fun p => some (.normal, p.1, p.2) := x_region _ k116_7 (nr (by kernel_rfl))
@[go_sem] theorem t116_7 (d : Tmp) : takes g116_7 d = false := nr (by kernel_rfl)
noncomputable def g116_8 : Array Oper := regAt Go.Proofs.Try.f116 8
theorem k116_8 : guardsOk g116_8 = true := nr (by kernel_rfl)
@[go_sem] theorem x116_8 {h : Hd} {ro nt id : Nat} {fr : PT} {H : Hp} : ex cx h ro 116 nt (.region id g116_8 false) fr H = xbind (xrun cx h ro 116 nt g116_8 [(some 2, (.assign (.const (.bool false))), none)] fr H) fun p => some (.normal, p.1, p.2) := x_region _ k116_8 (nr (by kernel_rfl))
@[go_sem] theorem t116_8 (d : Tmp) : takes g116_8 d = false := nr (by kernel_rfl)
noncomputable def g116_9 : Array Oper := regAt Go.Proofs.Try.f116 9
theorem k116_9 : guardsOk g116_9 = true := nr (by kernel_rfl)
@[go_sem] theorem x116_9 {h : Hd} {ro nt id : Nat} {fr : PT} {H : Hp} : ex cx h ro 116 nt (.region id g116_9 false) fr H = xbind (xrun cx h ro 116 nt g116_9 [(some 43, (.fieldAddr 66 (.tmp 1) 2), none), (some 44, (.load 4 (.tmp 43)), none), (some 45, (.move (.tmp 44)), none), (some 46, (.fieldAddr 248 (.tmp 3) 2), some (45, true)), (some 47, (.load 4 (.tmp 46)), some (45, true)), (some 48, (.unOp .not 4 (.tmp 47)), some (45, true)), (some 49, (.pick (.tmp 45) (.tmp 48) (.const (.bool false))), none), (some 50, (.move (.tmp 49)), none), (some 51, (.fieldAddr 66 (.tmp 1) 2), some (50, false)), (some 52, (.load 4 (.tmp 51)), some (50, false)), (some 53, (.unOp .not 4 (.tmp 52)), some (50, false)), (some 54, (.move (.tmp 53)), some (50, false)), (some 55, (.fieldAddr 66 (.tmp 1) 3), some (54, true)), (some 56, (.load 63 (.tmp 55)), some (54, true)), (some 57, (.build 63 #[]), some (54, true)), (some 58, (.binOp .neq 63 (.tmp 56) (.tmp 57) 63), some (54, true)), (some 59, (.pick (.tmp 54) (.tmp 58) (.const (.bool false))), some (50, false)), (some 60, (.pick (.tmp 50) (.const (.bool true)) (.tmp 59)), none), (some 42, (.assign (.tmp 60)), none)] fr H) fun p => some (.normal, p.1, p.2) := x_region _ k116_9 (nr (by kernel_rfl))
@[go_sem] theorem t116_9 (d : Tmp) : takes g116_9 d = false := nr (by kernel_rfl)
noncomputable def g116_10 : Array Oper := regAt Go.Proofs.Try.f116 10
theorem k116_10 : guardsOk g116_10 = true := nr (by kernel_rfl)
@[go_sem] theorem x116_10 {h : Hd} {ro nt id : Nat} {fr : PT} {H : Hp} : ex cx h ro 116 nt (.region id g116_10 false) fr H = xbind (xrun cx h ro 116 nt g116_10 [(some 2, (.assign (.const (.bool false))), none)] fr H) fun p => some (.normal, p.1, p.2) := x_region _ k116_10 (nr (by kernel_rfl))
@[go_sem] theorem t116_10 (d : Tmp) : takes g116_10 d = false := nr (by kernel_rfl)
noncomputable def g116_11 : Array Oper := regAt Go.Proofs.Try.f116 11
theorem k116_11 : guardsOk g116_11 = true := nr (by kernel_rfl)
@[go_sem] theorem x116_11 {h : Hd} {ro nt id : Nat} {fr : PT} {H : Hp} : ex cx h ro 116 nt (.region id g116_11 false) fr H = xbind (xrun cx h ro 116 nt g116_11 [(some 61, (.load 66 (.tmp 1)), none), (some 62, (.call ⟨(.value (.func 117)), #[(.tmp 61)], #[66]⟩), none), (some 63, (.move (.tmp 4)), none), (some 64, (.call ⟨(.value (.func 154)), #[(.tmp 62), (.tmp 63)], #[64, 251]⟩), none), (some 65, (.unOp .not 4 (.tmp 64)), none), (some 2, (.assign (.tmp 65)), none)] fr H) fun p => some (.normal, p.1, p.2) := x_region _ k116_11 (nr (by kernel_rfl))
@[go_sem] theorem t116_11 (d : Tmp) : takes g116_11 d = false := nr (by kernel_rfl)
theorem b116 : Go.Proofs.Try.f116.body = some (.seq (.region 0 g116_0 false) (.seq (.seq (.region 1 g116_1 false) (.cond (.tmp 8) (.seq (.region 2 g116_2 false) .ret) .skip)) (.seq (.region 3 g116_3 true) (.seq (.region 4 g116_4 false) (.seq (.block 0 (.seq (.region 5 g116_5 false) (.cond (.tmp 13) (.seq (.region 6 g116_6 false) .ret) (.seq (.region 7 g116_7 false) (.cond (.tmp 28) (.seq (.region 8 g116_8 false) .ret) (.seq (.region 9 g116_9 false) (.cond (.tmp 42) (.seq (.region 10 g116_10 false) .ret) .skip))))))) (.seq (.region 11 g116_11 false) .ret)))))) := by kernel_rfl
theorem c116 {h : Hd} {ro : Nat} {H : Hp} (a0 : AV) : callB cx h ro 116 [a0] H = returned cx [(.tmp 2)] (ex cx h ro 116 66 (.seq (.region 0 g116_0 false) (.seq (.seq (.region 1 g116_1 false) (.cond (.tmp 8) (.seq (.region 2 g116_2 false) .ret) .skip)) (.seq (.region 3 g116_3 true) (.seq (.region 4 g116_4 false) (.seq (.block 0 (.seq (.region 5 g116_5 false) (.cond (.tmp 13) (.seq (.region 6 g116_6 false) .ret) (.seq (.region 7 g116_7 false) (.cond (.tmp 28) (.seq (.region 8 g116_8 false) .ret) (.seq (.region 9 g116_9 false) (.cond (.tmp 42) (.seq (.region 10 g116_10 false) .ret) .skip))))))) (.seq (.region 11 g116_11 false) .ret)))))) (PT.nil.set 0 (drp a0)) H) := by
  have hf : cx.fns 116 = some Go.Proofs.Try.f116 := by kernel_rfl
  simp only [callB, hf, funced, b116, bodied]
  rfl
/-! function 117: colloquy/graph.edges -/
noncomputable def g117_0 : Array Oper := regAt Go.Proofs.Try.f117 0
theorem k117_0 : guardsOk g117_0 = true := nr (by kernel_rfl)
@[go_sem] theorem x117_0 {h : Hd} {ro nt id : Nat} {fr : PT} {H : Hp} : ex cx h ro 117 nt (.region id g117_0 false) fr H = xbind (xrun cx h ro 117 nt g117_0 [(some 1, (.box 66 (.tmp 0)), none), (some 2, (.assign (.const (.slice none 0 0))), none)] fr H) fun p => some (.normal, p.1, p.2) := x_region _ k117_0 (nr (by kernel_rfl))
@[go_sem] theorem t117_0 (d : Tmp) : takes g117_0 d = false := nr (by kernel_rfl)
noncomputable def g117_1 : Array Oper := regAt Go.Proofs.Try.f117 1
theorem k117_1 : guardsOk g117_1 = true := nr (by kernel_rfl)
@[go_sem] theorem x117_1 {h : Hd} {ro nt id : Nat} {fr : PT} {H : Hp} : ex cx h ro 117 nt (.region id g117_1 false) fr H = xbind (xrun cx h ro 117 nt g117_1 [(some 4, (.fieldAddr 66 (.tmp 1) 4), none), (some 5, (.load 64 (.tmp 4)), none), (some 6, (.call ⟨(.value (.func 155)), #[(.tmp 5)], #[64]⟩), none), (some 3, (.assign (.tmp 6)), none)] fr H) fun p => some (.normal, p.1, p.2) := x_region _ k117_1 (nr (by kernel_rfl))
@[go_sem] theorem t117_1 (d : Tmp) : takes g117_1 d = false := nr (by kernel_rfl)
noncomputable def g117_2 : Array Oper := regAt Go.Proofs.Try.f117 2
theorem k117_2 : guardsOk g117_2 = true := nr (by kernel_rfl)
@[go_sem] theorem x117_2 {h : Hd} {ro nt id : Nat} {fr : PT} {H : Hp} : ex cx h ro 117 nt (.region id g117_2 false) fr H = xbind (xrun cx h ro 117 nt g117_2 [(some 7, (.fieldAddr 66 (.tmp 1) 2), none), (some 8, (.load 4 (.tmp 7)), none)] fr H) fun p => some (.normal, p.1, p.2) := x_region _ k117_2 (nr (by kernel_rfl))
@[go_sem] theorem t117_2 (d : Tmp) : takes g117_2 d = false := nr (by kernel_rfl)
noncomputable def g117_3 : Array Oper := regAt Go.Proofs.Try.f117 3
theorem k117_3 : guardsOk g117_3 = true := nr (by kernel_rfl)
@[go_sem] theorem x117_3 {h : Hd} {ro nt id : Nat} {fr : PT} {H : Hp} : ex cx h ro 117 nt (.region id g117_3 false) fr H = xbind (xrun cx h ro 117 nt g117_3 [(some 9, (.move (.tmp 3)), none), (some 10, (.fieldAddr 66 (.tmp 1) 3), none), (some 11, (.load 63 (.tmp 10)), none), (some 12, (.buildSlice 64 1 #[(0, (.tmp 11))]), none), (some 13, (.call ⟨(.builtin .append), #[(.tmp 9), (.tmp 12)], #[64, 64]⟩), none), (some 3, (.assign (.tmp 13)), none)] fr H) fun p => some (.normal, p.1, p.2) := x_region _ k117_3 (nr (by kernel_rfl))
@[go_sem] theorem t117_3_9 : takes g117_3 9 = true := nr (by kernel_rfl)
@[go_sem] theorem t117_3_10 : takes g117_3 10 = false := nr (by kernel_rfl)
@[go_sem] theorem t117_3_11 : takes g117_3 11 = false := nr (by kernel_rfl)
@[go_sem] theorem t117_3_12 : takes g117_3 12 = false := nr (by kernel_rfl)
@[go_sem] theorem t117_3_13 : takes g117_3 13 = false := nr (by kernel_rfl)
@[go_sem] theorem t117_3_3 : takes g117_3 3 = false := nr (by kernel_rfl)
noncomputable def g117_4 : Array Oper := regAt Go.Proofs.Try.f117 4
theorem k117_4 : guardsOk g117_4 = true := nr (by kernel_rfl)
@[go_sem] theorem x117_4 {h : Hd} {ro nt id : Nat} {fr : PT} {H : Hp} : ex cx h ro 117 nt (.region id g117_4 false) fr H = xbind (xrun cx h ro 117 nt g117_4 [(some 14, (.move (.tmp 3)), none), (some 2, (.assign (.tmp 14)), none)] fr H) fun p => some (.normal, p.1, p.2) := x_region _ k117_4 (nr (by kernel_rfl))
@[go_sem] theorem t117_4 (d : Tmp) : takes g117_4 d = false := nr (by kernel_rfl)
theorem b117 : Go.Proofs.Try.f117.body = some (.seq (.region 0 g117_0 false) (.seq (.region 1 g117_1 false) (.seq (.seq (.region 2 g117_2 false) (.cond (.tmp 8) (.region 3 g117_3 false) .skip)) (.seq (.region 4 g117_4 false) .ret)))) := by kernel_rfl
theorem c117 {h : Hd} {ro : Nat} {H : Hp} (a0 : AV) : callB cx h ro 117 [a0] H = returned cx [(.tmp 2)] (ex cx h ro 117 15 (.seq (.region 0 g117_0 false) (.seq (.region 1 g117_1 false) (.seq (.seq (.region 2 g117_2 false) (.cond (.tmp 8) (.region 3 g117_3 false) .skip)) (.seq (.region 4 g117_4 false) .ret)))) (PT.nil.set 0 (drp a0)) H) := by
  have hf : cx.fns 117 = some Go.Proofs.Try.f117 := by kernel_rfl
  simp only [callB, hf, funced, b117, bodied]
  rfl
/-! function 153: colloquy/graph.shaped$1 -/
noncomputable def g153_0 : Array Oper := regAt Go.Proofs.Try.f153 0
theorem k153_0 : guardsOk g153_0 = true := nr (by kernel_rfl)
@[go_sem] theorem x153_0 {h : Hd} {ro nt id : Nat} {fr : PT} {H : Hp} : ex cx h ro 153 nt (.region id g153_0 false) fr H = xbind (xrun cx h ro 153 nt g153_0 [(some 1, (.box 63 (.tmp 0)), none), (some 2, (.assign (.const (.bool false))), none)] fr H) fun p => some (.normal, p.1, p.2) := x_region _ k153_0 (nr (by kernel_rfl))
@[go_sem] theorem t153_0 (d : Tmp) : takes g153_0 d = false := nr (by kernel_rfl)
noncomputable def g153_1 : Array Oper := regAt Go.Proofs.Try.f153 1
theorem k153_1 : guardsOk g153_1 = true := nr (by kernel_rfl)
@[go_sem] theorem x153_1 {h : Hd} {ro nt id : Nat} {fr : PT} {H : Hp} : ex cx h ro 153 nt (.region id g153_1 false) fr H = xbind (xrun cx h ro 153 nt g153_1 [(some 3, (.fieldAddr 63 (.tmp 1) 1), none), (some 4, (.load 3 (.tmp 3)), none), (some 5, (.call ⟨(.value (.func 118)), #[(.tmp 4), (.const (.int .i64 1000))], #[3, 3]⟩), none), (some 6, (.unOp .not 4 (.tmp 5)), none), (some 2, (.assign (.tmp 6)), none)] fr H) fun p => some (.normal, p.1, p.2) := x_region _ k153_1 (nr (by kernel_rfl))
@[go_sem] theorem t153_1 (d : Tmp) : takes g153_1 d = false := nr (by kernel_rfl)
theorem b153 : Go.Proofs.Try.f153.body = some (.seq (.region 0 g153_0 false) (.seq (.region 1 g153_1 false) .ret)) := by kernel_rfl
theorem c153 {h : Hd} {ro : Nat} {H : Hp} (a0 : AV) : callB cx h ro 153 [a0] H = returned cx [(.tmp 2)] (ex cx h ro 153 7 (.seq (.region 0 g153_0 false) (.seq (.region 1 g153_1 false) .ret)) (PT.nil.set 0 (drp a0)) H) := by
  have hf : cx.fns 153 = some Go.Proofs.Try.f153 := by kernel_rfl
  simp only [callB, hf, funced, b153, bodied]
  rfl
/-! function 154: slices.ContainsFunc[[]colloquy/api.Edge,colloquy/api.Edge] -/
noncomputable def g154_0 : Array Oper := regAt Go.Proofs.Try.f154 0
theorem k154_0 : guardsOk g154_0 = true := nr (by kernel_rfl)
@[go_sem] theorem x154_0 {h : Hd} {ro nt id : Nat} {fr : PT} {H : Hp} : ex cx h ro 154 nt (.region id g154_0 false) fr H = xbind (xrun cx h ro 154 nt g154_0 [(some 4, (.assign (.const (.bool false))), none)] fr H) fun p => some (.normal, p.1, p.2) := x_region _ k154_0 (nr (by kernel_rfl))
@[go_sem] theorem t154_0 (d : Tmp) : takes g154_0 d = false := nr (by kernel_rfl)
noncomputable def g154_1 : Array Oper := regAt Go.Proofs.Try.f154 1
theorem k154_1 : guardsOk g154_1 = true := nr (by kernel_rfl)
@[go_sem] theorem x154_1 {h : Hd} {ro nt id : Nat} {fr : PT} {H : Hp} : ex cx h ro 154 nt (.region id g154_1 false) fr H = xbind (xrun cx h ro 154 nt g154_1 [(some 5, (.move (.tmp 0)), none), (some 6, (.move (.tmp 1)), none), (some 7, (.call ⟨(.value (.func 175)), #[(.tmp 5), (.tmp 6)], #[64, 251]⟩), none), (some 8, (.binOp .geq 3 (.tmp 7) (.const (.int .i64 0)) 3), none), (some 4, (.assign (.tmp 8)), none)] fr H) fun p => some (.normal, p.1, p.2) := x_region _ k154_1 (nr (by kernel_rfl))
@[go_sem] theorem t154_1 (d : Tmp) : takes g154_1 d = false := nr (by kernel_rfl)
theorem b154 : Go.Proofs.Try.f154.body = some (.seq (.region 0 g154_0 false) (.seq (.region 1 g154_1 false) .ret)) := by kernel_rfl
theorem c154 {h : Hd} {ro : Nat} {H : Hp} (a0 a1 : AV) : callB cx h ro 154 [a0, a1] H = returned cx [(.tmp 4)] (ex cx h ro 154 9 (.seq (.region 0 g154_0 false) (.seq (.region 1 g154_1 false) .ret)) ((PT.nil.set 0 (drp a0)).set 1 (drp a1)) H) := by
  have hf : cx.fns 154 = some Go.Proofs.Try.f154 := by kernel_rfl
  simp only [callB, hf, funced, b154, bodied]
  rfl
/-! function 155: slices.Clone[[]colloquy/api.Edge,colloquy/api.Edge] -/
noncomputable def g155_0 : Array Oper := regAt Go.Proofs.Try.f155 0
theorem k155_0 : guardsOk g155_0 = true := nr (by kernel_rfl)
@[go_sem] theorem x155_0 {h : Hd} {ro nt id : Nat} {fr : PT} {H : Hp} : ex cx h ro 155 nt (.region id g155_0 false) fr H = xbind (xrun cx h ro 155 nt g155_0 [(some 2, (.assign (.const (.slice none 0 0))), none)] fr H) fun p => some (.normal, p.1, p.2) := x_region _ k155_0 (nr (by kernel_rfl))
@[go_sem] theorem t155_0 (d : Tmp) : takes g155_0 d = false := nr (by kernel_rfl)
noncomputable def g155_1 : Array Oper := regAt Go.Proofs.Try.f155 1
theorem k155_1 : guardsOk g155_1 = true := nr (by kernel_rfl)
@[go_sem] theorem x155_1 {h : Hd} {ro nt id : Nat} {fr : PT} {H : Hp} : ex cx h ro 155 nt (.region id g155_1 false) fr H = xbind (xrun cx h ro 155 nt g155_1 [(some 3, (.move (.tmp 0)), none), (some 4, (.binOp .eql 64 (.tmp 3) (.const (.slice none 0 0)) 64), none)] fr H) fun p => some (.normal, p.1, p.2) := x_region _ k155_1 (nr (by kernel_rfl))
@[go_sem] theorem t155_1 (d : Tmp) : takes g155_1 d = false := nr (by kernel_rfl)
noncomputable def g155_2 : Array Oper := regAt Go.Proofs.Try.f155 2
theorem k155_2 : guardsOk g155_2 = true := nr (by kernel_rfl)
@[go_sem] theorem x155_2 {h : Hd} {ro nt id : Nat} {fr : PT} {H : Hp} : ex cx h ro 155 nt (.region id g155_2 false) fr H = xbind (xrun cx h ro 155 nt g155_2 [(some 2, (.assign (.const (.slice none 0 0))), none)] fr H) fun p => some (.normal, p.1, p.2) := x_region _ k155_2 (nr (by kernel_rfl))
@[go_sem] theorem t155_2 (d : Tmp) : takes g155_2 d = false := nr (by kernel_rfl)
noncomputable def g155_3 : Array Oper := regAt Go.Proofs.Try.f155 3
theorem k155_3 : guardsOk g155_3 = true := nr (by kernel_rfl)
@[go_sem] theorem x155_3 {h : Hd} {ro nt id : Nat} {fr : PT} {H : Hp} : ex cx h ro 155 nt (.region id g155_3 false) fr H = xbind (xrun cx h ro 155 nt g155_3 [(some 5, (.buildSlice 64 0 #[]), none), (some 6, (.move (.tmp 0)), none), (some 7, (.call ⟨(.builtin .append), #[(.tmp 5), (.tmp 6)], #[64, 64]⟩), none), (some 2, (.assign (.tmp 7)), none)] fr H) fun p => some (.normal, p.1, p.2) := x_region _ k155_3 (nr (by kernel_rfl))
@[go_sem] theorem t155_3_5 : takes g155_3 5 = true := nr (by kernel_rfl)
@[go_sem] theorem t155_3_6 : takes g155_3 6 = false := nr (by kernel_rfl)
@[go_sem] theorem t155_3_7 : takes g155_3 7 = false := nr (by kernel_rfl)
@[go_sem] theorem t155_3_2 : takes g155_3 2 = false := nr (by kernel_rfl)
theorem b155 : Go.Proofs.Try.f155.body = some (.seq (.region 0 g155_0 false) (.seq (.seq (.region 1 g155_1 false) (.cond (.tmp 4) (.seq (.region 2 g155_2 false) .ret) .skip)) (.seq (.region 3 g155_3 false) .ret))) := by kernel_rfl
theorem c155 {h : Hd} {ro : Nat} {H : Hp} (a0 : AV) : callB cx h ro 155 [a0] H = returned cx [(.tmp 2)] (ex cx h ro 155 8 (.seq (.region 0 g155_0 false) (.seq (.seq (.region 1 g155_1 false) (.cond (.tmp 4) (.seq (.region 2 g155_2 false) .ret) .skip)) (.seq (.region 3 g155_3 false) .ret))) (PT.nil.set 0 (drp a0)) H) := by
  have hf : cx.fns 155 = some Go.Proofs.Try.f155 := by kernel_rfl
  simp only [callB, hf, funced, b155, bodied]
  rfl
/-! function 175: slices.IndexFunc[[]colloquy/api.Edge,colloquy/api.Edge] -/
noncomputable def g175_0 : Array Oper := regAt Go.Proofs.Try.f175 0
theorem k175_0 : guardsOk g175_0 = true := nr (by kernel_rfl)
@[go_sem] theorem x175_0 {h : Hd} {ro nt id : Nat} {fr : PT} {H : Hp} : ex cx h ro 175 nt (.region id g175_0 false) fr H = xbind (xrun cx h ro 175 nt g175_0 [(some 4, (.assign (.const (.int .i64 0))), none)] fr H) fun p => some (.normal, p.1, p.2) := x_region _ k175_0 (nr (by kernel_rfl))
@[go_sem] theorem t175_0 (d : Tmp) : takes g175_0 d = false := nr (by kernel_rfl)
noncomputable def g175_1 : Array Oper := regAt Go.Proofs.Try.f175 1
theorem k175_1 : guardsOk g175_1 = true := nr (by kernel_rfl)
@[go_sem] theorem x175_1 {h : Hd} {ro nt id : Nat} {fr : PT} {H : Hp} : ex cx h ro 175 nt (.region id g175_1 false) fr H = xbind (xrun cx h ro 175 nt g175_1 [(some 6, (.move (.tmp 0)), none), (some 7, (.call ⟨(.builtin .len), #[(.tmp 6)], #[64]⟩), none), (some 8, (.move (.const (.int .i64 0))), none)] fr H) fun p => some (.normal, p.1, p.2) := x_region _ k175_1 (nr (by kernel_rfl))
@[go_sem] theorem t175_1 (d : Tmp) : takes g175_1 d = false := nr (by kernel_rfl)
noncomputable def g175_2 : Array Oper := regAt Go.Proofs.Try.f175 2
theorem k175_2 : guardsOk g175_2 = true := nr (by kernel_rfl)
@[go_sem] theorem x175_2 {h : Hd} {ro nt id : Nat} {fr : PT} {H : Hp} : ex cx h ro 175 nt (.region id g175_2 false) fr H = xbind (xrun cx h ro 175 nt g175_2 [(some 9, (.binOp .lss 3 (.tmp 8) (.tmp 7) 3), none)] fr H) fun p => some (.normal, p.1, p.2) := x_region _ k175_2 (nr (by kernel_rfl))
@[go_sem] theorem t175_2 (d : Tmp) : takes g175_2 d = false := nr (by kernel_rfl)
noncomputable def g175_3 : Array Oper := regAt Go.Proofs.Try.f175 3
theorem k175_3 : guardsOk g175_3 = true := nr (by kernel_rfl)
@[go_sem] theorem x175_3 {h : Hd} {ro nt id : Nat} {fr : PT} {H : Hp} : ex cx h ro 175 nt (.region id g175_3 false) fr H = xbind (xrun cx h ro 175 nt g175_3 [(some 10, (.move (.tmp 8)), none), (some 5, (.assign (.tmp 10)), none)] fr H) fun p => some (.normal, p.1, p.2) := x_region _ k175_3 (nr (by kernel_rfl))
@[go_sem] theorem t175_3 (d : Tmp) : takes g175_3 d = false := nr (by kernel_rfl)
noncomputable def g175_4 : Array Oper := regAt Go.Proofs.Try.f175 4
theorem k175_4 : guardsOk g175_4 = true := nr (by kernel_rfl)
@[go_sem] theorem x175_4 {h : Hd} {ro nt id : Nat} {fr : PT} {H : Hp} : ex cx h ro 175 nt (.region id g175_4 false) fr H = xbind (xrun cx h ro 175 nt g175_4 [(some 11, (.move (.tmp 1)), none), (some 12, (.move (.tmp 0)), none), (some 13, (.move (.tmp 5)), none), (some 14, (.indexAddr 64 (.tmp 12) (.tmp 13)), none), (some 15, (.load 63 (.tmp 14)), none), (some 16, (.call ⟨(.value (.tmp 11)), #[(.tmp 15)], #[63]⟩), none)] fr H) fun p => some (.normal, p.1, p.2) := x_region _ k175_4 (nr (by kernel_rfl))
@[go_sem] theorem t175_4 (d : Tmp) : takes g175_4 d = false := nr (by kernel_rfl)
noncomputable def g175_5 : Array Oper := regAt Go.Proofs.Try.f175 5
theorem k175_5 : guardsOk g175_5 = true := nr (by kernel_rfl)
@[go_sem] theorem x175_5 {h : Hd} {ro nt id : Nat} {fr : PT} {H : Hp} : ex cx h ro 175 nt (.region id g175_5 false) fr H = xbind (xrun cx h ro 175 nt g175_5 [(some 17, (.move (.tmp 5)), none), (some 4, (.assign (.tmp 17)), none)] fr H) fun p => some (.normal, p.1, p.2) := x_region _ k175_5 (nr (by kernel_rfl))
@[go_sem] theorem t175_5 (d : Tmp) : takes g175_5 d = false := nr (by kernel_rfl)
noncomputable def g175_6 : Array Oper := regAt Go.Proofs.Try.f175 6
theorem k175_6 : guardsOk g175_6 = true := nr (by kernel_rfl)
@[go_sem] theorem x175_6 {h : Hd} {ro nt id : Nat} {fr : PT} {H : Hp} : ex cx h ro 175 nt (.region id g175_6 false) fr H = xbind (xrun cx h ro 175 nt g175_6 [(some 18, (.binOp .add 3 (.tmp 8) (.const (.int .i64 1)) 3), none), (some 8, (.move (.tmp 18)), none)] fr H) fun p => some (.normal, p.1, p.2) := x_region _ k175_6 (nr (by kernel_rfl))
@[go_sem] theorem t175_6 (d : Tmp) : takes g175_6 d = false := nr (by kernel_rfl)
noncomputable def g175_7 : Array Oper := regAt Go.Proofs.Try.f175 7
theorem k175_7 : guardsOk g175_7 = true := nr (by kernel_rfl)
@[go_sem] theorem x175_7 {h : Hd} {ro nt id : Nat} {fr : PT} {H : Hp} : ex cx h ro 175 nt (.region id g175_7 false) fr H = xbind (xrun cx h ro 175 nt g175_7 [(some 4, (.assign (.const (.int .i64 (-1)))), none)] fr H) fun p => some (.normal, p.1, p.2) := x_region _ k175_7 (nr (by kernel_rfl))
@[go_sem] theorem t175_7 (d : Tmp) : takes g175_7 d = false := nr (by kernel_rfl)
noncomputable def l175_0 : Code := (.seq (.region 2 g175_2 false) (.seq (.cond (.tmp 9) .skip (.exit 0)) (.seq (.block 1 (.seq (.region 3 g175_3 false) (.seq (.region 4 g175_4 false) (.cond (.tmp 16) (.seq (.region 5 g175_5 false) .ret) .skip)))) (.region 6 g175_6 false))))
theorem dl175_0 {ro nt : Nat} {fr : PT} {H : Hp} : (den cx).loop ro 175 nt l175_0 fr H = xbind (ex cx (den cx) ro 175 nt (.seq (.region 2 g175_2 false) (.seq (.cond (.tmp 9) .skip (.exit 0)) (.seq (.block 1 (.seq (.region 3 g175_3 false) (.seq (.region 4 g175_4 false) (.cond (.tmp 16) (.seq (.region 5 g175_5 false) .ret) .skip)))) (.region 6 g175_6 false)))) fr H) (contR (trimmed ((den cx).loop ro 175 nt l175_0) H.length)) := den_loop_x l175_0
theorem b175 : Go.Proofs.Try.f175.body = some (.seq (.region 0 g175_0 false) (.seq (.seq (.region 1 g175_1 false) (.block 0 (.loop l175_0))) (.seq (.region 7 g175_7 false) .ret))) := by kernel_rfl
theorem c175 {h : Hd} {ro : Nat} {H : Hp} (a0 a1 : AV) : callB cx h ro 175 [a0, a1] H = returned cx [(.tmp 4)] (ex cx h ro 175 19 (.seq (.region 0 g175_0 false) (.seq (.seq (.region 1 g175_1 false) (.block 0 (.loop l175_0))) (.seq (.region 7 g175_7 false) .ret))) ((PT.nil.set 0 (drp a0)).set 1 (drp a1)) H) := by
  have hf : cx.fns 175 = some Go.Proofs.Try.f175 := by kernel_rfl
  simp only [callB, hf, funced, b175, bodied]
  rfl
/-! function 152: colloquy/graph.forms -/
noncomputable def g152_0 : Array Oper := regAt Go.Proofs.Try.f152 0
theorem k152_0 : guardsOk g152_0 = true := nr (by kernel_rfl)
@[go_sem] theorem x152_0 {h : Hd} {ro nt id : Nat} {fr : PT} {H : Hp} : ex cx h ro 152 nt (.region id g152_0 false) fr H = xbind (xrun cx h ro 152 nt g152_0 [(some 0, (.alloc 249), none)] fr H) fun p => some (.normal, p.1, p.2) := x_region _ k152_0 (nr (by kernel_rfl))
@[go_sem] theorem t152_0 (d : Tmp) : takes g152_0 d = false := nr (by kernel_rfl)
noncomputable def g152_1 : Array Oper := regAt Go.Proofs.Try.f152 1
theorem k152_1 : guardsOk g152_1 = true := nr (by kernel_rfl)
@[go_sem] theorem x152_1 {h : Hd} {ro nt id : Nat} {fr : PT} {H : Hp} : ex cx h ro 152 nt (.region id g152_1 false) fr H = xbind (xrun cx h ro 152 nt g152_1 [(some 1, (.build 248 #[(0, (.const (.int .i64 0))), (1, (.const (.int .i64 0))), (2, (.const (.bool false))), (3, (.const (.bool true)))]), none), (some 2, (.build 248 #[(0, (.const (.int .i64 1))), (1, (.const (.int .i64 1))), (2, (.const (.bool true))), (3, (.const (.bool false)))]), none), (some 3, (.build 248 #[(0, (.const (.int .i64 1))), (1, (.const (.int .i64 1))), (2, (.const (.bool true))), (3, (.const (.bool false)))]), none), (some 4, (.build 248 #[(0, (.const (.int .i64 1))), (1, (.const (.int .i64 8))), (2, (.const (.bool false))), (3, (.const (.bool false)))]), none), (some 5, (.build 248 #[(0, (.const (.int .i64 1))), (1, (.const (.int .i64 8))), (2, (.const (.bool false))), (3, (.const (.bool false)))]), none), (some 6, (.build 248 #[(0, (.const (.int .i64 1))), (1, (.const (.int .i64 1))), (2, (.const (.bool false))), (3, (.const (.bool true)))]), none), (some 7, (.build 249 #[(0, (.tmp 1)), (1, (.tmp 2)), (2, (.tmp 3)), (3, (.tmp 4)), (4, (.tmp 5)), (5, (.tmp 6))]), none), (none, (.store 249 (.tmp 0) (.tmp 7)), none)] fr H) fun p => some (.normal, p.1, p.2) := x_region _ k152_1 (nr (by kernel_rfl))
@[go_sem] theorem t152_1 (d : Tmp) : takes g152_1 d = false := nr (by kernel_rfl)
theorem b152 : Go.Proofs.Try.f152.body = some (.seq (.region 0 g152_0 false) (.seq (.region 1 g152_1 false) .ret)) := by kernel_rfl
theorem c152 {h : Hd} {ro : Nat} {H : Hp} : callB cx h ro 152 [] H = returned cx [(.cell 0 249)] (ex cx h ro 152 8 (.seq (.region 0 g152_0 false) (.seq (.region 1 g152_1 false) .ret)) PT.nil H) := by
  have hf : cx.fns 152 = some Go.Proofs.Try.f152 := by kernel_rfl
  simp only [callB, hf, funced, b152, bodied]
  rfl
/-! function 157: colloquy/colloquyref04.bounds -/
noncomputable def g157_0 : Array Oper := regAt Go.Proofs.Try.f157 0
theorem k157_0 : guardsOk g157_0 = true := nr (by kernel_rfl)
@[go_sem] theorem x157_0 {h : Hd} {ro nt id : Nat} {fr : PT} {H : Hp} : ex cx h ro 157 nt (.region id g157_0 false) fr H = xbind (xrun cx h ro 157 nt g157_0 [(some 2, (.assign (.const (.int .i64 0))), none), (some 3, (.assign (.const (.int .i64 0))), none), (some 4, (.assign (.const (.bool false))), none)] fr H) fun p => some (.normal, p.1, p.2) := x_region _ k157_0 (nr (by kernel_rfl))
@[go_sem] theorem t157_0 (d : Tmp) : takes g157_0 d = false := nr (by kernel_rfl)
noncomputable def g157_1 : Array Oper := regAt Go.Proofs.Try.f157 1
theorem k157_1 : guardsOk g157_1 = true := nr (by kernel_rfl)
@[go_sem] theorem x157_1 {h : Hd} {ro nt id : Nat} {fr : PT} {H : Hp} : ex cx h ro 157 nt (.region id g157_1 false) fr H = xbind (xrun cx h ro 157 nt g157_1 [(some 5, (.move (.tmp 0)), none), (some 6, (.binOp .eql 3 (.tmp 5) (.const (.int .i64 0)) 3), none)] fr H) fun p => some (.normal, p.1, p.2) := x_region _ k157_1 (nr (by kernel_rfl))
@[go_sem] theorem t157_1 (d : Tmp) : takes g157_1 d = false := nr (by kernel_rfl)
noncomputable def g157_2 : Array Oper := regAt Go.Proofs.Try.f157 2
theorem k157_2 : guardsOk g157_2 = true := nr (by kernel_rfl)
@[go_sem] theorem x157_2 {h : Hd} {ro nt id : Nat} {fr : PT} {H : Hp} : ex cx h ro 157 nt (.region id g157_2 false) fr H = xbind (xrun cx h ro 157 nt g157_2 [(some 2, (.assign (.const (.int .i64 0))), none), (some 3, (.assign (.const (.int .i64 0))), none), (some 4, (.assign (.const (.bool true))), none)] fr H) fun p => some (.normal, p.1, p.2) := x_region _ k157_2 (nr (by kernel_rfl))
@[go_sem] theorem t157_2 (d : Tmp) : takes g157_2 d = false := nr (by kernel_rfl)
noncomputable def g157_3 : Array Oper := regAt Go.Proofs.Try.f157 3
theorem k157_3 : guardsOk g157_3 = true := nr (by kernel_rfl)
@[go_sem] theorem x157_3 {h : Hd} {ro nt id : Nat} {fr : PT} {H : Hp} : ex cx h ro 157 nt (.region id g157_3 false) fr H = xbind (xrun cx h ro 157 nt g157_3 [(some 7, (.move (.tmp 0)), none), (some 8, (.binOp .eql 3 (.tmp 7) (.const (.int .i64 1)) 3), none), (some 9, (.move (.tmp 8)), none), (some 10, (.move (.tmp 0)), some (9, false)), (some 11, (.binOp .eql 3 (.tmp 10) (.const (.int .i64 2)) 3), some (9, false)), (some 12, (.pick (.tmp 9) (.const (.bool true)) (.tmp 11)), none), (some 13, (.move (.tmp 12)), none), (some 14, (.move (.tmp 0)), some (13, false)), (some 15, (.binOp .eql 3 (.tmp 14) (.const (.int .i64 5)) 3), some (13, false)), (some 16, (.pick (.tmp 13) (.const (.bool true)) (.tmp 15)), none)] fr H) fun p => some (.normal, p.1, p.2) := x_region _ k157_3 (nr (by kernel_rfl))
@[go_sem] theorem t157_3 (d : Tmp) : takes g157_3 d = false := nr (by kernel_rfl)
noncomputable def g157_4 : Array Oper := regAt Go.Proofs.Try.f157 4
theorem k157_4 : guardsOk g157_4 = true := nr (by kernel_rfl)
@[go_sem] theorem x157_4 {h : Hd} {ro nt id : Nat} {fr : PT} {H : Hp} : ex cx h ro 157 nt (.region id g157_4 false) fr H = xbind (xrun cx h ro 157 nt g157_4 [(some 2, (.assign (.const (.int .i64 1))), none), (some 3, (.assign (.const (.int .i64 1))), none), (some 4, (.assign (.const (.bool true))), none)] fr H) fun p => some (.normal, p.1, p.2) := x_region _ k157_4 (nr (by kernel_rfl))
@[go_sem] theorem t157_4 (d : Tmp) : takes g157_4 d = false := nr (by kernel_rfl)
noncomputable def g157_5 : Array Oper := regAt Go.Proofs.Try.f157 5
theorem k157_5 : guardsOk g157_5 = true := nr (by kernel_rfl)
@[go_sem] theorem x157_5 {h : Hd} {ro nt id : Nat} {fr : PT} {H : Hp} : ex cx h ro 157 nt (.region id g157_5 false) fr H = xbind (xrun cx h ro 157 nt g157_5 [(some 17, (.move (.tmp 0)), none), (some 18, (.binOp .eql 3 (.tmp 17) (.const (.int .i64 3)) 3), none), (some 19, (.move (.tmp 18)), none), (some 20, (.move (.tmp 0)), some (19, false)), (some 21, (.binOp .eql 3 (.tmp 20) (.const (.int .i64 4)) 3), some (19, false)), (some 22, (.pick (.tmp 19) (.const (.bool true)) (.tmp 21)), none)] fr H) fun p => some (.normal, p.1, p.2) := x_region _ k157_5 (nr (by kernel_rfl))
@[go_sem] theorem t157_5 (d : Tmp) : takes g157_5 d = false := nr (by kernel_rfl)
noncomputable def g157_6 : Array Oper := regAt Go.Proofs.Try.f157 6
theorem k157_6 : guardsOk g157_6 = true := nr (by kernel_rfl)
@[go_sem] theorem x157_6 {h : Hd} {ro nt id : Nat} {fr : PT} {H : Hp} : ex cx h ro 157 nt (.region id g157_6 false) fr H = xbind (xrun cx h ro 157 nt g157_6 [(some 2, (.assign (.const (.int .i64 1))), none), (some 3, (.assign (.const (.int .i64 8))), none), (some 4, (.assign (.const (.bool true))), none)] fr H) fun p => some (.normal, p.1, p.2) := x_region _ k157_6 (nr (by kernel_rfl))
@[go_sem] theorem t157_6 (d : Tmp) : takes g157_6 d = false := nr (by kernel_rfl)
noncomputable def g157_7 : Array Oper := regAt Go.Proofs.Try.f157 7
theorem k157_7 : guardsOk g157_7 = true := nr (by kernel_rfl)
@[go_sem] theorem x157_7 {h : Hd} {ro nt id : Nat} {fr : PT} {H : Hp} : ex cx h ro 157 nt (.region id g157_7 false) fr H = xbind (xrun cx h ro 157 nt g157_7 [(some 2, (.assign (.const (.int .i64 0))), none), (some 3, (.assign (.const (.int .i64 0))), none), (some 4, (.assign (.const (.bool false))), none)] fr H) fun p => some (.normal, p.1, p.2) := x_region _ k157_7 (nr (by kernel_rfl))
@[go_sem] theorem t157_7 (d : Tmp) : takes g157_7 d = false := nr (by kernel_rfl)
theorem b157 : Go.Proofs.Try.f157.body = some (.seq (.region 0 g157_0 false) (.seq (.seq (.region 1 g157_1 false) (.cond (.tmp 6) (.seq (.region 2 g157_2 false) .ret) .skip)) (.seq (.seq (.region 3 g157_3 false) (.cond (.tmp 16) (.seq (.region 4 g157_4 false) .ret) .skip)) (.seq (.seq (.region 5 g157_5 false) (.cond (.tmp 22) (.seq (.region 6 g157_6 false) .ret) .skip)) (.seq (.region 7 g157_7 false) .ret))))) := by kernel_rfl
theorem c157 {h : Hd} {ro : Nat} {H : Hp} (a0 : AV) : callB cx h ro 157 [a0] H = returned cx [(.tmp 2), (.tmp 3), (.tmp 4)] (ex cx h ro 157 23 (.seq (.region 0 g157_0 false) (.seq (.seq (.region 1 g157_1 false) (.cond (.tmp 6) (.seq (.region 2 g157_2 false) .ret) .skip)) (.seq (.seq (.region 3 g157_3 false) (.cond (.tmp 16) (.seq (.region 4 g157_4 false) .ret) .skip)) (.seq (.seq (.region 5 g157_5 false) (.cond (.tmp 22) (.seq (.region 6 g157_6 false) .ret) .skip)) (.seq (.region 7 g157_7 false) .ret))))) (PT.nil.set 0 (drp a0)) H) := by
  have hf : cx.fns 157 = some Go.Proofs.Try.f157 := by kernel_rfl
  simp only [callB, hf, funced, b157, bodied]
  rfl
/-! function 120: colloquy/colloquyref04.shape -/
noncomputable def g120_0 : Array Oper := regAt Go.Proofs.Try.f120 0
theorem k120_0 : guardsOk g120_0 = true := nr (by kernel_rfl)
@[go_sem] theorem x120_0 {h : Hd} {ro nt id : Nat} {fr : PT} {H : Hp} : ex cx h ro 120 nt (.region id g120_0 false) fr H = xbind (xrun cx h ro 120 nt g120_0 [(some 1, (.box 66 (.tmp 0)), none), (some 2, (.assign (.const (.bool false))), none)] fr H) fun p => some (.normal, p.1, p.2) := x_region _ k120_0 (nr (by kernel_rfl))
@[go_sem] theorem t120_0 (d : Tmp) : takes g120_0 d = false := nr (by kernel_rfl)
noncomputable def g120_1 : Array Oper := regAt Go.Proofs.Try.f120 1
theorem k120_1 : guardsOk g120_1 = true := nr (by kernel_rfl)
@[go_sem] theorem x120_1 {h : Hd} {ro nt id : Nat} {fr : PT} {H : Hp} : ex cx h ro 120 nt (.region id g120_1 false) fr H = xbind (xrun cx h ro 120 nt g120_1 [(some 8, (.fieldAddr 66 (.tmp 1) 0), none), (some 9, (.load 3 (.tmp 8)), none), (some 10, (.call ⟨(.value (.func 157)), #[(.tmp 9)], #[3]⟩), none), (some 7, (.move (.tmp 10)), none), (some 11, (.extract (.tmp 7) 0), none), (some 12, (.extract (.tmp 7) 1), none), (some 13, (.extract (.tmp 7) 2), none), (some 3, (.assign (.tmp 11)), none), (some 4, (.assign (.tmp 12)), none), (some 5, (.assign (.tmp 13)), none)] fr H) fun p => some (.normal, p.1, p.2) := x_region _ k120_1 (nr (by kernel_rfl))
@[go_sem] theorem t120_1 (d : Tmp) : takes g120_1 d = false := nr (by kernel_rfl)
noncomputable def g120_2 : Array Oper := regAt Go.Proofs.Try.f120 2
theorem k120_2 : guardsOk g120_2 = true := nr (by kernel_rfl)
@[go_sem] theorem x120_2 {h : Hd} {ro nt id : Nat} {fr : PT} {H : Hp} : ex cx h ro 120 nt (.region id g120_2 false) fr H = xbind (xrun cx h ro 120 nt g120_2 [(some 14, (.move (.tmp 5)), none), (some 15, (.unOp .not 4 (.tmp 14)), none), (some 16, (.move (.tmp 15)), none), (some 17, (.fieldAddr 66 (.tmp 1) 4), some (16, false)), (some 18, (.load 64 (.tmp 17)), some (16, false)), (some 19, (.call ⟨(.builtin .len), #[(.tmp 18)], #[64]⟩), some (16, false)), (some 20, (.move (.tmp 3)), some (16, false)), (some 21, (.binOp .lss 3 (.tmp 19) (.tmp 20) 3), some (16, false)), (some 22, (.pick (.tmp 16) (.const (.bool true)) (.tmp 21)), none), (some 23, (.move (.tmp 22)), none), (some 24, (.fieldAddr 66 (.tmp 1) 4), some (23, false)), (some 25, (.load 64 (.tmp 24)), some (23, false)), (some 26, (.call ⟨(.builtin .len), #[(.tmp 25)], #[64]⟩), some (23, false)), (some 27, (.move (.tmp 4)), some (23, false)), (some 28, (.binOp .gtr 3 (.tmp 26) (.tmp 27) 3), some (23, false)), (some 29, (.pick (.tmp 23) (.const (.bool true)) (.tmp 28)), none), (some 30, (.move (.tmp 29)), none), (some 31, (.fieldAddr 66 (.tmp 1) 1), some (30, false)), (some 32, (.load 3 (.tmp 31)), some (30, false)), (some 33, (.binOp .lss 3 (.tmp 32) (.const (.int .i64 0)) 3), some (30, false)), (some 34, (.pick (.tmp 30) (.const (.bool true)) (.tmp 33)), none), (some 35, (.move (.tmp 34)), none), (some 36, (.fieldAddr 66 (.tmp 1) 1), some (35, false)), (some 37, (.load 3 (.tmp 36)), some (35, false)), (some 38, (.binOp .gtr 3 (.tmp 37) (.const (.int .i64 1000)) 3), some (35, false)), (some 39, (.pick (.tmp 35) (.const (.bool true)) (.tmp 38)), none)] fr H) fun p => some (.normal, p.1, p.2) := x_region _ k120_2 (nr (by kernel_rfl))
@[go_sem] theorem t120_2 (d : Tmp) : takes g120_2 d = false := nr (by kernel_rfl)
noncomputable def g120_3 : Array Oper := regAt Go.Proofs.Try.f120 3
theorem k120_3 : guardsOk g120_3 = true := nr (by kernel_rfl)
@[go_sem] theorem x120_3 {h : Hd} {ro nt id : Nat} {fr : PT} {H : Hp} : ex cx h ro 120 nt (.region id g120_3 false) fr H = xbind (xrun cx h ro 120 nt g120_3 [(some 2, (.assign (.const (.bool false))), none)] fr H) fun p => some (.normal, p.1, p.2) := x_region _ k120_3 (nr (by kernel_rfl))
@[go_sem] theorem t120_3 (d : Tmp) : takes g120_3 d = false := nr (by kernel_rfl)
noncomputable def g120_4 : Array Oper := regAt Go.Proofs.Try.f120 4
theorem k120_4 : guardsOk g120_4 = true := nr (by kernel_rfl)
@[go_sem] theorem x120_4 {h : Hd} {ro nt id : Nat} {fr : PT} {H : Hp} : ex cx h ro 120 nt (.region id g120_4 false) fr H = xbind (xrun cx h ro 120 nt g120_4 [(some 6, (.assign (.const (.int .i64 0))), none)] fr H) fun p => some (.normal, p.1, p.2) := x_region _ k120_4 (nr (by kernel_rfl))
@[go_sem] theorem t120_4 (d : Tmp) : takes g120_4 d = false := nr (by kernel_rfl)
noncomputable def g120_5 : Array Oper := regAt Go.Proofs.Try.f120 5
theorem k120_5 : guardsOk g120_5 = true := nr (by kernel_rfl)
@[go_sem] theorem x120_5 {h : Hd} {ro nt id : Nat} {fr : PT} {H : Hp} : ex cx h ro 120 nt (.region id g120_5 false) fr H = xbind (xrun cx h ro 120 nt g120_5 [(some 40, (.move (.tmp 6)), none), (some 41, (.fieldAddr 66 (.tmp 1) 4), none), (some 42, (.load 64 (.tmp 41)), none), (some 43, (.call ⟨(.builtin .len), #[(.tmp 42)], #[64]⟩), none), (some 44, (.binOp .lss 3 (.tmp 40) (.tmp 43) 3), none)] fr H) fun p => some (.normal, p.1, p.2) := x_region _ k120_5 (nr (by kernel_rfl))
@[go_sem] theorem t120_5 (d : Tmp) : takes g120_5 d = false := nr (by kernel_rfl)
noncomputable def g120_6 : Array Oper := regAt Go.Proofs.Try.f120 6
theorem k120_6 : guardsOk g120_6 = true := nr (by kernel_rfl)
@[go_sem] theorem x120_6 {h : Hd} {ro nt id : Nat} {fr : PT} {H : Hp} : ex cx h ro 120 nt (.region id g120_6 false) fr H = xbind (xrun cx h ro 120 nt g120_6 [(some 47, (.fieldAddr 66 (.tmp 1) 4), none), (some 48, (.load 64 (.tmp 47)), none), (some 49, (.move (.tmp 6)), none), (some 50, (.indexAddr 64 (.tmp 48) (.tmp 49)), none), (some 51, (.fieldAddr 63 (.tmp 50) 1), none), (some 52, (.load 3 (.tmp 51)), none), (some 53, (.binOp .lss 3 (.tmp 52) (.const (.int .i64 0)) 3), none), (some 54, (.move (.tmp 53)), none), (some 55, (.fieldAddr 66 (.tmp 1) 4), some (54, false)), (some 56, (.load 64 (.tmp 55)), some (54, false)), (some 57, (.move (.tmp 6)), some (54, false)), (some 58, (.indexAddr 64 (.tmp 56) (.tmp 57)), some (54, false)), (some 59, (.fieldAddr 63 (.tmp 58) 1), some (54, false)), (some 60, (.load 3 (.tmp 59)), some (54, false)), (some 61, (.binOp .gtr 3 (.tmp 60) (.const (.int .i64 1000)) 3), some (54, false)), (some 62, (.pick (.tmp 54) (.const (.bool true)) (.tmp 61)), none)] fr H) fun p => some (.normal, p.1, p.2) := x_region _ k120_6 (nr (by kernel_rfl))
@[go_sem] theorem t120_6 (d : Tmp) : takes g120_6 d = false := nr (by kernel_rfl)
noncomputable def g120_7 : Array Oper := regAt Go.Proofs.Try.f120 7
theorem k120_7 : guardsOk g120_7 = true := nr (by kernel_rfl)
@[go_sem] theorem x120_7 {h : Hd} {ro nt id : Nat} {fr : PT} {H : Hp} : ex cx h ro 120 nt (.region id g120_7 false) fr H = xbind (xrun cx h ro 120 nt g120_7 [(some 2, (.assign (.const (.bool false))), none)] fr H) fun p => some (.normal, p.1, p.2) := x_region _ k120_7 (nr (by kernel_rfl))
@[go_sem] theorem t120_7 (d : Tmp) : takes g120_7 d = false := nr (by kernel_rfl)
noncomputable def g120_8 : Array Oper := regAt Go.Proofs.Try.f120 8
theorem k120_8 : guardsOk g120_8 = true := nr (by kernel_rfl)
@[go_sem] theorem x120_8 {h : Hd} {ro nt id : Nat} {fr : PT} {H : Hp} : ex cx h ro 120 nt (.region id g120_8 false) fr H = xbind (xrun cx h ro 120 nt g120_8 [(some 45, (.move (.tmp 6)), none), (some 46, (.binOp .add 3 (.tmp 45) (.const (.int .i64 1)) 3), none), (some 6, (.assign (.tmp 46)), none)] fr H) fun p => some (.normal, p.1, p.2) := x_region _ k120_8 (nr (by kernel_rfl))
@[go_sem] theorem t120_8 (d : Tmp) : takes g120_8 d = false := nr (by kernel_rfl)
noncomputable def g120_9 : Array Oper := regAt Go.Proofs.Try.f120 9
theorem k120_9 : guardsOk g120_9 = true := nr (by kernel_rfl)
@[go_sem] theorem x120_9 {h : Hd} {ro nt id : Nat} {fr : PT} {H : Hp} : ex cx h ro 120 nt (.region id g120_9 false) fr H = xbind (xrun cx h ro 120 nt g120_9 [(some 63, (.fieldAddr 66 (.tmp 1) 0), none), (some 64, (.load 3 (.tmp 63)), none), (some 65, (.binOp .eql 3 (.tmp 64) (.const (.int .i64 0)) 3), none), (some 66, (.move (.tmp 65)), none), (some 67, (.fieldAddr 66 (.tmp 1) 0), some (66, false)), (some 68, (.load 3 (.tmp 67)), some (66, false)), (some 69, (.binOp .eql 3 (.tmp 68) (.const (.int .i64 5)) 3), some (66, false)), (some 70, (.pick (.tmp 66) (.const (.bool true)) (.tmp 69)), none), (some 71, (.move (.tmp 70)), none), (some 72, (.fieldAddr 66 (.tmp 1) 1), some (71, true)), (some 73, (.load 3 (.tmp 72)), some (71, true)), (some 74, (.binOp .neq 3 (.tmp 73) (.const (.int .i64 0)) 3), some (71, true)), (some 75, (.pick (.tmp 71) (.tmp 74) (.const (.bool false))), none)] fr H) fun p => some (.normal, p.1, p.2) := x_region _ k120_9 (nr (by kernel_rfl))
@[go_sem] theorem t120_9 (d : Tmp) : takes g120_9 d = false := nr (by kernel_rfl)
noncomputable def g120_10 : Array Oper := regAt Go.Proofs.Try.f120 10
theorem k120_10 : guardsOk g120_10 = true := nr (by kernel_rfl)
@[go_sem] theorem x120_10 {h : Hd} {ro nt id : Nat} {fr : PT} {H : Hp} : ex cx h ro 120 nt (.region id g120_10 false) fr H = xbind (xrun cx h ro 120 nt g120_10 [(some 2, (.assign (.const (.bool false))), none)] fr H) fun p => some (.normal, p.1, p.2) := x_region _ k120_10 (nr (by kernel_rfl))
@[go_sem] theorem t120_10 (d : Tmp) : takes g120_10 d = false := nr (by kernel_rfl)
noncomputable def g120_11 : Array Oper := regAt Go.Proofs.Try.f120 11
theorem k120_11 : guardsOk g120_11 = true := nr (by kernel_rfl)
@[go_sem] theorem x120_11 {h : Hd} {ro nt id : Nat} {fr : PT} {H : Hp} : ex cx h ro 120 nt (.region id g120_11 false) fr H = xbind (xrun cx h ro 120 nt g120_11 [(some 76, (.fieldAddr 66 (.tmp 1) 2), none), (some 77, (.load 4 (.tmp 76)), none)] fr H) fun p => some (.normal, p.1, p.2) := x_region _ k120_11 (nr (by kernel_rfl))
@[go_sem] theorem t120_11 (d : Tmp) : takes g120_11 d = false := nr (by kernel_rfl)
noncomputable def g120_12 : Array Oper := regAt Go.Proofs.Try.f120 12
theorem k120_12 : guardsOk g120_12 = true := nr (by kernel_rfl)
@[go_sem] theorem x120_12 {h : Hd} {ro nt id : Nat} {fr : PT} {H : Hp} : ex cx h ro 120 nt (.region id g120_12 false) fr H = xbind (xrun cx h ro 120 nt g120_12 [(some 78, (.fieldAddr 66 (.tmp 1) 0), none), (some 79, (.load 3 (.tmp 78)), none), (some 80, (.binOp .eql 3 (.tmp 79) (.const (.int .i64 1)) 3), none), (some 81, (.move (.tmp 80)), none), (some 82, (.fieldAddr 66 (.tmp 1) 0), some (81, false)), (some 83, (.load 3 (.tmp 82)), some (81, false)), (some 84, (.binOp .eql 3 (.tmp 83) (.const (.int .i64 2)) 3), some (81, false)), (some 85, (.pick (.tmp 81) (.const (.bool true)) (.tmp 84)), none), (some 86, (.move (.tmp 85)), none), (some 87, (.fieldAddr 66 (.tmp 1) 3), some (86, true)), (some 88, (.fieldAddr 63 (.tmp 87) 1), some (86, true)), (some 89, (.load 3 (.tmp 88)), some (86, true)), (some 90, (.binOp .geq 3 (.tmp 89) (.const (.int .i64 0)) 3), some (86, true)), (some 91, (.pick (.tmp 86) (.tmp 90) (.const (.bool false))), none), (some 92, (.move (.tmp 91)), none), (some 93, (.fieldAddr 66 (.tmp 1) 3), some (92, true)), (some 94, (.fieldAddr 63 (.tmp 93) 1), some (92, true)), (some 95, (.load 3 (.tmp 94)), some (92, true)), (some 96, (.binOp .leq 3 (.tmp 95) (.const (.int .i64 1000)) 3), some (92, true)), (some 97, (.pick (.tmp 92) (.tmp 96) (.const (.bool false))), none), (some 2, (.assign (.tmp 97)), none)] fr H) fun p => some (.normal, p.1, p.2) := x_region _ k120_12 (nr (by kernel_rfl))
@[go_sem] theorem t120_12 (d : Tmp) : takes g120_12 d = false := nr (by kernel_rfl)
noncomputable def g120_13 : Array Oper := regAt Go.Proofs.Try.f120 13
theorem k120_13 : guardsOk g120_13 = true := nr (by kernel_rfl)
@[go_sem] theorem x120_13 {h : Hd} {ro nt id : Nat} {fr : PT} {H : Hp} : ex cx h ro 120 nt (.region id g120_13 false) fr H = xbind (xrun cx h ro 120 nt g120_13 [(some 98, (.fieldAddr 66 (.tmp 1) 3), none), (some 99, (.load 63 (.tmp 98)), none), (some 100, (.build 63 #[]), none), (some 101, (.binOp .eql 63 (.tmp 99) (.tmp 100) 63), none), (some 2, (.assign (.tmp 101)), none)] fr H) fun p => some (.normal, p.1, p.2) := x_region _ k120_13 (nr (by kernel_rfl))
@[go_sem] theorem t120_13 (d : Tmp) : takes g120_13 d = false := nr (by kernel_rfl)
noncomputable def l120_0 : Code := (.seq (.seq (.region 5 g120_5 false) (.cond (.tmp 44) .skip (.exit 0))) (.seq (.block 1 (.seq (.region 7 g120_6 false) (.cond (.tmp 62) (.seq (.region 8 g120_7 false) .ret) .skip))) (.region 6 g120_8 false)))
theorem dl120_0 {ro nt : Nat} {fr : PT} {H : Hp} : (den cx).loop ro 120 nt l120_0 fr H = xbind (ex cx (den cx) ro 120 nt (.seq (.seq (.region 5 g120_5 false) (.cond (.tmp 44) .skip (.exit 0))) (.seq (.block 1 (.seq (.region 7 g120_6 false) (.cond (.tmp 62) (.seq (.region 8 g120_7 false) .ret) .skip))) (.region 6 g120_8 false))) fr H) (contR (trimmed ((den cx).loop ro 120 nt l120_0) H.length)) := den_loop_x l120_0
theorem b120 : Go.Proofs.Try.f120.body = some (.seq (.region 0 g120_0 false) (.seq (.region 1 g120_1 false) (.seq (.seq (.region 2 g120_2 false) (.cond (.tmp 39) (.seq (.region 3 g120_3 false) .ret) .skip)) (.seq (.seq (.region 4 g120_4 false) (.block 0 (.loop l120_0))) (.seq (.seq (.region 9 g120_9 false) (.cond (.tmp 75) (.seq (.region 10 g120_10 false) .ret) .skip)) (.seq (.seq (.region 11 g120_11 false) (.cond (.tmp 77) (.seq (.region 12 g120_12 false) .ret) .skip)) (.seq (.region 13 g120_13 false) .ret))))))) := by kernel_rfl
theorem c120 {h : Hd} {ro : Nat} {H : Hp} (a0 : AV) : callB cx h ro 120 [a0] H = returned cx [(.tmp 2)] (ex cx h ro 120 102 (.seq (.region 0 g120_0 false) (.seq (.region 1 g120_1 false) (.seq (.seq (.region 2 g120_2 false) (.cond (.tmp 39) (.seq (.region 3 g120_3 false) .ret) .skip)) (.seq (.seq (.region 4 g120_4 false) (.block 0 (.loop l120_0))) (.seq (.seq (.region 9 g120_9 false) (.cond (.tmp 75) (.seq (.region 10 g120_10 false) .ret) .skip)) (.seq (.seq (.region 11 g120_11 false) (.cond (.tmp 77) (.seq (.region 12 g120_12 false) .ret) .skip)) (.seq (.region 13 g120_13 false) .ret))))))) (PT.nil.set 0 (drp a0)) H) := by
  have hf : cx.fns 120 = some Go.Proofs.Try.f120 := by kernel_rfl
  simp only [callB, hf, funced, b120, bodied]
  rfl
/-! function 121: colloquy/colloquyref04.open -/
noncomputable def g121_0 : Array Oper := regAt Go.Proofs.Try.f121 0
theorem k121_0 : guardsOk g121_0 = true := nr (by kernel_rfl)
@[go_sem] theorem x121_0 {h : Hd} {ro nt id : Nat} {fr : PT} {H : Hp} : ex cx h ro 121 nt (.region id g121_0 false) fr H = xbind (xrun cx h ro 121 nt g121_0 [(some 2, (.box 66 (.tmp 0)), none), (some 4, (.assign (.const (.bool false))), none)] fr H) fun p => some (.normal, p.1, p.2) := x_region _ k121_0 (nr (by kernel_rfl))
@[go_sem] theorem t121_0 (d : Tmp) : takes g121_0 d = false := nr (by kernel_rfl)
noncomputable def g121_1 : Array Oper := regAt Go.Proofs.Try.f121 1
theorem k121_1 : guardsOk g121_1 = true := nr (by kernel_rfl)
@[go_sem] theorem x121_1 {h : Hd} {ro nt id : Nat} {fr : PT} {H : Hp} : ex cx h ro 121 nt (.region id g121_1 false) fr H = xbind (xrun cx h ro 121 nt g121_1 [(some 5, (.assign (.const (.int .i64 0))), none)] fr H) fun p => some (.normal, p.1, p.2) := x_region _ k121_1 (nr (by kernel_rfl))
@[go_sem] theorem t121_1 (d : Tmp) : takes g121_1 d = false := nr (by kernel_rfl)
noncomputable def g121_2 : Array Oper := regAt Go.Proofs.Try.f121 2
theorem k121_2 : guardsOk g121_2 = true := nr (by kernel_rfl)
@[go_sem] theorem x121_2 {h : Hd} {ro nt id : Nat} {fr : PT} {H : Hp} : ex cx h ro 121 nt (.region id g121_2 false) fr H = xbind (xrun cx h ro 121 nt g121_2 [(some 6, (.move (.tmp 5)), none), (some 7, (.fieldAddr 66 (.tmp 2) 4), none), (some 8, (.load 64 (.tmp 7)), none), (some 9, (.call ⟨(.builtin .len), #[(.tmp 8)], #[64]⟩), none), (some 10, (.binOp .lss 3 (.tmp 6) (.tmp 9) 3), none)] fr H) fun p => some (.normal, p.1, p.2) := x_region _ k121_2 (nr (by kernel_rfl))
@[go_sem] theorem t121_2 (d : Tmp) : takes g121_2 d = false := nr (by kernel_rfl)
noncomputable def g121_3 : Array Oper := regAt Go.Proofs.Try.f121 3
theorem k121_3 : guardsOk g121_3 = true := nr (by kernel_rfl)
@[go_sem] theorem x121_3 {h : Hd} {ro nt id : Nat} {fr : PT} {H : Hp} : ex cx h ro 121 nt (.region id g121_3 false) fr H = xbind (xrun cx h ro 121 nt g121_3 [(some 13, (.fieldAddr 66 (.tmp 2) 4), none), (some 14, (.load 64 (.tmp 13)), none), (some 15, (.move (.tmp 5)), none), (some 16, (.indexAddr 64 (.tmp 14) (.tmp 15)), none), (some 17, (.fieldAddr 63 (.tmp 16) 0), none), (some 18, (.load 3 (.tmp 17)), none), (some 19, (.binOp .lss 3 (.tmp 18) (.const (.int .i64 0)) 3), none), (some 20, (.move (.tmp 19)), none), (some 21, (.fieldAddr 66 (.tmp 2) 4), some (20, false)), (some 22, (.load 64 (.tmp 21)), some (20, false)), (some 23, (.move (.tmp 5)), some (20, false)), (some 24, (.indexAddr 64 (.tmp 22) (.tmp 23)), some (20, false)), (some 25, (.fieldAddr 63 (.tmp 24) 0), some (20, false)), (some 26, (.load 3 (.tmp 25)), some (20, false)), (some 27, (.move (.tmp 1)), some (20, false)), (some 28, (.binOp .geq 3 (.tmp 26) (.tmp 27) 3), some (20, false)), (some 29, (.pick (.tmp 20) (.const (.bool true)) (.tmp 28)), none)] fr H) fun p => some (.normal, p.1, p.2) := x_region _ k121_3 (nr (by kernel_rfl))
@[go_sem] theorem t121_3 (d : Tmp) : takes g121_3 d = false := nr (by kernel_rfl)
noncomputable def g121_4 : Array Oper := regAt Go.Proofs.Try.f121 4
theorem k121_4 : guardsOk g121_4 = true := nr (by kernel_rfl)
@[go_sem] theorem x121_4 {h : Hd} {ro nt id : Nat} {fr : PT} {H : Hp} : ex cx h ro 121 nt (.region id g121_4 false) fr H = xbind (xrun cx h ro 121 nt g121_4 [(some 4, (.assign (.const (.bool true))), none)] fr H) fun p => some (.normal, p.1, p.2) := x_region _ k121_4 (nr (by kernel_rfl))
@[go_sem] theorem t121_4 (d : Tmp) : takes g121_4 d = false := nr (by kernel_rfl)
noncomputable def g121_5 : Array Oper := regAt Go.Proofs.Try.f121 5
theorem k121_5 : guardsOk g121_5 = true := nr (by kernel_rfl)
@[go_sem] theorem x121_5 {h : Hd} {ro nt id : Nat} {fr : PT} {H : Hp} : ex cx h ro 121 nt (.region id g121_5 false) fr H = xbind (xrun cx h ro 121 nt g121_5 [(some 11, (.move (.tmp 5)), none), (some 12, (.binOp .add 3 (.tmp 11) (.const (.int .i64 1)) 3), none), (some 5, (.assign (.tmp 12)), none)] fr H) fun p => some (.normal, p.1, p.2) := x_region _ k121_5 (nr (by kernel_rfl))
@[go_sem] theorem t121_5 (d : Tmp) : takes g121_5 d = false := nr (by kernel_rfl)
noncomputable def g121_6 : Array Oper := regAt Go.Proofs.Try.f121 6
theorem k121_6 : guardsOk g121_6 = true := nr (by kernel_rfl)
@[go_sem] theorem x121_6 {h : Hd} {ro nt id : Nat} {fr : PT} {H : Hp} : ex cx h ro 121 nt (.region id g121_6 false) fr H = xbind (xrun cx h ro 121 nt g121_6 [(some 30, (.fieldAddr 66 (.tmp 2) 2), none), (some 31, (.load 4 (.tmp 30)), none), (some 32, (.move (.tmp 31)), none), (some 33, (.fieldAddr 66 (.tmp 2) 3), some (32, true)), (some 34, (.fieldAddr 63 (.tmp 33) 0), some (32, true)), (some 35, (.load 3 (.tmp 34)), some (32, true)), (some 36, (.binOp .lss 3 (.tmp 35) (.const (.int .i64 0)) 3), some (32, true)), (some 37, (.move (.tmp 36)), some (32, true)), (some 38, (.fieldAddr 66 (.tmp 2) 3), some (37, false)), (some 39, (.fieldAddr 63 (.tmp 38) 0), some (37, false)), (some 40, (.load 3 (.tmp 39)), some (37, false)), (some 41, (.move (.tmp 1)), some (37, false)), (some 42, (.binOp .geq 3 (.tmp 40) (.tmp 41) 3), some (37, false)), (some 43, (.pick (.tmp 37) (.const (.bool true)) (.tmp 42)), some (32, true)), (some 44, (.pick (.tmp 32) (.tmp 43) (.const (.bool false))), none), (some 4, (.assign (.tmp 44)), none)] fr H) fun p => some (.normal, p.1, p.2) := x_region _ k121_6 (nr (by kernel_rfl))
@[go_sem] theorem t121_6 (d : Tmp) : takes g121_6 d = false := nr (by kernel_rfl)
noncomputable def l121_0 : Code := (.seq (.seq (.region 2 g121_2 false) (.cond (.tmp 10) .skip (.exit 0))) (.seq (.block 1 (.seq (.region 4 g121_3 false) (.cond (.tmp 29) (.seq (.region 5 g121_4 false) .ret) .skip))) (.region 3 g121_5 false)))
theorem dl121_0 {ro nt : Nat} {fr : PT} {H : Hp} : (den cx).loop ro 121 nt l121_0 fr H = xbind (ex cx (den cx) ro 121 nt (.seq (.seq (.region 2 g121_2 false) (.cond (.tmp 10) .skip (.exit 0))) (.seq (.block 1 (.seq (.region 4 g121_3 false) (.cond (.tmp 29) (.seq (.region 5 g121_4 false) .ret) .skip))) (.region 3 g121_5 false))) fr H) (contR (trimmed ((den cx).loop ro 121 nt l121_0) H.length)) := den_loop_x l121_0
theorem b121 : Go.Proofs.Try.f121.body = some (.seq (.region 0 g121_0 false) (.seq (.seq (.region 1 g121_1 false) (.block 0 (.loop l121_0))) (.seq (.region 6 g121_6 false) .ret))) := by kernel_rfl
theorem c121 {h : Hd} {ro : Nat} {H : Hp} (a0 a1 : AV) : callB cx h ro 121 [a0, a1] H = returned cx [(.tmp 4)] (ex cx h ro 121 45 (.seq (.region 0 g121_0 false) (.seq (.seq (.region 1 g121_1 false) (.block 0 (.loop l121_0))) (.seq (.region 6 g121_6 false) .ret))) ((PT.nil.set 0 (drp a0)).set 1 (drp a1)) H) := by
  have hf : cx.fns 121 = some Go.Proofs.Try.f121 := by kernel_rfl
  simp only [callB, hf, funced, b121, bodied]
  rfl
/-! function 119: colloquy/graph.way -/
noncomputable def g119_0 : Array Oper := regAt Go.Proofs.Try.f119 0
theorem k119_0 : guardsOk g119_0 = true := nr (by kernel_rfl)
@[go_sem] theorem x119_0 {h : Hd} {ro nt id : Nat} {fr : PT} {H : Hp} : ex cx h ro 119 nt (.region id g119_0 false) fr H = xbind (xrun cx h ro 119 nt g119_0 [(some 2, (.box 56 (.tmp 0)), none), (some 3, (.box 61 (.tmp 1)), none), (some 4, (.assign (.const .nilFunc)), none)] fr H) fun p => some (.normal, p.1, p.2) := x_region _ k119_0 (nr (by kernel_rfl))
@[go_sem] theorem t119_0 (d : Tmp) : takes g119_0 d = false := nr (by kernel_rfl)
noncomputable def g119_1 : Array Oper := regAt Go.Proofs.Try.f119 1
theorem k119_1 : guardsOk g119_1 = true := nr (by kernel_rfl)
@[go_sem] theorem x119_1 {h : Hd} {ro nt id : Nat} {fr : PT} {H : Hp} : ex cx h ro 119 nt (.region id g119_1 false) fr H = xbind (xrun cx h ro 119 nt g119_1 [(some 5, (.makeFunc (.func 156) #[] #[(.tmp 2), (.tmp 3)]), none), (some 4, (.assign (.tmp 5)), none)] fr H) fun p => some (.normal, p.1, p.2) := x_region _ k119_1 (nr (by kernel_rfl))
@[go_sem] theorem t119_1 (d : Tmp) : takes g119_1 d = false := nr (by kernel_rfl)
theorem b119 : Go.Proofs.Try.f119.body = some (.seq (.region 0 g119_0 false) (.seq (.region 1 g119_1 false) .ret)) := by kernel_rfl
theorem c119 {h : Hd} {ro : Nat} {H : Hp} (a0 a1 : AV) : callB cx h ro 119 [a0, a1] H = returned cx [(.tmp 4)] (ex cx h ro 119 6 (.seq (.region 0 g119_0 false) (.seq (.region 1 g119_1 false) .ret)) ((PT.nil.set 0 (drp a0)).set 1 (drp a1)) H) := by
  have hf : cx.fns 119 = some Go.Proofs.Try.f119 := by kernel_rfl
  simp only [callB, hf, funced, b119, bodied]
  rfl
/-! function 156: colloquy/graph.way$1 -/
noncomputable def g156_0 : Array Oper := regAt Go.Proofs.Try.f156 0
theorem k156_0 : guardsOk g156_0 = true := nr (by kernel_rfl)
@[go_sem] theorem x156_0 {h : Hd} {ro nt id : Nat} {fr : PT} {H : Hp} : ex cx h ro 156 nt (.region id g156_0 false) fr H = xbind (xrun cx h ro 156 nt g156_0 [(some 5, (.load 56 (.tmp 1)), none), (some 6, (.call ⟨(.builtin .len), #[(.tmp 5)], #[56]⟩), none), (some 7, (.move (.const (.int .i64 0))), none)] fr H) fun p => some (.normal, p.1, p.2) := x_region _ k156_0 (nr (by kernel_rfl))
@[go_sem] theorem t156_0 (d : Tmp) : takes g156_0 d = false := nr (by kernel_rfl)
noncomputable def g156_1 : Array Oper := regAt Go.Proofs.Try.f156 1
theorem k156_1 : guardsOk g156_1 = true := nr (by kernel_rfl)
@[go_sem] theorem x156_1 {h : Hd} {ro nt id : Nat} {fr : PT} {H : Hp} : ex cx h ro 156 nt (.region id g156_1 false) fr H = xbind (xrun cx h ro 156 nt g156_1 [(some 8, (.binOp .lss 3 (.tmp 7) (.tmp 6) 3), none)] fr H) fun p => some (.normal, p.1, p.2) := x_region _ k156_1 (nr (by kernel_rfl))
@[go_sem] theorem t156_1 (d : Tmp) : takes g156_1 d = false := nr (by kernel_rfl)
noncomputable def g156_2 : Array Oper := regAt Go.Proofs.Try.f156 2
theorem k156_2 : guardsOk g156_2 = true := nr (by kernel_rfl)
@[go_sem] theorem x156_2 {h : Hd} {ro nt id : Nat} {fr : PT} {H : Hp} : ex cx h ro 156 nt (.region id g156_2 false) fr H = xbind (xrun cx h ro 156 nt g156_2 [(some 9, (.fieldAddr 61 (.tmp 2) 0), none), (some 10, (.load 3 (.tmp 9)), none), (some 11, (.load 56 (.tmp 1)), none), (some 12, (.call ⟨(.builtin .len), #[(.tmp 11)], #[56]⟩), none), (some 13, (.binOp .sub 3 (.tmp 12) (.const (.int .i64 1)) 3), none), (some 14, (.call ⟨(.value (.func 118)), #[(.tmp 10), (.tmp 13)], #[3, 3]⟩), none), (some 15, (.unOp .not 4 (.tmp 14)), none)] fr H) fun p => some (.normal, p.1, p.2) := x_region _ k156_2 (nr (by kernel_rfl))
@[go_sem] theorem t156_2 (d : Tmp) : takes g156_2 d = false := nr (by kernel_rfl)
noncomputable def g156_3 : Array Oper := regAt Go.Proofs.Try.f156 3
theorem k156_3 : guardsOk g156_3 = true := nr (by kernel_rfl)
@[go_sem] theorem x156_3 {h : Hd} {ro nt id : Nat} {fr : PT} {H : Hp} : ex cx h ro 156 nt (.region id g156_3 false) fr H = xbind (xrun cx h ro 156 nt g156_3 [(some 16, (.load 56 (.tmp 1)), none), (some 17, (.fieldAddr 61 (.tmp 2) 0), none), (some 18, (.load 3 (.tmp 17)), none), (some 19, (.indexAddr 56 (.tmp 16) (.tmp 18)), none), (some 20, (.load 66 (.tmp 19)), none), (some 4, (.alloc 66), none), (none, (.store 66 (.tmp 4) (.tmp 20)), none)] fr H) fun p => some (.normal, p.1, p.2) := x_region _ k156_3 (nr (by kernel_rfl))
@[go_sem] theorem t156_3 (d : Tmp) : takes g156_3 d = false := nr (by kernel_rfl)
noncomputable def g156_4 : Array Oper := regAt Go.Proofs.Try.f156 4
theorem k156_4 : guardsOk g156_4 = true := nr (by kernel_rfl)
@[go_sem] theorem x156_4 {h : Hd} {ro nt id : Nat} {fr : PT} {H : Hp} : ex cx h ro 156 nt (.region id g156_4 false) fr H = xbind (xrun cx h ro 156 nt g156_4 [(some 21, (.move (.tmp 0)), none), (some 22, (.load 61 (.tmp 2)), none), (some 23, (.load 66 (.tmp 4)), none), (some 24, (.call ⟨(.value (.tmp 21)), #[(.tmp 22), (.tmp 23)], #[61, 66]⟩), none), (some 25, (.unOp .not 4 (.tmp 24)), none), (some 26, (.move (.tmp 25)), none), (some 27, (.fieldAddr 66 (.tmp 4) 4), some (26, false)), (some 28, (.load 64 (.tmp 27)), some (26, false)), (some 29, (.call ⟨(.builtin .len), #[(.tmp 28)], #[64]⟩), some (26, false)), (some 30, (.binOp .neq 3 (.tmp 29) (.const (.int .i64 1)) 3), some (26, false)), (some 31, (.pick (.tmp 26) (.const (.bool true)) (.tmp 30)), none)] fr H) fun p => some (.normal, p.1, p.2) := x_region _ k156_4 (nr (by kernel_rfl))
@[go_sem] theorem t156_4 (d : Tmp) : takes g156_4 d = false := nr (by kernel_rfl)
noncomputable def g156_5 : Array Oper := regAt Go.Proofs.Try.f156 5
theorem k156_5 : guardsOk g156_5 = true := nr (by kernel_rfl)
@[go_sem] theorem x156_5 {h : Hd} {ro nt id : Nat} {fr : PT} {H : Hp} : ex cx h ro 156 nt (.region id g156_5 true) fr H = orRaw (xrunU cx h ro 156 nt g156_5 H.length [(0, 0, [], (some 32, (.fieldAddr 66 (.tmp 4) 4), none)), (1, 0, [], (some 33, (.load 64 (.tmp 32)), none)), (2, 0, [], (some 34, (.indexAddr 64 (.tmp 33) (.const (.int .i64 0))), none)), (3, 0, [], (some 35, (.fieldAddr 63 (.tmp 34) 0), none)), (4, 0, [], (some 36, (.load 3 (.tmp 35)), none)), (5, 0, [0, 1, 2, 3, 4], (some 37, (.fieldAddr 61 (.tmp 2) 1), none)), (6, 0, [0, 1, 2, 3, 4], (some 38, (.load 3 (.tmp 37)), none)), (7, 0, [0, 1, 2, 3, 4, 5, 6], (some 39, (.fieldAddr 66 (.tmp 4) 4), none)), (8, 0, [0, 1, 2, 3, 4, 5, 6], (some 40, (.load 64 (.tmp 39)), none)), (9, 0, [0, 1, 2, 3, 4, 5, 6], (some 41, (.indexAddr 64 (.tmp 40) (.const (.int .i64 0))), none)), (10, 0, [0, 1, 2, 3, 4, 5, 6], (some 42, (.fieldAddr 63 (.tmp 41) 1), none)), (11, 0, [0, 1, 2, 3, 4, 5, 6], (some 43, (.load 3 (.tmp 42)), none)), (12, 0, [0, 1, 2, 3, 4], (some 44, (.binOp .add 3 (.tmp 38) (.tmp 43) 3), none)), (13, 0, [0, 1, 2, 3, 4, 7, 8, 9, 10, 11, 12], (none, (.store 61 (.tmp 2) (.const (.agg #[(.int .i64 0), (.int .i64 0)]))), none)), (14, 0, [7, 8, 9, 10, 11, 12], (some 45, (.fieldAddr 61 (.tmp 2) 0), none)), (15, 0, [7, 8, 9, 10, 11, 12], (none, (.store 3 (.tmp 45) (.tmp 36)), none)), (16, 0, [], (some 46, (.fieldAddr 61 (.tmp 2) 1), none)), (17, 0, [], (none, (.store 3 (.tmp 46) (.tmp 44)), none))] fr (H ++ List.replicate 0 .res) []) fun _ => regionRaw cx h ro 156 nt g156_5 fr H := x_regionU _ _ k156_5 (nr (by kernel_rfl)) (nr (by kernel_rfl)) (nr (by kernel_rfl)) (nr (by kernel_rfl))
@[go_sem] theorem t156_5 (d : Tmp) : takes g156_5 d = false := nr (by kernel_rfl)
noncomputable def g156_6 : Array Oper := regAt Go.Proofs.Try.f156 6
theorem k156_6 : guardsOk g156_6 = true := nr (by kernel_rfl)
@[go_sem] theorem x156_6 {h : Hd} {ro nt id : Nat} {fr : PT} {H : Hp} : ex cx h ro 156 nt (.region id g156_6 false) fr H = xbind (xrun cx h ro 156 nt g156_6 [(some 47, (.binOp .add 3 (.tmp 7) (.const (.int .i64 1)) 3), none), (some 7, (.move (.tmp 47)), none)] fr H) fun p => some (.normal, p.1, p.2) := x_region _ k156_6 (nr (by kernel_rfl))
@[go_sem] theorem t156_6 (d : Tmp) : takes g156_6 d = false := nr (by kernel_rfl)
noncomputable def l156_0 : Code := (.seq (.region 1 g156_1 false) (.seq (.cond (.tmp 8) .skip (.exit 0)) (.seq (.block 1 (.seq (.seq (.region 2 g156_2 false) (.cond (.tmp 15) .ret .skip)) (.seq (.region 3 g156_3 false) (.seq (.seq (.region 4 g156_4 false) (.cond (.tmp 31) .ret .skip)) (.region 5 g156_5 true))))) (.region 6 g156_6 false))))
theorem dl156_0 {ro nt : Nat} {fr : PT} {H : Hp} : (den cx).loop ro 156 nt l156_0 fr H = xbind (ex cx (den cx) ro 156 nt (.seq (.region 1 g156_1 false) (.seq (.cond (.tmp 8) .skip (.exit 0)) (.seq (.block 1 (.seq (.seq (.region 2 g156_2 false) (.cond (.tmp 15) .ret .skip)) (.seq (.region 3 g156_3 false) (.seq (.seq (.region 4 g156_4 false) (.cond (.tmp 31) .ret .skip)) (.region 5 g156_5 true))))) (.region 6 g156_6 false)))) fr H) (contR (trimmed ((den cx).loop ro 156 nt l156_0) H.length)) := den_loop_x l156_0
theorem b156 : Go.Proofs.Try.f156.body = some (.seq (.region 0 g156_0 false) (.block 0 (.loop l156_0))) := by kernel_rfl
theorem c156 {h : Hd} {ro : Nat} {H : Hp} (a0 a1 a2 : AV) : callB cx h ro 156 [a0, a1, a2] H = returned cx [] (ex cx h ro 156 48 (.seq (.region 0 g156_0 false) (.block 0 (.loop l156_0))) (((PT.nil.set 0 (drp a0)).set 1 (drp a1)).set 2 (drp a2)) H) := by
  have hf : cx.fns 156 = some Go.Proofs.Try.f156 := by kernel_rfl
  simp only [callB, hf, funced, b156, bodied]
  rfl
/-! function 51: colloquy/graph.Resolve -/
noncomputable def g51_0 : Array Oper := regAt Go.Proofs.Try.f51 0
theorem k51_0 : guardsOk g51_0 = true := nr (by kernel_rfl)
@[go_sem] theorem x51_0 {h : Hd} {ro nt id : Nat} {fr : PT} {H : Hp} : ex cx h ro 51 nt (.region id g51_0 false) fr H = xbind (xrun cx h ro 51 nt g51_0 [(some 3, (.box 61 (.tmp 1)), none), (some 4, (.alloc 61), none)] fr H) fun p => some (.normal, p.1, p.2) := x_region _ k51_0 (nr (by kernel_rfl))
@[go_sem] theorem t51_0 (d : Tmp) : takes g51_0 d = false := nr (by kernel_rfl)
noncomputable def g51_1 : Array Oper := regAt Go.Proofs.Try.f51 1
theorem k51_1 : guardsOk g51_1 = true := nr (by kernel_rfl)
@[go_sem] theorem x51_1 {h : Hd} {ro nt id : Nat} {fr : PT} {H : Hp} : ex cx h ro 51 nt (.region id g51_1 false) fr H = xbind (xrun cx h ro 51 nt g51_1 [(some 7, (.move (.tmp 0)), none), (some 8, (.load 61 (.tmp 3)), none), (some 9, (.call ⟨(.value (.func 119)), #[(.tmp 7), (.tmp 8)], #[56, 61]⟩), none)] fr H) fun p => some (.normal, p.1, p.2) := x_region _ k51_1 (nr (by kernel_rfl))
@[go_sem] theorem t51_1 (d : Tmp) : takes g51_1 d = false := nr (by kernel_rfl)
noncomputable def g51_2 : Array Oper := regAt Go.Proofs.Try.f51 2
theorem k51_2 : guardsOk g51_2 = true := nr (by kernel_rfl)
@[go_sem] theorem x51_2 {h : Hd} {ro nt id : Nat} {fr : PT} {H : Hp} : ex cx h ro 51 nt (.region id g51_2 false) fr H = xbind (xrun cx h ro 51 nt g51_2 [(some 5, (.alloc 61), none), (none, (.store 61 (.tmp 5) (.tmp 10)), none)] fr H) fun p => some (.normal, p.1, p.2) := x_region _ k51_2 (nr (by kernel_rfl))
@[go_sem] theorem t51_2 (d : Tmp) : takes g51_2 d = false := nr (by kernel_rfl)
noncomputable def g51_3 : Array Oper := regAt Go.Proofs.Try.f51 3
theorem k51_3 : guardsOk g51_3 = true := nr (by kernel_rfl)
@[go_sem] theorem x51_3 {h : Hd} {ro nt id : Nat} {fr : PT} {H : Hp} : ex cx h ro 51 nt (.region id g51_3 false) fr H = xbind (xrun cx h ro 51 nt g51_3 [(some 6, (.alloc 66), none), (none, (.store 66 (.tmp 6) (.tmp 11)), none)] fr H) fun p => some (.normal, p.1, p.2) := x_region _ k51_3 (nr (by kernel_rfl))
@[go_sem] theorem t51_3 (d : Tmp) : takes g51_3 d = false := nr (by kernel_rfl)
noncomputable def g51_4 : Array Oper := regAt Go.Proofs.Try.f51 4
theorem k51_4 : guardsOk g51_4 = true := nr (by kernel_rfl)
@[go_sem] theorem x51_4 {h : Hd} {ro nt id : Nat} {fr : PT} {H : Hp} : ex cx h ro 51 nt (.region id g51_4 false) fr H = xbind (xrun cx h ro 51 nt g51_4 [(some 12, (.fieldAddr 66 (.tmp 6) 0), none), (some 13, (.load 3 (.tmp 12)), none), (some 14, (.binOp .neq 3 (.tmp 13) (.const (.int .i64 5)) 3), none)] fr H) fun p => some (.normal, p.1, p.2) := x_region _ k51_4 (nr (by kernel_rfl))
@[go_sem] theorem t51_4 (d : Tmp) : takes g51_4 d = false := nr (by kernel_rfl)
noncomputable def g51_5 : Array Oper := regAt Go.Proofs.Try.f51 5
theorem k51_5 : guardsOk g51_5 = true := nr (by kernel_rfl)
@[go_sem] theorem x51_5 {h : Hd} {ro nt id : Nat} {fr : PT} {H : Hp} : ex cx h ro 51 nt (.region id g51_5 false) fr H = xbind (xrun cx h ro 51 nt g51_5 [(some 15, (.load 61 (.tmp 5)), none), (none, (.store 61 (.tmp 4) (.tmp 15)), none)] fr H) fun p => some (.normal, p.1, p.2) := x_region _ k51_5 (nr (by kernel_rfl))
@[go_sem] theorem t51_5 (d : Tmp) : takes g51_5 d = false := nr (by kernel_rfl)
noncomputable def g51_6 : Array Oper := regAt Go.Proofs.Try.f51 6
theorem k51_6 : guardsOk g51_6 = true := nr (by kernel_rfl)
@[go_sem] theorem x51_6 {h : Hd} {ro nt id : Nat} {fr : PT} {H : Hp} : ex cx h ro 51 nt (.region id g51_6 false) fr H = xbind (xrun cx h ro 51 nt g51_6 [(some 16, (.build 61 #[(0, (.const (.int .i64 (-1))))]), none), (none, (.store 61 (.tmp 4) (.tmp 16)), none)] fr H) fun p => some (.normal, p.1, p.2) := x_region _ k51_6 (nr (by kernel_rfl))
@[go_sem] theorem t51_6 (d : Tmp) : takes g51_6 d = false := nr (by kernel_rfl)
noncomputable def q51_0 : Code := (.seq (.region 2 g51_2 false) (.region 3 g51_3 false))
noncomputable def r51_0 : Code := (.block 1 (.seq (.region 4 g51_4 false) (.cond (.tmp 14) (.seq (.region 5 g51_5 false) .ret) .skip)))
theorem b51 : Go.Proofs.Try.f51.body = some (.seq (.region 0 g51_0 false) (.seq (.seq (.region 1 g51_1 false) (.block 0 (.rangeFunc (.tmp 9) #[10, 11] q51_0 r51_0))) (.seq (.region 6 g51_6 false) .ret))) := by kernel_rfl
theorem c51 {h : Hd} {ro : Nat} {H : Hp} (a0 a1 : AV) : callB cx h ro 51 [a0, a1] H = returned cx [(.cell 4 61)] (ex cx h ro 51 17 (.seq (.region 0 g51_0 false) (.seq (.seq (.region 1 g51_1 false) (.block 0 (.rangeFunc (.tmp 9) #[10, 11] q51_0 r51_0))) (.seq (.region 6 g51_6 false) .ret))) ((PT.nil.set 0 (drp a0)).set 1 (drp a1)) H) := by
  have hf : cx.fns 51 = some Go.Proofs.Try.f51 := by kernel_rfl
  simp only [callB, hf, funced, b51, bodied]
  rfl
/-! function 52: colloquy/colloquyref04.Resolve -/
noncomputable def g52_0 : Array Oper := regAt Go.Proofs.Try.f52 0
theorem k52_0 : guardsOk g52_0 = true := nr (by kernel_rfl)
@[go_sem] theorem x52_0 {h : Hd} {ro nt id : Nat} {fr : PT} {H : Hp} : ex cx h ro 52 nt (.region id g52_0 false) fr H = xbind (xrun cx h ro 52 nt g52_0 [(some 3, (.box 61 (.tmp 1)), none), (some 4, (.alloc 61), none)] fr H) fun p => some (.normal, p.1, p.2) := x_region _ k52_0 (nr (by kernel_rfl))
@[go_sem] theorem t52_0 (d : Tmp) : takes g52_0 d = false := nr (by kernel_rfl)
noncomputable def g52_1 : Array Oper := regAt Go.Proofs.Try.f52 1
theorem k52_1 : guardsOk g52_1 = true := nr (by kernel_rfl)
@[go_sem] theorem x52_1 {h : Hd} {ro nt id : Nat} {fr : PT} {H : Hp} : ex cx h ro 52 nt (.region id g52_1 false) fr H = xbind (xrun cx h ro 52 nt g52_1 [(some 5, (.assign (.const (.int .i64 0))), none)] fr H) fun p => some (.normal, p.1, p.2) := x_region _ k52_1 (nr (by kernel_rfl))
@[go_sem] theorem t52_1 (d : Tmp) : takes g52_1 d = false := nr (by kernel_rfl)
noncomputable def g52_2 : Array Oper := regAt Go.Proofs.Try.f52 2
theorem k52_2 : guardsOk g52_2 = true := nr (by kernel_rfl)
@[go_sem] theorem x52_2 {h : Hd} {ro nt id : Nat} {fr : PT} {H : Hp} : ex cx h ro 52 nt (.region id g52_2 false) fr H = xbind (xrun cx h ro 52 nt g52_2 [(some 7, (.move (.tmp 5)), none), (some 8, (.move (.tmp 0)), none), (some 9, (.call ⟨(.builtin .len), #[(.tmp 8)], #[56]⟩), none), (some 10, (.binOp .leq 3 (.tmp 7) (.tmp 9) 3), none)] fr H) fun p => some (.normal, p.1, p.2) := x_region _ k52_2 (nr (by kernel_rfl))
@[go_sem] theorem t52_2 (d : Tmp) : takes g52_2 d = false := nr (by kernel_rfl)
noncomputable def g52_3 : Array Oper := regAt Go.Proofs.Try.f52 3
theorem k52_3 : guardsOk g52_3 = true := nr (by kernel_rfl)
@[go_sem] theorem x52_3 {h : Hd} {ro nt id : Nat} {fr : PT} {H : Hp} : ex cx h ro 52 nt (.region id g52_3 false) fr H = xbind (xrun cx h ro 52 nt g52_3 [(some 13, (.fieldAddr 61 (.tmp 3) 0), none), (some 14, (.load 3 (.tmp 13)), none), (some 15, (.binOp .lss 3 (.tmp 14) (.const (.int .i64 0)) 3), none), (some 16, (.move (.tmp 15)), none), (some 17, (.fieldAddr 61 (.tmp 3) 0), some (16, false)), (some 18, (.load 3 (.tmp 17)), some (16, false)), (some 19, (.move (.tmp 0)), some (16, false)), (some 20, (.call ⟨(.builtin .len), #[(.tmp 19)], #[56]⟩), some (16, false)), (some 21, (.binOp .geq 3 (.tmp 18) (.tmp 20) 3), some (16, false)), (some 22, (.pick (.tmp 16) (.const (.bool true)) (.tmp 21)), none)] fr H) fun p => some (.normal, p.1, p.2) := x_region _ k52_3 (nr (by kernel_rfl))
@[go_sem] theorem t52_3 (d : Tmp) : takes g52_3 d = false := nr (by kernel_rfl)
noncomputable def g52_4 : Array Oper := regAt Go.Proofs.Try.f52 4
theorem k52_4 : guardsOk g52_4 = true := nr (by kernel_rfl)
@[go_sem] theorem x52_4 {h : Hd} {ro nt id : Nat} {fr : PT} {H : Hp} : ex cx h ro 52 nt (.region id g52_4 false) fr H = xbind (xrun cx h ro 52 nt g52_4 [(some 23, (.build 61 #[(0, (.const (.int .i64 (-1))))]), none), (none, (.store 61 (.tmp 4) (.tmp 23)), none)] fr H) fun p => some (.normal, p.1, p.2) := x_region _ k52_4 (nr (by kernel_rfl))
@[go_sem] theorem t52_4 (d : Tmp) : takes g52_4 d = false := nr (by kernel_rfl)
noncomputable def g52_5 : Array Oper := regAt Go.Proofs.Try.f52 5
theorem k52_5 : guardsOk g52_5 = true := nr (by kernel_rfl)
@[go_sem] theorem x52_5 {h : Hd} {ro nt id : Nat} {fr : PT} {H : Hp} : ex cx h ro 52 nt (.region id g52_5 false) fr H = xbind (xrun cx h ro 52 nt g52_5 [(some 24, (.move (.tmp 0)), none), (some 25, (.fieldAddr 61 (.tmp 3) 0), none), (some 26, (.load 3 (.tmp 25)), none), (some 27, (.indexAddr 56 (.tmp 24) (.tmp 26)), none), (some 28, (.load 66 (.tmp 27)), none), (some 6, (.alloc 66), none), (none, (.store 66 (.tmp 6) (.tmp 28)), none)] fr H) fun p => some (.normal, p.1, p.2) := x_region _ k52_5 (nr (by kernel_rfl))
@[go_sem] theorem t52_5 (d : Tmp) : takes g52_5 d = false := nr (by kernel_rfl)
noncomputable def g52_6 : Array Oper := regAt Go.Proofs.Try.f52 6
theorem k52_6 : guardsOk g52_6 = true := nr (by kernel_rfl)
@[go_sem] theorem x52_6 {h : Hd} {ro nt id : Nat} {fr : PT} {H : Hp} : ex cx h ro 52 nt (.region id g52_6 false) fr H = xbind (xrun cx h ro 52 nt g52_6 [(some 29, (.fieldAddr 66 (.tmp 6) 0), none), (some 30, (.load 3 (.tmp 29)), none), (some 31, (.binOp .neq 3 (.tmp 30) (.const (.int .i64 5)) 3), none)] fr H) fun p => some (.normal, p.1, p.2) := x_region _ k52_6 (nr (by kernel_rfl))
@[go_sem] theorem t52_6 (d : Tmp) : takes g52_6 d = false := nr (by kernel_rfl)
noncomputable def g52_7 : Array Oper := regAt Go.Proofs.Try.f52 7
theorem k52_7 : guardsOk g52_7 = true := nr (by kernel_rfl)
@[go_sem] theorem x52_7 {h : Hd} {ro nt id : Nat} {fr : PT} {H : Hp} : ex cx h ro 52 nt (.region id g52_7 false) fr H = xbind (xrun cx h ro 52 nt g52_7 [(some 32, (.load 61 (.tmp 3)), none), (none, (.store 61 (.tmp 4) (.tmp 32)), none)] fr H) fun p => some (.normal, p.1, p.2) := x_region _ k52_7 (nr (by kernel_rfl))
@[go_sem] theorem t52_7 (d : Tmp) : takes g52_7 d = false := nr (by kernel_rfl)
noncomputable def g52_8 : Array Oper := regAt Go.Proofs.Try.f52 8
theorem k52_8 : guardsOk g52_8 = true := nr (by kernel_rfl)
@[go_sem] theorem x52_8 {h : Hd} {ro nt id : Nat} {fr : PT} {H : Hp} : ex cx h ro 52 nt (.region id g52_8 false) fr H = xbind (xrun cx h ro 52 nt g52_8 [(some 33, (.fieldAddr 66 (.tmp 6) 4), none), (some 34, (.load 64 (.tmp 33)), none), (some 35, (.call ⟨(.builtin .len), #[(.tmp 34)], #[64]⟩), none), (some 36, (.binOp .neq 3 (.tmp 35) (.const (.int .i64 1)) 3), none)] fr H) fun p => some (.normal, p.1, p.2) := x_region _ k52_8 (nr (by kernel_rfl))
@[go_sem] theorem t52_8 (d : Tmp) : takes g52_8 d = false := nr (by kernel_rfl)
noncomputable def g52_9 : Array Oper := regAt Go.Proofs.Try.f52 9
theorem k52_9 : guardsOk g52_9 = true := nr (by kernel_rfl)
@[go_sem] theorem x52_9 {h : Hd} {ro nt id : Nat} {fr : PT} {H : Hp} : ex cx h ro 52 nt (.region id g52_9 false) fr H = xbind (xrun cx h ro 52 nt g52_9 [(some 37, (.build 61 #[(0, (.const (.int .i64 (-1))))]), none), (none, (.store 61 (.tmp 4) (.tmp 37)), none)] fr H) fun p => some (.normal, p.1, p.2) := x_region _ k52_9 (nr (by kernel_rfl))
@[go_sem] theorem t52_9 (d : Tmp) : takes g52_9 d = false := nr (by kernel_rfl)
noncomputable def g52_10 : Array Oper := regAt Go.Proofs.Try.f52 10
theorem k52_10 : guardsOk g52_10 = true := nr (by kernel_rfl)
@[go_sem] theorem x52_10 {h : Hd} {ro nt id : Nat} {fr : PT} {H : Hp} : ex cx h ro 52 nt (.region id g52_10 true) fr H = orRaw (xrunU cx h ro 52 nt g52_10 H.length [(0, 0, [], (some 38, (.fieldAddr 66 (.tmp 6) 4), none)), (1, 0, [], (some 39, (.load 64 (.tmp 38)), none)), (2, 0, [], (some 40, (.indexAddr 64 (.tmp 39) (.const (.int .i64 0))), none)), (3, 0, [], (some 41, (.fieldAddr 63 (.tmp 40) 0), none)), (4, 0, [], (some 42, (.load 3 (.tmp 41)), none)), (5, 0, [0, 1, 2, 3, 4], (some 43, (.fieldAddr 61 (.tmp 3) 1), none)), (6, 0, [0, 1, 2, 3, 4], (some 44, (.load 3 (.tmp 43)), none)), (7, 0, [0, 1, 2, 3, 4, 5, 6], (some 45, (.fieldAddr 66 (.tmp 6) 4), none)), (8, 0, [0, 1, 2, 3, 4, 5, 6], (some 46, (.load 64 (.tmp 45)), none)), (9, 0, [0, 1, 2, 3, 4, 5, 6], (some 47, (.indexAddr 64 (.tmp 46) (.const (.int .i64 0))), none)), (10, 0, [0, 1, 2, 3, 4, 5, 6], (some 48, (.fieldAddr 63 (.tmp 47) 1), none)), (11, 0, [0, 1, 2, 3, 4, 5, 6], (some 49, (.load 3 (.tmp 48)), none)), (12, 0, [0, 1, 2, 3, 4], (some 50, (.binOp .add 3 (.tmp 44) (.tmp 49) 3), none)), (13, 0, [], (some 51, (.build 61 #[(0, (.tmp 42)), (1, (.tmp 50))]), none)), (14, 0, [], (none, (.store 61 (.tmp 3) (.tmp 51)), none))] fr (H ++ List.replicate 0 .res) []) fun _ => regionRaw cx h ro 52 nt g52_10 fr H := x_regionU _ _ k52_10 (nr (by kernel_rfl)) (nr (by kernel_rfl)) (nr (by kernel_rfl)) (nr (by kernel_rfl))
@[go_sem] theorem t52_10 (d : Tmp) : takes g52_10 d = false := nr (by kernel_rfl)
noncomputable def g52_11 : Array Oper := regAt Go.Proofs.Try.f52 11
theorem k52_11 : guardsOk g52_11 = true := nr (by kernel_rfl)
@[go_sem] theorem x52_11 {h : Hd} {ro nt id : Nat} {fr : PT} {H : Hp} : ex cx h ro 52 nt (.region id g52_11 false) fr H = xbind (xrun cx h ro 52 nt g52_11 [(some 11, (.move (.tmp 5)), none), (some 12, (.binOp .add 3 (.tmp 11) (.const (.int .i64 1)) 3), none), (some 5, (.assign (.tmp 12)), none)] fr H) fun p => some (.normal, p.1, p.2) := x_region _ k52_11 (nr (by kernel_rfl))
@[go_sem] theorem t52_11 (d : Tmp) : takes g52_11 d = false := nr (by kernel_rfl)
noncomputable def g52_12 : Array Oper := regAt Go.Proofs.Try.f52 12
theorem k52_12 : guardsOk g52_12 = true := nr (by kernel_rfl)
@[go_sem] theorem x52_12 {h : Hd} {ro nt id : Nat} {fr : PT} {H : Hp} : ex cx h ro 52 nt (.region id g52_12 false) fr H = xbind (xrun cx h ro 52 nt g52_12 [(some 52, (.build 61 #[(0, (.const (.int .i64 (-1))))]), none), (none, (.store 61 (.tmp 4) (.tmp 52)), none)] fr H) fun p => some (.normal, p.1, p.2) := x_region _ k52_12 (nr (by kernel_rfl))
@[go_sem] theorem t52_12 (d : Tmp) : takes g52_12 d = false := nr (by kernel_rfl)
noncomputable def l52_0 : Code := (.seq (.seq (.region 2 g52_2 false) (.cond (.tmp 10) .skip (.exit 0))) (.seq (.block 1 (.seq (.seq (.region 4 g52_3 false) (.cond (.tmp 22) (.seq (.region 5 g52_4 false) .ret) .skip)) (.seq (.region 6 g52_5 false) (.seq (.seq (.region 7 g52_6 false) (.cond (.tmp 31) (.seq (.region 8 g52_7 false) .ret) .skip)) (.seq (.seq (.region 9 g52_8 false) (.cond (.tmp 36) (.seq (.region 10 g52_9 false) .ret) .skip)) (.region 11 g52_10 true)))))) (.region 3 g52_11 false)))
theorem dl52_0 {ro nt : Nat} {fr : PT} {H : Hp} : (den cx).loop ro 52 nt l52_0 fr H = xbind (ex cx (den cx) ro 52 nt (.seq (.seq (.region 2 g52_2 false) (.cond (.tmp 10) .skip (.exit 0))) (.seq (.block 1 (.seq (.seq (.region 4 g52_3 false) (.cond (.tmp 22) (.seq (.region 5 g52_4 false) .ret) .skip)) (.seq (.region 6 g52_5 false) (.seq (.seq (.region 7 g52_6 false) (.cond (.tmp 31) (.seq (.region 8 g52_7 false) .ret) .skip)) (.seq (.seq (.region 9 g52_8 false) (.cond (.tmp 36) (.seq (.region 10 g52_9 false) .ret) .skip)) (.region 11 g52_10 true)))))) (.region 3 g52_11 false))) fr H) (contR (trimmed ((den cx).loop ro 52 nt l52_0) H.length)) := den_loop_x l52_0
theorem b52 : Go.Proofs.Try.f52.body = some (.seq (.region 0 g52_0 false) (.seq (.seq (.region 1 g52_1 false) (.block 0 (.loop l52_0))) (.seq (.region 12 g52_12 false) .ret))) := by kernel_rfl
theorem c52 {h : Hd} {ro : Nat} {H : Hp} (a0 a1 : AV) : callB cx h ro 52 [a0, a1] H = returned cx [(.cell 4 61)] (ex cx h ro 52 53 (.seq (.region 0 g52_0 false) (.seq (.seq (.region 1 g52_1 false) (.block 0 (.loop l52_0))) (.seq (.region 12 g52_12 false) .ret))) ((PT.nil.set 0 (drp a0)).set 1 (drp a1)) H) := by
  have hf : cx.fns 52 = some Go.Proofs.Try.f52 := by kernel_rfl
  simp only [callB, hf, funced, b52, bodied]
  rfl
end Go.Abs.Tab

/- Codes of this seat's functions, their regions step by step. (Printed by a program.) -/
set_option linter.unusedVariables false
namespace Go.Abs.Tab
/-! function 48: colloquy/graph.Check -/
noncomputable def g48_0 : Array Oper := regAt Go.Proofs.Try.f48 0
theorem k48_0 : guardsOk g48_0 = true := nr (by kernel_rfl)
@[go_sem] theorem x48_0 {h : Hd} {ro nt id : Nat} {fr : PT} {H : Hp} : ex cx h ro 48 nt (.region id g48_0 false) fr H = xbind (xrun cx h ro 48 nt g48_0 [(some 2, (.assign (.const (.int .i64 0))), none), (some 3, (.assign (.const (.int .i64 0))), none)] fr H) fun p => some (.normal, p.1, p.2) := x_region _ k48_0 (nr (by kernel_rfl))
@[go_sem] theorem t48_0 (d : Tmp) : takes g48_0 d = false := nr (by kernel_rfl)
noncomputable def g48_1 : Array Oper := regAt Go.Proofs.Try.f48 1
theorem k48_1 : guardsOk g48_1 = true := nr (by kernel_rfl)
@[go_sem] theorem x48_1 {h : Hd} {ro nt id : Nat} {fr : PT} {H : Hp} : ex cx h ro 48 nt (.region id g48_1 false) fr H = xbind (xrun cx h ro 48 nt g48_1 [(some 12, (.move (.tmp 0)), none), (some 13, (.call ⟨(.builtin .len), #[(.tmp 12)], #[56]⟩), none), (some 14, (.binOp .eql 3 (.tmp 13) (.const (.int .i64 0)) 3), none), (some 11, (.assign (.tmp 14)), none)] fr H) fun p => some (.normal, p.1, p.2) := x_region _ k48_1 (nr (by kernel_rfl))
@[go_sem] theorem t48_1 (d : Tmp) : takes g48_1 d = false := nr (by kernel_rfl)
noncomputable def g48_2 : Array Oper := regAt Go.Proofs.Try.f48 2
theorem k48_2 : guardsOk g48_2 = true := nr (by kernel_rfl)
@[go_sem] theorem x48_2 {h : Hd} {ro nt id : Nat} {fr : PT} {H : Hp} : ex cx h ro 48 nt (.region id g48_2 false) fr H = xbind (xrun cx h ro 48 nt g48_2 [(some 2, (.assign (.const (.int .i64 (-1)))), none), (some 3, (.assign (.const (.int .i64 2))), none)] fr H) fun p => some (.normal, p.1, p.2) := x_region _ k48_2 (nr (by kernel_rfl))
@[go_sem] theorem t48_2 (d : Tmp) : takes g48_2 d = false := nr (by kernel_rfl)
noncomputable def g48_3 : Array Oper := regAt Go.Proofs.Try.f48 3
theorem k48_3 : guardsOk g48_3 = true := nr (by kernel_rfl)
@[go_sem] theorem x48_3 {h : Hd} {ro nt id : Nat} {fr : PT} {H : Hp} : ex cx h ro 48 nt (.region id g48_3 false) fr H = xbind (xrun cx h ro 48 nt g48_3 [(some 16, (.move (.tmp 0)), none), (some 17, (.call ⟨(.builtin .len), #[(.tmp 16)], #[56]⟩), none), (some 18, (.binOp .gtr 3 (.tmp 17) (.const (.int .i64 64)) 3), none), (some 15, (.assign (.tmp 18)), none)] fr H) fun p => some (.normal, p.1, p.2) := x_region _ k48_3 (nr (by kernel_rfl))
@[go_sem] theorem t48_3 (d : Tmp) : takes g48_3 d = false := nr (by kernel_rfl)
noncomputable def g48_4 : Array Oper := regAt Go.Proofs.Try.f48 4
theorem k48_4 : guardsOk g48_4 = true := nr (by kernel_rfl)
@[go_sem] theorem x48_4 {h : Hd} {ro nt id : Nat} {fr : PT} {H : Hp} : ex cx h ro 48 nt (.region id g48_4 false) fr H = xbind (xrun cx h ro 48 nt g48_4 [(some 2, (.assign (.const (.int .i64 (-1)))), none), (some 3, (.assign (.const (.int .i64 4))), none)] fr H) fun p => some (.normal, p.1, p.2) := x_region _ k48_4 (nr (by kernel_rfl))
@[go_sem] theorem t48_4 (d : Tmp) : takes g48_4 d = false := nr (by kernel_rfl)
noncomputable def g48_5 : Array Oper := regAt Go.Proofs.Try.f48 5
theorem k48_5 : guardsOk g48_5 = true := nr (by kernel_rfl)
@[go_sem] theorem x48_5 {h : Hd} {ro nt id : Nat} {fr : PT} {H : Hp} : ex cx h ro 48 nt (.region id g48_5 false) fr H = xbind (xrun cx h ro 48 nt g48_5 [(some 19, (.move (.tmp 0)), none), (some 20, (.call ⟨(.builtin .len), #[(.tmp 19)], #[56]⟩), none), (some 21, (.move (.const (.int .i64 0))), none)] fr H) fun p => some (.normal, p.1, p.2) := x_region _ k48_5 (nr (by kernel_rfl))
@[go_sem] theorem t48_5 (d : Tmp) : takes g48_5 d = false := nr (by kernel_rfl)
noncomputable def g48_6 : Array Oper := regAt Go.Proofs.Try.f48 6
theorem k48_6 : guardsOk g48_6 = true := nr (by kernel_rfl)
@[go_sem] theorem x48_6 {h : Hd} {ro nt id : Nat} {fr : PT} {H : Hp} : ex cx h ro 48 nt (.region id g48_6 false) fr H = xbind (xrun cx h ro 48 nt g48_6 [(some 22, (.binOp .lss 3 (.tmp 21) (.tmp 20) 3), none)] fr H) fun p => some (.normal, p.1, p.2) := x_region _ k48_6 (nr (by kernel_rfl))
@[go_sem] theorem t48_6 (d : Tmp) : takes g48_6 d = false := nr (by kernel_rfl)
noncomputable def g48_7 : Array Oper := regAt Go.Proofs.Try.f48 7
theorem k48_7 : guardsOk g48_7 = true := nr (by kernel_rfl)
@[go_sem] theorem x48_7 {h : Hd} {ro nt id : Nat} {fr : PT} {H : Hp} : ex cx h ro 48 nt (.region id g48_7 false) fr H = xbind (xrun cx h ro 48 nt g48_7 [(some 23, (.move (.tmp 21)), none), (some 24, (.indexAddr 56 (.tmp 19) (.tmp 21)), none), (some 25, (.load 66 (.tmp 24)), none), (some 5, (.alloc 66), none), (some 4, (.assign (.tmp 23)), none), (none, (.store 66 (.tmp 5) (.tmp 25)), none)] fr H) fun p => some (.normal, p.1, p.2) := x_region _ k48_7 (nr (by kernel_rfl))
@[go_sem] theorem t48_7 (d : Tmp) : takes g48_7 d = false := nr (by kernel_rfl)
noncomputable def g48_8 : Array Oper := regAt Go.Proofs.Try.f48 8
theorem k48_8 : guardsOk g48_8 = true := nr (by kernel_rfl)
@[go_sem] theorem x48_8 {h : Hd} {ro nt id : Nat} {fr : PT} {H : Hp} : ex cx h ro 48 nt (.region id g48_8 false) fr H = xbind (xrun cx h ro 48 nt g48_8 [(some 26, (.load 66 (.tmp 5)), none), (some 27, (.call ⟨(.value (.func 116)), #[(.tmp 26)], #[66]⟩), none), (some 28, (.unOp .not 4 (.tmp 27)), none)] fr H) fun p => some (.normal, p.1, p.2) := x_region _ k48_8 (nr (by kernel_rfl))
@[go_sem] theorem t48_8 (d : Tmp) : takes g48_8 d = false := nr (by kernel_rfl)
noncomputable def g48_9 : Array Oper := regAt Go.Proofs.Try.f48 9
theorem k48_9 : guardsOk g48_9 = true := nr (by kernel_rfl)
@[go_sem] theorem x48_9 {h : Hd} {ro nt id : Nat} {fr : PT} {H : Hp} : ex cx h ro 48 nt (.region id g48_9 false) fr H = xbind (xrun cx h ro 48 nt g48_9 [(some 29, (.move (.tmp 4)), none), (some 2, (.assign (.tmp 29)), none), (some 3, (.assign (.const (.int .i64 7))), none)] fr H) fun p => some (.normal, p.1, p.2) := x_region _ k48_9 (nr (by kernel_rfl))
@[go_sem] theorem t48_9 (d : Tmp) : takes g48_9 d = false := nr (by kernel_rfl)
noncomputable def g48_10 : Array Oper := regAt Go.Proofs.Try.f48 10
theorem k48_10 : guardsOk g48_10 = true := nr (by kernel_rfl)
@[go_sem] theorem x48_10 {h : Hd} {ro nt id : Nat} {fr : PT} {H : Hp} : ex cx h ro 48 nt (.region id g48_10 false) fr H = xbind (xrun cx h ro 48 nt g48_10 [(some 30, (.load 66 (.tmp 5)), none), (some 31, (.call ⟨(.value (.func 117)), #[(.tmp 30)], #[66]⟩), none), (some 32, (.call ⟨(.builtin .len), #[(.tmp 31)], #[64]⟩), none), (some 33, (.move (.const (.int .i64 0))), none)] fr H) fun p => some (.normal, p.1, p.2) := x_region _ k48_10 (nr (by kernel_rfl))
@[go_sem] theorem t48_10 (d : Tmp) : takes g48_10 d = false := nr (by kernel_rfl)
noncomputable def g48_11 : Array Oper := regAt Go.Proofs.Try.f48 11
theorem k48_11 : guardsOk g48_11 = true := nr (by kernel_rfl)
@[go_sem] theorem x48_11 {h : Hd} {ro nt id : Nat} {fr : PT} {H : Hp} : ex cx h ro 48 nt (.region id g48_11 false) fr H = xbind (xrun cx h ro 48 nt g48_11 [(some 34, (.binOp .lss 3 (.tmp 33) (.tmp 32) 3), none)] fr H) fun p => some (.normal, p.1, p.2) := x_region _ k48_11 (nr (by kernel_rfl))
@[go_sem] theorem t48_11 (d : Tmp) : takes g48_11 d = false := nr (by kernel_rfl)
noncomputable def g48_12 : Array Oper := regAt Go.Proofs.Try.f48 12
theorem k48_12 : guardsOk g48_12 = true := nr (by kernel_rfl)
@[go_sem] theorem x48_12 {h : Hd} {ro nt id : Nat} {fr : PT} {H : Hp} : ex cx h ro 48 nt (.region id g48_12 false) fr H = xbind (xrun cx h ro 48 nt g48_12 [(some 35, (.indexAddr 64 (.tmp 31) (.tmp 33)), none), (some 36, (.load 63 (.tmp 35)), none), (some 7, (.alloc 63), none), (none, (.store 63 (.tmp 7) (.tmp 36)), none)] fr H) fun p => some (.normal, p.1, p.2) := x_region _ k48_12 (nr (by kernel_rfl))
@[go_sem] theorem t48_12 (d : Tmp) : takes g48_12 d = false := nr (by kernel_rfl)
noncomputable def g48_13 : Array Oper := regAt Go.Proofs.Try.f48 13
theorem k48_13 : guardsOk g48_13 = true := nr (by kernel_rfl)
@[go_sem] theorem x48_13 {h : Hd} {ro nt id : Nat} {fr : PT} {H : Hp} : ex cx h ro 48 nt (.region id g48_13 false) fr H = xbind (xrun cx h ro 48 nt g48_13 [(some 37, (.fieldAddr 63 (.tmp 7) 0), none), (some 38, (.load 3 (.tmp 37)), none), (some 39, (.move (.tmp 0)), none), (some 40, (.call ⟨(.builtin .len), #[(.tmp 39)], #[56]⟩), none), (some 41, (.binOp .sub 3 (.tmp 40) (.const (.int .i64 1)) 3), none), (some 42, (.call ⟨(.value (.func 118)), #[(.tmp 38), (.tmp 41)], #[3, 3]⟩), none)] fr H) fun p => some (.normal, p.1, p.2) := x_region _ k48_13 (nr (by kernel_rfl))
@[go_sem] theorem t48_13 (d : Tmp) : takes g48_13 d = false := nr (by kernel_rfl)
noncomputable def g48_14 : Array Oper := regAt Go.Proofs.Try.f48 14
theorem k48_14 : guardsOk g48_14 = true := nr (by kernel_rfl)
@[go_sem] theorem x48_14 {h : Hd} {ro nt id : Nat} {fr : PT} {H : Hp} : ex cx h ro 48 nt (.region id g48_14 false) fr H = xbind (xrun cx h ro 48 nt g48_14 [(some 43, (.move (.tmp 4)), none), (some 2, (.assign (.tmp 43)), none), (some 3, (.assign (.const (.int .i64 8))), none)] fr H) fun p => some (.normal, p.1, p.2) := x_region _ k48_14 (nr (by kernel_rfl))
@[go_sem] theorem t48_14 (d : Tmp) : takes g48_14 d = false := nr (by kernel_rfl)
noncomputable def g48_15 : Array Oper := regAt Go.Proofs.Try.f48 15
theorem k48_15 : guardsOk g48_15 = true := nr (by kernel_rfl)
@[go_sem] theorem x48_15 {h : Hd} {ro nt id : Nat} {fr : PT} {H : Hp} : ex cx h ro 48 nt (.region id g48_15 false) fr H = xbind (xrun cx h ro 48 nt g48_15 [(some 44, (.binOp .add 3 (.tmp 33) (.const (.int .i64 1)) 3), none), (some 33, (.move (.tmp 44)), none)] fr H) fun p => some (.normal, p.1, p.2) := x_region _ k48_15 (nr (by kernel_rfl))
@[go_sem] theorem t48_15 (d : Tmp) : takes g48_15 d = false := nr (by kernel_rfl)
noncomputable def g48_16 : Array Oper := regAt Go.Proofs.Try.f48 16
theorem k48_16 : guardsOk g48_16 = true := nr (by kernel_rfl)
@[go_sem] theorem x48_16 {h : Hd} {ro nt id : Nat} {fr : PT} {H : Hp} : ex cx h ro 48 nt (.region id g48_16 false) fr H = xbind (xrun cx h ro 48 nt g48_16 [(some 45, (.binOp .add 3 (.tmp 21) (.const (.int .i64 1)) 3), none), (some 21, (.move (.tmp 45)), none)] fr H) fun p => some (.normal, p.1, p.2) := x_region _ k48_16 (nr (by kernel_rfl))
@[go_sem] theorem t48_16 (d : Tmp) : takes g48_16 d = false := nr (by kernel_rfl)
noncomputable def g48_17 : Array Oper := regAt Go.Proofs.Try.f48 17
theorem k48_17 : guardsOk g48_17 = true := nr (by kernel_rfl)
@[go_sem] theorem x48_17 {h : Hd} {ro nt id : Nat} {fr : PT} {H : Hp} : ex cx h ro 48 nt (.region id g48_17 false) fr H = xbind (xrun cx h ro 48 nt g48_17 [(some 46, (.move (.tmp 3)), none), (some 47, (.binOp .neq 27 (.tmp 46) (.const (.int .i64 0)) 27), none)] fr H) fun p => some (.normal, p.1, p.2) := x_region _ k48_17 (nr (by kernel_rfl))
@[go_sem] theorem t48_17 (d : Tmp) : takes g48_17 d = false := nr (by kernel_rfl)
noncomputable def g48_18 : Array Oper := regAt Go.Proofs.Try.f48 18
theorem k48_18 : guardsOk g48_18 = true := nr (by kernel_rfl)
@[go_sem] theorem x48_18 {h : Hd} {ro nt id : Nat} {fr : PT} {H : Hp} : ex cx h ro 48 nt (.region id g48_18 false) fr H = xbind (xrun cx h ro 48 nt g48_18 [(some 48, (.move (.tmp 2)), none), (some 49, (.move (.tmp 3)), none), (some 2, (.assign (.tmp 48)), none), (some 3, (.assign (.tmp 49)), none)] fr H) fun p => some (.normal, p.1, p.2) := x_region _ k48_18 (nr (by kernel_rfl))
@[go_sem] theorem t48_18 (d : Tmp) : takes g48_18 d = false := nr (by kernel_rfl)
noncomputable def g48_19 : Array Oper := regAt Go.Proofs.Try.f48 19
theorem k48_19 : guardsOk g48_19 = true := nr (by kernel_rfl)
@[go_sem] theorem x48_19 {h : Hd} {ro nt id : Nat} {fr : PT} {H : Hp} : ex cx h ro 48 nt (.region id g48_19 false) fr H = xbind (xrun cx h ro 48 nt g48_19 [(some 50, (.move (.tmp 0)), none), (some 51, (.call ⟨(.builtin .len), #[(.tmp 50)], #[56]⟩), none), (some 52, (.move (.const (.int .i64 0))), none)] fr H) fun p => some (.normal, p.1, p.2) := x_region _ k48_19 (nr (by kernel_rfl))
@[go_sem] theorem t48_19 (d : Tmp) : takes g48_19 d = false := nr (by kernel_rfl)
noncomputable def g48_20 : Array Oper := regAt Go.Proofs.Try.f48 20
theorem k48_20 : guardsOk g48_20 = true := nr (by kernel_rfl)
@[go_sem] theorem x48_20 {h : Hd} {ro nt id : Nat} {fr : PT} {H : Hp} : ex cx h ro 48 nt (.region id g48_20 false) fr H = xbind (xrun cx h ro 48 nt g48_20 [(some 53, (.binOp .lss 3 (.tmp 52) (.tmp 51) 3), none)] fr H) fun p => some (.normal, p.1, p.2) := x_region _ k48_20 (nr (by kernel_rfl))
@[go_sem] theorem t48_20 (d : Tmp) : takes g48_20 d = false := nr (by kernel_rfl)
noncomputable def g48_21 : Array Oper := regAt Go.Proofs.Try.f48 21
theorem k48_21 : guardsOk g48_21 = true := nr (by kernel_rfl)
@[go_sem] theorem x48_21 {h : Hd} {ro nt id : Nat} {fr : PT} {H : Hp} : ex cx h ro 48 nt (.region id g48_21 false) fr H = xbind (xrun cx h ro 48 nt g48_21 [(some 54, (.move (.tmp 52)), none), (some 8, (.assign (.tmp 54)), none)] fr H) fun p => some (.normal, p.1, p.2) := x_region _ k48_21 (nr (by kernel_rfl))
@[go_sem] theorem t48_21 (d : Tmp) : takes g48_21 d = false := nr (by kernel_rfl)
noncomputable def g48_22 : Array Oper := regAt Go.Proofs.Try.f48 22
theorem k48_22 : guardsOk g48_22 = true := nr (by kernel_rfl)
@[go_sem] theorem x48_22 {h : Hd} {ro nt id : Nat} {fr : PT} {H : Hp} : ex cx h ro 48 nt (.region id g48_22 false) fr H = xbind (xrun cx h ro 48 nt g48_22 [(some 55, (.move (.tmp 0)), none), (some 56, (.move (.tmp 8)), none), (some 57, (.build 61 #[(0, (.tmp 56))]), none), (some 58, (.call ⟨(.value (.func 119)), #[(.tmp 55), (.tmp 57)], #[56, 61]⟩), none)] fr H) fun p => some (.normal, p.1, p.2) := x_region _ k48_22 (nr (by kernel_rfl))
@[go_sem] theorem t48_22 (d : Tmp) : takes g48_22 d = false := nr (by kernel_rfl)
noncomputable def g48_23 : Array Oper := regAt Go.Proofs.Try.f48 23
theorem k48_23 : guardsOk g48_23 = true := nr (by kernel_rfl)
@[go_sem] theorem x48_23 {h : Hd} {ro nt id : Nat} {fr : PT} {H : Hp} : ex cx h ro 48 nt (.region id g48_23 false) fr H = xbind (xrun cx h ro 48 nt g48_23 [(some 10, (.alloc 66), none), (none, (.store 66 (.tmp 10) (.tmp 60)), none)] fr H) fun p => some (.normal, p.1, p.2) := x_region _ k48_23 (nr (by kernel_rfl))
@[go_sem] theorem t48_23 (d : Tmp) : takes g48_23 d = false := nr (by kernel_rfl)
noncomputable def g48_24 : Array Oper := regAt Go.Proofs.Try.f48 24
theorem k48_24 : guardsOk g48_24 = true := nr (by kernel_rfl)
@[go_sem] theorem x48_24 {h : Hd} {ro nt id : Nat} {fr : PT} {H : Hp} : ex cx h ro 48 nt (.region id g48_24 false) fr H = xbind (xrun cx h ro 48 nt g48_24 [(some 61, (.fieldAddr 66 (.tmp 10) 0), none), (some 62, (.load 3 (.tmp 61)), none), (some 63, (.binOp .neq 3 (.tmp 62) (.const (.int .i64 5)) 3), none)] fr H) fun p => some (.normal, p.1, p.2) := x_region _ k48_24 (nr (by kernel_rfl))
@[go_sem] theorem t48_24 (d : Tmp) : takes g48_24 d = false := nr (by kernel_rfl)
noncomputable def g48_25 : Array Oper := regAt Go.Proofs.Try.f48 25
theorem k48_25 : guardsOk g48_25 = true := nr (by kernel_rfl)
@[go_sem] theorem x48_25 {h : Hd} {ro nt id : Nat} {fr : PT} {H : Hp} : ex cx h ro 48 nt (.region id g48_25 false) fr H = xbind (xrun cx h ro 48 nt g48_25 [(some 64, (.move (.tmp 8)), none), (some 2, (.assign (.tmp 64)), none), (some 3, (.assign (.const (.int .i64 9))), none)] fr H) fun p => some (.normal, p.1, p.2) := x_region _ k48_25 (nr (by kernel_rfl))
@[go_sem] theorem t48_25 (d : Tmp) : takes g48_25 d = false := nr (by kernel_rfl)
noncomputable def g48_26 : Array Oper := regAt Go.Proofs.Try.f48 26
theorem k48_26 : guardsOk g48_26 = true := nr (by kernel_rfl)
@[go_sem] theorem x48_26 {h : Hd} {ro nt id : Nat} {fr : PT} {H : Hp} : ex cx h ro 48 nt (.region id g48_26 false) fr H = xbind (xrun cx h ro 48 nt g48_26 [(some 65, (.binOp .add 3 (.tmp 52) (.const (.int .i64 1)) 3), none), (some 52, (.move (.tmp 65)), none)] fr H) fun p => some (.normal, p.1, p.2) := x_region _ k48_26 (nr (by kernel_rfl))
@[go_sem] theorem t48_26 (d : Tmp) : takes g48_26 d = false := nr (by kernel_rfl)
noncomputable def g48_27 : Array Oper := regAt Go.Proofs.Try.f48 27
theorem k48_27 : guardsOk g48_27 = true := nr (by kernel_rfl)
@[go_sem] theorem x48_27 {h : Hd} {ro nt id : Nat} {fr : PT} {H : Hp} : ex cx h ro 48 nt (.region id g48_27 false) fr H = xbind (xrun cx h ro 48 nt g48_27 [(some 2, (.assign (.const (.int .i64 (-1)))), none), (some 3, (.assign (.const (.int .i64 0))), none)] fr H) fun p => some (.normal, p.1, p.2) := x_region _ k48_27 (nr (by kernel_rfl))
@[go_sem] theorem t48_27 (d : Tmp) : takes g48_27 d = false := nr (by kernel_rfl)
noncomputable def l48_0 : Code := (.seq (.region 11 g48_11 false) (.seq (.cond (.tmp 34) .skip (.exit 3)) (.seq (.block 4 (.seq (.region 12 g48_12 false) (.seq (.seq (.region 13 g48_13 false) (.cond (.tmp 42) (.exit 4) .skip)) (.seq (.region 14 g48_14 false) (.exit 1))))) (.region 15 g48_15 false))))
theorem dl48_0 {ro nt : Nat} {fr : PT} {H : Hp} : (den cx).loop ro 48 nt l48_0 fr H = xbind (ex cx (den cx) ro 48 nt (.seq (.region 11 g48_11 false) (.seq (.cond (.tmp 34) .skip (.exit 3)) (.seq (.block 4 (.seq (.region 12 g48_12 false) (.seq (.seq (.region 13 g48_13 false) (.cond (.tmp 42) (.exit 4) .skip)) (.seq (.region 14 g48_14 false) (.exit 1))))) (.region 15 g48_15 false)))) fr H) (contR (trimmed ((den cx).loop ro 48 nt l48_0) H.length)) := den_loop_x l48_0
noncomputable def l48_1 : Code := (.seq (.region 6 g48_6 false) (.seq (.cond (.tmp 22) .skip (.exit 1)) (.seq (.block 2 (.seq (.region 7 g48_7 false) (.seq (.seq (.region 8 g48_8 false) (.cond (.tmp 28) (.seq (.region 9 g48_9 false) .ret) .skip)) (.seq (.region 10 g48_10 false) (.block 3 (.loop l48_0)))))) (.region 16 g48_16 false))))
theorem dl48_1 {ro nt : Nat} {fr : PT} {H : Hp} : (den cx).loop ro 48 nt l48_1 fr H = xbind (ex cx (den cx) ro 48 nt (.seq (.region 6 g48_6 false) (.seq (.cond (.tmp 22) .skip (.exit 1)) (.seq (.block 2 (.seq (.region 7 g48_7 false) (.seq (.seq (.region 8 g48_8 false) (.cond (.tmp 28) (.seq (.region 9 g48_9 false) .ret) .skip)) (.seq (.region 10 g48_10 false) (.block 3 (.loop l48_0)))))) (.region 16 g48_16 false)))) fr H) (contR (trimmed ((den cx).loop ro 48 nt l48_1) H.length)) := den_loop_x l48_1
noncomputable def q48_2 : Code := (.region 23 g48_23 false)
noncomputable def r48_2 : Code := (.block 8 (.seq (.region 24 g48_24 false) (.cond (.tmp 63) (.exit 6) .skip)))
noncomputable def l48_3 : Code := (.seq (.region 20 g48_20 false) (.seq (.cond (.tmp 53) .skip (.exit 5)) (.seq (.block 6 (.seq (.region 21 g48_21 false) (.seq (.seq (.region 22 g48_22 false) (.block 7 (.rangeFunc (.tmp 58) #[59, 60] q48_2 r48_2))) (.seq (.region 25 g48_25 false) .ret)))) (.region 26 g48_26 false))))
theorem dl48_3 {ro nt : Nat} {fr : PT} {H : Hp} : (den cx).loop ro 48 nt l48_3 fr H = xbind (ex cx (den cx) ro 48 nt (.seq (.region 20 g48_20 false) (.seq (.cond (.tmp 53) .skip (.exit 5)) (.seq (.block 6 (.seq (.region 21 g48_21 false) (.seq (.seq (.region 22 g48_22 false) (.block 7 (.rangeFunc (.tmp 58) #[59, 60] q48_2 r48_2))) (.seq (.region 25 g48_25 false) .ret)))) (.region 26 g48_26 false)))) fr H) (contR (trimmed ((den cx).loop ro 48 nt l48_3) H.length)) := den_loop_x l48_3
theorem b48 : Go.Proofs.Try.f48.body = some (.seq (.region 0 g48_0 false) (.scope (.seq (.block 0 (.seq (.region 1 g48_1 false) (.cond (.tmp 11) (.seq (.region 2 g48_2 false) .ret) (.seq (.region 3 g48_3 false) (.cond (.tmp 15) (.seq (.region 4 g48_4 false) .ret) .skip))))) (.seq (.label 0) (.seq (.seq (.region 5 g48_5 false) (.block 1 (.loop l48_1))) (.seq (.seq (.region 17 g48_17 false) (.cond (.tmp 47) (.seq (.region 18 g48_18 false) .ret) .skip)) (.seq (.label 1) (.seq (.seq (.region 19 g48_19 false) (.block 5 (.loop l48_3))) (.seq (.region 27 g48_27 false) .ret))))))))) := by kernel_rfl
theorem c48 {h : Hd} {ro : Nat} {H : Hp} (a0 : AV) : callB cx h ro 48 [a0] H = returned cx [(.tmp 2), (.tmp 3)] (ex cx h ro 48 66 (.seq (.region 0 g48_0 false) (.scope (.seq (.block 0 (.seq (.region 1 g48_1 false) (.cond (.tmp 11) (.seq (.region 2 g48_2 false) .ret) (.seq (.region 3 g48_3 false) (.cond (.tmp 15) (.seq (.region 4 g48_4 false) .ret) .skip))))) (.seq (.label 0) (.seq (.seq (.region 5 g48_5 false) (.block 1 (.loop l48_1))) (.seq (.seq (.region 17 g48_17 false) (.cond (.tmp 47) (.seq (.region 18 g48_18 false) .ret) .skip)) (.seq (.label 1) (.seq (.seq (.region 19 g48_19 false) (.block 5 (.loop l48_3))) (.seq (.region 27 g48_27 false) .ret))))))))) (PT.nil.set 0 (drp a0)) H) := by
  have hf : cx.fns 48 = some Go.Proofs.Try.f48 := by kernel_rfl
  simp only [callB, hf, funced, b48, bodied]
  rfl
/-! function 49: colloquy/colloquyref04.Check -/
noncomputable def g49_0 : Array Oper := regAt Go.Proofs.Try.f49 0
theorem k49_0 : guardsOk g49_0 = true := nr (by kernel_rfl)
@[go_sem] theorem x49_0 {h : Hd} {ro nt id : Nat} {fr : PT} {H : Hp} : ex cx h ro 49 nt (.region id g49_0 false) fr H = xbind (xrun cx h ro 49 nt g49_0 [(some 2, (.assign (.const (.int .i64 0))), none), (some 3, (.assign (.const (.int .i64 0))), none)] fr H) fun p => some (.normal, p.1, p.2) := x_region _ k49_0 (nr (by kernel_rfl))
@[go_sem] theorem t49_0 (d : Tmp) : takes g49_0 d = false := nr (by kernel_rfl)
noncomputable def g49_1 : Array Oper := regAt Go.Proofs.Try.f49 1
theorem k49_1 : guardsOk g49_1 = true := nr (by kernel_rfl)
@[go_sem] theorem x49_1 {h : Hd} {ro nt id : Nat} {fr : PT} {H : Hp} : ex cx h ro 49 nt (.region id g49_1 false) fr H = xbind (xrun cx h ro 49 nt g49_1 [(some 6, (.move (.tmp 0)), none), (some 7, (.call ⟨(.builtin .len), #[(.tmp 6)], #[56]⟩), none), (some 8, (.binOp .eql 3 (.tmp 7) (.const (.int .i64 0)) 3), none)] fr H) fun p => some (.normal, p.1, p.2) := x_region _ k49_1 (nr (by kernel_rfl))
@[go_sem] theorem t49_1 (d : Tmp) : takes g49_1 d = false := nr (by kernel_rfl)
noncomputable def g49_2 : Array Oper := regAt Go.Proofs.Try.f49 2
theorem k49_2 : guardsOk g49_2 = true := nr (by kernel_rfl)
@[go_sem] theorem x49_2 {h : Hd} {ro nt id : Nat} {fr : PT} {H : Hp} : ex cx h ro 49 nt (.region id g49_2 false) fr H = xbind (xrun cx h ro 49 nt g49_2 [(some 2, (.assign (.const (.int .i64 (-1)))), none), (some 3, (.assign (.const (.int .i64 2))), none)] fr H) fun p => some (.normal, p.1, p.2) := x_region _ k49_2 (nr (by kernel_rfl))
@[go_sem] theorem t49_2 (d : Tmp) : takes g49_2 d = false := nr (by kernel_rfl)
noncomputable def g49_3 : Array Oper := regAt Go.Proofs.Try.f49 3
theorem k49_3 : guardsOk g49_3 = true := nr (by kernel_rfl)
@[go_sem] theorem x49_3 {h : Hd} {ro nt id : Nat} {fr : PT} {H : Hp} : ex cx h ro 49 nt (.region id g49_3 false) fr H = xbind (xrun cx h ro 49 nt g49_3 [(some 9, (.move (.tmp 0)), none), (some 10, (.call ⟨(.builtin .len), #[(.tmp 9)], #[56]⟩), none), (some 11, (.binOp .gtr 3 (.tmp 10) (.const (.int .i64 64)) 3), none)] fr H) fun p => some (.normal, p.1, p.2) := x_region _ k49_3 (nr (by kernel_rfl))
@[go_sem] theorem t49_3 (d : Tmp) : takes g49_3 d = false := nr (by kernel_rfl)
noncomputable def g49_4 : Array Oper := regAt Go.Proofs.Try.f49 4
theorem k49_4 : guardsOk g49_4 = true := nr (by kernel_rfl)
@[go_sem] theorem x49_4 {h : Hd} {ro nt id : Nat} {fr : PT} {H : Hp} : ex cx h ro 49 nt (.region id g49_4 false) fr H = xbind (xrun cx h ro 49 nt g49_4 [(some 2, (.assign (.const (.int .i64 (-1)))), none), (some 3, (.assign (.const (.int .i64 4))), none)] fr H) fun p => some (.normal, p.1, p.2) := x_region _ k49_4 (nr (by kernel_rfl))
@[go_sem] theorem t49_4 (d : Tmp) : takes g49_4 d = false := nr (by kernel_rfl)
noncomputable def g49_5 : Array Oper := regAt Go.Proofs.Try.f49 5
theorem k49_5 : guardsOk g49_5 = true := nr (by kernel_rfl)
@[go_sem] theorem x49_5 {h : Hd} {ro nt id : Nat} {fr : PT} {H : Hp} : ex cx h ro 49 nt (.region id g49_5 false) fr H = xbind (xrun cx h ro 49 nt g49_5 [(some 4, (.assign (.const (.int .i64 0))), none)] fr H) fun p => some (.normal, p.1, p.2) := x_region _ k49_5 (nr (by kernel_rfl))
@[go_sem] theorem t49_5 (d : Tmp) : takes g49_5 d = false := nr (by kernel_rfl)
noncomputable def g49_6 : Array Oper := regAt Go.Proofs.Try.f49 6
theorem k49_6 : guardsOk g49_6 = true := nr (by kernel_rfl)
@[go_sem] theorem x49_6 {h : Hd} {ro nt id : Nat} {fr : PT} {H : Hp} : ex cx h ro 49 nt (.region id g49_6 false) fr H = xbind (xrun cx h ro 49 nt g49_6 [(some 12, (.move (.tmp 4)), none), (some 13, (.move (.tmp 0)), none), (some 14, (.call ⟨(.builtin .len), #[(.tmp 13)], #[56]⟩), none), (some 15, (.binOp .lss 3 (.tmp 12) (.tmp 14) 3), none)] fr H) fun p => some (.normal, p.1, p.2) := x_region _ k49_6 (nr (by kernel_rfl))
@[go_sem] theorem t49_6 (d : Tmp) : takes g49_6 d = false := nr (by kernel_rfl)
noncomputable def g49_7 : Array Oper := regAt Go.Proofs.Try.f49 7
theorem k49_7 : guardsOk g49_7 = true := nr (by kernel_rfl)
@[go_sem] theorem x49_7 {h : Hd} {ro nt id : Nat} {fr : PT} {H : Hp} : ex cx h ro 49 nt (.region id g49_7 false) fr H = xbind (xrun cx h ro 49 nt g49_7 [(some 18, (.move (.tmp 0)), none), (some 19, (.move (.tmp 4)), none), (some 20, (.indexAddr 56 (.tmp 18) (.tmp 19)), none), (some 21, (.load 66 (.tmp 20)), none), (some 22, (.call ⟨(.value (.func 120)), #[(.tmp 21)], #[66]⟩), none), (some 23, (.unOp .not 4 (.tmp 22)), none)] fr H) fun p => some (.normal, p.1, p.2) := x_region _ k49_7 (nr (by kernel_rfl))
@[go_sem] theorem t49_7 (d : Tmp) : takes g49_7 d = false := nr (by kernel_rfl)
noncomputable def g49_8 : Array Oper := regAt Go.Proofs.Try.f49 8
theorem k49_8 : guardsOk g49_8 = true := nr (by kernel_rfl)
@[go_sem] theorem x49_8 {h : Hd} {ro nt id : Nat} {fr : PT} {H : Hp} : ex cx h ro 49 nt (.region id g49_8 false) fr H = xbind (xrun cx h ro 49 nt g49_8 [(some 24, (.move (.tmp 4)), none), (some 2, (.assign (.tmp 24)), none), (some 3, (.assign (.const (.int .i64 7))), none)] fr H) fun p => some (.normal, p.1, p.2) := x_region _ k49_8 (nr (by kernel_rfl))
@[go_sem] theorem t49_8 (d : Tmp) : takes g49_8 d = false := nr (by kernel_rfl)
noncomputable def g49_9 : Array Oper := regAt Go.Proofs.Try.f49 9
theorem k49_9 : guardsOk g49_9 = true := nr (by kernel_rfl)
@[go_sem] theorem x49_9 {h : Hd} {ro nt id : Nat} {fr : PT} {H : Hp} : ex cx h ro 49 nt (.region id g49_9 false) fr H = xbind (xrun cx h ro 49 nt g49_9 [(some 25, (.move (.tmp 0)), none), (some 26, (.move (.tmp 4)), none), (some 27, (.indexAddr 56 (.tmp 25) (.tmp 26)), none), (some 28, (.load 66 (.tmp 27)), none), (some 29, (.move (.tmp 0)), none), (some 30, (.call ⟨(.builtin .len), #[(.tmp 29)], #[56]⟩), none), (some 31, (.call ⟨(.value (.func 121)), #[(.tmp 28), (.tmp 30)], #[66, 3]⟩), none)] fr H) fun p => some (.normal, p.1, p.2) := x_region _ k49_9 (nr (by kernel_rfl))
@[go_sem] theorem t49_9 (d : Tmp) : takes g49_9 d = false := nr (by kernel_rfl)
noncomputable def g49_10 : Array Oper := regAt Go.Proofs.Try.f49 10
theorem k49_10 : guardsOk g49_10 = true := nr (by kernel_rfl)
@[go_sem] theorem x49_10 {h : Hd} {ro nt id : Nat} {fr : PT} {H : Hp} : ex cx h ro 49 nt (.region id g49_10 false) fr H = xbind (xrun cx h ro 49 nt g49_10 [(some 32, (.move (.tmp 4)), none), (some 2, (.assign (.tmp 32)), none), (some 3, (.assign (.const (.int .i64 8))), none)] fr H) fun p => some (.normal, p.1, p.2) := x_region _ k49_10 (nr (by kernel_rfl))
@[go_sem] theorem t49_10 (d : Tmp) : takes g49_10 d = false := nr (by kernel_rfl)
noncomputable def g49_11 : Array Oper := regAt Go.Proofs.Try.f49 11
theorem k49_11 : guardsOk g49_11 = true := nr (by kernel_rfl)
@[go_sem] theorem x49_11 {h : Hd} {ro nt id : Nat} {fr : PT} {H : Hp} : ex cx h ro 49 nt (.region id g49_11 false) fr H = xbind (xrun cx h ro 49 nt g49_11 [(some 16, (.move (.tmp 4)), none), (some 17, (.binOp .add 3 (.tmp 16) (.const (.int .i64 1)) 3), none), (some 4, (.assign (.tmp 17)), none)] fr H) fun p => some (.normal, p.1, p.2) := x_region _ k49_11 (nr (by kernel_rfl))
@[go_sem] theorem t49_11 (d : Tmp) : takes g49_11 d = false := nr (by kernel_rfl)
noncomputable def g49_12 : Array Oper := regAt Go.Proofs.Try.f49 12
theorem k49_12 : guardsOk g49_12 = true := nr (by kernel_rfl)
@[go_sem] theorem x49_12 {h : Hd} {ro nt id : Nat} {fr : PT} {H : Hp} : ex cx h ro 49 nt (.region id g49_12 false) fr H = xbind (xrun cx h ro 49 nt g49_12 [(some 5, (.assign (.const (.int .i64 0))), none)] fr H) fun p => some (.normal, p.1, p.2) := x_region _ k49_12 (nr (by kernel_rfl))
@[go_sem] theorem t49_12 (d : Tmp) : takes g49_12 d = false := nr (by kernel_rfl)
noncomputable def g49_13 : Array Oper := regAt Go.Proofs.Try.f49 13
theorem k49_13 : guardsOk g49_13 = true := nr (by kernel_rfl)
@[go_sem] theorem x49_13 {h : Hd} {ro nt id : Nat} {fr : PT} {H : Hp} : ex cx h ro 49 nt (.region id g49_13 false) fr H = xbind (xrun cx h ro 49 nt g49_13 [(some 33, (.move (.tmp 5)), none), (some 34, (.move (.tmp 0)), none), (some 35, (.call ⟨(.builtin .len), #[(.tmp 34)], #[56]⟩), none), (some 36, (.binOp .lss 3 (.tmp 33) (.tmp 35) 3), none)] fr H) fun p => some (.normal, p.1, p.2) := x_region _ k49_13 (nr (by kernel_rfl))
@[go_sem] theorem t49_13 (d : Tmp) : takes g49_13 d = false := nr (by kernel_rfl)
noncomputable def g49_14 : Array Oper := regAt Go.Proofs.Try.f49 14
theorem k49_14 : guardsOk g49_14 = true := nr (by kernel_rfl)
@[go_sem] theorem x49_14 {h : Hd} {ro nt id : Nat} {fr : PT} {H : Hp} : ex cx h ro 49 nt (.region id g49_14 false) fr H = xbind (xrun cx h ro 49 nt g49_14 [(some 39, (.move (.tmp 0)), none), (some 40, (.move (.tmp 5)), none), (some 41, (.indexAddr 56 (.tmp 39) (.tmp 40)), none), (some 42, (.fieldAddr 66 (.tmp 41) 0), none), (some 43, (.load 3 (.tmp 42)), none), (some 44, (.binOp .eql 3 (.tmp 43) (.const (.int .i64 5)) 3), none), (some 45, (.move (.tmp 44)), none), (some 46, (.move (.tmp 0)), some (45, true)), (some 47, (.move (.tmp 5)), some (45, true)), (some 48, (.build 61 #[(0, (.tmp 47))]), some (45, true)), (some 49, (.call ⟨(.value (.func 52)), #[(.tmp 46), (.tmp 48)], #[56, 61]⟩), some (45, true)), (some 50, (.field 61 (.tmp 49) 0), some (45, true)), (some 51, (.binOp .lss 3 (.tmp 50) (.const (.int .i64 0)) 3), some (45, true)), (some 52, (.pick (.tmp 45) (.tmp 51) (.const (.bool false))), none)] fr H) fun p => some (.normal, p.1, p.2) := x_region _ k49_14 (nr (by kernel_rfl))
@[go_sem] theorem t49_14 (d : Tmp) : takes g49_14 d = false := nr (by kernel_rfl)
noncomputable def g49_15 : Array Oper := regAt Go.Proofs.Try.f49 15
theorem k49_15 : guardsOk g49_15 = true := nr (by kernel_rfl)
@[go_sem] theorem x49_15 {h : Hd} {ro nt id : Nat} {fr : PT} {H : Hp} : ex cx h ro 49 nt (.region id g49_15 false) fr H = xbind (xrun cx h ro 49 nt g49_15 [(some 53, (.move (.tmp 5)), none), (some 2, (.assign (.tmp 53)), none), (some 3, (.assign (.const (.int .i64 9))), none)] fr H) fun p => some (.normal, p.1, p.2) := x_region _ k49_15 (nr (by kernel_rfl))
@[go_sem] theorem t49_15 (d : Tmp) : takes g49_15 d = false := nr (by kernel_rfl)
noncomputable def g49_16 : Array Oper := regAt Go.Proofs.Try.f49 16
theorem k49_16 : guardsOk g49_16 = true := nr (by kernel_rfl)
@[go_sem] theorem x49_16 {h : Hd} {ro nt id : Nat} {fr : PT} {H : Hp} : ex cx h ro 49 nt (.region id g49_16 false) fr H = xbind (xrun cx h ro 49 nt g49_16 [(some 37, (.move (.tmp 5)), none), (some 38, (.binOp .add 3 (.tmp 37) (.const (.int .i64 1)) 3), none), (some 5, (.assign (.tmp 38)), none)] fr H) fun p => some (.normal, p.1, p.2) := x_region _ k49_16 (nr (by kernel_rfl))
@[go_sem] theorem t49_16 (d : Tmp) : takes g49_16 d = false := nr (by kernel_rfl)
noncomputable def g49_17 : Array Oper := regAt Go.Proofs.Try.f49 17
theorem k49_17 : guardsOk g49_17 = true := nr (by kernel_rfl)
@[go_sem] theorem x49_17 {h : Hd} {ro nt id : Nat} {fr : PT} {H : Hp} : ex cx h ro 49 nt (.region id g49_17 false) fr H = xbind (xrun cx h ro 49 nt g49_17 [(some 2, (.assign (.const (.int .i64 (-1)))), none), (some 3, (.assign (.const (.int .i64 0))), none)] fr H) fun p => some (.normal, p.1, p.2) := x_region _ k49_17 (nr (by kernel_rfl))
@[go_sem] theorem t49_17 (d : Tmp) : takes g49_17 d = false := nr (by kernel_rfl)
noncomputable def l49_0 : Code := (.seq (.seq (.region 6 g49_6 false) (.cond (.tmp 15) .skip (.exit 0))) (.seq (.block 1 (.seq (.seq (.region 8 g49_7 false) (.cond (.tmp 23) (.seq (.region 9 g49_8 false) .ret) .skip)) (.seq (.region 10 g49_9 false) (.cond (.tmp 31) (.seq (.region 11 g49_10 false) .ret) .skip)))) (.region 7 g49_11 false)))
theorem dl49_0 {ro nt : Nat} {fr : PT} {H : Hp} : (den cx).loop ro 49 nt l49_0 fr H = xbind (ex cx (den cx) ro 49 nt (.seq (.seq (.region 6 g49_6 false) (.cond (.tmp 15) .skip (.exit 0))) (.seq (.block 1 (.seq (.seq (.region 8 g49_7 false) (.cond (.tmp 23) (.seq (.region 9 g49_8 false) .ret) .skip)) (.seq (.region 10 g49_9 false) (.cond (.tmp 31) (.seq (.region 11 g49_10 false) .ret) .skip)))) (.region 7 g49_11 false))) fr H) (contR (trimmed ((den cx).loop ro 49 nt l49_0) H.length)) := den_loop_x l49_0
noncomputable def l49_1 : Code := (.seq (.seq (.region 13 g49_13 false) (.cond (.tmp 36) .skip (.exit 2))) (.seq (.block 3 (.seq (.region 15 g49_14 false) (.cond (.tmp 52) (.seq (.region 16 g49_15 false) .ret) .skip))) (.region 14 g49_16 false)))
theorem dl49_1 {ro nt : Nat} {fr : PT} {H : Hp} : (den cx).loop ro 49 nt l49_1 fr H = xbind (ex cx (den cx) ro 49 nt (.seq (.seq (.region 13 g49_13 false) (.cond (.tmp 36) .skip (.exit 2))) (.seq (.block 3 (.seq (.region 15 g49_14 false) (.cond (.tmp 52) (.seq (.region 16 g49_15 false) .ret) .skip))) (.region 14 g49_16 false))) fr H) (contR (trimmed ((den cx).loop ro 49 nt l49_1) H.length)) := den_loop_x l49_1
theorem b49 : Go.Proofs.Try.f49.body = some (.seq (.region 0 g49_0 false) (.seq (.seq (.region 1 g49_1 false) (.cond (.tmp 8) (.seq (.region 2 g49_2 false) .ret) .skip)) (.seq (.seq (.region 3 g49_3 false) (.cond (.tmp 11) (.seq (.region 4 g49_4 false) .ret) .skip)) (.seq (.seq (.region 5 g49_5 false) (.block 0 (.loop l49_0))) (.seq (.seq (.region 12 g49_12 false) (.block 2 (.loop l49_1))) (.seq (.region 17 g49_17 false) .ret)))))) := by kernel_rfl
theorem c49 {h : Hd} {ro : Nat} {H : Hp} (a0 : AV) : callB cx h ro 49 [a0] H = returned cx [(.tmp 2), (.tmp 3)] (ex cx h ro 49 54 (.seq (.region 0 g49_0 false) (.seq (.seq (.region 1 g49_1 false) (.cond (.tmp 8) (.seq (.region 2 g49_2 false) .ret) .skip)) (.seq (.seq (.region 3 g49_3 false) (.cond (.tmp 11) (.seq (.region 4 g49_4 false) .ret) .skip)) (.seq (.seq (.region 5 g49_5 false) (.block 0 (.loop l49_0))) (.seq (.seq (.region 12 g49_12 false) (.block 2 (.loop l49_1))) (.seq (.region 17 g49_17 false) .ret)))))) (PT.nil.set 0 (drp a0)) H) := by
  have hf : cx.fns 49 = some Go.Proofs.Try.f49 := by kernel_rfl
  simp only [callB, hf, funced, b49, bodied]
  rfl
/-! function 50: colloquy/colloquylaw04.works -/
noncomputable def g50_0 : Array Oper := regAt Go.Proofs.Try.f50 0
theorem k50_0 : guardsOk g50_0 = true := nr (by kernel_rfl)
@[go_sem] theorem x50_0 {h : Hd} {ro nt id : Nat} {fr : PT} {H : Hp} : ex cx h ro 50 nt (.region id g50_0 false) fr H = xbind (xrun cx h ro 50 nt g50_0 [(some 0, (.assign (.const (.bool false))), none)] fr H) fun p => some (.normal, p.1, p.2) := x_region _ k50_0 (nr (by kernel_rfl))
@[go_sem] theorem t50_0 (d : Tmp) : takes g50_0 d = false := nr (by kernel_rfl)
noncomputable def g50_1 : Array Oper := regAt Go.Proofs.Try.f50 1
theorem k50_1 : guardsOk g50_1 = true := nr (by kernel_rfl)
@[go_sem] theorem x50_1 {h : Hd} {ro nt id : Nat} {fr : PT} {H : Hp} : ex cx h ro 50 nt (.region id g50_1 false) fr H = xbind (xrun cx h ro 50 nt g50_1 [(some 6, (.build 63 #[(0, (.const (.int .i64 1))), (1, (.const (.int .i64 2)))]), none), (some 7, (.buildSlice 64 1 #[(0, (.tmp 6))]), none), (some 8, (.build 66 #[(0, (.const (.int .i64 5))), (4, (.tmp 7))]), none), (some 9, (.build 63 #[(0, (.const (.int .i64 2))), (1, (.const (.int .i64 3)))]), none), (some 10, (.buildSlice 64 1 #[(0, (.tmp 9))]), none), (some 11, (.build 66 #[(0, (.const (.int .i64 5))), (4, (.tmp 10))]), none), (some 12, (.build 66 #[]), none), (some 13, (.buildSlice 56 3 #[(0, (.tmp 8)), (1, (.tmp 11)), (2, (.tmp 12))]), none), (some 1, (.assign (.tmp 13)), none)] fr H) fun p => some (.normal, p.1, p.2) := x_region _ k50_1 (nr (by kernel_rfl))
@[go_sem] theorem t50_1 (d : Tmp) : takes g50_1 d = false := nr (by kernel_rfl)
noncomputable def g50_2 : Array Oper := regAt Go.Proofs.Try.f50 2
theorem k50_2 : guardsOk g50_2 = true := nr (by kernel_rfl)
@[go_sem] theorem x50_2 {h : Hd} {ro nt id : Nat} {fr : PT} {H : Hp} : ex cx h ro 50 nt (.region id g50_2 false) fr H = xbind (xrun cx h ro 50 nt g50_2 [(some 15, (.move (.tmp 1)), none), (some 16, (.call ⟨(.value (.func 48)), #[(.tmp 15)], #[56]⟩), none), (some 14, (.move (.tmp 16)), none), (some 17, (.extract (.tmp 14) 0), none), (some 18, (.extract (.tmp 14) 1), none), (some 2, (.assign (.tmp 17)), none), (some 3, (.assign (.tmp 18)), none)] fr H) fun p => some (.normal, p.1, p.2) := x_region _ k50_2 (nr (by kernel_rfl))
@[go_sem] theorem t50_2 (d : Tmp) : takes g50_2 d = false := nr (by kernel_rfl)
noncomputable def g50_3 : Array Oper := regAt Go.Proofs.Try.f50 3
theorem k50_3 : guardsOk g50_3 = true := nr (by kernel_rfl)
@[go_sem] theorem x50_3 {h : Hd} {ro nt id : Nat} {fr : PT} {H : Hp} : ex cx h ro 50 nt (.region id g50_3 false) fr H = xbind (xrun cx h ro 50 nt g50_3 [(some 20, (.build 66 #[(1, (.const (.int .i64 1)))]), none), (some 21, (.buildSlice 56 1 #[(0, (.tmp 20))]), none), (some 22, (.call ⟨(.value (.func 48)), #[(.tmp 21)], #[56]⟩), none), (some 19, (.move (.tmp 22)), none), (some 23, (.extract (.tmp 19) 0), none), (some 24, (.extract (.tmp 19) 1), none), (some 4, (.assign (.tmp 23)), none), (some 5, (.assign (.tmp 24)), none)] fr H) fun p => some (.normal, p.1, p.2) := x_region _ k50_3 (nr (by kernel_rfl))
@[go_sem] theorem t50_3 (d : Tmp) : takes g50_3 d = false := nr (by kernel_rfl)
noncomputable def g50_4 : Array Oper := regAt Go.Proofs.Try.f50 4
theorem k50_4 : guardsOk g50_4 = true := nr (by kernel_rfl)
@[go_sem] theorem x50_4 {h : Hd} {ro nt id : Nat} {fr : PT} {H : Hp} : ex cx h ro 50 nt (.region id g50_4 false) fr H = xbind (xrun cx h ro 50 nt g50_4 [(some 25, (.move (.tmp 2)), none), (some 26, (.binOp .eql 3 (.tmp 25) (.const (.int .i64 (-1))) 3), none), (some 27, (.move (.tmp 26)), none), (some 28, (.move (.tmp 3)), some (27, true)), (some 29, (.binOp .eql 27 (.tmp 28) (.const (.int .i64 0)) 27), some (27, true)), (some 30, (.pick (.tmp 27) (.tmp 29) (.const (.bool false))), none), (some 31, (.move (.tmp 30)), none), (some 32, (.move (.tmp 4)), some (31, true)), (some 33, (.binOp .eql 3 (.tmp 32) (.const (.int .i64 0)) 3), some (31, true)), (some 34, (.pick (.tmp 31) (.tmp 33) (.const (.bool false))), none), (some 35, (.move (.tmp 34)), none), (some 36, (.move (.tmp 5)), some (35, true)), (some 37, (.binOp .eql 27 (.tmp 36) (.const (.int .i64 7)) 27), some (35, true)), (some 38, (.pick (.tmp 35) (.tmp 37) (.const (.bool false))), none), (some 39, (.move (.tmp 38)), none), (some 40, (.move (.tmp 1)), some (39, true)), (some 41, (.build 61 #[(1, (.const (.int .i64 4)))]), some (39, true)), (some 42, (.call ⟨(.value (.func 51)), #[(.tmp 40), (.tmp 41)], #[56, 61]⟩), some (39, true)), (some 43, (.build 61 #[(0, (.const (.int .i64 2))), (1, (.const (.int .i64 9)))]), some (39, true)), (some 44, (.binOp .eql 61 (.tmp 42) (.tmp 43) 61), some (39, true)), (some 45, (.pick (.tmp 39) (.tmp 44) (.const (.bool false))), none), (some 0, (.assign (.tmp 45)), none)] fr H) fun p => some (.normal, p.1, p.2) := x_region _ k50_4 (nr (by kernel_rfl))
@[go_sem] theorem t50_4 (d : Tmp) : takes g50_4 d = false := nr (by kernel_rfl)
theorem b50 : Go.Proofs.Try.f50.body = some (.seq (.region 0 g50_0 false) (.seq (.region 1 g50_1 false) (.seq (.region 2 g50_2 false) (.seq (.region 3 g50_3 false) (.seq (.region 4 g50_4 false) .ret))))) := by kernel_rfl
theorem c50 {h : Hd} {ro : Nat} {H : Hp} : callB cx h ro 50 [] H = returned cx [(.tmp 0)] (ex cx h ro 50 46 (.seq (.region 0 g50_0 false) (.seq (.region 1 g50_1 false) (.seq (.region 2 g50_2 false) (.seq (.region 3 g50_3 false) (.seq (.region 4 g50_4 false) .ret))))) PT.nil H) := by
  have hf : cx.fns 50 = some Go.Proofs.Try.f50 := by kernel_rfl
  simp only [callB, hf, funced, b50, bodied]
  rw [if_pos (of_decide_eq_true (by kernel_rfl))]
  rfl
end Go.Abs.Tab

/- Codes of this seat's functions, their regions step by step. (Printed by a program.) -/
set_option linter.unusedVariables false
namespace Go.Abs.Tab
end Go.Abs.Tab

/- Codes of this seat's functions, their regions step by step. (Printed by a program.) -/
set_option linter.unusedVariables false
namespace Go.Abs.Tab
/-! function 53: colloquy/colloquylaw04.made -/
noncomputable def g53_0 : Array Oper := regAt Go.Proofs.Try.f53 0
theorem k53_0 : guardsOk g53_0 = true := nr (by kernel_rfl)
@[go_sem] theorem x53_0 {h : Hd} {ro nt id : Nat} {fr : PT} {H : Hp} : ex cx h ro 53 nt (.region id g53_0 false) fr H = xbind (xrun cx h ro 53 nt g53_0 [(some 4, (.assign (.const (.slice none 0 0))), none)] fr H) fun p => some (.normal, p.1, p.2) := x_region _ k53_0 (nr (by kernel_rfl))
@[go_sem] theorem t53_0 (d : Tmp) : takes g53_0 d = false := nr (by kernel_rfl)
noncomputable def g53_1 : Array Oper := regAt Go.Proofs.Try.f53 1
theorem k53_1 : guardsOk g53_1 = true := nr (by kernel_rfl)
@[go_sem] theorem x53_1 {h : Hd} {ro nt id : Nat} {fr : PT} {H : Hp} : ex cx h ro 53 nt (.region id g53_1 false) fr H = xbind (xrun cx h ro 53 nt g53_1 [(some 5, (.assign (.const (.slice none 0 0))), none)] fr H) fun p => some (.normal, p.1, p.2) := x_region _ k53_1 (nr (by kernel_rfl))
@[go_sem] theorem t53_1 (d : Tmp) : takes g53_1 d = false := nr (by kernel_rfl)
noncomputable def g53_2 : Array Oper := regAt Go.Proofs.Try.f53 2
theorem k53_2 : guardsOk g53_2 = true := nr (by kernel_rfl)
@[go_sem] theorem x53_2 {h : Hd} {ro nt id : Nat} {fr : PT} {H : Hp} : ex cx h ro 53 nt (.region id g53_2 false) fr H = xbind (xrun cx h ro 53 nt g53_2 [(some 6, (.assign (.const (.int .i64 0))), none)] fr H) fun p => some (.normal, p.1, p.2) := x_region _ k53_2 (nr (by kernel_rfl))
@[go_sem] theorem t53_2 (d : Tmp) : takes g53_2 d = false := nr (by kernel_rfl)
noncomputable def g53_3 : Array Oper := regAt Go.Proofs.Try.f53 3
theorem k53_3 : guardsOk g53_3 = true := nr (by kernel_rfl)
@[go_sem] theorem x53_3 {h : Hd} {ro nt id : Nat} {fr : PT} {H : Hp} : ex cx h ro 53 nt (.region id g53_3 false) fr H = xbind (xrun cx h ro 53 nt g53_3 [(some 11, (.move (.tmp 6)), none), (some 12, (.move (.tmp 1)), none), (some 13, (.binOp .lss 3 (.tmp 11) (.tmp 12) 3), none)] fr H) fun p => some (.normal, p.1, p.2) := x_region _ k53_3 (nr (by kernel_rfl))
@[go_sem] theorem t53_3 (d : Tmp) : takes g53_3 d = false := nr (by kernel_rfl)
noncomputable def g53_4 : Array Oper := regAt Go.Proofs.Try.f53 4
theorem k53_4 : guardsOk g53_4 = true := nr (by kernel_rfl)
@[go_sem] theorem x53_4 {h : Hd} {ro nt id : Nat} {fr : PT} {H : Hp} : ex cx h ro 53 nt (.region id g53_4 false) fr H = xbind (xrun cx h ro 53 nt g53_4 [(some 16, (.move (.tmp 0)), none), (some 17, (.move (.tmp 6)), none), (some 18, (.move (.tmp 0)), none), (some 19, (.call ⟨(.builtin .len), #[(.tmp 18)], #[69]⟩), none), (some 20, (.binOp .rem 3 (.tmp 17) (.tmp 19) 3), none), (some 21, (.indexAddr 69 (.tmp 16) (.tmp 20)), none), (some 22, (.load 205 (.tmp 21)), none), (some 7, (.alloc 205), none), (none, (.store 205 (.tmp 7) (.tmp 22)), none)] fr H) fun p => some (.normal, p.1, p.2) := x_region _ k53_4 (nr (by kernel_rfl))
@[go_sem] theorem t53_4 (d : Tmp) : takes g53_4 d = false := nr (by kernel_rfl)
noncomputable def g53_5 : Array Oper := regAt Go.Proofs.Try.f53 5
theorem k53_5 : guardsOk g53_5 = true := nr (by kernel_rfl)
@[go_sem] theorem x53_5 {h : Hd} {ro nt id : Nat} {fr : PT} {H : Hp} : ex cx h ro 53 nt (.region id g53_5 true) fr H = orRaw (xrunU cx h ro 53 nt g53_5 H.length [(0, 0, [], (some 23, (.indexAddr 205 (.tmp 7) (.const (.int .i64 1))), none)), (1, 0, [], (some 24, (.load 5 (.tmp 23)), none)), (2, 0, [], (some 25, (.convert 5 3 (.tmp 24)), none)), (3, 0, [0, 1, 2], (some 26, (.move (.tmp 6)), none)), (4, 0, [], (some 27, (.binOp .add 3 (.tmp 25) (.tmp 26) 3), none)), (5, 0, [0, 1, 2, 3, 4], (some 28, (.move (.tmp 1)), none)), (6, 0, [], (some 29, (.binOp .rem 3 (.tmp 27) (.tmp 28) 3), none)), (7, 0, [0, 1, 2, 3, 4, 5, 6], (some 30, (.indexAddr 205 (.tmp 7) (.const (.int .i64 2))), none)), (8, 0, [0, 1, 2, 3, 4, 5, 6], (some 31, (.load 5 (.tmp 30)), none)), (9, 0, [0, 1, 2, 3, 4, 5, 6], (some 32, (.convert 5 3 (.tmp 31)), none)), (10, 0, [0, 1, 2, 3, 4, 5, 6], (some 33, (.binOp .rem 3 (.tmp 32) (.const (.int .i64 7)) 3), none)), (11, 0, [], (some 34, (.build 63 #[(0, (.tmp 29)), (1, (.tmp 33))]), none)), (12, 0, [0, 1, 2, 3, 4, 5, 6, 7, 8, 9, 10, 11], (some 8, (.alloc 63), none)), (13, 1, [], (none, (.store 63 (.tmp 8) (.tmp 34)), none))] fr (H ++ List.replicate 1 .res) []) fun _ => regionRaw cx h ro 53 nt g53_5 fr H := x_regionU _ _ k53_5 (nr (by kernel_rfl)) (nr (by kernel_rfl)) (nr (by kernel_rfl)) (nr (by kernel_rfl))
@[go_sem] theorem t53_5 (d : Tmp) : takes g53_5 d = false := nr (by kernel_rfl)
noncomputable def g53_6 : Array Oper := regAt Go.Proofs.Try.f53 6
theorem k53_6 : guardsOk g53_6 = true := nr (by kernel_rfl)
@[go_sem] theorem x53_6 {h : Hd} {ro nt id : Nat} {fr : PT} {H : Hp} : ex cx h ro 53 nt (.region id g53_6 false) fr H = xbind (xrun cx h ro 53 nt g53_6 [(some 35, (.indexAddr 205 (.tmp 7) (.const (.int .i64 0))), none), (some 36, (.load 5 (.tmp 35)), none), (some 37, (.convert 5 3 (.tmp 36)), none), (some 38, (.binOp .rem 3 (.tmp 37) (.const (.int .i64 6)) 3), none), (some 39, (.build 66 #[(0, (.tmp 38))]), none), (some 9, (.alloc 66), none), (none, (.store 66 (.tmp 9) (.tmp 39)), none)] fr H) fun p => some (.normal, p.1, p.2) := x_region _ k53_6 (nr (by kernel_rfl))
@[go_sem] theorem t53_6 (d : Tmp) : takes g53_6 d = false := nr (by kernel_rfl)
noncomputable def g53_7 : Array Oper := regAt Go.Proofs.Try.f53 7
theorem k53_7 : guardsOk g53_7 = true := nr (by kernel_rfl)
@[go_sem] theorem x53_7 {h : Hd} {ro nt id : Nat} {fr : PT} {H : Hp} : ex cx h ro 53 nt (.region id g53_7 false) fr H = xbind (xrun cx h ro 53 nt g53_7 [(some 40, (.fieldAddr 66 (.tmp 9) 0), none), (some 41, (.load 3 (.tmp 40)), none)] fr H) fun p => some (.normal, p.1, p.2) := x_region _ k53_7 (nr (by kernel_rfl))
@[go_sem] theorem t53_7 (d : Tmp) : takes g53_7 d = false := nr (by kernel_rfl)
noncomputable def g53_8 : Array Oper := regAt Go.Proofs.Try.f53 8
theorem k53_8 : guardsOk g53_8 = true := nr (by kernel_rfl)
@[go_sem] theorem x53_8 {h : Hd} {ro nt id : Nat} {fr : PT} {H : Hp} : ex cx h ro 53 nt (.region id g53_8 false) fr H = xbind (xrun cx h ro 53 nt g53_8 [(some 43, (.binOp .eql 3 (.tmp 41) (.const (.int .i64 1)) 3), none), (some 42, (.assign (.tmp 43)), none)] fr H) fun p => some (.normal, p.1, p.2) := x_region _ k53_8 (nr (by kernel_rfl))
@[go_sem] theorem t53_8 (d : Tmp) : takes g53_8 d = false := nr (by kernel_rfl)
noncomputable def g53_9 : Array Oper := regAt Go.Proofs.Try.f53 9
theorem k53_9 : guardsOk g53_9 = true := nr (by kernel_rfl)
@[go_sem] theorem x53_9 {h : Hd} {ro nt id : Nat} {fr : PT} {H : Hp} : ex cx h ro 53 nt (.region id g53_9 false) fr H = xbind (xrun cx h ro 53 nt g53_9 [(some 44, (.binOp .eql 3 (.tmp 41) (.const (.int .i64 2)) 3), none), (some 42, (.assign (.tmp 44)), none)] fr H) fun p => some (.normal, p.1, p.2) := x_region _ k53_9 (nr (by kernel_rfl))
@[go_sem] theorem t53_9 (d : Tmp) : takes g53_9 d = false := nr (by kernel_rfl)
noncomputable def g53_10 : Array Oper := regAt Go.Proofs.Try.f53 10
theorem k53_10 : guardsOk g53_10 = true := nr (by kernel_rfl)
@[go_sem] theorem x53_10 {h : Hd} {ro nt id : Nat} {fr : PT} {H : Hp} : ex cx h ro 53 nt (.region id g53_10 false) fr H = xbind (xrun cx h ro 53 nt g53_10 [(some 45, (.load 63 (.tmp 8)), none), (some 46, (.buildSlice 64 1 #[(0, (.tmp 45))]), none), (some 47, (.fieldAddr 66 (.tmp 9) 4), none), (none, (.store 64 (.tmp 47) (.tmp 46)), none)] fr H) fun p => some (.normal, p.1, p.2) := x_region _ k53_10 (nr (by kernel_rfl))
@[go_sem] theorem t53_10 (d : Tmp) : takes g53_10 d = false := nr (by kernel_rfl)
noncomputable def g53_11 : Array Oper := regAt Go.Proofs.Try.f53 11
theorem k53_11 : guardsOk g53_11 = true := nr (by kernel_rfl)
@[go_sem] theorem x53_11 {h : Hd} {ro nt id : Nat} {fr : PT} {H : Hp} : ex cx h ro 53 nt (.region id g53_11 false) fr H = xbind (xrun cx h ro 53 nt g53_11 [(some 48, (.indexAddr 205 (.tmp 7) (.const (.int .i64 3))), none), (some 49, (.load 5 (.tmp 48)), none), (some 50, (.convert 5 3 (.tmp 49)), none), (some 51, (.fieldAddr 66 (.tmp 9) 1), none), (none, (.store 3 (.tmp 51) (.tmp 50)), none)] fr H) fun p => some (.normal, p.1, p.2) := x_region _ k53_11 (nr (by kernel_rfl))
@[go_sem] theorem t53_11 (d : Tmp) : takes g53_11 d = false := nr (by kernel_rfl)
noncomputable def g53_12 : Array Oper := regAt Go.Proofs.Try.f53 12
theorem k53_12 : guardsOk g53_12 = true := nr (by kernel_rfl)
@[go_sem] theorem x53_12 {h : Hd} {ro nt id : Nat} {fr : PT} {H : Hp} : ex cx h ro 53 nt (.region id g53_12 false) fr H = xbind (xrun cx h ro 53 nt g53_12 [(some 52, (.indexAddr 205 (.tmp 7) (.const (.int .i64 3))), none), (some 53, (.load 5 (.tmp 52)), none), (some 54, (.binOp .rem 5 (.tmp 53) (.const (.int .u8 2)) 5), none), (some 55, (.binOp .eql 5 (.tmp 54) (.const (.int .u8 0)) 5), none)] fr H) fun p => some (.normal, p.1, p.2) := x_region _ k53_12 (nr (by kernel_rfl))
@[go_sem] theorem t53_12 (d : Tmp) : takes g53_12 d = false := nr (by kernel_rfl)
noncomputable def g53_13 : Array Oper := regAt Go.Proofs.Try.f53 13
theorem k53_13 : guardsOk g53_13 = true := nr (by kernel_rfl)
@[go_sem] theorem x53_13 {h : Hd} {ro nt id : Nat} {fr : PT} {H : Hp} : ex cx h ro 53 nt (.region id g53_13 false) fr H = xbind (xrun cx h ro 53 nt g53_13 [(some 56, (.fieldAddr 66 (.tmp 9) 2), none), (none, (.store 4 (.tmp 56) (.const (.bool true))), none)] fr H) fun p => some (.normal, p.1, p.2) := x_region _ k53_13 (nr (by kernel_rfl))
@[go_sem] theorem t53_13 (d : Tmp) : takes g53_13 d = false := nr (by kernel_rfl)
noncomputable def g53_14 : Array Oper := regAt Go.Proofs.Try.f53 14
theorem k53_14 : guardsOk g53_14 = true := nr (by kernel_rfl)
@[go_sem] theorem x53_14 {h : Hd} {ro nt id : Nat} {fr : PT} {H : Hp} : ex cx h ro 53 nt (.region id g53_14 true) fr H = orRaw (xrunU cx h ro 53 nt g53_14 H.length [(0, 0, [], (some 57, (.indexAddr 205 (.tmp 7) (.const (.int .i64 3))), none)), (1, 0, [], (some 58, (.load 5 (.tmp 57)), none)), (2, 0, [], (some 59, (.convert 5 3 (.tmp 58)), none)), (3, 0, [0, 1, 2], (some 60, (.move (.tmp 1)), none)), (4, 0, [], (some 61, (.binOp .rem 3 (.tmp 59) (.tmp 60) 3), none)), (5, 0, [0, 1, 2, 3, 4], (some 62, (.indexAddr 205 (.tmp 7) (.const (.int .i64 2))), none)), (6, 0, [0, 1, 2, 3, 4], (some 63, (.load 5 (.tmp 62)), none)), (7, 0, [0, 1, 2, 3, 4], (some 64, (.convert 5 3 (.tmp 63)), none)), (8, 0, [], (some 65, (.build 63 #[(0, (.tmp 61)), (1, (.tmp 64))]), none)), (9, 0, [], (some 66, (.fieldAddr 66 (.tmp 9) 3), none)), (10, 0, [], (none, (.store 63 (.tmp 66) (.tmp 65)), none))] fr (H ++ List.replicate 0 .res) []) fun _ => regionRaw cx h ro 53 nt g53_14 fr H := x_regionU _ _ k53_14 (nr (by kernel_rfl)) (nr (by kernel_rfl)) (nr (by kernel_rfl)) (nr (by kernel_rfl))
@[go_sem] theorem t53_14 (d : Tmp) : takes g53_14 d = false := nr (by kernel_rfl)
noncomputable def g53_15 : Array Oper := regAt Go.Proofs.Try.f53 15
theorem k53_15 : guardsOk g53_15 = true := nr (by kernel_rfl)
@[go_sem] theorem x53_15 {h : Hd} {ro nt id : Nat} {fr : PT} {H : Hp} : ex cx h ro 53 nt (.region id g53_15 false) fr H = xbind (xrun cx h ro 53 nt g53_15 [(some 68, (.binOp .eql 3 (.tmp 41) (.const (.int .i64 3)) 3), none), (some 67, (.assign (.tmp 68)), none)] fr H) fun p => some (.normal, p.1, p.2) := x_region _ k53_15 (nr (by kernel_rfl))
@[go_sem] theorem t53_15 (d : Tmp) : takes g53_15 d = false := nr (by kernel_rfl)
noncomputable def g53_16 : Array Oper := regAt Go.Proofs.Try.f53 16
theorem k53_16 : guardsOk g53_16 = true := nr (by kernel_rfl)
@[go_sem] theorem x53_16 {h : Hd} {ro nt id : Nat} {fr : PT} {H : Hp} : ex cx h ro 53 nt (.region id g53_16 false) fr H = xbind (xrun cx h ro 53 nt g53_16 [(some 69, (.binOp .eql 3 (.tmp 41) (.const (.int .i64 4)) 3), none), (some 67, (.assign (.tmp 69)), none)] fr H) fun p => some (.normal, p.1, p.2) := x_region _ k53_16 (nr (by kernel_rfl))
@[go_sem] theorem t53_16 (d : Tmp) : takes g53_16 d = false := nr (by kernel_rfl)
noncomputable def g53_17 : Array Oper := regAt Go.Proofs.Try.f53 17
theorem k53_17 : guardsOk g53_17 = true := nr (by kernel_rfl)
@[go_sem] theorem x53_17 {h : Hd} {ro nt id : Nat} {fr : PT} {H : Hp} : ex cx h ro 53 nt (.region id g53_17 false) fr H = xbind (xrun cx h ro 53 nt g53_17 [(some 10, (.assign (.const (.int .i64 0))), none)] fr H) fun p => some (.normal, p.1, p.2) := x_region _ k53_17 (nr (by kernel_rfl))
@[go_sem] theorem t53_17 (d : Tmp) : takes g53_17 d = false := nr (by kernel_rfl)
noncomputable def g53_18 : Array Oper := regAt Go.Proofs.Try.f53 18
theorem k53_18 : guardsOk g53_18 = true := nr (by kernel_rfl)
@[go_sem] theorem x53_18 {h : Hd} {ro nt id : Nat} {fr : PT} {H : Hp} : ex cx h ro 53 nt (.region id g53_18 false) fr H = xbind (xrun cx h ro 53 nt g53_18 [(some 70, (.move (.tmp 10)), none), (some 71, (.indexAddr 205 (.tmp 7) (.const (.int .i64 3))), none), (some 72, (.load 5 (.tmp 71)), none), (some 73, (.convert 5 3 (.tmp 72)), none), (some 74, (.binOp .rem 3 (.tmp 73) (.const (.int .i64 8)) 3), none), (some 75, (.binOp .leq 3 (.tmp 70) (.tmp 74) 3), none)] fr H) fun p => some (.normal, p.1, p.2) := x_region _ k53_18 (nr (by kernel_rfl))
@[go_sem] theorem t53_18 (d : Tmp) : takes g53_18 d = false := nr (by kernel_rfl)
noncomputable def g53_19 : Array Oper := regAt Go.Proofs.Try.f53 19
theorem k53_19 : guardsOk g53_19 = true := nr (by kernel_rfl)
@[go_sem] theorem x53_19 {h : Hd} {ro nt id : Nat} {fr : PT} {H : Hp} : ex cx h ro 53 nt (.region id g53_19 true) fr H = orRaw (xrunU cx h ro 53 nt g53_19 H.length [(0, 0, [], (some 78, (.fieldAddr 66 (.tmp 9) 4), none)), (1, 0, [], (some 79, (.load 64 (.tmp 78)), none)), (2, 0, [0, 1], (some 80, (.fieldAddr 63 (.tmp 8) 0), none)), (3, 0, [0, 1], (some 81, (.load 3 (.tmp 80)), none)), (4, 0, [0, 1, 2, 3], (some 82, (.move (.tmp 10)), none)), (5, 0, [0, 1], (some 83, (.binOp .add 3 (.tmp 81) (.tmp 82) 3), none)), (6, 0, [0, 1, 2, 3, 4, 5], (some 84, (.move (.tmp 1)), none)), (7, 0, [0, 1], (some 85, (.binOp .rem 3 (.tmp 83) (.tmp 84) 3), none)), (8, 0, [0, 1, 2, 3, 4, 5, 6, 7], (some 86, (.fieldAddr 63 (.tmp 8) 1), none)), (9, 0, [0, 1, 2, 3, 4, 5, 6, 7], (some 87, (.load 3 (.tmp 86)), none)), (10, 0, [0, 1, 2, 3, 4, 5, 6, 7, 8, 9], (some 88, (.move (.tmp 10)), none)), (11, 0, [0, 1, 2, 3, 4, 5, 6, 7], (some 89, (.binOp .add 3 (.tmp 87) (.tmp 88) 3), none)), (12, 0, [0, 1], (some 90, (.build 63 #[(0, (.tmp 85)), (1, (.tmp 89))]), none)), (13, 0, [0, 1], (some 91, (.buildSlice 64 1 #[(0, (.tmp 90))]), none)), (14, 0, [], (some 92, (.call ⟨(.builtin .append), #[(.tmp 79), (.tmp 91)], #[64, 64]⟩), none)), (15, 0, [], (some 93, (.fieldAddr 66 (.tmp 9) 4), none)), (16, 0, [], (none, (.store 64 (.tmp 93) (.tmp 92)), none))] fr (H ++ List.replicate 0 .res) []) fun _ => regionRaw cx h ro 53 nt g53_19 fr H := x_regionU _ _ k53_19 (nr (by kernel_rfl)) (nr (by kernel_rfl)) (nr (by kernel_rfl)) (nr (by kernel_rfl))
@[go_sem] theorem t53_19_78 : takes g53_19 78 = false := nr (by kernel_rfl)
@[go_sem] theorem t53_19_79 : takes g53_19 79 = true := nr (by kernel_rfl)
@[go_sem] theorem t53_19_80 : takes g53_19 80 = false := nr (by kernel_rfl)
@[go_sem] theorem t53_19_81 : takes g53_19 81 = false := nr (by kernel_rfl)
@[go_sem] theorem t53_19_82 : takes g53_19 82 = false := nr (by kernel_rfl)
@[go_sem] theorem t53_19_83 : takes g53_19 83 = false := nr (by kernel_rfl)
@[go_sem] theorem t53_19_84 : takes g53_19 84 = false := nr (by kernel_rfl)
@[go_sem] theorem t53_19_85 : takes g53_19 85 = false := nr (by kernel_rfl)
@[go_sem] theorem t53_19_86 : takes g53_19 86 = false := nr (by kernel_rfl)
@[go_sem] theorem t53_19_87 : takes g53_19 87 = false := nr (by kernel_rfl)
@[go_sem] theorem t53_19_88 : takes g53_19 88 = false := nr (by kernel_rfl)
@[go_sem] theorem t53_19_89 : takes g53_19 89 = false := nr (by kernel_rfl)
@[go_sem] theorem t53_19_90 : takes g53_19 90 = false := nr (by kernel_rfl)
@[go_sem] theorem t53_19_91 : takes g53_19 91 = false := nr (by kernel_rfl)
@[go_sem] theorem t53_19_92 : takes g53_19 92 = false := nr (by kernel_rfl)
@[go_sem] theorem t53_19_93 : takes g53_19 93 = false := nr (by kernel_rfl)
noncomputable def g53_20 : Array Oper := regAt Go.Proofs.Try.f53 20
theorem k53_20 : guardsOk g53_20 = true := nr (by kernel_rfl)
@[go_sem] theorem x53_20 {h : Hd} {ro nt id : Nat} {fr : PT} {H : Hp} : ex cx h ro 53 nt (.region id g53_20 false) fr H = xbind (xrun cx h ro 53 nt g53_20 [(some 76, (.move (.tmp 10)), none), (some 77, (.binOp .add 3 (.tmp 76) (.const (.int .i64 1)) 3), none), (some 10, (.assign (.tmp 77)), none)] fr H) fun p => some (.normal, p.1, p.2) := x_region _ k53_20 (nr (by kernel_rfl))
@[go_sem] theorem t53_20 (d : Tmp) : takes g53_20 d = false := nr (by kernel_rfl)
noncomputable def g53_21 : Array Oper := regAt Go.Proofs.Try.f53 21
theorem k53_21 : guardsOk g53_21 = true := nr (by kernel_rfl)
@[go_sem] theorem x53_21 {h : Hd} {ro nt id : Nat} {fr : PT} {H : Hp} : ex cx h ro 53 nt (.region id g53_21 false) fr H = xbind (xrun cx h ro 53 nt g53_21 [(some 95, (.binOp .eql 3 (.tmp 41) (.const (.int .i64 5)) 3), none), (some 94, (.assign (.tmp 95)), none)] fr H) fun p => some (.normal, p.1, p.2) := x_region _ k53_21 (nr (by kernel_rfl))
@[go_sem] theorem t53_21 (d : Tmp) : takes g53_21 d = false := nr (by kernel_rfl)
noncomputable def g53_22 : Array Oper := regAt Go.Proofs.Try.f53 22
theorem k53_22 : guardsOk g53_22 = true := nr (by kernel_rfl)
@[go_sem] theorem x53_22 {h : Hd} {ro nt id : Nat} {fr : PT} {H : Hp} : ex cx h ro 53 nt (.region id g53_22 false) fr H = xbind (xrun cx h ro 53 nt g53_22 [(some 96, (.load 63 (.tmp 8)), none), (some 97, (.buildSlice 64 1 #[(0, (.tmp 96))]), none), (some 98, (.fieldAddr 66 (.tmp 9) 4), none), (none, (.store 64 (.tmp 98) (.tmp 97)), none)] fr H) fun p => some (.normal, p.1, p.2) := x_region _ k53_22 (nr (by kernel_rfl))
@[go_sem] theorem t53_22 (d : Tmp) : takes g53_22 d = false := nr (by kernel_rfl)
noncomputable def g53_23 : Array Oper := regAt Go.Proofs.Try.f53 23
theorem k53_23 : guardsOk g53_23 = true := nr (by kernel_rfl)
@[go_sem] theorem x53_23 {h : Hd} {ro nt id : Nat} {fr : PT} {H : Hp} : ex cx h ro 53 nt (.region id g53_23 false) fr H = xbind (xrun cx h ro 53 nt g53_23 [(some 99, (.move (.tmp 5)), none), (some 100, (.load 66 (.tmp 9)), none), (some 101, (.buildSlice 56 1 #[(0, (.tmp 100))]), none), (some 102, (.call ⟨(.builtin .append), #[(.tmp 99), (.tmp 101)], #[56, 56]⟩), none), (some 5, (.assign (.tmp 102)), none)] fr H) fun p => some (.normal, p.1, p.2) := x_region _ k53_23 (nr (by kernel_rfl))
@[go_sem] theorem t53_23_99 : takes g53_23 99 = true := nr (by kernel_rfl)
@[go_sem] theorem t53_23_100 : takes g53_23 100 = false := nr (by kernel_rfl)
@[go_sem] theorem t53_23_101 : takes g53_23 101 = false := nr (by kernel_rfl)
@[go_sem] theorem t53_23_102 : takes g53_23 102 = false := nr (by kernel_rfl)
@[go_sem] theorem t53_23_5 : takes g53_23 5 = false := nr (by kernel_rfl)
noncomputable def g53_24 : Array Oper := regAt Go.Proofs.Try.f53 24
theorem k53_24 : guardsOk g53_24 = true := nr (by kernel_rfl)
@[go_sem] theorem x53_24 {h : Hd} {ro nt id : Nat} {fr : PT} {H : Hp} : ex cx h ro 53 nt (.region id g53_24 false) fr H = xbind (xrun cx h ro 53 nt g53_24 [(some 14, (.move (.tmp 6)), none), (some 15, (.binOp .add 3 (.tmp 14) (.const (.int .i64 1)) 3), none), (some 6, (.assign (.tmp 15)), none)] fr H) fun p => some (.normal, p.1, p.2) := x_region _ k53_24 (nr (by kernel_rfl))
@[go_sem] theorem t53_24 (d : Tmp) : takes g53_24 d = false := nr (by kernel_rfl)
noncomputable def g53_25 : Array Oper := regAt Go.Proofs.Try.f53 25
theorem k53_25 : guardsOk g53_25 = true := nr (by kernel_rfl)
@[go_sem] theorem x53_25 {h : Hd} {ro nt id : Nat} {fr : PT} {H : Hp} : ex cx h ro 53 nt (.region id g53_25 false) fr H = xbind (xrun cx h ro 53 nt g53_25 [(some 103, (.move (.tmp 5)), none), (some 4, (.assign (.tmp 103)), none)] fr H) fun p => some (.normal, p.1, p.2) := x_region _ k53_25 (nr (by kernel_rfl))
@[go_sem] theorem t53_25 (d : Tmp) : takes g53_25 d = false := nr (by kernel_rfl)
noncomputable def l53_0 : Code := (.seq (.seq (.region 19 g53_18 false) (.cond (.tmp 75) .skip (.exit 3))) (.seq (.block 4 (.region 21 g53_19 true)) (.region 20 g53_20 false)))
theorem dl53_0 {ro nt : Nat} {fr : PT} {H : Hp} : (den cx).loop ro 53 nt l53_0 fr H = xbind (ex cx (den cx) ro 53 nt (.seq (.seq (.region 19 g53_18 false) (.cond (.tmp 75) .skip (.exit 3))) (.seq (.block 4 (.region 21 g53_19 true)) (.region 20 g53_20 false))) fr H) (contR (trimmed ((den cx).loop ro 53 nt l53_0) H.length)) := den_loop_x l53_0
noncomputable def l53_1 : Code := (.seq (.seq (.region 3 g53_3 false) (.cond (.tmp 13) .skip (.exit 0))) (.seq (.block 1 (.seq (.region 5 g53_4 false) (.seq (.region 6 g53_5 true) (.seq (.region 7 g53_6 false) (.seq (.seq (.region 8 g53_7 false) (.block 2 (.seq (.seq (.region 9 g53_8 false) (.cond (.tmp 42) .skip (.region 10 g53_9 false))) (.cond (.tmp 42) (.seq (.region 11 g53_10 false) (.seq (.region 12 g53_11 false) (.seq (.region 13 g53_12 false) (.cond (.tmp 55) (.seq (.region 14 g53_13 false) (.region 15 g53_14 true)) .skip)))) (.seq (.seq (.region 16 g53_15 false) (.cond (.tmp 67) .skip (.region 17 g53_16 false))) (.cond (.tmp 67) (.seq (.region 18 g53_17 false) (.block 3 (.loop l53_0))) (.seq (.region 22 g53_21 false) (.cond (.tmp 94) (.region 23 g53_22 false) .skip)))))))) (.region 24 g53_23 false)))))) (.region 4 g53_24 false)))
theorem dl53_1 {ro nt : Nat} {fr : PT} {H : Hp} : (den cx).loop ro 53 nt l53_1 fr H = xbind (ex cx (den cx) ro 53 nt (.seq (.seq (.region 3 g53_3 false) (.cond (.tmp 13) .skip (.exit 0))) (.seq (.block 1 (.seq (.region 5 g53_4 false) (.seq (.region 6 g53_5 true) (.seq (.region 7 g53_6 false) (.seq (.seq (.region 8 g53_7 false) (.block 2 (.seq (.seq (.region 9 g53_8 false) (.cond (.tmp 42) .skip (.region 10 g53_9 false))) (.cond (.tmp 42) (.seq (.region 11 g53_10 false) (.seq (.region 12 g53_11 false) (.seq (.region 13 g53_12 false) (.cond (.tmp 55) (.seq (.region 14 g53_13 false) (.region 15 g53_14 true)) .skip)))) (.seq (.seq (.region 16 g53_15 false) (.cond (.tmp 67) .skip (.region 17 g53_16 false))) (.cond (.tmp 67) (.seq (.region 18 g53_17 false) (.block 3 (.loop l53_0))) (.seq (.region 22 g53_21 false) (.cond (.tmp 94) (.region 23 g53_22 false) .skip)))))))) (.region 24 g53_23 false)))))) (.region 4 g53_24 false))) fr H) (contR (trimmed ((den cx).loop ro 53 nt l53_1) H.length)) := den_loop_x l53_1
theorem b53 : Go.Proofs.Try.f53.body = some (.seq (.region 0 g53_0 false) (.seq (.region 1 g53_1 false) (.seq (.seq (.region 2 g53_2 false) (.block 0 (.loop l53_1))) (.seq (.region 25 g53_25 false) .ret)))) := by kernel_rfl
theorem c53 {h : Hd} {ro : Nat} {H : Hp} (a0 a1 : AV) : callB cx h ro 53 [a0, a1] H = returned cx [(.tmp 4)] (ex cx h ro 53 104 (.seq (.region 0 g53_0 false) (.seq (.region 1 g53_1 false) (.seq (.seq (.region 2 g53_2 false) (.block 0 (.loop l53_1))) (.seq (.region 25 g53_25 false) .ret)))) ((PT.nil.set 0 (drp a0)).set 1 (drp a1)) H) := by
  have hf : cx.fns 53 = some Go.Proofs.Try.f53 := by kernel_rfl
  simp only [callB, hf, funced, b53, bodied]
  rfl
/-! function 9: colloquy/colloquylaw04.GraphWays -/
noncomputable def g9_0 : Array Oper := regAt Go.Proofs.Try.f9 0
theorem k9_0 : guardsOk g9_0 = true := nr (by kernel_rfl)
@[go_sem] theorem x9_0 {h : Hd} {ro nt id : Nat} {fr : PT} {H : Hp} : ex cx h ro 9 nt (.region id g9_0 false) fr H = xbind (xrun cx h ro 9 nt g9_0 [(some 6, (.assign (.const (.bool false))), none)] fr H) fun p => some (.normal, p.1, p.2) := x_region _ k9_0 (nr (by kernel_rfl))
@[go_sem] theorem t9_0 (d : Tmp) : takes g9_0 d = false := nr (by kernel_rfl)
noncomputable def g9_1 : Array Oper := regAt Go.Proofs.Try.f9 1
theorem k9_1 : guardsOk g9_1 = true := nr (by kernel_rfl)
@[go_sem] theorem x9_1 {h : Hd} {ro nt id : Nat} {fr : PT} {H : Hp} : ex cx h ro 9 nt (.region id g9_1 false) fr H = xbind (xrun cx h ro 9 nt g9_1 [(some 14, (.call ⟨(.value (.func 50)), #[], #[]⟩), none), (some 15, (.unOp .not 4 (.tmp 14)), none)] fr H) fun p => some (.normal, p.1, p.2) := x_region _ k9_1 (nr (by kernel_rfl))
@[go_sem] theorem t9_1 (d : Tmp) : takes g9_1 d = false := nr (by kernel_rfl)
noncomputable def g9_2 : Array Oper := regAt Go.Proofs.Try.f9 2
theorem k9_2 : guardsOk g9_2 = true := nr (by kernel_rfl)
@[go_sem] theorem x9_2 {h : Hd} {ro nt id : Nat} {fr : PT} {H : Hp} : ex cx h ro 9 nt (.region id g9_2 false) fr H = xbind (xrun cx h ro 9 nt g9_2 [(some 6, (.assign (.const (.bool false))), none)] fr H) fun p => some (.normal, p.1, p.2) := x_region _ k9_2 (nr (by kernel_rfl))
@[go_sem] theorem t9_2 (d : Tmp) : takes g9_2 d = false := nr (by kernel_rfl)
noncomputable def g9_3 : Array Oper := regAt Go.Proofs.Try.f9 3
theorem k9_3 : guardsOk g9_3 = true := nr (by kernel_rfl)
@[go_sem] theorem x9_3 {h : Hd} {ro nt id : Nat} {fr : PT} {H : Hp} : ex cx h ro 9 nt (.region id g9_3 false) fr H = xbind (xrun cx h ro 9 nt g9_3 [(some 16, (.move (.tmp 0)), none), (some 17, (.call ⟨(.builtin .len), #[(.tmp 16)], #[69]⟩), none), (some 18, (.binOp .eql 3 (.tmp 17) (.const (.int .i64 0)) 3), none)] fr H) fun p => some (.normal, p.1, p.2) := x_region _ k9_3 (nr (by kernel_rfl))
@[go_sem] theorem t9_3 (d : Tmp) : takes g9_3 d = false := nr (by kernel_rfl)
noncomputable def g9_4 : Array Oper := regAt Go.Proofs.Try.f9 4
theorem k9_4 : guardsOk g9_4 = true := nr (by kernel_rfl)
@[go_sem] theorem x9_4 {h : Hd} {ro nt id : Nat} {fr : PT} {H : Hp} : ex cx h ro 9 nt (.region id g9_4 false) fr H = xbind (xrun cx h ro 9 nt g9_4 [(some 6, (.assign (.const (.bool true))), none)] fr H) fun p => some (.normal, p.1, p.2) := x_region _ k9_4 (nr (by kernel_rfl))
@[go_sem] theorem t9_4 (d : Tmp) : takes g9_4 d = false := nr (by kernel_rfl)
noncomputable def g9_5 : Array Oper := regAt Go.Proofs.Try.f9 5
theorem k9_5 : guardsOk g9_5 = true := nr (by kernel_rfl)
@[go_sem] theorem x9_5 {h : Hd} {ro nt id : Nat} {fr : PT} {H : Hp} : ex cx h ro 9 nt (.region id g9_5 false) fr H = xbind (xrun cx h ro 9 nt g9_5 [(some 19, (.move (.tmp 1)), none), (some 20, (.convert 5 3 (.tmp 19)), none), (some 21, (.binOp .rem 3 (.tmp 20) (.const (.int .i64 40)) 3), none), (some 22, (.binOp .add 3 (.const (.int .i64 1)) (.tmp 21) 3), none), (some 7, (.assign (.tmp 22)), none)] fr H) fun p => some (.normal, p.1, p.2) := x_region _ k9_5 (nr (by kernel_rfl))
@[go_sem] theorem t9_5 (d : Tmp) : takes g9_5 d = false := nr (by kernel_rfl)
noncomputable def g9_6 : Array Oper := regAt Go.Proofs.Try.f9 6
theorem k9_6 : guardsOk g9_6 = true := nr (by kernel_rfl)
@[go_sem] theorem x9_6 {h : Hd} {ro nt id : Nat} {fr : PT} {H : Hp} : ex cx h ro 9 nt (.region id g9_6 false) fr H = xbind (xrun cx h ro 9 nt g9_6 [(some 23, (.move (.tmp 0)), none), (some 24, (.move (.tmp 7)), none), (some 25, (.call ⟨(.value (.func 53)), #[(.tmp 23), (.tmp 24)], #[69, 3]⟩), none), (some 8, (.assign (.tmp 25)), none)] fr H) fun p => some (.normal, p.1, p.2) := x_region _ k9_6 (nr (by kernel_rfl))
@[go_sem] theorem t9_6 (d : Tmp) : takes g9_6 d = false := nr (by kernel_rfl)
noncomputable def g9_7 : Array Oper := regAt Go.Proofs.Try.f9 7
theorem k9_7 : guardsOk g9_7 = true := nr (by kernel_rfl)
@[go_sem] theorem x9_7 {h : Hd} {ro nt id : Nat} {fr : PT} {H : Hp} : ex cx h ro 9 nt (.region id g9_7 false) fr H = xbind (xrun cx h ro 9 nt g9_7 [(some 27, (.move (.tmp 8)), none), (some 28, (.call ⟨(.value (.func 48)), #[(.tmp 27)], #[56]⟩), none), (some 26, (.move (.tmp 28)), none), (some 29, (.extract (.tmp 26) 0), none), (some 30, (.extract (.tmp 26) 1), none), (some 9, (.assign (.tmp 29)), none), (some 10, (.assign (.tmp 30)), none)] fr H) fun p => some (.normal, p.1, p.2) := x_region _ k9_7 (nr (by kernel_rfl))
@[go_sem] theorem t9_7 (d : Tmp) : takes g9_7 d = false := nr (by kernel_rfl)
noncomputable def g9_8 : Array Oper := regAt Go.Proofs.Try.f9 8
theorem k9_8 : guardsOk g9_8 = true := nr (by kernel_rfl)
@[go_sem] theorem x9_8 {h : Hd} {ro nt id : Nat} {fr : PT} {H : Hp} : ex cx h ro 9 nt (.region id g9_8 false) fr H = xbind (xrun cx h ro 9 nt g9_8 [(some 31, (.move (.tmp 10)), none), (some 32, (.binOp .neq 27 (.tmp 31) (.const (.int .i64 0)) 27), none), (some 33, (.move (.tmp 32)), none), (some 34, (.move (.tmp 10)), some (33, true)), (some 35, (.binOp .neq 27 (.tmp 34) (.const (.int .i64 9)) 27), some (33, true)), (some 36, (.pick (.tmp 33) (.tmp 35) (.const (.bool false))), none), (some 37, (.move (.tmp 36)), none), (some 38, (.move (.tmp 10)), some (37, false)), (some 39, (.binOp .eql 27 (.tmp 38) (.const (.int .i64 0)) 27), some (37, false)), (some 40, (.move (.tmp 9)), some (37, false)), (some 41, (.binOp .eql 3 (.tmp 40) (.const (.int .i64 (-1))) 3), some (37, false)), (some 42, (.binOp .neq 4 (.tmp 39) (.tmp 41) 4), some (37, false)), (some 43, (.pick (.tmp 37) (.const (.bool true)) (.tmp 42)), none)] fr H) fun p => some (.normal, p.1, p.2) := x_region _ k9_8 (nr (by kernel_rfl))
@[go_sem] theorem t9_8 (d : Tmp) : takes g9_8 d = false := nr (by kernel_rfl)
noncomputable def g9_9 : Array Oper := regAt Go.Proofs.Try.f9 9
theorem k9_9 : guardsOk g9_9 = true := nr (by kernel_rfl)
@[go_sem] theorem x9_9 {h : Hd} {ro nt id : Nat} {fr : PT} {H : Hp} : ex cx h ro 9 nt (.region id g9_9 false) fr H = xbind (xrun cx h ro 9 nt g9_9 [(some 6, (.assign (.const (.bool false))), none)] fr H) fun p => some (.normal, p.1, p.2) := x_region _ k9_9 (nr (by kernel_rfl))
@[go_sem] theorem t9_9 (d : Tmp) : takes g9_9 d = false := nr (by kernel_rfl)
noncomputable def g9_10 : Array Oper := regAt Go.Proofs.Try.f9 10
theorem k9_10 : guardsOk g9_10 = true := nr (by kernel_rfl)
@[go_sem] theorem x9_10 {h : Hd} {ro nt id : Nat} {fr : PT} {H : Hp} : ex cx h ro 9 nt (.region id g9_10 false) fr H = xbind (xrun cx h ro 9 nt g9_10 [(some 11, (.assign (.const (.int .i64 0))), none)] fr H) fun p => some (.normal, p.1, p.2) := x_region _ k9_10 (nr (by kernel_rfl))
@[go_sem] theorem t9_10 (d : Tmp) : takes g9_10 d = false := nr (by kernel_rfl)
noncomputable def g9_11 : Array Oper := regAt Go.Proofs.Try.f9 11
theorem k9_11 : guardsOk g9_11 = true := nr (by kernel_rfl)
@[go_sem] theorem x9_11 {h : Hd} {ro nt id : Nat} {fr : PT} {H : Hp} : ex cx h ro 9 nt (.region id g9_11 false) fr H = xbind (xrun cx h ro 9 nt g9_11 [(some 44, (.move (.tmp 11)), none), (some 45, (.move (.tmp 7)), none), (some 46, (.binOp .lss 3 (.tmp 44) (.tmp 45) 3), none)] fr H) fun p => some (.normal, p.1, p.2) := x_region _ k9_11 (nr (by kernel_rfl))
@[go_sem] theorem t9_11 (d : Tmp) : takes g9_11 d = false := nr (by kernel_rfl)
noncomputable def g9_12 : Array Oper := regAt Go.Proofs.Try.f9 12
theorem k9_12 : guardsOk g9_12 = true := nr (by kernel_rfl)
@[go_sem] theorem x9_12 {h : Hd} {ro nt id : Nat} {fr : PT} {H : Hp} : ex cx h ro 9 nt (.region id g9_12 false) fr H = xbind (xrun cx h ro 9 nt g9_12 [(some 49, (.move (.tmp 8)), none), (some 50, (.move (.tmp 11)), none), (some 51, (.build 61 #[(0, (.tmp 50))]), none), (some 52, (.call ⟨(.value (.func 51)), #[(.tmp 49), (.tmp 51)], #[56, 61]⟩), none), (some 12, (.alloc 61), none), (none, (.store 61 (.tmp 12) (.tmp 52)), none)] fr H) fun p => some (.normal, p.1, p.2) := x_region _ k9_12 (nr (by kernel_rfl))
@[go_sem] theorem t9_12 (d : Tmp) : takes g9_12 d = false := nr (by kernel_rfl)
noncomputable def g9_13 : Array Oper := regAt Go.Proofs.Try.f9 13
theorem k9_13 : guardsOk g9_13 = true := nr (by kernel_rfl)
@[go_sem] theorem x9_13 {h : Hd} {ro nt id : Nat} {fr : PT} {H : Hp} : ex cx h ro 9 nt (.region id g9_13 false) fr H = xbind (xrun cx h ro 9 nt g9_13 [(some 53, (.fieldAddr 61 (.tmp 12) 0), none), (some 54, (.load 3 (.tmp 53)), none), (some 55, (.binOp .lss 3 (.tmp 54) (.const (.int .i64 0)) 3), none)] fr H) fun p => some (.normal, p.1, p.2) := x_region _ k9_13 (nr (by kernel_rfl))
@[go_sem] theorem t9_13 (d : Tmp) : takes g9_13 d = false := nr (by kernel_rfl)
noncomputable def g9_14 : Array Oper := regAt Go.Proofs.Try.f9 14
theorem k9_14 : guardsOk g9_14 = true := nr (by kernel_rfl)
@[go_sem] theorem x9_14 {h : Hd} {ro nt id : Nat} {fr : PT} {H : Hp} : ex cx h ro 9 nt (.region id g9_14 false) fr H = xbind (xrun cx h ro 9 nt g9_14 [(some 56, (.move (.tmp 10)), none), (some 57, (.binOp .eql 27 (.tmp 56) (.const (.int .i64 0)) 27), none), (some 58, (.move (.tmp 57)), none), (some 59, (.move (.tmp 8)), some (58, false)), (some 60, (.move (.tmp 11)), some (58, false)), (some 61, (.indexAddr 56 (.tmp 59) (.tmp 60)), some (58, false)), (some 62, (.fieldAddr 66 (.tmp 61) 0), some (58, false)), (some 63, (.load 3 (.tmp 62)), some (58, false)), (some 64, (.binOp .neq 3 (.tmp 63) (.const (.int .i64 5)) 3), some (58, false)), (some 65, (.pick (.tmp 58) (.const (.bool true)) (.tmp 64)), none), (some 66, (.move (.tmp 65)), none), (some 67, (.move (.tmp 11)), some (66, false)), (some 68, (.move (.tmp 9)), some (66, false)), (some 69, (.binOp .lss 3 (.tmp 67) (.tmp 68) 3), some (66, false)), (some 70, (.pick (.tmp 66) (.const (.bool true)) (.tmp 69)), none)] fr H) fun p => some (.normal, p.1, p.2) := x_region _ k9_14 (nr (by kernel_rfl))
@[go_sem] theorem t9_14 (d : Tmp) : takes g9_14 d = false := nr (by kernel_rfl)
noncomputable def g9_15 : Array Oper := regAt Go.Proofs.Try.f9 15
theorem k9_15 : guardsOk g9_15 = true := nr (by kernel_rfl)
@[go_sem] theorem x9_15 {h : Hd} {ro nt id : Nat} {fr : PT} {H : Hp} : ex cx h ro 9 nt (.region id g9_15 false) fr H = xbind (xrun cx h ro 9 nt g9_15 [(some 6, (.assign (.const (.bool false))), none)] fr H) fun p => some (.normal, p.1, p.2) := x_region _ k9_15 (nr (by kernel_rfl))
@[go_sem] theorem t9_15 (d : Tmp) : takes g9_15 d = false := nr (by kernel_rfl)
noncomputable def g9_16 : Array Oper := regAt Go.Proofs.Try.f9 16
theorem k9_16 : guardsOk g9_16 = true := nr (by kernel_rfl)
@[go_sem] theorem x9_16 {h : Hd} {ro nt id : Nat} {fr : PT} {H : Hp} : ex cx h ro 9 nt (.region id g9_16 true) fr H = orRaw (xrunU cx h ro 9 nt g9_16 H.length [(0, 0, [], (some 71, (.move (.tmp 11)), none)), (1, 0, [0], (some 72, (.move (.tmp 9)), none)), (2, 0, [], (some 73, (.binOp .eql 3 (.tmp 71) (.tmp 72) 3), none)), (3, 0, [], (some 74, (.move (.tmp 73)), none)), (4, 0, [], (some 75, (.fieldAddr 61 (.tmp 12) 0), some (74, false))), (5, 0, [], (some 76, (.load 3 (.tmp 75)), some (74, false))), (6, 0, [4, 5], (some 77, (.move (.tmp 7)), some (74, false))), (7, 0, [], (some 78, (.binOp .geq 3 (.tmp 76) (.tmp 77) 3), some (74, false))), (8, 0, [], (some 79, (.pick (.tmp 74) (.const (.bool true)) (.tmp 78)), none)), (9, 0, [], (some 80, (.move (.tmp 79)), none)), (10, 0, [], (some 81, (.move (.tmp 8)), some (80, false))), (11, 0, [10], (some 82, (.fieldAddr 61 (.tmp 12) 0), some (80, false))), (12, 0, [10], (some 83, (.load 3 (.tmp 82)), some (80, false))), (13, 0, [], (some 84, (.indexAddr 56 (.tmp 81) (.tmp 83)), some (80, false))), (14, 0, [], (some 85, (.fieldAddr 66 (.tmp 84) 0), some (80, false))), (15, 0, [], (some 86, (.load 3 (.tmp 85)), some (80, false))), (16, 0, [], (some 87, (.binOp .eql 3 (.tmp 86) (.const (.int .i64 5)) 3), some (80, false))), (17, 0, [], (some 88, (.pick (.tmp 80) (.const (.bool true)) (.tmp 87)), none)), (18, 0, [], (some 89, (.move (.tmp 88)), none)), (19, 0, [], (some 90, (.move (.tmp 8)), some (89, false))), (20, 0, [19], (some 91, (.load 61 (.tmp 12)), some (89, false))), (21, 0, [], (some 92, (.call ⟨(.value (.func 51)), #[(.tmp 90), (.tmp 91)], #[56, 61]⟩), some (89, false))), (22, 0, [19, 20, 21], (some 93, (.load 61 (.tmp 12)), some (89, false))), (23, 0, [], (some 94, (.binOp .neq 61 (.tmp 92) (.tmp 93) 61), some (89, false))), (24, 0, [], (some 95, (.pick (.tmp 89) (.const (.bool true)) (.tmp 94)), none))] fr (H ++ List.replicate 0 .res) []) fun _ => regionRaw cx h ro 9 nt g9_16 fr H := x_regionU _ _ k9_16 (nr (by kernel_rfl)) (nr (by kernel_rfl)) (nr (by kernel_rfl)) (nr (by kernel_rfl))
@[go_sem] theorem t9_16 (d : Tmp) : takes g9_16 d = false := nr (by kernel_rfl)
noncomputable def g9_17 : Array Oper := regAt Go.Proofs.Try.f9 17
theorem k9_17 : guardsOk g9_17 = true := nr (by kernel_rfl)
@[go_sem] theorem x9_17 {h : Hd} {ro nt id : Nat} {fr : PT} {H : Hp} : ex cx h ro 9 nt (.region id g9_17 false) fr H = xbind (xrun cx h ro 9 nt g9_17 [(some 6, (.assign (.const (.bool false))), none)] fr H) fun p => some (.normal, p.1, p.2) := x_region _ k9_17 (nr (by kernel_rfl))
@[go_sem] theorem t9_17 (d : Tmp) : takes g9_17 d = false := nr (by kernel_rfl)
noncomputable def g9_18 : Array Oper := regAt Go.Proofs.Try.f9 18
theorem k9_18 : guardsOk g9_18 = true := nr (by kernel_rfl)
@[go_sem] theorem x9_18 {h : Hd} {ro nt id : Nat} {fr : PT} {H : Hp} : ex cx h ro 9 nt (.region id g9_18 true) fr H = orRaw (xrunU cx h ro 9 nt g9_18 H.length [(0, 0, [], (some 96, (.move (.tmp 8)), none)), (1, 0, [0], (some 97, (.move (.tmp 11)), none)), (2, 0, [0, 1], (some 98, (.move (.tmp 2)), none)), (3, 0, [0, 1], (some 99, (.convert 70 3 (.tmp 98)), none)), (4, 0, [0], (some 100, (.build 61 #[(0, (.tmp 97)), (1, (.tmp 99))]), none)), (5, 0, [], (some 101, (.call ⟨(.value (.func 51)), #[(.tmp 96), (.tmp 100)], #[56, 61]⟩), none)), (6, 0, [0, 1, 2, 3, 4, 5], (some 102, (.fieldAddr 61 (.tmp 12) 0), none)), (7, 0, [0, 1, 2, 3, 4, 5], (some 103, (.load 3 (.tmp 102)), none)), (8, 0, [0, 1, 2, 3, 4, 5, 6, 7], (some 104, (.fieldAddr 61 (.tmp 12) 1), none)), (9, 0, [0, 1, 2, 3, 4, 5, 6, 7], (some 105, (.load 3 (.tmp 104)), none)), (10, 0, [0, 1, 2, 3, 4, 5, 6, 7, 8, 9], (some 106, (.move (.tmp 2)), none)), (11, 0, [0, 1, 2, 3, 4, 5, 6, 7, 8, 9], (some 107, (.convert 70 3 (.tmp 106)), none)), (12, 0, [0, 1, 2, 3, 4, 5, 6, 7], (some 108, (.binOp .add 3 (.tmp 105) (.tmp 107) 3), none)), (13, 0, [0, 1, 2, 3, 4, 5], (some 109, (.build 61 #[(0, (.tmp 103)), (1, (.tmp 108))]), none)), (14, 0, [], (some 110, (.binOp .neq 61 (.tmp 101) (.tmp 109) 61), none))] fr (H ++ List.replicate 0 .res) []) fun _ => regionRaw cx h ro 9 nt g9_18 fr H := x_regionU _ _ k9_18 (nr (by kernel_rfl)) (nr (by kernel_rfl)) (nr (by kernel_rfl)) (nr (by kernel_rfl))
@[go_sem] theorem t9_18 (d : Tmp) : takes g9_18 d = false := nr (by kernel_rfl)
noncomputable def g9_19 : Array Oper := regAt Go.Proofs.Try.f9 19
theorem k9_19 : guardsOk g9_19 = true := nr (by kernel_rfl)
@[go_sem] theorem x9_19 {h : Hd} {ro nt id : Nat} {fr : PT} {H : Hp} : ex cx h ro 9 nt (.region id g9_19 false) fr H = xbind (xrun cx h ro 9 nt g9_19 [(some 6, (.assign (.const (.bool false))), none)] fr H) fun p => some (.normal, p.1, p.2) := x_region _ k9_19 (nr (by kernel_rfl))
@[go_sem] theorem t9_19 (d : Tmp) : takes g9_19 d = false := nr (by kernel_rfl)
noncomputable def g9_20 : Array Oper := regAt Go.Proofs.Try.f9 20
theorem k9_20 : guardsOk g9_20 = true := nr (by kernel_rfl)
@[go_sem] theorem x9_20 {h : Hd} {ro nt id : Nat} {fr : PT} {H : Hp} : ex cx h ro 9 nt (.region id g9_20 false) fr H = xbind (xrun cx h ro 9 nt g9_20 [(some 111, (.move (.tmp 8)), none), (some 112, (.move (.tmp 11)), none), (some 113, (.indexAddr 56 (.tmp 111) (.tmp 112)), none), (some 114, (.fieldAddr 66 (.tmp 113) 0), none), (some 115, (.load 3 (.tmp 114)), none), (some 116, (.binOp .eql 3 (.tmp 115) (.const (.int .i64 5)) 3), none)] fr H) fun p => some (.normal, p.1, p.2) := x_region _ k9_20 (nr (by kernel_rfl))
@[go_sem] theorem t9_20 (d : Tmp) : takes g9_20 d = false := nr (by kernel_rfl)
noncomputable def g9_21 : Array Oper := regAt Go.Proofs.Try.f9 21
theorem k9_21 : guardsOk g9_21 = true := nr (by kernel_rfl)
@[go_sem] theorem x9_21 {h : Hd} {ro nt id : Nat} {fr : PT} {H : Hp} : ex cx h ro 9 nt (.region id g9_21 false) fr H = xbind (xrun cx h ro 9 nt g9_21 [(some 117, (.move (.tmp 8)), none), (some 118, (.move (.tmp 11)), none), (some 119, (.indexAddr 56 (.tmp 117) (.tmp 118)), none), (some 120, (.fieldAddr 66 (.tmp 119) 4), none), (some 121, (.load 64 (.tmp 120)), none), (some 122, (.indexAddr 64 (.tmp 121) (.const (.int .i64 0))), none), (some 123, (.load 63 (.tmp 122)), none), (some 13, (.alloc 63), none), (none, (.store 63 (.tmp 13) (.tmp 123)), none)] fr H) fun p => some (.normal, p.1, p.2) := x_region _ k9_21 (nr (by kernel_rfl))
@[go_sem] theorem t9_21 (d : Tmp) : takes g9_21 d = false := nr (by kernel_rfl)
noncomputable def g9_22 : Array Oper := regAt Go.Proofs.Try.f9 22
theorem k9_22 : guardsOk g9_22 = true := nr (by kernel_rfl)
@[go_sem] theorem x9_22 {h : Hd} {ro nt id : Nat} {fr : PT} {H : Hp} : ex cx h ro 9 nt (.region id g9_22 true) fr H = orRaw (xrunU cx h ro 9 nt g9_22 H.length [(0, 0, [], (some 124, (.move (.tmp 8)), none)), (1, 0, [0], (some 125, (.fieldAddr 63 (.tmp 13) 0), none)), (2, 0, [0], (some 126, (.load 3 (.tmp 125)), none)), (3, 0, [0, 1, 2], (some 127, (.fieldAddr 63 (.tmp 13) 1), none)), (4, 0, [0, 1, 2], (some 128, (.load 3 (.tmp 127)), none)), (5, 0, [0], (some 129, (.build 61 #[(0, (.tmp 126)), (1, (.tmp 128))]), none)), (6, 0, [], (some 130, (.call ⟨(.value (.func 51)), #[(.tmp 124), (.tmp 129)], #[56, 61]⟩), none)), (7, 0, [0, 1, 2, 3, 4, 5, 6], (some 131, (.load 61 (.tmp 12)), none)), (8, 0, [], (some 132, (.binOp .neq 61 (.tmp 130) (.tmp 131) 61), none))] fr (H ++ List.replicate 0 .res) []) fun _ => regionRaw cx h ro 9 nt g9_22 fr H := x_regionU _ _ k9_22 (nr (by kernel_rfl)) (nr (by kernel_rfl)) (nr (by kernel_rfl)) (nr (by kernel_rfl))
@[go_sem] theorem t9_22 (d : Tmp) : takes g9_22 d = false := nr (by kernel_rfl)
noncomputable def g9_23 : Array Oper := regAt Go.Proofs.Try.f9 23
theorem k9_23 : guardsOk g9_23 = true := nr (by kernel_rfl)
@[go_sem] theorem x9_23 {h : Hd} {ro nt id : Nat} {fr : PT} {H : Hp} : ex cx h ro 9 nt (.region id g9_23 false) fr H = xbind (xrun cx h ro 9 nt g9_23 [(some 6, (.assign (.const (.bool false))), none)] fr H) fun p => some (.normal, p.1, p.2) := x_region _ k9_23 (nr (by kernel_rfl))
@[go_sem] theorem t9_23 (d : Tmp) : takes g9_23 d = false := nr (by kernel_rfl)
noncomputable def g9_24 : Array Oper := regAt Go.Proofs.Try.f9 24
theorem k9_24 : guardsOk g9_24 = true := nr (by kernel_rfl)
@[go_sem] theorem x9_24 {h : Hd} {ro nt id : Nat} {fr : PT} {H : Hp} : ex cx h ro 9 nt (.region id g9_24 false) fr H = xbind (xrun cx h ro 9 nt g9_24 [(some 47, (.move (.tmp 11)), none), (some 48, (.binOp .add 3 (.tmp 47) (.const (.int .i64 1)) 3), none), (some 11, (.assign (.tmp 48)), none)] fr H) fun p => some (.normal, p.1, p.2) := x_region _ k9_24 (nr (by kernel_rfl))
@[go_sem] theorem t9_24 (d : Tmp) : takes g9_24 d = false := nr (by kernel_rfl)
noncomputable def g9_25 : Array Oper := regAt Go.Proofs.Try.f9 25
theorem k9_25 : guardsOk g9_25 = true := nr (by kernel_rfl)
@[go_sem] theorem x9_25 {h : Hd} {ro nt id : Nat} {fr : PT} {H : Hp} : ex cx h ro 9 nt (.region id g9_25 false) fr H = xbind (xrun cx h ro 9 nt g9_25 [(some 6, (.assign (.const (.bool true))), none)] fr H) fun p => some (.normal, p.1, p.2) := x_region _ k9_25 (nr (by kernel_rfl))
@[go_sem] theorem t9_25 (d : Tmp) : takes g9_25 d = false := nr (by kernel_rfl)
noncomputable def l9_0 : Code := (.seq (.seq (.region 11 g9_11 false) (.cond (.tmp 46) .skip (.exit 0))) (.seq (.block 1 (.seq (.region 13 g9_12 false) (.seq (.seq (.region 14 g9_13 false) (.cond (.tmp 55) (.seq (.seq (.region 15 g9_14 false) (.cond (.tmp 70) (.seq (.region 16 g9_15 false) .ret) .skip)) (.exit 1)) .skip)) (.seq (.seq (.region 17 g9_16 true) (.cond (.tmp 95) (.seq (.region 18 g9_17 false) .ret) .skip)) (.seq (.seq (.region 19 g9_18 true) (.cond (.tmp 110) (.seq (.region 20 g9_19 false) .ret) .skip)) (.seq (.region 21 g9_20 false) (.cond (.tmp 116) (.seq (.region 22 g9_21 false) (.seq (.region 23 g9_22 true) (.cond (.tmp 132) (.seq (.region 24 g9_23 false) .ret) .skip))) .skip))))))) (.region 12 g9_24 false)))
theorem dl9_0 {ro nt : Nat} {fr : PT} {H : Hp} : (den cx).loop ro 9 nt l9_0 fr H = xbind (ex cx (den cx) ro 9 nt (.seq (.seq (.region 11 g9_11 false) (.cond (.tmp 46) .skip (.exit 0))) (.seq (.block 1 (.seq (.region 13 g9_12 false) (.seq (.seq (.region 14 g9_13 false) (.cond (.tmp 55) (.seq (.seq (.region 15 g9_14 false) (.cond (.tmp 70) (.seq (.region 16 g9_15 false) .ret) .skip)) (.exit 1)) .skip)) (.seq (.seq (.region 17 g9_16 true) (.cond (.tmp 95) (.seq (.region 18 g9_17 false) .ret) .skip)) (.seq (.seq (.region 19 g9_18 true) (.cond (.tmp 110) (.seq (.region 20 g9_19 false) .ret) .skip)) (.seq (.region 21 g9_20 false) (.cond (.tmp 116) (.seq (.region 22 g9_21 false) (.seq (.region 23 g9_22 true) (.cond (.tmp 132) (.seq (.region 24 g9_23 false) .ret) .skip))) .skip))))))) (.region 12 g9_24 false))) fr H) (contR (trimmed ((den cx).loop ro 9 nt l9_0) H.length)) := den_loop_x l9_0
theorem b9 : Go.Proofs.Try.f9.body = some (.seq (.region 0 g9_0 false) (.seq (.seq (.region 1 g9_1 false) (.cond (.tmp 15) (.seq (.region 2 g9_2 false) .ret) .skip)) (.seq (.seq (.region 3 g9_3 false) (.cond (.tmp 18) (.seq (.region 4 g9_4 false) .ret) .skip)) (.seq (.region 5 g9_5 false) (.seq (.region 6 g9_6 false) (.seq (.region 7 g9_7 false) (.seq (.seq (.region 8 g9_8 false) (.cond (.tmp 43) (.seq (.region 9 g9_9 false) .ret) .skip)) (.seq (.seq (.region 10 g9_10 false) (.block 0 (.loop l9_0))) (.seq (.region 25 g9_25 false) .ret))))))))) := by kernel_rfl
theorem c9 {h : Hd} {ro : Nat} {H : Hp} (a0 a1 a2 : AV) : callB cx h ro 9 [a0, a1, a2] H = returned cx [(.tmp 6)] (ex cx h ro 9 133 (.seq (.region 0 g9_0 false) (.seq (.seq (.region 1 g9_1 false) (.cond (.tmp 15) (.seq (.region 2 g9_2 false) .ret) .skip)) (.seq (.seq (.region 3 g9_3 false) (.cond (.tmp 18) (.seq (.region 4 g9_4 false) .ret) .skip)) (.seq (.region 5 g9_5 false) (.seq (.region 6 g9_6 false) (.seq (.region 7 g9_7 false) (.seq (.seq (.region 8 g9_8 false) (.cond (.tmp 43) (.seq (.region 9 g9_9 false) .ret) .skip)) (.seq (.seq (.region 10 g9_10 false) (.block 0 (.loop l9_0))) (.seq (.region 25 g9_25 false) .ret))))))))) (((PT.nil.set 0 (drp a0)).set 1 (drp a1)).set 2 (drp a2)) H) := by
  have hf : cx.fns 9 = some Go.Proofs.Try.f9 := by kernel_rfl
  simp only [callB, hf, funced, b9, bodied]
  rfl
end Go.Abs.Tab
