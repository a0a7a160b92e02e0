/- Codes of this seat's functions, their regions step by step. (Printed by a program.) -/
import Derived.Test.YtiinagmombigpaaEvY
set_option linter.unusedSimpArgs false
set_option linter.unusedVariables false
set_option linter.unnecessarySimpa false

/- Codes of this seat's functions, their regions step by step. (Printed by a program.) -/
set_option linter.unusedVariables false
namespace Go.Abs.Tab
abbrev XR (n : FuncId) (g : Array Oper) (l : List XO) : Prop := ∀ {h : Hd} {ro nt id : Nat} {fr : PT} {H : Hp}, ex cx h ro n nt (.region id g false) fr H = xbind (xrun cx h ro n nt g l fr H) fun p => some (.normal, p.1, p.2)
theorem XR.mk {n : FuncId} {g : Array Oper} {l : List XO} (hg : guardsOk g = true) (hl : strip g = l) : XR n g l := x_region l hg hl
abbrev XUR (n : FuncId) (g : Array Oper) (l : List XU) (m : Nat) : Prop := ∀ {h : Hd} {ro nt id : Nat} {fr : PT} {H : Hp}, ex cx h ro n nt (.region id g true) fr H = orRaw (xrunU cx h ro n nt g H.length l fr (H ++ List.replicate m .res) []) fun _ => regionRaw cx h ro n nt g fr H
theorem XUR.mk {n : FuncId} {g : Array Oper} {l : List XU} {m : Nat} (h1 : guardsOk g = true) (h2 : forward g = true) (h3 : tempsOk g = true) (hl : stripU cx n g = l) (hm : (g.toList.filter (isAlloc cx n)).length = m) : XUR n g l m := x_regionU l m h1 h2 h3 hl hm
abbrev TK (g : Array Oper) : Prop := ∀ d : Tmp, takes g d = false
abbrev mvo (d t : Tmp) : XO := (some d, .move (.tmp t), none)
end Go.Abs.Tab
namespace Go.Abs.Tab
/-! function 118: colloquy/graph.within -/
noncomputable def g118_0 : Array Oper := regAt Go.Proofs.Try.f118 0
@[go_sem] theorem x118_0 : XR 118 g118_0 [(some 4, (.assign (.const (.bool false))), none)] := XR.mk (nr (by kernel_rfl)) (nr (by kernel_rfl))
@[go_sem] theorem t118_0 : TK g118_0 := fun _ => nr (by kernel_rfl)
noncomputable def g118_1 : Array Oper := regAt Go.Proofs.Try.f118 1
@[go_sem] theorem x118_1 : XR 118 g118_1 [mvo 5 0, (some 6, (.binOp .geq 3 (.tmp 5) (.const (.int .i64 0)) 3), none), mvo 7 6, (some 8, (.move (.tmp 0)), some (7, true)), (some 9, (.move (.tmp 1)), some (7, true)), (some 10, (.binOp .leq 3 (.tmp 8) (.tmp 9) 3), some (7, true)), (some 11, (.pick (.tmp 7) (.tmp 10) (.const (.bool false))), none), (some 4, (.assign (.tmp 11)), none)] := XR.mk (nr (by kernel_rfl)) (nr (by kernel_rfl))
@[go_sem] theorem t118_1 : TK g118_1 := fun _ => nr (by kernel_rfl)
theorem b118 : Go.Proofs.Try.f118.body = some (.seq (.region 0 g118_0 false) (.seq (.region 1 g118_1 false) .ret)) := by kernel_rfl
theorem c118 {h : Hd} {ro : Nat} {H : Hp} (a0 a1 : AV) : callB cx h ro 118 [a0, a1] H = returned cx [(.tmp 4)] (ex cx h ro 118 12 (.seq (.region 0 g118_0 false) (.seq (.region 1 g118_1 false) .ret)) ((PT.nil.set 0 (drp a0)).set 1 (drp a1)) H) := by
  have hf : cx.fns 118 = some Go.Proofs.Try.f118 := by kernel_rfl
  simp only [callB, hf, funced, b118, bodied]
  rfl
/-! function 116: colloquy/graph.shaped -/
noncomputable def g116_0 : Array Oper := regAt Go.Proofs.Try.f116 0
@[go_sem] theorem x116_0 : XR 116 g116_0 [(some 1, (.box 66 (.tmp 0)), none), (some 2, (.assign (.const (.bool false))), none)] := XR.mk (nr (by kernel_rfl)) (nr (by kernel_rfl))
@[go_sem] theorem t116_0 : TK g116_0 := fun _ => nr (by kernel_rfl)
noncomputable def g116_1 : Array Oper := regAt Go.Proofs.Try.f116 1
@[go_sem] theorem x116_1 : XR 116 g116_1 [(some 5, (.fieldAddr 66 (.tmp 1) 0), none), (some 6, (.load 3 (.tmp 5)), none), (some 7, (.call ⟨(.value (.func 118)), #[(.tmp 6), (.const (.int .i64 5))], #[3, 3]⟩), none), (some 8, (.unOp .not 4 (.tmp 7)), none)] := XR.mk (nr (by kernel_rfl)) (nr (by kernel_rfl))
@[go_sem] theorem t116_1 : TK g116_1 := fun _ => nr (by kernel_rfl)
noncomputable def g116_2 : Array Oper := regAt Go.Proofs.Try.f116 2
@[go_sem] theorem x116_2 : XR 116 g116_2 [(some 2, (.assign (.const (.bool false))), none)] := XR.mk (nr (by kernel_rfl)) (nr (by kernel_rfl))
@[go_sem] theorem t116_2 : TK g116_2 := fun _ => nr (by kernel_rfl)
noncomputable def g116_3 : Array Oper := regAt Go.Proofs.Try.f116 3
@[go_sem] theorem x116_3 : XUR 116 g116_3 [(0, 0, [], (some 9, (.call ⟨(.value (.func 152)), #[], #[]⟩), none)), (1, 0, [0], (some 10, (.fieldAddr 66 (.tmp 1) 0), none)), (2, 0, [0], (some 11, (.load 3 (.tmp 10)), none)), (3, 0, [], (some 12, (.index 249 (.tmp 9) (.tmp 11)), none)), (4, 0, [0, 1, 2, 3], (some 3, (.alloc 248), none)), (5, 1, [], (none, (.store 248 (.tmp 3) (.tmp 12)), none))] 1 := XUR.mk (nr (by kernel_rfl)) (nr (by kernel_rfl)) (nr (by kernel_rfl)) (nr (by kernel_rfl)) (nr (by kernel_rfl))
@[go_sem] theorem t116_3 : TK g116_3 := fun _ => nr (by kernel_rfl)
noncomputable def g116_4 : Array Oper := regAt Go.Proofs.Try.f116 4
@[go_sem] theorem x116_4 : XR 116 g116_4 [(some 4, (.assign (.func 153)), none)] := XR.mk (nr (by kernel_rfl)) (nr (by kernel_rfl))
@[go_sem] theorem t116_4 : TK g116_4 := fun _ => nr (by kernel_rfl)
noncomputable def g116_5 : Array Oper := regAt Go.Proofs.Try.f116 5
@[go_sem] theorem x116_5 : XR 116 g116_5 [(some 14, (.fieldAddr 66 (.tmp 1) 4), none), (some 15, (.load 64 (.tmp 14)), none), (some 16, (.call ⟨(.builtin .len), #[(.tmp 15)], #[64]⟩), none), (some 17, (.fieldAddr 248 (.tmp 3) 0), none), (some 18, (.load 3 (.tmp 17)), none), (some 19, (.binOp .lss 3 (.tmp 16) (.tmp 18) 3), none), mvo 20 19, (some 21, (.fieldAddr 66 (.tmp 1) 4), some (20, false)), (some 22, (.load 64 (.tmp 21)), some (20, false)), (some 23, (.call ⟨(.builtin .len), #[(.tmp 22)], #[64]⟩), some (20, false)), (some 24, (.fieldAddr 248 (.tmp 3) 1), some (20, false)), (some 25, (.load 3 (.tmp 24)), some (20, false)), (some 26, (.binOp .gtr 3 (.tmp 23) (.tmp 25) 3), some (20, false)), (some 27, (.pick (.tmp 20) (.const (.bool true)) (.tmp 26)), none), (some 13, (.assign (.tmp 27)), none)] := XR.mk (nr (by kernel_rfl)) (nr (by kernel_rfl))
@[go_sem] theorem t116_5 : TK g116_5 := fun _ => nr (by kernel_rfl)
noncomputable def g116_6 : Array Oper := regAt Go.Proofs.Try.f116 6
@[go_sem] theorem x116_6 : XR 116 g116_6 [(some 2, (.assign (.const (.bool false))), none)] := XR.mk (nr (by kernel_rfl)) (nr (by kernel_rfl))
@[go_sem] theorem t116_6 : TK g116_6 := fun _ => nr (by kernel_rfl)
noncomputable def g116_7 : Array Oper := regAt Go.Proofs.Try.f116 7
@[go_sem] theorem x116_7 : XR 116 g116_7 [(some 29, (.fieldAddr 66 (.tmp 1) 1), none), (some 30, (.load 3 (.tmp 29)), none), (some 31, (.call ⟨(.value (.func 118)), #[(.tmp 30), (.const (.int .i64 1000))], #[3, 3]⟩), none), (some 32, (.unOp .not 4 (.tmp 31)), none), mvo 33 32, (some 34, (.fieldAddr 248 (.tmp 3) 3), some (33, false)), (some 35, (.load 4 (.tmp 34)), some (33, false)), (some 36, (.move (.tmp 35)), some (33, false)), (some 37, (.fieldAddr 66 (.tmp 1) 1), some (36, true)), (some 38, (.load 3 (.tmp 37)), some (36, true)), (some 39, (.binOp .gtr 3 (.tmp 38) (.const (.int .i64 0)) 3), some (36, true)), (some 40, (.pick (.tmp 36) (.tmp 39) (.const (.bool false))), some (33, false)), (some 41, (.pick (.tmp 33) (.const (.bool true)) (.tmp 40)), none), (some 28, (.assign (.tmp 41)), none)] := XR.mk (nr (by kernel_rfl)) (nr (by kernel_rfl))
@[go_sem] theorem t116_7 : TK g116_7 := fun _ => nr (by kernel_rfl)
noncomputable def g116_8 : Array Oper := regAt Go.Proofs.Try.f116 8
@[go_sem] theorem x116_8 : XR 116 g116_8 [(some 2, (.assign (.const (.bool false))), none)] := XR.mk (nr (by kernel_rfl)) (nr (by kernel_rfl))
@[go_sem] theorem t116_8 : TK g116_8 := fun _ => nr (by kernel_rfl)
noncomputable def g116_9 : Array Oper := regAt Go.Proofs.Try.f116 9
@[go_sem] theorem x116_9 : XR 116 g116_9 [(some 43, (.fieldAddr 66 (.tmp 1) 2), none), (some 44, (.load 4 (.tmp 43)), none), mvo 45 44, (some 46, (.fieldAddr 248 (.tmp 3) 2), some (45, true)), (some 47, (.load 4 (.tmp 46)), some (45, true)), (some 48, (.unOp .not 4 (.tmp 47)), some (45, true)), (some 49, (.pick (.tmp 45) (.tmp 48) (.const (.bool false))), none), mvo 50 49, (some 51, (.fieldAddr 66 (.tmp 1) 2), some (50, false)), (some 52, (.load 4 (.tmp 51)), some (50, false)), (some 53, (.unOp .not 4 (.tmp 52)), some (50, false)), (some 54, (.move (.tmp 53)), some (50, false)), (some 55, (.fieldAddr 66 (.tmp 1) 3), some (54, true)), (some 56, (.load 63 (.tmp 55)), some (54, true)), (some 57, (.build 63 #[]), some (54, true)), (some 58, (.binOp .neq 63 (.tmp 56) (.tmp 57) 63), some (54, true)), (some 59, (.pick (.tmp 54) (.tmp 58) (.const (.bool false))), some (50, false)), (some 60, (.pick (.tmp 50) (.const (.bool true)) (.tmp 59)), none), (some 42, (.assign (.tmp 60)), none)] := XR.mk (nr (by kernel_rfl)) (nr (by kernel_rfl))
@[go_sem] theorem t116_9 : TK g116_9 := fun _ => nr (by kernel_rfl)
noncomputable def g116_10 : Array Oper := regAt Go.Proofs.Try.f116 10
@[go_sem] theorem x116_10 : XR 116 g116_10 [(some 2, (.assign (.const (.bool false))), none)] := XR.mk (nr (by kernel_rfl)) (nr (by kernel_rfl))
@[go_sem] theorem t116_10 : TK g116_10 := fun _ => nr (by kernel_rfl)
noncomputable def g116_11 : Array Oper := regAt Go.Proofs.Try.f116 11
@[go_sem] theorem x116_11 : XR 116 g116_11 [(some 61, (.load 66 (.tmp 1)), none), (some 62, (.call ⟨(.value (.func 117)), #[(.tmp 61)], #[66]⟩), none), mvo 63 4, (some 64, (.call ⟨(.value (.func 154)), #[(.tmp 62), (.tmp 63)], #[64, 251]⟩), none), (some 65, (.unOp .not 4 (.tmp 64)), none), (some 2, (.assign (.tmp 65)), none)] := XR.mk (nr (by kernel_rfl)) (nr (by kernel_rfl))
@[go_sem] theorem t116_11 : TK g116_11 := fun _ => nr (by kernel_rfl)
theorem b116 : Go.Proofs.Try.f116.body = some (.seq (.region 0 g116_0 false) (.seq (.seq (.region 1 g116_1 false) (.cond (.tmp 8) (.seq (.region 2 g116_2 false) .ret) .skip)) (.seq (.region 3 g116_3 true) (.seq (.region 4 g116_4 false) (.seq (.block 0 (.seq (.region 5 g116_5 false) (.cond (.tmp 13) (.seq (.region 6 g116_6 false) .ret) (.seq (.region 7 g116_7 false) (.cond (.tmp 28) (.seq (.region 8 g116_8 false) .ret) (.seq (.region 9 g116_9 false) (.cond (.tmp 42) (.seq (.region 10 g116_10 false) .ret) .skip))))))) (.seq (.region 11 g116_11 false) .ret)))))) := by kernel_rfl
theorem c116 {h : Hd} {ro : Nat} {H : Hp} (a0 : AV) : callB cx h ro 116 [a0] H = returned cx [(.tmp 2)] (ex cx h ro 116 66 (.seq (.region 0 g116_0 false) (.seq (.seq (.region 1 g116_1 false) (.cond (.tmp 8) (.seq (.region 2 g116_2 false) .ret) .skip)) (.seq (.region 3 g116_3 true) (.seq (.region 4 g116_4 false) (.seq (.block 0 (.seq (.region 5 g116_5 false) (.cond (.tmp 13) (.seq (.region 6 g116_6 false) .ret) (.seq (.region 7 g116_7 false) (.cond (.tmp 28) (.seq (.region 8 g116_8 false) .ret) (.seq (.region 9 g116_9 false) (.cond (.tmp 42) (.seq (.region 10 g116_10 false) .ret) .skip))))))) (.seq (.region 11 g116_11 false) .ret)))))) (PT.nil.set 0 (drp a0)) H) := by
  have hf : cx.fns 116 = some Go.Proofs.Try.f116 := by kernel_rfl
  simp only [callB, hf, funced, b116, bodied]
  rfl
/-! function 117: colloquy/graph.edges -/
noncomputable def g117_0 : Array Oper := regAt Go.Proofs.Try.f117 0
@[go_sem] theorem x117_0 : XR 117 g117_0 [(some 1, (.box 66 (.tmp 0)), none), (some 2, (.assign (.const (.slice none 0 0))), none)] := XR.mk (nr (by kernel_rfl)) (nr (by kernel_rfl))
@[go_sem] theorem t117_0 : TK g117_0 := fun _ => nr (by kernel_rfl)
noncomputable def g117_1 : Array Oper := regAt Go.Proofs.Try.f117 1
@[go_sem] theorem x117_1 : XR 117 g117_1 [(some 4, (.fieldAddr 66 (.tmp 1) 4), none), (some 5, (.load 64 (.tmp 4)), none), (some 6, (.call ⟨(.value (.func 155)), #[(.tmp 5)], #[64]⟩), none), (some 3, (.assign (.tmp 6)), none)] := XR.mk (nr (by kernel_rfl)) (nr (by kernel_rfl))
@[go_sem] theorem t117_1 : TK g117_1 := fun _ => nr (by kernel_rfl)
noncomputable def g117_2 : Array Oper := regAt Go.Proofs.Try.f117 2
@[go_sem] theorem x117_2 : XR 117 g117_2 [(some 7, (.fieldAddr 66 (.tmp 1) 2), none), (some 8, (.load 4 (.tmp 7)), none)] := XR.mk (nr (by kernel_rfl)) (nr (by kernel_rfl))
@[go_sem] theorem t117_2 : TK g117_2 := fun _ => nr (by kernel_rfl)
noncomputable def g117_3 : Array Oper := regAt Go.Proofs.Try.f117 3
@[go_sem] theorem x117_3 : XR 117 g117_3 [mvo 9 3, (some 10, (.fieldAddr 66 (.tmp 1) 3), none), (some 11, (.load 63 (.tmp 10)), none), (some 12, (.buildSlice 64 1 #[(0, (.tmp 11))]), none), (some 13, (.call ⟨(.builtin .append), #[(.tmp 9), (.tmp 12)], #[64, 64]⟩), none), (some 3, (.assign (.tmp 13)), none)] := XR.mk (nr (by kernel_rfl)) (nr (by kernel_rfl))
@[go_sem] theorem t117_3_9 : takes g117_3 9 = true := nr (by kernel_rfl)
@[go_sem] theorem t117_3_10 : takes g117_3 10 = false := nr (by kernel_rfl)
@[go_sem] theorem t117_3_11 : takes g117_3 11 = false := nr (by kernel_rfl)
@[go_sem] theorem t117_3_12 : takes g117_3 12 = false := nr (by kernel_rfl)
@[go_sem] theorem t117_3_13 : takes g117_3 13 = false := nr (by kernel_rfl)
@[go_sem] theorem t117_3_3 : takes g117_3 3 = false := nr (by kernel_rfl)
noncomputable def g117_4 : Array Oper := regAt Go.Proofs.Try.f117 4
@[go_sem] theorem x117_4 : XR 117 g117_4 [mvo 14 3, (some 2, (.assign (.tmp 14)), none)] := XR.mk (nr (by kernel_rfl)) (nr (by kernel_rfl))
@[go_sem] theorem t117_4 : TK g117_4 := fun _ => nr (by kernel_rfl)
theorem b117 : Go.Proofs.Try.f117.body = some (.seq (.region 0 g117_0 false) (.seq (.region 1 g117_1 false) (.seq (.seq (.region 2 g117_2 false) (.cond (.tmp 8) (.region 3 g117_3 false) .skip)) (.seq (.region 4 g117_4 false) .ret)))) := by kernel_rfl
theorem c117 {h : Hd} {ro : Nat} {H : Hp} (a0 : AV) : callB cx h ro 117 [a0] H = returned cx [(.tmp 2)] (ex cx h ro 117 15 (.seq (.region 0 g117_0 false) (.seq (.region 1 g117_1 false) (.seq (.seq (.region 2 g117_2 false) (.cond (.tmp 8) (.region 3 g117_3 false) .skip)) (.seq (.region 4 g117_4 false) .ret)))) (PT.nil.set 0 (drp a0)) H) := by
  have hf : cx.fns 117 = some Go.Proofs.Try.f117 := by kernel_rfl
  simp only [callB, hf, funced, b117, bodied]
  rfl
/-! function 153: colloquy/graph.shaped$1 -/
noncomputable def g153_0 : Array Oper := regAt Go.Proofs.Try.f153 0
@[go_sem] theorem x153_0 : XR 153 g153_0 [(some 1, (.box 63 (.tmp 0)), none), (some 2, (.assign (.const (.bool false))), none)] := XR.mk (nr (by kernel_rfl)) (nr (by kernel_rfl))
@[go_sem] theorem t153_0 : TK g153_0 := fun _ => nr (by kernel_rfl)
noncomputable def g153_1 : Array Oper := regAt Go.Proofs.Try.f153 1
@[go_sem] theorem x153_1 : XR 153 g153_1 [(some 3, (.fieldAddr 63 (.tmp 1) 1), none), (some 4, (.load 3 (.tmp 3)), none), (some 5, (.call ⟨(.value (.func 118)), #[(.tmp 4), (.const (.int .i64 1000))], #[3, 3]⟩), none), (some 6, (.unOp .not 4 (.tmp 5)), none), (some 2, (.assign (.tmp 6)), none)] := XR.mk (nr (by kernel_rfl)) (nr (by kernel_rfl))
@[go_sem] theorem t153_1 : TK g153_1 := fun _ => nr (by kernel_rfl)
theorem b153 : Go.Proofs.Try.f153.body = some (.seq (.region 0 g153_0 false) (.seq (.region 1 g153_1 false) .ret)) := by kernel_rfl
theorem c153 {h : Hd} {ro : Nat} {H : Hp} (a0 : AV) : callB cx h ro 153 [a0] H = returned cx [(.tmp 2)] (ex cx h ro 153 7 (.seq (.region 0 g153_0 false) (.seq (.region 1 g153_1 false) .ret)) (PT.nil.set 0 (drp a0)) H) := by
  have hf : cx.fns 153 = some Go.Proofs.Try.f153 := by kernel_rfl
  simp only [callB, hf, funced, b153, bodied]
  rfl
/-! function 154: slices.ContainsFunc[[]colloquy/api.Edge,colloquy/api.Edge] -/
noncomputable def g154_0 : Array Oper := regAt Go.Proofs.Try.f154 0
@[go_sem] theorem x154_0 : XR 154 g154_0 [(some 4, (.assign (.const (.bool false))), none)] := XR.mk (nr (by kernel_rfl)) (nr (by kernel_rfl))
@[go_sem] theorem t154_0 : TK g154_0 := fun _ => nr (by kernel_rfl)
noncomputable def g154_1 : Array Oper := regAt Go.Proofs.Try.f154 1
@[go_sem] theorem x154_1 : XR 154 g154_1 [mvo 5 0, mvo 6 1, (some 7, (.call ⟨(.value (.func 175)), #[(.tmp 5), (.tmp 6)], #[64, 251]⟩), none), (some 8, (.binOp .geq 3 (.tmp 7) (.const (.int .i64 0)) 3), none), (some 4, (.assign (.tmp 8)), none)] := XR.mk (nr (by kernel_rfl)) (nr (by kernel_rfl))
@[go_sem] theorem t154_1 : TK g154_1 := fun _ => nr (by kernel_rfl)
theorem b154 : Go.Proofs.Try.f154.body = some (.seq (.region 0 g154_0 false) (.seq (.region 1 g154_1 false) .ret)) := by kernel_rfl
theorem c154 {h : Hd} {ro : Nat} {H : Hp} (a0 a1 : AV) : callB cx h ro 154 [a0, a1] H = returned cx [(.tmp 4)] (ex cx h ro 154 9 (.seq (.region 0 g154_0 false) (.seq (.region 1 g154_1 false) .ret)) ((PT.nil.set 0 (drp a0)).set 1 (drp a1)) H) := by
  have hf : cx.fns 154 = some Go.Proofs.Try.f154 := by kernel_rfl
  simp only [callB, hf, funced, b154, bodied]
  rfl
/-! function 155: slices.Clone[[]colloquy/api.Edge,colloquy/api.Edge] -/
noncomputable def g155_0 : Array Oper := regAt Go.Proofs.Try.f155 0
@[go_sem] theorem x155_0 : XR 155 g155_0 [(some 2, (.assign (.const (.slice none 0 0))), none)] := XR.mk (nr (by kernel_rfl)) (nr (by kernel_rfl))
@[go_sem] theorem t155_0 : TK g155_0 := fun _ => nr (by kernel_rfl)
noncomputable def g155_1 : Array Oper := regAt Go.Proofs.Try.f155 1
@[go_sem] theorem x155_1 : XR 155 g155_1 [mvo 3 0, (some 4, (.binOp .eql 64 (.tmp 3) (.const (.slice none 0 0)) 64), none)] := XR.mk (nr (by kernel_rfl)) (nr (by kernel_rfl))
@[go_sem] theorem t155_1 : TK g155_1 := fun _ => nr (by kernel_rfl)
noncomputable def g155_2 : Array Oper := regAt Go.Proofs.Try.f155 2
@[go_sem] theorem x155_2 : XR 155 g155_2 [(some 2, (.assign (.const (.slice none 0 0))), none)] := XR.mk (nr (by kernel_rfl)) (nr (by kernel_rfl))
@[go_sem] theorem t155_2 : TK g155_2 := fun _ => nr (by kernel_rfl)
noncomputable def g155_3 : Array Oper := regAt Go.Proofs.Try.f155 3
@[go_sem] theorem x155_3 : XR 155 g155_3 [(some 5, (.buildSlice 64 0 #[]), none), mvo 6 0, (some 7, (.call ⟨(.builtin .append), #[(.tmp 5), (.tmp 6)], #[64, 64]⟩), none), (some 2, (.assign (.tmp 7)), none)] := XR.mk (nr (by kernel_rfl)) (nr (by kernel_rfl))
@[go_sem] theorem t155_3_5 : takes g155_3 5 = true := nr (by kernel_rfl)
@[go_sem] theorem t155_3_6 : takes g155_3 6 = false := nr (by kernel_rfl)
@[go_sem] theorem t155_3_7 : takes g155_3 7 = false := nr (by kernel_rfl)
@[go_sem] theorem t155_3_2 : takes g155_3 2 = false := nr (by kernel_rfl)
theorem b155 : Go.Proofs.Try.f155.body = some (.seq (.region 0 g155_0 false) (.seq (.seq (.region 1 g155_1 false) (.cond (.tmp 4) (.seq (.region 2 g155_2 false) .ret) .skip)) (.seq (.region 3 g155_3 false) .ret))) := by kernel_rfl
theorem c155 {h : Hd} {ro : Nat} {H : Hp} (a0 : AV) : callB cx h ro 155 [a0] H = returned cx [(.tmp 2)] (ex cx h ro 155 8 (.seq (.region 0 g155_0 false) (.seq (.seq (.region 1 g155_1 false) (.cond (.tmp 4) (.seq (.region 2 g155_2 false) .ret) .skip)) (.seq (.region 3 g155_3 false) .ret))) (PT.nil.set 0 (drp a0)) H) := by
  have hf : cx.fns 155 = some Go.Proofs.Try.f155 := by kernel_rfl
  simp only [callB, hf, funced, b155, bodied]
  rfl
/-! function 175: slices.IndexFunc[[]colloquy/api.Edge,colloquy/api.Edge] -/
noncomputable def g175_0 : Array Oper := regAt Go.Proofs.Try.f175 0
@[go_sem] theorem x175_0 : XR 175 g175_0 [(some 4, (.assign (.const (.int .i64 0))), none)] := XR.mk (nr (by kernel_rfl)) (nr (by kernel_rfl))
@[go_sem] theorem t175_0 : TK g175_0 := fun _ => nr (by kernel_rfl)
noncomputable def g175_1 : Array Oper := regAt Go.Proofs.Try.f175 1
@[go_sem] theorem x175_1 : XR 175 g175_1 [mvo 6 0, (some 7, (.call ⟨(.builtin .len), #[(.tmp 6)], #[64]⟩), none), (some 8, (.move (.const (.int .i64 0))), none)] := XR.mk (nr (by kernel_rfl)) (nr (by kernel_rfl))
@[go_sem] theorem t175_1 : TK g175_1 := fun _ => nr (by kernel_rfl)
noncomputable def g175_2 : Array Oper := regAt Go.Proofs.Try.f175 2
@[go_sem] theorem x175_2 : XR 175 g175_2 [(some 9, (.binOp .lss 3 (.tmp 8) (.tmp 7) 3), none)] := XR.mk (nr (by kernel_rfl)) (nr (by kernel_rfl))
@[go_sem] theorem t175_2 : TK g175_2 := fun _ => nr (by kernel_rfl)
noncomputable def g175_3 : Array Oper := regAt Go.Proofs.Try.f175 3
@[go_sem] theorem x175_3 : XR 175 g175_3 [mvo 10 8, (some 5, (.assign (.tmp 10)), none)] := XR.mk (nr (by kernel_rfl)) (nr (by kernel_rfl))
@[go_sem] theorem t175_3 : TK g175_3 := fun _ => nr (by kernel_rfl)
noncomputable def g175_4 : Array Oper := regAt Go.Proofs.Try.f175 4
@[go_sem] theorem x175_4 : XR 175 g175_4 [mvo 11 1, mvo 12 0, mvo 13 5, (some 14, (.indexAddr 64 (.tmp 12) (.tmp 13)), none), (some 15, (.load 63 (.tmp 14)), none), (some 16, (.call ⟨(.value (.tmp 11)), #[(.tmp 15)], #[63]⟩), none)] := XR.mk (nr (by kernel_rfl)) (nr (by kernel_rfl))
@[go_sem] theorem t175_4 : TK g175_4 := fun _ => nr (by kernel_rfl)
noncomputable def g175_5 : Array Oper := regAt Go.Proofs.Try.f175 5
@[go_sem] theorem x175_5 : XR 175 g175_5 [mvo 17 5, (some 4, (.assign (.tmp 17)), none)] := XR.mk (nr (by kernel_rfl)) (nr (by kernel_rfl))
@[go_sem] theorem t175_5 : TK g175_5 := fun _ => nr (by kernel_rfl)
noncomputable def g175_6 : Array Oper := regAt Go.Proofs.Try.f175 6
@[go_sem] theorem x175_6 : XR 175 g175_6 [(some 18, (.binOp .add 3 (.tmp 8) (.const (.int .i64 1)) 3), none), mvo 8 18] := XR.mk (nr (by kernel_rfl)) (nr (by kernel_rfl))
@[go_sem] theorem t175_6 : TK g175_6 := fun _ => nr (by kernel_rfl)
noncomputable def g175_7 : Array Oper := regAt Go.Proofs.Try.f175 7
@[go_sem] theorem x175_7 : XR 175 g175_7 [(some 4, (.assign (.const (.int .i64 (-1)))), none)] := XR.mk (nr (by kernel_rfl)) (nr (by kernel_rfl))
@[go_sem] theorem t175_7 : TK g175_7 := fun _ => nr (by kernel_rfl)
noncomputable def l175_0 : Code := (.seq (.region 2 g175_2 false) (.seq (.cond (.tmp 9) .skip (.exit 0)) (.seq (.block 1 (.seq (.region 3 g175_3 false) (.seq (.region 4 g175_4 false) (.cond (.tmp 16) (.seq (.region 5 g175_5 false) .ret) .skip)))) (.region 6 g175_6 false))))
theorem dl175_0 {ro nt : Nat} {fr : PT} {H : Hp} : (den cx).loop ro 175 nt l175_0 fr H = xbind (ex cx (den cx) ro 175 nt (.seq (.region 2 g175_2 false) (.seq (.cond (.tmp 9) .skip (.exit 0)) (.seq (.block 1 (.seq (.region 3 g175_3 false) (.seq (.region 4 g175_4 false) (.cond (.tmp 16) (.seq (.region 5 g175_5 false) .ret) .skip)))) (.region 6 g175_6 false)))) fr H) (contR (trimmed ((den cx).loop ro 175 nt l175_0) H.length)) := den_loop_x l175_0
theorem b175 : Go.Proofs.Try.f175.body = some (.seq (.region 0 g175_0 false) (.seq (.seq (.region 1 g175_1 false) (.block 0 (.loop l175_0))) (.seq (.region 7 g175_7 false) .ret))) := by kernel_rfl
theorem c175 {h : Hd} {ro : Nat} {H : Hp} (a0 a1 : AV) : callB cx h ro 175 [a0, a1] H = returned cx [(.tmp 4)] (ex cx h ro 175 19 (.seq (.region 0 g175_0 false) (.seq (.seq (.region 1 g175_1 false) (.block 0 (.loop l175_0))) (.seq (.region 7 g175_7 false) .ret))) ((PT.nil.set 0 (drp a0)).set 1 (drp a1)) H) := by
  have hf : cx.fns 175 = some Go.Proofs.Try.f175 := by kernel_rfl
  simp only [callB, hf, funced, b175, bodied]
  rfl
/-! function 152: colloquy/graph.forms -/
noncomputable def g152_0 : Array Oper := regAt Go.Proofs.Try.f152 0
@[go_sem] theorem x152_0 : XR 152 g152_0 [(some 0, (.alloc 249), none)] := XR.mk (nr (by kernel_rfl)) (nr (by kernel_rfl))
@[go_sem] theorem t152_0 : TK g152_0 := fun _ => nr (by kernel_rfl)
noncomputable def g152_1 : Array Oper := regAt Go.Proofs.Try.f152 1
@[go_sem] theorem x152_1 : XR 152 g152_1 [(some 1, (.build 248 #[(0, (.const (.int .i64 0))), (1, (.const (.int .i64 0))), (2, (.const (.bool false))), (3, (.const (.bool true)))]), none), (some 2, (.build 248 #[(0, (.const (.int .i64 1))), (1, (.const (.int .i64 1))), (2, (.const (.bool true))), (3, (.const (.bool false)))]), none), (some 3, (.build 248 #[(0, (.const (.int .i64 1))), (1, (.const (.int .i64 1))), (2, (.const (.bool true))), (3, (.const (.bool false)))]), none), (some 4, (.build 248 #[(0, (.const (.int .i64 1))), (1, (.const (.int .i64 8))), (2, (.const (.bool false))), (3, (.const (.bool false)))]), none), (some 5, (.build 248 #[(0, (.const (.int .i64 1))), (1, (.const (.int .i64 8))), (2, (.const (.bool false))), (3, (.const (.bool false)))]), none), (some 6, (.build 248 #[(0, (.const (.int .i64 1))), (1, (.const (.int .i64 1))), (2, (.const (.bool false))), (3, (.const (.bool true)))]), none), (some 7, (.build 249 #[(0, (.tmp 1)), (1, (.tmp 2)), (2, (.tmp 3)), (3, (.tmp 4)), (4, (.tmp 5)), (5, (.tmp 6))]), none), (none, (.store 249 (.tmp 0) (.tmp 7)), none)] := XR.mk (nr (by kernel_rfl)) (nr (by kernel_rfl))
@[go_sem] theorem t152_1 : TK g152_1 := fun _ => nr (by kernel_rfl)
theorem b152 : Go.Proofs.Try.f152.body = some (.seq (.region 0 g152_0 false) (.seq (.region 1 g152_1 false) .ret)) := by kernel_rfl
theorem c152 {h : Hd} {ro : Nat} {H : Hp} : callB cx h ro 152 [] H = returned cx [(.cell 0 249)] (ex cx h ro 152 8 (.seq (.region 0 g152_0 false) (.seq (.region 1 g152_1 false) .ret)) PT.nil H) := by
  have hf : cx.fns 152 = some Go.Proofs.Try.f152 := by kernel_rfl
  simp only [callB, hf, funced, b152, bodied]
  rfl
/-! function 157: colloquy/colloquyref04.bounds -/
noncomputable def g157_0 : Array Oper := regAt Go.Proofs.Try.f157 0
@[go_sem] theorem x157_0 : XR 157 g157_0 [(some 2, (.assign (.const (.int .i64 0))), none), (some 3, (.assign (.const (.int .i64 0))), none), (some 4, (.assign (.const (.bool false))), none)] := XR.mk (nr (by kernel_rfl)) (nr (by kernel_rfl))
@[go_sem] theorem t157_0 : TK g157_0 := fun _ => nr (by kernel_rfl)
noncomputable def g157_1 : Array Oper := regAt Go.Proofs.Try.f157 1
@[go_sem] theorem x157_1 : XR 157 g157_1 [mvo 5 0, (some 6, (.binOp .eql 3 (.tmp 5) (.const (.int .i64 0)) 3), none)] := XR.mk (nr (by kernel_rfl)) (nr (by kernel_rfl))
@[go_sem] theorem t157_1 : TK g157_1 := fun _ => nr (by kernel_rfl)
noncomputable def g157_2 : Array Oper := regAt Go.Proofs.Try.f157 2
@[go_sem] theorem x157_2 : XR 157 g157_2 [(some 2, (.assign (.const (.int .i64 0))), none), (some 3, (.assign (.const (.int .i64 0))), none), (some 4, (.assign (.const (.bool true))), none)] := XR.mk (nr (by kernel_rfl)) (nr (by kernel_rfl))
@[go_sem] theorem t157_2 : TK g157_2 := fun _ => nr (by kernel_rfl)
noncomputable def g157_3 : Array Oper := regAt Go.Proofs.Try.f157 3
@[go_sem] theorem x157_3 : XR 157 g157_3 [mvo 7 0, (some 8, (.binOp .eql 3 (.tmp 7) (.const (.int .i64 1)) 3), none), mvo 9 8, (some 10, (.move (.tmp 0)), some (9, false)), (some 11, (.binOp .eql 3 (.tmp 10) (.const (.int .i64 2)) 3), some (9, false)), (some 12, (.pick (.tmp 9) (.const (.bool true)) (.tmp 11)), none), mvo 13 12, (some 14, (.move (.tmp 0)), some (13, false)), (some 15, (.binOp .eql 3 (.tmp 14) (.const (.int .i64 5)) 3), some (13, false)), (some 16, (.pick (.tmp 13) (.const (.bool true)) (.tmp 15)), none)] := XR.mk (nr (by kernel_rfl)) (nr (by kernel_rfl))
@[go_sem] theorem t157_3 : TK g157_3 := fun _ => nr (by kernel_rfl)
noncomputable def g157_4 : Array Oper := regAt Go.Proofs.Try.f157 4
@[go_sem] theorem x157_4 : XR 157 g157_4 [(some 2, (.assign (.const (.int .i64 1))), none), (some 3, (.assign (.const (.int .i64 1))), none), (some 4, (.assign (.const (.bool true))), none)] := XR.mk (nr (by kernel_rfl)) (nr (by kernel_rfl))
@[go_sem] theorem t157_4 : TK g157_4 := fun _ => nr (by kernel_rfl)
noncomputable def g157_5 : Array Oper := regAt Go.Proofs.Try.f157 5
@[go_sem] theorem x157_5 : XR 157 g157_5 [mvo 17 0, (some 18, (.binOp .eql 3 (.tmp 17) (.const (.int .i64 3)) 3), none), mvo 19 18, (some 20, (.move (.tmp 0)), some (19, false)), (some 21, (.binOp .eql 3 (.tmp 20) (.const (.int .i64 4)) 3), some (19, false)), (some 22, (.pick (.tmp 19) (.const (.bool true)) (.tmp 21)), none)] := XR.mk (nr (by kernel_rfl)) (nr (by kernel_rfl))
@[go_sem] theorem t157_5 : TK g157_5 := fun _ => nr (by kernel_rfl)
noncomputable def g157_6 : Array Oper := regAt Go.Proofs.Try.f157 6
@[go_sem] theorem x157_6 : XR 157 g157_6 [(some 2, (.assign (.const (.int .i64 1))), none), (some 3, (.assign (.const (.int .i64 8))), none), (some 4, (.assign (.const (.bool true))), none)] := XR.mk (nr (by kernel_rfl)) (nr (by kernel_rfl))
@[go_sem] theorem t157_6 : TK g157_6 := fun _ => nr (by kernel_rfl)
noncomputable def g157_7 : Array Oper := regAt Go.Proofs.Try.f157 7
@[go_sem] theorem x157_7 : XR 157 g157_7 [(some 2, (.assign (.const (.int .i64 0))), none), (some 3, (.assign (.const (.int .i64 0))), none), (some 4, (.assign (.const (.bool false))), none)] := XR.mk (nr (by kernel_rfl)) (nr (by kernel_rfl))
@[go_sem] theorem t157_7 : TK g157_7 := fun _ => nr (by kernel_rfl)
theorem b157 : Go.Proofs.Try.f157.body = some (.seq (.region 0 g157_0 false) (.seq (.seq (.region 1 g157_1 false) (.cond (.tmp 6) (.seq (.region 2 g157_2 false) .ret) .skip)) (.seq (.seq (.region 3 g157_3 false) (.cond (.tmp 16) (.seq (.region 4 g157_4 false) .ret) .skip)) (.seq (.seq (.region 5 g157_5 false) (.cond (.tmp 22) (.seq (.region 6 g157_6 false) .ret) .skip)) (.seq (.region 7 g157_7 false) .ret))))) := by kernel_rfl
theorem c157 {h : Hd} {ro : Nat} {H : Hp} (a0 : AV) : callB cx h ro 157 [a0] H = returned cx [(.tmp 2), (.tmp 3), (.tmp 4)] (ex cx h ro 157 23 (.seq (.region 0 g157_0 false) (.seq (.seq (.region 1 g157_1 false) (.cond (.tmp 6) (.seq (.region 2 g157_2 false) .ret) .skip)) (.seq (.seq (.region 3 g157_3 false) (.cond (.tmp 16) (.seq (.region 4 g157_4 false) .ret) .skip)) (.seq (.seq (.region 5 g157_5 false) (.cond (.tmp 22) (.seq (.region 6 g157_6 false) .ret) .skip)) (.seq (.region 7 g157_7 false) .ret))))) (PT.nil.set 0 (drp a0)) H) := by
  have hf : cx.fns 157 = some Go.Proofs.Try.f157 := by kernel_rfl
  simp only [callB, hf, funced, b157, bodied]
  rfl
/-! function 120: colloquy/colloquyref04.shape -/
noncomputable def g120_0 : Array Oper := regAt Go.Proofs.Try.f120 0
@[go_sem] theorem x120_0 : XR 120 g120_0 [(some 1, (.box 66 (.tmp 0)), none), (some 2, (.assign (.const (.bool false))), none)] := XR.mk (nr (by kernel_rfl)) (nr (by kernel_rfl))
@[go_sem] theorem t120_0 : TK g120_0 := fun _ => nr (by kernel_rfl)
noncomputable def g120_1 : Array Oper := regAt Go.Proofs.Try.f120 1
@[go_sem] theorem x120_1 : XR 120 g120_1 [(some 8, (.fieldAddr 66 (.tmp 1) 0), none), (some 9, (.load 3 (.tmp 8)), none), (some 10, (.call ⟨(.value (.func 157)), #[(.tmp 9)], #[3]⟩), none), mvo 7 10, (some 11, (.extract (.tmp 7) 0), none), (some 12, (.extract (.tmp 7) 1), none), (some 13, (.extract (.tmp 7) 2), none), (some 3, (.assign (.tmp 11)), none), (some 4, (.assign (.tmp 12)), none), (some 5, (.assign (.tmp 13)), none)] := XR.mk (nr (by kernel_rfl)) (nr (by kernel_rfl))
@[go_sem] theorem t120_1 : TK g120_1 := fun _ => nr (by kernel_rfl)
noncomputable def g120_2 : Array Oper := regAt Go.Proofs.Try.f120 2
@[go_sem] theorem x120_2 : XR 120 g120_2 [mvo 14 5, (some 15, (.unOp .not 4 (.tmp 14)), none), mvo 16 15, (some 17, (.fieldAddr 66 (.tmp 1) 4), some (16, false)), (some 18, (.load 64 (.tmp 17)), some (16, false)), (some 19, (.call ⟨(.builtin .len), #[(.tmp 18)], #[64]⟩), some (16, false)), (some 20, (.move (.tmp 3)), some (16, false)), (some 21, (.binOp .lss 3 (.tmp 19) (.tmp 20) 3), some (16, false)), (some 22, (.pick (.tmp 16) (.const (.bool true)) (.tmp 21)), none), mvo 23 22, (some 24, (.fieldAddr 66 (.tmp 1) 4), some (23, false)), (some 25, (.load 64 (.tmp 24)), some (23, false)), (some 26, (.call ⟨(.builtin .len), #[(.tmp 25)], #[64]⟩), some (23, false)), (some 27, (.move (.tmp 4)), some (23, false)), (some 28, (.binOp .gtr 3 (.tmp 26) (.tmp 27) 3), some (23, false)), (some 29, (.pick (.tmp 23) (.const (.bool true)) (.tmp 28)), none), mvo 30 29, (some 31, (.fieldAddr 66 (.tmp 1) 1), some (30, false)), (some 32, (.load 3 (.tmp 31)), some (30, false)), (some 33, (.binOp .lss 3 (.tmp 32) (.const (.int .i64 0)) 3), some (30, false)), (some 34, (.pick (.tmp 30) (.const (.bool true)) (.tmp 33)), none), mvo 35 34, (some 36, (.fieldAddr 66 (.tmp 1) 1), some (35, false)), (some 37, (.load 3 (.tmp 36)), some (35, false)), (some 38, (.binOp .gtr 3 (.tmp 37) (.const (.int .i64 1000)) 3), some (35, false)), (some 39, (.pick (.tmp 35) (.const (.bool true)) (.tmp 38)), none)] := XR.mk (nr (by kernel_rfl)) (nr (by kernel_rfl))
@[go_sem] theorem t120_2 : TK g120_2 := fun _ => nr (by kernel_rfl)
noncomputable def g120_3 : Array Oper := regAt Go.Proofs.Try.f120 3
@[go_sem] theorem x120_3 : XR 120 g120_3 [(some 2, (.assign (.const (.bool false))), none)] := XR.mk (nr (by kernel_rfl)) (nr (by kernel_rfl))
@[go_sem] theorem t120_3 : TK g120_3 := fun _ => nr (by kernel_rfl)
noncomputable def g120_4 : Array Oper := regAt Go.Proofs.Try.f120 4
@[go_sem] theorem x120_4 : XR 120 g120_4 [(some 6, (.assign (.const (.int .i64 0))), none)] := XR.mk (nr (by kernel_rfl)) (nr (by kernel_rfl))
@[go_sem] theorem t120_4 : TK g120_4 := fun _ => nr (by kernel_rfl)
noncomputable def g120_5 : Array Oper := regAt Go.Proofs.Try.f120 5
@[go_sem] theorem x120_5 : XR 120 g120_5 [mvo 40 6, (some 41, (.fieldAddr 66 (.tmp 1) 4), none), (some 42, (.load 64 (.tmp 41)), none), (some 43, (.call ⟨(.builtin .len), #[(.tmp 42)], #[64]⟩), none), (some 44, (.binOp .lss 3 (.tmp 40) (.tmp 43) 3), none)] := XR.mk (nr (by kernel_rfl)) (nr (by kernel_rfl))
@[go_sem] theorem t120_5 : TK g120_5 := fun _ => nr (by kernel_rfl)
noncomputable def g120_6 : Array Oper := regAt Go.Proofs.Try.f120 6
@[go_sem] theorem x120_6 : XR 120 g120_6 [(some 47, (.fieldAddr 66 (.tmp 1) 4), none), (some 48, (.load 64 (.tmp 47)), none), mvo 49 6, (some 50, (.indexAddr 64 (.tmp 48) (.tmp 49)), none), (some 51, (.fieldAddr 63 (.tmp 50) 1), none), (some 52, (.load 3 (.tmp 51)), none), (some 53, (.binOp .lss 3 (.tmp 52) (.const (.int .i64 0)) 3), none), mvo 54 53, (some 55, (.fieldAddr 66 (.tmp 1) 4), some (54, false)), (some 56, (.load 64 (.tmp 55)), some (54, false)), (some 57, (.move (.tmp 6)), some (54, false)), (some 58, (.indexAddr 64 (.tmp 56) (.tmp 57)), some (54, false)), (some 59, (.fieldAddr 63 (.tmp 58) 1), some (54, false)), (some 60, (.load 3 (.tmp 59)), some (54, false)), (some 61, (.binOp .gtr 3 (.tmp 60) (.const (.int .i64 1000)) 3), some (54, false)), (some 62, (.pick (.tmp 54) (.const (.bool true)) (.tmp 61)), none)] := XR.mk (nr (by kernel_rfl)) (nr (by kernel_rfl))
@[go_sem] theorem t120_6 : TK g120_6 := fun _ => nr (by kernel_rfl)
noncomputable def g120_7 : Array Oper := regAt Go.Proofs.Try.f120 7
@[go_sem] theorem x120_7 : XR 120 g120_7 [(some 2, (.assign (.const (.bool false))), none)] := XR.mk (nr (by kernel_rfl)) (nr (by kernel_rfl))
@[go_sem] theorem t120_7 : TK g120_7 := fun _ => nr (by kernel_rfl)
noncomputable def g120_8 : Array Oper := regAt Go.Proofs.Try.f120 8
@[go_sem] theorem x120_8 : XR 120 g120_8 [mvo 45 6, (some 46, (.binOp .add 3 (.tmp 45) (.const (.int .i64 1)) 3), none), (some 6, (.assign (.tmp 46)), none)] := XR.mk (nr (by kernel_rfl)) (nr (by kernel_rfl))
@[go_sem] theorem t120_8 : TK g120_8 := fun _ => nr (by kernel_rfl)
noncomputable def g120_9 : Array Oper := regAt Go.Proofs.Try.f120 9
@[go_sem] theorem x120_9 : XR 120 g120_9 [(some 63, (.fieldAddr 66 (.tmp 1) 0), none), (some 64, (.load 3 (.tmp 63)), none), (some 65, (.binOp .eql 3 (.tmp 64) (.const (.int .i64 0)) 3), none), mvo 66 65, (some 67, (.fieldAddr 66 (.tmp 1) 0), some (66, false)), (some 68, (.load 3 (.tmp 67)), some (66, false)), (some 69, (.binOp .eql 3 (.tmp 68) (.const (.int .i64 5)) 3), some (66, false)), (some 70, (.pick (.tmp 66) (.const (.bool true)) (.tmp 69)), none), mvo 71 70, (some 72, (.fieldAddr 66 (.tmp 1) 1), some (71, true)), (some 73, (.load 3 (.tmp 72)), some (71, true)), (some 74, (.binOp .neq 3 (.tmp 73) (.const (.int .i64 0)) 3), some (71, true)), (some 75, (.pick (.tmp 71) (.tmp 74) (.const (.bool false))), none)] := XR.mk (nr (by kernel_rfl)) (nr (by kernel_rfl))
@[go_sem] theorem t120_9 : TK g120_9 := fun _ => nr (by kernel_rfl)
noncomputable def g120_10 : Array Oper := regAt Go.Proofs.Try.f120 10
@[go_sem] theorem x120_10 : XR 120 g120_10 [(some 2, (.assign (.const (.bool false))), none)] := XR.mk (nr (by kernel_rfl)) (nr (by kernel_rfl))
@[go_sem] theorem t120_10 : TK g120_10 := fun _ => nr (by kernel_rfl)
noncomputable def g120_11 : Array Oper := regAt Go.Proofs.Try.f120 11
@[go_sem] theorem x120_11 : XR 120 g120_11 [(some 76, (.fieldAddr 66 (.tmp 1) 2), none), (some 77, (.load 4 (.tmp 76)), none)] := XR.mk (nr (by kernel_rfl)) (nr (by kernel_rfl))
@[go_sem] theorem t120_11 : TK g120_11 := fun _ => nr (by kernel_rfl)
noncomputable def g120_12 : Array Oper := regAt Go.Proofs.Try.f120 12
@[go_sem] theorem x120_12 : XR 120 g120_12 [(some 78, (.fieldAddr 66 (.tmp 1) 0), none), (some 79, (.load 3 (.tmp 78)), none), (some 80, (.binOp .eql 3 (.tmp 79) (.const (.int .i64 1)) 3), none), mvo 81 80, (some 82, (.fieldAddr 66 (.tmp 1) 0), some (81, false)), (some 83, (.load 3 (.tmp 82)), some (81, false)), (some 84, (.binOp .eql 3 (.tmp 83) (.const (.int .i64 2)) 3), some (81, false)), (some 85, (.pick (.tmp 81) (.const (.bool true)) (.tmp 84)), none), mvo 86 85, (some 87, (.fieldAddr 66 (.tmp 1) 3), some (86, true)), (some 88, (.fieldAddr 63 (.tmp 87) 1), some (86, true)), (some 89, (.load 3 (.tmp 88)), some (86, true)), (some 90, (.binOp .geq 3 (.tmp 89) (.const (.int .i64 0)) 3), some (86, true)), (some 91, (.pick (.tmp 86) (.tmp 90) (.const (.bool false))), none), mvo 92 91, (some 93, (.fieldAddr 66 (.tmp 1) 3), some (92, true)), (some 94, (.fieldAddr 63 (.tmp 93) 1), some (92, true)), (some 95, (.load 3 (.tmp 94)), some (92, true)), (some 96, (.binOp .leq 3 (.tmp 95) (.const (.int .i64 1000)) 3), some (92, true)), (some 97, (.pick (.tmp 92) (.tmp 96) (.const (.bool false))), none), (some 2, (.assign (.tmp 97)), none)] := XR.mk (nr (by kernel_rfl)) (nr (by kernel_rfl))
@[go_sem] theorem t120_12 : TK g120_12 := fun _ => nr (by kernel_rfl)
noncomputable def g120_13 : Array Oper := regAt Go.Proofs.Try.f120 13
@[go_sem] theorem x120_13 : XR 120 g120_13 [(some 98, (.fieldAddr 66 (.tmp 1) 3), none), (some 99, (.load 63 (.tmp 98)), none), (some 100, (.build 63 #[]), none), (some 101, (.binOp .eql 63 (.tmp 99) (.tmp 100) 63), none), (some 2, (.assign (.tmp 101)), none)] := XR.mk (nr (by kernel_rfl)) (nr (by kernel_rfl))
@[go_sem] theorem t120_13 : TK g120_13 := fun _ => nr (by kernel_rfl)
noncomputable def l120_0 : Code := (.seq (.seq (.region 5 g120_5 false) (.cond (.tmp 44) .skip (.exit 0))) (.seq (.block 1 (.seq (.region 7 g120_6 false) (.cond (.tmp 62) (.seq (.region 8 g120_7 false) .ret) .skip))) (.region 6 g120_8 false)))
theorem dl120_0 {ro nt : Nat} {fr : PT} {H : Hp} : (den cx).loop ro 120 nt l120_0 fr H = xbind (ex cx (den cx) ro 120 nt (.seq (.seq (.region 5 g120_5 false) (.cond (.tmp 44) .skip (.exit 0))) (.seq (.block 1 (.seq (.region 7 g120_6 false) (.cond (.tmp 62) (.seq (.region 8 g120_7 false) .ret) .skip))) (.region 6 g120_8 false))) fr H) (contR (trimmed ((den cx).loop ro 120 nt l120_0) H.length)) := den_loop_x l120_0
theorem b120 : Go.Proofs.Try.f120.body = some (.seq (.region 0 g120_0 false) (.seq (.region 1 g120_1 false) (.seq (.seq (.region 2 g120_2 false) (.cond (.tmp 39) (.seq (.region 3 g120_3 false) .ret) .skip)) (.seq (.seq (.region 4 g120_4 false) (.block 0 (.loop l120_0))) (.seq (.seq (.region 9 g120_9 false) (.cond (.tmp 75) (.seq (.region 10 g120_10 false) .ret) .skip)) (.seq (.seq (.region 11 g120_11 false) (.cond (.tmp 77) (.seq (.region 12 g120_12 false) .ret) .skip)) (.seq (.region 13 g120_13 false) .ret))))))) := by kernel_rfl
theorem c120 {h : Hd} {ro : Nat} {H : Hp} (a0 : AV) : callB cx h ro 120 [a0] H = returned cx [(.tmp 2)] (ex cx h ro 120 102 (.seq (.region 0 g120_0 false) (.seq (.region 1 g120_1 false) (.seq (.seq (.region 2 g120_2 false) (.cond (.tmp 39) (.seq (.region 3 g120_3 false) .ret) .skip)) (.seq (.seq (.region 4 g120_4 false) (.block 0 (.loop l120_0))) (.seq (.seq (.region 9 g120_9 false) (.cond (.tmp 75) (.seq (.region 10 g120_10 false) .ret) .skip)) (.seq (.seq (.region 11 g120_11 false) (.cond (.tmp 77) (.seq (.region 12 g120_12 false) .ret) .skip)) (.seq (.region 13 g120_13 false) .ret))))))) (PT.nil.set 0 (drp a0)) H) := by
  have hf : cx.fns 120 = some Go.Proofs.Try.f120 := by kernel_rfl
  simp only [callB, hf, funced, b120, bodied]
  rfl
/-! function 121: colloquy/colloquyref04.open -/
noncomputable def g121_0 : Array Oper := regAt Go.Proofs.Try.f121 0
@[go_sem] theorem x121_0 : XR 121 g121_0 [(some 2, (.box 66 (.tmp 0)), none), (some 4, (.assign (.const (.bool false))), none)] := XR.mk (nr (by kernel_rfl)) (nr (by kernel_rfl))
@[go_sem] theorem t121_0 : TK g121_0 := fun _ => nr (by kernel_rfl)
noncomputable def g121_1 : Array Oper := regAt Go.Proofs.Try.f121 1
@[go_sem] theorem x121_1 : XR 121 g121_1 [(some 5, (.assign (.const (.int .i64 0))), none)] := XR.mk (nr (by kernel_rfl)) (nr (by kernel_rfl))
@[go_sem] theorem t121_1 : TK g121_1 := fun _ => nr (by kernel_rfl)
noncomputable def g121_2 : Array Oper := regAt Go.Proofs.Try.f121 2
@[go_sem] theorem x121_2 : XR 121 g121_2 [mvo 6 5, (some 7, (.fieldAddr 66 (.tmp 2) 4), none), (some 8, (.load 64 (.tmp 7)), none), (some 9, (.call ⟨(.builtin .len), #[(.tmp 8)], #[64]⟩), none), (some 10, (.binOp .lss 3 (.tmp 6) (.tmp 9) 3), none)] := XR.mk (nr (by kernel_rfl)) (nr (by kernel_rfl))
@[go_sem] theorem t121_2 : TK g121_2 := fun _ => nr (by kernel_rfl)
noncomputable def g121_3 : Array Oper := regAt Go.Proofs.Try.f121 3
@[go_sem] theorem x121_3 : XR 121 g121_3 [(some 13, (.fieldAddr 66 (.tmp 2) 4), none), (some 14, (.load 64 (.tmp 13)), none), mvo 15 5, (some 16, (.indexAddr 64 (.tmp 14) (.tmp 15)), none), (some 17, (.fieldAddr 63 (.tmp 16) 0), none), (some 18, (.load 3 (.tmp 17)), none), (some 19, (.binOp .lss 3 (.tmp 18) (.const (.int .i64 0)) 3), none), mvo 20 19, (some 21, (.fieldAddr 66 (.tmp 2) 4), some (20, false)), (some 22, (.load 64 (.tmp 21)), some (20, false)), (some 23, (.move (.tmp 5)), some (20, false)), (some 24, (.indexAddr 64 (.tmp 22) (.tmp 23)), some (20, false)), (some 25, (.fieldAddr 63 (.tmp 24) 0), some (20, false)), (some 26, (.load 3 (.tmp 25)), some (20, false)), (some 27, (.move (.tmp 1)), some (20, false)), (some 28, (.binOp .geq 3 (.tmp 26) (.tmp 27) 3), some (20, false)), (some 29, (.pick (.tmp 20) (.const (.bool true)) (.tmp 28)), none)] := XR.mk (nr (by kernel_rfl)) (nr (by kernel_rfl))
@[go_sem] theorem t121_3 : TK g121_3 := fun _ => nr (by kernel_rfl)
noncomputable def g121_4 : Array Oper := regAt Go.Proofs.Try.f121 4
@[go_sem] theorem x121_4 : XR 121 g121_4 [(some 4, (.assign (.const (.bool true))), none)] := XR.mk (nr (by kernel_rfl)) (nr (by kernel_rfl))
@[go_sem] theorem t121_4 : TK g121_4 := fun _ => nr (by kernel_rfl)
noncomputable def g121_5 : Array Oper := regAt Go.Proofs.Try.f121 5
@[go_sem] theorem x121_5 : XR 121 g121_5 [mvo 11 5, (some 12, (.binOp .add 3 (.tmp 11) (.const (.int .i64 1)) 3), none), (some 5, (.assign (.tmp 12)), none)] := XR.mk (nr (by kernel_rfl)) (nr (by kernel_rfl))
@[go_sem] theorem t121_5 : TK g121_5 := fun _ => nr (by kernel_rfl)
noncomputable def g121_6 : Array Oper := regAt Go.Proofs.Try.f121 6
@[go_sem] theorem x121_6 : XR 121 g121_6 [(some 30, (.fieldAddr 66 (.tmp 2) 2), none), (some 31, (.load 4 (.tmp 30)), none), mvo 32 31, (some 33, (.fieldAddr 66 (.tmp 2) 3), some (32, true)), (some 34, (.fieldAddr 63 (.tmp 33) 0), some (32, true)), (some 35, (.load 3 (.tmp 34)), some (32, true)), (some 36, (.binOp .lss 3 (.tmp 35) (.const (.int .i64 0)) 3), some (32, true)), (some 37, (.move (.tmp 36)), some (32, true)), (some 38, (.fieldAddr 66 (.tmp 2) 3), some (37, false)), (some 39, (.fieldAddr 63 (.tmp 38) 0), some (37, false)), (some 40, (.load 3 (.tmp 39)), some (37, false)), (some 41, (.move (.tmp 1)), some (37, false)), (some 42, (.binOp .geq 3 (.tmp 40) (.tmp 41) 3), some (37, false)), (some 43, (.pick (.tmp 37) (.const (.bool true)) (.tmp 42)), some (32, true)), (some 44, (.pick (.tmp 32) (.tmp 43) (.const (.bool false))), none), (some 4, (.assign (.tmp 44)), none)] := XR.mk (nr (by kernel_rfl)) (nr (by kernel_rfl))
@[go_sem] theorem t121_6 : TK g121_6 := fun _ => nr (by kernel_rfl)
noncomputable def l121_0 : Code := (.seq (.seq (.region 2 g121_2 false) (.cond (.tmp 10) .skip (.exit 0))) (.seq (.block 1 (.seq (.region 4 g121_3 false) (.cond (.tmp 29) (.seq (.region 5 g121_4 false) .ret) .skip))) (.region 3 g121_5 false)))
theorem dl121_0 {ro nt : Nat} {fr : PT} {H : Hp} : (den cx).loop ro 121 nt l121_0 fr H = xbind (ex cx (den cx) ro 121 nt (.seq (.seq (.region 2 g121_2 false) (.cond (.tmp 10) .skip (.exit 0))) (.seq (.block 1 (.seq (.region 4 g121_3 false) (.cond (.tmp 29) (.seq (.region 5 g121_4 false) .ret) .skip))) (.region 3 g121_5 false))) fr H) (contR (trimmed ((den cx).loop ro 121 nt l121_0) H.length)) := den_loop_x l121_0
theorem b121 : Go.Proofs.Try.f121.body = some (.seq (.region 0 g121_0 false) (.seq (.seq (.region 1 g121_1 false) (.block 0 (.loop l121_0))) (.seq (.region 6 g121_6 false) .ret))) := by kernel_rfl
theorem c121 {h : Hd} {ro : Nat} {H : Hp} (a0 a1 : AV) : callB cx h ro 121 [a0, a1] H = returned cx [(.tmp 4)] (ex cx h ro 121 45 (.seq (.region 0 g121_0 false) (.seq (.seq (.region 1 g121_1 false) (.block 0 (.loop l121_0))) (.seq (.region 6 g121_6 false) .ret))) ((PT.nil.set 0 (drp a0)).set 1 (drp a1)) H) := by
  have hf : cx.fns 121 = some Go.Proofs.Try.f121 := by kernel_rfl
  simp only [callB, hf, funced, b121, bodied]
  rfl
/-! function 119: colloquy/graph.way -/
noncomputable def g119_0 : Array Oper := regAt Go.Proofs.Try.f119 0
@[go_sem] theorem x119_0 : XR 119 g119_0 [(some 2, (.box 56 (.tmp 0)), none), (some 3, (.box 61 (.tmp 1)), none), (some 4, (.assign (.const .nilFunc)), none)] := XR.mk (nr (by kernel_rfl)) (nr (by kernel_rfl))
@[go_sem] theorem t119_0 : TK g119_0 := fun _ => nr (by kernel_rfl)
noncomputable def g119_1 : Array Oper := regAt Go.Proofs.Try.f119 1
@[go_sem] theorem x119_1 : XR 119 g119_1 [(some 5, (.makeFunc (.func 156) #[] #[(.tmp 2), (.tmp 3)]), none), (some 4, (.assign (.tmp 5)), none)] := XR.mk (nr (by kernel_rfl)) (nr (by kernel_rfl))
@[go_sem] theorem t119_1 : TK g119_1 := fun _ => nr (by kernel_rfl)
theorem b119 : Go.Proofs.Try.f119.body = some (.seq (.region 0 g119_0 false) (.seq (.region 1 g119_1 false) .ret)) := by kernel_rfl
theorem c119 {h : Hd} {ro : Nat} {H : Hp} (a0 a1 : AV) : callB cx h ro 119 [a0, a1] H = returned cx [(.tmp 4)] (ex cx h ro 119 6 (.seq (.region 0 g119_0 false) (.seq (.region 1 g119_1 false) .ret)) ((PT.nil.set 0 (drp a0)).set 1 (drp a1)) H) := by
  have hf : cx.fns 119 = some Go.Proofs.Try.f119 := by kernel_rfl
  simp only [callB, hf, funced, b119, bodied]
  rfl
/-! function 156: colloquy/graph.way$1 -/
noncomputable def g156_0 : Array Oper := regAt Go.Proofs.Try.f156 0
@[go_sem] theorem x156_0 : XR 156 g156_0 [(some 5, (.load 56 (.tmp 1)), none), (some 6, (.call ⟨(.builtin .len), #[(.tmp 5)], #[56]⟩), none), (some 7, (.move (.const (.int .i64 0))), none)] := XR.mk (nr (by kernel_rfl)) (nr (by kernel_rfl))
@[go_sem] theorem t156_0 : TK g156_0 := fun _ => nr (by kernel_rfl)
noncomputable def g156_1 : Array Oper := regAt Go.Proofs.Try.f156 1
@[go_sem] theorem x156_1 : XR 156 g156_1 [(some 8, (.binOp .lss 3 (.tmp 7) (.tmp 6) 3), none)] := XR.mk (nr (by kernel_rfl)) (nr (by kernel_rfl))
@[go_sem] theorem t156_1 : TK g156_1 := fun _ => nr (by kernel_rfl)
noncomputable def g156_2 : Array Oper := regAt Go.Proofs.Try.f156 2
@[go_sem] theorem x156_2 : XR 156 g156_2 [(some 9, (.fieldAddr 61 (.tmp 2) 0), none), (some 10, (.load 3 (.tmp 9)), none), (some 11, (.load 56 (.tmp 1)), none), (some 12, (.call ⟨(.builtin .len), #[(.tmp 11)], #[56]⟩), none), (some 13, (.binOp .sub 3 (.tmp 12) (.const (.int .i64 1)) 3), none), (some 14, (.call ⟨(.value (.func 118)), #[(.tmp 10), (.tmp 13)], #[3, 3]⟩), none), (some 15, (.unOp .not 4 (.tmp 14)), none)] := XR.mk (nr (by kernel_rfl)) (nr (by kernel_rfl))
@[go_sem] theorem t156_2 : TK g156_2 := fun _ => nr (by kernel_rfl)
noncomputable def g156_3 : Array Oper := regAt Go.Proofs.Try.f156 3
@[go_sem] theorem x156_3 : XR 156 g156_3 [(some 16, (.load 56 (.tmp 1)), none), (some 17, (.fieldAddr 61 (.tmp 2) 0), none), (some 18, (.load 3 (.tmp 17)), none), (some 19, (.indexAddr 56 (.tmp 16) (.tmp 18)), none), (some 20, (.load 66 (.tmp 19)), none), (some 4, (.alloc 66), none), (none, (.store 66 (.tmp 4) (.tmp 20)), none)] := XR.mk (nr (by kernel_rfl)) (nr (by kernel_rfl))
@[go_sem] theorem t156_3 : TK g156_3 := fun _ => nr (by kernel_rfl)
noncomputable def g156_4 : Array Oper := regAt Go.Proofs.Try.f156 4
@[go_sem] theorem x156_4 : XR 156 g156_4 [mvo 21 0, (some 22, (.load 61 (.tmp 2)), none), (some 23, (.load 66 (.tmp 4)), none), (some 24, (.call ⟨(.value (.tmp 21)), #[(.tmp 22), (.tmp 23)], #[61, 66]⟩), none), (some 25, (.unOp .not 4 (.tmp 24)), none), mvo 26 25, (some 27, (.fieldAddr 66 (.tmp 4) 4), some (26, false)), (some 28, (.load 64 (.tmp 27)), some (26, false)), (some 29, (.call ⟨(.builtin .len), #[(.tmp 28)], #[64]⟩), some (26, false)), (some 30, (.binOp .neq 3 (.tmp 29) (.const (.int .i64 1)) 3), some (26, false)), (some 31, (.pick (.tmp 26) (.const (.bool true)) (.tmp 30)), none)] := XR.mk (nr (by kernel_rfl)) (nr (by kernel_rfl))
@[go_sem] theorem t156_4 : TK g156_4 := fun _ => nr (by kernel_rfl)
noncomputable def g156_5 : Array Oper := regAt Go.Proofs.Try.f156 5
@[go_sem] theorem x156_5 : XUR 156 g156_5 [(0, 0, [], (some 32, (.fieldAddr 66 (.tmp 4) 4), none)), (1, 0, [], (some 33, (.load 64 (.tmp 32)), none)), (2, 0, [], (some 34, (.indexAddr 64 (.tmp 33) (.const (.int .i64 0))), none)), (3, 0, [], (some 35, (.fieldAddr 63 (.tmp 34) 0), none)), (4, 0, [], (some 36, (.load 3 (.tmp 35)), none)), (5, 0, [0, 1, 2, 3, 4], (some 37, (.fieldAddr 61 (.tmp 2) 1), none)), (6, 0, [0, 1, 2, 3, 4], (some 38, (.load 3 (.tmp 37)), none)), (7, 0, [0, 1, 2, 3, 4, 5, 6], (some 39, (.fieldAddr 66 (.tmp 4) 4), none)), (8, 0, [0, 1, 2, 3, 4, 5, 6], (some 40, (.load 64 (.tmp 39)), none)), (9, 0, [0, 1, 2, 3, 4, 5, 6], (some 41, (.indexAddr 64 (.tmp 40) (.const (.int .i64 0))), none)), (10, 0, [0, 1, 2, 3, 4, 5, 6], (some 42, (.fieldAddr 63 (.tmp 41) 1), none)), (11, 0, [0, 1, 2, 3, 4, 5, 6], (some 43, (.load 3 (.tmp 42)), none)), (12, 0, [0, 1, 2, 3, 4], (some 44, (.binOp .add 3 (.tmp 38) (.tmp 43) 3), none)), (13, 0, [0, 1, 2, 3, 4, 7, 8, 9, 10, 11, 12], (none, (.store 61 (.tmp 2) (.const (.agg #[(.int .i64 0), (.int .i64 0)]))), none)), (14, 0, [7, 8, 9, 10, 11, 12], (some 45, (.fieldAddr 61 (.tmp 2) 0), none)), (15, 0, [7, 8, 9, 10, 11, 12], (none, (.store 3 (.tmp 45) (.tmp 36)), none)), (16, 0, [], (some 46, (.fieldAddr 61 (.tmp 2) 1), none)), (17, 0, [], (none, (.store 3 (.tmp 46) (.tmp 44)), none))] 0 := XUR.mk (nr (by kernel_rfl)) (nr (by kernel_rfl)) (nr (by kernel_rfl)) (nr (by kernel_rfl)) (nr (by kernel_rfl))
@[go_sem] theorem t156_5 : TK g156_5 := fun _ => nr (by kernel_rfl)
noncomputable def g156_6 : Array Oper := regAt Go.Proofs.Try.f156 6
@[go_sem] theorem x156_6 : XR 156 g156_6 [(some 47, (.binOp .add 3 (.tmp 7) (.const (.int .i64 1)) 3), none), mvo 7 47] := XR.mk (nr (by kernel_rfl)) (nr (by kernel_rfl))
@[go_sem] theorem t156_6 : TK g156_6 := fun _ => nr (by kernel_rfl)
noncomputable def l156_0 : Code := (.seq (.region 1 g156_1 false) (.seq (.cond (.tmp 8) .skip (.exit 0)) (.seq (.block 1 (.seq (.seq (.region 2 g156_2 false) (.cond (.tmp 15) .ret .skip)) (.seq (.region 3 g156_3 false) (.seq (.seq (.region 4 g156_4 false) (.cond (.tmp 31) .ret .skip)) (.region 5 g156_5 true))))) (.region 6 g156_6 false))))
theorem dl156_0 {ro nt : Nat} {fr : PT} {H : Hp} : (den cx).loop ro 156 nt l156_0 fr H = xbind (ex cx (den cx) ro 156 nt (.seq (.region 1 g156_1 false) (.seq (.cond (.tmp 8) .skip (.exit 0)) (.seq (.block 1 (.seq (.seq (.region 2 g156_2 false) (.cond (.tmp 15) .ret .skip)) (.seq (.region 3 g156_3 false) (.seq (.seq (.region 4 g156_4 false) (.cond (.tmp 31) .ret .skip)) (.region 5 g156_5 true))))) (.region 6 g156_6 false)))) fr H) (contR (trimmed ((den cx).loop ro 156 nt l156_0) H.length)) := den_loop_x l156_0
theorem b156 : Go.Proofs.Try.f156.body = some (.seq (.region 0 g156_0 false) (.block 0 (.loop l156_0))) := by kernel_rfl
theorem c156 {h : Hd} {ro : Nat} {H : Hp} (a0 a1 a2 : AV) : callB cx h ro 156 [a0, a1, a2] H = returned cx [] (ex cx h ro 156 48 (.seq (.region 0 g156_0 false) (.block 0 (.loop l156_0))) (((PT.nil.set 0 (drp a0)).set 1 (drp a1)).set 2 (drp a2)) H) := by
  have hf : cx.fns 156 = some Go.Proofs.Try.f156 := by kernel_rfl
  simp only [callB, hf, funced, b156, bodied]
  rfl
/-! function 51: colloquy/graph.Resolve -/
noncomputable def g51_0 : Array Oper := regAt Go.Proofs.Try.f51 0
@[go_sem] theorem x51_0 : XR 51 g51_0 [(some 3, (.box 61 (.tmp 1)), none), (some 4, (.alloc 61), none)] := XR.mk (nr (by kernel_rfl)) (nr (by kernel_rfl))
@[go_sem] theorem t51_0 : TK g51_0 := fun _ => nr (by kernel_rfl)
noncomputable def g51_1 : Array Oper := regAt Go.Proofs.Try.f51 1
@[go_sem] theorem x51_1 : XR 51 g51_1 [mvo 7 0, (some 8, (.load 61 (.tmp 3)), none), (some 9, (.call ⟨(.value (.func 119)), #[(.tmp 7), (.tmp 8)], #[56, 61]⟩), none)] := XR.mk (nr (by kernel_rfl)) (nr (by kernel_rfl))
@[go_sem] theorem t51_1 : TK g51_1 := fun _ => nr (by kernel_rfl)
noncomputable def g51_2 : Array Oper := regAt Go.Proofs.Try.f51 2
@[go_sem] theorem x51_2 : XR 51 g51_2 [(some 5, (.alloc 61), none), (none, (.store 61 (.tmp 5) (.tmp 10)), none)] := XR.mk (nr (by kernel_rfl)) (nr (by kernel_rfl))
@[go_sem] theorem t51_2 : TK g51_2 := fun _ => nr (by kernel_rfl)
noncomputable def g51_3 : Array Oper := regAt Go.Proofs.Try.f51 3
@[go_sem] theorem x51_3 : XR 51 g51_3 [(some 6, (.alloc 66), none), (none, (.store 66 (.tmp 6) (.tmp 11)), none)] := XR.mk (nr (by kernel_rfl)) (nr (by kernel_rfl))
@[go_sem] theorem t51_3 : TK g51_3 := fun _ => nr (by kernel_rfl)
noncomputable def g51_4 : Array Oper := regAt Go.Proofs.Try.f51 4
@[go_sem] theorem x51_4 : XR 51 g51_4 [(some 12, (.fieldAddr 66 (.tmp 6) 0), none), (some 13, (.load 3 (.tmp 12)), none), (some 14, (.binOp .neq 3 (.tmp 13) (.const (.int .i64 5)) 3), none)] := XR.mk (nr (by kernel_rfl)) (nr (by kernel_rfl))
@[go_sem] theorem t51_4 : TK g51_4 := fun _ => nr (by kernel_rfl)
noncomputable def g51_5 : Array Oper := regAt Go.Proofs.Try.f51 5
@[go_sem] theorem x51_5 : XR 51 g51_5 [(some 15, (.load 61 (.tmp 5)), none), (none, (.store 61 (.tmp 4) (.tmp 15)), none)] := XR.mk (nr (by kernel_rfl)) (nr (by kernel_rfl))
@[go_sem] theorem t51_5 : TK g51_5 := fun _ => nr (by kernel_rfl)
noncomputable def g51_6 : Array Oper := regAt Go.Proofs.Try.f51 6
@[go_sem] theorem x51_6 : XR 51 g51_6 [(some 16, (.build 61 #[(0, (.const (.int .i64 (-1))))]), none), (none, (.store 61 (.tmp 4) (.tmp 16)), none)] := XR.mk (nr (by kernel_rfl)) (nr (by kernel_rfl))
@[go_sem] theorem t51_6 : TK g51_6 := fun _ => nr (by kernel_rfl)
noncomputable def q51_0 : Code := (.seq (.region 2 g51_2 false) (.region 3 g51_3 false))
noncomputable def r51_0 : Code := (.block 1 (.seq (.region 4 g51_4 false) (.cond (.tmp 14) (.seq (.region 5 g51_5 false) .ret) .skip)))
theorem b51 : Go.Proofs.Try.f51.body = some (.seq (.region 0 g51_0 false) (.seq (.seq (.region 1 g51_1 false) (.block 0 (.rangeFunc (.tmp 9) #[10, 11] q51_0 r51_0))) (.seq (.region 6 g51_6 false) .ret))) := by kernel_rfl
theorem c51 {h : Hd} {ro : Nat} {H : Hp} (a0 a1 : AV) : callB cx h ro 51 [a0, a1] H = returned cx [(.cell 4 61)] (ex cx h ro 51 17 (.seq (.region 0 g51_0 false) (.seq (.seq (.region 1 g51_1 false) (.block 0 (.rangeFunc (.tmp 9) #[10, 11] q51_0 r51_0))) (.seq (.region 6 g51_6 false) .ret))) ((PT.nil.set 0 (drp a0)).set 1 (drp a1)) H) := by
  have hf : cx.fns 51 = some Go.Proofs.Try.f51 := by kernel_rfl
  simp only [callB, hf, funced, b51, bodied]
  rfl
/-! function 52: colloquy/colloquyref04.Resolve -/
noncomputable def g52_0 : Array Oper := regAt Go.Proofs.Try.f52 0
@[go_sem] theorem x52_0 : XR 52 g52_0 [(some 3, (.box 61 (.tmp 1)), none), (some 4, (.alloc 61), none)] := XR.mk (nr (by kernel_rfl)) (nr (by kernel_rfl))
@[go_sem] theorem t52_0 : TK g52_0 := fun _ => nr (by kernel_rfl)
noncomputable def g52_1 : Array Oper := regAt Go.Proofs.Try.f52 1
@[go_sem] theorem x52_1 : XR 52 g52_1 [(some 5, (.assign (.const (.int .i64 0))), none)] := XR.mk (nr (by kernel_rfl)) (nr (by kernel_rfl))
@[go_sem] theorem t52_1 : TK g52_1 := fun _ => nr (by kernel_rfl)
noncomputable def g52_2 : Array Oper := regAt Go.Proofs.Try.f52 2
@[go_sem] theorem x52_2 : XR 52 g52_2 [mvo 7 5, mvo 8 0, (some 9, (.call ⟨(.builtin .len), #[(.tmp 8)], #[56]⟩), none), (some 10, (.binOp .leq 3 (.tmp 7) (.tmp 9) 3), none)] := XR.mk (nr (by kernel_rfl)) (nr (by kernel_rfl))
@[go_sem] theorem t52_2 : TK g52_2 := fun _ => nr (by kernel_rfl)
noncomputable def g52_3 : Array Oper := regAt Go.Proofs.Try.f52 3
@[go_sem] theorem x52_3 : XR 52 g52_3 [(some 13, (.fieldAddr 61 (.tmp 3) 0), none), (some 14, (.load 3 (.tmp 13)), none), (some 15, (.binOp .lss 3 (.tmp 14) (.const (.int .i64 0)) 3), none), mvo 16 15, (some 17, (.fieldAddr 61 (.tmp 3) 0), some (16, false)), (some 18, (.load 3 (.tmp 17)), some (16, false)), (some 19, (.move (.tmp 0)), some (16, false)), (some 20, (.call ⟨(.builtin .len), #[(.tmp 19)], #[56]⟩), some (16, false)), (some 21, (.binOp .geq 3 (.tmp 18) (.tmp 20) 3), some (16, false)), (some 22, (.pick (.tmp 16) (.const (.bool true)) (.tmp 21)), none)] := XR.mk (nr (by kernel_rfl)) (nr (by kernel_rfl))
@[go_sem] theorem t52_3 : TK g52_3 := fun _ => nr (by kernel_rfl)
noncomputable def g52_4 : Array Oper := regAt Go.Proofs.Try.f52 4
@[go_sem] theorem x52_4 : XR 52 g52_4 [(some 23, (.build 61 #[(0, (.const (.int .i64 (-1))))]), none), (none, (.store 61 (.tmp 4) (.tmp 23)), none)] := XR.mk (nr (by kernel_rfl)) (nr (by kernel_rfl))
@[go_sem] theorem t52_4 : TK g52_4 := fun _ => nr (by kernel_rfl)
noncomputable def g52_5 : Array Oper := regAt Go.Proofs.Try.f52 5
@[go_sem] theorem x52_5 : XR 52 g52_5 [mvo 24 0, (some 25, (.fieldAddr 61 (.tmp 3) 0), none), (some 26, (.load 3 (.tmp 25)), none), (some 27, (.indexAddr 56 (.tmp 24) (.tmp 26)), none), (some 28, (.load 66 (.tmp 27)), none), (some 6, (.alloc 66), none), (none, (.store 66 (.tmp 6) (.tmp 28)), none)] := XR.mk (nr (by kernel_rfl)) (nr (by kernel_rfl))
@[go_sem] theorem t52_5 : TK g52_5 := fun _ => nr (by kernel_rfl)
noncomputable def g52_6 : Array Oper := regAt Go.Proofs.Try.f52 6
@[go_sem] theorem x52_6 : XR 52 g52_6 [(some 29, (.fieldAddr 66 (.tmp 6) 0), none), (some 30, (.load 3 (.tmp 29)), none), (some 31, (.binOp .neq 3 (.tmp 30) (.const (.int .i64 5)) 3), none)] := XR.mk (nr (by kernel_rfl)) (nr (by kernel_rfl))
@[go_sem] theorem t52_6 : TK g52_6 := fun _ => nr (by kernel_rfl)
noncomputable def g52_7 : Array Oper := regAt Go.Proofs.Try.f52 7
@[go_sem] theorem x52_7 : XR 52 g52_7 [(some 32, (.load 61 (.tmp 3)), none), (none, (.store 61 (.tmp 4) (.tmp 32)), none)] := XR.mk (nr (by kernel_rfl)) (nr (by kernel_rfl))
@[go_sem] theorem t52_7 : TK g52_7 := fun _ => nr (by kernel_rfl)
noncomputable def g52_8 : Array Oper := regAt Go.Proofs.Try.f52 8
@[go_sem] theorem x52_8 : XR 52 g52_8 [(some 33, (.fieldAddr 66 (.tmp 6) 4), none), (some 34, (.load 64 (.tmp 33)), none), (some 35, (.call ⟨(.builtin .len), #[(.tmp 34)], #[64]⟩), none), (some 36, (.binOp .neq 3 (.tmp 35) (.const (.int .i64 1)) 3), none)] := XR.mk (nr (by kernel_rfl)) (nr (by kernel_rfl))
@[go_sem] theorem t52_8 : TK g52_8 := fun _ => nr (by kernel_rfl)
noncomputable def g52_9 : Array Oper := regAt Go.Proofs.Try.f52 9
@[go_sem] theorem x52_9 : XR 52 g52_9 [(some 37, (.build 61 #[(0, (.const (.int .i64 (-1))))]), none), (none, (.store 61 (.tmp 4) (.tmp 37)), none)] := XR.mk (nr (by kernel_rfl)) (nr (by kernel_rfl))
@[go_sem] theorem t52_9 : TK g52_9 := fun _ => nr (by kernel_rfl)
noncomputable def g52_10 : Array Oper := regAt Go.Proofs.Try.f52 10
@[go_sem] theorem x52_10 : XUR 52 g52_10 [(0, 0, [], (some 38, (.fieldAddr 66 (.tmp 6) 4), none)), (1, 0, [], (some 39, (.load 64 (.tmp 38)), none)), (2, 0, [], (some 40, (.indexAddr 64 (.tmp 39) (.const (.int .i64 0))), none)), (3, 0, [], (some 41, (.fieldAddr 63 (.tmp 40) 0), none)), (4, 0, [], (some 42, (.load 3 (.tmp 41)), none)), (5, 0, [0, 1, 2, 3, 4], (some 43, (.fieldAddr 61 (.tmp 3) 1), none)), (6, 0, [0, 1, 2, 3, 4], (some 44, (.load 3 (.tmp 43)), none)), (7, 0, [0, 1, 2, 3, 4, 5, 6], (some 45, (.fieldAddr 66 (.tmp 6) 4), none)), (8, 0, [0, 1, 2, 3, 4, 5, 6], (some 46, (.load 64 (.tmp 45)), none)), (9, 0, [0, 1, 2, 3, 4, 5, 6], (some 47, (.indexAddr 64 (.tmp 46) (.const (.int .i64 0))), none)), (10, 0, [0, 1, 2, 3, 4, 5, 6], (some 48, (.fieldAddr 63 (.tmp 47) 1), none)), (11, 0, [0, 1, 2, 3, 4, 5, 6], (some 49, (.load 3 (.tmp 48)), none)), (12, 0, [0, 1, 2, 3, 4], (some 50, (.binOp .add 3 (.tmp 44) (.tmp 49) 3), none)), (13, 0, [], (some 51, (.build 61 #[(0, (.tmp 42)), (1, (.tmp 50))]), none)), (14, 0, [], (none, (.store 61 (.tmp 3) (.tmp 51)), none))] 0 := XUR.mk (nr (by kernel_rfl)) (nr (by kernel_rfl)) (nr (by kernel_rfl)) (nr (by kernel_rfl)) (nr (by kernel_rfl))
@[go_sem] theorem t52_10 : TK g52_10 := fun _ => nr (by kernel_rfl)
noncomputable def g52_11 : Array Oper := regAt Go.Proofs.Try.f52 11
@[go_sem] theorem x52_11 : XR 52 g52_11 [mvo 11 5, (some 12, (.binOp .add 3 (.tmp 11) (.const (.int .i64 1)) 3), none), (some 5, (.assign (.tmp 12)), none)] := XR.mk (nr (by kernel_rfl)) (nr (by kernel_rfl))
@[go_sem] theorem t52_11 : TK g52_11 := fun _ => nr (by kernel_rfl)
noncomputable def g52_12 : Array Oper := regAt Go.Proofs.Try.f52 12
@[go_sem] theorem x52_12 : XR 52 g52_12 [(some 52, (.build 61 #[(0, (.const (.int .i64 (-1))))]), none), (none, (.store 61 (.tmp 4) (.tmp 52)), none)] := XR.mk (nr (by kernel_rfl)) (nr (by kernel_rfl))
@[go_sem] theorem t52_12 : TK g52_12 := fun _ => nr (by kernel_rfl)
noncomputable def l52_0 : Code := (.seq (.seq (.region 2 g52_2 false) (.cond (.tmp 10) .skip (.exit 0))) (.seq (.block 1 (.seq (.seq (.region 4 g52_3 false) (.cond (.tmp 22) (.seq (.region 5 g52_4 false) .ret) .skip)) (.seq (.region 6 g52_5 false) (.seq (.seq (.region 7 g52_6 false) (.cond (.tmp 31) (.seq (.region 8 g52_7 false) .ret) .skip)) (.seq (.seq (.region 9 g52_8 false) (.cond (.tmp 36) (.seq (.region 10 g52_9 false) .ret) .skip)) (.region 11 g52_10 true)))))) (.region 3 g52_11 false)))
theorem dl52_0 {ro nt : Nat} {fr : PT} {H : Hp} : (den cx).loop ro 52 nt l52_0 fr H = xbind (ex cx (den cx) ro 52 nt (.seq (.seq (.region 2 g52_2 false) (.cond (.tmp 10) .skip (.exit 0))) (.seq (.block 1 (.seq (.seq (.region 4 g52_3 false) (.cond (.tmp 22) (.seq (.region 5 g52_4 false) .ret) .skip)) (.seq (.region 6 g52_5 false) (.seq (.seq (.region 7 g52_6 false) (.cond (.tmp 31) (.seq (.region 8 g52_7 false) .ret) .skip)) (.seq (.seq (.region 9 g52_8 false) (.cond (.tmp 36) (.seq (.region 10 g52_9 false) .ret) .skip)) (.region 11 g52_10 true)))))) (.region 3 g52_11 false))) fr H) (contR (trimmed ((den cx).loop ro 52 nt l52_0) H.length)) := den_loop_x l52_0
theorem b52 : Go.Proofs.Try.f52.body = some (.seq (.region 0 g52_0 false) (.seq (.seq (.region 1 g52_1 false) (.block 0 (.loop l52_0))) (.seq (.region 12 g52_12 false) .ret))) := by kernel_rfl
theorem c52 {h : Hd} {ro : Nat} {H : Hp} (a0 a1 : AV) : callB cx h ro 52 [a0, a1] H = returned cx [(.cell 4 61)] (ex cx h ro 52 53 (.seq (.region 0 g52_0 false) (.seq (.seq (.region 1 g52_1 false) (.block 0 (.loop l52_0))) (.seq (.region 12 g52_12 false) .ret))) ((PT.nil.set 0 (drp a0)).set 1 (drp a1)) H) := by
  have hf : cx.fns 52 = some Go.Proofs.Try.f52 := by kernel_rfl
  simp only [callB, hf, funced, b52, bodied]
  rfl
end Go.Abs.Tab

/- Codes of this seat's functions, their regions step by step. (Printed by a program.) -/
set_option linter.unusedVariables false
namespace Go.Abs.Tab
/-! function 48: colloquy/graph.Check -/
noncomputable def g48_0 : Array Oper := regAt Go.Proofs.Try.f48 0
@[go_sem] theorem x48_0 : XR 48 g48_0 [(some 2, (.assign (.const (.int .i64 0))), none), (some 3, (.assign (.const (.int .i64 0))), none)] := XR.mk (nr (by kernel_rfl)) (nr (by kernel_rfl))
@[go_sem] theorem t48_0 : TK g48_0 := fun _ => nr (by kernel_rfl)
noncomputable def g48_1 : Array Oper := regAt Go.Proofs.Try.f48 1
@[go_sem] theorem x48_1 : XR 48 g48_1 [mvo 12 0, (some 13, (.call ⟨(.builtin .len), #[(.tmp 12)], #[56]⟩), none), (some 14, (.binOp .eql 3 (.tmp 13) (.const (.int .i64 0)) 3), none), (some 11, (.assign (.tmp 14)), none)] := XR.mk (nr (by kernel_rfl)) (nr (by kernel_rfl))
@[go_sem] theorem t48_1 : TK g48_1 := fun _ => nr (by kernel_rfl)
noncomputable def g48_2 : Array Oper := regAt Go.Proofs.Try.f48 2
@[go_sem] theorem x48_2 : XR 48 g48_2 [(some 2, (.assign (.const (.int .i64 (-1)))), none), (some 3, (.assign (.const (.int .i64 2))), none)] := XR.mk (nr (by kernel_rfl)) (nr (by kernel_rfl))
@[go_sem] theorem t48_2 : TK g48_2 := fun _ => nr (by kernel_rfl)
noncomputable def g48_3 : Array Oper := regAt Go.Proofs.Try.f48 3
@[go_sem] theorem x48_3 : XR 48 g48_3 [mvo 16 0, (some 17, (.call ⟨(.builtin .len), #[(.tmp 16)], #[56]⟩), none), (some 18, (.binOp .gtr 3 (.tmp 17) (.const (.int .i64 64)) 3), none), (some 15, (.assign (.tmp 18)), none)] := XR.mk (nr (by kernel_rfl)) (nr (by kernel_rfl))
@[go_sem] theorem t48_3 : TK g48_3 := fun _ => nr (by kernel_rfl)
noncomputable def g48_4 : Array Oper := regAt Go.Proofs.Try.f48 4
@[go_sem] theorem x48_4 : XR 48 g48_4 [(some 2, (.assign (.const (.int .i64 (-1)))), none), (some 3, (.assign (.const (.int .i64 4))), none)] := XR.mk (nr (by kernel_rfl)) (nr (by kernel_rfl))
@[go_sem] theorem t48_4 : TK g48_4 := fun _ => nr (by kernel_rfl)
noncomputable def g48_5 : Array Oper := regAt Go.Proofs.Try.f48 5
@[go_sem] theorem x48_5 : XR 48 g48_5 [mvo 19 0, (some 20, (.call ⟨(.builtin .len), #[(.tmp 19)], #[56]⟩), none), (some 21, (.move (.const (.int .i64 0))), none)] := XR.mk (nr (by kernel_rfl)) (nr (by kernel_rfl))
@[go_sem] theorem t48_5 : TK g48_5 := fun _ => nr (by kernel_rfl)
noncomputable def g48_6 : Array Oper := regAt Go.Proofs.Try.f48 6
@[go_sem] theorem x48_6 : XR 48 g48_6 [(some 22, (.binOp .lss 3 (.tmp 21) (.tmp 20) 3), none)] := XR.mk (nr (by kernel_rfl)) (nr (by kernel_rfl))
@[go_sem] theorem t48_6 : TK g48_6 := fun _ => nr (by kernel_rfl)
noncomputable def g48_7 : Array Oper := regAt Go.Proofs.Try.f48 7
@[go_sem] theorem x48_7 : XR 48 g48_7 [mvo 23 21, (some 24, (.indexAddr 56 (.tmp 19) (.tmp 21)), none), (some 25, (.load 66 (.tmp 24)), none), (some 5, (.alloc 66), none), (some 4, (.assign (.tmp 23)), none), (none, (.store 66 (.tmp 5) (.tmp 25)), none)] := XR.mk (nr (by kernel_rfl)) (nr (by kernel_rfl))
@[go_sem] theorem t48_7 : TK g48_7 := fun _ => nr (by kernel_rfl)
noncomputable def g48_8 : Array Oper := regAt Go.Proofs.Try.f48 8
@[go_sem] theorem x48_8 : XR 48 g48_8 [(some 26, (.load 66 (.tmp 5)), none), (some 27, (.call ⟨(.value (.func 116)), #[(.tmp 26)], #[66]⟩), none), (some 28, (.unOp .not 4 (.tmp 27)), none)] := XR.mk (nr (by kernel_rfl)) (nr (by kernel_rfl))
@[go_sem] theorem t48_8 : TK g48_8 := fun _ => nr (by kernel_rfl)
noncomputable def g48_9 : Array Oper := regAt Go.Proofs.Try.f48 9
@[go_sem] theorem x48_9 : XR 48 g48_9 [mvo 29 4, (some 2, (.assign (.tmp 29)), none), (some 3, (.assign (.const (.int .i64 7))), none)] := XR.mk (nr (by kernel_rfl)) (nr (by kernel_rfl))
@[go_sem] theorem t48_9 : TK g48_9 := fun _ => nr (by kernel_rfl)
noncomputable def g48_10 : Array Oper := regAt Go.Proofs.Try.f48 10
@[go_sem] theorem x48_10 : XR 48 g48_10 [(some 30, (.load 66 (.tmp 5)), none), (some 31, (.call ⟨(.value (.func 117)), #[(.tmp 30)], #[66]⟩), none), (some 32, (.call ⟨(.builtin .len), #[(.tmp 31)], #[64]⟩), none), (some 33, (.move (.const (.int .i64 0))), none)] := XR.mk (nr (by kernel_rfl)) (nr (by kernel_rfl))
@[go_sem] theorem t48_10 : TK g48_10 := fun _ => nr (by kernel_rfl)
noncomputable def g48_11 : Array Oper := regAt Go.Proofs.Try.f48 11
@[go_sem] theorem x48_11 : XR 48 g48_11 [(some 34, (.binOp .lss 3 (.tmp 33) (.tmp 32) 3), none)] := XR.mk (nr (by kernel_rfl)) (nr (by kernel_rfl))
@[go_sem] theorem t48_11 : TK g48_11 := fun _ => nr (by kernel_rfl)
noncomputable def g48_12 : Array Oper := regAt Go.Proofs.Try.f48 12
@[go_sem] theorem x48_12 : XR 48 g48_12 [(some 35, (.indexAddr 64 (.tmp 31) (.tmp 33)), none), (some 36, (.load 63 (.tmp 35)), none), (some 7, (.alloc 63), none), (none, (.store 63 (.tmp 7) (.tmp 36)), none)] := XR.mk (nr (by kernel_rfl)) (nr (by kernel_rfl))
@[go_sem] theorem t48_12 : TK g48_12 := fun _ => nr (by kernel_rfl)
noncomputable def g48_13 : Array Oper := regAt Go.Proofs.Try.f48 13
@[go_sem] theorem x48_13 : XR 48 g48_13 [(some 37, (.fieldAddr 63 (.tmp 7) 0), none), (some 38, (.load 3 (.tmp 37)), none), mvo 39 0, (some 40, (.call ⟨(.builtin .len), #[(.tmp 39)], #[56]⟩), none), (some 41, (.binOp .sub 3 (.tmp 40) (.const (.int .i64 1)) 3), none), (some 42, (.call ⟨(.value (.func 118)), #[(.tmp 38), (.tmp 41)], #[3, 3]⟩), none)] := XR.mk (nr (by kernel_rfl)) (nr (by kernel_rfl))
@[go_sem] theorem t48_13 : TK g48_13 := fun _ => nr (by kernel_rfl)
noncomputable def g48_14 : Array Oper := regAt Go.Proofs.Try.f48 14
@[go_sem] theorem x48_14 : XR 48 g48_14 [mvo 43 4, (some 2, (.assign (.tmp 43)), none), (some 3, (.assign (.const (.int .i64 8))), none)] := XR.mk (nr (by kernel_rfl)) (nr (by kernel_rfl))
@[go_sem] theorem t48_14 : TK g48_14 := fun _ => nr (by kernel_rfl)
noncomputable def g48_15 : Array Oper := regAt Go.Proofs.Try.f48 15
@[go_sem] theorem x48_15 : XR 48 g48_15 [(some 44, (.binOp .add 3 (.tmp 33) (.const (.int .i64 1)) 3), none), mvo 33 44] := XR.mk (nr (by kernel_rfl)) (nr (by kernel_rfl))
@[go_sem] theorem t48_15 : TK g48_15 := fun _ => nr (by kernel_rfl)
noncomputable def g48_16 : Array Oper := regAt Go.Proofs.Try.f48 16
@[go_sem] theorem x48_16 : XR 48 g48_16 [(some 45, (.binOp .add 3 (.tmp 21) (.const (.int .i64 1)) 3), none), mvo 21 45] := XR.mk (nr (by kernel_rfl)) (nr (by kernel_rfl))
@[go_sem] theorem t48_16 : TK g48_16 := fun _ => nr (by kernel_rfl)
noncomputable def g48_17 : Array Oper := regAt Go.Proofs.Try.f48 17
@[go_sem] theorem x48_17 : XR 48 g48_17 [mvo 46 3, (some 47, (.binOp .neq 27 (.tmp 46) (.const (.int .i64 0)) 27), none)] := XR.mk (nr (by kernel_rfl)) (nr (by kernel_rfl))
@[go_sem] theorem t48_17 : TK g48_17 := fun _ => nr (by kernel_rfl)
noncomputable def g48_18 : Array Oper := regAt Go.Proofs.Try.f48 18
@[go_sem] theorem x48_18 : XR 48 g48_18 [mvo 48 2, mvo 49 3, (some 2, (.assign (.tmp 48)), none), (some 3, (.assign (.tmp 49)), none)] := XR.mk (nr (by kernel_rfl)) (nr (by kernel_rfl))
@[go_sem] theorem t48_18 : TK g48_18 := fun _ => nr (by kernel_rfl)
noncomputable def g48_19 : Array Oper := regAt Go.Proofs.Try.f48 19
@[go_sem] theorem x48_19 : XR 48 g48_19 [mvo 50 0, (some 51, (.call ⟨(.builtin .len), #[(.tmp 50)], #[56]⟩), none), (some 52, (.move (.const (.int .i64 0))), none)] := XR.mk (nr (by kernel_rfl)) (nr (by kernel_rfl))
@[go_sem] theorem t48_19 : TK g48_19 := fun _ => nr (by kernel_rfl)
noncomputable def g48_20 : Array Oper := regAt Go.Proofs.Try.f48 20
@[go_sem] theorem x48_20 : XR 48 g48_20 [(some 53, (.binOp .lss 3 (.tmp 52) (.tmp 51) 3), none)] := XR.mk (nr (by kernel_rfl)) (nr (by kernel_rfl))
@[go_sem] theorem t48_20 : TK g48_20 := fun _ => nr (by kernel_rfl)
noncomputable def g48_21 : Array Oper := regAt Go.Proofs.Try.f48 21
@[go_sem] theorem x48_21 : XR 48 g48_21 [mvo 54 52, (some 8, (.assign (.tmp 54)), none)] := XR.mk (nr (by kernel_rfl)) (nr (by kernel_rfl))
@[go_sem] theorem t48_21 : TK g48_21 := fun _ => nr (by kernel_rfl)
noncomputable def g48_22 : Array Oper := regAt Go.Proofs.Try.f48 22
@[go_sem] theorem x48_22 : XR 48 g48_22 [mvo 55 0, mvo 56 8, (some 57, (.build 61 #[(0, (.tmp 56))]), none), (some 58, (.call ⟨(.value (.func 119)), #[(.tmp 55), (.tmp 57)], #[56, 61]⟩), none)] := XR.mk (nr (by kernel_rfl)) (nr (by kernel_rfl))
@[go_sem] theorem t48_22 : TK g48_22 := fun _ => nr (by kernel_rfl)
noncomputable def g48_23 : Array Oper := regAt Go.Proofs.Try.f48 23
@[go_sem] theorem x48_23 : XR 48 g48_23 [(some 10, (.alloc 66), none), (none, (.store 66 (.tmp 10) (.tmp 60)), none)] := XR.mk (nr (by kernel_rfl)) (nr (by kernel_rfl))
@[go_sem] theorem t48_23 : TK g48_23 := fun _ => nr (by kernel_rfl)
noncomputable def g48_24 : Array Oper := regAt Go.Proofs.Try.f48 24
@[go_sem] theorem x48_24 : XR 48 g48_24 [(some 61, (.fieldAddr 66 (.tmp 10) 0), none), (some 62, (.load 3 (.tmp 61)), none), (some 63, (.binOp .neq 3 (.tmp 62) (.const (.int .i64 5)) 3), none)] := XR.mk (nr (by kernel_rfl)) (nr (by kernel_rfl))
@[go_sem] theorem t48_24 : TK g48_24 := fun _ => nr (by kernel_rfl)
noncomputable def g48_25 : Array Oper := regAt Go.Proofs.Try.f48 25
@[go_sem] theorem x48_25 : XR 48 g48_25 [mvo 64 8, (some 2, (.assign (.tmp 64)), none), (some 3, (.assign (.const (.int .i64 9))), none)] := XR.mk (nr (by kernel_rfl)) (nr (by kernel_rfl))
@[go_sem] theorem t48_25 : TK g48_25 := fun _ => nr (by kernel_rfl)
noncomputable def g48_26 : Array Oper := regAt Go.Proofs.Try.f48 26
@[go_sem] theorem x48_26 : XR 48 g48_26 [(some 65, (.binOp .add 3 (.tmp 52) (.const (.int .i64 1)) 3), none), mvo 52 65] := XR.mk (nr (by kernel_rfl)) (nr (by kernel_rfl))
@[go_sem] theorem t48_26 : TK g48_26 := fun _ => nr (by kernel_rfl)
noncomputable def g48_27 : Array Oper := regAt Go.Proofs.Try.f48 27
@[go_sem] theorem x48_27 : XR 48 g48_27 [(some 2, (.assign (.const (.int .i64 (-1)))), none), (some 3, (.assign (.const (.int .i64 0))), none)] := XR.mk (nr (by kernel_rfl)) (nr (by kernel_rfl))
@[go_sem] theorem t48_27 : TK g48_27 := fun _ => nr (by kernel_rfl)
noncomputable def l48_0 : Code := (.seq (.region 11 g48_11 false) (.seq (.cond (.tmp 34) .skip (.exit 3)) (.seq (.block 4 (.seq (.region 12 g48_12 false) (.seq (.seq (.region 13 g48_13 false) (.cond (.tmp 42) (.exit 4) .skip)) (.seq (.region 14 g48_14 false) (.exit 1))))) (.region 15 g48_15 false))))
theorem dl48_0 {ro nt : Nat} {fr : PT} {H : Hp} : (den cx).loop ro 48 nt l48_0 fr H = xbind (ex cx (den cx) ro 48 nt (.seq (.region 11 g48_11 false) (.seq (.cond (.tmp 34) .skip (.exit 3)) (.seq (.block 4 (.seq (.region 12 g48_12 false) (.seq (.seq (.region 13 g48_13 false) (.cond (.tmp 42) (.exit 4) .skip)) (.seq (.region 14 g48_14 false) (.exit 1))))) (.region 15 g48_15 false)))) fr H) (contR (trimmed ((den cx).loop ro 48 nt l48_0) H.length)) := den_loop_x l48_0
noncomputable def l48_1 : Code := (.seq (.region 6 g48_6 false) (.seq (.cond (.tmp 22) .skip (.exit 1)) (.seq (.block 2 (.seq (.region 7 g48_7 false) (.seq (.seq (.region 8 g48_8 false) (.cond (.tmp 28) (.seq (.region 9 g48_9 false) .ret) .skip)) (.seq (.region 10 g48_10 false) (.block 3 (.loop l48_0)))))) (.region 16 g48_16 false))))
theorem dl48_1 {ro nt : Nat} {fr : PT} {H : Hp} : (den cx).loop ro 48 nt l48_1 fr H = xbind (ex cx (den cx) ro 48 nt (.seq (.region 6 g48_6 false) (.seq (.cond (.tmp 22) .skip (.exit 1)) (.seq (.block 2 (.seq (.region 7 g48_7 false) (.seq (.seq (.region 8 g48_8 false) (.cond (.tmp 28) (.seq (.region 9 g48_9 false) .ret) .skip)) (.seq (.region 10 g48_10 false) (.block 3 (.loop l48_0)))))) (.region 16 g48_16 false)))) fr H) (contR (trimmed ((den cx).loop ro 48 nt l48_1) H.length)) := den_loop_x l48_1
noncomputable def q48_2 : Code := (.region 23 g48_23 false)
noncomputable def r48_2 : Code := (.block 8 (.seq (.region 24 g48_24 false) (.cond (.tmp 63) (.exit 6) .skip)))
noncomputable def l48_3 : Code := (.seq (.region 20 g48_20 false) (.seq (.cond (.tmp 53) .skip (.exit 5)) (.seq (.block 6 (.seq (.region 21 g48_21 false) (.seq (.seq (.region 22 g48_22 false) (.block 7 (.rangeFunc (.tmp 58) #[59, 60] q48_2 r48_2))) (.seq (.region 25 g48_25 false) .ret)))) (.region 26 g48_26 false))))
theorem dl48_3 {ro nt : Nat} {fr : PT} {H : Hp} : (den cx).loop ro 48 nt l48_3 fr H = xbind (ex cx (den cx) ro 48 nt (.seq (.region 20 g48_20 false) (.seq (.cond (.tmp 53) .skip (.exit 5)) (.seq (.block 6 (.seq (.region 21 g48_21 false) (.seq (.seq (.region 22 g48_22 false) (.block 7 (.rangeFunc (.tmp 58) #[59, 60] q48_2 r48_2))) (.seq (.region 25 g48_25 false) .ret)))) (.region 26 g48_26 false)))) fr H) (contR (trimmed ((den cx).loop ro 48 nt l48_3) H.length)) := den_loop_x l48_3
theorem b48 : Go.Proofs.Try.f48.body = some (.seq (.region 0 g48_0 false) (.scope (.seq (.block 0 (.seq (.region 1 g48_1 false) (.cond (.tmp 11) (.seq (.region 2 g48_2 false) .ret) (.seq (.region 3 g48_3 false) (.cond (.tmp 15) (.seq (.region 4 g48_4 false) .ret) .skip))))) (.seq (.label 0) (.seq (.seq (.region 5 g48_5 false) (.block 1 (.loop l48_1))) (.seq (.seq (.region 17 g48_17 false) (.cond (.tmp 47) (.seq (.region 18 g48_18 false) .ret) .skip)) (.seq (.label 1) (.seq (.seq (.region 19 g48_19 false) (.block 5 (.loop l48_3))) (.seq (.region 27 g48_27 false) .ret))))))))) := by kernel_rfl
theorem c48 {h : Hd} {ro : Nat} {H : Hp} (a0 : AV) : callB cx h ro 48 [a0] H = returned cx [(.tmp 2), (.tmp 3)] (ex cx h ro 48 66 (.seq (.region 0 g48_0 false) (.scope (.seq (.block 0 (.seq (.region 1 g48_1 false) (.cond (.tmp 11) (.seq (.region 2 g48_2 false) .ret) (.seq (.region 3 g48_3 false) (.cond (.tmp 15) (.seq (.region 4 g48_4 false) .ret) .skip))))) (.seq (.label 0) (.seq (.seq (.region 5 g48_5 false) (.block 1 (.loop l48_1))) (.seq (.seq (.region 17 g48_17 false) (.cond (.tmp 47) (.seq (.region 18 g48_18 false) .ret) .skip)) (.seq (.label 1) (.seq (.seq (.region 19 g48_19 false) (.block 5 (.loop l48_3))) (.seq (.region 27 g48_27 false) .ret))))))))) (PT.nil.set 0 (drp a0)) H) := by
  have hf : cx.fns 48 = some Go.Proofs.Try.f48 := by kernel_rfl
  simp only [callB, hf, funced, b48, bodied]
  rfl
/-! function 49: colloquy/colloquyref04.Check -/
noncomputable def g49_0 : Array Oper := regAt Go.Proofs.Try.f49 0
@[go_sem] theorem x49_0 : XR 49 g49_0 [(some 2, (.assign (.const (.int .i64 0))), none), (some 3, (.assign (.const (.int .i64 0))), none)] := XR.mk (nr (by kernel_rfl)) (nr (by kernel_rfl))
@[go_sem] theorem t49_0 : TK g49_0 := fun _ => nr (by kernel_rfl)
noncomputable def g49_1 : Array Oper := regAt Go.Proofs.Try.f49 1
@[go_sem] theorem x49_1 : XR 49 g49_1 [mvo 6 0, (some 7, (.call ⟨(.builtin .len), #[(.tmp 6)], #[56]⟩), none), (some 8, (.binOp .eql 3 (.tmp 7) (.const (.int .i64 0)) 3), none)] := XR.mk (nr (by kernel_rfl)) (nr (by kernel_rfl))
@[go_sem] theorem t49_1 : TK g49_1 := fun _ => nr (by kernel_rfl)
noncomputable def g49_2 : Array Oper := regAt Go.Proofs.Try.f49 2
@[go_sem] theorem x49_2 : XR 49 g49_2 [(some 2, (.assign (.const (.int .i64 (-1)))), none), (some 3, (.assign (.const (.int .i64 2))), none)] := XR.mk (nr (by kernel_rfl)) (nr (by kernel_rfl))
@[go_sem] theorem t49_2 : TK g49_2 := fun _ => nr (by kernel_rfl)
noncomputable def g49_3 : Array Oper := regAt Go.Proofs.Try.f49 3
@[go_sem] theorem x49_3 : XR 49 g49_3 [mvo 9 0, (some 10, (.call ⟨(.builtin .len), #[(.tmp 9)], #[56]⟩), none), (some 11, (.binOp .gtr 3 (.tmp 10) (.const (.int .i64 64)) 3), none)] := XR.mk (nr (by kernel_rfl)) (nr (by kernel_rfl))
@[go_sem] theorem t49_3 : TK g49_3 := fun _ => nr (by kernel_rfl)
noncomputable def g49_4 : Array Oper := regAt Go.Proofs.Try.f49 4
@[go_sem] theorem x49_4 : XR 49 g49_4 [(some 2, (.assign (.const (.int .i64 (-1)))), none), (some 3, (.assign (.const (.int .i64 4))), none)] := XR.mk (nr (by kernel_rfl)) (nr (by kernel_rfl))
@[go_sem] theorem t49_4 : TK g49_4 := fun _ => nr (by kernel_rfl)
noncomputable def g49_5 : Array Oper := regAt Go.Proofs.Try.f49 5
@[go_sem] theorem x49_5 : XR 49 g49_5 [(some 4, (.assign (.const (.int .i64 0))), none)] := XR.mk (nr (by kernel_rfl)) (nr (by kernel_rfl))
@[go_sem] theorem t49_5 : TK g49_5 := fun _ => nr (by kernel_rfl)
noncomputable def g49_6 : Array Oper := regAt Go.Proofs.Try.f49 6
@[go_sem] theorem x49_6 : XR 49 g49_6 [mvo 12 4, mvo 13 0, (some 14, (.call ⟨(.builtin .len), #[(.tmp 13)], #[56]⟩), none), (some 15, (.binOp .lss 3 (.tmp 12) (.tmp 14) 3), none)] := XR.mk (nr (by kernel_rfl)) (nr (by kernel_rfl))
@[go_sem] theorem t49_6 : TK g49_6 := fun _ => nr (by kernel_rfl)
noncomputable def g49_7 : Array Oper := regAt Go.Proofs.Try.f49 7
@[go_sem] theorem x49_7 : XR 49 g49_7 [mvo 18 0, mvo 19 4, (some 20, (.indexAddr 56 (.tmp 18) (.tmp 19)), none), (some 21, (.load 66 (.tmp 20)), none), (some 22, (.call ⟨(.value (.func 120)), #[(.tmp 21)], #[66]⟩), none), (some 23, (.unOp .not 4 (.tmp 22)), none)] := XR.mk (nr (by kernel_rfl)) (nr (by kernel_rfl))
@[go_sem] theorem t49_7 : TK g49_7 := fun _ => nr (by kernel_rfl)
noncomputable def g49_8 : Array Oper := regAt Go.Proofs.Try.f49 8
@[go_sem] theorem x49_8 : XR 49 g49_8 [mvo 24 4, (some 2, (.assign (.tmp 24)), none), (some 3, (.assign (.const (.int .i64 7))), none)] := XR.mk (nr (by kernel_rfl)) (nr (by kernel_rfl))
@[go_sem] theorem t49_8 : TK g49_8 := fun _ => nr (by kernel_rfl)
noncomputable def g49_9 : Array Oper := regAt Go.Proofs.Try.f49 9
@[go_sem] theorem x49_9 : XR 49 g49_9 [mvo 25 0, mvo 26 4, (some 27, (.indexAddr 56 (.tmp 25) (.tmp 26)), none), (some 28, (.load 66 (.tmp 27)), none), mvo 29 0, (some 30, (.call ⟨(.builtin .len), #[(.tmp 29)], #[56]⟩), none), (some 31, (.call ⟨(.value (.func 121)), #[(.tmp 28), (.tmp 30)], #[66, 3]⟩), none)] := XR.mk (nr (by kernel_rfl)) (nr (by kernel_rfl))
@[go_sem] theorem t49_9 : TK g49_9 := fun _ => nr (by kernel_rfl)
noncomputable def g49_10 : Array Oper := regAt Go.Proofs.Try.f49 10
@[go_sem] theorem x49_10 : XR 49 g49_10 [mvo 32 4, (some 2, (.assign (.tmp 32)), none), (some 3, (.assign (.const (.int .i64 8))), none)] := XR.mk (nr (by kernel_rfl)) (nr (by kernel_rfl))
@[go_sem] theorem t49_10 : TK g49_10 := fun _ => nr (by kernel_rfl)
noncomputable def g49_11 : Array Oper := regAt Go.Proofs.Try.f49 11
@[go_sem] theorem x49_11 : XR 49 g49_11 [mvo 16 4, (some 17, (.binOp .add 3 (.tmp 16) (.const (.int .i64 1)) 3), none), (some 4, (.assign (.tmp 17)), none)] := XR.mk (nr (by kernel_rfl)) (nr (by kernel_rfl))
@[go_sem] theorem t49_11 : TK g49_11 := fun _ => nr (by kernel_rfl)
noncomputable def g49_12 : Array Oper := regAt Go.Proofs.Try.f49 12
@[go_sem] theorem x49_12 : XR 49 g49_12 [(some 5, (.assign (.const (.int .i64 0))), none)] := XR.mk (nr (by kernel_rfl)) (nr (by kernel_rfl))
@[go_sem] theorem t49_12 : TK g49_12 := fun _ => nr (by kernel_rfl)
noncomputable def g49_13 : Array Oper := regAt Go.Proofs.Try.f49 13
@[go_sem] theorem x49_13 : XR 49 g49_13 [mvo 33 5, mvo 34 0, (some 35, (.call ⟨(.builtin .len), #[(.tmp 34)], #[56]⟩), none), (some 36, (.binOp .lss 3 (.tmp 33) (.tmp 35) 3), none)] := XR.mk (nr (by kernel_rfl)) (nr (by kernel_rfl))
@[go_sem] theorem t49_13 : TK g49_13 := fun _ => nr (by kernel_rfl)
noncomputable def g49_14 : Array Oper := regAt Go.Proofs.Try.f49 14
@[go_sem] theorem x49_14 : XR 49 g49_14 [mvo 39 0, mvo 40 5, (some 41, (.indexAddr 56 (.tmp 39) (.tmp 40)), none), (some 42, (.fieldAddr 66 (.tmp 41) 0), none), (some 43, (.load 3 (.tmp 42)), none), (some 44, (.binOp .eql 3 (.tmp 43) (.const (.int .i64 5)) 3), none), mvo 45 44, (some 46, (.move (.tmp 0)), some (45, true)), (some 47, (.move (.tmp 5)), some (45, true)), (some 48, (.build 61 #[(0, (.tmp 47))]), some (45, true)), (some 49, (.call ⟨(.value (.func 52)), #[(.tmp 46), (.tmp 48)], #[56, 61]⟩), some (45, true)), (some 50, (.field 61 (.tmp 49) 0), some (45, true)), (some 51, (.binOp .lss 3 (.tmp 50) (.const (.int .i64 0)) 3), some (45, true)), (some 52, (.pick (.tmp 45) (.tmp 51) (.const (.bool false))), none)] := XR.mk (nr (by kernel_rfl)) (nr (by kernel_rfl))
@[go_sem] theorem t49_14 : TK g49_14 := fun _ => nr (by kernel_rfl)
noncomputable def g49_15 : Array Oper := regAt Go.Proofs.Try.f49 15
@[go_sem] theorem x49_15 : XR 49 g49_15 [mvo 53 5, (some 2, (.assign (.tmp 53)), none), (some 3, (.assign (.const (.int .i64 9))), none)] := XR.mk (nr (by kernel_rfl)) (nr (by kernel_rfl))
@[go_sem] theorem t49_15 : TK g49_15 := fun _ => nr (by kernel_rfl)
noncomputable def g49_16 : Array Oper := regAt Go.Proofs.Try.f49 16
@[go_sem] theorem x49_16 : XR 49 g49_16 [mvo 37 5, (some 38, (.binOp .add 3 (.tmp 37) (.const (.int .i64 1)) 3), none), (some 5, (.assign (.tmp 38)), none)] := XR.mk (nr (by kernel_rfl)) (nr (by kernel_rfl))
@[go_sem] theorem t49_16 : TK g49_16 := fun _ => nr (by kernel_rfl)
noncomputable def g49_17 : Array Oper := regAt Go.Proofs.Try.f49 17
@[go_sem] theorem x49_17 : XR 49 g49_17 [(some 2, (.assign (.const (.int .i64 (-1)))), none), (some 3, (.assign (.const (.int .i64 0))), none)] := XR.mk (nr (by kernel_rfl)) (nr (by kernel_rfl))
@[go_sem] theorem t49_17 : TK g49_17 := fun _ => nr (by kernel_rfl)
noncomputable def l49_0 : Code := (.seq (.seq (.region 6 g49_6 false) (.cond (.tmp 15) .skip (.exit 0))) (.seq (.block 1 (.seq (.seq (.region 8 g49_7 false) (.cond (.tmp 23) (.seq (.region 9 g49_8 false) .ret) .skip)) (.seq (.region 10 g49_9 false) (.cond (.tmp 31) (.seq (.region 11 g49_10 false) .ret) .skip)))) (.region 7 g49_11 false)))
theorem dl49_0 {ro nt : Nat} {fr : PT} {H : Hp} : (den cx).loop ro 49 nt l49_0 fr H = xbind (ex cx (den cx) ro 49 nt (.seq (.seq (.region 6 g49_6 false) (.cond (.tmp 15) .skip (.exit 0))) (.seq (.block 1 (.seq (.seq (.region 8 g49_7 false) (.cond (.tmp 23) (.seq (.region 9 g49_8 false) .ret) .skip)) (.seq (.region 10 g49_9 false) (.cond (.tmp 31) (.seq (.region 11 g49_10 false) .ret) .skip)))) (.region 7 g49_11 false))) fr H) (contR (trimmed ((den cx).loop ro 49 nt l49_0) H.length)) := den_loop_x l49_0
noncomputable def l49_1 : Code := (.seq (.seq (.region 13 g49_13 false) (.cond (.tmp 36) .skip (.exit 2))) (.seq (.block 3 (.seq (.region 15 g49_14 false) (.cond (.tmp 52) (.seq (.region 16 g49_15 false) .ret) .skip))) (.region 14 g49_16 false)))
theorem dl49_1 {ro nt : Nat} {fr : PT} {H : Hp} : (den cx).loop ro 49 nt l49_1 fr H = xbind (ex cx (den cx) ro 49 nt (.seq (.seq (.region 13 g49_13 false) (.cond (.tmp 36) .skip (.exit 2))) (.seq (.block 3 (.seq (.region 15 g49_14 false) (.cond (.tmp 52) (.seq (.region 16 g49_15 false) .ret) .skip))) (.region 14 g49_16 false))) fr H) (contR (trimmed ((den cx).loop ro 49 nt l49_1) H.length)) := den_loop_x l49_1
theorem b49 : Go.Proofs.Try.f49.body = some (.seq (.region 0 g49_0 false) (.seq (.seq (.region 1 g49_1 false) (.cond (.tmp 8) (.seq (.region 2 g49_2 false) .ret) .skip)) (.seq (.seq (.region 3 g49_3 false) (.cond (.tmp 11) (.seq (.region 4 g49_4 false) .ret) .skip)) (.seq (.seq (.region 5 g49_5 false) (.block 0 (.loop l49_0))) (.seq (.seq (.region 12 g49_12 false) (.block 2 (.loop l49_1))) (.seq (.region 17 g49_17 false) .ret)))))) := by kernel_rfl
theorem c49 {h : Hd} {ro : Nat} {H : Hp} (a0 : AV) : callB cx h ro 49 [a0] H = returned cx [(.tmp 2), (.tmp 3)] (ex cx h ro 49 54 (.seq (.region 0 g49_0 false) (.seq (.seq (.region 1 g49_1 false) (.cond (.tmp 8) (.seq (.region 2 g49_2 false) .ret) .skip)) (.seq (.seq (.region 3 g49_3 false) (.cond (.tmp 11) (.seq (.region 4 g49_4 false) .ret) .skip)) (.seq (.seq (.region 5 g49_5 false) (.block 0 (.loop l49_0))) (.seq (.seq (.region 12 g49_12 false) (.block 2 (.loop l49_1))) (.seq (.region 17 g49_17 false) .ret)))))) (PT.nil.set 0 (drp a0)) H) := by
  have hf : cx.fns 49 = some Go.Proofs.Try.f49 := by kernel_rfl
  simp only [callB, hf, funced, b49, bodied]
  rfl
/-! function 50: colloquy/colloquylaw04.works -/
noncomputable def g50_0 : Array Oper := regAt Go.Proofs.Try.f50 0
@[go_sem] theorem x50_0 : XR 50 g50_0 [(some 0, (.assign (.const (.bool false))), none)] := XR.mk (nr (by kernel_rfl)) (nr (by kernel_rfl))
@[go_sem] theorem t50_0 : TK g50_0 := fun _ => nr (by kernel_rfl)
noncomputable def g50_1 : Array Oper := regAt Go.Proofs.Try.f50 1
@[go_sem] theorem x50_1 : XR 50 g50_1 [(some 6, (.build 63 #[(0, (.const (.int .i64 1))), (1, (.const (.int .i64 2)))]), none), (some 7, (.buildSlice 64 1 #[(0, (.tmp 6))]), none), (some 8, (.build 66 #[(0, (.const (.int .i64 5))), (4, (.tmp 7))]), none), (some 9, (.build 63 #[(0, (.const (.int .i64 2))), (1, (.const (.int .i64 3)))]), none), (some 10, (.buildSlice 64 1 #[(0, (.tmp 9))]), none), (some 11, (.build 66 #[(0, (.const (.int .i64 5))), (4, (.tmp 10))]), none), (some 12, (.build 66 #[]), none), (some 13, (.buildSlice 56 3 #[(0, (.tmp 8)), (1, (.tmp 11)), (2, (.tmp 12))]), none), (some 1, (.assign (.tmp 13)), none)] := XR.mk (nr (by kernel_rfl)) (nr (by kernel_rfl))
@[go_sem] theorem t50_1 : TK g50_1 := fun _ => nr (by kernel_rfl)
noncomputable def g50_2 : Array Oper := regAt Go.Proofs.Try.f50 2
@[go_sem] theorem x50_2 : XR 50 g50_2 [mvo 15 1, (some 16, (.call ⟨(.value (.func 48)), #[(.tmp 15)], #[56]⟩), none), mvo 14 16, (some 17, (.extract (.tmp 14) 0), none), (some 18, (.extract (.tmp 14) 1), none), (some 2, (.assign (.tmp 17)), none), (some 3, (.assign (.tmp 18)), none)] := XR.mk (nr (by kernel_rfl)) (nr (by kernel_rfl))
@[go_sem] theorem t50_2 : TK g50_2 := fun _ => nr (by kernel_rfl)
noncomputable def g50_3 : Array Oper := regAt Go.Proofs.Try.f50 3
@[go_sem] theorem x50_3 : XR 50 g50_3 [(some 20, (.build 66 #[(1, (.const (.int .i64 1)))]), none), (some 21, (.buildSlice 56 1 #[(0, (.tmp 20))]), none), (some 22, (.call ⟨(.value (.func 48)), #[(.tmp 21)], #[56]⟩), none), mvo 19 22, (some 23, (.extract (.tmp 19) 0), none), (some 24, (.extract (.tmp 19) 1), none), (some 4, (.assign (.tmp 23)), none), (some 5, (.assign (.tmp 24)), none)] := XR.mk (nr (by kernel_rfl)) (nr (by kernel_rfl))
@[go_sem] theorem t50_3 : TK g50_3 := fun _ => nr (by kernel_rfl)
noncomputable def g50_4 : Array Oper := regAt Go.Proofs.Try.f50 4
@[go_sem] theorem x50_4 : XR 50 g50_4 [mvo 25 2, (some 26, (.binOp .eql 3 (.tmp 25) (.const (.int .i64 (-1))) 3), none), mvo 27 26, (some 28, (.move (.tmp 3)), some (27, true)), (some 29, (.binOp .eql 27 (.tmp 28) (.const (.int .i64 0)) 27), some (27, true)), (some 30, (.pick (.tmp 27) (.tmp 29) (.const (.bool false))), none), mvo 31 30, (some 32, (.move (.tmp 4)), some (31, true)), (some 33, (.binOp .eql 3 (.tmp 32) (.const (.int .i64 0)) 3), some (31, true)), (some 34, (.pick (.tmp 31) (.tmp 33) (.const (.bool false))), none), mvo 35 34, (some 36, (.move (.tmp 5)), some (35, true)), (some 37, (.binOp .eql 27 (.tmp 36) (.const (.int .i64 7)) 27), some (35, true)), (some 38, (.pick (.tmp 35) (.tmp 37) (.const (.bool false))), none), mvo 39 38, (some 40, (.move (.tmp 1)), some (39, true)), (some 41, (.build 61 #[(1, (.const (.int .i64 4)))]), some (39, true)), (some 42, (.call ⟨(.value (.func 51)), #[(.tmp 40), (.tmp 41)], #[56, 61]⟩), some (39, true)), (some 43, (.build 61 #[(0, (.const (.int .i64 2))), (1, (.const (.int .i64 9)))]), some (39, true)), (some 44, (.binOp .eql 61 (.tmp 42) (.tmp 43) 61), some (39, true)), (some 45, (.pick (.tmp 39) (.tmp 44) (.const (.bool false))), none), (some 0, (.assign (.tmp 45)), none)] := XR.mk (nr (by kernel_rfl)) (nr (by kernel_rfl))
@[go_sem] theorem t50_4 : TK g50_4 := fun _ => nr (by kernel_rfl)
theorem b50 : Go.Proofs.Try.f50.body = some (.seq (.region 0 g50_0 false) (.seq (.region 1 g50_1 false) (.seq (.region 2 g50_2 false) (.seq (.region 3 g50_3 false) (.seq (.region 4 g50_4 false) .ret))))) := by kernel_rfl
theorem c50 {h : Hd} {ro : Nat} {H : Hp} : callB cx h ro 50 [] H = returned cx [(.tmp 0)] (ex cx h ro 50 46 (.seq (.region 0 g50_0 false) (.seq (.region 1 g50_1 false) (.seq (.region 2 g50_2 false) (.seq (.region 3 g50_3 false) (.seq (.region 4 g50_4 false) .ret))))) PT.nil H) := by
  have hf : cx.fns 50 = some Go.Proofs.Try.f50 := by kernel_rfl
  simp only [callB, hf, funced, b50, bodied]
  rw [if_pos (of_decide_eq_true (by kernel_rfl))]
  rfl
end Go.Abs.Tab

/- Codes of this seat's functions, their regions step by step. (Printed by a program.) -/
set_option linter.unusedVariables false
namespace Go.Abs.Tab
/-! function 57: colloquy/dual.Mate -/
noncomputable def g57_0 : Array Oper := regAt Go.Proofs.Try.f57 0
@[go_sem] theorem x57_0 : XR 57 g57_0 [(some 4, (.assign (.const (.int .i64 0))), none)] := XR.mk (nr (by kernel_rfl)) (nr (by kernel_rfl))
@[go_sem] theorem t57_0 : TK g57_0 := fun _ => nr (by kernel_rfl)
noncomputable def g57_1 : Array Oper := regAt Go.Proofs.Try.f57 1
@[go_sem] theorem x57_1 : XR 57 g57_1 [mvo 6 0, (some 7, (.binOp .lss 3 (.tmp 6) (.const (.int .i64 1)) 3), none), mvo 8 7, (some 9, (.move (.tmp 1)), some (8, false)), (some 10, (.binOp .lss 3 (.tmp 9) (.const (.int .i64 0)) 3), some (8, false)), (some 11, (.pick (.tmp 8) (.const (.bool true)) (.tmp 10)), none), mvo 12 11, (some 13, (.move (.tmp 1)), some (12, false)), (some 14, (.move (.tmp 0)), some (12, false)), (some 15, (.binOp .mul 3 (.const (.int .i64 2)) (.tmp 14) 3), some (12, false)), (some 16, (.binOp .geq 3 (.tmp 13) (.tmp 15) 3), some (12, false)), (some 17, (.pick (.tmp 12) (.const (.bool true)) (.tmp 16)), none), (some 5, (.assign (.tmp 17)), none)] := XR.mk (nr (by kernel_rfl)) (nr (by kernel_rfl))
@[go_sem] theorem t57_1 : TK g57_1 := fun _ => nr (by kernel_rfl)
noncomputable def g57_2 : Array Oper := regAt Go.Proofs.Try.f57 2
@[go_sem] theorem x57_2 : XR 57 g57_2 [(some 4, (.assign (.const (.int .i64 (-1)))), none)] := XR.mk (nr (by kernel_rfl)) (nr (by kernel_rfl))
@[go_sem] theorem t57_2 : TK g57_2 := fun _ => nr (by kernel_rfl)
noncomputable def g57_3 : Array Oper := regAt Go.Proofs.Try.f57 3
@[go_sem] theorem x57_3 : XR 57 g57_3 [mvo 19 1, mvo 20 0, (some 21, (.binOp .lss 3 (.tmp 19) (.tmp 20) 3), none), (some 18, (.assign (.tmp 21)), none)] := XR.mk (nr (by kernel_rfl)) (nr (by kernel_rfl))
@[go_sem] theorem t57_3 : TK g57_3 := fun _ => nr (by kernel_rfl)
noncomputable def g57_4 : Array Oper := regAt Go.Proofs.Try.f57 4
@[go_sem] theorem x57_4 : XR 57 g57_4 [mvo 22 1, mvo 23 0, (some 24, (.binOp .add 3 (.tmp 22) (.tmp 23) 3), none), (some 4, (.assign (.tmp 24)), none)] := XR.mk (nr (by kernel_rfl)) (nr (by kernel_rfl))
@[go_sem] theorem t57_4 : TK g57_4 := fun _ => nr (by kernel_rfl)
noncomputable def g57_5 : Array Oper := regAt Go.Proofs.Try.f57 5
@[go_sem] theorem x57_5 : XR 57 g57_5 [mvo 25 1, mvo 26 0, (some 27, (.binOp .sub 3 (.tmp 25) (.tmp 26) 3), none), (some 4, (.assign (.tmp 27)), none)] := XR.mk (nr (by kernel_rfl)) (nr (by kernel_rfl))
@[go_sem] theorem t57_5 : TK g57_5 := fun _ => nr (by kernel_rfl)
theorem b57 : Go.Proofs.Try.f57.body = some (.seq (.region 0 g57_0 false) (.seq (.block 0 (.seq (.region 1 g57_1 false) (.cond (.tmp 5) (.seq (.region 2 g57_2 false) .ret) (.seq (.region 3 g57_3 false) (.cond (.tmp 18) (.seq (.region 4 g57_4 false) .ret) .skip))))) (.seq (.region 5 g57_5 false) .ret))) := by kernel_rfl
theorem c57 {h : Hd} {ro : Nat} {H : Hp} (a0 a1 : AV) : callB cx h ro 57 [a0, a1] H = returned cx [(.tmp 4)] (ex cx h ro 57 28 (.seq (.region 0 g57_0 false) (.seq (.block 0 (.seq (.region 1 g57_1 false) (.cond (.tmp 5) (.seq (.region 2 g57_2 false) .ret) (.seq (.region 3 g57_3 false) (.cond (.tmp 18) (.seq (.region 4 g57_4 false) .ret) .skip))))) (.seq (.region 5 g57_5 false) .ret))) ((PT.nil.set 0 (drp a0)).set 1 (drp a1)) H) := by
  have hf : cx.fns 57 = some Go.Proofs.Try.f57 := by kernel_rfl
  simp only [callB, hf, funced, b57, bodied]
  rfl
/-! function 58: colloquy/colloquyref06.Mate -/
noncomputable def g58_0 : Array Oper := regAt Go.Proofs.Try.f58 0
@[go_sem] theorem x58_0 : XR 58 g58_0 [(some 4, (.assign (.const (.int .i64 0))), none)] := XR.mk (nr (by kernel_rfl)) (nr (by kernel_rfl))
@[go_sem] theorem t58_0 : TK g58_0 := fun _ => nr (by kernel_rfl)
noncomputable def g58_1 : Array Oper := regAt Go.Proofs.Try.f58 1
@[go_sem] theorem x58_1 : XR 58 g58_1 [mvo 5 0, (some 6, (.binOp .lss 3 (.tmp 5) (.const (.int .i64 1)) 3), none), mvo 7 6, (some 8, (.move (.tmp 1)), some (7, false)), (some 9, (.binOp .lss 3 (.tmp 8) (.const (.int .i64 0)) 3), some (7, false)), (some 10, (.pick (.tmp 7) (.const (.bool true)) (.tmp 9)), none), mvo 11 10, (some 12, (.move (.tmp 1)), some (11, false)), (some 13, (.move (.tmp 0)), some (11, false)), (some 14, (.binOp .mul 3 (.const (.int .i64 2)) (.tmp 13) 3), some (11, false)), (some 15, (.binOp .geq 3 (.tmp 12) (.tmp 14) 3), some (11, false)), (some 16, (.pick (.tmp 11) (.const (.bool true)) (.tmp 15)), none)] := XR.mk (nr (by kernel_rfl)) (nr (by kernel_rfl))
@[go_sem] theorem t58_1 : TK g58_1 := fun _ => nr (by kernel_rfl)
noncomputable def g58_2 : Array Oper := regAt Go.Proofs.Try.f58 2
@[go_sem] theorem x58_2 : XR 58 g58_2 [(some 4, (.assign (.const (.int .i64 (-1)))), none)] := XR.mk (nr (by kernel_rfl)) (nr (by kernel_rfl))
@[go_sem] theorem t58_2 : TK g58_2 := fun _ => nr (by kernel_rfl)
noncomputable def g58_3 : Array Oper := regAt Go.Proofs.Try.f58 3
@[go_sem] theorem x58_3 : XR 58 g58_3 [mvo 17 1, mvo 18 0, (some 19, (.binOp .lss 3 (.tmp 17) (.tmp 18) 3), none)] := XR.mk (nr (by kernel_rfl)) (nr (by kernel_rfl))
@[go_sem] theorem t58_3 : TK g58_3 := fun _ => nr (by kernel_rfl)
noncomputable def g58_4 : Array Oper := regAt Go.Proofs.Try.f58 4
@[go_sem] theorem x58_4 : XR 58 g58_4 [mvo 20 1, mvo 21 0, (some 22, (.binOp .add 3 (.tmp 20) (.tmp 21) 3), none), (some 4, (.assign (.tmp 22)), none)] := XR.mk (nr (by kernel_rfl)) (nr (by kernel_rfl))
@[go_sem] theorem t58_4 : TK g58_4 := fun _ => nr (by kernel_rfl)
noncomputable def g58_5 : Array Oper := regAt Go.Proofs.Try.f58 5
@[go_sem] theorem x58_5 : XR 58 g58_5 [mvo 23 1, mvo 24 0, (some 25, (.binOp .sub 3 (.tmp 23) (.tmp 24) 3), none), (some 4, (.assign (.tmp 25)), none)] := XR.mk (nr (by kernel_rfl)) (nr (by kernel_rfl))
@[go_sem] theorem t58_5 : TK g58_5 := fun _ => nr (by kernel_rfl)
theorem b58 : Go.Proofs.Try.f58.body = some (.seq (.region 0 g58_0 false) (.seq (.seq (.region 1 g58_1 false) (.cond (.tmp 16) (.seq (.region 2 g58_2 false) .ret) .skip)) (.seq (.seq (.region 3 g58_3 false) (.cond (.tmp 19) (.seq (.region 4 g58_4 false) .ret) .skip)) (.seq (.region 5 g58_5 false) .ret)))) := by kernel_rfl
theorem c58 {h : Hd} {ro : Nat} {H : Hp} (a0 a1 : AV) : callB cx h ro 58 [a0, a1] H = returned cx [(.tmp 4)] (ex cx h ro 58 26 (.seq (.region 0 g58_0 false) (.seq (.seq (.region 1 g58_1 false) (.cond (.tmp 16) (.seq (.region 2 g58_2 false) .ret) .skip)) (.seq (.seq (.region 3 g58_3 false) (.cond (.tmp 19) (.seq (.region 4 g58_4 false) .ret) .skip)) (.seq (.region 5 g58_5 false) .ret)))) ((PT.nil.set 0 (drp a0)).set 1 (drp a1)) H) := by
  have hf : cx.fns 58 = some Go.Proofs.Try.f58 := by kernel_rfl
  simp only [callB, hf, funced, b58, bodied]
  rfl
/-! function 124: colloquy/colloquyref06.Kind -/
noncomputable def g124_0 : Array Oper := regAt Go.Proofs.Try.f124 0
@[go_sem] theorem x124_0 : XR 124 g124_0 [(some 2, (.assign (.const (.int .i64 0))), none)] := XR.mk (nr (by kernel_rfl)) (nr (by kernel_rfl))
@[go_sem] theorem t124_0 : TK g124_0 := fun _ => nr (by kernel_rfl)
noncomputable def g124_1 : Array Oper := regAt Go.Proofs.Try.f124 1
@[go_sem] theorem x124_1 : XR 124 g124_1 [mvo 3 0] := XR.mk (nr (by kernel_rfl)) (nr (by kernel_rfl))
@[go_sem] theorem t124_1 : TK g124_1 := fun _ => nr (by kernel_rfl)
noncomputable def g124_2 : Array Oper := regAt Go.Proofs.Try.f124 2
@[go_sem] theorem x124_2 : XR 124 g124_2 [(some 5, (.binOp .eql 3 (.tmp 3) (.const (.int .i64 1)) 3), none), (some 4, (.assign (.tmp 5)), none)] := XR.mk (nr (by kernel_rfl)) (nr (by kernel_rfl))
@[go_sem] theorem t124_2 : TK g124_2 := fun _ => nr (by kernel_rfl)
noncomputable def g124_3 : Array Oper := regAt Go.Proofs.Try.f124 3
@[go_sem] theorem x124_3 : XR 124 g124_3 [(some 2, (.assign (.const (.int .i64 2))), none)] := XR.mk (nr (by kernel_rfl)) (nr (by kernel_rfl))
@[go_sem] theorem t124_3 : TK g124_3 := fun _ => nr (by kernel_rfl)
noncomputable def g124_4 : Array Oper := regAt Go.Proofs.Try.f124 4
@[go_sem] theorem x124_4 : XR 124 g124_4 [(some 7, (.binOp .eql 3 (.tmp 3) (.const (.int .i64 2)) 3), none), (some 6, (.assign (.tmp 7)), none)] := XR.mk (nr (by kernel_rfl)) (nr (by kernel_rfl))
@[go_sem] theorem t124_4 : TK g124_4 := fun _ => nr (by kernel_rfl)
noncomputable def g124_5 : Array Oper := regAt Go.Proofs.Try.f124 5
@[go_sem] theorem x124_5 : XR 124 g124_5 [(some 2, (.assign (.const (.int .i64 1))), none)] := XR.mk (nr (by kernel_rfl)) (nr (by kernel_rfl))
@[go_sem] theorem t124_5 : TK g124_5 := fun _ => nr (by kernel_rfl)
noncomputable def g124_6 : Array Oper := regAt Go.Proofs.Try.f124 6
@[go_sem] theorem x124_6 : XR 124 g124_6 [(some 9, (.binOp .eql 3 (.tmp 3) (.const (.int .i64 3)) 3), none), (some 8, (.assign (.tmp 9)), none)] := XR.mk (nr (by kernel_rfl)) (nr (by kernel_rfl))
@[go_sem] theorem t124_6 : TK g124_6 := fun _ => nr (by kernel_rfl)
noncomputable def g124_7 : Array Oper := regAt Go.Proofs.Try.f124 7
@[go_sem] theorem x124_7 : XR 124 g124_7 [(some 2, (.assign (.const (.int .i64 4))), none)] := XR.mk (nr (by kernel_rfl)) (nr (by kernel_rfl))
@[go_sem] theorem t124_7 : TK g124_7 := fun _ => nr (by kernel_rfl)
noncomputable def g124_8 : Array Oper := regAt Go.Proofs.Try.f124 8
@[go_sem] theorem x124_8 : XR 124 g124_8 [(some 11, (.binOp .eql 3 (.tmp 3) (.const (.int .i64 4)) 3), none), (some 10, (.assign (.tmp 11)), none)] := XR.mk (nr (by kernel_rfl)) (nr (by kernel_rfl))
@[go_sem] theorem t124_8 : TK g124_8 := fun _ => nr (by kernel_rfl)
noncomputable def g124_9 : Array Oper := regAt Go.Proofs.Try.f124 9
@[go_sem] theorem x124_9 : XR 124 g124_9 [(some 2, (.assign (.const (.int .i64 3))), none)] := XR.mk (nr (by kernel_rfl)) (nr (by kernel_rfl))
@[go_sem] theorem t124_9 : TK g124_9 := fun _ => nr (by kernel_rfl)
noncomputable def g124_10 : Array Oper := regAt Go.Proofs.Try.f124 10
@[go_sem] theorem x124_10 : XR 124 g124_10 [mvo 12 0, (some 2, (.assign (.tmp 12)), none)] := XR.mk (nr (by kernel_rfl)) (nr (by kernel_rfl))
@[go_sem] theorem t124_10 : TK g124_10 := fun _ => nr (by kernel_rfl)
theorem b124 : Go.Proofs.Try.f124.body = some (.seq (.region 0 g124_0 false) (.seq (.seq (.region 1 g124_1 false) (.block 0 (.seq (.region 2 g124_2 false) (.cond (.tmp 4) (.seq (.region 3 g124_3 false) .ret) (.seq (.region 4 g124_4 false) (.cond (.tmp 6) (.seq (.region 5 g124_5 false) .ret) (.seq (.region 6 g124_6 false) (.cond (.tmp 8) (.seq (.region 7 g124_7 false) .ret) (.seq (.region 8 g124_8 false) (.cond (.tmp 10) (.seq (.region 9 g124_9 false) .ret) .skip)))))))))) (.seq (.region 10 g124_10 false) .ret))) := by kernel_rfl
theorem c124 {h : Hd} {ro : Nat} {H : Hp} (a0 : AV) : callB cx h ro 124 [a0] H = returned cx [(.tmp 2)] (ex cx h ro 124 13 (.seq (.region 0 g124_0 false) (.seq (.seq (.region 1 g124_1 false) (.block 0 (.seq (.region 2 g124_2 false) (.cond (.tmp 4) (.seq (.region 3 g124_3 false) .ret) (.seq (.region 4 g124_4 false) (.cond (.tmp 6) (.seq (.region 5 g124_5 false) .ret) (.seq (.region 6 g124_6 false) (.cond (.tmp 8) (.seq (.region 7 g124_7 false) .ret) (.seq (.region 8 g124_8 false) (.cond (.tmp 10) (.seq (.region 9 g124_9 false) .ret) .skip)))))))))) (.seq (.region 10 g124_10 false) .ret))) (PT.nil.set 0 (drp a0)) H) := by
  have hf : cx.fns 124 = some Go.Proofs.Try.f124 := by kernel_rfl
  simp only [callB, hf, funced, b124, bodied]
  rfl
/-! function 159: colloquy/dual.other -/
noncomputable def g159_0 : Array Oper := regAt Go.Proofs.Try.f159 0
@[go_sem] theorem x159_0 : XR 159 g159_0 [(some 0, (.alloc 209), none)] := XR.mk (nr (by kernel_rfl)) (nr (by kernel_rfl))
@[go_sem] theorem t159_0 : TK g159_0 := fun _ => nr (by kernel_rfl)
noncomputable def g159_1 : Array Oper := regAt Go.Proofs.Try.f159 1
@[go_sem] theorem x159_1 : XR 159 g159_1 [(some 1, (.build 209 #[(0, (.const (.int .i64 0))), (1, (.const (.int .i64 2))), (2, (.const (.int .i64 1))), (3, (.const (.int .i64 4))), (4, (.const (.int .i64 3))), (5, (.const (.int .i64 5)))]), none), (none, (.store 209 (.tmp 0) (.tmp 1)), none)] := XR.mk (nr (by kernel_rfl)) (nr (by kernel_rfl))
@[go_sem] theorem t159_1 : TK g159_1 := fun _ => nr (by kernel_rfl)
theorem b159 : Go.Proofs.Try.f159.body = some (.seq (.region 0 g159_0 false) (.seq (.region 1 g159_1 false) .ret)) := by kernel_rfl
theorem c159 {h : Hd} {ro : Nat} {H : Hp} : callB cx h ro 159 [] H = returned cx [(.cell 0 209)] (ex cx h ro 159 2 (.seq (.region 0 g159_0 false) (.seq (.region 1 g159_1 false) .ret)) PT.nil H) := by
  have hf : cx.fns 159 = some Go.Proofs.Try.f159 := by kernel_rfl
  simp only [callB, hf, funced, b159, bodied]
  rw [if_pos (of_decide_eq_true (by kernel_rfl))]
  rfl
/-! function 122: colloquy/dual.halves -/
noncomputable def g122_0 : Array Oper := regAt Go.Proofs.Try.f122 0
@[go_sem] theorem x122_0 : XR 122 g122_0 [(some 1, (.box 3 (.tmp 0)), none), (some 2, (.assign (.const .nilFunc)), none)] := XR.mk (nr (by kernel_rfl)) (nr (by kernel_rfl))
@[go_sem] theorem t122_0 : TK g122_0 := fun _ => nr (by kernel_rfl)
noncomputable def g122_1 : Array Oper := regAt Go.Proofs.Try.f122 1
@[go_sem] theorem x122_1 : XR 122 g122_1 [(some 3, (.makeFunc (.func 158) #[] #[(.tmp 1)]), none), (some 2, (.assign (.tmp 3)), none)] := XR.mk (nr (by kernel_rfl)) (nr (by kernel_rfl))
@[go_sem] theorem t122_1 : TK g122_1 := fun _ => nr (by kernel_rfl)
theorem b122 : Go.Proofs.Try.f122.body = some (.seq (.region 0 g122_0 false) (.seq (.region 1 g122_1 false) .ret)) := by kernel_rfl
theorem c122 {h : Hd} {ro : Nat} {H : Hp} (a0 : AV) : callB cx h ro 122 [a0] H = returned cx [(.tmp 2)] (ex cx h ro 122 4 (.seq (.region 0 g122_0 false) (.seq (.region 1 g122_1 false) .ret)) (PT.nil.set 0 (drp a0)) H) := by
  have hf : cx.fns 122 = some Go.Proofs.Try.f122 := by kernel_rfl
  simp only [callB, hf, funced, b122, bodied]
  rfl
/-! function 158: colloquy/dual.halves$1 -/
noncomputable def g158_0 : Array Oper := regAt Go.Proofs.Try.f158 0
@[go_sem] theorem x158_0 : XR 158 g158_0 [(some 5, (.call ⟨(.value (.func 159)), #[], #[]⟩), none), (some 3, (.alloc 209), none), (none, (.store 209 (.tmp 3) (.tmp 5)), none)] := XR.mk (nr (by kernel_rfl)) (nr (by kernel_rfl))
@[go_sem] theorem t158_0 : TK g158_0 := fun _ => nr (by kernel_rfl)
noncomputable def g158_1 : Array Oper := regAt Go.Proofs.Try.f158 1
@[go_sem] theorem x158_1 : XR 158 g158_1 [(some 6, (.move (.const (.int .i64 0))), none)] := XR.mk (nr (by kernel_rfl)) (nr (by kernel_rfl))
@[go_sem] theorem t158_1 : TK g158_1 := fun _ => nr (by kernel_rfl)
noncomputable def g158_2 : Array Oper := regAt Go.Proofs.Try.f158 2
@[go_sem] theorem x158_2 : XR 158 g158_2 [(some 7, (.binOp .lss 3 (.tmp 6) (.const (.int .i64 6)) 3), none)] := XR.mk (nr (by kernel_rfl)) (nr (by kernel_rfl))
@[go_sem] theorem t158_2 : TK g158_2 := fun _ => nr (by kernel_rfl)
noncomputable def g158_3 : Array Oper := regAt Go.Proofs.Try.f158 3
@[go_sem] theorem x158_3 : XR 158 g158_3 [mvo 8 6, (some 4, (.assign (.tmp 8)), none)] := XR.mk (nr (by kernel_rfl)) (nr (by kernel_rfl))
@[go_sem] theorem t158_3 : TK g158_3 := fun _ => nr (by kernel_rfl)
noncomputable def g158_4 : Array Oper := regAt Go.Proofs.Try.f158 4
@[go_sem] theorem x158_4 : XR 158 g158_4 [mvo 9 4, mvo 10 4, (some 11, (.indexAddr 209 (.tmp 3) (.tmp 9)), none), (none, (.store 3 (.tmp 11) (.tmp 10)), none)] := XR.mk (nr (by kernel_rfl)) (nr (by kernel_rfl))
@[go_sem] theorem t158_4 : TK g158_4 := fun _ => nr (by kernel_rfl)
noncomputable def g158_5 : Array Oper := regAt Go.Proofs.Try.f158 5
@[go_sem] theorem x158_5 : XR 158 g158_5 [(some 12, (.binOp .add 3 (.tmp 6) (.const (.int .i64 1)) 3), none), mvo 6 12] := XR.mk (nr (by kernel_rfl)) (nr (by kernel_rfl))
@[go_sem] theorem t158_5 : TK g158_5 := fun _ => nr (by kernel_rfl)
noncomputable def g158_6 : Array Oper := regAt Go.Proofs.Try.f158 6
@[go_sem] theorem x158_6 : XR 158 g158_6 [mvo 13 0, (some 14, (.load 209 (.tmp 3)), none), (some 15, (.call ⟨(.value (.tmp 13)), #[(.tmp 14), (.const (.int .i64 0))], #[209, 3]⟩), none)] := XR.mk (nr (by kernel_rfl)) (nr (by kernel_rfl))
@[go_sem] theorem t158_6 : TK g158_6 := fun _ => nr (by kernel_rfl)
noncomputable def g158_7 : Array Oper := regAt Go.Proofs.Try.f158 7
@[go_sem] theorem x158_7 : XUR 158 g158_7 [(0, 0, [], mvo 16 0), (1, 0, [0], (some 17, (.call ⟨(.value (.func 159)), #[], #[]⟩), none)), (2, 0, [0, 1], (some 18, (.load 3 (.tmp 1)), none)), (3, 0, [], (some 19, (.call ⟨(.value (.tmp 16)), #[(.tmp 17), (.tmp 18)], #[209, 3]⟩), none))] 0 := XUR.mk (nr (by kernel_rfl)) (nr (by kernel_rfl)) (nr (by kernel_rfl)) (nr (by kernel_rfl)) (nr (by kernel_rfl))
@[go_sem] theorem t158_7 : TK g158_7 := fun _ => nr (by kernel_rfl)
noncomputable def l158_0 : Code := (.seq (.region 2 g158_2 false) (.seq (.cond (.tmp 7) .skip (.exit 0)) (.seq (.block 1 (.seq (.region 3 g158_3 false) (.region 4 g158_4 false))) (.region 5 g158_5 false))))
theorem dl158_0 {ro nt : Nat} {fr : PT} {H : Hp} : (den cx).loop ro 158 nt l158_0 fr H = xbind (ex cx (den cx) ro 158 nt (.seq (.region 2 g158_2 false) (.seq (.cond (.tmp 7) .skip (.exit 0)) (.seq (.block 1 (.seq (.region 3 g158_3 false) (.region 4 g158_4 false))) (.region 5 g158_5 false)))) fr H) (contR (trimmed ((den cx).loop ro 158 nt l158_0) H.length)) := den_loop_x l158_0
theorem b158 : Go.Proofs.Try.f158.body = some (.seq (.region 0 g158_0 false) (.seq (.seq (.region 1 g158_1 false) (.block 0 (.loop l158_0))) (.seq (.region 6 g158_6 false) (.cond (.tmp 15) (.region 7 g158_7 true) .skip)))) := by kernel_rfl
theorem c158 {h : Hd} {ro : Nat} {H : Hp} (a0 a1 : AV) : callB cx h ro 158 [a0, a1] H = returned cx [] (ex cx h ro 158 20 (.seq (.region 0 g158_0 false) (.seq (.seq (.region 1 g158_1 false) (.block 0 (.loop l158_0))) (.seq (.region 6 g158_6 false) (.cond (.tmp 15) (.region 7 g158_7 true) .skip)))) ((PT.nil.set 0 (drp a0)).set 1 (drp a1)) H) := by
  have hf : cx.fns 158 = some Go.Proofs.Try.f158 := by kernel_rfl
  simp only [callB, hf, funced, b158, bodied]
  rfl
/-! function 123: colloquy/dual.Table$1 -/
noncomputable def g123_0 : Array Oper := regAt Go.Proofs.Try.f123 0
@[go_sem] theorem x123_0 : XR 123 g123_0 [(some 3, (.assign (.const (.slice none 0 0))), none)] := XR.mk (nr (by kernel_rfl)) (nr (by kernel_rfl))
@[go_sem] theorem t123_0 : TK g123_0 := fun _ => nr (by kernel_rfl)
noncomputable def g123_1 : Array Oper := regAt Go.Proofs.Try.f123 1
@[go_sem] theorem x123_1 : XR 123 g123_1 [mvo 6 0, (some 7, (.call ⟨(.builtin .len), #[(.tmp 6)], #[64]⟩), none), (some 8, (.move (.const (.int .i64 0))), none)] := XR.mk (nr (by kernel_rfl)) (nr (by kernel_rfl))
@[go_sem] theorem t123_1 : TK g123_1 := fun _ => nr (by kernel_rfl)
noncomputable def g123_2 : Array Oper := regAt Go.Proofs.Try.f123 2
@[go_sem] theorem x123_2 : XR 123 g123_2 [(some 9, (.binOp .lss 3 (.tmp 8) (.tmp 7) 3), none)] := XR.mk (nr (by kernel_rfl)) (nr (by kernel_rfl))
@[go_sem] theorem t123_2 : TK g123_2 := fun _ => nr (by kernel_rfl)
noncomputable def g123_3 : Array Oper := regAt Go.Proofs.Try.f123 3
@[go_sem] theorem x123_3 : XR 123 g123_3 [(some 10, (.indexAddr 64 (.tmp 6) (.tmp 8)), none), (some 11, (.load 63 (.tmp 10)), none), (some 5, (.alloc 63), none), (none, (.store 63 (.tmp 5) (.tmp 11)), none)] := XR.mk (nr (by kernel_rfl)) (nr (by kernel_rfl))
@[go_sem] theorem t123_3 : TK g123_3 := fun _ => nr (by kernel_rfl)
noncomputable def g123_4 : Array Oper := regAt Go.Proofs.Try.f123 4
@[go_sem] theorem x123_4 : XR 123 g123_4 [mvo 12 3, (some 13, (.fieldAddr 63 (.tmp 5) 0), none), (some 14, (.load 3 (.tmp 13)), none), (some 15, (.load 3 (.tmp 1)), none), (some 16, (.binOp .add 3 (.tmp 14) (.tmp 15) 3), none), (some 17, (.fieldAddr 63 (.tmp 5) 1), none), (some 18, (.load 3 (.tmp 17)), none), (some 19, (.build 63 #[(0, (.tmp 16)), (1, (.tmp 18))]), none), (some 20, (.buildSlice 64 1 #[(0, (.tmp 19))]), none), (some 21, (.call ⟨(.builtin .append), #[(.tmp 12), (.tmp 20)], #[64, 64]⟩), none), (some 3, (.assign (.tmp 21)), none)] := XR.mk (nr (by kernel_rfl)) (nr (by kernel_rfl))
@[go_sem] theorem t123_4_12 : takes g123_4 12 = true := nr (by kernel_rfl)
@[go_sem] theorem t123_4_13 : takes g123_4 13 = false := nr (by kernel_rfl)
@[go_sem] theorem t123_4_14 : takes g123_4 14 = false := nr (by kernel_rfl)
@[go_sem] theorem t123_4_15 : takes g123_4 15 = false := nr (by kernel_rfl)
@[go_sem] theorem t123_4_16 : takes g123_4 16 = false := nr (by kernel_rfl)
@[go_sem] theorem t123_4_17 : takes g123_4 17 = false := nr (by kernel_rfl)
@[go_sem] theorem t123_4_18 : takes g123_4 18 = false := nr (by kernel_rfl)
@[go_sem] theorem t123_4_19 : takes g123_4 19 = false := nr (by kernel_rfl)
@[go_sem] theorem t123_4_20 : takes g123_4 20 = false := nr (by kernel_rfl)
@[go_sem] theorem t123_4_21 : takes g123_4 21 = false := nr (by kernel_rfl)
@[go_sem] theorem t123_4_3 : takes g123_4 3 = false := nr (by kernel_rfl)
noncomputable def g123_5 : Array Oper := regAt Go.Proofs.Try.f123 5
@[go_sem] theorem x123_5 : XR 123 g123_5 [(some 22, (.binOp .add 3 (.tmp 8) (.const (.int .i64 1)) 3), none), mvo 8 22] := XR.mk (nr (by kernel_rfl)) (nr (by kernel_rfl))
@[go_sem] theorem t123_5 : TK g123_5 := fun _ => nr (by kernel_rfl)
noncomputable def g123_6 : Array Oper := regAt Go.Proofs.Try.f123 6
@[go_sem] theorem x123_6 : XR 123 g123_6 [mvo 23 3, (some 3, (.assign (.tmp 23)), none)] := XR.mk (nr (by kernel_rfl)) (nr (by kernel_rfl))
@[go_sem] theorem t123_6 : TK g123_6 := fun _ => nr (by kernel_rfl)
noncomputable def l123_0 : Code := (.seq (.region 2 g123_2 false) (.seq (.cond (.tmp 9) .skip (.exit 0)) (.seq (.block 1 (.seq (.region 3 g123_3 false) (.region 4 g123_4 false))) (.region 5 g123_5 false))))
theorem dl123_0 {ro nt : Nat} {fr : PT} {H : Hp} : (den cx).loop ro 123 nt l123_0 fr H = xbind (ex cx (den cx) ro 123 nt (.seq (.region 2 g123_2 false) (.seq (.cond (.tmp 9) .skip (.exit 0)) (.seq (.block 1 (.seq (.region 3 g123_3 false) (.region 4 g123_4 false))) (.region 5 g123_5 false)))) fr H) (contR (trimmed ((den cx).loop ro 123 nt l123_0) H.length)) := den_loop_x l123_0
theorem b123 : Go.Proofs.Try.f123.body = some (.seq (.region 0 g123_0 false) (.seq (.seq (.region 1 g123_1 false) (.block 0 (.loop l123_0))) (.seq (.region 6 g123_6 false) .ret))) := by kernel_rfl
theorem c123 {h : Hd} {ro : Nat} {H : Hp} (a0 a1 : AV) : callB cx h ro 123 [a0, a1] H = returned cx [(.tmp 3)] (ex cx h ro 123 24 (.seq (.region 0 g123_0 false) (.seq (.seq (.region 1 g123_1 false) (.block 0 (.loop l123_0))) (.seq (.region 6 g123_6 false) .ret))) ((PT.nil.set 0 (drp a0)).set 1 (drp a1)) H) := by
  have hf : cx.fns 123 = some Go.Proofs.Try.f123 := by kernel_rfl
  simp only [callB, hf, funced, b123, bodied]
  rfl
/-! function 54: colloquy/dual.Table -/
noncomputable def g54_0 : Array Oper := regAt Go.Proofs.Try.f54 0
@[go_sem] theorem x54_0 : XR 54 g54_0 [(some 1, (.box 56 (.tmp 0)), none), (some 2, (.assign (.const (.slice none 0 0))), none)] := XR.mk (nr (by kernel_rfl)) (nr (by kernel_rfl))
@[go_sem] theorem t54_0 : TK g54_0 := fun _ => nr (by kernel_rfl)
noncomputable def g54_1 : Array Oper := regAt Go.Proofs.Try.f54 1
@[go_sem] theorem x54_1 : XR 54 g54_1 [(some 12, (.load 56 (.tmp 1)), none), (some 13, (.call ⟨(.value (.func 48)), #[(.tmp 12)], #[56]⟩), none), mvo 11 13, (some 14, (.extract (.tmp 11) 0), none), (some 15, (.extract (.tmp 11) 1), none), (some 3, (.assign (.tmp 14)), none), (some 4, (.assign (.tmp 15)), none)] := XR.mk (nr (by kernel_rfl)) (nr (by kernel_rfl))
@[go_sem] theorem t54_1 : TK g54_1 := fun _ => nr (by kernel_rfl)
noncomputable def g54_2 : Array Oper := regAt Go.Proofs.Try.f54 2
@[go_sem] theorem x54_2 : XR 54 g54_2 [mvo 16 4, (some 17, (.binOp .neq 27 (.tmp 16) (.const (.int .i64 0)) 27), none)] := XR.mk (nr (by kernel_rfl)) (nr (by kernel_rfl))
@[go_sem] theorem t54_2 : TK g54_2 := fun _ => nr (by kernel_rfl)
noncomputable def g54_3 : Array Oper := regAt Go.Proofs.Try.f54 3
@[go_sem] theorem x54_3 : XR 54 g54_3 [(some 2, (.assign (.const (.slice none 0 0))), none)] := XR.mk (nr (by kernel_rfl)) (nr (by kernel_rfl))
@[go_sem] theorem t54_3 : TK g54_3 := fun _ => nr (by kernel_rfl)
noncomputable def g54_4 : Array Oper := regAt Go.Proofs.Try.f54 4
@[go_sem] theorem x54_4 : XR 54 g54_4 [(some 5, (.alloc 56), none)] := XR.mk (nr (by kernel_rfl)) (nr (by kernel_rfl))
@[go_sem] theorem t54_4 : TK g54_4 := fun _ => nr (by kernel_rfl)
noncomputable def g54_5 : Array Oper := regAt Go.Proofs.Try.f54 5
@[go_sem] theorem x54_5 : XR 54 g54_5 [(some 18, (.load 56 (.tmp 1)), none), (some 19, (.call ⟨(.builtin .len), #[(.tmp 18)], #[56]⟩), none), (some 20, (.call ⟨(.value (.func 122)), #[(.tmp 19)], #[3]⟩), none)] := XR.mk (nr (by kernel_rfl)) (nr (by kernel_rfl))
@[go_sem] theorem t54_5 : TK g54_5 := fun _ => nr (by kernel_rfl)
noncomputable def g54_6 : Array Oper := regAt Go.Proofs.Try.f54 6
@[go_sem] theorem x54_6 : XR 54 g54_6 [(some 6, (.alloc 209), none), (none, (.store 209 (.tmp 6) (.tmp 21)), none)] := XR.mk (nr (by kernel_rfl)) (nr (by kernel_rfl))
@[go_sem] theorem t54_6 : TK g54_6 := fun _ => nr (by kernel_rfl)
noncomputable def g54_7 : Array Oper := regAt Go.Proofs.Try.f54 7
@[go_sem] theorem x54_7 : XR 54 g54_7 [(some 7, (.alloc 3), none), (none, (.store 3 (.tmp 7) (.tmp 22)), none)] := XR.mk (nr (by kernel_rfl)) (nr (by kernel_rfl))
@[go_sem] theorem t54_7 : TK g54_7 := fun _ => nr (by kernel_rfl)
noncomputable def g54_8 : Array Oper := regAt Go.Proofs.Try.f54 8
@[go_sem] theorem x54_8 : XR 54 g54_8 [(some 23, (.makeFunc (.func 123) #[] #[(.tmp 7)]), none), (some 8, (.assign (.tmp 23)), none)] := XR.mk (nr (by kernel_rfl)) (nr (by kernel_rfl))
@[go_sem] theorem t54_8 : TK g54_8 := fun _ => nr (by kernel_rfl)
noncomputable def g54_9 : Array Oper := regAt Go.Proofs.Try.f54 9
@[go_sem] theorem x54_9 : XR 54 g54_9 [(some 24, (.load 56 (.tmp 1)), none), (some 25, (.call ⟨(.builtin .len), #[(.tmp 24)], #[56]⟩), none), (some 26, (.move (.const (.int .i64 0))), none)] := XR.mk (nr (by kernel_rfl)) (nr (by kernel_rfl))
@[go_sem] theorem t54_9 : TK g54_9 := fun _ => nr (by kernel_rfl)
noncomputable def g54_10 : Array Oper := regAt Go.Proofs.Try.f54 10
@[go_sem] theorem x54_10 : XR 54 g54_10 [(some 27, (.binOp .lss 3 (.tmp 26) (.tmp 25) 3), none)] := XR.mk (nr (by kernel_rfl)) (nr (by kernel_rfl))
@[go_sem] theorem t54_10 : TK g54_10 := fun _ => nr (by kernel_rfl)
noncomputable def g54_11 : Array Oper := regAt Go.Proofs.Try.f54 11
@[go_sem] theorem x54_11 : XR 54 g54_11 [(some 28, (.indexAddr 56 (.tmp 24) (.tmp 26)), none), (some 29, (.load 66 (.tmp 28)), none), (some 10, (.alloc 66), none), (none, (.store 66 (.tmp 10) (.tmp 29)), none)] := XR.mk (nr (by kernel_rfl)) (nr (by kernel_rfl))
@[go_sem] theorem t54_11 : TK g54_11 := fun _ => nr (by kernel_rfl)
noncomputable def g54_12 : Array Oper := regAt Go.Proofs.Try.f54 12
@[go_sem] theorem x54_12 : XUR 54 g54_12 [(0, 0, [], (some 30, (.fieldAddr 66 (.tmp 10) 0), none)), (1, 0, [], (some 31, (.load 3 (.tmp 30)), none)), (2, 0, [], (some 32, (.indexAddr 209 (.tmp 6) (.tmp 31)), none)), (3, 0, [], (some 33, (.load 3 (.tmp 32)), none)), (4, 0, [0, 1, 2, 3], mvo 34 8), (5, 0, [0, 1, 2, 3, 4], (some 35, (.fieldAddr 66 (.tmp 10) 4), none)), (6, 0, [0, 1, 2, 3, 4], (some 36, (.load 64 (.tmp 35)), none)), (7, 0, [0, 1, 2, 3], (some 37, (.call ⟨(.value (.tmp 34)), #[(.tmp 36)], #[64]⟩), none)), (8, 0, [4, 7], (some 38, (.fieldAddr 66 (.tmp 10) 0), none)), (9, 0, [], (none, (.store 3 (.tmp 38) (.tmp 33)), none)), (10, 0, [], (some 39, (.fieldAddr 66 (.tmp 10) 4), none)), (11, 0, [], (none, (.store 64 (.tmp 39) (.tmp 37)), none))] 0 := XUR.mk (nr (by kernel_rfl)) (nr (by kernel_rfl)) (nr (by kernel_rfl)) (nr (by kernel_rfl)) (nr (by kernel_rfl))
@[go_sem] theorem t54_12 : TK g54_12 := fun _ => nr (by kernel_rfl)
noncomputable def g54_13 : Array Oper := regAt Go.Proofs.Try.f54 13
@[go_sem] theorem x54_13 : XR 54 g54_13 [(some 40, (.load 56 (.tmp 5)), none), (some 41, (.load 66 (.tmp 10)), none), (some 42, (.buildSlice 56 1 #[(0, (.tmp 41))]), none), (some 43, (.call ⟨(.builtin .append), #[(.tmp 40), (.tmp 42)], #[56, 56]⟩), none), (none, (.store 56 (.tmp 5) (.tmp 43)), none)] := XR.mk (nr (by kernel_rfl)) (nr (by kernel_rfl))
@[go_sem] theorem t54_13_40 : takes g54_13 40 = true := nr (by kernel_rfl)
@[go_sem] theorem t54_13_41 : takes g54_13 41 = false := nr (by kernel_rfl)
@[go_sem] theorem t54_13_42 : takes g54_13 42 = false := nr (by kernel_rfl)
@[go_sem] theorem t54_13_43 : takes g54_13 43 = false := nr (by kernel_rfl)
noncomputable def g54_14 : Array Oper := regAt Go.Proofs.Try.f54 14
@[go_sem] theorem x54_14 : XR 54 g54_14 [(some 44, (.binOp .add 3 (.tmp 26) (.const (.int .i64 1)) 3), none), mvo 26 44] := XR.mk (nr (by kernel_rfl)) (nr (by kernel_rfl))
@[go_sem] theorem t54_14 : TK g54_14 := fun _ => nr (by kernel_rfl)
noncomputable def g54_15 : Array Oper := regAt Go.Proofs.Try.f54 15
@[go_sem] theorem x54_15 : XR 54 g54_15 [(some 45, (.load 56 (.tmp 5)), none), (some 2, (.assign (.tmp 45)), none)] := XR.mk (nr (by kernel_rfl)) (nr (by kernel_rfl))
@[go_sem] theorem t54_15 : TK g54_15 := fun _ => nr (by kernel_rfl)
noncomputable def l54_0 : Code := (.seq (.region 10 g54_10 false) (.seq (.cond (.tmp 27) .skip (.exit 2)) (.seq (.block 3 (.seq (.region 11 g54_11 false) (.seq (.region 12 g54_12 true) (.region 13 g54_13 false)))) (.region 14 g54_14 false))))
theorem dl54_0 {ro nt : Nat} {fr : PT} {H : Hp} : (den cx).loop ro 54 nt l54_0 fr H = xbind (ex cx (den cx) ro 54 nt (.seq (.region 10 g54_10 false) (.seq (.cond (.tmp 27) .skip (.exit 2)) (.seq (.block 3 (.seq (.region 11 g54_11 false) (.seq (.region 12 g54_12 true) (.region 13 g54_13 false)))) (.region 14 g54_14 false)))) fr H) (contR (trimmed ((den cx).loop ro 54 nt l54_0) H.length)) := den_loop_x l54_0
noncomputable def q54_1 : Code := (.seq (.region 6 g54_6 false) (.region 7 g54_7 false))
noncomputable def r54_1 : Code := (.block 1 (.seq (.region 8 g54_8 false) (.seq (.region 9 g54_9 false) (.block 2 (.loop l54_0)))))
theorem b54 : Go.Proofs.Try.f54.body = some (.seq (.region 0 g54_0 false) (.seq (.seq (.region 1 g54_1 false) (.seq (.region 2 g54_2 false) (.cond (.tmp 17) (.seq (.region 3 g54_3 false) .ret) .skip))) (.seq (.region 4 g54_4 false) (.seq (.seq (.region 5 g54_5 false) (.block 0 (.rangeFunc (.tmp 20) #[21, 22] q54_1 r54_1))) (.seq (.region 15 g54_15 false) .ret))))) := by kernel_rfl
theorem c54 {h : Hd} {ro : Nat} {H : Hp} (a0 : AV) : callB cx h ro 54 [a0] H = returned cx [(.tmp 2)] (ex cx h ro 54 46 (.seq (.region 0 g54_0 false) (.seq (.seq (.region 1 g54_1 false) (.seq (.region 2 g54_2 false) (.cond (.tmp 17) (.seq (.region 3 g54_3 false) .ret) .skip))) (.seq (.region 4 g54_4 false) (.seq (.seq (.region 5 g54_5 false) (.block 0 (.rangeFunc (.tmp 20) #[21, 22] q54_1 r54_1))) (.seq (.region 15 g54_15 false) .ret))))) (PT.nil.set 0 (drp a0)) H) := by
  have hf : cx.fns 54 = some Go.Proofs.Try.f54 := by kernel_rfl
  simp only [callB, hf, funced, b54, bodied]
  rfl
end Go.Abs.Tab

/- Codes of this seat's functions, their regions step by step. (Printed by a program.) -/
set_option linter.unusedVariables false
namespace Go.Abs.Tab
/-! function 56: colloquy/colloquyref06.Same -/
noncomputable def g56_0 : Array Oper := regAt Go.Proofs.Try.f56 0
@[go_sem] theorem x56_0 : XR 56 g56_0 [(some 2, (.box 66 (.tmp 0)), none), (some 3, (.box 66 (.tmp 1)), none), (some 4, (.assign (.const (.bool false))), none)] := XR.mk (nr (by kernel_rfl)) (nr (by kernel_rfl))
@[go_sem] theorem t56_0 : TK g56_0 := fun _ => nr (by kernel_rfl)
noncomputable def g56_1 : Array Oper := regAt Go.Proofs.Try.f56 1
@[go_sem] theorem x56_1 : XR 56 g56_1 [(some 6, (.fieldAddr 66 (.tmp 2) 0), none), (some 7, (.load 3 (.tmp 6)), none), (some 8, (.fieldAddr 66 (.tmp 3) 0), none), (some 9, (.load 3 (.tmp 8)), none), (some 10, (.binOp .neq 3 (.tmp 7) (.tmp 9) 3), none), mvo 11 10, (some 12, (.fieldAddr 66 (.tmp 2) 1), some (11, false)), (some 13, (.load 3 (.tmp 12)), some (11, false)), (some 14, (.fieldAddr 66 (.tmp 3) 1), some (11, false)), (some 15, (.load 3 (.tmp 14)), some (11, false)), (some 16, (.binOp .neq 3 (.tmp 13) (.tmp 15) 3), some (11, false)), (some 17, (.pick (.tmp 11) (.const (.bool true)) (.tmp 16)), none), mvo 18 17, (some 19, (.fieldAddr 66 (.tmp 2) 2), some (18, false)), (some 20, (.load 4 (.tmp 19)), some (18, false)), (some 21, (.fieldAddr 66 (.tmp 3) 2), some (18, false)), (some 22, (.load 4 (.tmp 21)), some (18, false)), (some 23, (.binOp .neq 4 (.tmp 20) (.tmp 22) 4), some (18, false)), (some 24, (.pick (.tmp 18) (.const (.bool true)) (.tmp 23)), none), mvo 25 24, (some 26, (.fieldAddr 66 (.tmp 2) 3), some (25, false)), (some 27, (.load 63 (.tmp 26)), some (25, false)), (some 28, (.fieldAddr 66 (.tmp 3) 3), some (25, false)), (some 29, (.load 63 (.tmp 28)), some (25, false)), (some 30, (.binOp .neq 63 (.tmp 27) (.tmp 29) 63), some (25, false)), (some 31, (.pick (.tmp 25) (.const (.bool true)) (.tmp 30)), none), mvo 32 31, (some 33, (.fieldAddr 66 (.tmp 2) 4), some (32, false)), (some 34, (.load 64 (.tmp 33)), some (32, false)), (some 35, (.call ⟨(.builtin .len), #[(.tmp 34)], #[64]⟩), some (32, false)), (some 36, (.fieldAddr 66 (.tmp 3) 4), some (32, false)), (some 37, (.load 64 (.tmp 36)), some (32, false)), (some 38, (.call ⟨(.builtin .len), #[(.tmp 37)], #[64]⟩), some (32, false)), (some 39, (.binOp .neq 3 (.tmp 35) (.tmp 38) 3), some (32, false)), (some 40, (.pick (.tmp 32) (.const (.bool true)) (.tmp 39)), none)] := XR.mk (nr (by kernel_rfl)) (nr (by kernel_rfl))
@[go_sem] theorem t56_1 : TK g56_1 := fun _ => nr (by kernel_rfl)
noncomputable def g56_2 : Array Oper := regAt Go.Proofs.Try.f56 2
@[go_sem] theorem x56_2 : XR 56 g56_2 [(some 4, (.assign (.const (.bool false))), none)] := XR.mk (nr (by kernel_rfl)) (nr (by kernel_rfl))
@[go_sem] theorem t56_2 : TK g56_2 := fun _ => nr (by kernel_rfl)
noncomputable def g56_3 : Array Oper := regAt Go.Proofs.Try.f56 3
@[go_sem] theorem x56_3 : XR 56 g56_3 [(some 5, (.assign (.const (.int .i64 0))), none)] := XR.mk (nr (by kernel_rfl)) (nr (by kernel_rfl))
@[go_sem] theorem t56_3 : TK g56_3 := fun _ => nr (by kernel_rfl)
noncomputable def g56_4 : Array Oper := regAt Go.Proofs.Try.f56 4
@[go_sem] theorem x56_4 : XR 56 g56_4 [mvo 41 5, (some 42, (.fieldAddr 66 (.tmp 2) 4), none), (some 43, (.load 64 (.tmp 42)), none), (some 44, (.call ⟨(.builtin .len), #[(.tmp 43)], #[64]⟩), none), (some 45, (.binOp .lss 3 (.tmp 41) (.tmp 44) 3), none)] := XR.mk (nr (by kernel_rfl)) (nr (by kernel_rfl))
@[go_sem] theorem t56_4 : TK g56_4 := fun _ => nr (by kernel_rfl)
noncomputable def g56_5 : Array Oper := regAt Go.Proofs.Try.f56 5
@[go_sem] theorem x56_5 : XUR 56 g56_5 [(0, 0, [], (some 48, (.fieldAddr 66 (.tmp 2) 4), none)), (1, 0, [], (some 49, (.load 64 (.tmp 48)), none)), (2, 0, [0, 1], mvo 50 5), (3, 0, [], (some 51, (.indexAddr 64 (.tmp 49) (.tmp 50)), none)), (4, 0, [], (some 52, (.load 63 (.tmp 51)), none)), (5, 0, [0, 1, 2, 3, 4], (some 53, (.fieldAddr 66 (.tmp 3) 4), none)), (6, 0, [0, 1, 2, 3, 4], (some 54, (.load 64 (.tmp 53)), none)), (7, 0, [0, 1, 2, 3, 4, 5, 6], mvo 55 5), (8, 0, [0, 1, 2, 3, 4], (some 56, (.indexAddr 64 (.tmp 54) (.tmp 55)), none)), (9, 0, [0, 1, 2, 3, 4], (some 57, (.load 63 (.tmp 56)), none)), (10, 0, [], (some 58, (.binOp .neq 63 (.tmp 52) (.tmp 57) 63), none))] 0 := XUR.mk (nr (by kernel_rfl)) (nr (by kernel_rfl)) (nr (by kernel_rfl)) (nr (by kernel_rfl)) (nr (by kernel_rfl))
@[go_sem] theorem t56_5 : TK g56_5 := fun _ => nr (by kernel_rfl)
noncomputable def g56_6 : Array Oper := regAt Go.Proofs.Try.f56 6
@[go_sem] theorem x56_6 : XR 56 g56_6 [(some 4, (.assign (.const (.bool false))), none)] := XR.mk (nr (by kernel_rfl)) (nr (by kernel_rfl))
@[go_sem] theorem t56_6 : TK g56_6 := fun _ => nr (by kernel_rfl)
noncomputable def g56_7 : Array Oper := regAt Go.Proofs.Try.f56 7
@[go_sem] theorem x56_7 : XR 56 g56_7 [mvo 46 5, (some 47, (.binOp .add 3 (.tmp 46) (.const (.int .i64 1)) 3), none), (some 5, (.assign (.tmp 47)), none)] := XR.mk (nr (by kernel_rfl)) (nr (by kernel_rfl))
@[go_sem] theorem t56_7 : TK g56_7 := fun _ => nr (by kernel_rfl)
noncomputable def g56_8 : Array Oper := regAt Go.Proofs.Try.f56 8
@[go_sem] theorem x56_8 : XR 56 g56_8 [(some 4, (.assign (.const (.bool true))), none)] := XR.mk (nr (by kernel_rfl)) (nr (by kernel_rfl))
@[go_sem] theorem t56_8 : TK g56_8 := fun _ => nr (by kernel_rfl)
noncomputable def l56_0 : Code := (.seq (.seq (.region 4 g56_4 false) (.cond (.tmp 45) .skip (.exit 0))) (.seq (.block 1 (.seq (.region 6 g56_5 true) (.cond (.tmp 58) (.seq (.region 7 g56_6 false) .ret) .skip))) (.region 5 g56_7 false)))
theorem dl56_0 {ro nt : Nat} {fr : PT} {H : Hp} : (den cx).loop ro 56 nt l56_0 fr H = xbind (ex cx (den cx) ro 56 nt (.seq (.seq (.region 4 g56_4 false) (.cond (.tmp 45) .skip (.exit 0))) (.seq (.block 1 (.seq (.region 6 g56_5 true) (.cond (.tmp 58) (.seq (.region 7 g56_6 false) .ret) .skip))) (.region 5 g56_7 false))) fr H) (contR (trimmed ((den cx).loop ro 56 nt l56_0) H.length)) := den_loop_x l56_0
theorem b56 : Go.Proofs.Try.f56.body = some (.seq (.region 0 g56_0 false) (.seq (.seq (.region 1 g56_1 false) (.cond (.tmp 40) (.seq (.region 2 g56_2 false) .ret) .skip)) (.seq (.seq (.region 3 g56_3 false) (.block 0 (.loop l56_0))) (.seq (.region 8 g56_8 false) .ret)))) := by kernel_rfl
theorem c56 {h : Hd} {ro : Nat} {H : Hp} (a0 a1 : AV) : callB cx h ro 56 [a0, a1] H = returned cx [(.tmp 4)] (ex cx h ro 56 59 (.seq (.region 0 g56_0 false) (.seq (.seq (.region 1 g56_1 false) (.cond (.tmp 40) (.seq (.region 2 g56_2 false) .ret) .skip)) (.seq (.seq (.region 3 g56_3 false) (.block 0 (.loop l56_0))) (.seq (.region 8 g56_8 false) .ret)))) ((PT.nil.set 0 (drp a0)).set 1 (drp a1)) H) := by
  have hf : cx.fns 56 = some Go.Proofs.Try.f56 := by kernel_rfl
  simp only [callB, hf, funced, b56, bodied]
  rfl
/-! function 61: colloquy/dual.Mates -/
noncomputable def g61_0 : Array Oper := regAt Go.Proofs.Try.f61 0
@[go_sem] theorem x61_0 : XR 61 g61_0 [(some 4, (.box 61 (.tmp 1)), none), (some 5, (.box 61 (.tmp 2)), none), (some 6, (.assign (.const (.bool false))), none)] := XR.mk (nr (by kernel_rfl)) (nr (by kernel_rfl))
@[go_sem] theorem t61_0 : TK g61_0 := fun _ => nr (by kernel_rfl)
noncomputable def g61_1 : Array Oper := regAt Go.Proofs.Try.f61 1
@[go_sem] theorem x61_1 : XUR 61 g61_1 [(0, 0, [], mvo 7 0), (1, 0, [0], (some 8, (.load 61 (.tmp 4)), none)), (2, 0, [], (some 9, (.call ⟨(.value (.func 51)), #[(.tmp 7), (.tmp 8)], #[56, 61]⟩), none)), (3, 0, [0, 1, 2], mvo 10 0), (4, 0, [0, 1, 2, 3], (some 11, (.load 61 (.tmp 5)), none)), (5, 0, [], (some 12, (.call ⟨(.value (.func 51)), #[(.tmp 10), (.tmp 11)], #[56, 61]⟩), none)), (6, 0, [], (none, (.store 61 (.tmp 4) (.tmp 9)), none)), (7, 0, [], (none, (.store 61 (.tmp 5) (.tmp 12)), none))] 0 := XUR.mk (nr (by kernel_rfl)) (nr (by kernel_rfl)) (nr (by kernel_rfl)) (nr (by kernel_rfl)) (nr (by kernel_rfl))
@[go_sem] theorem t61_1 : TK g61_1 := fun _ => nr (by kernel_rfl)
noncomputable def g61_2 : Array Oper := regAt Go.Proofs.Try.f61 2
@[go_sem] theorem x61_2 : XUR 61 g61_2 [(0, 0, [], mvo 13 0), (1, 0, [], (some 14, (.call ⟨(.builtin .len), #[(.tmp 13)], #[56]⟩), none)), (2, 0, [], (some 15, (.binOp .rem 3 (.tmp 14) (.const (.int .i64 2)) 3), none)), (3, 0, [], (some 16, (.binOp .eql 3 (.tmp 15) (.const (.int .i64 0)) 3), none)), (4, 0, [], mvo 17 16), (5, 0, [], (some 18, (.fieldAddr 61 (.tmp 4) 0), some (17, true))), (6, 0, [], (some 19, (.load 3 (.tmp 18)), some (17, true))), (7, 0, [], (some 20, (.binOp .geq 3 (.tmp 19) (.const (.int .i64 0)) 3), some (17, true))), (8, 0, [], (some 21, (.pick (.tmp 17) (.tmp 20) (.const (.bool false))), none)), (9, 0, [], mvo 22 21), (10, 0, [], (some 23, (.fieldAddr 61 (.tmp 5) 0), some (22, true))), (11, 0, [], (some 24, (.load 3 (.tmp 23)), some (22, true))), (12, 0, [], (some 25, (.binOp .geq 3 (.tmp 24) (.const (.int .i64 0)) 3), some (22, true))), (13, 0, [], (some 26, (.pick (.tmp 22) (.tmp 25) (.const (.bool false))), none)), (14, 0, [], mvo 27 26), (15, 0, [], (some 28, (.fieldAddr 61 (.tmp 4) 1), some (27, true))), (16, 0, [], (some 29, (.load 3 (.tmp 28)), some (27, true))), (17, 0, [15, 16], (some 30, (.fieldAddr 61 (.tmp 5) 1), some (27, true))), (18, 0, [15, 16], (some 31, (.load 3 (.tmp 30)), some (27, true))), (19, 0, [], (some 32, (.binOp .eql 3 (.tmp 29) (.tmp 31) 3), some (27, true))), (20, 0, [], (some 33, (.pick (.tmp 27) (.tmp 32) (.const (.bool false))), none)), (21, 0, [], mvo 34 33), (22, 0, [], (some 35, (.move (.tmp 0)), some (34, true))), (23, 0, [], (some 36, (.call ⟨(.builtin .len), #[(.tmp 35)], #[56]⟩), some (34, true))), (24, 0, [], (some 37, (.binOp .quo 3 (.tmp 36) (.const (.int .i64 2)) 3), some (34, true))), (25, 0, [22, 23, 24], (some 38, (.fieldAddr 61 (.tmp 4) 0), some (34, true))), (26, 0, [22, 23, 24], (some 39, (.load 3 (.tmp 38)), some (34, true))), (27, 0, [], (some 40, (.call ⟨(.value (.func 57)), #[(.tmp 37), (.tmp 39)], #[3, 3]⟩), some (34, true))), (28, 0, [22, 23, 24, 25, 26, 27], (some 41, (.fieldAddr 61 (.tmp 5) 0), some (34, true))), (29, 0, [22, 23, 24, 25, 26, 27], (some 42, (.load 3 (.tmp 41)), some (34, true))), (30, 0, [], (some 43, (.binOp .eql 3 (.tmp 40) (.tmp 42) 3), some (34, true))), (31, 0, [], (some 44, (.pick (.tmp 34) (.tmp 43) (.const (.bool false))), none)), (32, 0, [], (some 6, (.assign (.tmp 44)), none))] 0 := XUR.mk (nr (by kernel_rfl)) (nr (by kernel_rfl)) (nr (by kernel_rfl)) (nr (by kernel_rfl)) (nr (by kernel_rfl))
@[go_sem] theorem t61_2 : TK g61_2 := fun _ => nr (by kernel_rfl)
theorem b61 : Go.Proofs.Try.f61.body = some (.seq (.region 0 g61_0 false) (.seq (.region 1 g61_1 true) (.seq (.region 2 g61_2 true) .ret))) := by kernel_rfl
theorem c61 {h : Hd} {ro : Nat} {H : Hp} (a0 a1 a2 : AV) : callB cx h ro 61 [a0, a1, a2] H = returned cx [(.tmp 6)] (ex cx h ro 61 45 (.seq (.region 0 g61_0 false) (.seq (.region 1 g61_1 true) (.seq (.region 2 g61_2 true) .ret))) (((PT.nil.set 0 (drp a0)).set 1 (drp a1)).set 2 (drp a2)) H) := by
  have hf : cx.fns 61 = some Go.Proofs.Try.f61 := by kernel_rfl
  simp only [callB, hf, funced, b61, bodied]
  rfl
/-! function 59: colloquy/colloquylaw06.works -/
noncomputable def g59_0 : Array Oper := regAt Go.Proofs.Try.f59 0
@[go_sem] theorem x59_0 : XR 59 g59_0 [(some 0, (.assign (.const (.bool false))), none)] := XR.mk (nr (by kernel_rfl)) (nr (by kernel_rfl))
@[go_sem] theorem t59_0 : TK g59_0 := fun _ => nr (by kernel_rfl)
noncomputable def g59_1 : Array Oper := regAt Go.Proofs.Try.f59 1
@[go_sem] theorem x59_1 : XR 59 g59_1 [(some 2, (.build 63 #[(0, (.const (.int .i64 1))), (1, (.const (.int .i64 4)))]), none), (some 3, (.build 63 #[(0, (.const (.int .i64 0))), (1, (.const (.int .i64 1)))]), none), (some 4, (.buildSlice 64 1 #[(0, (.tmp 3))]), none), (some 5, (.build 66 #[(0, (.const (.int .i64 2))), (2, (.const (.bool true))), (3, (.tmp 2)), (4, (.tmp 4))]), none), (some 6, (.build 66 #[]), none), (some 7, (.buildSlice 56 2 #[(0, (.tmp 5)), (1, (.tmp 6))]), none), (some 8, (.call ⟨(.value (.func 54)), #[(.tmp 7)], #[56]⟩), none), (some 1, (.assign (.tmp 8)), none)] := XR.mk (nr (by kernel_rfl)) (nr (by kernel_rfl))
@[go_sem] theorem t59_1 : TK g59_1 := fun _ => nr (by kernel_rfl)
noncomputable def g59_2 : Array Oper := regAt Go.Proofs.Try.f59 2
@[go_sem] theorem x59_2 : XR 59 g59_2 [mvo 9 1, (some 10, (.call ⟨(.builtin .len), #[(.tmp 9)], #[56]⟩), none), (some 11, (.binOp .neq 3 (.tmp 10) (.const (.int .i64 4)) 3), none), mvo 12 11, (some 13, (.move (.tmp 1)), some (12, false)), (some 14, (.indexAddr 56 (.tmp 13) (.const (.int .i64 2))), some (12, false)), (some 15, (.fieldAddr 66 (.tmp 14) 4), some (12, false)), (some 16, (.load 64 (.tmp 15)), some (12, false)), (some 17, (.call ⟨(.builtin .len), #[(.tmp 16)], #[64]⟩), some (12, false)), (some 18, (.binOp .neq 3 (.tmp 17) (.const (.int .i64 1)) 3), some (12, false)), (some 19, (.pick (.tmp 12) (.const (.bool true)) (.tmp 18)), none)] := XR.mk (nr (by kernel_rfl)) (nr (by kernel_rfl))
@[go_sem] theorem t59_2 : TK g59_2 := fun _ => nr (by kernel_rfl)
noncomputable def g59_3 : Array Oper := regAt Go.Proofs.Try.f59 3
@[go_sem] theorem x59_3 : XR 59 g59_3 [(some 0, (.assign (.const (.bool false))), none)] := XR.mk (nr (by kernel_rfl)) (nr (by kernel_rfl))
@[go_sem] theorem t59_3 : TK g59_3 := fun _ => nr (by kernel_rfl)
noncomputable def g59_4 : Array Oper := regAt Go.Proofs.Try.f59 4
@[go_sem] theorem x59_4 : XR 59 g59_4 [mvo 20 1, (some 21, (.indexAddr 56 (.tmp 20) (.const (.int .i64 2))), none), (some 22, (.fieldAddr 66 (.tmp 21) 0), none), (some 23, (.load 3 (.tmp 22)), none), (some 24, (.binOp .eql 3 (.tmp 23) (.const (.int .i64 1)) 3), none), mvo 25 24, (some 26, (.move (.tmp 1)), some (25, true)), (some 27, (.indexAddr 56 (.tmp 26) (.const (.int .i64 2))), some (25, true)), (some 28, (.fieldAddr 66 (.tmp 27) 2), some (25, true)), (some 29, (.load 4 (.tmp 28)), some (25, true)), (some 30, (.pick (.tmp 25) (.tmp 29) (.const (.bool false))), none), mvo 31 30, (some 32, (.move (.tmp 1)), some (31, true)), (some 33, (.indexAddr 56 (.tmp 32) (.const (.int .i64 2))), some (31, true)), (some 34, (.fieldAddr 66 (.tmp 33) 3), some (31, true)), (some 35, (.load 63 (.tmp 34)), some (31, true)), (some 36, (.build 63 #[(0, (.const (.int .i64 1))), (1, (.const (.int .i64 4)))]), some (31, true)), (some 37, (.binOp .eql 63 (.tmp 35) (.tmp 36) 63), some (31, true)), (some 38, (.pick (.tmp 31) (.tmp 37) (.const (.bool false))), none), mvo 39 38, (some 40, (.move (.tmp 1)), some (39, true)), (some 41, (.indexAddr 56 (.tmp 40) (.const (.int .i64 2))), some (39, true)), (some 42, (.fieldAddr 66 (.tmp 41) 4), some (39, true)), (some 43, (.load 64 (.tmp 42)), some (39, true)), (some 44, (.indexAddr 64 (.tmp 43) (.const (.int .i64 0))), some (39, true)), (some 45, (.load 63 (.tmp 44)), some (39, true)), (some 46, (.build 63 #[(0, (.const (.int .i64 2))), (1, (.const (.int .i64 1)))]), some (39, true)), (some 47, (.binOp .eql 63 (.tmp 45) (.tmp 46) 63), some (39, true)), (some 48, (.pick (.tmp 39) (.tmp 47) (.const (.bool false))), none), mvo 49 48, (some 50, (.move (.tmp 1)), some (49, true)), (some 51, (.indexAddr 56 (.tmp 50) (.const (.int .i64 3))), some (49, true)), (some 52, (.fieldAddr 66 (.tmp 51) 0), some (49, true)), (some 53, (.load 3 (.tmp 52)), some (49, true)), (some 54, (.binOp .eql 3 (.tmp 53) (.const (.int .i64 0)) 3), some (49, true)), (some 55, (.pick (.tmp 49) (.tmp 54) (.const (.bool false))), none), mvo 56 55, (some 57, (.call ⟨(.value (.func 57)), #[(.const (.int .i64 2)), (.const (.int .i64 0))], #[3, 3]⟩), some (56, true)), (some 58, (.binOp .eql 3 (.tmp 57) (.const (.int .i64 2)) 3), some (56, true)), (some 59, (.pick (.tmp 56) (.tmp 58) (.const (.bool false))), none), mvo 60 59, (some 61, (.call ⟨(.value (.func 57)), #[(.const (.int .i64 2)), (.const (.int .i64 3))], #[3, 3]⟩), some (60, true)), (some 62, (.binOp .eql 3 (.tmp 61) (.const (.int .i64 1)) 3), some (60, true)), (some 63, (.pick (.tmp 60) (.tmp 62) (.const (.bool false))), none), mvo 64 63, (some 65, (.move (.tmp 1)), some (64, true)), (some 66, (.build 61 #[(1, (.const (.int .i64 7)))]), some (64, true)), (some 67, (.build 61 #[(0, (.const (.int .i64 2))), (1, (.const (.int .i64 7)))]), some (64, true)), (some 68, (.call ⟨(.value (.func 61)), #[(.tmp 65), (.tmp 66), (.tmp 67)], #[56, 61, 61]⟩), some (64, true)), (some 69, (.pick (.tmp 64) (.tmp 68) (.const (.bool false))), none), (some 0, (.assign (.tmp 69)), none)] := XR.mk (nr (by kernel_rfl)) (nr (by kernel_rfl))
@[go_sem] theorem t59_4 : TK g59_4 := fun _ => nr (by kernel_rfl)
theorem b59 : Go.Proofs.Try.f59.body = some (.seq (.region 0 g59_0 false) (.seq (.region 1 g59_1 false) (.seq (.seq (.region 2 g59_2 false) (.cond (.tmp 19) (.seq (.region 3 g59_3 false) .ret) .skip)) (.seq (.region 4 g59_4 false) .ret)))) := by kernel_rfl
theorem c59 {h : Hd} {ro : Nat} {H : Hp} : callB cx h ro 59 [] H = returned cx [(.tmp 0)] (ex cx h ro 59 70 (.seq (.region 0 g59_0 false) (.seq (.region 1 g59_1 false) (.seq (.seq (.region 2 g59_2 false) (.cond (.tmp 19) (.seq (.region 3 g59_3 false) .ret) .skip)) (.seq (.region 4 g59_4 false) .ret)))) PT.nil H) := by
  have hf : cx.fns 59 = some Go.Proofs.Try.f59 := by kernel_rfl
  simp only [callB, hf, funced, b59, bodied]
  rw [if_pos (of_decide_eq_true (by kernel_rfl))]
  rfl
end Go.Abs.Tab

/- Codes of this seat's functions, their regions step by step. (Printed by a program.) -/
set_option linter.unusedVariables false
namespace Go.Abs.Tab
/-! function 62: colloquy/colloquylaw06.opposite -/
noncomputable def g62_0 : Array Oper := regAt Go.Proofs.Try.f62 0
@[go_sem] theorem x62_0 : XR 62 g62_0 [(some 4, (.assign (.const (.bool false))), none)] := XR.mk (nr (by kernel_rfl)) (nr (by kernel_rfl))
@[go_sem] theorem t62_0 : TK g62_0 := fun _ => nr (by kernel_rfl)
noncomputable def g62_1 : Array Oper := regAt Go.Proofs.Try.f62 1
@[go_sem] theorem x62_1 : XR 62 g62_1 [mvo 5 0] := XR.mk (nr (by kernel_rfl)) (nr (by kernel_rfl))
@[go_sem] theorem t62_1 : TK g62_1 := fun _ => nr (by kernel_rfl)
noncomputable def g62_2 : Array Oper := regAt Go.Proofs.Try.f62 2
@[go_sem] theorem x62_2 : XR 62 g62_2 [(some 7, (.binOp .eql 3 (.tmp 5) (.const (.int .i64 1)) 3), none), (some 6, (.assign (.tmp 7)), none)] := XR.mk (nr (by kernel_rfl)) (nr (by kernel_rfl))
@[go_sem] theorem t62_2 : TK g62_2 := fun _ => nr (by kernel_rfl)
noncomputable def g62_3 : Array Oper := regAt Go.Proofs.Try.f62 3
@[go_sem] theorem x62_3 : XR 62 g62_3 [mvo 8 1, (some 9, (.binOp .eql 3 (.tmp 8) (.const (.int .i64 2)) 3), none), (some 4, (.assign (.tmp 9)), none)] := XR.mk (nr (by kernel_rfl)) (nr (by kernel_rfl))
@[go_sem] theorem t62_3 : TK g62_3 := fun _ => nr (by kernel_rfl)
noncomputable def g62_4 : Array Oper := regAt Go.Proofs.Try.f62 4
@[go_sem] theorem x62_4 : XR 62 g62_4 [(some 11, (.binOp .eql 3 (.tmp 5) (.const (.int .i64 2)) 3), none), (some 10, (.assign (.tmp 11)), none)] := XR.mk (nr (by kernel_rfl)) (nr (by kernel_rfl))
@[go_sem] theorem t62_4 : TK g62_4 := fun _ => nr (by kernel_rfl)
noncomputable def g62_5 : Array Oper := regAt Go.Proofs.Try.f62 5
@[go_sem] theorem x62_5 : XR 62 g62_5 [mvo 12 1, (some 13, (.binOp .eql 3 (.tmp 12) (.const (.int .i64 1)) 3), none), (some 4, (.assign (.tmp 13)), none)] := XR.mk (nr (by kernel_rfl)) (nr (by kernel_rfl))
@[go_sem] theorem t62_5 : TK g62_5 := fun _ => nr (by kernel_rfl)
noncomputable def g62_6 : Array Oper := regAt Go.Proofs.Try.f62 6
@[go_sem] theorem x62_6 : XR 62 g62_6 [(some 15, (.binOp .eql 3 (.tmp 5) (.const (.int .i64 3)) 3), none), (some 14, (.assign (.tmp 15)), none)] := XR.mk (nr (by kernel_rfl)) (nr (by kernel_rfl))
@[go_sem] theorem t62_6 : TK g62_6 := fun _ => nr (by kernel_rfl)
noncomputable def g62_7 : Array Oper := regAt Go.Proofs.Try.f62 7
@[go_sem] theorem x62_7 : XR 62 g62_7 [mvo 16 1, (some 17, (.binOp .eql 3 (.tmp 16) (.const (.int .i64 4)) 3), none), (some 4, (.assign (.tmp 17)), none)] := XR.mk (nr (by kernel_rfl)) (nr (by kernel_rfl))
@[go_sem] theorem t62_7 : TK g62_7 := fun _ => nr (by kernel_rfl)
noncomputable def g62_8 : Array Oper := regAt Go.Proofs.Try.f62 8
@[go_sem] theorem x62_8 : XR 62 g62_8 [(some 19, (.binOp .eql 3 (.tmp 5) (.const (.int .i64 4)) 3), none), (some 18, (.assign (.tmp 19)), none)] := XR.mk (nr (by kernel_rfl)) (nr (by kernel_rfl))
@[go_sem] theorem t62_8 : TK g62_8 := fun _ => nr (by kernel_rfl)
noncomputable def g62_9 : Array Oper := regAt Go.Proofs.Try.f62 9
@[go_sem] theorem x62_9 : XR 62 g62_9 [mvo 20 1, (some 21, (.binOp .eql 3 (.tmp 20) (.const (.int .i64 3)) 3), none), (some 4, (.assign (.tmp 21)), none)] := XR.mk (nr (by kernel_rfl)) (nr (by kernel_rfl))
@[go_sem] theorem t62_9 : TK g62_9 := fun _ => nr (by kernel_rfl)
noncomputable def g62_10 : Array Oper := regAt Go.Proofs.Try.f62 10
@[go_sem] theorem x62_10 : XR 62 g62_10 [mvo 22 0, mvo 23 1, (some 24, (.binOp .eql 3 (.tmp 22) (.tmp 23) 3), none), (some 4, (.assign (.tmp 24)), none)] := XR.mk (nr (by kernel_rfl)) (nr (by kernel_rfl))
@[go_sem] theorem t62_10 : TK g62_10 := fun _ => nr (by kernel_rfl)
theorem b62 : Go.Proofs.Try.f62.body = some (.seq (.region 0 g62_0 false) (.seq (.seq (.region 1 g62_1 false) (.block 0 (.seq (.region 2 g62_2 false) (.cond (.tmp 6) (.seq (.region 3 g62_3 false) .ret) (.seq (.region 4 g62_4 false) (.cond (.tmp 10) (.seq (.region 5 g62_5 false) .ret) (.seq (.region 6 g62_6 false) (.cond (.tmp 14) (.seq (.region 7 g62_7 false) .ret) (.seq (.region 8 g62_8 false) (.cond (.tmp 18) (.seq (.region 9 g62_9 false) .ret) .skip)))))))))) (.seq (.region 10 g62_10 false) .ret))) := by kernel_rfl
theorem c62 {h : Hd} {ro : Nat} {H : Hp} (a0 a1 : AV) : callB cx h ro 62 [a0, a1] H = returned cx [(.tmp 4)] (ex cx h ro 62 25 (.seq (.region 0 g62_0 false) (.seq (.seq (.region 1 g62_1 false) (.block 0 (.seq (.region 2 g62_2 false) (.cond (.tmp 6) (.seq (.region 3 g62_3 false) .ret) (.seq (.region 4 g62_4 false) (.cond (.tmp 10) (.seq (.region 5 g62_5 false) .ret) (.seq (.region 6 g62_6 false) (.cond (.tmp 14) (.seq (.region 7 g62_7 false) .ret) (.seq (.region 8 g62_8 false) (.cond (.tmp 18) (.seq (.region 9 g62_9 false) .ret) .skip)))))))))) (.seq (.region 10 g62_10 false) .ret))) ((PT.nil.set 0 (drp a0)).set 1 (drp a1)) H) := by
  have hf : cx.fns 62 = some Go.Proofs.Try.f62 := by kernel_rfl
  simp only [callB, hf, funced, b62, bodied]
  rfl
/-! function 14: colloquy/colloquylaw06.DualWalks -/
noncomputable def g14_0 : Array Oper := regAt Go.Proofs.Try.f14 0
@[go_sem] theorem x14_0 : XR 14 g14_0 [(some 6, (.assign (.const (.bool false))), none)] := XR.mk (nr (by kernel_rfl)) (nr (by kernel_rfl))
@[go_sem] theorem t14_0 : TK g14_0 := fun _ => nr (by kernel_rfl)
noncomputable def g14_1 : Array Oper := regAt Go.Proofs.Try.f14 1
@[go_sem] theorem x14_1 : XR 14 g14_1 [(some 17, (.call ⟨(.value (.func 59)), #[], #[]⟩), none), (some 18, (.unOp .not 4 (.tmp 17)), none)] := XR.mk (nr (by kernel_rfl)) (nr (by kernel_rfl))
@[go_sem] theorem t14_1 : TK g14_1 := fun _ => nr (by kernel_rfl)
noncomputable def g14_2 : Array Oper := regAt Go.Proofs.Try.f14 2
@[go_sem] theorem x14_2 : XR 14 g14_2 [(some 6, (.assign (.const (.bool false))), none)] := XR.mk (nr (by kernel_rfl)) (nr (by kernel_rfl))
@[go_sem] theorem t14_2 : TK g14_2 := fun _ => nr (by kernel_rfl)
noncomputable def g14_3 : Array Oper := regAt Go.Proofs.Try.f14 3
@[go_sem] theorem x14_3 : XR 14 g14_3 [mvo 19 0, mvo 20 0, (some 21, (.call ⟨(.builtin .len), #[(.tmp 20)], #[56]⟩), none), (some 22, (.call ⟨(.builtin .min), #[(.tmp 21), (.const (.int .i64 70))], #[3, 3]⟩), none), (some 23, (.slice 56 (.tmp 19) none (some (.tmp 22)) none), none), (some 0, (.assign (.tmp 23)), none)] := XR.mk (nr (by kernel_rfl)) (nr (by kernel_rfl))
@[go_sem] theorem t14_3 : TK g14_3 := fun _ => nr (by kernel_rfl)
noncomputable def g14_4 : Array Oper := regAt Go.Proofs.Try.f14 4
@[go_sem] theorem x14_4 : XR 14 g14_4 [mvo 24 0, (some 25, (.call ⟨(.value (.func 54)), #[(.tmp 24)], #[56]⟩), none), (some 7, (.assign (.tmp 25)), none)] := XR.mk (nr (by kernel_rfl)) (nr (by kernel_rfl))
@[go_sem] theorem t14_4 : TK g14_4 := fun _ => nr (by kernel_rfl)
noncomputable def g14_5 : Array Oper := regAt Go.Proofs.Try.f14 5
@[go_sem] theorem x14_5 : XR 14 g14_5 [mvo 26 7, (some 27, (.call ⟨(.builtin .len), #[(.tmp 26)], #[56]⟩), none), (some 28, (.binOp .eql 3 (.tmp 27) (.const (.int .i64 0)) 3), none), mvo 29 28, (some 30, (.move (.tmp 7)), some (29, false)), (some 31, (.call ⟨(.builtin .len), #[(.tmp 30)], #[56]⟩), some (29, false)), (some 32, (.move (.tmp 0)), some (29, false)), (some 33, (.call ⟨(.builtin .len), #[(.tmp 32)], #[56]⟩), some (29, false)), (some 34, (.binOp .mul 3 (.const (.int .i64 2)) (.tmp 33) 3), some (29, false)), (some 35, (.binOp .neq 3 (.tmp 31) (.tmp 34) 3), some (29, false)), (some 36, (.pick (.tmp 29) (.const (.bool true)) (.tmp 35)), none)] := XR.mk (nr (by kernel_rfl)) (nr (by kernel_rfl))
@[go_sem] theorem t14_5 : TK g14_5 := fun _ => nr (by kernel_rfl)
noncomputable def g14_6 : Array Oper := regAt Go.Proofs.Try.f14 6
@[go_sem] theorem x14_6 : XR 14 g14_6 [mvo 37 7, (some 38, (.call ⟨(.builtin .len), #[(.tmp 37)], #[56]⟩), none), (some 39, (.binOp .eql 3 (.tmp 38) (.const (.int .i64 0)) 3), none), (some 6, (.assign (.tmp 39)), none)] := XR.mk (nr (by kernel_rfl)) (nr (by kernel_rfl))
@[go_sem] theorem t14_6 : TK g14_6 := fun _ => nr (by kernel_rfl)
noncomputable def g14_7 : Array Oper := regAt Go.Proofs.Try.f14 7
@[go_sem] theorem x14_7 : XR 14 g14_7 [mvo 40 0, (some 41, (.call ⟨(.builtin .len), #[(.tmp 40)], #[56]⟩), none), (some 8, (.assign (.tmp 41)), none)] := XR.mk (nr (by kernel_rfl)) (nr (by kernel_rfl))
@[go_sem] theorem t14_7 : TK g14_7 := fun _ => nr (by kernel_rfl)
noncomputable def g14_8 : Array Oper := regAt Go.Proofs.Try.f14 8
@[go_sem] theorem x14_8 : XR 14 g14_8 [mvo 42 1, (some 43, (.convert 5 3 (.tmp 42)), none), mvo 44 8, (some 45, (.binOp .mul 3 (.const (.int .i64 2)) (.tmp 44) 3), none), (some 46, (.binOp .rem 3 (.tmp 43) (.tmp 45) 3), none), mvo 47 1, (some 48, (.convert 5 3 (.tmp 47)), none), (some 49, (.build 61 #[(0, (.tmp 46)), (1, (.tmp 48))]), none), (some 9, (.alloc 61), none), (none, (.store 61 (.tmp 9) (.tmp 49)), none)] := XR.mk (nr (by kernel_rfl)) (nr (by kernel_rfl))
@[go_sem] theorem t14_8 : TK g14_8 := fun _ => nr (by kernel_rfl)
noncomputable def g14_9 : Array Oper := regAt Go.Proofs.Try.f14 9
@[go_sem] theorem x14_9 : XR 14 g14_9 [mvo 50 8, (some 51, (.fieldAddr 61 (.tmp 9) 0), none), (some 52, (.load 3 (.tmp 51)), none), (some 53, (.call ⟨(.value (.func 57)), #[(.tmp 50), (.tmp 52)], #[3, 3]⟩), none), mvo 54 1, (some 55, (.convert 5 3 (.tmp 54)), none), (some 56, (.build 61 #[(0, (.tmp 53)), (1, (.tmp 55))]), none), (some 10, (.alloc 61), none), (none, (.store 61 (.tmp 10) (.tmp 56)), none)] := XR.mk (nr (by kernel_rfl)) (nr (by kernel_rfl))
@[go_sem] theorem t14_9 : TK g14_9 := fun _ => nr (by kernel_rfl)
noncomputable def g14_10 : Array Oper := regAt Go.Proofs.Try.f14 10
@[go_sem] theorem x14_10 : XR 14 g14_10 [(some 11, (.assign (.const (.int .i64 0))), none)] := XR.mk (nr (by kernel_rfl)) (nr (by kernel_rfl))
@[go_sem] theorem t14_10 : TK g14_10 := fun _ => nr (by kernel_rfl)
noncomputable def g14_11 : Array Oper := regAt Go.Proofs.Try.f14 11
@[go_sem] theorem x14_11 : XR 14 g14_11 [mvo 57 11, mvo 58 2, (some 59, (.call ⟨(.builtin .len), #[(.tmp 58)], #[22]⟩), none), (some 60, (.binOp .lss 3 (.tmp 57) (.tmp 59) 3), none), mvo 61 60, (some 62, (.move (.tmp 11)), some (61, true)), (some 63, (.binOp .lss 3 (.tmp 62) (.const (.int .i64 40)) 3), some (61, true)), (some 64, (.pick (.tmp 61) (.tmp 63) (.const (.bool false))), none)] := XR.mk (nr (by kernel_rfl)) (nr (by kernel_rfl))
@[go_sem] theorem t14_11 : TK g14_11 := fun _ => nr (by kernel_rfl)
noncomputable def g14_12 : Array Oper := regAt Go.Proofs.Try.f14 12
@[go_sem] theorem x14_12 : XR 14 g14_12 [mvo 67 7, (some 68, (.load 61 (.tmp 9)), none), (some 69, (.load 61 (.tmp 10)), none), (some 70, (.call ⟨(.value (.func 61)), #[(.tmp 67), (.tmp 68), (.tmp 69)], #[56, 61, 61]⟩), none), (some 71, (.unOp .not 4 (.tmp 70)), none), mvo 72 71, (some 73, (.move (.tmp 7)), some (72, false)), (some 74, (.load 61 (.tmp 10)), some (72, false)), (some 75, (.load 61 (.tmp 9)), some (72, false)), (some 76, (.call ⟨(.value (.func 61)), #[(.tmp 73), (.tmp 74), (.tmp 75)], #[56, 61, 61]⟩), some (72, false)), (some 77, (.unOp .not 4 (.tmp 76)), some (72, false)), (some 78, (.pick (.tmp 72) (.const (.bool true)) (.tmp 77)), none), mvo 79 78, (some 80, (.move (.tmp 7)), some (79, false)), (some 81, (.load 61 (.tmp 9)), some (79, false)), (some 82, (.load 61 (.tmp 9)), some (79, false)), (some 83, (.call ⟨(.value (.func 61)), #[(.tmp 80), (.tmp 81), (.tmp 82)], #[56, 61, 61]⟩), some (79, false)), (some 84, (.pick (.tmp 79) (.const (.bool true)) (.tmp 83)), none)] := XR.mk (nr (by kernel_rfl)) (nr (by kernel_rfl))
@[go_sem] theorem t14_12 : TK g14_12 := fun _ => nr (by kernel_rfl)
noncomputable def g14_13 : Array Oper := regAt Go.Proofs.Try.f14 13
@[go_sem] theorem x14_13 : XR 14 g14_13 [(some 6, (.assign (.const (.bool false))), none)] := XR.mk (nr (by kernel_rfl)) (nr (by kernel_rfl))
@[go_sem] theorem t14_13 : TK g14_13 := fun _ => nr (by kernel_rfl)
noncomputable def g14_14 : Array Oper := regAt Go.Proofs.Try.f14 14
@[go_sem] theorem x14_14 : XUR 14 g14_14 [(0, 0, [], mvo 85 7), (1, 0, [0], (some 86, (.load 61 (.tmp 9)), none)), (2, 0, [], (some 87, (.call ⟨(.value (.func 51)), #[(.tmp 85), (.tmp 86)], #[56, 61]⟩), none)), (3, 0, [0, 1, 2], mvo 88 7), (4, 0, [0, 1, 2, 3], (some 89, (.load 61 (.tmp 10)), none)), (5, 0, [], (some 90, (.call ⟨(.value (.func 51)), #[(.tmp 88), (.tmp 89)], #[56, 61]⟩), none)), (6, 0, [0, 1, 2, 3, 4, 5], (some 12, (.alloc 61), none)), (7, 1, [0, 1, 2, 3, 4, 5, 6], (some 13, (.alloc 61), none)), (8, 2, [], (none, (.store 61 (.tmp 12) (.tmp 87)), none)), (9, 2, [], (none, (.store 61 (.tmp 13) (.tmp 90)), none))] 2 := XUR.mk (nr (by kernel_rfl)) (nr (by kernel_rfl)) (nr (by kernel_rfl)) (nr (by kernel_rfl)) (nr (by kernel_rfl))
@[go_sem] theorem t14_14 : TK g14_14 := fun _ => nr (by kernel_rfl)
noncomputable def g14_15 : Array Oper := regAt Go.Proofs.Try.f14 15
@[go_sem] theorem x14_15 : XR 14 g14_15 [(some 91, (.fieldAddr 61 (.tmp 12) 0), none), (some 92, (.load 3 (.tmp 91)), none), (some 93, (.binOp .lss 3 (.tmp 92) (.const (.int .i64 0)) 3), none), mvo 94 93, (some 95, (.fieldAddr 61 (.tmp 13) 0), some (94, false)), (some 96, (.load 3 (.tmp 95)), some (94, false)), (some 97, (.binOp .lss 3 (.tmp 96) (.const (.int .i64 0)) 3), some (94, false)), (some 98, (.pick (.tmp 94) (.const (.bool true)) (.tmp 97)), none), mvo 99 98, (some 100, (.fieldAddr 61 (.tmp 12) 0), some (99, false)), (some 101, (.load 3 (.tmp 100)), some (99, false)), (some 102, (.move (.tmp 7)), some (99, false)), (some 103, (.call ⟨(.builtin .len), #[(.tmp 102)], #[56]⟩), some (99, false)), (some 104, (.binOp .geq 3 (.tmp 101) (.tmp 103) 3), some (99, false)), (some 105, (.pick (.tmp 99) (.const (.bool true)) (.tmp 104)), none), mvo 106 105, (some 107, (.fieldAddr 61 (.tmp 13) 0), some (106, false)), (some 108, (.load 3 (.tmp 107)), some (106, false)), (some 109, (.move (.tmp 7)), some (106, false)), (some 110, (.call ⟨(.builtin .len), #[(.tmp 109)], #[56]⟩), some (106, false)), (some 111, (.binOp .geq 3 (.tmp 108) (.tmp 110) 3), some (106, false)), (some 112, (.pick (.tmp 106) (.const (.bool true)) (.tmp 111)), none), mvo 113 112, (some 114, (.fieldAddr 61 (.tmp 12) 1), some (113, false)), (some 115, (.load 3 (.tmp 114)), some (113, false)), (some 116, (.fieldAddr 61 (.tmp 13) 1), some (113, false)), (some 117, (.load 3 (.tmp 116)), some (113, false)), (some 118, (.binOp .neq 3 (.tmp 115) (.tmp 117) 3), some (113, false)), (some 119, (.pick (.tmp 113) (.const (.bool true)) (.tmp 118)), none)] := XR.mk (nr (by kernel_rfl)) (nr (by kernel_rfl))
@[go_sem] theorem t14_15 : TK g14_15 := fun _ => nr (by kernel_rfl)
noncomputable def g14_16 : Array Oper := regAt Go.Proofs.Try.f14 16
@[go_sem] theorem x14_16 : XR 14 g14_16 [(some 6, (.assign (.const (.bool false))), none)] := XR.mk (nr (by kernel_rfl)) (nr (by kernel_rfl))
@[go_sem] theorem t14_16 : TK g14_16 := fun _ => nr (by kernel_rfl)
noncomputable def g14_17 : Array Oper := regAt Go.Proofs.Try.f14 17
@[go_sem] theorem x14_17 : XUR 14 g14_17 [(0, 0, [], mvo 120 7), (1, 0, [0], (some 121, (.fieldAddr 61 (.tmp 12) 0), none)), (2, 0, [0], (some 122, (.load 3 (.tmp 121)), none)), (3, 0, [], (some 123, (.indexAddr 56 (.tmp 120) (.tmp 122)), none)), (4, 0, [], (some 124, (.load 66 (.tmp 123)), none)), (5, 0, [0, 1, 2, 3, 4], mvo 125 7), (6, 0, [0, 1, 2, 3, 4, 5], (some 126, (.fieldAddr 61 (.tmp 13) 0), none)), (7, 0, [0, 1, 2, 3, 4, 5], (some 127, (.load 3 (.tmp 126)), none)), (8, 0, [0, 1, 2, 3, 4], (some 128, (.indexAddr 56 (.tmp 125) (.tmp 127)), none)), (9, 0, [0, 1, 2, 3, 4], (some 129, (.load 66 (.tmp 128)), none)), (10, 0, [0, 1, 2, 3, 4, 5, 6, 7, 8, 9], (some 14, (.alloc 66), none)), (11, 1, [0, 1, 2, 3, 4, 5, 6, 7, 8, 9, 10], (some 15, (.alloc 66), none)), (12, 2, [5, 6, 7, 8, 9], (none, (.store 66 (.tmp 14) (.tmp 124)), none)), (13, 2, [], (none, (.store 66 (.tmp 15) (.tmp 129)), none))] 2 := XUR.mk (nr (by kernel_rfl)) (nr (by kernel_rfl)) (nr (by kernel_rfl)) (nr (by kernel_rfl)) (nr (by kernel_rfl))
@[go_sem] theorem t14_17 : TK g14_17 := fun _ => nr (by kernel_rfl)
noncomputable def g14_18 : Array Oper := regAt Go.Proofs.Try.f14 18
@[go_sem] theorem x14_18 : XR 14 g14_18 [(some 130, (.fieldAddr 66 (.tmp 14) 0), none), (some 131, (.load 3 (.tmp 130)), none), (some 132, (.fieldAddr 66 (.tmp 15) 0), none), (some 133, (.load 3 (.tmp 132)), none), (some 134, (.call ⟨(.value (.func 62)), #[(.tmp 131), (.tmp 133)], #[3, 3]⟩), none), (some 135, (.unOp .not 4 (.tmp 134)), none), mvo 136 135, (some 137, (.fieldAddr 66 (.tmp 14) 1), some (136, false)), (some 138, (.load 3 (.tmp 137)), some (136, false)), (some 139, (.fieldAddr 66 (.tmp 15) 1), some (136, false)), (some 140, (.load 3 (.tmp 139)), some (136, false)), (some 141, (.binOp .neq 3 (.tmp 138) (.tmp 140) 3), some (136, false)), (some 142, (.pick (.tmp 136) (.const (.bool true)) (.tmp 141)), none), mvo 143 142, (some 144, (.fieldAddr 66 (.tmp 14) 2), some (143, false)), (some 145, (.load 4 (.tmp 144)), some (143, false)), (some 146, (.fieldAddr 66 (.tmp 15) 2), some (143, false)), (some 147, (.load 4 (.tmp 146)), some (143, false)), (some 148, (.binOp .neq 4 (.tmp 145) (.tmp 147) 4), some (143, false)), (some 149, (.pick (.tmp 143) (.const (.bool true)) (.tmp 148)), none), mvo 150 149, (some 151, (.fieldAddr 66 (.tmp 14) 3), some (150, false)), (some 152, (.load 63 (.tmp 151)), some (150, false)), (some 153, (.fieldAddr 66 (.tmp 15) 3), some (150, false)), (some 154, (.load 63 (.tmp 153)), some (150, false)), (some 155, (.binOp .neq 63 (.tmp 152) (.tmp 154) 63), some (150, false)), (some 156, (.pick (.tmp 150) (.const (.bool true)) (.tmp 155)), none), mvo 157 156, (some 158, (.fieldAddr 66 (.tmp 14) 2), some (157, false)), (some 159, (.load 4 (.tmp 158)), some (157, false)), (some 160, (.move (.tmp 159)), some (157, false)), (some 161, (.fieldAddr 66 (.tmp 14) 3), some (160, true)), (some 162, (.fieldAddr 63 (.tmp 161) 0), some (160, true)), (some 163, (.load 3 (.tmp 162)), some (160, true)), (some 164, (.move (.tmp 8)), some (160, true)), (some 165, (.binOp .geq 3 (.tmp 163) (.tmp 164) 3), some (160, true)), (some 166, (.pick (.tmp 160) (.tmp 165) (.const (.bool false))), some (157, false)), (some 167, (.pick (.tmp 157) (.const (.bool true)) (.tmp 166)), none), mvo 168 167, (some 169, (.fieldAddr 66 (.tmp 14) 4), some (168, false)), (some 170, (.load 64 (.tmp 169)), some (168, false)), (some 171, (.call ⟨(.builtin .len), #[(.tmp 170)], #[64]⟩), some (168, false)), (some 172, (.fieldAddr 66 (.tmp 15) 4), some (168, false)), (some 173, (.load 64 (.tmp 172)), some (168, false)), (some 174, (.call ⟨(.builtin .len), #[(.tmp 173)], #[64]⟩), some (168, false)), (some 175, (.binOp .neq 3 (.tmp 171) (.tmp 174) 3), some (168, false)), (some 176, (.pick (.tmp 168) (.const (.bool true)) (.tmp 175)), none)] := XR.mk (nr (by kernel_rfl)) (nr (by kernel_rfl))
@[go_sem] theorem t14_18 : TK g14_18 := fun _ => nr (by kernel_rfl)
noncomputable def g14_19 : Array Oper := regAt Go.Proofs.Try.f14 19
@[go_sem] theorem x14_19 : XR 14 g14_19 [(some 6, (.assign (.const (.bool false))), none)] := XR.mk (nr (by kernel_rfl)) (nr (by kernel_rfl))
@[go_sem] theorem t14_19 : TK g14_19 := fun _ => nr (by kernel_rfl)
noncomputable def g14_20 : Array Oper := regAt Go.Proofs.Try.f14 20
@[go_sem] theorem x14_20 : XR 14 g14_20 [(some 177, (.fieldAddr 66 (.tmp 14) 4), none), (some 178, (.load 64 (.tmp 177)), none), (some 179, (.call ⟨(.builtin .len), #[(.tmp 178)], #[64]⟩), none), (some 180, (.binOp .eql 3 (.tmp 179) (.const (.int .i64 0)) 3), none)] := XR.mk (nr (by kernel_rfl)) (nr (by kernel_rfl))
@[go_sem] theorem t14_20 : TK g14_20 := fun _ => nr (by kernel_rfl)
noncomputable def g14_21 : Array Oper := regAt Go.Proofs.Try.f14 21
@[go_sem] theorem x14_21 : XR 14 g14_21 [(some 6, (.assign (.const (.bool true))), none)] := XR.mk (nr (by kernel_rfl)) (nr (by kernel_rfl))
@[go_sem] theorem t14_21 : TK g14_21 := fun _ => nr (by kernel_rfl)
noncomputable def g14_22 : Array Oper := regAt Go.Proofs.Try.f14 22
@[go_sem] theorem x14_22 : XUR 14 g14_22 [(0, 0, [], mvo 181 2), (1, 0, [0], mvo 182 11), (2, 0, [], (some 183, (.indexAddr 22 (.tmp 181) (.tmp 182)), none)), (3, 0, [], (some 184, (.load 5 (.tmp 183)), none)), (4, 0, [], (some 185, (.convert 5 3 (.tmp 184)), none)), (5, 0, [0, 1, 2, 3, 4], (some 186, (.fieldAddr 66 (.tmp 14) 4), none)), (6, 0, [0, 1, 2, 3, 4], (some 187, (.load 64 (.tmp 186)), none)), (7, 0, [0, 1, 2, 3, 4], (some 188, (.call ⟨(.builtin .len), #[(.tmp 187)], #[64]⟩), none)), (8, 0, [], (some 189, (.binOp .rem 3 (.tmp 185) (.tmp 188) 3), none)), (9, 0, [], (some 16, (.assign (.tmp 189)), none))] 0 := XUR.mk (nr (by kernel_rfl)) (nr (by kernel_rfl)) (nr (by kernel_rfl)) (nr (by kernel_rfl)) (nr (by kernel_rfl))
@[go_sem] theorem t14_22 : TK g14_22 := fun _ => nr (by kernel_rfl)
noncomputable def g14_23 : Array Oper := regAt Go.Proofs.Try.f14 23
@[go_sem] theorem x14_23 : XUR 14 g14_23 [(0, 0, [], (some 190, (.fieldAddr 66 (.tmp 14) 4), none)), (1, 0, [], (some 191, (.load 64 (.tmp 190)), none)), (2, 0, [0, 1], mvo 192 16), (3, 0, [], (some 193, (.indexAddr 64 (.tmp 191) (.tmp 192)), none)), (4, 0, [], (some 194, (.fieldAddr 63 (.tmp 193) 0), none)), (5, 0, [], (some 195, (.load 3 (.tmp 194)), none)), (6, 0, [0, 1, 2, 3, 4, 5], (some 196, (.fieldAddr 61 (.tmp 12) 1), none)), (7, 0, [0, 1, 2, 3, 4, 5], (some 197, (.load 3 (.tmp 196)), none)), (8, 0, [0, 1, 2, 3, 4, 5, 6, 7], (some 198, (.fieldAddr 66 (.tmp 14) 4), none)), (9, 0, [0, 1, 2, 3, 4, 5, 6, 7], (some 199, (.load 64 (.tmp 198)), none)), (10, 0, [0, 1, 2, 3, 4, 5, 6, 7, 8, 9], mvo 200 16), (11, 0, [0, 1, 2, 3, 4, 5, 6, 7], (some 201, (.indexAddr 64 (.tmp 199) (.tmp 200)), none)), (12, 0, [0, 1, 2, 3, 4, 5, 6, 7], (some 202, (.fieldAddr 63 (.tmp 201) 1), none)), (13, 0, [0, 1, 2, 3, 4, 5, 6, 7], (some 203, (.load 3 (.tmp 202)), none)), (14, 0, [0, 1, 2, 3, 4, 5], (some 204, (.binOp .add 3 (.tmp 197) (.tmp 203) 3), none)), (15, 0, [], (some 205, (.build 61 #[(0, (.tmp 195)), (1, (.tmp 204))]), none)), (16, 0, [], (none, (.store 61 (.tmp 9) (.tmp 205)), none))] 0 := XUR.mk (nr (by kernel_rfl)) (nr (by kernel_rfl)) (nr (by kernel_rfl)) (nr (by kernel_rfl)) (nr (by kernel_rfl))
@[go_sem] theorem t14_23 : TK g14_23 := fun _ => nr (by kernel_rfl)
noncomputable def g14_24 : Array Oper := regAt Go.Proofs.Try.f14 24
@[go_sem] theorem x14_24 : XUR 14 g14_24 [(0, 0, [], (some 206, (.fieldAddr 66 (.tmp 15) 4), none)), (1, 0, [], (some 207, (.load 64 (.tmp 206)), none)), (2, 0, [0, 1], mvo 208 16), (3, 0, [], (some 209, (.indexAddr 64 (.tmp 207) (.tmp 208)), none)), (4, 0, [], (some 210, (.fieldAddr 63 (.tmp 209) 0), none)), (5, 0, [], (some 211, (.load 3 (.tmp 210)), none)), (6, 0, [0, 1, 2, 3, 4, 5], (some 212, (.fieldAddr 61 (.tmp 13) 1), none)), (7, 0, [0, 1, 2, 3, 4, 5], (some 213, (.load 3 (.tmp 212)), none)), (8, 0, [0, 1, 2, 3, 4, 5, 6, 7], (some 214, (.fieldAddr 66 (.tmp 15) 4), none)), (9, 0, [0, 1, 2, 3, 4, 5, 6, 7], (some 215, (.load 64 (.tmp 214)), none)), (10, 0, [0, 1, 2, 3, 4, 5, 6, 7, 8, 9], mvo 216 16), (11, 0, [0, 1, 2, 3, 4, 5, 6, 7], (some 217, (.indexAddr 64 (.tmp 215) (.tmp 216)), none)), (12, 0, [0, 1, 2, 3, 4, 5, 6, 7], (some 218, (.fieldAddr 63 (.tmp 217) 1), none)), (13, 0, [0, 1, 2, 3, 4, 5, 6, 7], (some 219, (.load 3 (.tmp 218)), none)), (14, 0, [0, 1, 2, 3, 4, 5], (some 220, (.binOp .add 3 (.tmp 213) (.tmp 219) 3), none)), (15, 0, [], (some 221, (.build 61 #[(0, (.tmp 211)), (1, (.tmp 220))]), none)), (16, 0, [], (none, (.store 61 (.tmp 10) (.tmp 221)), none))] 0 := XUR.mk (nr (by kernel_rfl)) (nr (by kernel_rfl)) (nr (by kernel_rfl)) (nr (by kernel_rfl)) (nr (by kernel_rfl))
@[go_sem] theorem t14_24 : TK g14_24 := fun _ => nr (by kernel_rfl)
noncomputable def g14_25 : Array Oper := regAt Go.Proofs.Try.f14 25
@[go_sem] theorem x14_25 : XR 14 g14_25 [mvo 65 11, (some 66, (.binOp .add 3 (.tmp 65) (.const (.int .i64 1)) 3), none), (some 11, (.assign (.tmp 66)), none)] := XR.mk (nr (by kernel_rfl)) (nr (by kernel_rfl))
@[go_sem] theorem t14_25 : TK g14_25 := fun _ => nr (by kernel_rfl)
noncomputable def g14_26 : Array Oper := regAt Go.Proofs.Try.f14 26
@[go_sem] theorem x14_26 : XR 14 g14_26 [(some 6, (.assign (.const (.bool true))), none)] := XR.mk (nr (by kernel_rfl)) (nr (by kernel_rfl))
@[go_sem] theorem t14_26 : TK g14_26 := fun _ => nr (by kernel_rfl)
noncomputable def l14_0 : Code := (.seq (.seq (.region 11 g14_11 false) (.cond (.tmp 64) .skip (.exit 0))) (.seq (.block 1 (.seq (.seq (.region 13 g14_12 false) (.cond (.tmp 84) (.seq (.region 14 g14_13 false) .ret) .skip)) (.seq (.region 15 g14_14 true) (.seq (.seq (.region 16 g14_15 false) (.cond (.tmp 119) (.seq (.region 17 g14_16 false) .ret) .skip)) (.seq (.region 18 g14_17 true) (.seq (.seq (.region 19 g14_18 false) (.cond (.tmp 176) (.seq (.region 20 g14_19 false) .ret) .skip)) (.seq (.seq (.region 21 g14_20 false) (.cond (.tmp 180) (.seq (.region 22 g14_21 false) .ret) .skip)) (.seq (.region 23 g14_22 true) (.seq (.region 24 g14_23 true) (.region 25 g14_24 true)))))))))) (.region 12 g14_25 false)))
theorem dl14_0 {ro nt : Nat} {fr : PT} {H : Hp} : (den cx).loop ro 14 nt l14_0 fr H = xbind (ex cx (den cx) ro 14 nt (.seq (.seq (.region 11 g14_11 false) (.cond (.tmp 64) .skip (.exit 0))) (.seq (.block 1 (.seq (.seq (.region 13 g14_12 false) (.cond (.tmp 84) (.seq (.region 14 g14_13 false) .ret) .skip)) (.seq (.region 15 g14_14 true) (.seq (.seq (.region 16 g14_15 false) (.cond (.tmp 119) (.seq (.region 17 g14_16 false) .ret) .skip)) (.seq (.region 18 g14_17 true) (.seq (.seq (.region 19 g14_18 false) (.cond (.tmp 176) (.seq (.region 20 g14_19 false) .ret) .skip)) (.seq (.seq (.region 21 g14_20 false) (.cond (.tmp 180) (.seq (.region 22 g14_21 false) .ret) .skip)) (.seq (.region 23 g14_22 true) (.seq (.region 24 g14_23 true) (.region 25 g14_24 true)))))))))) (.region 12 g14_25 false))) fr H) (contR (trimmed ((den cx).loop ro 14 nt l14_0) H.length)) := den_loop_x l14_0
theorem b14 : Go.Proofs.Try.f14.body = some (.seq (.region 0 g14_0 false) (.seq (.seq (.region 1 g14_1 false) (.cond (.tmp 18) (.seq (.region 2 g14_2 false) .ret) .skip)) (.seq (.region 3 g14_3 false) (.seq (.region 4 g14_4 false) (.seq (.seq (.region 5 g14_5 false) (.cond (.tmp 36) (.seq (.region 6 g14_6 false) .ret) .skip)) (.seq (.region 7 g14_7 false) (.seq (.region 8 g14_8 false) (.seq (.region 9 g14_9 false) (.seq (.seq (.region 10 g14_10 false) (.block 0 (.loop l14_0))) (.seq (.region 26 g14_26 false) .ret)))))))))) := by kernel_rfl
theorem c14 {h : Hd} {ro : Nat} {H : Hp} (a0 a1 a2 : AV) : callB cx h ro 14 [a0, a1, a2] H = returned cx [(.tmp 6)] (ex cx h ro 14 222 (.seq (.region 0 g14_0 false) (.seq (.seq (.region 1 g14_1 false) (.cond (.tmp 18) (.seq (.region 2 g14_2 false) .ret) .skip)) (.seq (.region 3 g14_3 false) (.seq (.region 4 g14_4 false) (.seq (.seq (.region 5 g14_5 false) (.cond (.tmp 36) (.seq (.region 6 g14_6 false) .ret) .skip)) (.seq (.region 7 g14_7 false) (.seq (.region 8 g14_8 false) (.seq (.region 9 g14_9 false) (.seq (.seq (.region 10 g14_10 false) (.block 0 (.loop l14_0))) (.seq (.region 26 g14_26 false) .ret)))))))))) (((PT.nil.set 0 (drp a0)).set 1 (drp a1)).set 2 (drp a2)) H) := by
  have hf : cx.fns 14 = some Go.Proofs.Try.f14 := by kernel_rfl
  simp only [callB, hf, funced, b14, bodied]
  rfl
end Go.Abs.Tab
