/- Codes of this seat's functions, their regions step by step. (Printed by a program.) -/
import Derived.Test.YtiinagmombigpaaEvY
set_option linter.unusedSimpArgs false
set_option linter.unusedVariables false
set_option linter.unnecessarySimpa false

/- Codes of this seat's functions, their regions step by step. (Printed by a program.) -/
set_option linter.unusedVariables false
namespace Go.Abs.Tab
abbrev XR (n : FuncId) (g : Array Oper) (l : List XO) : Prop := ∀ {h : Hd} {ro nt id : Nat} {fr : PT} {H : Hp}, ex cx h ro n nt (.region id g false) fr H = xbind (xrun cx h ro n nt g l fr H) fun p => some (.normal, p.1, p.2)
theorem XR.mk {n : FuncId} {g : Array Oper} {l : List XO} (hg : guardsOk g = true) (hl : strip g = l) : XR n g l := x_region l hg hl
abbrev XUR (n : FuncId) (g : Array Oper) (l : List XU) (m : Nat) : Prop := ∀ {h : Hd} {ro nt id : Nat} {fr : PT} {H : Hp}, ex cx h ro n nt (.region id g true) fr H = orRaw (xrunU cx h ro n nt g H.length l fr (H ++ List.replicate m .res) []) fun _ => regionRaw cx h ro n nt g fr H
theorem XUR.mk {n : FuncId} {g : Array Oper} {l : List XU} {m : Nat} (h1 : guardsOk g = true) (h2 : forward g = true) (h3 : tempsOk g = true) (hl : stripU cx n g = l) (hm : (g.toList.filter (isAlloc cx n)).length = m) : XUR n g l m := x_regionU l m h1 h2 h3 hl hm
abbrev TK (g : Array Oper) : Prop := ∀ d : Tmp, takes g d = false
abbrev mvo (d t : Tmp) : XO := (some d, .move (.tmp t), none)
end Go.Abs.Tab
namespace Go.Abs.Tab
/-! function 118: colloquy/graph.within -/
noncomputable def g118_0 : Array Oper := regAt Go.Proofs.Try.f118 0
@[go_sem] theorem x118_0 : XR 118 g118_0 [(some 4, (.assign (.const (.bool false))), none)] := XR.mk (nr (by kernel_rfl)) (nr (by kernel_rfl))
@[go_sem] theorem t118_0 : TK g118_0 := fun _ => nr (by kernel_rfl)
noncomputable def g118_1 : Array Oper := regAt Go.Proofs.Try.f118 1
@[go_sem] theorem x118_1 : XR 118 g118_1 [mvo 5 0, (some 6, (.binOp .geq 3 (.tmp 5) (.const (.int .i64 0)) 3), none), mvo 7 6, (some 8, (.move (.tmp 0)), some (7, true)), (some 9, (.move (.tmp 1)), some (7, true)), (some 10, (.binOp .leq 3 (.tmp 8) (.tmp 9) 3), some (7, true)), (some 11, (.pick (.tmp 7) (.tmp 10) (.const (.bool false))), none), (some 4, (.assign (.tmp 11)), none)] := XR.mk (nr (by kernel_rfl)) (nr (by kernel_rfl))
@[go_sem] theorem t118_1 : TK g118_1 := fun _ => nr (by kernel_rfl)
theorem b118 : Go.Proofs.Try.f118.body = some (.seq (.region 0 g118_0 false) (.seq (.region 1 g118_1 false) .ret)) := by kernel_rfl
theorem c118 {h : Hd} {ro : Nat} {H : Hp} (a0 a1 : AV) : callB cx h ro 118 [a0, a1] H = returned cx [(.tmp 4)] (ex cx h ro 118 12 (.seq (.region 0 g118_0 false) (.seq (.region 1 g118_1 false) .ret)) ((PT.nil.set 0 (drp a0)).set 1 (drp a1)) H) := by
  have hf : cx.fns 118 = some Go.Proofs.Try.f118 := by kernel_rfl
  simp only [callB, hf, funced, b118, bodied]
  rfl
/-! function 116: colloquy/graph.shaped -/
noncomputable def g116_0 : Array Oper := regAt Go.Proofs.Try.f116 0
@[go_sem] theorem x116_0 : XR 116 g116_0 [(some 1, (.box 66 (.tmp 0)), none), (some 2, (.assign (.const (.bool false))), none)] := XR.mk (nr (by kernel_rfl)) (nr (by kernel_rfl))
@[go_sem] theorem t116_0 : TK g116_0 := fun _ => nr (by kernel_rfl)
noncomputable def g116_1 : Array Oper := regAt Go.Proofs.Try.f116 1
@[go_sem] theorem x116_1 : XR 116 g116_1 [(some 5, (.fieldAddr 66 (.tmp 1) 0), none), (some 6, (.load 3 (.tmp 5)), none), (some 7, (.call ⟨(.value (.func 118)), #[(.tmp 6), (.const (.int .i64 5))], #[3, 3]⟩), none), (some 8, (.unOp .not 4 (.tmp 7)), none)] := XR.mk (nr (by kernel_rfl)) (nr (by kernel_rfl))
@[go_sem] theorem t116_1 : TK g116_1 := fun _ => nr (by kernel_rfl)
noncomputable def g116_2 : Array Oper := regAt Go.Proofs.Try.f116 2
@[go_sem] theorem x116_2 : XR 116 g116_2 [(some 2, (.assign (.const (.bool false))), none)] := XR.mk (nr (by kernel_rfl)) (nr (by kernel_rfl))
@[go_sem] theorem t116_2 : TK g116_2 := fun _ => nr (by kernel_rfl)
noncomputable def g116_3 : Array Oper := regAt Go.Proofs.Try.f116 3
@[go_sem] theorem x116_3 : XUR 116 g116_3 [(0, 0, [], (some 9, (.call ⟨(.value (.func 152)), #[], #[]⟩), none)), (1, 0, [0], (some 10, (.fieldAddr 66 (.tmp 1) 0), none)), (2, 0, [0], (some 11, (.load 3 (.tmp 10)), none)), (3, 0, [], (some 12, (.index 249 (.tmp 9) (.tmp 11)), none)), (4, 0, [0, 1, 2, 3], (some 3, (.alloc 248), none)), (5, 1, [], (none, (.store 248 (.tmp 3) (.tmp 12)), none))] 1 := XUR.mk (nr (by kernel_rfl)) (nr (by kernel_rfl)) (nr (by kernel_rfl)) (nr (by kernel_rfl)) (nr (by kernel_rfl))
@[go_sem] theorem t116_3 : TK g116_3 := fun _ => nr (by kernel_rfl)
noncomputable def g116_4 : Array Oper := regAt Go.Proofs.Try.f116 4
@[go_sem] theorem x116_4 : XR 116 g116_4 [(some 4, (.assign (.func 153)), none)] := XR.mk (nr (by kernel_rfl)) (nr (by kernel_rfl))
@[go_sem] theorem t116_4 : TK g116_4 := fun _ => nr (by kernel_rfl)
noncomputable def g116_5 : Array Oper := regAt Go.Proofs.Try.f116 5
@[go_sem] theorem x116_5 : XR 116 g116_5 [(some 14, (.fieldAddr 66 (.tmp 1) 4), none), (some 15, (.load 64 (.tmp 14)), none), (some 16, (.call ⟨(.builtin .len), #[(.tmp 15)], #[64]⟩), none), (some 17, (.fieldAddr 248 (.tmp 3) 0), none), (some 18, (.load 3 (.tmp 17)), none), (some 19, (.binOp .lss 3 (.tmp 16) (.tmp 18) 3), none), mvo 20 19, (some 21, (.fieldAddr 66 (.tmp 1) 4), some (20, false)), (some 22, (.load 64 (.tmp 21)), some (20, false)), (some 23, (.call ⟨(.builtin .len), #[(.tmp 22)], #[64]⟩), some (20, false)), (some 24, (.fieldAddr 248 (.tmp 3) 1), some (20, false)), (some 25, (.load 3 (.tmp 24)), some (20, false)), (some 26, (.binOp .gtr 3 (.tmp 23) (.tmp 25) 3), some (20, false)), (some 27, (.pick (.tmp 20) (.const (.bool true)) (.tmp 26)), none), (some 13, (.assign (.tmp 27)), none)] := XR.mk (nr (by kernel_rfl)) (nr (by kernel_rfl))
@[go_sem] theorem t116_5 : TK g116_5 := fun _ => nr (by kernel_rfl)
noncomputable def g116_6 : Array Oper := regAt Go.Proofs.Try.f116 6
@[go_sem] theorem x116_6 : XR 116 g116_6 [(some 2, (.assign (.const (.bool false))), none)] := XR.mk (nr (by kernel_rfl)) (nr (by kernel_rfl))
@[go_sem] theorem t116_6 : TK g116_6 := fun _ => nr (by kernel_rfl)
noncomputable def g116_7 : Array Oper := regAt Go.Proofs.Try.f116 7
@[go_sem] theorem x116_7 : XR 116 g116_7 [(some 29, (.fieldAddr 66 (.tmp 1) 1), none), (some 30, (.load 3 (.tmp 29)), none), (some 31, (.call ⟨(.value (.func 118)), #[(.tmp 30), (.const (.int .i64 1000))], #[3, 3]⟩), none), (some 32, (.unOp .not 4 (.tmp 31)), none), mvo 33 32, (some 34, (.fieldAddr 248 (.tmp 3) 3), some (33, false)), (some 35, (.load 4 (.tmp 34)), some (33, false)), (some 36, (.move (.tmp 35)), some (33, false)), (some 37, (.fieldAddr 66 (.tmp 1) 1), some (36, true)), (some 38, (.load 3 (.tmp 37)), some (36, true)), (some 39, (.binOp .gtr 3 (.tmp 38) (.const (.int .i64 0)) 3), some (36, true)), (some 40, (.pick (.tmp 36) (.tmp 39) (.const (.bool false))), some (33, false)), (some 41, (.pick (.tmp 33) (.const (.bool true)) (.tmp 40)), none), (some 28, (.assign (.tmp 41)), none)] := XR.mk (nr (by kernel_rfl)) (nr (by kernel_rfl))
@[go_sem] theorem t116_7 : TK g116_7 := fun _ => nr (by kernel_rfl)
noncomputable def g116_8 : Array Oper := regAt Go.Proofs.Try.f116 8
@[go_sem] theorem x116_8 : XR 116 g116_8 [(some 2, (.assign (.const (.bool false))), none)] := XR.mk (nr (by kernel_rfl)) (nr (by kernel_rfl))
@[go_sem] theorem t116_8 : TK g116_8 := fun _ => nr (by kernel_rfl)
noncomputable def g116_9 : Array Oper := regAt Go.Proofs.Try.f116 9
@[go_sem] theorem x116_9 : XR 116 g116_9 [(some 43, (.fieldAddr 66 (.tmp 1) 2), none), (some 44, (.load 4 (.tmp 43)), none), mvo 45 44, (some 46, (.fieldAddr 248 (.tmp 3) 2), some (45, true)), (some 47, (.load 4 (.tmp 46)), some (45, true)), (some 48, (.unOp .not 4 (.tmp 47)), some (45, true)), (some 49, (.pick (.tmp 45) (.tmp 48) (.const (.bool false))), none), mvo 50 49, (some 51, (.fieldAddr 66 (.tmp 1) 2), some (50, false)), (some 52, (.load 4 (.tmp 51)), some (50, false)), (some 53, (.unOp .not 4 (.tmp 52)), some (50, false)), (some 54, (.move (.tmp 53)), some (50, false)), (some 55, (.fieldAddr 66 (.tmp 1) 3), some (54, true)), (some 56, (.load 63 (.tmp 55)), some (54, true)), (some 57, (.build 63 #[]), some (54, true)), (some 58, (.binOp .neq 63 (.tmp 56) (.tmp 57) 63), some (54, true)), (some 59, (.pick (.tmp 54) (.tmp 58) (.const (.bool false))), some (50, false)), (some 60, (.pick (.tmp 50) (.const (.bool true)) (.tmp 59)), none), (some 42, (.assign (.tmp 60)), none)] := XR.mk (nr (by kernel_rfl)) (nr (by kernel_rfl))
@[go_sem] theorem t116_9 : TK g116_9 := fun _ => nr (by kernel_rfl)
noncomputable def g116_10 : Array Oper := regAt Go.Proofs.Try.f116 10
@[go_sem] theorem x116_10 : XR 116 g116_10 [(some 2, (.assign (.const (.bool false))), none)] := XR.mk (nr (by kernel_rfl)) (nr (by kernel_rfl))
@[go_sem] theorem t116_10 : TK g116_10 := fun _ => nr (by kernel_rfl)
noncomputable def g116_11 : Array Oper := regAt Go.Proofs.Try.f116 11
@[go_sem] theorem x116_11 : XR 116 g116_11 [(some 61, (.load 66 (.tmp 1)), none), (some 62, (.call ⟨(.value (.func 117)), #[(.tmp 61)], #[66]⟩), none), mvo 63 4, (some 64, (.call ⟨(.value (.func 154)), #[(.tmp 62), (.tmp 63)], #[64, 251]⟩), none), (some 65, (.unOp .not 4 (.tmp 64)), none), (some 2, (.assign (.tmp 65)), none)] := XR.mk (nr (by kernel_rfl)) (nr (by kernel_rfl))
@[go_sem] theorem t116_11 : TK g116_11 := fun _ => nr (by kernel_rfl)
theorem b116 : Go.Proofs.Try.f116.body = some (.seq (.region 0 g116_0 false) (.seq (.seq (.region 1 g116_1 false) (.cond (.tmp 8) (.seq (.region 2 g116_2 false) .ret) .skip)) (.seq (.region 3 g116_3 true) (.seq (.region 4 g116_4 false) (.seq (.block 0 (.seq (.region 5 g116_5 false) (.cond (.tmp 13) (.seq (.region 6 g116_6 false) .ret) (.seq (.region 7 g116_7 false) (.cond (.tmp 28) (.seq (.region 8 g116_8 false) .ret) (.seq (.region 9 g116_9 false) (.cond (.tmp 42) (.seq (.region 10 g116_10 false) .ret) .skip))))))) (.seq (.region 11 g116_11 false) .ret)))))) := by kernel_rfl
theorem c116 {h : Hd} {ro : Nat} {H : Hp} (a0 : AV) : callB cx h ro 116 [a0] H = returned cx [(.tmp 2)] (ex cx h ro 116 66 (.seq (.region 0 g116_0 false) (.seq (.seq (.region 1 g116_1 false) (.cond (.tmp 8) (.seq (.region 2 g116_2 false) .ret) .skip)) (.seq (.region 3 g116_3 true) (.seq (.region 4 g116_4 false) (.seq (.block 0 (.seq (.region 5 g116_5 false) (.cond (.tmp 13) (.seq (.region 6 g116_6 false) .ret) (.seq (.region 7 g116_7 false) (.cond (.tmp 28) (.seq (.region 8 g116_8 false) .ret) (.seq (.region 9 g116_9 false) (.cond (.tmp 42) (.seq (.region 10 g116_10 false) .ret) .skip))))))) (.seq (.region 11 g116_11 false) .ret)))))) (PT.nil.set 0 (drp a0)) H) := by
  have hf : cx.fns 116 = some Go.Proofs.Try.f116 := by kernel_rfl
  simp only [callB, hf, funced, b116, bodied]
  rfl
/-! function 117: colloquy/graph.edges -/
noncomputable def g117_0 : Array Oper := regAt Go.Proofs.Try.f117 0
@[go_sem] theorem x117_0 : XR 117 g117_0 [(some 1, (.box 66 (.tmp 0)), none), (some 2, (.assign (.const (.slice none 0 0))), none)] := XR.mk (nr (by kernel_rfl)) (nr (by kernel_rfl))
@[go_sem] theorem t117_0 : TK g117_0 := fun _ => nr (by kernel_rfl)
noncomputable def g117_1 : Array Oper := regAt Go.Proofs.Try.f117 1
@[go_sem] theorem x117_1 : XR 117 g117_1 [(some 4, (.fieldAddr 66 (.tmp 1) 4), none), (some 5, (.load 64 (.tmp 4)), none), (some 6, (.call ⟨(.value (.func 155)), #[(.tmp 5)], #[64]⟩), none), (some 3, (.assign (.tmp 6)), none)] := XR.mk (nr (by kernel_rfl)) (nr (by kernel_rfl))
@[go_sem] theorem t117_1 : TK g117_1 := fun _ => nr (by kernel_rfl)
noncomputable def g117_2 : Array Oper := regAt Go.Proofs.Try.f117 2
@[go_sem] theorem x117_2 : XR 117 g117_2 [(some 7, (.fieldAddr 66 (.tmp 1) 2), none), (some 8, (.load 4 (.tmp 7)), none)] := XR.mk (nr (by kernel_rfl)) (nr (by kernel_rfl))
@[go_sem] theorem t117_2 : TK g117_2 := fun _ => nr (by kernel_rfl)
noncomputable def g117_3 : Array Oper := regAt Go.Proofs.Try.f117 3
@[go_sem] theorem x117_3 : XR 117 g117_3 [mvo 9 3, (some 10, (.fieldAddr 66 (.tmp 1) 3), none), (some 11, (.load 63 (.tmp 10)), none), (some 12, (.buildSlice 64 1 #[(0, (.tmp 11))]), none), (some 13, (.call ⟨(.builtin .append), #[(.tmp 9), (.tmp 12)], #[64, 64]⟩), none), (some 3, (.assign (.tmp 13)), none)] := XR.mk (nr (by kernel_rfl)) (nr (by kernel_rfl))
@[go_sem] theorem t117_3_9 : takes g117_3 9 = true := nr (by kernel_rfl)
@[go_sem] theorem t117_3_10 : takes g117_3 10 = false := nr (by kernel_rfl)
@[go_sem] theorem t117_3_11 : takes g117_3 11 = false := nr (by kernel_rfl)
@[go_sem] theorem t117_3_12 : takes g117_3 12 = false := nr (by kernel_rfl)
@[go_sem] theorem t117_3_13 : takes g117_3 13 = false := nr (by kernel_rfl)
@[go_sem] theorem t117_3_3 : takes g117_3 3 = false := nr (by kernel_rfl)
noncomputable def g117_4 : Array Oper := regAt Go.Proofs.Try.f117 4
@[go_sem] theorem x117_4 : XR 117 g117_4 [mvo 14 3, (some 2, (.assign (.tmp 14)), none)] := XR.mk (nr (by kernel_rfl)) (nr (by kernel_rfl))
@[go_sem] theorem t117_4 : TK g117_4 := fun _ => nr (by kernel_rfl)
theorem b117 : Go.Proofs.Try.f117.body = some (.seq (.region 0 g117_0 false) (.seq (.region 1 g117_1 false) (.seq (.seq (.region 2 g117_2 false) (.cond (.tmp 8) (.region 3 g117_3 false) .skip)) (.seq (.region 4 g117_4 false) .ret)))) := by kernel_rfl
theorem c117 {h : Hd} {ro : Nat} {H : Hp} (a0 : AV) : callB cx h ro 117 [a0] H = returned cx [(.tmp 2)] (ex cx h ro 117 15 (.seq (.region 0 g117_0 false) (.seq (.region 1 g117_1 false) (.seq (.seq (.region 2 g117_2 false) (.cond (.tmp 8) (.region 3 g117_3 false) .skip)) (.seq (.region 4 g117_4 false) .ret)))) (PT.nil.set 0 (drp a0)) H) := by
  have hf : cx.fns 117 = some Go.Proofs.Try.f117 := by kernel_rfl
  simp only [callB, hf, funced, b117, bodied]
  rfl
/-! function 153: colloquy/graph.shaped$1 -/
noncomputable def g153_0 : Array Oper := regAt Go.Proofs.Try.f153 0
@[go_sem] theorem x153_0 : XR 153 g153_0 [(some 1, (.box 63 (.tmp 0)), none), (some 2, (.assign (.const (.bool false))), none)] := XR.mk (nr (by kernel_rfl)) (nr (by kernel_rfl))
@[go_sem] theorem t153_0 : TK g153_0 := fun _ => nr (by kernel_rfl)
noncomputable def g153_1 : Array Oper := regAt Go.Proofs.Try.f153 1
@[go_sem] theorem x153_1 : XR 153 g153_1 [(some 3, (.fieldAddr 63 (.tmp 1) 1), none), (some 4, (.load 3 (.tmp 3)), none), (some 5, (.call ⟨(.value (.func 118)), #[(.tmp 4), (.const (.int .i64 1000))], #[3, 3]⟩), none), (some 6, (.unOp .not 4 (.tmp 5)), none), (some 2, (.assign (.tmp 6)), none)] := XR.mk (nr (by kernel_rfl)) (nr (by kernel_rfl))
@[go_sem] theorem t153_1 : TK g153_1 := fun _ => nr (by kernel_rfl)
theorem b153 : Go.Proofs.Try.f153.body = some (.seq (.region 0 g153_0 false) (.seq (.region 1 g153_1 false) .ret)) := by kernel_rfl
theorem c153 {h : Hd} {ro : Nat} {H : Hp} (a0 : AV) : callB cx h ro 153 [a0] H = returned cx [(.tmp 2)] (ex cx h ro 153 7 (.seq (.region 0 g153_0 false) (.seq (.region 1 g153_1 false) .ret)) (PT.nil.set 0 (drp a0)) H) := by
  have hf : cx.fns 153 = some Go.Proofs.Try.f153 := by kernel_rfl
  simp only [callB, hf, funced, b153, bodied]
  rfl
/-! function 154: slices.ContainsFunc[[]colloquy/api.Edge,colloquy/api.Edge] -/
noncomputable def g154_0 : Array Oper := regAt Go.Proofs.Try.f154 0
@[go_sem] theorem x154_0 : XR 154 g154_0 [(some 4, (.assign (.const (.bool false))), none)] := XR.mk (nr (by kernel_rfl)) (nr (by kernel_rfl))
@[go_sem] theorem t154_0 : TK g154_0 := fun _ => nr (by kernel_rfl)
noncomputable def g154_1 : Array Oper := regAt Go.Proofs.Try.f154 1
@[go_sem] theorem x154_1 : XR 154 g154_1 [mvo 5 0, mvo 6 1, (some 7, (.call ⟨(.value (.func 175)), #[(.tmp 5), (.tmp 6)], #[64, 251]⟩), none), (some 8, (.binOp .geq 3 (.tmp 7) (.const (.int .i64 0)) 3), none), (some 4, (.assign (.tmp 8)), none)] := XR.mk (nr (by kernel_rfl)) (nr (by kernel_rfl))
@[go_sem] theorem t154_1 : TK g154_1 := fun _ => nr (by kernel_rfl)
theorem b154 : Go.Proofs.Try.f154.body = some (.seq (.region 0 g154_0 false) (.seq (.region 1 g154_1 false) .ret)) := by kernel_rfl
theorem c154 {h : Hd} {ro : Nat} {H : Hp} (a0 a1 : AV) : callB cx h ro 154 [a0, a1] H = returned cx [(.tmp 4)] (ex cx h ro 154 9 (.seq (.region 0 g154_0 false) (.seq (.region 1 g154_1 false) .ret)) ((PT.nil.set 0 (drp a0)).set 1 (drp a1)) H) := by
  have hf : cx.fns 154 = some Go.Proofs.Try.f154 := by kernel_rfl
  simp only [callB, hf, funced, b154, bodied]
  rfl
/-! function 155: slices.Clone[[]colloquy/api.Edge,colloquy/api.Edge] -/
noncomputable def g155_0 : Array Oper := regAt Go.Proofs.Try.f155 0
@[go_sem] theorem x155_0 : XR 155 g155_0 [(some 2, (.assign (.const (.slice none 0 0))), none)] := XR.mk (nr (by kernel_rfl)) (nr (by kernel_rfl))
@[go_sem] theorem t155_0 : TK g155_0 := fun _ => nr (by kernel_rfl)
noncomputable def g155_1 : Array Oper := regAt Go.Proofs.Try.f155 1
@[go_sem] theorem x155_1 : XR 155 g155_1 [mvo 3 0, (some 4, (.binOp .eql 64 (.tmp 3) (.const (.slice none 0 0)) 64), none)] := XR.mk (nr (by kernel_rfl)) (nr (by kernel_rfl))
@[go_sem] theorem t155_1 : TK g155_1 := fun _ => nr (by kernel_rfl)
noncomputable def g155_2 : Array Oper := regAt Go.Proofs.Try.f155 2
@[go_sem] theorem x155_2 : XR 155 g155_2 [(some 2, (.assign (.const (.slice none 0 0))), none)] := XR.mk (nr (by kernel_rfl)) (nr (by kernel_rfl))
@[go_sem] theorem t155_2 : TK g155_2 := fun _ => nr (by kernel_rfl)
noncomputable def g155_3 : Array Oper := regAt Go.Proofs.Try.f155 3
@[go_sem] theorem x155_3 : XR 155 g155_3 [(some 5, (.buildSlice 64 0 #[]), none), mvo 6 0, (some 7, (.call ⟨(.builtin .append), #[(.tmp 5), (.tmp 6)], #[64, 64]⟩), none), (some 2, (.assign (.tmp 7)), none)] := XR.mk (nr (by kernel_rfl)) (nr (by kernel_rfl))
@[go_sem] theorem t155_3_5 : takes g155_3 5 = true := nr (by kernel_rfl)
@[go_sem] theorem t155_3_6 : takes g155_3 6 = false := nr (by kernel_rfl)
@[go_sem] theorem t155_3_7 : takes g155_3 7 = false := nr (by kernel_rfl)
@[go_sem] theorem t155_3_2 : takes g155_3 2 = false := nr (by kernel_rfl)
theorem b155 : Go.Proofs.Try.f155.body = some (.seq (.region 0 g155_0 false) (.seq (.seq (.region 1 g155_1 false) (.cond (.tmp 4) (.seq (.region 2 g155_2 false) .ret) .skip)) (.seq (.region 3 g155_3 false) .ret))) := by kernel_rfl
theorem c155 {h : Hd} {ro : Nat} {H : Hp} (a0 : AV) : callB cx h ro 155 [a0] H = returned cx [(.tmp 2)] (ex cx h ro 155 8 (.seq (.region 0 g155_0 false) (.seq (.seq (.region 1 g155_1 false) (.cond (.tmp 4) (.seq (.region 2 g155_2 false) .ret) .skip)) (.seq (.region 3 g155_3 false) .ret))) (PT.nil.set 0 (drp a0)) H) := by
  have hf : cx.fns 155 = some Go.Proofs.Try.f155 := by kernel_rfl
  simp only [callB, hf, funced, b155, bodied]
  rfl
/-! function 175: slices.IndexFunc[[]colloquy/api.Edge,colloquy/api.Edge] -/
noncomputable def g175_0 : Array Oper := regAt Go.Proofs.Try.f175 0
@[go_sem] theorem x175_0 : XR 175 g175_0 [(some 4, (.assign (.const (.int .i64 0))), none)] := XR.mk (nr (by kernel_rfl)) (nr (by kernel_rfl))
@[go_sem] theorem t175_0 : TK g175_0 := fun _ => nr (by kernel_rfl)
noncomputable def g175_1 : Array Oper := regAt Go.Proofs.Try.f175 1
@[go_sem] theorem x175_1 : XR 175 g175_1 [mvo 6 0, (some 7, (.call ⟨(.builtin .len), #[(.tmp 6)], #[64]⟩), none), (some 8, (.move (.const (.int .i64 0))), none)] := XR.mk (nr (by kernel_rfl)) (nr (by kernel_rfl))
@[go_sem] theorem t175_1 : TK g175_1 := fun _ => nr (by kernel_rfl)
noncomputable def g175_2 : Array Oper := regAt Go.Proofs.Try.f175 2
@[go_sem] theorem x175_2 : XR 175 g175_2 [(some 9, (.binOp .lss 3 (.tmp 8) (.tmp 7) 3), none)] := XR.mk (nr (by kernel_rfl)) (nr (by kernel_rfl))
@[go_sem] theorem t175_2 : TK g175_2 := fun _ => nr (by kernel_rfl)
noncomputable def g175_3 : Array Oper := regAt Go.Proofs.Try.f175 3
@[go_sem] theorem x175_3 : XR 175 g175_3 [mvo 10 8, (some 5, (.assign (.tmp 10)), none)] := XR.mk (nr (by kernel_rfl)) (nr (by kernel_rfl))
@[go_sem] theorem t175_3 : TK g175_3 := fun _ => nr (by kernel_rfl)
noncomputable def g175_4 : Array Oper := regAt Go.Proofs.Try.f175 4
@[go_sem] theorem x175_4 : XR 175 g175_4 [mvo 11 1, mvo 12 0, mvo 13 5, (some 14, (.indexAddr 64 (.tmp 12) (.tmp 13)), none), (some 15, (.load 63 (.tmp 14)), none), (some 16, (.call ⟨(.value (.tmp 11)), #[(.tmp 15)], #[63]⟩), none)] := XR.mk (nr (by kernel_rfl)) (nr (by kernel_rfl))
@[go_sem] theorem t175_4 : TK g175_4 := fun _ => nr (by kernel_rfl)
noncomputable def g175_5 : Array Oper := regAt Go.Proofs.Try.f175 5
@[go_sem] theorem x175_5 : XR 175 g175_5 [mvo 17 5, (some 4, (.assign (.tmp 17)), none)] := XR.mk (nr (by kernel_rfl)) (nr (by kernel_rfl))
@[go_sem] theorem t175_5 : TK g175_5 := fun _ => nr (by kernel_rfl)
noncomputable def g175_6 : Array Oper := regAt Go.Proofs.Try.f175 6
@[go_sem] theorem x175_6 : XR 175 g175_6 [(some 18, (.binOp .add 3 (.tmp 8) (.const (.int .i64 1)) 3), none), mvo 8 18] := XR.mk (nr (by kernel_rfl)) (nr (by kernel_rfl))
@[go_sem] theorem t175_6 : TK g175_6 := fun _ => nr (by kernel_rfl)
noncomputable def g175_7 : Array Oper := regAt Go.Proofs.Try.f175 7
@[go_sem] theorem x175_7 : XR 175 g175_7 [(some 4, (.assign (.const (.int .i64 (-1)))), none)] := XR.mk (nr (by kernel_rfl)) (nr (by kernel_rfl))
@[go_sem] theorem t175_7 : TK g175_7 := fun _ => nr (by kernel_rfl)
noncomputable def l175_0 : Code := (.seq (.region 2 g175_2 false) (.seq (.cond (.tmp 9) .skip (.exit 0)) (.seq (.block 1 (.seq (.region 3 g175_3 false) (.seq (.region 4 g175_4 false) (.cond (.tmp 16) (.seq (.region 5 g175_5 false) .ret) .skip)))) (.region 6 g175_6 false))))
theorem dl175_0 {ro nt : Nat} {fr : PT} {H : Hp} : (den cx).loop ro 175 nt l175_0 fr H = xbind (ex cx (den cx) ro 175 nt (.seq (.region 2 g175_2 false) (.seq (.cond (.tmp 9) .skip (.exit 0)) (.seq (.block 1 (.seq (.region 3 g175_3 false) (.seq (.region 4 g175_4 false) (.cond (.tmp 16) (.seq (.region 5 g175_5 false) .ret) .skip)))) (.region 6 g175_6 false)))) fr H) (contR (trimmed ((den cx).loop ro 175 nt l175_0) H.length)) := den_loop_x l175_0
theorem b175 : Go.Proofs.Try.f175.body = some (.seq (.region 0 g175_0 false) (.seq (.seq (.region 1 g175_1 false) (.block 0 (.loop l175_0))) (.seq (.region 7 g175_7 false) .ret))) := by kernel_rfl
theorem c175 {h : Hd} {ro : Nat} {H : Hp} (a0 a1 : AV) : callB cx h ro 175 [a0, a1] H = returned cx [(.tmp 4)] (ex cx h ro 175 19 (.seq (.region 0 g175_0 false) (.seq (.seq (.region 1 g175_1 false) (.block 0 (.loop l175_0))) (.seq (.region 7 g175_7 false) .ret))) ((PT.nil.set 0 (drp a0)).set 1 (drp a1)) H) := by
  have hf : cx.fns 175 = some Go.Proofs.Try.f175 := by kernel_rfl
  simp only [callB, hf, funced, b175, bodied]
  rfl
/-! function 152: colloquy/graph.forms -/
noncomputable def g152_0 : Array Oper := regAt Go.Proofs.Try.f152 0
@[go_sem] theorem x152_0 : XR 152 g152_0 [(some 0, (.alloc 249), none)] := XR.mk (nr (by kernel_rfl)) (nr (by kernel_rfl))
@[go_sem] theorem t152_0 : TK g152_0 := fun _ => nr (by kernel_rfl)
noncomputable def g152_1 : Array Oper := regAt Go.Proofs.Try.f152 1
@[go_sem] theorem x152_1 : XR 152 g152_1 [(some 1, (.build 248 #[(0, (.const (.int .i64 0))), (1, (.const (.int .i64 0))), (2, (.const (.bool false))), (3, (.const (.bool true)))]), none), (some 2, (.build 248 #[(0, (.const (.int .i64 1))), (1, (.const (.int .i64 1))), (2, (.const (.bool true))), (3, (.const (.bool false)))]), none), (some 3, (.build 248 #[(0, (.const (.int .i64 1))), (1, (.const (.int .i64 1))), (2, (.const (.bool true))), (3, (.const (.bool false)))]), none), (some 4, (.build 248 #[(0, (.const (.int .i64 1))), (1, (.const (.int .i64 8))), (2, (.const (.bool false))), (3, (.const (.bool false)))]), none), (some 5, (.build 248 #[(0, (.const (.int .i64 1))), (1, (.const (.int .i64 8))), (2, (.const (.bool false))), (3, (.const (.bool false)))]), none), (some 6, (.build 248 #[(0, (.const (.int .i64 1))), (1, (.const (.int .i64 1))), (2, (.const (.bool false))), (3, (.const (.bool true)))]), none), (some 7, (.build 249 #[(0, (.tmp 1)), (1, (.tmp 2)), (2, (.tmp 3)), (3, (.tmp 4)), (4, (.tmp 5)), (5, (.tmp 6))]), none), (none, (.store 249 (.tmp 0) (.tmp 7)), none)] := XR.mk (nr (by kernel_rfl)) (nr (by kernel_rfl))
@[go_sem] theorem t152_1 : TK g152_1 := fun _ => nr (by kernel_rfl)
theorem b152 : Go.Proofs.Try.f152.body = some (.seq (.region 0 g152_0 false) (.seq (.region 1 g152_1 false) .ret)) := by kernel_rfl
theorem c152 {h : Hd} {ro : Nat} {H : Hp} : callB cx h ro 152 [] H = returned cx [(.cell 0 249)] (ex cx h ro 152 8 (.seq (.region 0 g152_0 false) (.seq (.region 1 g152_1 false) .ret)) PT.nil H) := by
  have hf : cx.fns 152 = some Go.Proofs.Try.f152 := by kernel_rfl
  simp only [callB, hf, funced, b152, bodied]
  rfl
/-! function 119: colloquy/graph.way -/
noncomputable def g119_0 : Array Oper := regAt Go.Proofs.Try.f119 0
@[go_sem] theorem x119_0 : XR 119 g119_0 [(some 2, (.box 56 (.tmp 0)), none), (some 3, (.box 61 (.tmp 1)), none), (some 4, (.assign (.const .nilFunc)), none)] := XR.mk (nr (by kernel_rfl)) (nr (by kernel_rfl))
@[go_sem] theorem t119_0 : TK g119_0 := fun _ => nr (by kernel_rfl)
noncomputable def g119_1 : Array Oper := regAt Go.Proofs.Try.f119 1
@[go_sem] theorem x119_1 : XR 119 g119_1 [(some 5, (.makeFunc (.func 156) #[] #[(.tmp 2), (.tmp 3)]), none), (some 4, (.assign (.tmp 5)), none)] := XR.mk (nr (by kernel_rfl)) (nr (by kernel_rfl))
@[go_sem] theorem t119_1 : TK g119_1 := fun _ => nr (by kernel_rfl)
theorem b119 : Go.Proofs.Try.f119.body = some (.seq (.region 0 g119_0 false) (.seq (.region 1 g119_1 false) .ret)) := by kernel_rfl
theorem c119 {h : Hd} {ro : Nat} {H : Hp} (a0 a1 : AV) : callB cx h ro 119 [a0, a1] H = returned cx [(.tmp 4)] (ex cx h ro 119 6 (.seq (.region 0 g119_0 false) (.seq (.region 1 g119_1 false) .ret)) ((PT.nil.set 0 (drp a0)).set 1 (drp a1)) H) := by
  have hf : cx.fns 119 = some Go.Proofs.Try.f119 := by kernel_rfl
  simp only [callB, hf, funced, b119, bodied]
  rfl
/-! function 156: colloquy/graph.way$1 -/
noncomputable def g156_0 : Array Oper := regAt Go.Proofs.Try.f156 0
@[go_sem] theorem x156_0 : XR 156 g156_0 [(some 5, (.load 56 (.tmp 1)), none), (some 6, (.call ⟨(.builtin .len), #[(.tmp 5)], #[56]⟩), none), (some 7, (.move (.const (.int .i64 0))), none)] := XR.mk (nr (by kernel_rfl)) (nr (by kernel_rfl))
@[go_sem] theorem t156_0 : TK g156_0 := fun _ => nr (by kernel_rfl)
noncomputable def g156_1 : Array Oper := regAt Go.Proofs.Try.f156 1
@[go_sem] theorem x156_1 : XR 156 g156_1 [(some 8, (.binOp .lss 3 (.tmp 7) (.tmp 6) 3), none)] := XR.mk (nr (by kernel_rfl)) (nr (by kernel_rfl))
@[go_sem] theorem t156_1 : TK g156_1 := fun _ => nr (by kernel_rfl)
noncomputable def g156_2 : Array Oper := regAt Go.Proofs.Try.f156 2
@[go_sem] theorem x156_2 : XR 156 g156_2 [(some 9, (.fieldAddr 61 (.tmp 2) 0), none), (some 10, (.load 3 (.tmp 9)), none), (some 11, (.load 56 (.tmp 1)), none), (some 12, (.call ⟨(.builtin .len), #[(.tmp 11)], #[56]⟩), none), (some 13, (.binOp .sub 3 (.tmp 12) (.const (.int .i64 1)) 3), none), (some 14, (.call ⟨(.value (.func 118)), #[(.tmp 10), (.tmp 13)], #[3, 3]⟩), none), (some 15, (.unOp .not 4 (.tmp 14)), none)] := XR.mk (nr (by kernel_rfl)) (nr (by kernel_rfl))
@[go_sem] theorem t156_2 : TK g156_2 := fun _ => nr (by kernel_rfl)
noncomputable def g156_3 : Array Oper := regAt Go.Proofs.Try.f156 3
@[go_sem] theorem x156_3 : XR 156 g156_3 [(some 16, (.load 56 (.tmp 1)), none), (some 17, (.fieldAddr 61 (.tmp 2) 0), none), (some 18, (.load 3 (.tmp 17)), none), (some 19, (.indexAddr 56 (.tmp 16) (.tmp 18)), none), (some 20, (.load 66 (.tmp 19)), none), (some 4, (.alloc 66), none), (none, (.store 66 (.tmp 4) (.tmp 20)), none)] := XR.mk (nr (by kernel_rfl)) (nr (by kernel_rfl))
@[go_sem] theorem t156_3 : TK g156_3 := fun _ => nr (by kernel_rfl)
noncomputable def g156_4 : Array Oper := regAt Go.Proofs.Try.f156 4
@[go_sem] theorem x156_4 : XR 156 g156_4 [mvo 21 0, (some 22, (.load 61 (.tmp 2)), none), (some 23, (.load 66 (.tmp 4)), none), (some 24, (.call ⟨(.value (.tmp 21)), #[(.tmp 22), (.tmp 23)], #[61, 66]⟩), none), (some 25, (.unOp .not 4 (.tmp 24)), none), mvo 26 25, (some 27, (.fieldAddr 66 (.tmp 4) 4), some (26, false)), (some 28, (.load 64 (.tmp 27)), some (26, false)), (some 29, (.call ⟨(.builtin .len), #[(.tmp 28)], #[64]⟩), some (26, false)), (some 30, (.binOp .neq 3 (.tmp 29) (.const (.int .i64 1)) 3), some (26, false)), (some 31, (.pick (.tmp 26) (.const (.bool true)) (.tmp 30)), none)] := XR.mk (nr (by kernel_rfl)) (nr (by kernel_rfl))
@[go_sem] theorem t156_4 : TK g156_4 := fun _ => nr (by kernel_rfl)
noncomputable def g156_5 : Array Oper := regAt Go.Proofs.Try.f156 5
@[go_sem] theorem x156_5 : XUR 156 g156_5 [(0, 0, [], (some 32, (.fieldAddr 66 (.tmp 4) 4), none)), (1, 0, [], (some 33, (.load 64 (.tmp 32)), none)), (2, 0, [], (some 34, (.indexAddr 64 (.tmp 33) (.const (.int .i64 0))), none)), (3, 0, [], (some 35, (.fieldAddr 63 (.tmp 34) 0), none)), (4, 0, [], (some 36, (.load 3 (.tmp 35)), none)), (5, 0, [0, 1, 2, 3, 4], (some 37, (.fieldAddr 61 (.tmp 2) 1), none)), (6, 0, [0, 1, 2, 3, 4], (some 38, (.load 3 (.tmp 37)), none)), (7, 0, [0, 1, 2, 3, 4, 5, 6], (some 39, (.fieldAddr 66 (.tmp 4) 4), none)), (8, 0, [0, 1, 2, 3, 4, 5, 6], (some 40, (.load 64 (.tmp 39)), none)), (9, 0, [0, 1, 2, 3, 4, 5, 6], (some 41, (.indexAddr 64 (.tmp 40) (.const (.int .i64 0))), none)), (10, 0, [0, 1, 2, 3, 4, 5, 6], (some 42, (.fieldAddr 63 (.tmp 41) 1), none)), (11, 0, [0, 1, 2, 3, 4, 5, 6], (some 43, (.load 3 (.tmp 42)), none)), (12, 0, [0, 1, 2, 3, 4], (some 44, (.binOp .add 3 (.tmp 38) (.tmp 43) 3), none)), (13, 0, [0, 1, 2, 3, 4, 7, 8, 9, 10, 11, 12], (none, (.store 61 (.tmp 2) (.const (.agg #[(.int .i64 0), (.int .i64 0)]))), none)), (14, 0, [7, 8, 9, 10, 11, 12], (some 45, (.fieldAddr 61 (.tmp 2) 0), none)), (15, 0, [7, 8, 9, 10, 11, 12], (none, (.store 3 (.tmp 45) (.tmp 36)), none)), (16, 0, [], (some 46, (.fieldAddr 61 (.tmp 2) 1), none)), (17, 0, [], (none, (.store 3 (.tmp 46) (.tmp 44)), none))] 0 := XUR.mk (nr (by kernel_rfl)) (nr (by kernel_rfl)) (nr (by kernel_rfl)) (nr (by kernel_rfl)) (nr (by kernel_rfl))
@[go_sem] theorem t156_5 : TK g156_5 := fun _ => nr (by kernel_rfl)
noncomputable def g156_6 : Array Oper := regAt Go.Proofs.Try.f156 6
@[go_sem] theorem x156_6 : XR 156 g156_6 [(some 47, (.binOp .add 3 (.tmp 7) (.const (.int .i64 1)) 3), none), mvo 7 47] := XR.mk (nr (by kernel_rfl)) (nr (by kernel_rfl))
@[go_sem] theorem t156_6 : TK g156_6 := fun _ => nr (by kernel_rfl)
noncomputable def l156_0 : Code := (.seq (.region 1 g156_1 false) (.seq (.cond (.tmp 8) .skip (.exit 0)) (.seq (.block 1 (.seq (.seq (.region 2 g156_2 false) (.cond (.tmp 15) .ret .skip)) (.seq (.region 3 g156_3 false) (.seq (.seq (.region 4 g156_4 false) (.cond (.tmp 31) .ret .skip)) (.region 5 g156_5 true))))) (.region 6 g156_6 false))))
theorem dl156_0 {ro nt : Nat} {fr : PT} {H : Hp} : (den cx).loop ro 156 nt l156_0 fr H = xbind (ex cx (den cx) ro 156 nt (.seq (.region 1 g156_1 false) (.seq (.cond (.tmp 8) .skip (.exit 0)) (.seq (.block 1 (.seq (.seq (.region 2 g156_2 false) (.cond (.tmp 15) .ret .skip)) (.seq (.region 3 g156_3 false) (.seq (.seq (.region 4 g156_4 false) (.cond (.tmp 31) .ret .skip)) (.region 5 g156_5 true))))) (.region 6 g156_6 false)))) fr H) (contR (trimmed ((den cx).loop ro 156 nt l156_0) H.length)) := den_loop_x l156_0
theorem b156 : Go.Proofs.Try.f156.body = some (.seq (.region 0 g156_0 false) (.block 0 (.loop l156_0))) := by kernel_rfl
theorem c156 {h : Hd} {ro : Nat} {H : Hp} (a0 a1 a2 : AV) : callB cx h ro 156 [a0, a1, a2] H = returned cx [] (ex cx h ro 156 48 (.seq (.region 0 g156_0 false) (.block 0 (.loop l156_0))) (((PT.nil.set 0 (drp a0)).set 1 (drp a1)).set 2 (drp a2)) H) := by
  have hf : cx.fns 156 = some Go.Proofs.Try.f156 := by kernel_rfl
  simp only [callB, hf, funced, b156, bodied]
  rfl
/-! function 51: colloquy/graph.Resolve -/
noncomputable def g51_0 : Array Oper := regAt Go.Proofs.Try.f51 0
@[go_sem] theorem x51_0 : XR 51 g51_0 [(some 3, (.box 61 (.tmp 1)), none), (some 4, (.alloc 61), none)] := XR.mk (nr (by kernel_rfl)) (nr (by kernel_rfl))
@[go_sem] theorem t51_0 : TK g51_0 := fun _ => nr (by kernel_rfl)
noncomputable def g51_1 : Array Oper := regAt Go.Proofs.Try.f51 1
@[go_sem] theorem x51_1 : XR 51 g51_1 [mvo 7 0, (some 8, (.load 61 (.tmp 3)), none), (some 9, (.call ⟨(.value (.func 119)), #[(.tmp 7), (.tmp 8)], #[56, 61]⟩), none)] := XR.mk (nr (by kernel_rfl)) (nr (by kernel_rfl))
@[go_sem] theorem t51_1 : TK g51_1 := fun _ => nr (by kernel_rfl)
noncomputable def g51_2 : Array Oper := regAt Go.Proofs.Try.f51 2
@[go_sem] theorem x51_2 : XR 51 g51_2 [(some 5, (.alloc 61), none), (none, (.store 61 (.tmp 5) (.tmp 10)), none)] := XR.mk (nr (by kernel_rfl)) (nr (by kernel_rfl))
@[go_sem] theorem t51_2 : TK g51_2 := fun _ => nr (by kernel_rfl)
noncomputable def g51_3 : Array Oper := regAt Go.Proofs.Try.f51 3
@[go_sem] theorem x51_3 : XR 51 g51_3 [(some 6, (.alloc 66), none), (none, (.store 66 (.tmp 6) (.tmp 11)), none)] := XR.mk (nr (by kernel_rfl)) (nr (by kernel_rfl))
@[go_sem] theorem t51_3 : TK g51_3 := fun _ => nr (by kernel_rfl)
noncomputable def g51_4 : Array Oper := regAt Go.Proofs.Try.f51 4
@[go_sem] theorem x51_4 : XR 51 g51_4 [(some 12, (.fieldAddr 66 (.tmp 6) 0), none), (some 13, (.load 3 (.tmp 12)), none), (some 14, (.binOp .neq 3 (.tmp 13) (.const (.int .i64 5)) 3), none)] := XR.mk (nr (by kernel_rfl)) (nr (by kernel_rfl))
@[go_sem] theorem t51_4 : TK g51_4 := fun _ => nr (by kernel_rfl)
noncomputable def g51_5 : Array Oper := regAt Go.Proofs.Try.f51 5
@[go_sem] theorem x51_5 : XR 51 g51_5 [(some 15, (.load 61 (.tmp 5)), none), (none, (.store 61 (.tmp 4) (.tmp 15)), none)] := XR.mk (nr (by kernel_rfl)) (nr (by kernel_rfl))
@[go_sem] theorem t51_5 : TK g51_5 := fun _ => nr (by kernel_rfl)
noncomputable def g51_6 : Array Oper := regAt Go.Proofs.Try.f51 6
@[go_sem] theorem x51_6 : XR 51 g51_6 [(some 16, (.build 61 #[(0, (.const (.int .i64 (-1))))]), none), (none, (.store 61 (.tmp 4) (.tmp 16)), none)] := XR.mk (nr (by kernel_rfl)) (nr (by kernel_rfl))
@[go_sem] theorem t51_6 : TK g51_6 := fun _ => nr (by kernel_rfl)
noncomputable def q51_0 : Code := (.seq (.region 2 g51_2 false) (.region 3 g51_3 false))
noncomputable def r51_0 : Code := (.block 1 (.seq (.region 4 g51_4 false) (.cond (.tmp 14) (.seq (.region 5 g51_5 false) .ret) .skip)))
theorem b51 : Go.Proofs.Try.f51.body = some (.seq (.region 0 g51_0 false) (.seq (.seq (.region 1 g51_1 false) (.block 0 (.rangeFunc (.tmp 9) #[10, 11] q51_0 r51_0))) (.seq (.region 6 g51_6 false) .ret))) := by kernel_rfl
theorem c51 {h : Hd} {ro : Nat} {H : Hp} (a0 a1 : AV) : callB cx h ro 51 [a0, a1] H = returned cx [(.cell 4 61)] (ex cx h ro 51 17 (.seq (.region 0 g51_0 false) (.seq (.seq (.region 1 g51_1 false) (.block 0 (.rangeFunc (.tmp 9) #[10, 11] q51_0 r51_0))) (.seq (.region 6 g51_6 false) .ret))) ((PT.nil.set 0 (drp a0)).set 1 (drp a1)) H) := by
  have hf : cx.fns 51 = some Go.Proofs.Try.f51 := by kernel_rfl
  simp only [callB, hf, funced, b51, bodied]
  rfl
end Go.Abs.Tab

/- Codes of this seat's functions, their regions step by step. (Printed by a program.) -/
set_option linter.unusedVariables false
namespace Go.Abs.Tab
/-! function 48: colloquy/graph.Check -/
noncomputable def g48_0 : Array Oper := regAt Go.Proofs.Try.f48 0
@[go_sem] theorem x48_0 : XR 48 g48_0 [(some 2, (.assign (.const (.int .i64 0))), none), (some 3, (.assign (.const (.int .i64 0))), none)] := XR.mk (nr (by kernel_rfl)) (nr (by kernel_rfl))
@[go_sem] theorem t48_0 : TK g48_0 := fun _ => nr (by kernel_rfl)
noncomputable def g48_1 : Array Oper := regAt Go.Proofs.Try.f48 1
@[go_sem] theorem x48_1 : XR 48 g48_1 [mvo 12 0, (some 13, (.call ⟨(.builtin .len), #[(.tmp 12)], #[56]⟩), none), (some 14, (.binOp .eql 3 (.tmp 13) (.const (.int .i64 0)) 3), none), (some 11, (.assign (.tmp 14)), none)] := XR.mk (nr (by kernel_rfl)) (nr (by kernel_rfl))
@[go_sem] theorem t48_1 : TK g48_1 := fun _ => nr (by kernel_rfl)
noncomputable def g48_2 : Array Oper := regAt Go.Proofs.Try.f48 2
@[go_sem] theorem x48_2 : XR 48 g48_2 [(some 2, (.assign (.const (.int .i64 (-1)))), none), (some 3, (.assign (.const (.int .i64 2))), none)] := XR.mk (nr (by kernel_rfl)) (nr (by kernel_rfl))
@[go_sem] theorem t48_2 : TK g48_2 := fun _ => nr (by kernel_rfl)
noncomputable def g48_3 : Array Oper := regAt Go.Proofs.Try.f48 3
@[go_sem] theorem x48_3 : XR 48 g48_3 [mvo 16 0, (some 17, (.call ⟨(.builtin .len), #[(.tmp 16)], #[56]⟩), none), (some 18, (.binOp .gtr 3 (.tmp 17) (.const (.int .i64 64)) 3), none), (some 15, (.assign (.tmp 18)), none)] := XR.mk (nr (by kernel_rfl)) (nr (by kernel_rfl))
@[go_sem] theorem t48_3 : TK g48_3 := fun _ => nr (by kernel_rfl)
noncomputable def g48_4 : Array Oper := regAt Go.Proofs.Try.f48 4
@[go_sem] theorem x48_4 : XR 48 g48_4 [(some 2, (.assign (.const (.int .i64 (-1)))), none), (some 3, (.assign (.const (.int .i64 4))), none)] := XR.mk (nr (by kernel_rfl)) (nr (by kernel_rfl))
@[go_sem] theorem t48_4 : TK g48_4 := fun _ => nr (by kernel_rfl)
noncomputable def g48_5 : Array Oper := regAt Go.Proofs.Try.f48 5
@[go_sem] theorem x48_5 : XR 48 g48_5 [mvo 19 0, (some 20, (.call ⟨(.builtin .len), #[(.tmp 19)], #[56]⟩), none), (some 21, (.move (.const (.int .i64 0))), none)] := XR.mk (nr (by kernel_rfl)) (nr (by kernel_rfl))
@[go_sem] theorem t48_5 : TK g48_5 := fun _ => nr (by kernel_rfl)
noncomputable def g48_6 : Array Oper := regAt Go.Proofs.Try.f48 6
@[go_sem] theorem x48_6 : XR 48 g48_6 [(some 22, (.binOp .lss 3 (.tmp 21) (.tmp 20) 3), none)] := XR.mk (nr (by kernel_rfl)) (nr (by kernel_rfl))
@[go_sem] theorem t48_6 : TK g48_6 := fun _ => nr (by kernel_rfl)
noncomputable def g48_7 : Array Oper := regAt Go.Proofs.Try.f48 7
@[go_sem] theorem x48_7 : XR 48 g48_7 [mvo 23 21, (some 24, (.indexAddr 56 (.tmp 19) (.tmp 21)), none), (some 25, (.load 66 (.tmp 24)), none), (some 5, (.alloc 66), none), (some 4, (.assign (.tmp 23)), none), (none, (.store 66 (.tmp 5) (.tmp 25)), none)] := XR.mk (nr (by kernel_rfl)) (nr (by kernel_rfl))
@[go_sem] theorem t48_7 : TK g48_7 := fun _ => nr (by kernel_rfl)
noncomputable def g48_8 : Array Oper := regAt Go.Proofs.Try.f48 8
@[go_sem] theorem x48_8 : XR 48 g48_8 [(some 26, (.load 66 (.tmp 5)), none), (some 27, (.call ⟨(.value (.func 116)), #[(.tmp 26)], #[66]⟩), none), (some 28, (.unOp .not 4 (.tmp 27)), none)] := XR.mk (nr (by kernel_rfl)) (nr (by kernel_rfl))
@[go_sem] theorem t48_8 : TK g48_8 := fun _ => nr (by kernel_rfl)
noncomputable def g48_9 : Array Oper := regAt Go.Proofs.Try.f48 9
@[go_sem] theorem x48_9 : XR 48 g48_9 [mvo 29 4, (some 2, (.assign (.tmp 29)), none), (some 3, (.assign (.const (.int .i64 7))), none)] := XR.mk (nr (by kernel_rfl)) (nr (by kernel_rfl))
@[go_sem] theorem t48_9 : TK g48_9 := fun _ => nr (by kernel_rfl)
noncomputable def g48_10 : Array Oper := regAt Go.Proofs.Try.f48 10
@[go_sem] theorem x48_10 : XR 48 g48_10 [(some 30, (.load 66 (.tmp 5)), none), (some 31, (.call ⟨(.value (.func 117)), #[(.tmp 30)], #[66]⟩), none), (some 32, (.call ⟨(.builtin .len), #[(.tmp 31)], #[64]⟩), none), (some 33, (.move (.const (.int .i64 0))), none)] := XR.mk (nr (by kernel_rfl)) (nr (by kernel_rfl))
@[go_sem] theorem t48_10 : TK g48_10 := fun _ => nr (by kernel_rfl)
noncomputable def g48_11 : Array Oper := regAt Go.Proofs.Try.f48 11
@[go_sem] theorem x48_11 : XR 48 g48_11 [(some 34, (.binOp .lss 3 (.tmp 33) (.tmp 32) 3), none)] := XR.mk (nr (by kernel_rfl)) (nr (by kernel_rfl))
@[go_sem] theorem t48_11 : TK g48_11 := fun _ => nr (by kernel_rfl)
noncomputable def g48_12 : Array Oper := regAt Go.Proofs.Try.f48 12
@[go_sem] theorem x48_12 : XR 48 g48_12 [(some 35, (.indexAddr 64 (.tmp 31) (.tmp 33)), none), (some 36, (.load 63 (.tmp 35)), none), (some 7, (.alloc 63), none), (none, (.store 63 (.tmp 7) (.tmp 36)), none)] := XR.mk (nr (by kernel_rfl)) (nr (by kernel_rfl))
@[go_sem] theorem t48_12 : TK g48_12 := fun _ => nr (by kernel_rfl)
noncomputable def g48_13 : Array Oper := regAt Go.Proofs.Try.f48 13
@[go_sem] theorem x48_13 : XR 48 g48_13 [(some 37, (.fieldAddr 63 (.tmp 7) 0), none), (some 38, (.load 3 (.tmp 37)), none), mvo 39 0, (some 40, (.call ⟨(.builtin .len), #[(.tmp 39)], #[56]⟩), none), (some 41, (.binOp .sub 3 (.tmp 40) (.const (.int .i64 1)) 3), none), (some 42, (.call ⟨(.value (.func 118)), #[(.tmp 38), (.tmp 41)], #[3, 3]⟩), none)] := XR.mk (nr (by kernel_rfl)) (nr (by kernel_rfl))
@[go_sem] theorem t48_13 : TK g48_13 := fun _ => nr (by kernel_rfl)
noncomputable def g48_14 : Array Oper := regAt Go.Proofs.Try.f48 14
@[go_sem] theorem x48_14 : XR 48 g48_14 [mvo 43 4, (some 2, (.assign (.tmp 43)), none), (some 3, (.assign (.const (.int .i64 8))), none)] := XR.mk (nr (by kernel_rfl)) (nr (by kernel_rfl))
@[go_sem] theorem t48_14 : TK g48_14 := fun _ => nr (by kernel_rfl)
noncomputable def g48_15 : Array Oper := regAt Go.Proofs.Try.f48 15
@[go_sem] theorem x48_15 : XR 48 g48_15 [(some 44, (.binOp .add 3 (.tmp 33) (.const (.int .i64 1)) 3), none), mvo 33 44] := XR.mk (nr (by kernel_rfl)) (nr (by kernel_rfl))
@[go_sem] theorem t48_15 : TK g48_15 := fun _ => nr (by kernel_rfl)
noncomputable def g48_16 : Array Oper := regAt Go.Proofs.Try.f48 16
@[go_sem] theorem x48_16 : XR 48 g48_16 [(some 45, (.binOp .add 3 (.tmp 21) (.const (.int .i64 1)) 3), none), mvo 21 45] := XR.mk (nr (by kernel_rfl)) (nr (by kernel_rfl))
@[go_sem] theorem t48_16 : TK g48_16 := fun _ => nr (by kernel_rfl)
noncomputable def g48_17 : Array Oper := regAt Go.Proofs.Try.f48 17
@[go_sem] theorem x48_17 : XR 48 g48_17 [mvo 46 3, (some 47, (.binOp .neq 27 (.tmp 46) (.const (.int .i64 0)) 27), none)] := XR.mk (nr (by kernel_rfl)) (nr (by kernel_rfl))
@[go_sem] theorem t48_17 : TK g48_17 := fun _ => nr (by kernel_rfl)
noncomputable def g48_18 : Array Oper := regAt Go.Proofs.Try.f48 18
@[go_sem] theorem x48_18 : XR 48 g48_18 [mvo 48 2, mvo 49 3, (some 2, (.assign (.tmp 48)), none), (some 3, (.assign (.tmp 49)), none)] := XR.mk (nr (by kernel_rfl)) (nr (by kernel_rfl))
@[go_sem] theorem t48_18 : TK g48_18 := fun _ => nr (by kernel_rfl)
noncomputable def g48_19 : Array Oper := regAt Go.Proofs.Try.f48 19
@[go_sem] theorem x48_19 : XR 48 g48_19 [mvo 50 0, (some 51, (.call ⟨(.builtin .len), #[(.tmp 50)], #[56]⟩), none), (some 52, (.move (.const (.int .i64 0))), none)] := XR.mk (nr (by kernel_rfl)) (nr (by kernel_rfl))
@[go_sem] theorem t48_19 : TK g48_19 := fun _ => nr (by kernel_rfl)
noncomputable def g48_20 : Array Oper := regAt Go.Proofs.Try.f48 20
@[go_sem] theorem x48_20 : XR 48 g48_20 [(some 53, (.binOp .lss 3 (.tmp 52) (.tmp 51) 3), none)] := XR.mk (nr (by kernel_rfl)) (nr (by kernel_rfl))
@[go_sem] theorem t48_20 : TK g48_20 := fun _ => nr (by kernel_rfl)
noncomputable def g48_21 : Array Oper := regAt Go.Proofs.Try.f48 21
@[go_sem] theorem x48_21 : XR 48 g48_21 [mvo 54 52, (some 8, (.assign (.tmp 54)), none)] := XR.mk (nr (by kernel_rfl)) (nr (by kernel_rfl))
@[go_sem] theorem t48_21 : TK g48_21 := fun _ => nr (by kernel_rfl)
noncomputable def g48_22 : Array Oper := regAt Go.Proofs.Try.f48 22
@[go_sem] theorem x48_22 : XR 48 g48_22 [mvo 55 0, mvo 56 8, (some 57, (.build 61 #[(0, (.tmp 56))]), none), (some 58, (.call ⟨(.value (.func 119)), #[(.tmp 55), (.tmp 57)], #[56, 61]⟩), none)] := XR.mk (nr (by kernel_rfl)) (nr (by kernel_rfl))
@[go_sem] theorem t48_22 : TK g48_22 := fun _ => nr (by kernel_rfl)
noncomputable def g48_23 : Array Oper := regAt Go.Proofs.Try.f48 23
@[go_sem] theorem x48_23 : XR 48 g48_23 [(some 10, (.alloc 66), none), (none, (.store 66 (.tmp 10) (.tmp 60)), none)] := XR.mk (nr (by kernel_rfl)) (nr (by kernel_rfl))
@[go_sem] theorem t48_23 : TK g48_23 := fun _ => nr (by kernel_rfl)
noncomputable def g48_24 : Array Oper := regAt Go.Proofs.Try.f48 24
@[go_sem] theorem x48_24 : XR 48 g48_24 [(some 61, (.fieldAddr 66 (.tmp 10) 0), none), (some 62, (.load 3 (.tmp 61)), none), (some 63, (.binOp .neq 3 (.tmp 62) (.const (.int .i64 5)) 3), none)] := XR.mk (nr (by kernel_rfl)) (nr (by kernel_rfl))
@[go_sem] theorem t48_24 : TK g48_24 := fun _ => nr (by kernel_rfl)
noncomputable def g48_25 : Array Oper := regAt Go.Proofs.Try.f48 25
@[go_sem] theorem x48_25 : XR 48 g48_25 [mvo 64 8, (some 2, (.assign (.tmp 64)), none), (some 3, (.assign (.const (.int .i64 9))), none)] := XR.mk (nr (by kernel_rfl)) (nr (by kernel_rfl))
@[go_sem] theorem t48_25 : TK g48_25 := fun _ => nr (by kernel_rfl)
noncomputable def g48_26 : Array Oper := regAt Go.Proofs.Try.f48 26
@[go_sem] theorem x48_26 : XR 48 g48_26 [(some 65, (.binOp .add 3 (.tmp 52) (.const (.int .i64 1)) 3), none), mvo 52 65] := XR.mk (nr (by kernel_rfl)) (nr (by kernel_rfl))
@[go_sem] theorem t48_26 : TK g48_26 := fun _ => nr (by kernel_rfl)
noncomputable def g48_27 : Array Oper := regAt Go.Proofs.Try.f48 27
@[go_sem] theorem x48_27 : XR 48 g48_27 [(some 2, (.assign (.const (.int .i64 (-1)))), none), (some 3, (.assign (.const (.int .i64 0))), none)] := XR.mk (nr (by kernel_rfl)) (nr (by kernel_rfl))
@[go_sem] theorem t48_27 : TK g48_27 := fun _ => nr (by kernel_rfl)
noncomputable def l48_0 : Code := (.seq (.region 11 g48_11 false) (.seq (.cond (.tmp 34) .skip (.exit 3)) (.seq (.block 4 (.seq (.region 12 g48_12 false) (.seq (.seq (.region 13 g48_13 false) (.cond (.tmp 42) (.exit 4) .skip)) (.seq (.region 14 g48_14 false) (.exit 1))))) (.region 15 g48_15 false))))
theorem dl48_0 {ro nt : Nat} {fr : PT} {H : Hp} : (den cx).loop ro 48 nt l48_0 fr H = xbind (ex cx (den cx) ro 48 nt (.seq (.region 11 g48_11 false) (.seq (.cond (.tmp 34) .skip (.exit 3)) (.seq (.block 4 (.seq (.region 12 g48_12 false) (.seq (.seq (.region 13 g48_13 false) (.cond (.tmp 42) (.exit 4) .skip)) (.seq (.region 14 g48_14 false) (.exit 1))))) (.region 15 g48_15 false)))) fr H) (contR (trimmed ((den cx).loop ro 48 nt l48_0) H.length)) := den_loop_x l48_0
noncomputable def l48_1 : Code := (.seq (.region 6 g48_6 false) (.seq (.cond (.tmp 22) .skip (.exit 1)) (.seq (.block 2 (.seq (.region 7 g48_7 false) (.seq (.seq (.region 8 g48_8 false) (.cond (.tmp 28) (.seq (.region 9 g48_9 false) .ret) .skip)) (.seq (.region 10 g48_10 false) (.block 3 (.loop l48_0)))))) (.region 16 g48_16 false))))
theorem dl48_1 {ro nt : Nat} {fr : PT} {H : Hp} : (den cx).loop ro 48 nt l48_1 fr H = xbind (ex cx (den cx) ro 48 nt (.seq (.region 6 g48_6 false) (.seq (.cond (.tmp 22) .skip (.exit 1)) (.seq (.block 2 (.seq (.region 7 g48_7 false) (.seq (.seq (.region 8 g48_8 false) (.cond (.tmp 28) (.seq (.region 9 g48_9 false) .ret) .skip)) (.seq (.region 10 g48_10 false) (.block 3 (.loop l48_0)))))) (.region 16 g48_16 false)))) fr H) (contR (trimmed ((den cx).loop ro 48 nt l48_1) H.length)) := den_loop_x l48_1
noncomputable def q48_2 : Code := (.region 23 g48_23 false)
noncomputable def r48_2 : Code := (.block 8 (.seq (.region 24 g48_24 false) (.cond (.tmp 63) (.exit 6) .skip)))
noncomputable def l48_3 : Code := (.seq (.region 20 g48_20 false) (.seq (.cond (.tmp 53) .skip (.exit 5)) (.seq (.block 6 (.seq (.region 21 g48_21 false) (.seq (.seq (.region 22 g48_22 false) (.block 7 (.rangeFunc (.tmp 58) #[59, 60] q48_2 r48_2))) (.seq (.region 25 g48_25 false) .ret)))) (.region 26 g48_26 false))))
theorem dl48_3 {ro nt : Nat} {fr : PT} {H : Hp} : (den cx).loop ro 48 nt l48_3 fr H = xbind (ex cx (den cx) ro 48 nt (.seq (.region 20 g48_20 false) (.seq (.cond (.tmp 53) .skip (.exit 5)) (.seq (.block 6 (.seq (.region 21 g48_21 false) (.seq (.seq (.region 22 g48_22 false) (.block 7 (.rangeFunc (.tmp 58) #[59, 60] q48_2 r48_2))) (.seq (.region 25 g48_25 false) .ret)))) (.region 26 g48_26 false)))) fr H) (contR (trimmed ((den cx).loop ro 48 nt l48_3) H.length)) := den_loop_x l48_3
theorem b48 : Go.Proofs.Try.f48.body = some (.seq (.region 0 g48_0 false) (.scope (.seq (.block 0 (.seq (.region 1 g48_1 false) (.cond (.tmp 11) (.seq (.region 2 g48_2 false) .ret) (.seq (.region 3 g48_3 false) (.cond (.tmp 15) (.seq (.region 4 g48_4 false) .ret) .skip))))) (.seq (.label 0) (.seq (.seq (.region 5 g48_5 false) (.block 1 (.loop l48_1))) (.seq (.seq (.region 17 g48_17 false) (.cond (.tmp 47) (.seq (.region 18 g48_18 false) .ret) .skip)) (.seq (.label 1) (.seq (.seq (.region 19 g48_19 false) (.block 5 (.loop l48_3))) (.seq (.region 27 g48_27 false) .ret))))))))) := by kernel_rfl
theorem c48 {h : Hd} {ro : Nat} {H : Hp} (a0 : AV) : callB cx h ro 48 [a0] H = returned cx [(.tmp 2), (.tmp 3)] (ex cx h ro 48 66 (.seq (.region 0 g48_0 false) (.scope (.seq (.block 0 (.seq (.region 1 g48_1 false) (.cond (.tmp 11) (.seq (.region 2 g48_2 false) .ret) (.seq (.region 3 g48_3 false) (.cond (.tmp 15) (.seq (.region 4 g48_4 false) .ret) .skip))))) (.seq (.label 0) (.seq (.seq (.region 5 g48_5 false) (.block 1 (.loop l48_1))) (.seq (.seq (.region 17 g48_17 false) (.cond (.tmp 47) (.seq (.region 18 g48_18 false) .ret) .skip)) (.seq (.label 1) (.seq (.seq (.region 19 g48_19 false) (.block 5 (.loop l48_3))) (.seq (.region 27 g48_27 false) .ret))))))))) (PT.nil.set 0 (drp a0)) H) := by
  have hf : cx.fns 48 = some Go.Proofs.Try.f48 := by kernel_rfl
  simp only [callB, hf, funced, b48, bodied]
  rfl
end Go.Abs.Tab

/- Codes of this seat's functions, their regions step by step. (Printed by a program.) -/
set_option linter.unusedVariables false
namespace Go.Abs.Tab
/-! function 54: colloquy/dual.Table -/
noncomputable def g54_0 : Array Oper := regAt Go.Proofs.Try.f54 0
@[go_sem] theorem x54_0 : XR 54 g54_0 [(some 1, (.box 56 (.tmp 0)), none), (some 2, (.assign (.const (.slice none 0 0))), none)] := XR.mk (nr (by kernel_rfl)) (nr (by kernel_rfl))
@[go_sem] theorem t54_0 : TK g54_0 := fun _ => nr (by kernel_rfl)
noncomputable def g54_1 : Array Oper := regAt Go.Proofs.Try.f54 1
@[go_sem] theorem x54_1 : XR 54 g54_1 [(some 12, (.load 56 (.tmp 1)), none), (some 13, (.call ⟨(.value (.func 48)), #[(.tmp 12)], #[56]⟩), none), mvo 11 13, (some 14, (.extract (.tmp 11) 0), none), (some 15, (.extract (.tmp 11) 1), none), (some 3, (.assign (.tmp 14)), none), (some 4, (.assign (.tmp 15)), none)] := XR.mk (nr (by kernel_rfl)) (nr (by kernel_rfl))
@[go_sem] theorem t54_1 : TK g54_1 := fun _ => nr (by kernel_rfl)
noncomputable def g54_2 : Array Oper := regAt Go.Proofs.Try.f54 2
@[go_sem] theorem x54_2 : XR 54 g54_2 [mvo 16 4, (some 17, (.binOp .neq 27 (.tmp 16) (.const (.int .i64 0)) 27), none)] := XR.mk (nr (by kernel_rfl)) (nr (by kernel_rfl))
@[go_sem] theorem t54_2 : TK g54_2 := fun _ => nr (by kernel_rfl)
noncomputable def g54_3 : Array Oper := regAt Go.Proofs.Try.f54 3
@[go_sem] theorem x54_3 : XR 54 g54_3 [(some 2, (.assign (.const (.slice none 0 0))), none)] := XR.mk (nr (by kernel_rfl)) (nr (by kernel_rfl))
@[go_sem] theorem t54_3 : TK g54_3 := fun _ => nr (by kernel_rfl)
noncomputable def g54_4 : Array Oper := regAt Go.Proofs.Try.f54 4
@[go_sem] theorem x54_4 : XR 54 g54_4 [(some 5, (.alloc 56), none)] := XR.mk (nr (by kernel_rfl)) (nr (by kernel_rfl))
@[go_sem] theorem t54_4 : TK g54_4 := fun _ => nr (by kernel_rfl)
noncomputable def g54_5 : Array Oper := regAt Go.Proofs.Try.f54 5
@[go_sem] theorem x54_5 : XR 54 g54_5 [(some 18, (.load 56 (.tmp 1)), none), (some 19, (.call ⟨(.builtin .len), #[(.tmp 18)], #[56]⟩), none), (some 20, (.call ⟨(.value (.func 122)), #[(.tmp 19)], #[3]⟩), none)] := XR.mk (nr (by kernel_rfl)) (nr (by kernel_rfl))
@[go_sem] theorem t54_5 : TK g54_5 := fun _ => nr (by kernel_rfl)
noncomputable def g54_6 : Array Oper := regAt Go.Proofs.Try.f54 6
@[go_sem] theorem x54_6 : XR 54 g54_6 [(some 6, (.alloc 209), none), (none, (.store 209 (.tmp 6) (.tmp 21)), none)] := XR.mk (nr (by kernel_rfl)) (nr (by kernel_rfl))
@[go_sem] theorem t54_6 : TK g54_6 := fun _ => nr (by kernel_rfl)
noncomputable def g54_7 : Array Oper := regAt Go.Proofs.Try.f54 7
@[go_sem] theorem x54_7 : XR 54 g54_7 [(some 7, (.alloc 3), none), (none, (.store 3 (.tmp 7) (.tmp 22)), none)] := XR.mk (nr (by kernel_rfl)) (nr (by kernel_rfl))
@[go_sem] theorem t54_7 : TK g54_7 := fun _ => nr (by kernel_rfl)
noncomputable def g54_8 : Array Oper := regAt Go.Proofs.Try.f54 8
@[go_sem] theorem x54_8 : XR 54 g54_8 [(some 23, (.makeFunc (.func 123) #[] #[(.tmp 7)]), none), (some 8, (.assign (.tmp 23)), none)] := XR.mk (nr (by kernel_rfl)) (nr (by kernel_rfl))
@[go_sem] theorem t54_8 : TK g54_8 := fun _ => nr (by kernel_rfl)
noncomputable def g54_9 : Array Oper := regAt Go.Proofs.Try.f54 9
@[go_sem] theorem x54_9 : XR 54 g54_9 [(some 24, (.load 56 (.tmp 1)), none), (some 25, (.call ⟨(.builtin .len), #[(.tmp 24)], #[56]⟩), none), (some 26, (.move (.const (.int .i64 0))), none)] := XR.mk (nr (by kernel_rfl)) (nr (by kernel_rfl))
@[go_sem] theorem t54_9 : TK g54_9 := fun _ => nr (by kernel_rfl)
noncomputable def g54_10 : Array Oper := regAt Go.Proofs.Try.f54 10
@[go_sem] theorem x54_10 : XR 54 g54_10 [(some 27, (.binOp .lss 3 (.tmp 26) (.tmp 25) 3), none)] := XR.mk (nr (by kernel_rfl)) (nr (by kernel_rfl))
@[go_sem] theorem t54_10 : TK g54_10 := fun _ => nr (by kernel_rfl)
noncomputable def g54_11 : Array Oper := regAt Go.Proofs.Try.f54 11
@[go_sem] theorem x54_11 : XR 54 g54_11 [(some 28, (.indexAddr 56 (.tmp 24) (.tmp 26)), none), (some 29, (.load 66 (.tmp 28)), none), (some 10, (.alloc 66), none), (none, (.store 66 (.tmp 10) (.tmp 29)), none)] := XR.mk (nr (by kernel_rfl)) (nr (by kernel_rfl))
@[go_sem] theorem t54_11 : TK g54_11 := fun _ => nr (by kernel_rfl)
noncomputable def g54_12 : Array Oper := regAt Go.Proofs.Try.f54 12
@[go_sem] theorem x54_12 : XUR 54 g54_12 [(0, 0, [], (some 30, (.fieldAddr 66 (.tmp 10) 0), none)), (1, 0, [], (some 31, (.load 3 (.tmp 30)), none)), (2, 0, [], (some 32, (.indexAddr 209 (.tmp 6) (.tmp 31)), none)), (3, 0, [], (some 33, (.load 3 (.tmp 32)), none)), (4, 0, [0, 1, 2, 3], mvo 34 8), (5, 0, [0, 1, 2, 3, 4], (some 35, (.fieldAddr 66 (.tmp 10) 4), none)), (6, 0, [0, 1, 2, 3, 4], (some 36, (.load 64 (.tmp 35)), none)), (7, 0, [0, 1, 2, 3], (some 37, (.call ⟨(.value (.tmp 34)), #[(.tmp 36)], #[64]⟩), none)), (8, 0, [4, 7], (some 38, (.fieldAddr 66 (.tmp 10) 0), none)), (9, 0, [], (none, (.store 3 (.tmp 38) (.tmp 33)), none)), (10, 0, [], (some 39, (.fieldAddr 66 (.tmp 10) 4), none)), (11, 0, [], (none, (.store 64 (.tmp 39) (.tmp 37)), none))] 0 := XUR.mk (nr (by kernel_rfl)) (nr (by kernel_rfl)) (nr (by kernel_rfl)) (nr (by kernel_rfl)) (nr (by kernel_rfl))
@[go_sem] theorem t54_12 : TK g54_12 := fun _ => nr (by kernel_rfl)
noncomputable def g54_13 : Array Oper := regAt Go.Proofs.Try.f54 13
@[go_sem] theorem x54_13 : XR 54 g54_13 [(some 40, (.load 56 (.tmp 5)), none), (some 41, (.load 66 (.tmp 10)), none), (some 42, (.buildSlice 56 1 #[(0, (.tmp 41))]), none), (some 43, (.call ⟨(.builtin .append), #[(.tmp 40), (.tmp 42)], #[56, 56]⟩), none), (none, (.store 56 (.tmp 5) (.tmp 43)), none)] := XR.mk (nr (by kernel_rfl)) (nr (by kernel_rfl))
@[go_sem] theorem t54_13_40 : takes g54_13 40 = true := nr (by kernel_rfl)
@[go_sem] theorem t54_13_41 : takes g54_13 41 = false := nr (by kernel_rfl)
@[go_sem] theorem t54_13_42 : takes g54_13 42 = false := nr (by kernel_rfl)
@[go_sem] theorem t54_13_43 : takes g54_13 43 = false := nr (by kernel_rfl)
noncomputable def g54_14 : Array Oper := regAt Go.Proofs.Try.f54 14
@[go_sem] theorem x54_14 : XR 54 g54_14 [(some 44, (.binOp .add 3 (.tmp 26) (.const (.int .i64 1)) 3), none), mvo 26 44] := XR.mk (nr (by kernel_rfl)) (nr (by kernel_rfl))
@[go_sem] theorem t54_14 : TK g54_14 := fun _ => nr (by kernel_rfl)
noncomputable def g54_15 : Array Oper := regAt Go.Proofs.Try.f54 15
@[go_sem] theorem x54_15 : XR 54 g54_15 [(some 45, (.load 56 (.tmp 5)), none), (some 2, (.assign (.tmp 45)), none)] := XR.mk (nr (by kernel_rfl)) (nr (by kernel_rfl))
@[go_sem] theorem t54_15 : TK g54_15 := fun _ => nr (by kernel_rfl)
noncomputable def l54_0 : Code := (.seq (.region 10 g54_10 false) (.seq (.cond (.tmp 27) .skip (.exit 2)) (.seq (.block 3 (.seq (.region 11 g54_11 false) (.seq (.region 12 g54_12 true) (.region 13 g54_13 false)))) (.region 14 g54_14 false))))
theorem dl54_0 {ro nt : Nat} {fr : PT} {H : Hp} : (den cx).loop ro 54 nt l54_0 fr H = xbind (ex cx (den cx) ro 54 nt (.seq (.region 10 g54_10 false) (.seq (.cond (.tmp 27) .skip (.exit 2)) (.seq (.block 3 (.seq (.region 11 g54_11 false) (.seq (.region 12 g54_12 true) (.region 13 g54_13 false)))) (.region 14 g54_14 false)))) fr H) (contR (trimmed ((den cx).loop ro 54 nt l54_0) H.length)) := den_loop_x l54_0
noncomputable def q54_1 : Code := (.seq (.region 6 g54_6 false) (.region 7 g54_7 false))
noncomputable def r54_1 : Code := (.block 1 (.seq (.region 8 g54_8 false) (.seq (.region 9 g54_9 false) (.block 2 (.loop l54_0)))))
theorem b54 : Go.Proofs.Try.f54.body = some (.seq (.region 0 g54_0 false) (.seq (.seq (.region 1 g54_1 false) (.seq (.region 2 g54_2 false) (.cond (.tmp 17) (.seq (.region 3 g54_3 false) .ret) .skip))) (.seq (.region 4 g54_4 false) (.seq (.seq (.region 5 g54_5 false) (.block 0 (.rangeFunc (.tmp 20) #[21, 22] q54_1 r54_1))) (.seq (.region 15 g54_15 false) .ret))))) := by kernel_rfl
theorem c54 {h : Hd} {ro : Nat} {H : Hp} (a0 : AV) : callB cx h ro 54 [a0] H = returned cx [(.tmp 2)] (ex cx h ro 54 46 (.seq (.region 0 g54_0 false) (.seq (.seq (.region 1 g54_1 false) (.seq (.region 2 g54_2 false) (.cond (.tmp 17) (.seq (.region 3 g54_3 false) .ret) .skip))) (.seq (.region 4 g54_4 false) (.seq (.seq (.region 5 g54_5 false) (.block 0 (.rangeFunc (.tmp 20) #[21, 22] q54_1 r54_1))) (.seq (.region 15 g54_15 false) .ret))))) (PT.nil.set 0 (drp a0)) H) := by
  have hf : cx.fns 54 = some Go.Proofs.Try.f54 := by kernel_rfl
  simp only [callB, hf, funced, b54, bodied]
  rfl
end Go.Abs.Tab

/- Codes of this seat's functions, their regions step by step. (Printed by a program.) -/
set_option linter.unusedVariables false
namespace Go.Abs.Tab
end Go.Abs.Tab

/- Codes of this seat's functions, their regions step by step. (Printed by a program.) -/
set_option linter.unusedVariables false
namespace Go.Abs.Tab
/-! function 125: (colloquy/order.types).acts -/
noncomputable def g125_0 : Array Oper := regAt Go.Proofs.Try.f125 0
@[go_sem] theorem x125_0 : XR 125 g125_0 [(some 4, (.assign (.const (.bool false))), none)] := XR.mk (nr (by kernel_rfl)) (nr (by kernel_rfl))
@[go_sem] theorem t125_0 : TK g125_0 := fun _ => nr (by kernel_rfl)
noncomputable def g125_1 : Array Oper := regAt Go.Proofs.Try.f125 1
@[go_sem] theorem x125_1 : XR 125 g125_1 [mvo 5 1, (some 6, (.binOp .geq 3 (.tmp 5) (.const (.int .i64 0)) 3), none), mvo 7 6, (some 8, (.move (.tmp 1)), some (7, true)), (some 9, (.move (.tmp 0)), some (7, true)), (some 10, (.call ⟨(.builtin .len), #[(.tmp 9)], #[212]⟩), some (7, true)), (some 11, (.binOp .lss 3 (.tmp 8) (.tmp 10) 3), some (7, true)), (some 12, (.pick (.tmp 7) (.tmp 11) (.const (.bool false))), none), mvo 13 12, (some 14, (.move (.tmp 0)), some (13, true)), (some 15, (.move (.tmp 1)), some (13, true)), (some 16, (.indexAddr 212 (.tmp 14) (.tmp 15)), some (13, true)), (some 17, (.fieldAddr 66 (.tmp 16) 0), some (13, true)), (some 18, (.load 3 (.tmp 17)), some (13, true)), (some 19, (.binOp .geq 3 (.tmp 18) (.const (.int .i64 1)) 3), some (13, true)), (some 20, (.pick (.tmp 13) (.tmp 19) (.const (.bool false))), none), mvo 21 20, (some 22, (.move (.tmp 0)), some (21, true)), (some 23, (.move (.tmp 1)), some (21, true)), (some 24, (.indexAddr 212 (.tmp 22) (.tmp 23)), some (21, true)), (some 25, (.fieldAddr 66 (.tmp 24) 0), some (21, true)), (some 26, (.load 3 (.tmp 25)), some (21, true)), (some 27, (.binOp .leq 3 (.tmp 26) (.const (.int .i64 4)) 3), some (21, true)), (some 28, (.pick (.tmp 21) (.tmp 27) (.const (.bool false))), none), (some 4, (.assign (.tmp 28)), none)] := XR.mk (nr (by kernel_rfl)) (nr (by kernel_rfl))
@[go_sem] theorem t125_1 : TK g125_1 := fun _ => nr (by kernel_rfl)
theorem b125 : Go.Proofs.Try.f125.body = some (.seq (.region 0 g125_0 false) (.seq (.region 1 g125_1 false) .ret)) := by kernel_rfl
theorem c125 {h : Hd} {ro : Nat} {H : Hp} (a0 a1 : AV) : callB cx h ro 125 [a0, a1] H = returned cx [(.tmp 4)] (ex cx h ro 125 29 (.seq (.region 0 g125_0 false) (.seq (.region 1 g125_1 false) .ret)) ((PT.nil.set 0 (drp a0)).set 1 (drp a1)) H) := by
  have hf : cx.fns 125 = some Go.Proofs.Try.f125 := by kernel_rfl
  simp only [callB, hf, funced, b125, bodied]
  rfl
/-! function 127: (colloquy/order.types).edges -/
noncomputable def g127_0 : Array Oper := regAt Go.Proofs.Try.f127 0
@[go_sem] theorem x127_0 : XR 127 g127_0 [(some 3, (.box 212 (.tmp 0)), none), (some 4, (.box 3 (.tmp 1)), none), (some 5, (.box 64 (.tmp 2)), none), (some 6, (.assign (.const .nilFunc)), none)] := XR.mk (nr (by kernel_rfl)) (nr (by kernel_rfl))
@[go_sem] theorem t127_0 : TK g127_0 := fun _ => nr (by kernel_rfl)
noncomputable def g127_1 : Array Oper := regAt Go.Proofs.Try.f127 1
@[go_sem] theorem x127_1 : XR 127 g127_1 [(some 7, (.makeFunc (.func 160) #[] #[(.tmp 5), (.tmp 3), (.tmp 4)]), none), (some 6, (.assign (.tmp 7)), none)] := XR.mk (nr (by kernel_rfl)) (nr (by kernel_rfl))
@[go_sem] theorem t127_1 : TK g127_1 := fun _ => nr (by kernel_rfl)
theorem b127 : Go.Proofs.Try.f127.body = some (.seq (.region 0 g127_0 false) (.seq (.region 1 g127_1 false) .ret)) := by kernel_rfl
theorem c127 {h : Hd} {ro : Nat} {H : Hp} (a0 a1 a2 : AV) : callB cx h ro 127 [a0, a1, a2] H = returned cx [(.tmp 6)] (ex cx h ro 127 8 (.seq (.region 0 g127_0 false) (.seq (.region 1 g127_1 false) .ret)) (((PT.nil.set 0 (drp a0)).set 1 (drp a1)).set 2 (drp a2)) H) := by
  have hf : cx.fns 127 = some Go.Proofs.Try.f127 := by kernel_rfl
  simp only [callB, hf, funced, b127, bodied]
  rfl
/-! function 160: (colloquy/order.types).edges$1 -/
noncomputable def g160_0 : Array Oper := regAt Go.Proofs.Try.f160 0
@[go_sem] theorem x160_0 : XR 160 g160_0 [(some 8, (.load 64 (.tmp 1)), none), (some 9, (.call ⟨(.builtin .len), #[(.tmp 8)], #[64]⟩), none), (some 10, (.move (.const (.int .i64 0))), none)] := XR.mk (nr (by kernel_rfl)) (nr (by kernel_rfl))
@[go_sem] theorem t160_0 : TK g160_0 := fun _ => nr (by kernel_rfl)
noncomputable def g160_1 : Array Oper := regAt Go.Proofs.Try.f160 1
@[go_sem] theorem x160_1 : XR 160 g160_1 [(some 11, (.binOp .lss 3 (.tmp 10) (.tmp 9) 3), none)] := XR.mk (nr (by kernel_rfl)) (nr (by kernel_rfl))
@[go_sem] theorem t160_1 : TK g160_1 := fun _ => nr (by kernel_rfl)
noncomputable def g160_2 : Array Oper := regAt Go.Proofs.Try.f160 2
@[go_sem] theorem x160_2 : XR 160 g160_2 [(some 12, (.indexAddr 64 (.tmp 8) (.tmp 10)), none), (some 13, (.load 63 (.tmp 12)), none), (some 6, (.alloc 63), none), (none, (.store 63 (.tmp 6) (.tmp 13)), none)] := XR.mk (nr (by kernel_rfl)) (nr (by kernel_rfl))
@[go_sem] theorem t160_2 : TK g160_2 := fun _ => nr (by kernel_rfl)
noncomputable def g160_3 : Array Oper := regAt Go.Proofs.Try.f160 3
@[go_sem] theorem x160_3 : XR 160 g160_3 [(some 14, (.load 212 (.tmp 2)), none), (some 15, (.fieldAddr 63 (.tmp 6) 0), none), (some 16, (.load 3 (.tmp 15)), none), (some 17, (.fieldAddr 63 (.tmp 6) 1), none), (some 18, (.load 3 (.tmp 17)), none), (some 19, (.build 61 #[(0, (.tmp 16)), (1, (.tmp 18))]), none), (some 20, (.call ⟨(.value (.func 51)), #[(.tmp 14), (.tmp 19)], #[56, 61]⟩), none), (some 7, (.alloc 61), none), (none, (.store 61 (.tmp 7) (.tmp 20)), none)] := XR.mk (nr (by kernel_rfl)) (nr (by kernel_rfl))
@[go_sem] theorem t160_3 : TK g160_3 := fun _ => nr (by kernel_rfl)
noncomputable def g160_4 : Array Oper := regAt Go.Proofs.Try.f160 4
@[go_sem] theorem x160_4 : XUR 160 g160_4 [(0, 0, [], (some 21, (.load 212 (.tmp 2)), none)), (1, 0, [0], (some 22, (.fieldAddr 61 (.tmp 7) 0), none)), (2, 0, [0], (some 23, (.load 3 (.tmp 22)), none)), (3, 0, [], (some 24, (.call ⟨(.value (.func 125)), #[(.tmp 21), (.tmp 23)], #[212, 3]⟩), none)), (4, 0, [], mvo 25 24), (5, 0, [], (some 26, (.move (.tmp 0)), some (25, true))), (6, 0, [5], (some 27, (.fieldAddr 61 (.tmp 7) 0), some (25, true))), (7, 0, [5], (some 28, (.load 3 (.tmp 27)), some (25, true))), (8, 0, [5, 6, 7], (some 29, (.load 212 (.tmp 2)), some (25, true))), (9, 0, [5, 6, 7, 8], (some 30, (.fieldAddr 61 (.tmp 7) 0), some (25, true))), (10, 0, [5, 6, 7, 8], (some 31, (.load 3 (.tmp 30)), some (25, true))), (11, 0, [5, 6, 7], (some 32, (.indexAddr 212 (.tmp 29) (.tmp 31)), some (25, true))), (12, 0, [5, 6, 7], (some 33, (.fieldAddr 66 (.tmp 32) 1), some (25, true))), (13, 0, [5, 6, 7], (some 34, (.load 3 (.tmp 33)), some (25, true))), (14, 0, [5, 6, 7, 8, 9, 10, 11, 12, 13], (some 35, (.fieldAddr 61 (.tmp 7) 1), some (25, true))), (15, 0, [5, 6, 7, 8, 9, 10, 11, 12, 13], (some 36, (.load 3 (.tmp 35)), some (25, true))), (16, 0, [5, 6, 7], (some 37, (.binOp .add 3 (.tmp 34) (.tmp 36) 3), some (25, true))), (17, 0, [5, 6, 7, 8, 9, 10, 11, 12, 13, 14, 15, 16], (some 38, (.load 212 (.tmp 2)), some (25, true))), (18, 0, [5, 6, 7, 8, 9, 10, 11, 12, 13, 14, 15, 16, 17], (some 39, (.load 3 (.tmp 3)), some (25, true))), (19, 0, [5, 6, 7, 8, 9, 10, 11, 12, 13, 14, 15, 16], (some 40, (.indexAddr 212 (.tmp 38) (.tmp 39)), some (25, true))), (20, 0, [5, 6, 7, 8, 9, 10, 11, 12, 13, 14, 15, 16], (some 41, (.fieldAddr 66 (.tmp 40) 1), some (25, true))), (21, 0, [5, 6, 7, 8, 9, 10, 11, 12, 13, 14, 15, 16], (some 42, (.load 3 (.tmp 41)), some (25, true))), (22, 0, [5, 6, 7], (some 43, (.binOp .sub 3 (.tmp 37) (.tmp 42) 3), some (25, true))), (23, 0, [], (some 44, (.call ⟨(.value (.tmp 26)), #[(.tmp 28), (.tmp 43)], #[3, 3]⟩), some (25, true))), (24, 0, [], (some 45, (.unOp .not 4 (.tmp 44)), some (25, true))), (25, 0, [], (some 46, (.pick (.tmp 25) (.tmp 45) (.const (.bool false))), none))] 0 := XUR.mk (nr (by kernel_rfl)) (nr (by kernel_rfl)) (nr (by kernel_rfl)) (nr (by kernel_rfl)) (nr (by kernel_rfl))
@[go_sem] theorem t160_4 : TK g160_4 := fun _ => nr (by kernel_rfl)
noncomputable def g160_5 : Array Oper := regAt Go.Proofs.Try.f160 5
@[go_sem] theorem x160_5 : XR 160 g160_5 [(some 47, (.binOp .add 3 (.tmp 10) (.const (.int .i64 1)) 3), none), mvo 10 47] := XR.mk (nr (by kernel_rfl)) (nr (by kernel_rfl))
@[go_sem] theorem t160_5 : TK g160_5 := fun _ => nr (by kernel_rfl)
noncomputable def l160_0 : Code := (.seq (.region 1 g160_1 false) (.seq (.cond (.tmp 11) .skip (.exit 0)) (.seq (.block 1 (.seq (.region 2 g160_2 false) (.seq (.region 3 g160_3 false) (.seq (.region 4 g160_4 true) (.cond (.tmp 46) .ret .skip))))) (.region 5 g160_5 false))))
theorem dl160_0 {ro nt : Nat} {fr : PT} {H : Hp} : (den cx).loop ro 160 nt l160_0 fr H = xbind (ex cx (den cx) ro 160 nt (.seq (.region 1 g160_1 false) (.seq (.cond (.tmp 11) .skip (.exit 0)) (.seq (.block 1 (.seq (.region 2 g160_2 false) (.seq (.region 3 g160_3 false) (.seq (.region 4 g160_4 true) (.cond (.tmp 46) .ret .skip))))) (.region 5 g160_5 false)))) fr H) (contR (trimmed ((den cx).loop ro 160 nt l160_0) H.length)) := den_loop_x l160_0
theorem b160 : Go.Proofs.Try.f160.body = some (.seq (.region 0 g160_0 false) (.block 0 (.loop l160_0))) := by kernel_rfl
theorem c160 {h : Hd} {ro : Nat} {H : Hp} (a0 a1 a2 a3 : AV) : callB cx h ro 160 [a0, a1, a2, a3] H = returned cx [] (ex cx h ro 160 48 (.seq (.region 0 g160_0 false) (.block 0 (.loop l160_0))) ((((PT.nil.set 0 (drp a0)).set 1 (drp a1)).set 2 (drp a2)).set 3 (drp a3)) H) := by
  have hf : cx.fns 160 = some Go.Proofs.Try.f160 := by kernel_rfl
  simp only [callB, hf, funced, b160, bodied]
  rfl
/-! function 129: colloquy/order.Jump$1 -/
noncomputable def g129_0 : Array Oper := regAt Go.Proofs.Try.f129 0
@[go_sem] theorem x129_0 : XR 129 g129_0 [(some 3, (.assign (.const (.bool false))), none)] := XR.mk (nr (by kernel_rfl)) (nr (by kernel_rfl))
@[go_sem] theorem t129_0 : TK g129_0 := fun _ => nr (by kernel_rfl)
noncomputable def g129_1 : Array Oper := regAt Go.Proofs.Try.f129 1
@[go_sem] theorem x129_1 : XR 129 g129_1 [mvo 4 0, (some 5, (.binOp .geq 3 (.tmp 4) (.const (.int .i64 0)) 3), none), mvo 6 5, (some 7, (.move (.tmp 0)), some (6, true)), (some 8, (.load 56 (.tmp 1)), some (6, true)), (some 9, (.call ⟨(.builtin .len), #[(.tmp 8)], #[56]⟩), some (6, true)), (some 10, (.binOp .lss 3 (.tmp 7) (.tmp 9) 3), some (6, true)), (some 11, (.pick (.tmp 6) (.tmp 10) (.const (.bool false))), none), (some 3, (.assign (.tmp 11)), none)] := XR.mk (nr (by kernel_rfl)) (nr (by kernel_rfl))
@[go_sem] theorem t129_1 : TK g129_1 := fun _ => nr (by kernel_rfl)
theorem b129 : Go.Proofs.Try.f129.body = some (.seq (.region 0 g129_0 false) (.seq (.region 1 g129_1 false) .ret)) := by kernel_rfl
theorem c129 {h : Hd} {ro : Nat} {H : Hp} (a0 a1 : AV) : callB cx h ro 129 [a0, a1] H = returned cx [(.tmp 3)] (ex cx h ro 129 12 (.seq (.region 0 g129_0 false) (.seq (.region 1 g129_1 false) .ret)) ((PT.nil.set 0 (drp a0)).set 1 (drp a1)) H) := by
  have hf : cx.fns 129 = some Go.Proofs.Try.f129 := by kernel_rfl
  simp only [callB, hf, funced, b129, bodied]
  rfl
end Go.Abs.Tab

/- Codes of this seat's functions, their regions step by step. (Printed by a program.) -/
set_option linter.unusedVariables false
namespace Go.Abs.Tab
/-! function 67: colloquy/order.Check -/
noncomputable def g67_0 : Array Oper := regAt Go.Proofs.Try.f67 0
@[go_sem] theorem x67_0 : XR 67 g67_0 [(some 2, (.alloc 3), none), (some 3, (.alloc 27), none)] := XR.mk (nr (by kernel_rfl)) (nr (by kernel_rfl))
@[go_sem] theorem t67_0 : TK g67_0 := fun _ => nr (by kernel_rfl)
noncomputable def g67_1 : Array Oper := regAt Go.Proofs.Try.f67 1
@[go_sem] theorem x67_1 : XR 67 g67_1 [mvo 11 0, (some 12, (.call ⟨(.value (.func 48)), #[(.tmp 11)], #[56]⟩), none), mvo 10 12, (some 13, (.extract (.tmp 10) 0), none), (some 14, (.extract (.tmp 10) 1), none), (none, (.store 3 (.tmp 2) (.tmp 13)), none), (none, (.store 27 (.tmp 3) (.tmp 14)), none)] := XR.mk (nr (by kernel_rfl)) (nr (by kernel_rfl))
@[go_sem] theorem t67_1 : TK g67_1 := fun _ => nr (by kernel_rfl)
noncomputable def g67_2 : Array Oper := regAt Go.Proofs.Try.f67 2
@[go_sem] theorem x67_2 : XR 67 g67_2 [(some 15, (.load 27 (.tmp 3)), none), (some 16, (.binOp .neq 27 (.tmp 15) (.const (.int .i64 0)) 27), none)] := XR.mk (nr (by kernel_rfl)) (nr (by kernel_rfl))
@[go_sem] theorem t67_2 : TK g67_2 := fun _ => nr (by kernel_rfl)
noncomputable def g67_3 : Array Oper := regAt Go.Proofs.Try.f67 3
@[go_sem] theorem x67_3 : XUR 67 g67_3 [(0, 0, [], (some 17, (.load 3 (.tmp 2)), none)), (1, 0, [0], (some 18, (.load 27 (.tmp 3)), none)), (2, 0, [1], (none, (.store 3 (.tmp 2) (.tmp 17)), none)), (3, 0, [], (none, (.store 27 (.tmp 3) (.tmp 18)), none))] 0 := XUR.mk (nr (by kernel_rfl)) (nr (by kernel_rfl)) (nr (by kernel_rfl)) (nr (by kernel_rfl)) (nr (by kernel_rfl))
@[go_sem] theorem t67_3 : TK g67_3 := fun _ => nr (by kernel_rfl)
noncomputable def g67_4 : Array Oper := regAt Go.Proofs.Try.f67 4
@[go_sem] theorem x67_4 : XR 67 g67_4 [mvo 19 0, (some 4, (.assign (.tmp 19)), none)] := XR.mk (nr (by kernel_rfl)) (nr (by kernel_rfl))
@[go_sem] theorem t67_4 : TK g67_4 := fun _ => nr (by kernel_rfl)
noncomputable def g67_5 : Array Oper := regAt Go.Proofs.Try.f67 5
@[go_sem] theorem x67_5 : XR 67 g67_5 [mvo 20 0, (some 21, (.call ⟨(.builtin .len), #[(.tmp 20)], #[56]⟩), none), (some 22, (.move (.const (.int .i64 0))), none)] := XR.mk (nr (by kernel_rfl)) (nr (by kernel_rfl))
@[go_sem] theorem t67_5 : TK g67_5 := fun _ => nr (by kernel_rfl)
noncomputable def g67_6 : Array Oper := regAt Go.Proofs.Try.f67 6
@[go_sem] theorem x67_6 : XR 67 g67_6 [(some 23, (.binOp .lss 3 (.tmp 22) (.tmp 21) 3), none)] := XR.mk (nr (by kernel_rfl)) (nr (by kernel_rfl))
@[go_sem] theorem t67_6 : TK g67_6 := fun _ => nr (by kernel_rfl)
noncomputable def g67_7 : Array Oper := regAt Go.Proofs.Try.f67 7
@[go_sem] theorem x67_7 : XR 67 g67_7 [mvo 24 22, (some 25, (.indexAddr 56 (.tmp 20) (.tmp 22)), none), (some 26, (.load 66 (.tmp 25)), none), (some 5, (.alloc 3), none), (some 6, (.alloc 66), none), (none, (.store 3 (.tmp 5) (.tmp 24)), none), (none, (.store 66 (.tmp 6) (.tmp 26)), none)] := XR.mk (nr (by kernel_rfl)) (nr (by kernel_rfl))
@[go_sem] theorem t67_7 : TK g67_7 := fun _ => nr (by kernel_rfl)
noncomputable def g67_8 : Array Oper := regAt Go.Proofs.Try.f67 8
@[go_sem] theorem x67_8 : XR 67 g67_8 [mvo 27 4, (some 28, (.load 3 (.tmp 5)), none), (some 29, (.call ⟨(.value (.func 125)), #[(.tmp 27), (.tmp 28)], #[212, 3]⟩), none), (some 30, (.unOp .not 4 (.tmp 29)), none)] := XR.mk (nr (by kernel_rfl)) (nr (by kernel_rfl))
@[go_sem] theorem t67_8 : TK g67_8 := fun _ => nr (by kernel_rfl)
noncomputable def g67_9 : Array Oper := regAt Go.Proofs.Try.f67 9
@[go_sem] theorem x67_9 : XR 67 g67_9 [(some 31, (.fieldAddr 66 (.tmp 6) 4), none), (some 32, (.load 64 (.tmp 31)), none), (some 33, (.fieldAddr 66 (.tmp 6) 4), none), (some 34, (.load 64 (.tmp 33)), none), (some 35, (.call ⟨(.builtin .len), #[(.tmp 34)], #[64]⟩), none), (some 36, (.fieldAddr 66 (.tmp 6) 4), none), (some 37, (.load 64 (.tmp 36)), none), (some 38, (.call ⟨(.builtin .len), #[(.tmp 37)], #[64]⟩), none), (some 39, (.slice 64 (.tmp 32) none (some (.tmp 35)) (some (.tmp 38))), none), (some 7, (.assign (.tmp 39)), none)] := XR.mk (nr (by kernel_rfl)) (nr (by kernel_rfl))
@[go_sem] theorem t67_9 : TK g67_9 := fun _ => nr (by kernel_rfl)
noncomputable def g67_10 : Array Oper := regAt Go.Proofs.Try.f67 10
@[go_sem] theorem x67_10 : XR 67 g67_10 [(some 40, (.fieldAddr 66 (.tmp 6) 2), none), (some 41, (.load 4 (.tmp 40)), none)] := XR.mk (nr (by kernel_rfl)) (nr (by kernel_rfl))
@[go_sem] theorem t67_10 : TK g67_10 := fun _ => nr (by kernel_rfl)
noncomputable def g67_11 : Array Oper := regAt Go.Proofs.Try.f67 11
@[go_sem] theorem x67_11 : XR 67 g67_11 [mvo 42 7, (some 43, (.fieldAddr 66 (.tmp 6) 3), none), (some 44, (.load 63 (.tmp 43)), none), (some 45, (.buildSlice 64 1 #[(0, (.tmp 44))]), none), (some 46, (.call ⟨(.builtin .append), #[(.tmp 42), (.tmp 45)], #[64, 64]⟩), none), (some 7, (.assign (.tmp 46)), none)] := XR.mk (nr (by kernel_rfl)) (nr (by kernel_rfl))
@[go_sem] theorem t67_11_42 : takes g67_11 42 = true := nr (by kernel_rfl)
@[go_sem] theorem t67_11_43 : takes g67_11 43 = false := nr (by kernel_rfl)
@[go_sem] theorem t67_11_44 : takes g67_11 44 = false := nr (by kernel_rfl)
@[go_sem] theorem t67_11_45 : takes g67_11 45 = false := nr (by kernel_rfl)
@[go_sem] theorem t67_11_46 : takes g67_11 46 = false := nr (by kernel_rfl)
@[go_sem] theorem t67_11_7 : takes g67_11 7 = false := nr (by kernel_rfl)
noncomputable def g67_12 : Array Oper := regAt Go.Proofs.Try.f67 12
@[go_sem] theorem x67_12 : XR 67 g67_12 [mvo 47 4, (some 48, (.load 3 (.tmp 5)), none), mvo 49 7, (some 50, (.call ⟨(.value (.func 127)), #[(.tmp 47), (.tmp 48), (.tmp 49)], #[212, 3, 64]⟩), none)] := XR.mk (nr (by kernel_rfl)) (nr (by kernel_rfl))
@[go_sem] theorem t67_12 : TK g67_12 := fun _ => nr (by kernel_rfl)
noncomputable def g67_13 : Array Oper := regAt Go.Proofs.Try.f67 13
@[go_sem] theorem x67_13 : XR 67 g67_13 [(some 9, (.assign (.tmp 52)), none)] := XR.mk (nr (by kernel_rfl)) (nr (by kernel_rfl))
@[go_sem] theorem t67_13 : TK g67_13 := fun _ => nr (by kernel_rfl)
noncomputable def g67_14 : Array Oper := regAt Go.Proofs.Try.f67 14
@[go_sem] theorem x67_14 : XR 67 g67_14 [mvo 53 9, (some 54, (.binOp .lss 3 (.tmp 53) (.const (.int .i64 1)) 3), none)] := XR.mk (nr (by kernel_rfl)) (nr (by kernel_rfl))
@[go_sem] theorem t67_14 : TK g67_14 := fun _ => nr (by kernel_rfl)
noncomputable def g67_15 : Array Oper := regAt Go.Proofs.Try.f67 15
@[go_sem] theorem x67_15 : XR 67 g67_15 [(some 55, (.load 3 (.tmp 5)), none), (none, (.store 3 (.tmp 2) (.tmp 55)), none), (none, (.store 27 (.tmp 3) (.const (.int .i64 10))), none)] := XR.mk (nr (by kernel_rfl)) (nr (by kernel_rfl))
@[go_sem] theorem t67_15 : TK g67_15 := fun _ => nr (by kernel_rfl)
noncomputable def g67_16 : Array Oper := regAt Go.Proofs.Try.f67 16
@[go_sem] theorem x67_16 : XR 67 g67_16 [(some 56, (.binOp .add 3 (.tmp 22) (.const (.int .i64 1)) 3), none), mvo 22 56] := XR.mk (nr (by kernel_rfl)) (nr (by kernel_rfl))
@[go_sem] theorem t67_16 : TK g67_16 := fun _ => nr (by kernel_rfl)
noncomputable def g67_17 : Array Oper := regAt Go.Proofs.Try.f67 17
@[go_sem] theorem x67_17 : XR 67 g67_17 [(none, (.store 3 (.tmp 2) (.const (.int .i64 (-1)))), none), (none, (.store 27 (.tmp 3) (.const (.int .i64 0))), none)] := XR.mk (nr (by kernel_rfl)) (nr (by kernel_rfl))
@[go_sem] theorem t67_17 : TK g67_17 := fun _ => nr (by kernel_rfl)
noncomputable def q67_0 : Code := (.region 13 g67_13 false)
noncomputable def r67_0 : Code := (.block 3 (.seq (.region 14 g67_14 false) (.cond (.tmp 54) (.seq (.region 15 g67_15 false) .ret) .skip)))
noncomputable def l67_1 : Code := (.seq (.region 6 g67_6 false) (.seq (.cond (.tmp 23) .skip (.exit 0)) (.seq (.block 1 (.seq (.region 7 g67_7 false) (.seq (.seq (.region 8 g67_8 false) (.cond (.tmp 30) (.exit 1) .skip)) (.seq (.region 9 g67_9 false) (.seq (.seq (.region 10 g67_10 false) (.cond (.tmp 41) (.region 11 g67_11 false) .skip)) (.seq (.region 12 g67_12 false) (.block 2 (.rangeFunc (.tmp 50) #[51, 52] q67_0 r67_0)))))))) (.region 16 g67_16 false))))
theorem dl67_1 {ro nt : Nat} {fr : PT} {H : Hp} : (den cx).loop ro 67 nt l67_1 fr H = xbind (ex cx (den cx) ro 67 nt (.seq (.region 6 g67_6 false) (.seq (.cond (.tmp 23) .skip (.exit 0)) (.seq (.block 1 (.seq (.region 7 g67_7 false) (.seq (.seq (.region 8 g67_8 false) (.cond (.tmp 30) (.exit 1) .skip)) (.seq (.region 9 g67_9 false) (.seq (.seq (.region 10 g67_10 false) (.cond (.tmp 41) (.region 11 g67_11 false) .skip)) (.seq (.region 12 g67_12 false) (.block 2 (.rangeFunc (.tmp 50) #[51, 52] q67_0 r67_0)))))))) (.region 16 g67_16 false)))) fr H) (contR (trimmed ((den cx).loop ro 67 nt l67_1) H.length)) := den_loop_x l67_1
theorem b67 : Go.Proofs.Try.f67.body = some (.seq (.region 0 g67_0 false) (.seq (.seq (.region 1 g67_1 false) (.seq (.region 2 g67_2 false) (.cond (.tmp 16) (.seq (.region 3 g67_3 true) .ret) .skip))) (.seq (.region 4 g67_4 false) (.seq (.seq (.region 5 g67_5 false) (.block 0 (.loop l67_1))) (.seq (.region 17 g67_17 false) .ret))))) := by kernel_rfl
theorem c67 {h : Hd} {ro : Nat} {H : Hp} (a0 : AV) : callB cx h ro 67 [a0] H = returned cx [(.cell 2 3), (.cell 3 27)] (ex cx h ro 67 57 (.seq (.region 0 g67_0 false) (.seq (.seq (.region 1 g67_1 false) (.seq (.region 2 g67_2 false) (.cond (.tmp 16) (.seq (.region 3 g67_3 true) .ret) .skip))) (.seq (.region 4 g67_4 false) (.seq (.seq (.region 5 g67_5 false) (.block 0 (.loop l67_1))) (.seq (.region 17 g67_17 false) .ret))))) (PT.nil.set 0 (drp a0)) H) := by
  have hf : cx.fns 67 = some Go.Proofs.Try.f67 := by kernel_rfl
  simp only [callB, hf, funced, b67, bodied]
  rfl
/-! function 69: colloquy/order.Jump -/
noncomputable def g69_0 : Array Oper := regAt Go.Proofs.Try.f69 0
@[go_sem] theorem x69_0 : XR 69 g69_0 [(some 3, (.box 56 (.tmp 0)), none), (some 5, (.box 63 (.tmp 2)), none), (some 6, (.alloc 3), none), (some 7, (.alloc 4), none)] := XR.mk (nr (by kernel_rfl)) (nr (by kernel_rfl))
@[go_sem] theorem t69_0 : TK g69_0 := fun _ => nr (by kernel_rfl)
noncomputable def g69_1 : Array Oper := regAt Go.Proofs.Try.f69 1
@[go_sem] theorem x69_1 : XR 69 g69_1 [(some 13, (.makeFunc (.func 129) #[] #[(.tmp 3)]), none), (some 8, (.assign (.tmp 13)), none)] := XR.mk (nr (by kernel_rfl)) (nr (by kernel_rfl))
@[go_sem] theorem t69_1 : TK g69_1 := fun _ => nr (by kernel_rfl)
noncomputable def g69_2 : Array Oper := regAt Go.Proofs.Try.f69 2
@[go_sem] theorem x69_2 : XR 69 g69_2 [mvo 14 8, mvo 15 1, (some 16, (.call ⟨(.value (.tmp 14)), #[(.tmp 15)], #[3]⟩), none), (some 17, (.unOp .not 4 (.tmp 16)), none), mvo 18 17, (some 19, (.move (.tmp 8)), some (18, false)), (some 20, (.fieldAddr 63 (.tmp 5) 0), some (18, false)), (some 21, (.load 3 (.tmp 20)), some (18, false)), (some 22, (.call ⟨(.value (.tmp 19)), #[(.tmp 21)], #[3]⟩), some (18, false)), (some 23, (.unOp .not 4 (.tmp 22)), some (18, false)), (some 24, (.pick (.tmp 18) (.const (.bool true)) (.tmp 23)), none)] := XR.mk (nr (by kernel_rfl)) (nr (by kernel_rfl))
@[go_sem] theorem t69_2 : TK g69_2 := fun _ => nr (by kernel_rfl)
noncomputable def g69_3 : Array Oper := regAt Go.Proofs.Try.f69 3
@[go_sem] theorem x69_3 : XR 69 g69_3 [(none, (.store 3 (.tmp 6) (.const (.int .i64 0))), none), (none, (.store 4 (.tmp 7) (.const (.bool false))), none)] := XR.mk (nr (by kernel_rfl)) (nr (by kernel_rfl))
@[go_sem] theorem t69_3 : TK g69_3 := fun _ => nr (by kernel_rfl)
noncomputable def g69_4 : Array Oper := regAt Go.Proofs.Try.f69 4
@[go_sem] theorem x69_4 : XR 69 g69_4 [(some 26, (.load 56 (.tmp 3)), none), (some 27, (.call ⟨(.value (.func 48)), #[(.tmp 26)], #[56]⟩), none), mvo 25 27, (some 28, (.extract (.tmp 25) 0), none), (some 29, (.extract (.tmp 25) 1), none), (some 9, (.assign (.tmp 28)), none), (some 10, (.assign (.tmp 29)), none)] := XR.mk (nr (by kernel_rfl)) (nr (by kernel_rfl))
@[go_sem] theorem t69_4 : TK g69_4 := fun _ => nr (by kernel_rfl)
noncomputable def g69_5 : Array Oper := regAt Go.Proofs.Try.f69 5
@[go_sem] theorem x69_5 : XR 69 g69_5 [mvo 30 10, (some 31, (.binOp .neq 27 (.tmp 30) (.const (.int .i64 0)) 27), none)] := XR.mk (nr (by kernel_rfl)) (nr (by kernel_rfl))
@[go_sem] theorem t69_5 : TK g69_5 := fun _ => nr (by kernel_rfl)
noncomputable def g69_6 : Array Oper := regAt Go.Proofs.Try.f69 6
@[go_sem] theorem x69_6 : XR 69 g69_6 [(none, (.store 3 (.tmp 6) (.const (.int .i64 0))), none), (none, (.store 4 (.tmp 7) (.const (.bool false))), none)] := XR.mk (nr (by kernel_rfl)) (nr (by kernel_rfl))
@[go_sem] theorem t69_6 : TK g69_6 := fun _ => nr (by kernel_rfl)
noncomputable def g69_7 : Array Oper := regAt Go.Proofs.Try.f69 7
@[go_sem] theorem x69_7 : XR 69 g69_7 [(some 32, (.load 56 (.tmp 3)), none), mvo 33 1, (some 34, (.load 63 (.tmp 5)), none), (some 35, (.buildSlice 64 1 #[(0, (.tmp 34))]), none), (some 36, (.call ⟨(.value (.func 127)), #[(.tmp 32), (.tmp 33), (.tmp 35)], #[212, 3, 64]⟩), none)] := XR.mk (nr (by kernel_rfl)) (nr (by kernel_rfl))
@[go_sem] theorem t69_7 : TK g69_7 := fun _ => nr (by kernel_rfl)
noncomputable def g69_8 : Array Oper := regAt Go.Proofs.Try.f69 8
@[go_sem] theorem x69_8 : XR 69 g69_8 [(some 12, (.assign (.tmp 38)), none)] := XR.mk (nr (by kernel_rfl)) (nr (by kernel_rfl))
@[go_sem] theorem t69_8 : TK g69_8 := fun _ => nr (by kernel_rfl)
noncomputable def g69_9 : Array Oper := regAt Go.Proofs.Try.f69 9
@[go_sem] theorem x69_9 : XR 69 g69_9 [mvo 39 12, (none, (.store 3 (.tmp 6) (.tmp 39)), none), (none, (.store 4 (.tmp 7) (.const (.bool true))), none)] := XR.mk (nr (by kernel_rfl)) (nr (by kernel_rfl))
@[go_sem] theorem t69_9 : TK g69_9 := fun _ => nr (by kernel_rfl)
noncomputable def g69_10 : Array Oper := regAt Go.Proofs.Try.f69 10
@[go_sem] theorem x69_10 : XR 69 g69_10 [(none, (.store 3 (.tmp 6) (.const (.int .i64 0))), none), (none, (.store 4 (.tmp 7) (.const (.bool false))), none)] := XR.mk (nr (by kernel_rfl)) (nr (by kernel_rfl))
@[go_sem] theorem t69_10 : TK g69_10 := fun _ => nr (by kernel_rfl)
noncomputable def q69_0 : Code := (.region 8 g69_8 false)
noncomputable def r69_0 : Code := (.block 1 (.seq (.region 9 g69_9 false) .ret))
theorem b69 : Go.Proofs.Try.f69.body = some (.seq (.region 0 g69_0 false) (.seq (.region 1 g69_1 false) (.seq (.seq (.region 2 g69_2 false) (.cond (.tmp 24) (.seq (.region 3 g69_3 false) .ret) .skip)) (.seq (.seq (.region 4 g69_4 false) (.seq (.region 5 g69_5 false) (.cond (.tmp 31) (.seq (.region 6 g69_6 false) .ret) .skip))) (.seq (.seq (.region 7 g69_7 false) (.block 0 (.rangeFunc (.tmp 36) #[37, 38] q69_0 r69_0))) (.seq (.region 10 g69_10 false) .ret)))))) := by kernel_rfl
theorem c69 {h : Hd} {ro : Nat} {H : Hp} (a0 a1 a2 : AV) : callB cx h ro 69 [a0, a1, a2] H = returned cx [(.cell 6 3), (.cell 7 4)] (ex cx h ro 69 40 (.seq (.region 0 g69_0 false) (.seq (.region 1 g69_1 false) (.seq (.seq (.region 2 g69_2 false) (.cond (.tmp 24) (.seq (.region 3 g69_3 false) .ret) .skip)) (.seq (.seq (.region 4 g69_4 false) (.seq (.region 5 g69_5 false) (.cond (.tmp 31) (.seq (.region 6 g69_6 false) .ret) .skip))) (.seq (.seq (.region 7 g69_7 false) (.block 0 (.rangeFunc (.tmp 36) #[37, 38] q69_0 r69_0))) (.seq (.region 10 g69_10 false) .ret)))))) (((PT.nil.set 0 (drp a0)).set 1 (drp a1)).set 2 (drp a2)) H) := by
  have hf : cx.fns 69 = some Go.Proofs.Try.f69 := by kernel_rfl
  simp only [callB, hf, funced, b69, bodied]
  rfl
/-! function 63: colloquy/colloquylaw05.few -/
noncomputable def g63_0 : Array Oper := regAt Go.Proofs.Try.f63 0
@[go_sem] theorem x63_0 : XR 63 g63_0 [(some 2, (.assign (.const (.slice none 0 0))), none)] := XR.mk (nr (by kernel_rfl)) (nr (by kernel_rfl))
@[go_sem] theorem t63_0 : TK g63_0 := fun _ => nr (by kernel_rfl)
noncomputable def g63_1 : Array Oper := regAt Go.Proofs.Try.f63 1
@[go_sem] theorem x63_1 : XR 63 g63_1 [(some 3, (.assign (.const (.slice none 0 0))), none)] := XR.mk (nr (by kernel_rfl)) (nr (by kernel_rfl))
@[go_sem] theorem t63_1 : TK g63_1 := fun _ => nr (by kernel_rfl)
noncomputable def g63_2 : Array Oper := regAt Go.Proofs.Try.f63 2
@[go_sem] theorem x63_2 : XR 63 g63_2 [(some 4, (.assign (.const (.int .i64 0))), none)] := XR.mk (nr (by kernel_rfl)) (nr (by kernel_rfl))
@[go_sem] theorem t63_2 : TK g63_2 := fun _ => nr (by kernel_rfl)
noncomputable def g63_3 : Array Oper := regAt Go.Proofs.Try.f63 3
@[go_sem] theorem x63_3 : XR 63 g63_3 [mvo 6 4, mvo 7 0, (some 8, (.call ⟨(.builtin .len), #[(.tmp 7)], #[56]⟩), none), (some 9, (.binOp .lss 3 (.tmp 6) (.tmp 8) 3), none), mvo 10 9, (some 11, (.move (.tmp 4)), some (10, true)), (some 12, (.binOp .lss 3 (.tmp 11) (.const (.int .i64 16)) 3), some (10, true)), (some 13, (.pick (.tmp 10) (.tmp 12) (.const (.bool false))), none)] := XR.mk (nr (by kernel_rfl)) (nr (by kernel_rfl))
@[go_sem] theorem t63_3 : TK g63_3 := fun _ => nr (by kernel_rfl)
noncomputable def g63_4 : Array Oper := regAt Go.Proofs.Try.f63 4
@[go_sem] theorem x63_4 : XR 63 g63_4 [mvo 16 0, mvo 17 4, (some 18, (.indexAddr 56 (.tmp 16) (.tmp 17)), none), (some 19, (.load 66 (.tmp 18)), none), (some 5, (.alloc 66), none), (none, (.store 66 (.tmp 5) (.tmp 19)), none)] := XR.mk (nr (by kernel_rfl)) (nr (by kernel_rfl))
@[go_sem] theorem t63_4 : TK g63_4 := fun _ => nr (by kernel_rfl)
noncomputable def g63_5 : Array Oper := regAt Go.Proofs.Try.f63 5
@[go_sem] theorem x63_5 : XR 63 g63_5 [(some 20, (.fieldAddr 66 (.tmp 5) 4), none), (some 21, (.load 64 (.tmp 20)), none), (some 22, (.fieldAddr 66 (.tmp 5) 4), none), (some 23, (.load 64 (.tmp 22)), none), (some 24, (.call ⟨(.builtin .len), #[(.tmp 23)], #[64]⟩), none), (some 25, (.call ⟨(.builtin .min), #[(.tmp 24), (.const (.int .i64 9))], #[3, 3]⟩), none), (some 26, (.slice 64 (.tmp 21) none (some (.tmp 25)) none), none), (some 27, (.fieldAddr 66 (.tmp 5) 4), none), (none, (.store 64 (.tmp 27) (.tmp 26)), none)] := XR.mk (nr (by kernel_rfl)) (nr (by kernel_rfl))
@[go_sem] theorem t63_5 : TK g63_5 := fun _ => nr (by kernel_rfl)
noncomputable def g63_6 : Array Oper := regAt Go.Proofs.Try.f63 6
@[go_sem] theorem x63_6 : XR 63 g63_6 [mvo 28 3, (some 29, (.load 66 (.tmp 5)), none), (some 30, (.buildSlice 56 1 #[(0, (.tmp 29))]), none), (some 31, (.call ⟨(.builtin .append), #[(.tmp 28), (.tmp 30)], #[56, 56]⟩), none), (some 3, (.assign (.tmp 31)), none)] := XR.mk (nr (by kernel_rfl)) (nr (by kernel_rfl))
@[go_sem] theorem t63_6_28 : takes g63_6 28 = true := nr (by kernel_rfl)
@[go_sem] theorem t63_6_29 : takes g63_6 29 = false := nr (by kernel_rfl)
@[go_sem] theorem t63_6_30 : takes g63_6 30 = false := nr (by kernel_rfl)
@[go_sem] theorem t63_6_31 : takes g63_6 31 = false := nr (by kernel_rfl)
@[go_sem] theorem t63_6_3 : takes g63_6 3 = false := nr (by kernel_rfl)
noncomputable def g63_7 : Array Oper := regAt Go.Proofs.Try.f63 7
@[go_sem] theorem x63_7 : XR 63 g63_7 [mvo 14 4, (some 15, (.binOp .add 3 (.tmp 14) (.const (.int .i64 1)) 3), none), (some 4, (.assign (.tmp 15)), none)] := XR.mk (nr (by kernel_rfl)) (nr (by kernel_rfl))
@[go_sem] theorem t63_7 : TK g63_7 := fun _ => nr (by kernel_rfl)
noncomputable def g63_8 : Array Oper := regAt Go.Proofs.Try.f63 8
@[go_sem] theorem x63_8 : XR 63 g63_8 [mvo 32 3, (some 2, (.assign (.tmp 32)), none)] := XR.mk (nr (by kernel_rfl)) (nr (by kernel_rfl))
@[go_sem] theorem t63_8 : TK g63_8 := fun _ => nr (by kernel_rfl)
noncomputable def l63_0 : Code := (.seq (.seq (.region 3 g63_3 false) (.cond (.tmp 13) .skip (.exit 0))) (.seq (.block 1 (.seq (.region 5 g63_4 false) (.seq (.region 6 g63_5 false) (.region 7 g63_6 false)))) (.region 4 g63_7 false)))
theorem dl63_0 {ro nt : Nat} {fr : PT} {H : Hp} : (den cx).loop ro 63 nt l63_0 fr H = xbind (ex cx (den cx) ro 63 nt (.seq (.seq (.region 3 g63_3 false) (.cond (.tmp 13) .skip (.exit 0))) (.seq (.block 1 (.seq (.region 5 g63_4 false) (.seq (.region 6 g63_5 false) (.region 7 g63_6 false)))) (.region 4 g63_7 false))) fr H) (contR (trimmed ((den cx).loop ro 63 nt l63_0) H.length)) := den_loop_x l63_0
theorem b63 : Go.Proofs.Try.f63.body = some (.seq (.region 0 g63_0 false) (.seq (.region 1 g63_1 false) (.seq (.seq (.region 2 g63_2 false) (.block 0 (.loop l63_0))) (.seq (.region 8 g63_8 false) .ret)))) := by kernel_rfl
theorem c63 {h : Hd} {ro : Nat} {H : Hp} (a0 : AV) : callB cx h ro 63 [a0] H = returned cx [(.tmp 2)] (ex cx h ro 63 33 (.seq (.region 0 g63_0 false) (.seq (.region 1 g63_1 false) (.seq (.seq (.region 2 g63_2 false) (.block 0 (.loop l63_0))) (.seq (.region 8 g63_8 false) .ret)))) (PT.nil.set 0 (drp a0)) H) := by
  have hf : cx.fns 63 = some Go.Proofs.Try.f63 := by kernel_rfl
  simp only [callB, hf, funced, b63, bodied]
  rfl
end Go.Abs.Tab

/- Codes of this seat's functions, their regions step by step. (Printed by a program.) -/
set_option linter.unusedVariables false
namespace Go.Abs.Tab
/-! function 64: colloquy/order.Back -/
noncomputable def g64_0 : Array Oper := regAt Go.Proofs.Try.f64 0
@[go_sem] theorem x64_0 : XR 64 g64_0 [(some 4, (.assign (.const (.int .i64 0))), none), (some 5, (.assign (.const (.bool false))), none)] := XR.mk (nr (by kernel_rfl)) (nr (by kernel_rfl))
@[go_sem] theorem t64_0 : TK g64_0 := fun _ => nr (by kernel_rfl)
noncomputable def g64_1 : Array Oper := regAt Go.Proofs.Try.f64 1
@[go_sem] theorem x64_1 : XR 64 g64_1 [mvo 17 0, (some 6, (.alloc 212), none), (none, (.store 212 (.tmp 6) (.tmp 17)), none)] := XR.mk (nr (by kernel_rfl)) (nr (by kernel_rfl))
@[go_sem] theorem t64_1 : TK g64_1 := fun _ => nr (by kernel_rfl)
noncomputable def g64_2 : Array Oper := regAt Go.Proofs.Try.f64 2
@[go_sem] theorem x64_2 : XR 64 g64_2 [mvo 19 0, (some 20, (.call ⟨(.value (.func 67)), #[(.tmp 19)], #[56]⟩), none), mvo 18 20, (some 21, (.extract (.tmp 18) 0), none), (some 22, (.extract (.tmp 18) 1), none), (some 7, (.assign (.tmp 21)), none), (some 8, (.assign (.tmp 22)), none)] := XR.mk (nr (by kernel_rfl)) (nr (by kernel_rfl))
@[go_sem] theorem t64_2 : TK g64_2 := fun _ => nr (by kernel_rfl)
noncomputable def g64_3 : Array Oper := regAt Go.Proofs.Try.f64 3
@[go_sem] theorem x64_3 : XR 64 g64_3 [mvo 23 8, (some 24, (.binOp .neq 27 (.tmp 23) (.const (.int .i64 0)) 27), none), mvo 25 24, (some 26, (.load 212 (.tmp 6)), some (25, false)), (some 27, (.move (.tmp 1)), some (25, false)), (some 28, (.call ⟨(.value (.func 125)), #[(.tmp 26), (.tmp 27)], #[212, 3]⟩), some (25, false)), (some 29, (.unOp .not 4 (.tmp 28)), some (25, false)), (some 30, (.pick (.tmp 25) (.const (.bool true)) (.tmp 29)), none)] := XR.mk (nr (by kernel_rfl)) (nr (by kernel_rfl))
@[go_sem] theorem t64_3 : TK g64_3 := fun _ => nr (by kernel_rfl)
noncomputable def g64_4 : Array Oper := regAt Go.Proofs.Try.f64 4
@[go_sem] theorem x64_4 : XR 64 g64_4 [(some 4, (.assign (.const (.int .i64 0))), none), (some 5, (.assign (.const (.bool false))), none)] := XR.mk (nr (by kernel_rfl)) (nr (by kernel_rfl))
@[go_sem] theorem t64_4 : TK g64_4 := fun _ => nr (by kernel_rfl)
noncomputable def g64_5 : Array Oper := regAt Go.Proofs.Try.f64 5
@[go_sem] theorem x64_5 : XR 64 g64_5 [(some 31, (.makeMap 213 none), none), (some 32, (.makeMap 213 none), none), (some 9, (.alloc 213), none), (some 10, (.alloc 213), none), (none, (.store 213 (.tmp 9) (.tmp 31)), none), (none, (.store 213 (.tmp 10) (.tmp 32)), none)] := XR.mk (nr (by kernel_rfl)) (nr (by kernel_rfl))
@[go_sem] theorem t64_5 : TK g64_5 := fun _ => nr (by kernel_rfl)
noncomputable def g64_6 : Array Oper := regAt Go.Proofs.Try.f64 6
@[go_sem] theorem x64_6 : XR 64 g64_6 [(some 33, (.makeFunc (.func 126) #[] #[(.tmp 6), (.tmp 9), (.tmp 10)]), none), (some 11, (.assign (.tmp 33)), none)] := XR.mk (nr (by kernel_rfl)) (nr (by kernel_rfl))
@[go_sem] theorem t64_6 : TK g64_6 := fun _ => nr (by kernel_rfl)
noncomputable def g64_7 : Array Oper := regAt Go.Proofs.Try.f64 7
@[go_sem] theorem x64_7 : XR 64 g64_7 [mvo 34 11, mvo 35 1, (some 36, (.call ⟨(.value (.tmp 34)), #[(.tmp 35), (.const (.int .i64 0))], #[3, 3]⟩), none)] := XR.mk (nr (by kernel_rfl)) (nr (by kernel_rfl))
@[go_sem] theorem t64_7 : TK g64_7 := fun _ => nr (by kernel_rfl)
noncomputable def g64_8 : Array Oper := regAt Go.Proofs.Try.f64 8
@[go_sem] theorem x64_8 : XR 64 g64_8 [(some 37, (.load 213 (.tmp 9)), none), (some 38, (.call ⟨(.builtin .len), #[(.tmp 37)], #[213]⟩), none), (some 39, (.binOp .gtr 3 (.tmp 38) (.const (.int .i64 0)) 3), none)] := XR.mk (nr (by kernel_rfl)) (nr (by kernel_rfl))
@[go_sem] theorem t64_8 : TK g64_8 := fun _ => nr (by kernel_rfl)
noncomputable def g64_9 : Array Oper := regAt Go.Proofs.Try.f64 9
@[go_sem] theorem x64_9 : XR 64 g64_9 [(some 12, (.assign (.const (.int .i64 (-1)))), none), (some 13, (.assign (.const (.int .i64 0))), none)] := XR.mk (nr (by kernel_rfl)) (nr (by kernel_rfl))
@[go_sem] theorem t64_9 : TK g64_9 := fun _ => nr (by kernel_rfl)
noncomputable def g64_10 : Array Oper := regAt Go.Proofs.Try.f64 10
@[go_sem] theorem x64_10 : XR 64 g64_10 [mvo 40 0, (some 41, (.call ⟨(.builtin .len), #[(.tmp 40)], #[56]⟩), none), (some 42, (.move (.const (.int .i64 0))), none)] := XR.mk (nr (by kernel_rfl)) (nr (by kernel_rfl))
@[go_sem] theorem t64_10 : TK g64_10 := fun _ => nr (by kernel_rfl)
noncomputable def g64_11 : Array Oper := regAt Go.Proofs.Try.f64 11
@[go_sem] theorem x64_11 : XR 64 g64_11 [(some 43, (.binOp .lss 3 (.tmp 42) (.tmp 41) 3), none)] := XR.mk (nr (by kernel_rfl)) (nr (by kernel_rfl))
@[go_sem] theorem t64_11 : TK g64_11 := fun _ => nr (by kernel_rfl)
noncomputable def g64_12 : Array Oper := regAt Go.Proofs.Try.f64 12
@[go_sem] theorem x64_12 : XR 64 g64_12 [mvo 44 42, (some 14, (.assign (.tmp 44)), none)] := XR.mk (nr (by kernel_rfl)) (nr (by kernel_rfl))
@[go_sem] theorem t64_12 : TK g64_12 := fun _ => nr (by kernel_rfl)
noncomputable def g64_13 : Array Oper := regAt Go.Proofs.Try.f64 13
@[go_sem] theorem x64_13 : XR 64 g64_13 [(some 46, (.load 213 (.tmp 9)), none), mvo 47 14, (some 48, (.lookup 213 (.tmp 46) (.tmp 47) true), none), mvo 45 48, (some 49, (.extract (.tmp 45) 0), none), (some 50, (.extract (.tmp 45) 1), none), (some 15, (.assign (.tmp 49)), none), (some 16, (.assign (.tmp 50)), none)] := XR.mk (nr (by kernel_rfl)) (nr (by kernel_rfl))
@[go_sem] theorem t64_13 : TK g64_13 := fun _ => nr (by kernel_rfl)
noncomputable def g64_14 : Array Oper := regAt Go.Proofs.Try.f64 14
@[go_sem] theorem x64_14 : XR 64 g64_14 [mvo 51 16, (some 52, (.unOp .not 4 (.tmp 51)), none), mvo 53 52, (some 54, (.move (.tmp 12)), some (53, false)), (some 55, (.binOp .geq 3 (.tmp 54) (.const (.int .i64 0)) 3), some (53, false)), (some 56, (.move (.tmp 55)), some (53, false)), (some 57, (.move (.tmp 15)), some (56, true)), (some 58, (.move (.tmp 13)), some (56, true)), (some 59, (.binOp .geq 3 (.tmp 57) (.tmp 58) 3), some (56, true)), (some 60, (.pick (.tmp 56) (.tmp 59) (.const (.bool false))), some (53, false)), (some 61, (.pick (.tmp 53) (.const (.bool true)) (.tmp 60)), none)] := XR.mk (nr (by kernel_rfl)) (nr (by kernel_rfl))
@[go_sem] theorem t64_14 : TK g64_14 := fun _ => nr (by kernel_rfl)
noncomputable def g64_15 : Array Oper := regAt Go.Proofs.Try.f64 15
@[go_sem] theorem x64_15 : XR 64 g64_15 [mvo 62 14, mvo 63 15, (some 12, (.assign (.tmp 62)), none), (some 13, (.assign (.tmp 63)), none)] := XR.mk (nr (by kernel_rfl)) (nr (by kernel_rfl))
@[go_sem] theorem t64_15 : TK g64_15 := fun _ => nr (by kernel_rfl)
noncomputable def g64_16 : Array Oper := regAt Go.Proofs.Try.f64 16
@[go_sem] theorem x64_16 : XR 64 g64_16 [(some 64, (.binOp .add 3 (.tmp 42) (.const (.int .i64 1)) 3), none), mvo 42 64] := XR.mk (nr (by kernel_rfl)) (nr (by kernel_rfl))
@[go_sem] theorem t64_16 : TK g64_16 := fun _ => nr (by kernel_rfl)
noncomputable def g64_17 : Array Oper := regAt Go.Proofs.Try.f64 17
@[go_sem] theorem x64_17 : XR 64 g64_17 [mvo 65 12, mvo 66 1, (some 67, (.binOp .eql 3 (.tmp 65) (.tmp 66) 3), none)] := XR.mk (nr (by kernel_rfl)) (nr (by kernel_rfl))
@[go_sem] theorem t64_17 : TK g64_17 := fun _ => nr (by kernel_rfl)
noncomputable def g64_18 : Array Oper := regAt Go.Proofs.Try.f64 18
@[go_sem] theorem x64_18 : XR 64 g64_18 [mvo 68 13, (some 4, (.assign (.tmp 68)), none), (some 5, (.assign (.const (.bool true))), none)] := XR.mk (nr (by kernel_rfl)) (nr (by kernel_rfl))
@[go_sem] theorem t64_18 : TK g64_18 := fun _ => nr (by kernel_rfl)
noncomputable def g64_19 : Array Oper := regAt Go.Proofs.Try.f64 19
@[go_sem] theorem x64_19 : XR 64 g64_19 [(some 69, (.load 213 (.tmp 9)), none), mvo 70 12, (none, (.call ⟨(.builtin .delete), #[(.tmp 69), (.tmp 70)], #[213, 3]⟩), none)] := XR.mk (nr (by kernel_rfl)) (nr (by kernel_rfl))
@[go_sem] theorem t64_19 : TK g64_19 := fun _ => nr (by kernel_rfl)
noncomputable def g64_20 : Array Oper := regAt Go.Proofs.Try.f64 20
@[go_sem] theorem x64_20 : XR 64 g64_20 [(some 71, (.load 213 (.tmp 10)), none), mvo 72 12, (some 73, (.lookup 213 (.tmp 71) (.tmp 72) false), none), (some 74, (.binOp .gtr 3 (.tmp 73) (.const (.int .i64 0)) 3), none)] := XR.mk (nr (by kernel_rfl)) (nr (by kernel_rfl))
@[go_sem] theorem t64_20 : TK g64_20 := fun _ => nr (by kernel_rfl)
noncomputable def g64_21 : Array Oper := regAt Go.Proofs.Try.f64 21
@[go_sem] theorem x64_21 : XR 64 g64_21 [(some 75, (.load 213 (.tmp 10)), none), mvo 76 12, (none, (.mapUpdate 213 (.tmp 75) (.tmp 76) (.const (.int .i64 1))), none)] := XR.mk (nr (by kernel_rfl)) (nr (by kernel_rfl))
@[go_sem] theorem t64_21 : TK g64_21 := fun _ => nr (by kernel_rfl)
noncomputable def g64_22 : Array Oper := regAt Go.Proofs.Try.f64 22
@[go_sem] theorem x64_22 : XR 64 g64_22 [mvo 77 11, mvo 78 12, mvo 79 13, (some 80, (.call ⟨(.value (.tmp 77)), #[(.tmp 78), (.tmp 79)], #[3, 3]⟩), none)] := XR.mk (nr (by kernel_rfl)) (nr (by kernel_rfl))
@[go_sem] theorem t64_22 : TK g64_22 := fun _ => nr (by kernel_rfl)
noncomputable def g64_23 : Array Oper := regAt Go.Proofs.Try.f64 23
@[go_sem] theorem x64_23 : XR 64 g64_23 [(some 4, (.assign (.const (.int .i64 0))), none), (some 5, (.assign (.const (.bool false))), none)] := XR.mk (nr (by kernel_rfl)) (nr (by kernel_rfl))
@[go_sem] theorem t64_23 : TK g64_23 := fun _ => nr (by kernel_rfl)
noncomputable def l64_0 : Code := (.seq (.region 11 g64_11 false) (.seq (.cond (.tmp 43) .skip (.exit 2)) (.seq (.block 3 (.seq (.region 12 g64_12 false) (.seq (.region 13 g64_13 false) (.seq (.seq (.region 14 g64_14 false) (.cond (.tmp 61) (.exit 3) .skip)) (.region 15 g64_15 false))))) (.region 16 g64_16 false))))
theorem dl64_0 {ro nt : Nat} {fr : PT} {H : Hp} : (den cx).loop ro 64 nt l64_0 fr H = xbind (ex cx (den cx) ro 64 nt (.seq (.region 11 g64_11 false) (.seq (.cond (.tmp 43) .skip (.exit 2)) (.seq (.block 3 (.seq (.region 12 g64_12 false) (.seq (.region 13 g64_13 false) (.seq (.seq (.region 14 g64_14 false) (.cond (.tmp 61) (.exit 3) .skip)) (.region 15 g64_15 false))))) (.region 16 g64_16 false)))) fr H) (contR (trimmed ((den cx).loop ro 64 nt l64_0) H.length)) := den_loop_x l64_0
noncomputable def l64_1 : Code := (.seq (.seq (.region 8 g64_8 false) (.cond (.tmp 39) .skip (.exit 0))) (.block 1 (.seq (.region 9 g64_9 false) (.seq (.seq (.region 10 g64_10 false) (.block 2 (.loop l64_0))) (.seq (.seq (.region 17 g64_17 false) (.cond (.tmp 67) (.seq (.region 18 g64_18 false) .ret) .skip)) (.seq (.region 19 g64_19 false) (.seq (.seq (.region 20 g64_20 false) (.cond (.tmp 74) (.exit 1) .skip)) (.seq (.region 21 g64_21 false) (.region 22 g64_22 false)))))))))
theorem dl64_1 {ro nt : Nat} {fr : PT} {H : Hp} : (den cx).loop ro 64 nt l64_1 fr H = xbind (ex cx (den cx) ro 64 nt (.seq (.seq (.region 8 g64_8 false) (.cond (.tmp 39) .skip (.exit 0))) (.block 1 (.seq (.region 9 g64_9 false) (.seq (.seq (.region 10 g64_10 false) (.block 2 (.loop l64_0))) (.seq (.seq (.region 17 g64_17 false) (.cond (.tmp 67) (.seq (.region 18 g64_18 false) .ret) .skip)) (.seq (.region 19 g64_19 false) (.seq (.seq (.region 20 g64_20 false) (.cond (.tmp 74) (.exit 1) .skip)) (.seq (.region 21 g64_21 false) (.region 22 g64_22 false))))))))) fr H) (contR (trimmed ((den cx).loop ro 64 nt l64_1) H.length)) := den_loop_x l64_1
theorem b64 : Go.Proofs.Try.f64.body = some (.seq (.region 0 g64_0 false) (.scope (.seq (.region 1 g64_1 false) (.seq (.seq (.region 2 g64_2 false) (.seq (.region 3 g64_3 false) (.cond (.tmp 30) (.seq (.region 4 g64_4 false) .ret) .skip))) (.seq (.region 5 g64_5 false) (.seq (.region 6 g64_6 false) (.seq (.region 7 g64_7 false) (.seq (.label 0) (.seq (.block 0 (.loop l64_1)) (.seq (.region 23 g64_23 false) .ret)))))))))) := by kernel_rfl
theorem c64 {h : Hd} {ro : Nat} {H : Hp} (a0 a1 : AV) : callB cx h ro 64 [a0, a1] H = returned cx [(.tmp 4), (.tmp 5)] (ex cx h ro 64 81 (.seq (.region 0 g64_0 false) (.scope (.seq (.region 1 g64_1 false) (.seq (.seq (.region 2 g64_2 false) (.seq (.region 3 g64_3 false) (.cond (.tmp 30) (.seq (.region 4 g64_4 false) .ret) .skip))) (.seq (.region 5 g64_5 false) (.seq (.region 6 g64_6 false) (.seq (.region 7 g64_7 false) (.seq (.label 0) (.seq (.block 0 (.loop l64_1)) (.seq (.region 23 g64_23 false) .ret)))))))))) ((PT.nil.set 0 (drp a0)).set 1 (drp a1)) H) := by
  have hf : cx.fns 64 = some Go.Proofs.Try.f64 := by kernel_rfl
  simp only [callB, hf, funced, b64, bodied]
  rfl
/-! function 126: colloquy/order.Back$1 -/
noncomputable def g126_0 : Array Oper := regAt Go.Proofs.Try.f126 0
@[go_sem] theorem x126_0 : XR 126 g126_0 [(some 6, (.box 3 (.tmp 1)), none)] := XR.mk (nr (by kernel_rfl)) (nr (by kernel_rfl))
@[go_sem] theorem t126_0 : TK g126_0 := fun _ => nr (by kernel_rfl)
noncomputable def g126_1 : Array Oper := regAt Go.Proofs.Try.f126 1
@[go_sem] theorem x126_1 : XUR 126 g126_1 [(0, 0, [], (some 11, (.load 212 (.tmp 2)), none)), (1, 0, [0], mvo 12 0), (2, 0, [0, 1], (some 13, (.load 212 (.tmp 2)), none)), (3, 0, [0, 1, 2], mvo 14 0), (4, 0, [0, 1], (some 15, (.indexAddr 212 (.tmp 13) (.tmp 14)), none)), (5, 0, [0, 1], (some 16, (.fieldAddr 66 (.tmp 15) 4), none)), (6, 0, [0, 1], (some 17, (.load 64 (.tmp 16)), none)), (7, 0, [], (some 18, (.call ⟨(.value (.func 127)), #[(.tmp 11), (.tmp 12), (.tmp 17)], #[212, 3, 64]⟩), none))] 0 := XUR.mk (nr (by kernel_rfl)) (nr (by kernel_rfl)) (nr (by kernel_rfl)) (nr (by kernel_rfl)) (nr (by kernel_rfl))
@[go_sem] theorem t126_1 : TK g126_1 := fun _ => nr (by kernel_rfl)
noncomputable def g126_2 : Array Oper := regAt Go.Proofs.Try.f126 2
@[go_sem] theorem x126_2 : XR 126 g126_2 [(some 7, (.assign (.tmp 19)), none)] := XR.mk (nr (by kernel_rfl)) (nr (by kernel_rfl))
@[go_sem] theorem t126_2 : TK g126_2 := fun _ => nr (by kernel_rfl)
noncomputable def g126_3 : Array Oper := regAt Go.Proofs.Try.f126 3
@[go_sem] theorem x126_3 : XR 126 g126_3 [(some 8, (.assign (.tmp 20)), none)] := XR.mk (nr (by kernel_rfl)) (nr (by kernel_rfl))
@[go_sem] theorem t126_3 : TK g126_3 := fun _ => nr (by kernel_rfl)
noncomputable def g126_4 : Array Oper := regAt Go.Proofs.Try.f126 4
@[go_sem] theorem x126_4 : XR 126 g126_4 [(some 22, (.load 213 (.tmp 3)), none), mvo 23 7, (some 24, (.lookup 213 (.tmp 22) (.tmp 23) true), none), mvo 21 24, (some 25, (.extract (.tmp 21) 0), none), (some 26, (.extract (.tmp 21) 1), none), (some 9, (.assign (.tmp 25)), none), (some 10, (.assign (.tmp 26)), none)] := XR.mk (nr (by kernel_rfl)) (nr (by kernel_rfl))
@[go_sem] theorem t126_4 : TK g126_4 := fun _ => nr (by kernel_rfl)
noncomputable def g126_5 : Array Oper := regAt Go.Proofs.Try.f126 5
@[go_sem] theorem x126_5 : XR 126 g126_5 [(some 27, (.load 213 (.tmp 4)), none), mvo 28 7, (some 29, (.lookup 213 (.tmp 27) (.tmp 28) false), none), (some 30, (.binOp .eql 3 (.tmp 29) (.const (.int .i64 0)) 3), none), mvo 31 30, (some 32, (.move (.tmp 10)), some (31, true)), (some 33, (.unOp .not 4 (.tmp 32)), some (31, true)), (some 34, (.move (.tmp 33)), some (31, true)), (some 35, (.load 3 (.tmp 6)), some (34, false)), (some 36, (.move (.tmp 8)), some (34, false)), (some 37, (.binOp .add 3 (.tmp 35) (.tmp 36) 3), some (34, false)), (some 38, (.move (.tmp 9)), some (34, false)), (some 39, (.binOp .lss 3 (.tmp 37) (.tmp 38) 3), some (34, false)), (some 40, (.pick (.tmp 34) (.const (.bool true)) (.tmp 39)), some (31, true)), (some 41, (.pick (.tmp 31) (.tmp 40) (.const (.bool false))), none)] := XR.mk (nr (by kernel_rfl)) (nr (by kernel_rfl))
@[go_sem] theorem t126_5 : TK g126_5 := fun _ => nr (by kernel_rfl)
noncomputable def g126_6 : Array Oper := regAt Go.Proofs.Try.f126 6
@[go_sem] theorem x126_6 : XR 126 g126_6 [(some 42, (.load 213 (.tmp 3)), none), mvo 43 7, (some 44, (.load 3 (.tmp 6)), none), mvo 45 8, (some 46, (.binOp .add 3 (.tmp 44) (.tmp 45) 3), none), (none, (.mapUpdate 213 (.tmp 42) (.tmp 43) (.tmp 46)), none)] := XR.mk (nr (by kernel_rfl)) (nr (by kernel_rfl))
@[go_sem] theorem t126_6 : TK g126_6 := fun _ => nr (by kernel_rfl)
noncomputable def q126_0 : Code := (.seq (.region 2 g126_2 false) (.region 3 g126_3 false))
noncomputable def r126_0 : Code := (.block 1 (.seq (.region 4 g126_4 false) (.seq (.region 5 g126_5 false) (.cond (.tmp 41) (.region 6 g126_6 false) .skip))))
theorem b126 : Go.Proofs.Try.f126.body = some (.seq (.region 0 g126_0 false) (.seq (.region 1 g126_1 true) (.block 0 (.rangeFunc (.tmp 18) #[19, 20] q126_0 r126_0)))) := by kernel_rfl
theorem c126 {h : Hd} {ro : Nat} {H : Hp} (a0 a1 a2 a3 a4 : AV) : callB cx h ro 126 [a0, a1, a2, a3, a4] H = returned cx [] (ex cx h ro 126 47 (.seq (.region 0 g126_0 false) (.seq (.region 1 g126_1 true) (.block 0 (.rangeFunc (.tmp 18) #[19, 20] q126_0 r126_0)))) (((((PT.nil.set 0 (drp a0)).set 1 (drp a1)).set 2 (drp a2)).set 3 (drp a3)).set 4 (drp a4)) H) := by
  have hf : cx.fns 126 = some Go.Proofs.Try.f126 := by kernel_rfl
  simp only [callB, hf, funced, b126, bodied]
  rfl
end Go.Abs.Tab

/- Codes of this seat's functions, their regions step by step. (Printed by a program.) -/
set_option linter.unusedVariables false
namespace Go.Abs.Tab
/-! function 66: colloquy/colloquylaw05.works -/
noncomputable def g66_0 : Array Oper := regAt Go.Proofs.Try.f66 0
@[go_sem] theorem x66_0 : XR 66 g66_0 [(some 0, (.assign (.const (.bool false))), none)] := XR.mk (nr (by kernel_rfl)) (nr (by kernel_rfl))
@[go_sem] theorem t66_0 : TK g66_0 := fun _ => nr (by kernel_rfl)
noncomputable def g66_1 : Array Oper := regAt Go.Proofs.Try.f66 1
@[go_sem] theorem x66_1 : XR 66 g66_1 [(some 19, (.call ⟨(.value (.func 71)), #[(.const (.int .i64 1)), (.const (.int .i64 0)), (.const (.int .i64 1)), (.const (.int .i64 0))], #[3, 3, 3, 3]⟩), none), (some 20, (.call ⟨(.value (.func 71)), #[(.const (.int .i64 2)), (.const (.int .i64 1)), (.const (.int .i64 0)), (.const (.int .i64 2))], #[3, 3, 3, 3]⟩), none), (some 21, (.buildSlice 56 2 #[(0, (.tmp 19)), (1, (.tmp 20))]), none), (some 1, (.assign (.tmp 21)), none)] := XR.mk (nr (by kernel_rfl)) (nr (by kernel_rfl))
@[go_sem] theorem t66_1 : TK g66_1 := fun _ => nr (by kernel_rfl)
noncomputable def g66_2 : Array Oper := regAt Go.Proofs.Try.f66 2
@[go_sem] theorem x66_2 : XR 66 g66_2 [(some 22, (.call ⟨(.value (.func 71)), #[(.const (.int .i64 1)), (.const (.int .i64 0)), (.const (.int .i64 1)), (.const (.int .i64 0))], #[3, 3, 3, 3]⟩), none), (some 23, (.call ⟨(.value (.func 71)), #[(.const (.int .i64 2)), (.const (.int .i64 1)), (.const (.int .i64 0)), (.const (.int .i64 1))], #[3, 3, 3, 3]⟩), none), (some 24, (.buildSlice 56 2 #[(0, (.tmp 22)), (1, (.tmp 23))]), none), (some 2, (.assign (.tmp 24)), none)] := XR.mk (nr (by kernel_rfl)) (nr (by kernel_rfl))
@[go_sem] theorem t66_2 : TK g66_2 := fun _ => nr (by kernel_rfl)
noncomputable def g66_3 : Array Oper := regAt Go.Proofs.Try.f66 3
@[go_sem] theorem x66_3 : XR 66 g66_3 [(some 25, (.build 63 #[(0, (.const (.int .i64 1)))]), none), (some 26, (.build 63 #[(0, (.const (.int .i64 1)))]), none), (some 27, (.buildSlice 64 1 #[(0, (.tmp 26))]), none), (some 28, (.build 66 #[(0, (.const (.int .i64 1))), (1, (.const (.int .i64 3))), (2, (.const (.bool true))), (3, (.tmp 25)), (4, (.tmp 27))]), none), (some 29, (.build 66 #[]), none), (some 30, (.buildSlice 56 2 #[(0, (.tmp 28)), (1, (.tmp 29))]), none), (some 3, (.assign (.tmp 30)), none)] := XR.mk (nr (by kernel_rfl)) (nr (by kernel_rfl))
@[go_sem] theorem t66_3 : TK g66_3 := fun _ => nr (by kernel_rfl)
noncomputable def g66_4 : Array Oper := regAt Go.Proofs.Try.f66 4
@[go_sem] theorem x66_4 : XR 66 g66_4 [(some 31, (.build 63 #[(0, (.const (.int .i64 1)))]), none), (some 32, (.buildSlice 64 1 #[(0, (.tmp 31))]), none), (some 33, (.build 66 #[(0, (.const (.int .i64 1))), (2, (.const (.bool true))), (4, (.tmp 32))]), none), (some 34, (.build 66 #[]), none), (some 35, (.buildSlice 56 2 #[(0, (.tmp 33)), (1, (.tmp 34))]), none), (some 4, (.assign (.tmp 35)), none)] := XR.mk (nr (by kernel_rfl)) (nr (by kernel_rfl))
@[go_sem] theorem t66_4 : TK g66_4 := fun _ => nr (by kernel_rfl)
noncomputable def g66_5 : Array Oper := regAt Go.Proofs.Try.f66 5
@[go_sem] theorem x66_5 : XR 66 g66_5 [mvo 37 1, (some 38, (.call ⟨(.value (.func 67)), #[(.tmp 37)], #[56]⟩), none), mvo 36 38, (some 39, (.extract (.tmp 36) 0), none), (some 40, (.extract (.tmp 36) 1), none), (some 5, (.assign (.tmp 39)), none), (some 6, (.assign (.tmp 40)), none)] := XR.mk (nr (by kernel_rfl)) (nr (by kernel_rfl))
@[go_sem] theorem t66_5 : TK g66_5 := fun _ => nr (by kernel_rfl)
noncomputable def g66_6 : Array Oper := regAt Go.Proofs.Try.f66 6
@[go_sem] theorem x66_6 : XR 66 g66_6 [mvo 42 2, (some 43, (.call ⟨(.value (.func 67)), #[(.tmp 42)], #[56]⟩), none), mvo 41 43, (some 44, (.extract (.tmp 41) 0), none), (some 45, (.extract (.tmp 41) 1), none), (some 7, (.assign (.tmp 44)), none), (some 8, (.assign (.tmp 45)), none)] := XR.mk (nr (by kernel_rfl)) (nr (by kernel_rfl))
@[go_sem] theorem t66_6 : TK g66_6 := fun _ => nr (by kernel_rfl)
noncomputable def g66_7 : Array Oper := regAt Go.Proofs.Try.f66 7
@[go_sem] theorem x66_7 : XR 66 g66_7 [mvo 47 3, (some 48, (.call ⟨(.value (.func 67)), #[(.tmp 47)], #[56]⟩), none), mvo 46 48, (some 49, (.extract (.tmp 46) 0), none), (some 50, (.extract (.tmp 46) 1), none), (some 9, (.assign (.tmp 49)), none), (some 10, (.assign (.tmp 50)), none)] := XR.mk (nr (by kernel_rfl)) (nr (by kernel_rfl))
@[go_sem] theorem t66_7 : TK g66_7 := fun _ => nr (by kernel_rfl)
noncomputable def g66_8 : Array Oper := regAt Go.Proofs.Try.f66 8
@[go_sem] theorem x66_8 : XR 66 g66_8 [mvo 52 4, (some 53, (.call ⟨(.value (.func 67)), #[(.tmp 52)], #[56]⟩), none), mvo 51 53, (some 54, (.extract (.tmp 51) 0), none), (some 55, (.extract (.tmp 51) 1), none), (some 11, (.assign (.tmp 54)), none), (some 12, (.assign (.tmp 55)), none)] := XR.mk (nr (by kernel_rfl)) (nr (by kernel_rfl))
@[go_sem] theorem t66_8 : TK g66_8 := fun _ => nr (by kernel_rfl)
noncomputable def g66_9 : Array Oper := regAt Go.Proofs.Try.f66 9
@[go_sem] theorem x66_9 : XR 66 g66_9 [mvo 57 1, (some 58, (.call ⟨(.value (.func 64)), #[(.tmp 57), (.const (.int .i64 0))], #[56, 3]⟩), none), mvo 56 58, (some 59, (.extract (.tmp 56) 0), none), (some 60, (.extract (.tmp 56) 1), none), (some 13, (.assign (.tmp 59)), none), (some 14, (.assign (.tmp 60)), none)] := XR.mk (nr (by kernel_rfl)) (nr (by kernel_rfl))
@[go_sem] theorem t66_9 : TK g66_9 := fun _ => nr (by kernel_rfl)
noncomputable def g66_10 : Array Oper := regAt Go.Proofs.Try.f66 10
@[go_sem] theorem x66_10 : XR 66 g66_10 [mvo 62 2, (some 63, (.call ⟨(.value (.func 64)), #[(.tmp 62), (.const (.int .i64 0))], #[56, 3]⟩), none), mvo 61 63, (some 64, (.extract (.tmp 61) 0), none), (some 65, (.extract (.tmp 61) 1), none), (some 15, (.assign (.tmp 64)), none), (some 16, (.assign (.tmp 65)), none)] := XR.mk (nr (by kernel_rfl)) (nr (by kernel_rfl))
@[go_sem] theorem t66_10 : TK g66_10 := fun _ => nr (by kernel_rfl)
noncomputable def g66_11 : Array Oper := regAt Go.Proofs.Try.f66 11
@[go_sem] theorem x66_11 : XR 66 g66_11 [mvo 67 3, (some 68, (.call ⟨(.value (.func 64)), #[(.tmp 67), (.const (.int .i64 0))], #[56, 3]⟩), none), mvo 66 68, (some 69, (.extract (.tmp 66) 0), none), (some 70, (.extract (.tmp 66) 1), none), (some 17, (.assign (.tmp 69)), none), (some 18, (.assign (.tmp 70)), none)] := XR.mk (nr (by kernel_rfl)) (nr (by kernel_rfl))
@[go_sem] theorem t66_11 : TK g66_11 := fun _ => nr (by kernel_rfl)
noncomputable def g66_12 : Array Oper := regAt Go.Proofs.Try.f66 12
@[go_sem] theorem x66_12 : XR 66 g66_12 [mvo 71 5, (some 72, (.binOp .eql 3 (.tmp 71) (.const (.int .i64 (-1))) 3), none), mvo 73 72, (some 74, (.move (.tmp 6)), some (73, true)), (some 75, (.binOp .eql 27 (.tmp 74) (.const (.int .i64 0)) 27), some (73, true)), (some 76, (.pick (.tmp 73) (.tmp 75) (.const (.bool false))), none), mvo 77 76, (some 78, (.move (.tmp 7)), some (77, true)), (some 79, (.binOp .eql 3 (.tmp 78) (.const (.int .i64 1)) 3), some (77, true)), (some 80, (.pick (.tmp 77) (.tmp 79) (.const (.bool false))), none), mvo 81 80, (some 82, (.move (.tmp 8)), some (81, true)), (some 83, (.binOp .eql 27 (.tmp 82) (.const (.int .i64 10)) 27), some (81, true)), (some 84, (.pick (.tmp 81) (.tmp 83) (.const (.bool false))), none), mvo 85 84, (some 86, (.move (.tmp 9)), some (85, true)), (some 87, (.binOp .eql 3 (.tmp 86) (.const (.int .i64 (-1))) 3), some (85, true)), (some 88, (.pick (.tmp 85) (.tmp 87) (.const (.bool false))), none), mvo 89 88, (some 90, (.move (.tmp 10)), some (89, true)), (some 91, (.binOp .eql 27 (.tmp 90) (.const (.int .i64 0)) 27), some (89, true)), (some 92, (.pick (.tmp 89) (.tmp 91) (.const (.bool false))), none), mvo 93 92, (some 94, (.move (.tmp 11)), some (93, true)), (some 95, (.binOp .eql 3 (.tmp 94) (.const (.int .i64 0)) 3), some (93, true)), (some 96, (.pick (.tmp 93) (.tmp 95) (.const (.bool false))), none), mvo 97 96, (some 98, (.move (.tmp 12)), some (97, true)), (some 99, (.binOp .eql 27 (.tmp 98) (.const (.int .i64 10)) 27), some (97, true)), (some 100, (.pick (.tmp 97) (.tmp 99) (.const (.bool false))), none), mvo 101 100, (some 102, (.move (.tmp 13)), some (101, true)), (some 103, (.binOp .eql 3 (.tmp 102) (.const (.int .i64 2)) 3), some (101, true)), (some 104, (.pick (.tmp 101) (.tmp 103) (.const (.bool false))), none), mvo 105 104, (some 106, (.move (.tmp 14)), some (105, true)), (some 107, (.pick (.tmp 105) (.tmp 106) (.const (.bool false))), none), mvo 108 107, (some 109, (.move (.tmp 16)), some (108, true)), (some 110, (.unOp .not 4 (.tmp 109)), some (108, true)), (some 111, (.pick (.tmp 108) (.tmp 110) (.const (.bool false))), none), mvo 112 111, (some 113, (.move (.tmp 18)), some (112, true)), (some 114, (.unOp .not 4 (.tmp 113)), some (112, true)), (some 115, (.pick (.tmp 112) (.tmp 114) (.const (.bool false))), none), (some 0, (.assign (.tmp 115)), none)] := XR.mk (nr (by kernel_rfl)) (nr (by kernel_rfl))
@[go_sem] theorem t66_12 : TK g66_12 := fun _ => nr (by kernel_rfl)
theorem b66 : Go.Proofs.Try.f66.body = some (.seq (.region 0 g66_0 false) (.seq (.region 1 g66_1 false) (.seq (.region 2 g66_2 false) (.seq (.region 3 g66_3 false) (.seq (.region 4 g66_4 false) (.seq (.region 5 g66_5 false) (.seq (.region 6 g66_6 false) (.seq (.region 7 g66_7 false) (.seq (.region 8 g66_8 false) (.seq (.region 9 g66_9 false) (.seq (.region 10 g66_10 false) (.seq (.region 11 g66_11 false) (.seq (.region 12 g66_12 false) .ret))))))))))))) := by kernel_rfl
theorem c66 {h : Hd} {ro : Nat} {H : Hp} : callB cx h ro 66 [] H = returned cx [(.tmp 0)] (ex cx h ro 66 116 (.seq (.region 0 g66_0 false) (.seq (.region 1 g66_1 false) (.seq (.region 2 g66_2 false) (.seq (.region 3 g66_3 false) (.seq (.region 4 g66_4 false) (.seq (.region 5 g66_5 false) (.seq (.region 6 g66_6 false) (.seq (.region 7 g66_7 false) (.seq (.region 8 g66_8 false) (.seq (.region 9 g66_9 false) (.seq (.region 10 g66_10 false) (.seq (.region 11 g66_11 false) (.seq (.region 12 g66_12 false) .ret))))))))))))) PT.nil H) := by
  have hf : cx.fns 66 = some Go.Proofs.Try.f66 := by kernel_rfl
  simp only [callB, hf, funced, b66, bodied]
  rw [if_pos (of_decide_eq_true (by kernel_rfl))]
  rfl
/-! function 71: colloquy/colloquylaw05.word -/
noncomputable def g71_0 : Array Oper := regAt Go.Proofs.Try.f71 0
@[go_sem] theorem x71_0 : XR 71 g71_0 [(some 8, (.alloc 66), none)] := XR.mk (nr (by kernel_rfl)) (nr (by kernel_rfl))
@[go_sem] theorem t71_0 : TK g71_0 := fun _ => nr (by kernel_rfl)
noncomputable def g71_1 : Array Oper := regAt Go.Proofs.Try.f71 1
@[go_sem] theorem x71_1 : XR 71 g71_1 [mvo 9 0, mvo 10 1, mvo 11 2, mvo 12 3, (some 13, (.build 63 #[(0, (.tmp 11)), (1, (.tmp 12))]), none), (some 14, (.buildSlice 64 1 #[(0, (.tmp 13))]), none), (some 15, (.build 66 #[(0, (.tmp 9)), (1, (.tmp 10)), (4, (.tmp 14))]), none), (none, (.store 66 (.tmp 8) (.tmp 15)), none)] := XR.mk (nr (by kernel_rfl)) (nr (by kernel_rfl))
@[go_sem] theorem t71_1 : TK g71_1 := fun _ => nr (by kernel_rfl)
theorem b71 : Go.Proofs.Try.f71.body = some (.seq (.region 0 g71_0 false) (.seq (.region 1 g71_1 false) .ret)) := by kernel_rfl
theorem c71 {h : Hd} {ro : Nat} {H : Hp} (a0 a1 a2 a3 : AV) : callB cx h ro 71 [a0, a1, a2, a3] H = returned cx [(.cell 8 66)] (ex cx h ro 71 16 (.seq (.region 0 g71_0 false) (.seq (.region 1 g71_1 false) .ret)) ((((PT.nil.set 0 (drp a0)).set 1 (drp a1)).set 2 (drp a2)).set 3 (drp a3)) H) := by
  have hf : cx.fns 71 = some Go.Proofs.Try.f71 := by kernel_rfl
  simp only [callB, hf, funced, b71, bodied]
  rfl
/-! function 18: colloquy/colloquylaw05.OrderShifted -/
noncomputable def g18_0 : Array Oper := regAt Go.Proofs.Try.f18 0
@[go_sem] theorem x18_0 : XR 18 g18_0 [(some 4, (.assign (.const (.bool false))), none)] := XR.mk (nr (by kernel_rfl)) (nr (by kernel_rfl))
@[go_sem] theorem t18_0 : TK g18_0 := fun _ => nr (by kernel_rfl)
noncomputable def g18_1 : Array Oper := regAt Go.Proofs.Try.f18 1
@[go_sem] theorem x18_1 : XR 18 g18_1 [(some 27, (.call ⟨(.value (.func 66)), #[], #[]⟩), none), (some 28, (.unOp .not 4 (.tmp 27)), none)] := XR.mk (nr (by kernel_rfl)) (nr (by kernel_rfl))
@[go_sem] theorem t18_1 : TK g18_1 := fun _ => nr (by kernel_rfl)
noncomputable def g18_2 : Array Oper := regAt Go.Proofs.Try.f18 2
@[go_sem] theorem x18_2 : XR 18 g18_2 [(some 4, (.assign (.const (.bool false))), none)] := XR.mk (nr (by kernel_rfl)) (nr (by kernel_rfl))
@[go_sem] theorem t18_2 : TK g18_2 := fun _ => nr (by kernel_rfl)
noncomputable def g18_3 : Array Oper := regAt Go.Proofs.Try.f18 3
@[go_sem] theorem x18_3 : XR 18 g18_3 [mvo 29 0, (some 30, (.call ⟨(.value (.func 63)), #[(.tmp 29)], #[56]⟩), none), (some 0, (.assign (.tmp 30)), none)] := XR.mk (nr (by kernel_rfl)) (nr (by kernel_rfl))
@[go_sem] theorem t18_3 : TK g18_3 := fun _ => nr (by kernel_rfl)
noncomputable def g18_4 : Array Oper := regAt Go.Proofs.Try.f18 4
@[go_sem] theorem x18_4 : XR 18 g18_4 [(some 5, (.assign (.const (.slice none 0 0))), none), (some 6, (.assign (.const (.slice none 0 0))), none), (some 7, (.assign (.const (.slice none 0 0))), none)] := XR.mk (nr (by kernel_rfl)) (nr (by kernel_rfl))
@[go_sem] theorem t18_4 : TK g18_4 := fun _ => nr (by kernel_rfl)
noncomputable def g18_5 : Array Oper := regAt Go.Proofs.Try.f18 5
@[go_sem] theorem x18_5 : XR 18 g18_5 [(some 8, (.assign (.const (.int .i64 0))), none)] := XR.mk (nr (by kernel_rfl)) (nr (by kernel_rfl))
@[go_sem] theorem t18_5 : TK g18_5 := fun _ => nr (by kernel_rfl)
noncomputable def g18_6 : Array Oper := regAt Go.Proofs.Try.f18 6
@[go_sem] theorem x18_6 : XR 18 g18_6 [mvo 31 8, mvo 32 0, (some 33, (.call ⟨(.builtin .len), #[(.tmp 32)], #[56]⟩), none), (some 34, (.binOp .lss 3 (.tmp 31) (.tmp 33) 3), none)] := XR.mk (nr (by kernel_rfl)) (nr (by kernel_rfl))
@[go_sem] theorem t18_6 : TK g18_6 := fun _ => nr (by kernel_rfl)
noncomputable def g18_7 : Array Oper := regAt Go.Proofs.Try.f18 7
@[go_sem] theorem x18_7 : XR 18 g18_7 [mvo 37 0, mvo 38 8, (some 39, (.indexAddr 56 (.tmp 37) (.tmp 38)), none), (some 40, (.load 66 (.tmp 39)), none), (some 9, (.alloc 66), none), (none, (.store 66 (.tmp 9) (.tmp 40)), none)] := XR.mk (nr (by kernel_rfl)) (nr (by kernel_rfl))
@[go_sem] theorem t18_7 : TK g18_7 := fun _ => nr (by kernel_rfl)
noncomputable def g18_8 : Array Oper := regAt Go.Proofs.Try.f18 8
@[go_sem] theorem x18_8 : XR 18 g18_8 [(some 41, (.fieldAddr 66 (.tmp 9) 0), none), (some 42, (.load 3 (.tmp 41)), none), (some 43, (.binOp .geq 3 (.tmp 42) (.const (.int .i64 1)) 3), none), mvo 44 43, (some 45, (.fieldAddr 66 (.tmp 9) 0), some (44, true)), (some 46, (.load 3 (.tmp 45)), some (44, true)), (some 47, (.binOp .leq 3 (.tmp 46) (.const (.int .i64 4)) 3), some (44, true)), (some 48, (.pick (.tmp 44) (.tmp 47) (.const (.bool false))), none)] := XR.mk (nr (by kernel_rfl)) (nr (by kernel_rfl))
@[go_sem] theorem t18_8 : TK g18_8 := fun _ => nr (by kernel_rfl)
noncomputable def g18_9 : Array Oper := regAt Go.Proofs.Try.f18 9
@[go_sem] theorem x18_9 : XR 18 g18_9 [(some 49, (.fieldAddr 66 (.tmp 9) 1), none), (some 50, (.load 3 (.tmp 49)), none), (some 51, (.binOp .rem 3 (.tmp 50) (.const (.int .i64 500)) 3), none), (some 52, (.fieldAddr 66 (.tmp 9) 1), none), (none, (.store 3 (.tmp 52) (.tmp 51)), none)] := XR.mk (nr (by kernel_rfl)) (nr (by kernel_rfl))
@[go_sem] theorem t18_9 : TK g18_9 := fun _ => nr (by kernel_rfl)
noncomputable def g18_10 : Array Oper := regAt Go.Proofs.Try.f18 10
@[go_sem] theorem x18_10 : XR 18 g18_10 [mvo 53 5, (some 54, (.load 66 (.tmp 9)), none), (some 55, (.buildSlice 56 1 #[(0, (.tmp 54))]), none), (some 56, (.call ⟨(.builtin .append), #[(.tmp 53), (.tmp 55)], #[56, 56]⟩), none), (some 5, (.assign (.tmp 56)), none)] := XR.mk (nr (by kernel_rfl)) (nr (by kernel_rfl))
@[go_sem] theorem t18_10_53 : takes g18_10 53 = true := nr (by kernel_rfl)
@[go_sem] theorem t18_10_54 : takes g18_10 54 = false := nr (by kernel_rfl)
@[go_sem] theorem t18_10_55 : takes g18_10 55 = false := nr (by kernel_rfl)
@[go_sem] theorem t18_10_56 : takes g18_10 56 = false := nr (by kernel_rfl)
@[go_sem] theorem t18_10_5 : takes g18_10 5 = false := nr (by kernel_rfl)
noncomputable def g18_11 : Array Oper := regAt Go.Proofs.Try.f18 11
@[go_sem] theorem x18_11 : XR 18 g18_11 [(some 57, (.load 66 (.tmp 9)), none), (some 10, (.alloc 66), none), (none, (.store 66 (.tmp 10) (.tmp 57)), none)] := XR.mk (nr (by kernel_rfl)) (nr (by kernel_rfl))
@[go_sem] theorem t18_11 : TK g18_11 := fun _ => nr (by kernel_rfl)
noncomputable def g18_12 : Array Oper := regAt Go.Proofs.Try.f18 12
@[go_sem] theorem x18_12 : XR 18 g18_12 [(some 58, (.fieldAddr 66 (.tmp 9) 0), none), (some 59, (.load 3 (.tmp 58)), none), (some 60, (.binOp .geq 3 (.tmp 59) (.const (.int .i64 1)) 3), none), mvo 61 60, (some 62, (.fieldAddr 66 (.tmp 9) 0), some (61, true)), (some 63, (.load 3 (.tmp 62)), some (61, true)), (some 64, (.binOp .leq 3 (.tmp 63) (.const (.int .i64 4)) 3), some (61, true)), (some 65, (.pick (.tmp 61) (.tmp 64) (.const (.bool false))), none), mvo 66 65, (some 67, (.fieldAddr 66 (.tmp 9) 1), some (66, true)), (some 68, (.load 3 (.tmp 67)), some (66, true)), (some 69, (.binOp .geq 3 (.tmp 68) (.const (.int .i64 0)) 3), some (66, true)), (some 70, (.pick (.tmp 66) (.tmp 69) (.const (.bool false))), none)] := XR.mk (nr (by kernel_rfl)) (nr (by kernel_rfl))
@[go_sem] theorem t18_12 : TK g18_12 := fun _ => nr (by kernel_rfl)
noncomputable def g18_13 : Array Oper := regAt Go.Proofs.Try.f18 13
@[go_sem] theorem x18_13 : XR 18 g18_13 [(some 71, (.fieldAddr 66 (.tmp 9) 1), none), (some 72, (.load 3 (.tmp 71)), none), mvo 73 1, (some 74, (.convert 5 3 (.tmp 73)), none), (some 75, (.binOp .add 3 (.tmp 72) (.tmp 74) 3), none), (some 76, (.fieldAddr 66 (.tmp 10) 1), none), (none, (.store 3 (.tmp 76) (.tmp 75)), none)] := XR.mk (nr (by kernel_rfl)) (nr (by kernel_rfl))
@[go_sem] theorem t18_13 : TK g18_13 := fun _ => nr (by kernel_rfl)
noncomputable def g18_14 : Array Oper := regAt Go.Proofs.Try.f18 14
@[go_sem] theorem x18_14 : XR 18 g18_14 [mvo 77 6, (some 78, (.load 66 (.tmp 10)), none), (some 79, (.buildSlice 56 1 #[(0, (.tmp 78))]), none), (some 80, (.call ⟨(.builtin .append), #[(.tmp 77), (.tmp 79)], #[56, 56]⟩), none), (some 6, (.assign (.tmp 80)), none)] := XR.mk (nr (by kernel_rfl)) (nr (by kernel_rfl))
@[go_sem] theorem t18_14_77 : takes g18_14 77 = true := nr (by kernel_rfl)
@[go_sem] theorem t18_14_78 : takes g18_14 78 = false := nr (by kernel_rfl)
@[go_sem] theorem t18_14_79 : takes g18_14 79 = false := nr (by kernel_rfl)
@[go_sem] theorem t18_14_80 : takes g18_14 80 = false := nr (by kernel_rfl)
@[go_sem] theorem t18_14_6 : takes g18_14 6 = false := nr (by kernel_rfl)
noncomputable def g18_15 : Array Oper := regAt Go.Proofs.Try.f18 15
@[go_sem] theorem x18_15 : XR 18 g18_15 [(some 81, (.load 66 (.tmp 9)), none), (some 11, (.alloc 66), none), (none, (.store 66 (.tmp 11) (.tmp 81)), none)] := XR.mk (nr (by kernel_rfl)) (nr (by kernel_rfl))
@[go_sem] theorem t18_15 : TK g18_15 := fun _ => nr (by kernel_rfl)
noncomputable def g18_16 : Array Oper := regAt Go.Proofs.Try.f18 16
@[go_sem] theorem x18_16 : XR 18 g18_16 [(some 82, (.fieldAddr 66 (.tmp 11) 4), none), (none, (.store 64 (.tmp 82) (.const (.slice none 0 0))), none)] := XR.mk (nr (by kernel_rfl)) (nr (by kernel_rfl))
@[go_sem] theorem t18_16 : TK g18_16 := fun _ => nr (by kernel_rfl)
noncomputable def g18_17 : Array Oper := regAt Go.Proofs.Try.f18 17
@[go_sem] theorem x18_17 : XR 18 g18_17 [(some 12, (.assign (.const (.int .i64 0))), none)] := XR.mk (nr (by kernel_rfl)) (nr (by kernel_rfl))
@[go_sem] theorem t18_17 : TK g18_17 := fun _ => nr (by kernel_rfl)
noncomputable def g18_18 : Array Oper := regAt Go.Proofs.Try.f18 18
@[go_sem] theorem x18_18 : XR 18 g18_18 [mvo 83 12, (some 84, (.fieldAddr 66 (.tmp 9) 4), none), (some 85, (.load 64 (.tmp 84)), none), (some 86, (.call ⟨(.builtin .len), #[(.tmp 85)], #[64]⟩), none), (some 87, (.binOp .lss 3 (.tmp 83) (.tmp 86) 3), none)] := XR.mk (nr (by kernel_rfl)) (nr (by kernel_rfl))
@[go_sem] theorem t18_18 : TK g18_18 := fun _ => nr (by kernel_rfl)
noncomputable def g18_19 : Array Oper := regAt Go.Proofs.Try.f18 19
@[go_sem] theorem x18_19 : XR 18 g18_19 [(some 90, (.fieldAddr 66 (.tmp 9) 4), none), (some 91, (.load 64 (.tmp 90)), none), mvo 92 12, (some 93, (.indexAddr 64 (.tmp 91) (.tmp 92)), none), (some 94, (.load 63 (.tmp 93)), none), (some 13, (.alloc 63), none), (none, (.store 63 (.tmp 13) (.tmp 94)), none)] := XR.mk (nr (by kernel_rfl)) (nr (by kernel_rfl))
@[go_sem] theorem t18_19 : TK g18_19 := fun _ => nr (by kernel_rfl)
noncomputable def g18_20 : Array Oper := regAt Go.Proofs.Try.f18 20
@[go_sem] theorem x18_20 : XR 18 g18_20 [(some 95, (.fieldAddr 63 (.tmp 13) 1), none), (some 96, (.load 3 (.tmp 95)), none), (some 97, (.binOp .geq 3 (.tmp 96) (.const (.int .i64 0)) 3), none), mvo 98 97, (some 99, (.fieldAddr 63 (.tmp 13) 1), some (98, true)), (some 100, (.load 3 (.tmp 99)), some (98, true)), (some 101, (.binOp .lss 3 (.tmp 100) (.const (.int .i64 900)) 3), some (98, true)), (some 102, (.pick (.tmp 98) (.tmp 101) (.const (.bool false))), none)] := XR.mk (nr (by kernel_rfl)) (nr (by kernel_rfl))
@[go_sem] theorem t18_20 : TK g18_20 := fun _ => nr (by kernel_rfl)
noncomputable def g18_21 : Array Oper := regAt Go.Proofs.Try.f18 21
@[go_sem] theorem x18_21 : XR 18 g18_21 [(some 103, (.fieldAddr 63 (.tmp 13) 1), none), (some 104, (.load 3 (.tmp 103)), none), (some 105, (.binOp .add 3 (.tmp 104) (.const (.int .i64 1)) 3), none), (some 106, (.fieldAddr 63 (.tmp 13) 1), none), (none, (.store 3 (.tmp 106) (.tmp 105)), none)] := XR.mk (nr (by kernel_rfl)) (nr (by kernel_rfl))
@[go_sem] theorem t18_21 : TK g18_21 := fun _ => nr (by kernel_rfl)
noncomputable def g18_22 : Array Oper := regAt Go.Proofs.Try.f18 22
@[go_sem] theorem x18_22 : XR 18 g18_22 [(some 107, (.fieldAddr 66 (.tmp 11) 4), none), (some 108, (.load 64 (.tmp 107)), none), (some 109, (.load 63 (.tmp 13)), none), (some 110, (.buildSlice 64 1 #[(0, (.tmp 109))]), none), (some 111, (.call ⟨(.builtin .append), #[(.tmp 108), (.tmp 110)], #[64, 64]⟩), none), (some 112, (.fieldAddr 66 (.tmp 11) 4), none), (none, (.store 64 (.tmp 112) (.tmp 111)), none)] := XR.mk (nr (by kernel_rfl)) (nr (by kernel_rfl))
@[go_sem] theorem t18_22_107 : takes g18_22 107 = false := nr (by kernel_rfl)
@[go_sem] theorem t18_22_108 : takes g18_22 108 = true := nr (by kernel_rfl)
@[go_sem] theorem t18_22_109 : takes g18_22 109 = false := nr (by kernel_rfl)
@[go_sem] theorem t18_22_110 : takes g18_22 110 = false := nr (by kernel_rfl)
@[go_sem] theorem t18_22_111 : takes g18_22 111 = false := nr (by kernel_rfl)
@[go_sem] theorem t18_22_112 : takes g18_22 112 = false := nr (by kernel_rfl)
noncomputable def g18_23 : Array Oper := regAt Go.Proofs.Try.f18 23
@[go_sem] theorem x18_23 : XR 18 g18_23 [mvo 88 12, (some 89, (.binOp .add 3 (.tmp 88) (.const (.int .i64 1)) 3), none), (some 12, (.assign (.tmp 89)), none)] := XR.mk (nr (by kernel_rfl)) (nr (by kernel_rfl))
@[go_sem] theorem t18_23 : TK g18_23 := fun _ => nr (by kernel_rfl)
noncomputable def g18_24 : Array Oper := regAt Go.Proofs.Try.f18 24
@[go_sem] theorem x18_24 : XR 18 g18_24 [mvo 113 7, (some 114, (.load 66 (.tmp 11)), none), (some 115, (.buildSlice 56 1 #[(0, (.tmp 114))]), none), (some 116, (.call ⟨(.builtin .append), #[(.tmp 113), (.tmp 115)], #[56, 56]⟩), none), (some 7, (.assign (.tmp 116)), none)] := XR.mk (nr (by kernel_rfl)) (nr (by kernel_rfl))
@[go_sem] theorem t18_24_113 : takes g18_24 113 = true := nr (by kernel_rfl)
@[go_sem] theorem t18_24_114 : takes g18_24 114 = false := nr (by kernel_rfl)
@[go_sem] theorem t18_24_115 : takes g18_24 115 = false := nr (by kernel_rfl)
@[go_sem] theorem t18_24_116 : takes g18_24 116 = false := nr (by kernel_rfl)
@[go_sem] theorem t18_24_7 : takes g18_24 7 = false := nr (by kernel_rfl)
noncomputable def g18_25 : Array Oper := regAt Go.Proofs.Try.f18 25
@[go_sem] theorem x18_25 : XR 18 g18_25 [mvo 35 8, (some 36, (.binOp .add 3 (.tmp 35) (.const (.int .i64 1)) 3), none), (some 8, (.assign (.tmp 36)), none)] := XR.mk (nr (by kernel_rfl)) (nr (by kernel_rfl))
@[go_sem] theorem t18_25 : TK g18_25 := fun _ => nr (by kernel_rfl)
noncomputable def g18_26 : Array Oper := regAt Go.Proofs.Try.f18 26
@[go_sem] theorem x18_26 : XR 18 g18_26 [mvo 118 5, (some 119, (.call ⟨(.value (.func 67)), #[(.tmp 118)], #[56]⟩), none), mvo 117 119, (some 120, (.extract (.tmp 117) 0), none), (some 121, (.extract (.tmp 117) 1), none), (some 14, (.assign (.tmp 120)), none), (some 15, (.assign (.tmp 121)), none)] := XR.mk (nr (by kernel_rfl)) (nr (by kernel_rfl))
@[go_sem] theorem t18_26 : TK g18_26 := fun _ => nr (by kernel_rfl)
noncomputable def g18_27 : Array Oper := regAt Go.Proofs.Try.f18 27
@[go_sem] theorem x18_27 : XR 18 g18_27 [mvo 123 6, (some 124, (.call ⟨(.value (.func 67)), #[(.tmp 123)], #[56]⟩), none), mvo 122 124, (some 125, (.extract (.tmp 122) 0), none), (some 126, (.extract (.tmp 122) 1), none), (some 16, (.assign (.tmp 125)), none), (some 17, (.assign (.tmp 126)), none)] := XR.mk (nr (by kernel_rfl)) (nr (by kernel_rfl))
@[go_sem] theorem t18_27 : TK g18_27 := fun _ => nr (by kernel_rfl)
noncomputable def g18_28 : Array Oper := regAt Go.Proofs.Try.f18 28
@[go_sem] theorem x18_28 : XR 18 g18_28 [mvo 128 7, (some 129, (.call ⟨(.value (.func 67)), #[(.tmp 128)], #[56]⟩), none), mvo 127 129, (some 130, (.extract (.tmp 127) 0), none), (some 131, (.extract (.tmp 127) 1), none), (some 18, (.assign (.tmp 130)), none), (some 19, (.assign (.tmp 131)), none)] := XR.mk (nr (by kernel_rfl)) (nr (by kernel_rfl))
@[go_sem] theorem t18_28 : TK g18_28 := fun _ => nr (by kernel_rfl)
noncomputable def g18_29 : Array Oper := regAt Go.Proofs.Try.f18 29
@[go_sem] theorem x18_29 : XR 18 g18_29 [mvo 132 14, mvo 133 16, (some 134, (.binOp .neq 3 (.tmp 132) (.tmp 133) 3), none), mvo 135 134, (some 136, (.move (.tmp 15)), some (135, false)), (some 137, (.move (.tmp 17)), some (135, false)), (some 138, (.binOp .neq 27 (.tmp 136) (.tmp 137) 27), some (135, false)), (some 139, (.pick (.tmp 135) (.const (.bool true)) (.tmp 138)), none), mvo 140 139, (some 141, (.move (.tmp 15)), some (140, false)), (some 142, (.binOp .eql 27 (.tmp 141) (.const (.int .i64 0)) 27), some (140, false)), (some 143, (.move (.tmp 142)), some (140, false)), (some 144, (.move (.tmp 19)), some (143, true)), (some 145, (.binOp .neq 27 (.tmp 144) (.const (.int .i64 0)) 27), some (143, true)), (some 146, (.pick (.tmp 143) (.tmp 145) (.const (.bool false))), some (140, false)), (some 147, (.pick (.tmp 140) (.const (.bool true)) (.tmp 146)), none)] := XR.mk (nr (by kernel_rfl)) (nr (by kernel_rfl))
@[go_sem] theorem t18_29 : TK g18_29 := fun _ => nr (by kernel_rfl)
noncomputable def g18_30 : Array Oper := regAt Go.Proofs.Try.f18 30
@[go_sem] theorem x18_30 : XR 18 g18_30 [(some 4, (.assign (.const (.bool false))), none)] := XR.mk (nr (by kernel_rfl)) (nr (by kernel_rfl))
@[go_sem] theorem t18_30 : TK g18_30 := fun _ => nr (by kernel_rfl)
noncomputable def g18_31 : Array Oper := regAt Go.Proofs.Try.f18 31
@[go_sem] theorem x18_31 : XR 18 g18_31 [(some 20, (.assign (.const (.int .i64 0))), none)] := XR.mk (nr (by kernel_rfl)) (nr (by kernel_rfl))
@[go_sem] theorem t18_31 : TK g18_31 := fun _ => nr (by kernel_rfl)
noncomputable def g18_32 : Array Oper := regAt Go.Proofs.Try.f18 32
@[go_sem] theorem x18_32 : XR 18 g18_32 [mvo 148 20, mvo 149 0, (some 150, (.call ⟨(.builtin .len), #[(.tmp 149)], #[56]⟩), none), (some 151, (.binOp .lss 3 (.tmp 148) (.tmp 150) 3), none)] := XR.mk (nr (by kernel_rfl)) (nr (by kernel_rfl))
@[go_sem] theorem t18_32 : TK g18_32 := fun _ => nr (by kernel_rfl)
noncomputable def g18_33 : Array Oper := regAt Go.Proofs.Try.f18 33
@[go_sem] theorem x18_33 : XR 18 g18_33 [mvo 155 5, mvo 156 20, (some 157, (.call ⟨(.value (.func 64)), #[(.tmp 155), (.tmp 156)], #[56, 3]⟩), none), mvo 154 157, (some 158, (.extract (.tmp 154) 0), none), (some 159, (.extract (.tmp 154) 1), none), (some 21, (.assign (.tmp 158)), none), (some 22, (.assign (.tmp 159)), none)] := XR.mk (nr (by kernel_rfl)) (nr (by kernel_rfl))
@[go_sem] theorem t18_33 : TK g18_33 := fun _ => nr (by kernel_rfl)
noncomputable def g18_34 : Array Oper := regAt Go.Proofs.Try.f18 34
@[go_sem] theorem x18_34 : XR 18 g18_34 [mvo 161 6, mvo 162 20, (some 163, (.call ⟨(.value (.func 64)), #[(.tmp 161), (.tmp 162)], #[56, 3]⟩), none), mvo 160 163, (some 164, (.extract (.tmp 160) 0), none), (some 165, (.extract (.tmp 160) 1), none), (some 23, (.assign (.tmp 164)), none), (some 24, (.assign (.tmp 165)), none)] := XR.mk (nr (by kernel_rfl)) (nr (by kernel_rfl))
@[go_sem] theorem t18_34 : TK g18_34 := fun _ => nr (by kernel_rfl)
noncomputable def g18_35 : Array Oper := regAt Go.Proofs.Try.f18 35
@[go_sem] theorem x18_35 : XR 18 g18_35 [mvo 167 7, mvo 168 20, (some 169, (.call ⟨(.value (.func 64)), #[(.tmp 167), (.tmp 168)], #[56, 3]⟩), none), mvo 166 169, (some 170, (.extract (.tmp 166) 0), none), (some 171, (.extract (.tmp 166) 1), none), (some 25, (.assign (.tmp 170)), none), (some 26, (.assign (.tmp 171)), none)] := XR.mk (nr (by kernel_rfl)) (nr (by kernel_rfl))
@[go_sem] theorem t18_35 : TK g18_35 := fun _ => nr (by kernel_rfl)
noncomputable def g18_36 : Array Oper := regAt Go.Proofs.Try.f18 36
@[go_sem] theorem x18_36 : XR 18 g18_36 [mvo 172 21, mvo 173 23, (some 174, (.binOp .neq 3 (.tmp 172) (.tmp 173) 3), none), mvo 175 174, (some 176, (.move (.tmp 22)), some (175, false)), (some 177, (.move (.tmp 24)), some (175, false)), (some 178, (.binOp .neq 4 (.tmp 176) (.tmp 177) 4), some (175, false)), (some 179, (.pick (.tmp 175) (.const (.bool true)) (.tmp 178)), none), mvo 180 179, (some 181, (.move (.tmp 15)), some (180, false)), (some 182, (.binOp .eql 27 (.tmp 181) (.const (.int .i64 0)) 27), some (180, false)), (some 183, (.move (.tmp 182)), some (180, false)), (some 184, (.move (.tmp 22)), some (183, true)), (some 185, (.move (.tmp 26)), some (183, true)), (some 186, (.binOp .neq 4 (.tmp 184) (.tmp 185) 4), some (183, true)), (some 187, (.move (.tmp 186)), some (183, true)), (some 188, (.move (.tmp 22)), some (187, false)), (some 189, (.move (.tmp 188)), some (187, false)), (some 190, (.move (.tmp 25)), some (189, true)), (some 191, (.move (.tmp 21)), some (189, true)), (some 192, (.binOp .lss 3 (.tmp 190) (.tmp 191) 3), some (189, true)), (some 193, (.pick (.tmp 189) (.tmp 192) (.const (.bool false))), some (187, false)), (some 194, (.pick (.tmp 187) (.const (.bool true)) (.tmp 193)), some (183, true)), (some 195, (.pick (.tmp 183) (.tmp 194) (.const (.bool false))), some (180, false)), (some 196, (.pick (.tmp 180) (.const (.bool true)) (.tmp 195)), none)] := XR.mk (nr (by kernel_rfl)) (nr (by kernel_rfl))
@[go_sem] theorem t18_36 : TK g18_36 := fun _ => nr (by kernel_rfl)
noncomputable def g18_37 : Array Oper := regAt Go.Proofs.Try.f18 37
@[go_sem] theorem x18_37 : XR 18 g18_37 [(some 4, (.assign (.const (.bool false))), none)] := XR.mk (nr (by kernel_rfl)) (nr (by kernel_rfl))
@[go_sem] theorem t18_37 : TK g18_37 := fun _ => nr (by kernel_rfl)
noncomputable def g18_38 : Array Oper := regAt Go.Proofs.Try.f18 38
@[go_sem] theorem x18_38 : XR 18 g18_38 [mvo 152 20, (some 153, (.binOp .add 3 (.tmp 152) (.const (.int .i64 1)) 3), none), (some 20, (.assign (.tmp 153)), none)] := XR.mk (nr (by kernel_rfl)) (nr (by kernel_rfl))
@[go_sem] theorem t18_38 : TK g18_38 := fun _ => nr (by kernel_rfl)
noncomputable def g18_39 : Array Oper := regAt Go.Proofs.Try.f18 39
@[go_sem] theorem x18_39 : XR 18 g18_39 [(some 4, (.assign (.const (.bool true))), none)] := XR.mk (nr (by kernel_rfl)) (nr (by kernel_rfl))
@[go_sem] theorem t18_39 : TK g18_39 := fun _ => nr (by kernel_rfl)
noncomputable def l18_0 : Code := (.seq (.seq (.region 19 g18_18 false) (.cond (.tmp 87) .skip (.exit 2))) (.seq (.block 3 (.seq (.region 21 g18_19 false) (.seq (.seq (.region 22 g18_20 false) (.cond (.tmp 102) (.region 23 g18_21 false) .skip)) (.region 24 g18_22 false)))) (.region 20 g18_23 false)))
theorem dl18_0 {ro nt : Nat} {fr : PT} {H : Hp} : (den cx).loop ro 18 nt l18_0 fr H = xbind (ex cx (den cx) ro 18 nt (.seq (.seq (.region 19 g18_18 false) (.cond (.tmp 87) .skip (.exit 2))) (.seq (.block 3 (.seq (.region 21 g18_19 false) (.seq (.seq (.region 22 g18_20 false) (.cond (.tmp 102) (.region 23 g18_21 false) .skip)) (.region 24 g18_22 false)))) (.region 20 g18_23 false))) fr H) (contR (trimmed ((den cx).loop ro 18 nt l18_0) H.length)) := den_loop_x l18_0
noncomputable def l18_1 : Code := (.seq (.seq (.region 6 g18_6 false) (.cond (.tmp 34) .skip (.exit 0))) (.seq (.block 1 (.seq (.region 8 g18_7 false) (.seq (.seq (.region 9 g18_8 false) (.cond (.tmp 48) (.region 10 g18_9 false) .skip)) (.seq (.region 11 g18_10 false) (.seq (.region 12 g18_11 false) (.seq (.seq (.region 13 g18_12 false) (.cond (.tmp 70) (.region 14 g18_13 false) .skip)) (.seq (.region 15 g18_14 false) (.seq (.region 16 g18_15 false) (.seq (.region 17 g18_16 false) (.seq (.seq (.region 18 g18_17 false) (.block 2 (.loop l18_0))) (.region 25 g18_24 false))))))))))) (.region 7 g18_25 false)))
theorem dl18_1 {ro nt : Nat} {fr : PT} {H : Hp} : (den cx).loop ro 18 nt l18_1 fr H = xbind (ex cx (den cx) ro 18 nt (.seq (.seq (.region 6 g18_6 false) (.cond (.tmp 34) .skip (.exit 0))) (.seq (.block 1 (.seq (.region 8 g18_7 false) (.seq (.seq (.region 9 g18_8 false) (.cond (.tmp 48) (.region 10 g18_9 false) .skip)) (.seq (.region 11 g18_10 false) (.seq (.region 12 g18_11 false) (.seq (.seq (.region 13 g18_12 false) (.cond (.tmp 70) (.region 14 g18_13 false) .skip)) (.seq (.region 15 g18_14 false) (.seq (.region 16 g18_15 false) (.seq (.region 17 g18_16 false) (.seq (.seq (.region 18 g18_17 false) (.block 2 (.loop l18_0))) (.region 25 g18_24 false))))))))))) (.region 7 g18_25 false))) fr H) (contR (trimmed ((den cx).loop ro 18 nt l18_1) H.length)) := den_loop_x l18_1
noncomputable def l18_2 : Code := (.seq (.seq (.region 32 g18_32 false) (.cond (.tmp 151) .skip (.exit 4))) (.seq (.block 5 (.seq (.region 34 g18_33 false) (.seq (.region 35 g18_34 false) (.seq (.region 36 g18_35 false) (.seq (.region 37 g18_36 false) (.cond (.tmp 196) (.seq (.region 38 g18_37 false) .ret) .skip)))))) (.region 33 g18_38 false)))
theorem dl18_2 {ro nt : Nat} {fr : PT} {H : Hp} : (den cx).loop ro 18 nt l18_2 fr H = xbind (ex cx (den cx) ro 18 nt (.seq (.seq (.region 32 g18_32 false) (.cond (.tmp 151) .skip (.exit 4))) (.seq (.block 5 (.seq (.region 34 g18_33 false) (.seq (.region 35 g18_34 false) (.seq (.region 36 g18_35 false) (.seq (.region 37 g18_36 false) (.cond (.tmp 196) (.seq (.region 38 g18_37 false) .ret) .skip)))))) (.region 33 g18_38 false))) fr H) (contR (trimmed ((den cx).loop ro 18 nt l18_2) H.length)) := den_loop_x l18_2
theorem b18 : Go.Proofs.Try.f18.body = some (.seq (.region 0 g18_0 false) (.seq (.seq (.region 1 g18_1 false) (.cond (.tmp 28) (.seq (.region 2 g18_2 false) .ret) .skip)) (.seq (.region 3 g18_3 false) (.seq (.region 4 g18_4 false) (.seq (.seq (.region 5 g18_5 false) (.block 0 (.loop l18_1))) (.seq (.region 26 g18_26 false) (.seq (.region 27 g18_27 false) (.seq (.region 28 g18_28 false) (.seq (.seq (.region 29 g18_29 false) (.cond (.tmp 147) (.seq (.region 30 g18_30 false) .ret) .skip)) (.seq (.seq (.region 31 g18_31 false) (.block 4 (.loop l18_2))) (.seq (.region 39 g18_39 false) .ret))))))))))) := by kernel_rfl
theorem c18 {h : Hd} {ro : Nat} {H : Hp} (a0 a1 : AV) : callB cx h ro 18 [a0, a1] H = returned cx [(.tmp 4)] (ex cx h ro 18 197 (.seq (.region 0 g18_0 false) (.seq (.seq (.region 1 g18_1 false) (.cond (.tmp 28) (.seq (.region 2 g18_2 false) .ret) .skip)) (.seq (.region 3 g18_3 false) (.seq (.region 4 g18_4 false) (.seq (.seq (.region 5 g18_5 false) (.block 0 (.loop l18_1))) (.seq (.region 26 g18_26 false) (.seq (.region 27 g18_27 false) (.seq (.region 28 g18_28 false) (.seq (.seq (.region 29 g18_29 false) (.cond (.tmp 147) (.seq (.region 30 g18_30 false) .ret) .skip)) (.seq (.seq (.region 31 g18_31 false) (.block 4 (.loop l18_2))) (.seq (.region 39 g18_39 false) .ret))))))))))) ((PT.nil.set 0 (drp a0)).set 1 (drp a1)) H) := by
  have hf : cx.fns 18 = some Go.Proofs.Try.f18 := by kernel_rfl
  simp only [callB, hf, funced, b18, bodied]
  rfl
/-! function 19: colloquy/colloquylaw05.OrderChecks -/
noncomputable def g19_0 : Array Oper := regAt Go.Proofs.Try.f19 0
@[go_sem] theorem x19_0 : XR 19 g19_0 [(some 5, (.box 63 (.tmp 2)), none), (some 6, (.assign (.const (.bool false))), none)] := XR.mk (nr (by kernel_rfl)) (nr (by kernel_rfl))
@[go_sem] theorem t19_0 : TK g19_0 := fun _ => nr (by kernel_rfl)
noncomputable def g19_1 : Array Oper := regAt Go.Proofs.Try.f19 1
@[go_sem] theorem x19_1 : XR 19 g19_1 [mvo 15 0, (some 16, (.call ⟨(.value (.func 63)), #[(.tmp 15)], #[56]⟩), none), (some 0, (.assign (.tmp 16)), none)] := XR.mk (nr (by kernel_rfl)) (nr (by kernel_rfl))
@[go_sem] theorem t19_1 : TK g19_1 := fun _ => nr (by kernel_rfl)
noncomputable def g19_2 : Array Oper := regAt Go.Proofs.Try.f19 2
@[go_sem] theorem x19_2 : XR 19 g19_2 [mvo 18 0, (some 19, (.call ⟨(.value (.func 67)), #[(.tmp 18)], #[56]⟩), none), mvo 17 19, (some 20, (.extract (.tmp 17) 0), none), (some 21, (.extract (.tmp 17) 1), none), (some 7, (.assign (.tmp 20)), none), (some 8, (.assign (.tmp 21)), none)] := XR.mk (nr (by kernel_rfl)) (nr (by kernel_rfl))
@[go_sem] theorem t19_2 : TK g19_2 := fun _ => nr (by kernel_rfl)
noncomputable def g19_3 : Array Oper := regAt Go.Proofs.Try.f19 3
@[go_sem] theorem x19_3 : XR 19 g19_3 [mvo 23 0, (some 24, (.call ⟨(.value (.func 68)), #[(.tmp 23)], #[56]⟩), none), mvo 22 24, (some 25, (.extract (.tmp 22) 0), none), (some 26, (.extract (.tmp 22) 1), none), (some 9, (.assign (.tmp 25)), none), (some 10, (.assign (.tmp 26)), none)] := XR.mk (nr (by kernel_rfl)) (nr (by kernel_rfl))
@[go_sem] theorem t19_3 : TK g19_3 := fun _ => nr (by kernel_rfl)
noncomputable def g19_4 : Array Oper := regAt Go.Proofs.Try.f19 4
@[go_sem] theorem x19_4 : XR 19 g19_4 [mvo 28 0, mvo 29 1, (some 30, (.load 63 (.tmp 5)), none), (some 31, (.call ⟨(.value (.func 69)), #[(.tmp 28), (.tmp 29), (.tmp 30)], #[56, 3, 63]⟩), none), mvo 27 31, (some 32, (.extract (.tmp 27) 0), none), (some 33, (.extract (.tmp 27) 1), none), (some 11, (.assign (.tmp 32)), none), (some 12, (.assign (.tmp 33)), none)] := XR.mk (nr (by kernel_rfl)) (nr (by kernel_rfl))
@[go_sem] theorem t19_4 : TK g19_4 := fun _ => nr (by kernel_rfl)
noncomputable def g19_5 : Array Oper := regAt Go.Proofs.Try.f19 5
@[go_sem] theorem x19_5 : XR 19 g19_5 [mvo 35 0, mvo 36 1, (some 37, (.load 63 (.tmp 5)), none), (some 38, (.call ⟨(.value (.func 70)), #[(.tmp 35), (.tmp 36), (.tmp 37)], #[56, 3, 63]⟩), none), mvo 34 38, (some 39, (.extract (.tmp 34) 0), none), (some 40, (.extract (.tmp 34) 1), none), (some 13, (.assign (.tmp 39)), none), (some 14, (.assign (.tmp 40)), none)] := XR.mk (nr (by kernel_rfl)) (nr (by kernel_rfl))
@[go_sem] theorem t19_5 : TK g19_5 := fun _ => nr (by kernel_rfl)
noncomputable def g19_6 : Array Oper := regAt Go.Proofs.Try.f19 6
@[go_sem] theorem x19_6 : XR 19 g19_6 [mvo 41 7, mvo 42 9, (some 43, (.binOp .eql 3 (.tmp 41) (.tmp 42) 3), none), mvo 44 43, (some 45, (.move (.tmp 8)), some (44, true)), (some 46, (.move (.tmp 10)), some (44, true)), (some 47, (.binOp .eql 27 (.tmp 45) (.tmp 46) 27), some (44, true)), (some 48, (.pick (.tmp 44) (.tmp 47) (.const (.bool false))), none), mvo 49 48, (some 50, (.move (.tmp 11)), some (49, true)), (some 51, (.move (.tmp 13)), some (49, true)), (some 52, (.binOp .eql 3 (.tmp 50) (.tmp 51) 3), some (49, true)), (some 53, (.pick (.tmp 49) (.tmp 52) (.const (.bool false))), none), mvo 54 53, (some 55, (.move (.tmp 12)), some (54, true)), (some 56, (.move (.tmp 14)), some (54, true)), (some 57, (.binOp .eql 4 (.tmp 55) (.tmp 56) 4), some (54, true)), (some 58, (.pick (.tmp 54) (.tmp 57) (.const (.bool false))), none), mvo 59 58, (some 60, (.call ⟨(.value (.func 66)), #[], #[]⟩), some (59, true)), (some 61, (.pick (.tmp 59) (.tmp 60) (.const (.bool false))), none), (some 6, (.assign (.tmp 61)), none)] := XR.mk (nr (by kernel_rfl)) (nr (by kernel_rfl))
@[go_sem] theorem t19_6 : TK g19_6 := fun _ => nr (by kernel_rfl)
theorem b19 : Go.Proofs.Try.f19.body = some (.seq (.region 0 g19_0 false) (.seq (.region 1 g19_1 false) (.seq (.region 2 g19_2 false) (.seq (.region 3 g19_3 false) (.seq (.region 4 g19_4 false) (.seq (.region 5 g19_5 false) (.seq (.region 6 g19_6 false) .ret))))))) := by kernel_rfl
theorem c19 {h : Hd} {ro : Nat} {H : Hp} (a0 a1 a2 : AV) : callB cx h ro 19 [a0, a1, a2] H = returned cx [(.tmp 6)] (ex cx h ro 19 62 (.seq (.region 0 g19_0 false) (.seq (.region 1 g19_1 false) (.seq (.region 2 g19_2 false) (.seq (.region 3 g19_3 false) (.seq (.region 4 g19_4 false) (.seq (.region 5 g19_5 false) (.seq (.region 6 g19_6 false) .ret))))))) (((PT.nil.set 0 (drp a0)).set 1 (drp a1)).set 2 (drp a2)) H) := by
  have hf : cx.fns 19 = some Go.Proofs.Try.f19 := by kernel_rfl
  simp only [callB, hf, funced, b19, bodied]
  rfl
end Go.Abs.Tab
