/- Codes of this seat's functions, their regions step by step. (Printed by a program.) -/
import Derived.Test.YtiinagmombigpaaEvY
import Derived.Test.YtiinagmombigpaaFnA
set_option linter.unnecessarySimpa false
set_option linter.unusedSimpArgs false
set_option linter.unusedVariables false
namespace Go.Abs.Tab
noncomputable def g19_0:=regAt Proofs.Try.f19 0
@[go_sem] theorem x19_0:XR 19 g19_0 (by exact(⟨_,by conv=>lhs;reduce⟩:NS g19_0).1):=xk
@[go_sem] theorem t19_0:TK g19_0:=tk
noncomputable def g19_1:=regAt Proofs.Try.f19 1
@[go_sem] theorem x19_1:XR 19 g19_1 (by exact(⟨_,by conv=>lhs;reduce⟩:NS g19_1).1):=xk
@[go_sem] theorem t19_1:TK g19_1:=tk
noncomputable def g19_2:=regAt Proofs.Try.f19 2
@[go_sem] theorem x19_2:XR 19 g19_2 (by exact(⟨_,by conv=>lhs;reduce⟩:NS g19_2).1):=xk
@[go_sem] theorem t19_2:TK g19_2:=tk
noncomputable def g19_3:=regAt Proofs.Try.f19 3
@[go_sem] theorem x19_3:XR 19 g19_3 (by exact(⟨_,by conv=>lhs;reduce⟩:NS g19_3).1):=xk
@[go_sem] theorem t19_3:TK g19_3:=tk
noncomputable def g19_4:=regAt Proofs.Try.f19 4
@[go_sem] theorem x19_4:XR 19 g19_4 (by exact(⟨_,by conv=>lhs;reduce⟩:NS g19_4).1):=xk
@[go_sem] theorem t19_4:TK g19_4:=tk
noncomputable def g19_5:=regAt Proofs.Try.f19 5
@[go_sem] theorem x19_5:XR 19 g19_5 (by exact(⟨_,by conv=>lhs;reduce⟩:NS g19_5).1):=xk
@[go_sem] theorem t19_5:TK g19_5:=tk
noncomputable def g19_6:=regAt Proofs.Try.f19 6
@[go_sem] theorem x19_6:XR 19 g19_6 (by exact(⟨_,by conv=>lhs;reduce⟩:NS g19_6).1):=xk
@[go_sem] theorem t19_6:TK g19_6:=tk
theorem c19{h:Hd}{ro:Nat}{H:Hp}(a0 a1 a2:AV):callB cx h ro 19 [a0,a1,a2] H=returned cx [(.tmp 6)] (ex cx h ro 19 62 (.seq (.region 0 g19_0 false) (.seq (.region 1 g19_1 false) (.seq (.region 2 g19_2 false) (.seq (.region 3 g19_3 false) (.seq (.region 4 g19_4 false) (.seq (.region 5 g19_5 false) (.seq (.region 6 g19_6 false) .ret))))))) (((PT.nil.set 0 (drp a0)).set 1 (drp a1)).set 2 (drp a2)) H):=cbd (fn:=Proofs.Try.f19)
noncomputable def g21_0:=regAt Proofs.Try.f21 0
@[go_sem] theorem x21_0:XR 21 g21_0 (by exact(⟨_,by conv=>lhs;reduce⟩:NS g21_0).1):=xk
@[go_sem] theorem t21_0:TK g21_0:=tk
noncomputable def g21_1:=regAt Proofs.Try.f21 1
@[go_sem] theorem x21_1:XR 21 g21_1 (by exact(⟨_,by conv=>lhs;reduce⟩:NS g21_1).1):=xk
@[go_sem] theorem t21_1:TK g21_1:=tk
noncomputable def g21_2:=regAt Proofs.Try.f21 2
@[go_sem] theorem x21_2:XR 21 g21_2 (by exact(⟨_,by conv=>lhs;reduce⟩:NS g21_2).1):=xk
@[go_sem] theorem t21_2:TK g21_2:=tk
noncomputable def g21_3:=regAt Proofs.Try.f21 3
@[go_sem] theorem x21_3:XR 21 g21_3 (by exact(⟨_,by conv=>lhs;reduce⟩:NS g21_3).1):=xk
@[go_sem] theorem t21_3:TK g21_3:=tk
noncomputable def g21_4:=regAt Proofs.Try.f21 4
@[go_sem] theorem x21_4:XR 21 g21_4 (by exact(⟨_,by conv=>lhs;reduce⟩:NS g21_4).1):=xk
@[go_sem] theorem t21_4:TK g21_4:=tk
theorem c21{h:Hd}{ro:Nat}{H:Hp}(a0:AV):callB cx h ro 21 [a0] H=returned cx [(.tmp 2)] (ex cx h ro 21 30 (.seq (.region 0 g21_0 false) (.seq (.region 1 g21_1 false) (.seq (.region 2 g21_2 false) (.seq (.region 3 g21_3 false) (.seq (.region 4 g21_4 false) .ret))))) (PT.nil.set 0 (drp a0)) H):=cbd (fn:=Proofs.Try.f21)
noncomputable def g162_0:=regAt Proofs.Try.f162 0
@[go_sem] theorem x162_0:XR 162 g162_0 (by exact(⟨_,by conv=>lhs;reduce⟩:NS g162_0).1):=xk
@[go_sem] theorem t162_0:TK g162_0:=tk
noncomputable def g162_1:=regAt Proofs.Try.f162 1
@[go_sem] theorem x162_1:XR 162 g162_1 (by exact(⟨_,by conv=>lhs;reduce⟩:NS g162_1).1):=xk
@[go_sem] theorem t162_1:TK g162_1:=tk
noncomputable def g162_2:=regAt Proofs.Try.f162 2
@[go_sem] theorem x162_2:XR 162 g162_2 (by exact(⟨_,by conv=>lhs;reduce⟩:NS g162_2).1):=xk
@[go_sem] theorem t162_2:TK g162_2:=tk
noncomputable def g162_3:=regAt Proofs.Try.f162 3
@[go_sem] theorem x162_3:XR 162 g162_3 (by exact(⟨_,by conv=>lhs;reduce⟩:NS g162_3).1):=xk
@[go_sem] theorem t162_3:TK g162_3:=tk
noncomputable def g162_4:=regAt Proofs.Try.f162 4
@[go_sem] theorem x162_4:XUR 162 g162_4 (by exact(⟨_,by conv=>lhs;reduce⟩:NU 162 g162_4).1) 0:=xuk
@[go_sem] theorem t162_4:TK g162_4:=tk
theorem c162{h:Hd}{ro:Nat}{H:Hp}(a0 a1 a2:AV):callB cx h ro 162 [a0,a1,a2] H=returned cx [(.tmp 6),(.tmp 7)] (ex cx h ro 162 42 (.seq (.region 0 g162_0 false) (.seq (.region 1 g162_1 false) (.seq (.seq (.region 2 g162_2 false) (.cond (.tmp 22) (.seq (.region 3 g162_3 false) .ret) .skip)) (.seq (.region 4 g162_4 true) .ret)))) (((PT.nil.set 0 (drp a0)).set 1 (drp a1)).set 2 (drp a2)) H):=cbd (fn:=Proofs.Try.f162)
noncomputable def g78_0:=regAt Proofs.Try.f78 0
@[go_sem] theorem x78_0:XR 78 g78_0 (by exact(⟨_,by conv=>lhs;reduce⟩:NS g78_0).1):=xk
@[go_sem] theorem t78_0:TK g78_0:=tk
noncomputable def g78_1:=regAt Proofs.Try.f78 1
@[go_sem] theorem x78_1:XR 78 g78_1 (by exact(⟨_,by conv=>lhs;reduce⟩:NS g78_1).1):=xk
@[go_sem] theorem t78_1:TK g78_1:=tk
noncomputable def g78_2:=regAt Proofs.Try.f78 2
@[go_sem] theorem x78_2:XR 78 g78_2 (by exact(⟨_,by conv=>lhs;reduce⟩:NS g78_2).1):=xk
@[go_sem] theorem t78_2:TK g78_2:=tk
noncomputable def g78_3:=regAt Proofs.Try.f78 3
@[go_sem] theorem x78_3:XUR 78 g78_3 (by exact(⟨_,by conv=>lhs;reduce⟩:NU 78 g78_3).1) 0:=xuk
@[go_sem] theorem t78_3:TK g78_3:=tk
theorem c78{h:Hd}{ro:Nat}{H:Hp}(a0 a1:AV):callB cx h ro 78 [a0,a1] H=returned cx [(.tmp 4),(.tmp 5)] (ex cx h ro 78 36 (.seq (.region 0 g78_0 false) (.seq (.seq (.region 1 g78_1 false) (.cond (.tmp 16) (.seq (.region 2 g78_2 false) .ret) .skip)) (.seq (.region 3 g78_3 true) .ret))) ((PT.nil.set 0 (drp a0)).set 1 (drp a1)) H):=cbd (fn:=Proofs.Try.f78)
noncomputable def g79_0:=regAt Proofs.Try.f79 0
@[go_sem] theorem x79_0:XR 79 g79_0 (by exact(⟨_,by conv=>lhs;reduce⟩:NS g79_0).1):=xk
@[go_sem] theorem t79_0:TK g79_0:=tk
noncomputable def g79_1:=regAt Proofs.Try.f79 1
@[go_sem] theorem x79_1:XR 79 g79_1 (by exact(⟨_,by conv=>lhs;reduce⟩:NS g79_1).1):=xk
@[go_sem] theorem t79_1:TK g79_1:=tk
noncomputable def g79_2:=regAt Proofs.Try.f79 2
@[go_sem] theorem x79_2:XR 79 g79_2 (by exact(⟨_,by conv=>lhs;reduce⟩:NS g79_2).1):=xk
@[go_sem] theorem t79_2:TK g79_2:=tk
noncomputable def g79_3:=regAt Proofs.Try.f79 3
@[go_sem] theorem x79_3:XR 79 g79_3 (by exact(⟨_,by conv=>lhs;reduce⟩:NS g79_3).1):=xk
@[go_sem] theorem t79_3:TK g79_3:=tk
noncomputable def g79_4:=regAt Proofs.Try.f79 4
@[go_sem] theorem x79_4:XR 79 g79_4 (by exact(⟨_,by conv=>lhs;reduce⟩:NS g79_4).1):=xk
@[go_sem] theorem t79_4:TK g79_4:=tk
noncomputable def g79_5:=regAt Proofs.Try.f79 5
@[go_sem] theorem x79_5:XR 79 g79_5 (by exact(⟨_,by conv=>lhs;reduce⟩:NS g79_5).1):=xk
@[go_sem] theorem t79_5:TK g79_5:=tk
noncomputable def g79_6:=regAt Proofs.Try.f79 6
@[go_sem] theorem x79_6:XUR 79 g79_6 (by exact(⟨_,by conv=>lhs;reduce⟩:NU 79 g79_6).1) 0:=xuk
@[go_sem] theorem t79_6:TK g79_6:=tk
theorem c79{h:Hd}{ro:Nat}{H:Hp}(a0 a1:AV):callB cx h ro 79 [a0,a1] H=returned cx [(.tmp 4),(.tmp 5)] (ex cx h ro 79 42 (.seq (.region 0 g79_0 false) (.seq (.seq (.region 1 g79_1 false) (.cond (.tmp 17) (.seq (.region 2 g79_2 false) .ret) .skip)) (.seq (.region 3 g79_3 false) (.seq (.seq (.region 4 g79_4 false) (.cond (.tmp 30) (.seq (.region 5 g79_5 false) .ret) .skip)) (.seq (.region 6 g79_6 true) .ret))))) ((PT.nil.set 0 (drp a0)).set 1 (drp a1)) H):=cbd (fn:=Proofs.Try.f79)
noncomputable def g137_0:=regAt Proofs.Try.f137 0
@[go_sem] theorem x137_0:XR 137 g137_0 (by exact(⟨_,by conv=>lhs;reduce⟩:NS g137_0).1):=xk
@[go_sem] theorem t137_0:TK g137_0:=tk
noncomputable def g137_1:=regAt Proofs.Try.f137 1
@[go_sem] theorem x137_1:XR 137 g137_1 (by exact(⟨_,by conv=>lhs;reduce⟩:NS g137_1).1):=xk
@[go_sem] theorem t137_1:TK g137_1:=tk
noncomputable def g137_2:=regAt Proofs.Try.f137 2
@[go_sem] theorem x137_2:XR 137 g137_2 (by exact(⟨_,by conv=>lhs;reduce⟩:NS g137_2).1):=xk
@[go_sem] theorem t137_2:TK g137_2:=tk
noncomputable def g137_3:=regAt Proofs.Try.f137 3
@[go_sem] theorem x137_3:XR 137 g137_3 (by exact(⟨_,by conv=>lhs;reduce⟩:NS g137_3).1):=xk
@[go_sem] theorem t137_3:TK g137_3:=tk
theorem c137{h:Hd}{ro:Nat}{H:Hp}(a0 a1 a2:AV):callB cx h ro 137 [a0,a1,a2] H=returned cx [(.tmp 6),(.tmp 7)] (ex cx h ro 137 17 (.seq (.region 0 g137_0 false) (.seq (.seq (.region 1 g137_1 false) (.cond (.tmp 14) (.region 2 g137_2 false) .skip)) (.seq (.region 3 g137_3 false) .ret))) (((PT.nil.set 0 (drp a0)).set 1 (drp a1)).set 2 (drp a2)) H):=cbd (fn:=Proofs.Try.f137)
noncomputable def g26_0:=regAt Proofs.Try.f26 0
@[go_sem] theorem x26_0:XR 26 g26_0 (by exact(⟨_,by conv=>lhs;reduce⟩:NS g26_0).1):=xk
@[go_sem] theorem t26_0:TK g26_0:=tk
noncomputable def g26_1:=regAt Proofs.Try.f26 1
@[go_sem] theorem x26_1:XR 26 g26_1 (by exact(⟨_,by conv=>lhs;reduce⟩:NS g26_1).1):=xk
@[go_sem] theorem t26_1:TK g26_1:=tk
noncomputable def g26_2:=regAt Proofs.Try.f26 2
@[go_sem] theorem x26_2:XR 26 g26_2 (by exact(⟨_,by conv=>lhs;reduce⟩:NS g26_2).1):=xk
@[go_sem] theorem t26_2:TK g26_2:=tk
noncomputable def g26_3:=regAt Proofs.Try.f26 3
@[go_sem] theorem x26_3:XR 26 g26_3 (by exact(⟨_,by conv=>lhs;reduce⟩:NS g26_3).1):=xk
@[go_sem] theorem t26_3:TK g26_3:=tk
noncomputable def g26_4:=regAt Proofs.Try.f26 4
@[go_sem] theorem x26_4:XR 26 g26_4 (by exact(⟨_,by conv=>lhs;reduce⟩:NS g26_4).1):=xk
@[go_sem] theorem t26_4:TK g26_4:=tk
noncomputable def g26_5:=regAt Proofs.Try.f26 5
@[go_sem] theorem x26_5:XR 26 g26_5 (by exact(⟨_,by conv=>lhs;reduce⟩:NS g26_5).1):=xk
@[go_sem] theorem t26_5:TK g26_5:=tk
noncomputable def g26_6:=regAt Proofs.Try.f26 6
@[go_sem] theorem x26_6:XR 26 g26_6 (by exact(⟨_,by conv=>lhs;reduce⟩:NS g26_6).1):=xk
@[go_sem] theorem t26_6:TK g26_6:=tk
noncomputable def g26_7:=regAt Proofs.Try.f26 7
@[go_sem] theorem x26_7:XUR 26 g26_7 (by exact(⟨_,by conv=>lhs;reduce⟩:NU 26 g26_7).1) 0:=xuk
@[go_sem] theorem t26_7:TK g26_7:=tk
noncomputable def g26_8:=regAt Proofs.Try.f26 8
@[go_sem] theorem x26_8:XR 26 g26_8 (by exact(⟨_,by conv=>lhs;reduce⟩:NS g26_8).1):=xk
@[go_sem] theorem t26_8:TK g26_8:=tk
noncomputable def g26_9:=regAt Proofs.Try.f26 9
@[go_sem] theorem x26_9:XR 26 g26_9 (by exact(⟨_,by conv=>lhs;reduce⟩:NS g26_9).1):=xk
@[go_sem] theorem t26_9:TK g26_9:=tk
noncomputable def g26_10:=regAt Proofs.Try.f26 10
@[go_sem] theorem x26_10:XR 26 g26_10 (by exact(⟨_,by conv=>lhs;reduce⟩:NS g26_10).1):=xk
@[go_sem] theorem t26_10:TK g26_10:=tk
noncomputable def g26_11:=regAt Proofs.Try.f26 11
@[go_sem] theorem x26_11:XR 26 g26_11 (by exact(⟨_,by conv=>lhs;reduce⟩:NS g26_11).1):=xk
@[go_sem] theorem t26_11:TK g26_11:=tk
noncomputable def g26_12:=regAt Proofs.Try.f26 12
@[go_sem] theorem x26_12:XUR 26 g26_12 (by exact(⟨_,by conv=>lhs;reduce⟩:NU 26 g26_12).1) 0:=xuk
@[go_sem] theorem t26_12:TK g26_12:=tk
noncomputable def g26_13:=regAt Proofs.Try.f26 13
@[go_sem] theorem x26_13:XR 26 g26_13 (by exact(⟨_,by conv=>lhs;reduce⟩:NS g26_13).1):=xk
@[go_sem] theorem t26_13:TK g26_13:=tk
noncomputable def g26_14:=regAt Proofs.Try.f26 14
@[go_sem] theorem x26_14:XR 26 g26_14 (by exact(⟨_,by conv=>lhs;reduce⟩:NS g26_14).1):=xk
@[go_sem] theorem t26_14:TK g26_14:=tk
noncomputable def g26_15:=regAt Proofs.Try.f26 15
@[go_sem] theorem x26_15:XUR 26 g26_15 (by exact(⟨_,by conv=>lhs;reduce⟩:NU 26 g26_15).1) 0:=xuk
@[go_sem] theorem t26_15:TK g26_15:=tk
noncomputable def g26_16:=regAt Proofs.Try.f26 16
@[go_sem] theorem x26_16:XR 26 g26_16 (by exact(⟨_,by conv=>lhs;reduce⟩:NS g26_16).1):=xk
@[go_sem] theorem t26_16:TK g26_16:=tk
noncomputable def g26_17:=regAt Proofs.Try.f26 17
@[go_sem] theorem x26_17:XR 26 g26_17 (by exact(⟨_,by conv=>lhs;reduce⟩:NS g26_17).1):=xk
@[go_sem] theorem t26_17:TK g26_17:=tk
noncomputable def g26_18:=regAt Proofs.Try.f26 18
@[go_sem] theorem x26_18:XUR 26 g26_18 (by exact(⟨_,by conv=>lhs;reduce⟩:NU 26 g26_18).1) 0:=xuk
@[go_sem] theorem t26_18:TK g26_18:=tk
noncomputable def g26_19:=regAt Proofs.Try.f26 19
@[go_sem] theorem x26_19:XR 26 g26_19 (by exact(⟨_,by conv=>lhs;reduce⟩:NS g26_19).1):=xk
@[go_sem] theorem t26_19:TK g26_19:=tk
noncomputable def g26_20:=regAt Proofs.Try.f26 20
@[go_sem] theorem x26_20:XR 26 g26_20 (by exact(⟨_,by conv=>lhs;reduce⟩:NS g26_20).1):=xk
@[go_sem] theorem t26_20:TK g26_20:=tk
noncomputable def g26_21:=regAt Proofs.Try.f26 21
@[go_sem] theorem x26_21:XUR 26 g26_21 (by exact(⟨_,by conv=>lhs;reduce⟩:NU 26 g26_21).1) 0:=xuk
@[go_sem] theorem t26_21:TK g26_21:=tk
noncomputable def g26_22:=regAt Proofs.Try.f26 22
@[go_sem] theorem x26_22:XUR 26 g26_22 (by exact(⟨_,by conv=>lhs;reduce⟩:NU 26 g26_22).1) 0:=xuk
@[go_sem] theorem t26_22:TK g26_22:=tk
noncomputable def g26_23:=regAt Proofs.Try.f26 23
@[go_sem] theorem x26_23:XR 26 g26_23 (by exact(⟨_,by conv=>lhs;reduce⟩:NS g26_23).1):=xk
@[go_sem] theorem t26_23:TK g26_23:=tk
noncomputable def g26_24:=regAt Proofs.Try.f26 24
@[go_sem] theorem x26_24:XR 26 g26_24 (by exact(⟨_,by conv=>lhs;reduce⟩:NS g26_24).1):=xk
@[go_sem] theorem t26_24:TK g26_24:=tk
noncomputable def l26_0:Code:=(.seq (.seq (.region 11 g26_11 false) (.cond (.tmp 64) .skip (.exit 0))) (.seq (.block 1 (.seq (.region 13 g26_12 true) (.cond (.tmp 96) (.seq (.region 14 g26_13 false) .ret) .skip))) (.region 12 g26_14 false)))
theorem dl26_0{ro nt:Nat}{fr:PT}{H:Hp}:(den cx).loop ro 26 nt l26_0 fr H=xbind (ex cx (den cx) ro 26 nt (.seq (.seq (.region 11 g26_11 false) (.cond (.tmp 64) .skip (.exit 0))) (.seq (.block 1 (.seq (.region 13 g26_12 true) (.cond (.tmp 96) (.seq (.region 14 g26_13 false) .ret) .skip))) (.region 12 g26_14 false))) fr H) (contR (trimmed ((den cx).loop ro 26 nt l26_0) H.length)):=den_loop_x l26_0
theorem c26{h:Hd}{ro:Nat}{H:Hp}(a0 a1 a2:AV):callB cx h ro 26 [a0,a1,a2] H=returned cx [(.tmp 6)] (ex cx h ro 26 205 (.seq (.region 0 g26_0 false) (.seq (.seq (.region 1 g26_1 false) (.cond (.tmp 25) (.seq (.region 2 g26_2 false) .ret) .skip)) (.seq (.region 3 g26_3 false) (.seq (.seq (.region 4 g26_4 false) (.cond (.tmp 33) (.seq (.region 5 g26_5 false) .ret) .skip)) (.seq (.region 6 g26_6 false) (.seq (.region 7 g26_7 true) (.seq (.region 8 g26_8 false) (.seq (.region 9 g26_9 false) (.seq (.seq (.region 10 g26_10 false) (.block 0 (.loop l26_0))) (.seq (.seq (.region 15 g26_15 true) (.cond (.tmp 121) (.seq (.region 16 g26_16 false) .ret) .skip)) (.seq (.region 17 g26_17 false) (.seq (.seq (.region 18 g26_18 true) (.cond (.tmp 137) (.seq (.region 19 g26_19 false) .ret) .skip)) (.seq (.region 20 g26_20 false) (.seq (.region 21 g26_21 true) (.seq (.region 22 g26_22 true) (.seq (.region 23 g26_23 false) (.seq (.region 24 g26_24 false) .ret))))))))))))))))) (((PT.nil.set 0 (drp a0)).set 1 (drp a1)).set 2 (drp a2)) H):=cbd (fn:=Proofs.Try.f26)
noncomputable def g86_0:=regAt Proofs.Try.f86 0
@[go_sem] theorem x86_0:XR 86 g86_0 (by exact(⟨_,by conv=>lhs;reduce⟩:NS g86_0).1):=xk
@[go_sem] theorem t86_0:TK g86_0:=tk
noncomputable def g86_1:=regAt Proofs.Try.f86 1
@[go_sem] theorem x86_1:XR 86 g86_1 (by exact(⟨_,by conv=>lhs;reduce⟩:NS g86_1).1):=xk
@[go_sem] theorem t86_1:TK g86_1:=tk
noncomputable def g86_2:=regAt Proofs.Try.f86 2
@[go_sem] theorem x86_2:XR 86 g86_2 (by exact(⟨_,by conv=>lhs;reduce⟩:NS g86_2).1):=xk
@[go_sem] theorem t86_2:TK g86_2:=tk
noncomputable def g86_3:=regAt Proofs.Try.f86 3
@[go_sem] theorem x86_3:XR 86 g86_3 (by exact(⟨_,by conv=>lhs;reduce⟩:NS g86_3).1):=xk
@[go_sem] theorem t86_3:TK g86_3:=tk
noncomputable def g86_4:=regAt Proofs.Try.f86 4
@[go_sem] theorem x86_4:XR 86 g86_4 (by exact(⟨_,by conv=>lhs;reduce⟩:NS g86_4).1):=xk
@[go_sem] theorem t86_4:TK g86_4:=tk
noncomputable def g86_5:=regAt Proofs.Try.f86 5
@[go_sem] theorem x86_5:XR 86 g86_5 (by exact(⟨_,by conv=>lhs;reduce⟩:NS g86_5).1):=xk
@[go_sem] theorem t86_5:TK g86_5:=tk
noncomputable def g86_6:=regAt Proofs.Try.f86 6
@[go_sem] theorem x86_6:XR 86 g86_6 (by exact(⟨_,by conv=>lhs;reduce⟩:NS g86_6).1):=xk
@[go_sem] theorem t86_6:TK g86_6:=tk
noncomputable def g86_7:=regAt Proofs.Try.f86 7
@[go_sem] theorem x86_7:XR 86 g86_7 (by exact(⟨_,by conv=>lhs;reduce⟩:NS g86_7).1):=xk
@[go_sem] theorem t86_7:TK g86_7:=tk
noncomputable def g86_8:=regAt Proofs.Try.f86 8
@[go_sem] theorem x86_8:XR 86 g86_8 (by exact(⟨_,by conv=>lhs;reduce⟩:NS g86_8).1):=xk
@[go_sem] theorem t86_8:TK g86_8:=tk
noncomputable def g86_9:=regAt Proofs.Try.f86 9
@[go_sem] theorem x86_9:XR 86 g86_9 (by exact(⟨_,by conv=>lhs;reduce⟩:NS g86_9).1):=xk
@[go_sem] theorem t86_9:TK g86_9:=tk
noncomputable def g86_10:=regAt Proofs.Try.f86 10
@[go_sem] theorem x86_10:XR 86 g86_10 (by exact(⟨_,by conv=>lhs;reduce⟩:NS g86_10).1):=xk
@[go_sem] theorem t86_10:TK g86_10:=tk
noncomputable def g86_11:=regAt Proofs.Try.f86 11
@[go_sem] theorem x86_11:XR 86 g86_11 (by exact(⟨_,by conv=>lhs;reduce⟩:NS g86_11).1):=xk
@[go_sem] theorem t86_11:TK g86_11:=tk
noncomputable def g86_12:=regAt Proofs.Try.f86 12
@[go_sem] theorem x86_12:XR 86 g86_12 (by exact(⟨_,by conv=>lhs;reduce⟩:NS g86_12).1):=xk
@[go_sem] theorem t86_12:TK g86_12:=tk
noncomputable def g86_13:=regAt Proofs.Try.f86 13
@[go_sem] theorem x86_13:XR 86 g86_13 (by exact(⟨_,by conv=>lhs;reduce⟩:NS g86_13).1):=xk
@[go_sem] theorem t86_13:TK g86_13:=tk
noncomputable def g86_14:=regAt Proofs.Try.f86 14
@[go_sem] theorem x86_14:XR 86 g86_14 (by exact(⟨_,by conv=>lhs;reduce⟩:NS g86_14).1):=xk
@[go_sem] theorem t86_14:TK g86_14:=tk
noncomputable def g86_15:=regAt Proofs.Try.f86 15
@[go_sem] theorem x86_15:XR 86 g86_15 (by exact(⟨_,by conv=>lhs;reduce⟩:NS g86_15).1):=xk
@[go_sem] theorem t86_15:TK g86_15:=tk
noncomputable def g86_16:=regAt Proofs.Try.f86 16
@[go_sem] theorem x86_16:XUR 86 g86_16 (by exact(⟨_,by conv=>lhs;reduce⟩:NU 86 g86_16).1) 0:=xuk
@[go_sem] theorem t86_16_59:takes g86_16 59=false:=nk
@[go_sem] theorem t86_16_60:takes g86_16 60=false:=nk
@[go_sem] theorem t86_16_61:takes g86_16 61=false:=nk
@[go_sem] theorem t86_16_62:takes g86_16 62=false:=nk
@[go_sem] theorem t86_16_63:takes g86_16 63=false:=nk
@[go_sem] theorem t86_16_64:takes g86_16 64=true:=nk
@[go_sem] theorem t86_16_65:takes g86_16 65=false:=nk
@[go_sem] theorem t86_16_66:takes g86_16 66=false:=nk
@[go_sem] theorem t86_16_67:takes g86_16 67=false:=nk
@[go_sem] theorem t86_16_68:takes g86_16 68=false:=nk
noncomputable def g86_17:=regAt Proofs.Try.f86 17
@[go_sem] theorem x86_17:XR 86 g86_17 (by exact(⟨_,by conv=>lhs;reduce⟩:NS g86_17).1):=xk
@[go_sem] theorem t86_17:TK g86_17:=tk
noncomputable def g86_18:=regAt Proofs.Try.f86 18
@[go_sem] theorem x86_18:XR 86 g86_18 (by exact(⟨_,by conv=>lhs;reduce⟩:NS g86_18).1):=xk
@[go_sem] theorem t86_18:TK g86_18:=tk
noncomputable def g86_19:=regAt Proofs.Try.f86 19
@[go_sem] theorem x86_19:XR 86 g86_19 (by exact(⟨_,by conv=>lhs;reduce⟩:NS g86_19).1):=xk
@[go_sem] theorem t86_19:TK g86_19:=tk
noncomputable def l86_0:Code:=(.seq (.region 11 g86_11 false) (.seq (.cond (.tmp 44) .skip (.exit 2)) (.seq (.block 3 (.seq (.region 12 g86_12 false) (.seq (.region 13 g86_13 false) (.seq (.seq (.region 14 g86_14 false) (.cond (.tmp 57) (.seq (.region 15 g86_15 false) .ret) .skip)) (.region 16 g86_16 true))))) (.region 17 g86_17 false))))
theorem dl86_0{ro nt:Nat}{fr:PT}{H:Hp}:(den cx).loop ro 86 nt l86_0 fr H=xbind (ex cx (den cx) ro 86 nt (.seq (.region 11 g86_11 false) (.seq (.cond (.tmp 44) .skip (.exit 2)) (.seq (.block 3 (.seq (.region 12 g86_12 false) (.seq (.region 13 g86_13 false) (.seq (.seq (.region 14 g86_14 false) (.cond (.tmp 57) (.seq (.region 15 g86_15 false) .ret) .skip)) (.region 16 g86_16 true))))) (.region 17 g86_17 false)))) fr H) (contR (trimmed ((den cx).loop ro 86 nt l86_0) H.length)):=den_loop_x l86_0
noncomputable def l86_1:Code:=(.seq (.region 6 g86_6 false) (.seq (.cond (.tmp 31) .skip (.exit 0)) (.seq (.block 1 (.seq (.region 7 g86_7 false) (.seq (.seq (.region 8 g86_8 false) (.cond (.tmp 38) (.seq (.region 9 g86_9 false) .ret) .skip)) (.seq (.region 10 g86_10 false) (.block 2 (.loop l86_0)))))) (.region 18 g86_18 false))))
theorem dl86_1{ro nt:Nat}{fr:PT}{H:Hp}:(den cx).loop ro 86 nt l86_1 fr H=xbind (ex cx (den cx) ro 86 nt (.seq (.region 6 g86_6 false) (.seq (.cond (.tmp 31) .skip (.exit 0)) (.seq (.block 1 (.seq (.region 7 g86_7 false) (.seq (.seq (.region 8 g86_8 false) (.cond (.tmp 38) (.seq (.region 9 g86_9 false) .ret) .skip)) (.seq (.region 10 g86_10 false) (.block 2 (.loop l86_0)))))) (.region 18 g86_18 false)))) fr H) (contR (trimmed ((den cx).loop ro 86 nt l86_1) H.length)):=den_loop_x l86_1
theorem c86{h:Hd}{ro:Nat}{H:Hp}(a0:AV):callB cx h ro 86 [a0] H=returned cx [(.cell 2 126),(.tmp 3)] (ex cx h ro 86 74 (.seq (.region 0 g86_0 false) (.seq (.region 1 g86_1 false) (.seq (.seq (.region 2 g86_2 false) (.cond (.tmp 20) (.seq (.region 3 g86_3 false) .ret) .skip)) (.seq (.region 4 g86_4 false) (.seq (.seq (.region 5 g86_5 false) (.block 0 (.loop l86_1))) (.seq (.region 19 g86_19 false) .ret)))))) (PT.nil.set 0 (drp a0)) H):=cbd (fn:=Proofs.Try.f86)
noncomputable def g87_0:=regAt Proofs.Try.f87 0
@[go_sem] theorem x87_0:XR 87 g87_0 (by exact(⟨_,by conv=>lhs;reduce⟩:NS g87_0).1):=xk
@[go_sem] theorem t87_0:TK g87_0:=tk
noncomputable def g87_1:=regAt Proofs.Try.f87 1
@[go_sem] theorem x87_1:XR 87 g87_1 (by exact(⟨_,by conv=>lhs;reduce⟩:NS g87_1).1):=xk
@[go_sem] theorem t87_1:TK g87_1:=tk
noncomputable def g87_2:=regAt Proofs.Try.f87 2
@[go_sem] theorem x87_2:XR 87 g87_2 (by exact(⟨_,by conv=>lhs;reduce⟩:NS g87_2).1):=xk
@[go_sem] theorem t87_2:TK g87_2:=tk
noncomputable def g87_3:=regAt Proofs.Try.f87 3
@[go_sem] theorem x87_3:XR 87 g87_3 (by exact(⟨_,by conv=>lhs;reduce⟩:NS g87_3).1):=xk
@[go_sem] theorem t87_3:TK g87_3:=tk
noncomputable def g87_4:=regAt Proofs.Try.f87 4
@[go_sem] theorem x87_4:XR 87 g87_4 (by exact(⟨_,by conv=>lhs;reduce⟩:NS g87_4).1):=xk
@[go_sem] theorem t87_4:TK g87_4:=tk
noncomputable def g87_5:=regAt Proofs.Try.f87 5
@[go_sem] theorem x87_5:XR 87 g87_5 (by exact(⟨_,by conv=>lhs;reduce⟩:NS g87_5).1):=xk
@[go_sem] theorem t87_5:TK g87_5:=tk
noncomputable def g87_6:=regAt Proofs.Try.f87 6
@[go_sem] theorem x87_6:XR 87 g87_6 (by exact(⟨_,by conv=>lhs;reduce⟩:NS g87_6).1):=xk
@[go_sem] theorem t87_6_32:takes g87_6 32=false:=nk
@[go_sem] theorem t87_6_33:takes g87_6 33=true:=nk
@[go_sem] theorem t87_6_34:takes g87_6 34=false:=nk
@[go_sem] theorem t87_6_35:takes g87_6 35=false:=nk
@[go_sem] theorem t87_6_36:takes g87_6 36=false:=nk
@[go_sem] theorem t87_6_37:takes g87_6 37=false:=nk
noncomputable def g87_7:=regAt Proofs.Try.f87 7
@[go_sem] theorem x87_7:XR 87 g87_7 (by exact(⟨_,by conv=>lhs;reduce⟩:NS g87_7).1):=xk
@[go_sem] theorem t87_7:TK g87_7:=tk
noncomputable def g87_8:=regAt Proofs.Try.f87 8
@[go_sem] theorem x87_8:XR 87 g87_8 (by exact(⟨_,by conv=>lhs;reduce⟩:NS g87_8).1):=xk
@[go_sem] theorem t87_8:TK g87_8:=tk
noncomputable def g87_9:=regAt Proofs.Try.f87 9
@[go_sem] theorem x87_9:XR 87 g87_9 (by exact(⟨_,by conv=>lhs;reduce⟩:NS g87_9).1):=xk
@[go_sem] theorem t87_9:TK g87_9:=tk
noncomputable def g87_10:=regAt Proofs.Try.f87 10
@[go_sem] theorem x87_10:XR 87 g87_10 (by exact(⟨_,by conv=>lhs;reduce⟩:NS g87_10).1):=xk
@[go_sem] theorem t87_10:TK g87_10:=tk
noncomputable def g87_11:=regAt Proofs.Try.f87 11
@[go_sem] theorem x87_11:XUR 87 g87_11 (by exact(⟨_,by conv=>lhs;reduce⟩:NU 87 g87_11).1) 0:=xuk
@[go_sem] theorem t87_11_55:takes g87_11 55=false:=nk
@[go_sem] theorem t87_11_56:takes g87_11 56=true:=nk
@[go_sem] theorem t87_11_57:takes g87_11 57=false:=nk
@[go_sem] theorem t87_11_58:takes g87_11 58=false:=nk
@[go_sem] theorem t87_11_59:takes g87_11 59=false:=nk
@[go_sem] theorem t87_11_60:takes g87_11 60=false:=nk
@[go_sem] theorem t87_11_61:takes g87_11 61=false:=nk
@[go_sem] theorem t87_11_62:takes g87_11 62=false:=nk
@[go_sem] theorem t87_11_63:takes g87_11 63=false:=nk
@[go_sem] theorem t87_11_64:takes g87_11 64=false:=nk
@[go_sem] theorem t87_11_65:takes g87_11 65=false:=nk
noncomputable def g87_12:=regAt Proofs.Try.f87 12
@[go_sem] theorem x87_12:XR 87 g87_12 (by exact(⟨_,by conv=>lhs;reduce⟩:NS g87_12).1):=xk
@[go_sem] theorem t87_12:TK g87_12:=tk
noncomputable def g87_13:=regAt Proofs.Try.f87 13
@[go_sem] theorem x87_13:XR 87 g87_13 (by exact(⟨_,by conv=>lhs;reduce⟩:NS g87_13).1):=xk
@[go_sem] theorem t87_13:TK g87_13:=tk
noncomputable def l87_0:Code:=(.seq (.seq (.region 3 g87_3 false) (.cond (.tmp 16) .skip (.exit 0))) (.seq (.block 1 (.seq (.region 5 g87_4 false) (.seq (.region 6 g87_5 false) (.region 7 g87_6 false)))) (.region 4 g87_7 false)))
theorem dl87_0{ro nt:Nat}{fr:PT}{H:Hp}:(den cx).loop ro 87 nt l87_0 fr H=xbind (ex cx (den cx) ro 87 nt (.seq (.seq (.region 3 g87_3 false) (.cond (.tmp 16) .skip (.exit 0))) (.seq (.block 1 (.seq (.region 5 g87_4 false) (.seq (.region 6 g87_5 false) (.region 7 g87_6 false)))) (.region 4 g87_7 false))) fr H) (contR (trimmed ((den cx).loop ro 87 nt l87_0) H.length)):=den_loop_x l87_0
noncomputable def l87_1:Code:=(.seq (.seq (.region 9 g87_9 false) (.cond (.tmp 46) .skip (.exit 2))) (.seq (.block 3 (.seq (.region 11 g87_10 false) (.region 12 g87_11 true))) (.region 10 g87_12 false)))
theorem dl87_1{ro nt:Nat}{fr:PT}{H:Hp}:(den cx).loop ro 87 nt l87_1 fr H=xbind (ex cx (den cx) ro 87 nt (.seq (.seq (.region 9 g87_9 false) (.cond (.tmp 46) .skip (.exit 2))) (.seq (.block 3 (.seq (.region 11 g87_10 false) (.region 12 g87_11 true))) (.region 10 g87_12 false))) fr H) (contR (trimmed ((den cx).loop ro 87 nt l87_1) H.length)):=den_loop_x l87_1
theorem c87{h:Hd}{ro:Nat}{H:Hp}(a0:AV):callB cx h ro 87 [a0] H=returned cx [(.cell 2 117)] (ex cx h ro 87 67 (.seq (.region 0 g87_0 false) (.seq (.region 1 g87_1 false) (.seq (.seq (.region 2 g87_2 false) (.block 0 (.loop l87_0))) (.seq (.seq (.region 8 g87_8 false) (.block 2 (.loop l87_1))) (.seq (.region 13 g87_13 false) .ret))))) (PT.nil.set 0 (drp a0)) H):=cbd (fn:=Proofs.Try.f87)
noncomputable def g88_0:=regAt Proofs.Try.f88 0
@[go_sem] theorem x88_0:XR 88 g88_0 (by exact(⟨_,by conv=>lhs;reduce⟩:NS g88_0).1):=xk
@[go_sem] theorem t88_0:TK g88_0:=tk
noncomputable def g88_1:=regAt Proofs.Try.f88 1
@[go_sem] theorem x88_1:XR 88 g88_1 (by exact(⟨_,by conv=>lhs;reduce⟩:NS g88_1).1):=xk
@[go_sem] theorem t88_1:TK g88_1:=tk
noncomputable def g88_2:=regAt Proofs.Try.f88 2
@[go_sem] theorem x88_2:XR 88 g88_2 (by exact(⟨_,by conv=>lhs;reduce⟩:NS g88_2).1):=xk
@[go_sem] theorem t88_2:TK g88_2:=tk
noncomputable def g88_3:=regAt Proofs.Try.f88 3
@[go_sem] theorem x88_3:XR 88 g88_3 (by exact(⟨_,by conv=>lhs;reduce⟩:NS g88_3).1):=xk
@[go_sem] theorem t88_3:TK g88_3:=tk
noncomputable def g88_4:=regAt Proofs.Try.f88 4
@[go_sem] theorem x88_4:XR 88 g88_4 (by exact(⟨_,by conv=>lhs;reduce⟩:NS g88_4).1):=xk
@[go_sem] theorem t88_4:TK g88_4:=tk
noncomputable def g88_5:=regAt Proofs.Try.f88 5
@[go_sem] theorem x88_5:XR 88 g88_5 (by exact(⟨_,by conv=>lhs;reduce⟩:NS g88_5).1):=xk
@[go_sem] theorem t88_5:TK g88_5:=tk
noncomputable def g88_6:=regAt Proofs.Try.f88 6
@[go_sem] theorem x88_6:XR 88 g88_6 (by exact(⟨_,by conv=>lhs;reduce⟩:NS g88_6).1):=xk
@[go_sem] theorem t88_6:TK g88_6:=tk
noncomputable def g88_7:=regAt Proofs.Try.f88 7
@[go_sem] theorem x88_7:XR 88 g88_7 (by exact(⟨_,by conv=>lhs;reduce⟩:NS g88_7).1):=xk
@[go_sem] theorem t88_7:TK g88_7:=tk
noncomputable def g88_8:=regAt Proofs.Try.f88 8
@[go_sem] theorem x88_8:XR 88 g88_8 (by exact(⟨_,by conv=>lhs;reduce⟩:NS g88_8).1):=xk
@[go_sem] theorem t88_8:TK g88_8:=tk
noncomputable def g88_9:=regAt Proofs.Try.f88 9
@[go_sem] theorem x88_9:XR 88 g88_9 (by exact(⟨_,by conv=>lhs;reduce⟩:NS g88_9).1):=xk
@[go_sem] theorem t88_9:TK g88_9:=tk
noncomputable def g88_10:=regAt Proofs.Try.f88 10
@[go_sem] theorem x88_10:XR 88 g88_10 (by exact(⟨_,by conv=>lhs;reduce⟩:NS g88_10).1):=xk
@[go_sem] theorem t88_10:TK g88_10:=tk
noncomputable def l88_0:Code:=(.seq (.seq (.region 3 g88_3 false) (.cond (.tmp 12) .skip (.exit 0))) (.seq (.block 1 (.seq (.region 5 g88_4 false) (.seq (.region 6 g88_5 false) (.seq (.region 7 g88_6 false) (.seq (.region 8 g88_7 false) (.region 9 g88_8 false)))))) (.region 4 g88_9 false)))
theorem dl88_0{ro nt:Nat}{fr:PT}{H:Hp}:(den cx).loop ro 88 nt l88_0 fr H=xbind (ex cx (den cx) ro 88 nt (.seq (.seq (.region 3 g88_3 false) (.cond (.tmp 12) .skip (.exit 0))) (.seq (.block 1 (.seq (.region 5 g88_4 false) (.seq (.region 6 g88_5 false) (.seq (.region 7 g88_6 false) (.seq (.region 8 g88_7 false) (.region 9 g88_8 false)))))) (.region 4 g88_9 false))) fr H) (contR (trimmed ((den cx).loop ro 88 nt l88_0) H.length)):=den_loop_x l88_0
theorem c88{h:Hd}{ro:Nat}{H:Hp}(a0 a1:AV):callB cx h ro 88 [a0,a1] H=returned cx [(.cell 4 122)] (ex cx h ro 88 43 (.seq (.region 0 g88_0 false) (.seq (.region 1 g88_1 false) (.seq (.seq (.region 2 g88_2 false) (.block 0 (.loop l88_0))) (.seq (.region 10 g88_10 false) .ret)))) ((PT.nil.set 0 (drp a0)).set 1 (drp a1)) H):=cbd (fn:=Proofs.Try.f88)
noncomputable def g89_0:=regAt Proofs.Try.f89 0
@[go_sem] theorem x89_0:XR 89 g89_0 (by exact(⟨_,by conv=>lhs;reduce⟩:NS g89_0).1):=xk
@[go_sem] theorem t89_0:TK g89_0:=tk
noncomputable def g89_1:=regAt Proofs.Try.f89 1
@[go_sem] theorem x89_1:XR 89 g89_1 (by exact(⟨_,by conv=>lhs;reduce⟩:NS g89_1).1):=xk
@[go_sem] theorem t89_1:TK g89_1:=tk
noncomputable def g89_2:=regAt Proofs.Try.f89 2
@[go_sem] theorem x89_2:XR 89 g89_2 (by exact(⟨_,by conv=>lhs;reduce⟩:NS g89_2).1):=xk
@[go_sem] theorem t89_2:TK g89_2:=tk
noncomputable def g89_3:=regAt Proofs.Try.f89 3
@[go_sem] theorem x89_3:XR 89 g89_3 (by exact(⟨_,by conv=>lhs;reduce⟩:NS g89_3).1):=xk
@[go_sem] theorem t89_3:TK g89_3:=tk
noncomputable def g89_4:=regAt Proofs.Try.f89 4
@[go_sem] theorem x89_4:XR 89 g89_4 (by exact(⟨_,by conv=>lhs;reduce⟩:NS g89_4).1):=xk
@[go_sem] theorem t89_4:TK g89_4:=tk
theorem c89{h:Hd}{ro:Nat}{H:Hp}(a0 a1:AV):callB cx h ro 89 [a0,a1] H=returned cx [(.cell 4 122)] (ex cx h ro 89 17 (.seq (.region 0 g89_0 false) (.seq (.seq (.region 1 g89_1 false) (.seq (.region 2 g89_2 false) (.cond (.tmp 13) (.region 3 g89_3 false) .skip))) (.seq (.region 4 g89_4 false) .ret))) ((PT.nil.set 0 (drp a0)).set 1 (drp a1)) H):=cbd (fn:=Proofs.Try.f89)
noncomputable def g90_0:=regAt Proofs.Try.f90 0
@[go_sem] theorem x90_0:XR 90 g90_0 (by exact(⟨_,by conv=>lhs;reduce⟩:NS g90_0).1):=xk
@[go_sem] theorem t90_0:TK g90_0:=tk
noncomputable def g90_1:=regAt Proofs.Try.f90 1
@[go_sem] theorem x90_1:XR 90 g90_1 (by exact(⟨_,by conv=>lhs;reduce⟩:NS g90_1).1):=xk
@[go_sem] theorem t90_1:TK g90_1:=tk
noncomputable def g90_2:=regAt Proofs.Try.f90 2
@[go_sem] theorem x90_2:XR 90 g90_2 (by exact(⟨_,by conv=>lhs;reduce⟩:NS g90_2).1):=xk
@[go_sem] theorem t90_2:TK g90_2:=tk
noncomputable def g90_3:=regAt Proofs.Try.f90 3
@[go_sem] theorem x90_3:XR 90 g90_3 (by exact(⟨_,by conv=>lhs;reduce⟩:NS g90_3).1):=xk
@[go_sem] theorem t90_3:TK g90_3:=tk
noncomputable def g90_4:=regAt Proofs.Try.f90 4
@[go_sem] theorem x90_4:XR 90 g90_4 (by exact(⟨_,by conv=>lhs;reduce⟩:NS g90_4).1):=xk
@[go_sem] theorem t90_4:TK g90_4:=tk
noncomputable def g90_5:=regAt Proofs.Try.f90 5
@[go_sem] theorem x90_5:XR 90 g90_5 (by exact(⟨_,by conv=>lhs;reduce⟩:NS g90_5).1):=xk
@[go_sem] theorem t90_5:TK g90_5:=tk
noncomputable def g90_6:=regAt Proofs.Try.f90 6
@[go_sem] theorem x90_6:XR 90 g90_6 (by exact(⟨_,by conv=>lhs;reduce⟩:NS g90_6).1):=xk
@[go_sem] theorem t90_6:TK g90_6:=tk
noncomputable def g90_7:=regAt Proofs.Try.f90 7
@[go_sem] theorem x90_7:XUR 90 g90_7 (by exact(⟨_,by conv=>lhs;reduce⟩:NU 90 g90_7).1) 0:=xuk
@[go_sem] theorem t90_7:TK g90_7:=tk
noncomputable def q90_0:Code:=(.region 2 g90_2 false)
noncomputable def r90_0:Code:=(.block 1 (.seq (.region 3 g90_3 false) (.seq (.seq (.region 4 g90_4 false) (.cond (.tmp 17) (.region 5 g90_5 false) .skip)) (.region 6 g90_6 false))))
theorem c90{h:Hd}{ro:Nat}{H:Hp}(a0 a1:AV):callB cx h ro 90 [a0,a1] H=returned cx [(.cell 4 3),(.cell 5 4)] (ex cx h ro 90 24 (.seq (.region 0 g90_0 false) (.seq (.seq (.region 1 g90_1 false) (.block 0 (.rangeFunc (.tmp 9) #[10] q90_0 r90_0))) (.seq (.region 7 g90_7 true) .ret))) ((PT.nil.set 0 (drp a0)).set 1 (drp a1)) H):=cbd (fn:=Proofs.Try.f90)
noncomputable def g91_0:=regAt Proofs.Try.f91 0
@[go_sem] theorem x91_0:XR 91 g91_0 (by exact(⟨_,by conv=>lhs;reduce⟩:NS g91_0).1):=xk
@[go_sem] theorem t91_0:TK g91_0:=tk
noncomputable def g91_1:=regAt Proofs.Try.f91 1
@[go_sem] theorem x91_1:XR 91 g91_1 (by exact(⟨_,by conv=>lhs;reduce⟩:NS g91_1).1):=xk
@[go_sem] theorem t91_1:TK g91_1:=tk
noncomputable def g91_2:=regAt Proofs.Try.f91 2
@[go_sem] theorem x91_2:XR 91 g91_2 (by exact(⟨_,by conv=>lhs;reduce⟩:NS g91_2).1):=xk
@[go_sem] theorem t91_2:TK g91_2:=tk
theorem c91{h:Hd}{ro:Nat}{H:Hp}(a0 a1:AV):callB cx h ro 91 [a0,a1] H=returned cx [(.tmp 4)] (ex cx h ro 91 35 (.seq (.region 0 g91_0 false) (.seq (.region 1 g91_1 false) (.seq (.region 2 g91_2 false) .ret))) ((PT.nil.set 0 (drp a0)).set 1 (drp a1)) H):=cbd (fn:=Proofs.Try.f91)
noncomputable def g92_0:=regAt Proofs.Try.f92 0
@[go_sem] theorem x92_0:XR 92 g92_0 (by exact(⟨_,by conv=>lhs;reduce⟩:NS g92_0).1):=xk
@[go_sem] theorem t92_0:TK g92_0:=tk
noncomputable def g92_1:=regAt Proofs.Try.f92 1
@[go_sem] theorem x92_1:XR 92 g92_1 (by exact(⟨_,by conv=>lhs;reduce⟩:NS g92_1).1):=xk
@[go_sem] theorem t92_1:TK g92_1:=tk
theorem c92{h:Hd}{ro:Nat}{H:Hp}(a0 a1:AV):callB cx h ro 92 [a0,a1] H=returned cx [(.tmp 4)] (ex cx h ro 92 8 (.seq (.region 0 g92_0 false) (.seq (.region 1 g92_1 false) .ret)) ((PT.nil.set 0 (drp a0)).set 1 (drp a1)) H):=cbd (fn:=Proofs.Try.f92)
noncomputable def g93_0:=regAt Proofs.Try.f93 0
@[go_sem] theorem x93_0:XR 93 g93_0 (by exact(⟨_,by conv=>lhs;reduce⟩:NS g93_0).1):=xk
@[go_sem] theorem t93_0:TK g93_0:=tk
noncomputable def g93_1:=regAt Proofs.Try.f93 1
@[go_sem] theorem x93_1:XR 93 g93_1 (by exact(⟨_,by conv=>lhs;reduce⟩:NS g93_1).1):=xk
@[go_sem] theorem t93_1:TK g93_1:=tk
noncomputable def g93_2:=regAt Proofs.Try.f93 2
@[go_sem] theorem x93_2:XR 93 g93_2 (by exact(⟨_,by conv=>lhs;reduce⟩:NS g93_2).1):=xk
@[go_sem] theorem t93_2:TK g93_2:=tk
noncomputable def g93_3:=regAt Proofs.Try.f93 3
@[go_sem] theorem x93_3:XR 93 g93_3 (by exact(⟨_,by conv=>lhs;reduce⟩:NS g93_3).1):=xk
@[go_sem] theorem t93_3:TK g93_3:=tk
noncomputable def g93_4:=regAt Proofs.Try.f93 4
@[go_sem] theorem x93_4:XUR 93 g93_4 (by exact(⟨_,by conv=>lhs;reduce⟩:NU 93 g93_4).1) 0:=xuk
@[go_sem] theorem t93_4:TK g93_4:=tk
noncomputable def g93_5:=regAt Proofs.Try.f93 5
@[go_sem] theorem x93_5:XR 93 g93_5 (by exact(⟨_,by conv=>lhs;reduce⟩:NS g93_5).1):=xk
@[go_sem] theorem t93_5:TK g93_5:=tk
noncomputable def g93_6:=regAt Proofs.Try.f93 6
@[go_sem] theorem x93_6:XR 93 g93_6 (by exact(⟨_,by conv=>lhs;reduce⟩:NS g93_6).1):=xk
@[go_sem] theorem t93_6:TK g93_6:=tk
noncomputable def g93_7:=regAt Proofs.Try.f93 7
@[go_sem] theorem x93_7:XR 93 g93_7 (by exact(⟨_,by conv=>lhs;reduce⟩:NS g93_7).1):=xk
@[go_sem] theorem t93_7:TK g93_7:=tk
noncomputable def l93_0:Code:=(.seq (.seq (.region 3 g93_3 false) (.cond (.tmp 14) .skip (.exit 0))) (.seq (.block 1 (.seq (.region 5 g93_4 true) (.cond (.tmp 22) (.region 6 g93_5 false) .skip))) (.region 4 g93_6 false)))
theorem dl93_0{ro nt:Nat}{fr:PT}{H:Hp}:(den cx).loop ro 93 nt l93_0 fr H=xbind (ex cx (den cx) ro 93 nt (.seq (.seq (.region 3 g93_3 false) (.cond (.tmp 14) .skip (.exit 0))) (.seq (.block 1 (.seq (.region 5 g93_4 true) (.cond (.tmp 22) (.region 6 g93_5 false) .skip))) (.region 4 g93_6 false))) fr H) (contR (trimmed ((den cx).loop ro 93 nt l93_0) H.length)):=den_loop_x l93_0
theorem c93{h:Hd}{ro:Nat}{H:Hp}(a0 a1 a2:AV):callB cx h ro 93 [a0,a1,a2] H=returned cx [(.cell 6 122)] (ex cx h ro 93 35 (.seq (.region 0 g93_0 false) (.seq (.region 1 g93_1 false) (.seq (.seq (.region 2 g93_2 false) (.block 0 (.loop l93_0))) (.seq (.region 7 g93_7 false) .ret)))) (((PT.nil.set 0 (drp a0)).set 1 (drp a1)).set 2 (drp a2)) H):=cbd (fn:=Proofs.Try.f93)
noncomputable def g94_0:=regAt Proofs.Try.f94 0
@[go_sem] theorem x94_0:XR 94 g94_0 (by exact(⟨_,by conv=>lhs;reduce⟩:NS g94_0).1):=xk
@[go_sem] theorem t94_0:TK g94_0:=tk
noncomputable def g94_1:=regAt Proofs.Try.f94 1
@[go_sem] theorem x94_1:XR 94 g94_1 (by exact(⟨_,by conv=>lhs;reduce⟩:NS g94_1).1):=xk
@[go_sem] theorem t94_1:TK g94_1:=tk
noncomputable def g94_2:=regAt Proofs.Try.f94 2
@[go_sem] theorem x94_2:XR 94 g94_2 (by exact(⟨_,by conv=>lhs;reduce⟩:NS g94_2).1):=xk
@[go_sem] theorem t94_2:TK g94_2:=tk
noncomputable def g94_3:=regAt Proofs.Try.f94 3
@[go_sem] theorem x94_3:XR 94 g94_3 (by exact(⟨_,by conv=>lhs;reduce⟩:NS g94_3).1):=xk
@[go_sem] theorem t94_3:TK g94_3:=tk
noncomputable def g94_4:=regAt Proofs.Try.f94 4
@[go_sem] theorem x94_4:XR 94 g94_4 (by exact(⟨_,by conv=>lhs;reduce⟩:NS g94_4).1):=xk
@[go_sem] theorem t94_4:TK g94_4:=tk
noncomputable def g94_5:=regAt Proofs.Try.f94 5
@[go_sem] theorem x94_5:XR 94 g94_5 (by exact(⟨_,by conv=>lhs;reduce⟩:NS g94_5).1):=xk
@[go_sem] theorem t94_5:TK g94_5:=tk
noncomputable def g94_6:=regAt Proofs.Try.f94 6
@[go_sem] theorem x94_6:XUR 94 g94_6 (by exact(⟨_,by conv=>lhs;reduce⟩:NU 94 g94_6).1) 0:=xuk
@[go_sem] theorem t94_6:TK g94_6:=tk
noncomputable def g94_7:=regAt Proofs.Try.f94 7
@[go_sem] theorem x94_7:XR 94 g94_7 (by exact(⟨_,by conv=>lhs;reduce⟩:NS g94_7).1):=xk
@[go_sem] theorem t94_7:TK g94_7:=tk
noncomputable def g94_8:=regAt Proofs.Try.f94 8
@[go_sem] theorem x94_8:XR 94 g94_8 (by exact(⟨_,by conv=>lhs;reduce⟩:NS g94_8).1):=xk
@[go_sem] theorem t94_8:TK g94_8:=tk
noncomputable def g94_9:=regAt Proofs.Try.f94 9
@[go_sem] theorem x94_9:XR 94 g94_9 (by exact(⟨_,by conv=>lhs;reduce⟩:NS g94_9).1):=xk
@[go_sem] theorem t94_9:TK g94_9:=tk
noncomputable def q94_0:Code:=(.region 5 g94_5 false)
noncomputable def r94_0:Code:=(.block 1 (.region 6 g94_6 true))
theorem c94{h:Hd}{ro:Nat}{H:Hp}(a0 a1 a2:AV):callB cx h ro 94 [a0,a1,a2] H=returned cx [(.tmp 6),(.tmp 7)] (ex cx h ro 94 46 (.seq (.region 0 g94_0 false) (.seq (.region 1 g94_1 false) (.seq (.region 2 g94_2 false) (.seq (.region 3 g94_3 false) (.seq (.seq (.region 4 g94_4 false) (.block 0 (.rangeFunc (.tmp 23) #[24] q94_0 r94_0))) (.seq (.seq (.region 7 g94_7 false) (.cond (.tmp 44) (.seq (.region 8 g94_8 false) .ret) .skip)) (.seq (.region 9 g94_9 false) .ret))))))) (((PT.nil.set 0 (drp a0)).set 1 (drp a1)).set 2 (drp a2)) H):=cbd (fn:=Proofs.Try.f94)
noncomputable def g140_0:=regAt Proofs.Try.f140 0
@[go_sem] theorem x140_0:XR 140 g140_0 (by exact(⟨_,by conv=>lhs;reduce⟩:NS g140_0).1):=xk
@[go_sem] theorem t140_0:TK g140_0:=tk
noncomputable def g140_1:=regAt Proofs.Try.f140 1
@[go_sem] theorem x140_1:XR 140 g140_1 (by exact(⟨_,by conv=>lhs;reduce⟩:NS g140_1).1):=xk
@[go_sem] theorem t140_1:TK g140_1:=tk
noncomputable def g140_2:=regAt Proofs.Try.f140 2
@[go_sem] theorem x140_2:XR 140 g140_2 (by exact(⟨_,by conv=>lhs;reduce⟩:NS g140_2).1):=xk
@[go_sem] theorem t140_2:TK g140_2:=tk
noncomputable def g140_3:=regAt Proofs.Try.f140 3
@[go_sem] theorem x140_3:XR 140 g140_3 (by exact(⟨_,by conv=>lhs;reduce⟩:NS g140_3).1):=xk
@[go_sem] theorem t140_3:TK g140_3:=tk
noncomputable def g140_4:=regAt Proofs.Try.f140 4
@[go_sem] theorem x140_4:XR 140 g140_4 (by exact(⟨_,by conv=>lhs;reduce⟩:NS g140_4).1):=xk
@[go_sem] theorem t140_4:TK g140_4:=tk
noncomputable def g140_5:=regAt Proofs.Try.f140 5
@[go_sem] theorem x140_5:XR 140 g140_5 (by exact(⟨_,by conv=>lhs;reduce⟩:NS g140_5).1):=xk
@[go_sem] theorem t140_5:TK g140_5:=tk
noncomputable def g140_6:=regAt Proofs.Try.f140 6
@[go_sem] theorem x140_6:XR 140 g140_6 (by exact(⟨_,by conv=>lhs;reduce⟩:NS g140_6).1):=xk
@[go_sem] theorem t140_6:TK g140_6:=tk
theorem c140{h:Hd}{ro:Nat}{H:Hp}(a0 a1 a2:AV):callB cx h ro 140 [a0,a1,a2] H=returned cx [(.cell 6 119),(.tmp 7)] (ex cx h ro 140 36 (.seq (.region 0 g140_0 false) (.seq (.seq (.region 1 g140_1 false) (.cond (.tmp 12) (.seq (.region 2 g140_2 false) .ret) .skip)) (.seq (.seq (.region 3 g140_3 false) (.cond (.tmp 24) (.seq (.region 4 g140_4 false) .ret) .skip)) (.seq (.region 5 g140_5 false) (.seq (.region 6 g140_6 false) .ret))))) (((PT.nil.set 0 (drp a0)).set 1 (drp a1)).set 2 (drp a2)) H):=cbd (fn:=Proofs.Try.f140)
noncomputable def g141_0:=regAt Proofs.Try.f141 0
@[go_sem] theorem x141_0:XR 141 g141_0 (by exact(⟨_,by conv=>lhs;reduce⟩:NS g141_0).1):=xk
@[go_sem] theorem t141_0:TK g141_0:=tk
noncomputable def g141_1:=regAt Proofs.Try.f141 1
@[go_sem] theorem x141_1:XR 141 g141_1 (by exact(⟨_,by conv=>lhs;reduce⟩:NS g141_1).1):=xk
@[go_sem] theorem t141_1:TK g141_1:=tk
theorem c141{h:Hd}{ro:Nat}{H:Hp}(a0 a1:AV):callB cx h ro 141 [a0,a1] H=returned cx [(.tmp 4)] (ex cx h ro 141 6 (.seq (.region 0 g141_0 false) (.seq (.region 1 g141_1 false) .ret)) ((PT.nil.set 0 (drp a0)).set 1 (drp a1)) H):=cbd (fn:=Proofs.Try.f141)
noncomputable def g163_0:=regAt Proofs.Try.f163 0
@[go_sem] theorem x163_0:XR 163 g163_0 (by exact(⟨_,by conv=>lhs;reduce⟩:NS g163_0).1):=xk
@[go_sem] theorem t163_0:TK g163_0:=tk
noncomputable def g163_1:=regAt Proofs.Try.f163 1
@[go_sem] theorem x163_1:XR 163 g163_1 (by exact(⟨_,by conv=>lhs;reduce⟩:NS g163_1).1):=xk
@[go_sem] theorem t163_1:TK g163_1:=tk
noncomputable def g163_2:=regAt Proofs.Try.f163 2
@[go_sem] theorem x163_2:XR 163 g163_2 (by exact(⟨_,by conv=>lhs;reduce⟩:NS g163_2).1):=xk
@[go_sem] theorem t163_2:TK g163_2:=tk
noncomputable def g163_3:=regAt Proofs.Try.f163 3
@[go_sem] theorem x163_3:XR 163 g163_3 (by exact(⟨_,by conv=>lhs;reduce⟩:NS g163_3).1):=xk
@[go_sem] theorem t163_3:TK g163_3:=tk
noncomputable def g163_4:=regAt Proofs.Try.f163 4
@[go_sem] theorem x163_4:XR 163 g163_4 (by exact(⟨_,by conv=>lhs;reduce⟩:NS g163_4).1):=xk
@[go_sem] theorem t163_4:TK g163_4:=tk
noncomputable def l163_0:Code:=(.seq (.region 1 g163_1 false) (.seq (.cond (.tmp 11) .skip (.exit 0)) (.seq (.block 1 (.seq (.region 2 g163_2 false) (.seq (.region 3 g163_3 false) (.cond (.tmp 22) .ret .skip)))) (.region 4 g163_4 false))))
theorem dl163_0{ro nt:Nat}{fr:PT}{H:Hp}:(den cx).loop ro 163 nt l163_0 fr H=xbind (ex cx (den cx) ro 163 nt (.seq (.region 1 g163_1 false) (.seq (.cond (.tmp 11) .skip (.exit 0)) (.seq (.block 1 (.seq (.region 2 g163_2 false) (.seq (.region 3 g163_3 false) (.cond (.tmp 22) .ret .skip)))) (.region 4 g163_4 false)))) fr H) (contR (trimmed ((den cx).loop ro 163 nt l163_0) H.length)):=den_loop_x l163_0
theorem c163{h:Hd}{ro:Nat}{H:Hp}(a0 a1 a2:AV):callB cx h ro 163 [a0,a1,a2] H=returned cx [] (ex cx h ro 163 24 (.seq (.region 0 g163_0 false) (.block 0 (.loop l163_0))) (((PT.nil.set 0 (drp a0)).set 1 (drp a1)).set 2 (drp a2)) H):=cbd (fn:=Proofs.Try.f163)
end Go.Abs.Tab
