/- The tables of this seat are its program's. (Printed by a program.) -/
import Derived.Test.YtiinagmombigpaaEvE
import Derived.Test.YtiinagmombigpaaEvT
import Derived.KernelRfl
namespace Go.Abs
def Tr.list{α:Type}:Tr α→(Nat→Nat)→List (Nat×α)
 | .nil,_=>[]
 | .node v l r,f=>(match v with | some x=>[(f 0,x)] | none=>[])++(l.list (fun m=>f (2*m+1))++r.list (fun m=>f (2*m+2)))
theorem Tr.mem_list{α:Type}:∀(t:Tr α)(f:Nat→Nat) {n:Nat} {x:α},t.get n=some x→(f n,x)∈t.list f
 | .nil,_,n,x,h=>by simp[Tr.get]at h
 | .node v l r,f,0,x,h=>by
  simp only[Tr.get]at h
  subst h
  simp[Tr.list]
 | .node v l r,f,n+1,x,h=>by
  simp only[Tr.get]at h
  simp only[Tr.list,List.mem_append]
  right
  split at h
  ·rename_i he
   left
   have:=Tr.mem_list l (fun m=>f (2*m+1)) h
   have e:2*(n / 2)+1=n+1:=by omega
   simp only[e]at this
   exact this
  ·rename_i he
   right
   have:=Tr.mem_list r (fun m=>f (2*m+2)) h
   have e:2*(n / 2)+2=n+1:=by
    have h2:n % 2≠0:=he
    omega
   simp only[e]at this
   exact this
namespace Tab
theorem T1_ok:mkTI Go.Proofs.Try.prog 1=some T1∧T1.good=true:=⟨by kernel_rfl,by kernel_rfl⟩
theorem T3_ok:mkTI Go.Proofs.Try.prog 3=some T3∧T3.good=true:=⟨by kernel_rfl,by kernel_rfl⟩
theorem T31_ok:mkTI Go.Proofs.Try.prog 31=some T31∧T31.good=true:=⟨by kernel_rfl,by kernel_rfl⟩
theorem T63_ok:mkTI Go.Proofs.Try.prog 63=some T63∧T63.good=true:=⟨by kernel_rfl,by kernel_rfl⟩
theorem T95_ok:mkTI Go.Proofs.Try.prog 95=some T95∧T95.good=true:=⟨by kernel_rfl,by kernel_rfl⟩
theorem T223_ok:mkTI Go.Proofs.Try.prog 223=some T223∧T223.good=true:=⟨by kernel_rfl,by kernel_rfl⟩
theorem T207_ok:mkTI Go.Proofs.Try.prog 207=some T207∧T207.good=true:=⟨by kernel_rfl,by kernel_rfl⟩
theorem T111_ok:mkTI Go.Proofs.Try.prog 111=some T111∧T111.good=true:=⟨by kernel_rfl,by kernel_rfl⟩
theorem T215_ok:mkTI Go.Proofs.Try.prog 215=some T215∧T215.good=true:=⟨by kernel_rfl,by kernel_rfl⟩
theorem T259_ok:mkTI Go.Proofs.Try.prog 259=some T259∧T259.good=true:=⟨by kernel_rfl,by kernel_rfl⟩
theorem T27_ok:mkTI Go.Proofs.Try.prog 27=some T27∧T27.good=true:=⟨by kernel_rfl,by kernel_rfl⟩
theorem T251_ok:mkTI Go.Proofs.Try.prog 251=some T251∧T251.good=true:=⟨by kernel_rfl,by kernel_rfl⟩
theorem T5_ok:mkTI Go.Proofs.Try.prog 5=some T5∧T5.good=true:=⟨by kernel_rfl,by kernel_rfl⟩
theorem T9_ok:mkTI Go.Proofs.Try.prog 9=some T9∧T9.good=true:=⟨by kernel_rfl,by kernel_rfl⟩
theorem T17_ok:mkTI Go.Proofs.Try.prog 17=some T17∧T17.good=true:=⟨by kernel_rfl,by kernel_rfl⟩
theorem T257_ok:mkTI Go.Proofs.Try.prog 257=some T257∧T257.good=true:=⟨by kernel_rfl,by kernel_rfl⟩
theorem T209_ok:mkTI Go.Proofs.Try.prog 209=some T209∧T209.good=true:=⟨by kernel_rfl,by kernel_rfl⟩
theorem T249_ok:mkTI Go.Proofs.Try.prog 249=some T249∧T249.good=true:=⟨by kernel_rfl,by kernel_rfl⟩
theorem T21_ok:mkTI Go.Proofs.Try.prog 21=some T21∧T21.good=true:=⟨by kernel_rfl,by kernel_rfl⟩
theorem T213_ok:mkTI Go.Proofs.Try.prog 213=some T213∧T213.good=true:=⟨by kernel_rfl,by kernel_rfl⟩
theorem T109_ok:mkTI Go.Proofs.Try.prog 109=some T109∧T109.good=true:=⟨by kernel_rfl,by kernel_rfl⟩
theorem T61_ok:mkTI Go.Proofs.Try.prog 61=some T61∧T61.good=true:=⟨by kernel_rfl,by kernel_rfl⟩
theorem T93_ok:mkTI Go.Proofs.Try.prog 93=some T93∧T93.good=true:=⟨by kernel_rfl,by kernel_rfl⟩
theorem T2_ok:mkTI Go.Proofs.Try.prog 2=some T2∧T2.good=true:=⟨by kernel_rfl,by kernel_rfl⟩
theorem T4_ok:mkTI Go.Proofs.Try.prog 4=some T4∧T4.good=true:=⟨by kernel_rfl,by kernel_rfl⟩
theorem T8_ok:mkTI Go.Proofs.Try.prog 8=some T8∧T8.good=true:=⟨by kernel_rfl,by kernel_rfl⟩
theorem T16_ok:mkTI Go.Proofs.Try.prog 16=some T16∧T16.good=true:=⟨by kernel_rfl,by kernel_rfl⟩
theorem T32_ok:mkTI Go.Proofs.Try.prog 32=some T32∧T32.good=true:=⟨by kernel_rfl,by kernel_rfl⟩
theorem T64_ok:mkTI Go.Proofs.Try.prog 64=some T64∧T64.good=true:=⟨by kernel_rfl,by kernel_rfl⟩
theorem T48_ok:mkTI Go.Proofs.Try.prog 48=some T48∧T48.good=true:=⟨by kernel_rfl,by kernel_rfl⟩
theorem T144_ok:mkTI Go.Proofs.Try.prog 144=some T144∧T144.good=true:=⟨by kernel_rfl,by kernel_rfl⟩
theorem T24_ok:mkTI Go.Proofs.Try.prog 24=some T24∧T24.good=true:=⟨by kernel_rfl,by kernel_rfl⟩
theorem T72_ok:mkTI Go.Proofs.Try.prog 72=some T72∧T72.good=true:=⟨by kernel_rfl,by kernel_rfl⟩
theorem T168_ok:mkTI Go.Proofs.Try.prog 168=some T168∧T168.good=true:=⟨by kernel_rfl,by kernel_rfl⟩
theorem T56_ok:mkTI Go.Proofs.Try.prog 56=some T56∧T56.good=true:=⟨by kernel_rfl,by kernel_rfl⟩
theorem T248_ok:mkTI Go.Proofs.Try.prog 248=some T248∧T248.good=true:=⟨by kernel_rfl,by kernel_rfl⟩
theorem T260_ok:mkTI Go.Proofs.Try.prog 260=some T260∧T260.good=true:=⟨by kernel_rfl,by kernel_rfl⟩
theorem T84_ok:mkTI Go.Proofs.Try.prog 84=some T84∧T84.good=true:=⟨by kernel_rfl,by kernel_rfl⟩
theorem T212_ok:mkTI Go.Proofs.Try.prog 212=some T212∧T212.good=true:=⟨by kernel_rfl,by kernel_rfl⟩
theorem T108_ok:mkTI Go.Proofs.Try.prog 108=some T108∧T108.good=true:=⟨by kernel_rfl,by kernel_rfl⟩
theorem T220_ok:mkTI Go.Proofs.Try.prog 220=some T220∧T220.good=true:=⟨by kernel_rfl,by kernel_rfl⟩
theorem T6_ok:mkTI Go.Proofs.Try.prog 6=some T6∧T6.good=true:=⟨by kernel_rfl,by kernel_rfl⟩
theorem T18_ok:mkTI Go.Proofs.Try.prog 18=some T18∧T18.good=true:=⟨by kernel_rfl,by kernel_rfl⟩
theorem T66_ok:mkTI Go.Proofs.Try.prog 66=some T66∧T66.good=true:=⟨by kernel_rfl,by kernel_rfl⟩
theorem T114_ok:mkTI Go.Proofs.Try.prog 114=some T114∧T114.good=true:=⟨by kernel_rfl,by kernel_rfl⟩
theorem T26_ok:mkTI Go.Proofs.Try.prog 26=some T26∧T26.good=true:=⟨by kernel_rfl,by kernel_rfl⟩
theorem T202_ok:mkTI Go.Proofs.Try.prog 202=some T202∧T202.good=true:=⟨by kernel_rfl,by kernel_rfl⟩
theorem T218_ok:mkTI Go.Proofs.Try.prog 218=some T218∧T218.good=true:=⟨by kernel_rfl,by kernel_rfl⟩
theorem T262_ok:mkTI Go.Proofs.Try.prog 262=some T262∧T262.good=true:=⟨by kernel_rfl,by kernel_rfl⟩
theorem T254_ok:mkTI Go.Proofs.Try.prog 254=some T254∧T254.good=true:=⟨by kernel_rfl,by kernel_rfl⟩
noncomputable def tl0:List (Nat×TI):=[(1,T1),(3,T3),(31,T31),(63,T63),(95,T95),(223,T223),(207,T207),(111,T111),(215,T215),(259,T259),(27,T27),(251,T251),(5,T5),(9,T9),(17,T17),(257,T257),(209,T209),(249,T249),(21,T21),(213,T213),(109,T109),(61,T61),(93,T93),(2,T2)]
theorem tl0_ok:∀e∈tl0,mkTI Go.Proofs.Try.prog e.1=some e.2∧e.2.good=true:=by
 unfold tl0
 simp only[List.forall_mem_cons,List.not_mem_nil,false_implies,implies_true,and_true]
 exact⟨T1_ok,T3_ok,T31_ok,T63_ok,T95_ok,T223_ok,T207_ok,T111_ok,T215_ok,T259_ok,T27_ok,T251_ok,T5_ok,T9_ok,T17_ok,T257_ok,T209_ok,T249_ok,T21_ok,T213_ok,T109_ok,T61_ok,T93_ok,T2_ok⟩
noncomputable def tl1:List (Nat×TI):=[(4,T4),(8,T8),(16,T16),(32,T32),(64,T64),(48,T48),(144,T144),(24,T24),(72,T72),(168,T168),(56,T56),(248,T248),(260,T260),(84,T84),(212,T212),(108,T108),(220,T220),(6,T6),(18,T18),(66,T66),(114,T114),(26,T26),(202,T202),(218,T218)]
theorem tl1_ok:∀e∈tl1,mkTI Go.Proofs.Try.prog e.1=some e.2∧e.2.good=true:=by
 unfold tl1
 simp only[List.forall_mem_cons,List.not_mem_nil,false_implies,implies_true,and_true]
 exact⟨T4_ok,T8_ok,T16_ok,T32_ok,T64_ok,T48_ok,T144_ok,T24_ok,T72_ok,T168_ok,T56_ok,T248_ok,T260_ok,T84_ok,T212_ok,T108_ok,T220_ok,T6_ok,T18_ok,T66_ok,T114_ok,T26_ok,T202_ok,T218_ok⟩
noncomputable def tl2:List (Nat×TI):=[(262,T262),(254,T254)]
theorem tl2_ok:∀e∈tl2,mkTI Go.Proofs.Try.prog e.1=some e.2∧e.2.good=true:=by
 unfold tl2
 simp only[List.forall_mem_cons,List.not_mem_nil,false_implies,implies_true,and_true]
 exact⟨T262_ok,T254_ok⟩
theorem tl_list:types.list id=tl0++(tl1++tl2):=by kernel_rfl
theorem tl_ok:∀e∈tl0++(tl1++tl2),mkTI Go.Proofs.Try.prog e.1=some e.2∧e.2.good=true:=by
 simp only[List.forall_mem_append]
 exact⟨tl0_ok,tl1_ok,tl2_ok⟩
noncomputable def fl0:List (Nat×Func):=[(127,Go.Proofs.Try.f127),(159,Go.Proofs.Try.f159),(175,Go.Proofs.Try.f175),(119,Go.Proofs.Try.f119),(19,Go.Proofs.Try.f19),(51,Go.Proofs.Try.f51),(59,Go.Proofs.Try.f59),(155,Go.Proofs.Try.f155),(123,Go.Proofs.Try.f123),(129,Go.Proofs.Try.f129),(57,Go.Proofs.Try.f57),(153,Go.Proofs.Try.f153),(13,Go.Proofs.Try.f13),(21,Go.Proofs.Try.f21),(69,Go.Proofs.Try.f69),(117,Go.Proofs.Try.f117),(61,Go.Proofs.Try.f61),(125,Go.Proofs.Try.f125),(160,Go.Proofs.Try.f160),(48,Go.Proofs.Try.f48),(152,Go.Proofs.Try.f152),(52,Go.Proofs.Try.f52),(116,Go.Proofs.Try.f116),(60,Go.Proofs.Try.f60)]
theorem fl0_ok:∀e∈fl0,Go.Proofs.Try.prog.funcs[e.1]?=some e.2∧(e.2.name == "runtime.NumGoroutine")=false:=by
 unfold fl0
 simp only[List.forall_mem_cons,List.not_mem_nil,false_implies,implies_true,and_true]
 exact⟨⟨Go.Proofs.Try.func127,by kernel_rfl⟩,⟨Go.Proofs.Try.func159,by kernel_rfl⟩,⟨Go.Proofs.Try.func175,by kernel_rfl⟩,⟨Go.Proofs.Try.func119,by kernel_rfl⟩,⟨Go.Proofs.Try.func19,by kernel_rfl⟩,⟨Go.Proofs.Try.func51,by kernel_rfl⟩,⟨Go.Proofs.Try.func59,by kernel_rfl⟩,⟨Go.Proofs.Try.func155,by kernel_rfl⟩,⟨Go.Proofs.Try.func123,by kernel_rfl⟩,⟨Go.Proofs.Try.func129,by kernel_rfl⟩,⟨Go.Proofs.Try.func57,by kernel_rfl⟩,⟨Go.Proofs.Try.func153,by kernel_rfl⟩,⟨Go.Proofs.Try.func13,by kernel_rfl⟩,⟨Go.Proofs.Try.func21,by kernel_rfl⟩,⟨Go.Proofs.Try.func69,by kernel_rfl⟩,⟨Go.Proofs.Try.func117,by kernel_rfl⟩,⟨Go.Proofs.Try.func61,by kernel_rfl⟩,⟨Go.Proofs.Try.func125,by kernel_rfl⟩,⟨Go.Proofs.Try.func160,by kernel_rfl⟩,⟨Go.Proofs.Try.func48,by kernel_rfl⟩,⟨Go.Proofs.Try.func152,by kernel_rfl⟩,⟨Go.Proofs.Try.func52,by kernel_rfl⟩,⟨Go.Proofs.Try.func116,by kernel_rfl⟩,⟨Go.Proofs.Try.func60,by kernel_rfl⟩⟩
noncomputable def fl1:List (Nat×Func):=[(156,Go.Proofs.Try.f156),(162,Go.Proofs.Try.f162),(154,Go.Proofs.Try.f154),(122,Go.Proofs.Try.f122),(54,Go.Proofs.Try.f54),(118,Go.Proofs.Try.f118),(158,Go.Proofs.Try.f158)]
theorem fl1_ok:∀e∈fl1,Go.Proofs.Try.prog.funcs[e.1]?=some e.2∧(e.2.name == "runtime.NumGoroutine")=false:=by
 unfold fl1
 simp only[List.forall_mem_cons,List.not_mem_nil,false_implies,implies_true,and_true]
 exact⟨⟨Go.Proofs.Try.func156,by kernel_rfl⟩,⟨Go.Proofs.Try.func162,by kernel_rfl⟩,⟨Go.Proofs.Try.func154,by kernel_rfl⟩,⟨Go.Proofs.Try.func122,by kernel_rfl⟩,⟨Go.Proofs.Try.func54,by kernel_rfl⟩,⟨Go.Proofs.Try.func118,by kernel_rfl⟩,⟨Go.Proofs.Try.func158,by kernel_rfl⟩⟩
theorem fl_list:funcs.list id=fl0++fl1:=by kernel_rfl
theorem fl_ok:∀e∈fl0++fl1,Go.Proofs.Try.prog.funcs[e.1]?=some e.2∧(e.2.name == "runtime.NumGoroutine")=false:=by
 simp only[List.forall_mem_append]
 exact⟨fl0_ok,fl1_ok⟩
theorem tOk:TOk Go.Proofs.Try.prog cx.T:=fun t ti h=>by
 have h:=Tr.mem_list types id h
 rw[tl_list]at h
 exact tl_ok (t,ti) h
theorem fOk:FOk Go.Proofs.Try.prog cx:=fun f fn h=>by
 have h:=Tr.mem_list funcs id h
 rw[fl_list]at h
 exact fl_ok (f,fn) h
theorem mixed:Go.Proofs.Try.prog.follows .mixedOrders=true:=by kernel_rfl
end Tab
end Go.Abs
