/- The tables of this seat are its program's. (Printed by a program.) -/
import Derived.Test.YtiinagmombigpaaEvE
import Derived.Test.YtiinagmombigpaaEvT
import Derived.KernelRfl
namespace Go.Abs
def Tr.list{α:Type}:Tr α→(Nat→Nat)→List (Nat×α)
 | .nil,_=>[]
 | .node v l r,f=>(match v with | some x=>[(f 0,x)] | none=>[])++(l.list (fun m=>f (2*m+1))++r.list (fun m=>f (2*m+2)))
theorem Tr.mem_list{α:Type}:∀(t:Tr α)(f:Nat→Nat) {n:Nat} {x:α},t.get n=some x→(f n,x)∈t.list f
 | .nil,_,n,x,h=>by simp[Tr.get]at h
 | .node v l r,f,0,x,h=>by
  simp only[Tr.get]at h
  subst h
  simp[Tr.list]
 | .node v l r,f,n+1,x,h=>by
  simp only[Tr.get]at h
  simp only[Tr.list,List.mem_append]
  right
  split at h
  ·rename_i he
   left
   have:=Tr.mem_list l (fun m=>f (2*m+1)) h
   have e:2*(n / 2)+1=n+1:=by omega
   simp only[e]at this
   exact this
  ·rename_i he
   right
   have:=Tr.mem_list r (fun m=>f (2*m+2)) h
   have e:2*(n / 2)+2=n+1:=by
    have h2:n % 2≠0:=he
    omega
   simp only[e]at this
   exact this
namespace Tab
theorem T1_ok:mkTI Go.Proofs.Try.prog 1=some T1∧T1.good=true:=⟨by kernel_rfl,by kernel_rfl⟩
theorem T3_ok:mkTI Go.Proofs.Try.prog 3=some T3∧T3.good=true:=⟨by kernel_rfl,by kernel_rfl⟩
theorem T31_ok:mkTI Go.Proofs.Try.prog 31=some T31∧T31.good=true:=⟨by kernel_rfl,by kernel_rfl⟩
theorem T63_ok:mkTI Go.Proofs.Try.prog 63=some T63∧T63.good=true:=⟨by kernel_rfl,by kernel_rfl⟩
theorem T95_ok:mkTI Go.Proofs.Try.prog 95=some T95∧T95.good=true:=⟨by kernel_rfl,by kernel_rfl⟩
theorem T111_ok:mkTI Go.Proofs.Try.prog 111=some T111∧T111.good=true:=⟨by kernel_rfl,by kernel_rfl⟩
theorem T39_ok:mkTI Go.Proofs.Try.prog 39=some T39∧T39.good=true:=⟨by kernel_rfl,by kernel_rfl⟩
theorem T119_ok:mkTI Go.Proofs.Try.prog 119=some T119∧T119.good=true:=⟨by kernel_rfl,by kernel_rfl⟩
theorem T19_ok:mkTI Go.Proofs.Try.prog 19=some T19∧T19.good=true:=⟨by kernel_rfl,by kernel_rfl⟩
theorem T51_ok:mkTI Go.Proofs.Try.prog 51=some T51∧T51.good=true:=⟨by kernel_rfl,by kernel_rfl⟩
theorem T27_ok:mkTI Go.Proofs.Try.prog 27=some T27∧T27.good=true:=⟨by kernel_rfl,by kernel_rfl⟩
theorem T5_ok:mkTI Go.Proofs.Try.prog 5=some T5∧T5.good=true:=⟨by kernel_rfl,by kernel_rfl⟩
theorem T17_ok:mkTI Go.Proofs.Try.prog 17=some T17∧T17.good=true:=⟨by kernel_rfl,by kernel_rfl⟩
theorem T185_ok:mkTI Go.Proofs.Try.prog 185=some T185∧T185.good=true:=⟨by kernel_rfl,by kernel_rfl⟩
theorem T109_ok:mkTI Go.Proofs.Try.prog 109=some T109∧T109.good=true:=⟨by kernel_rfl,by kernel_rfl⟩
theorem T93_ok:mkTI Go.Proofs.Try.prog 93=some T93∧T93.good=true:=⟨by kernel_rfl,by kernel_rfl⟩
theorem T2_ok:mkTI Go.Proofs.Try.prog 2=some T2∧T2.good=true:=⟨by kernel_rfl,by kernel_rfl⟩
theorem T4_ok:mkTI Go.Proofs.Try.prog 4=some T4∧T4.good=true:=⟨by kernel_rfl,by kernel_rfl⟩
theorem T8_ok:mkTI Go.Proofs.Try.prog 8=some T8∧T8.good=true:=⟨by kernel_rfl,by kernel_rfl⟩
theorem T16_ok:mkTI Go.Proofs.Try.prog 16=some T16∧T16.good=true:=⟨by kernel_rfl,by kernel_rfl⟩
theorem T64_ok:mkTI Go.Proofs.Try.prog 64=some T64∧T64.good=true:=⟨by kernel_rfl,by kernel_rfl⟩
theorem T128_ok:mkTI Go.Proofs.Try.prog 128=some T128∧T128.good=true:=⟨by kernel_rfl,by kernel_rfl⟩
theorem T48_ok:mkTI Go.Proofs.Try.prog 48=some T48∧T48.good=true:=⟨by kernel_rfl,by kernel_rfl⟩
theorem T176_ok:mkTI Go.Proofs.Try.prog 176=some T176∧T176.good=true:=⟨by kernel_rfl,by kernel_rfl⟩
theorem T24_ok:mkTI Go.Proofs.Try.prog 24=some T24∧T24.good=true:=⟨by kernel_rfl,by kernel_rfl⟩
theorem T72_ok:mkTI Go.Proofs.Try.prog 72=some T72∧T72.good=true:=⟨by kernel_rfl,by kernel_rfl⟩
theorem T168_ok:mkTI Go.Proofs.Try.prog 168=some T168∧T168.good=true:=⟨by kernel_rfl,by kernel_rfl⟩
theorem T120_ok:mkTI Go.Proofs.Try.prog 120=some T120∧T120.good=true:=⟨by kernel_rfl,by kernel_rfl⟩
theorem T20_ok:mkTI Go.Proofs.Try.prog 20=some T20∧T20.good=true:=⟨by kernel_rfl,by kernel_rfl⟩
theorem T180_ok:mkTI Go.Proofs.Try.prog 180=some T180∧T180.good=true:=⟨by kernel_rfl,by kernel_rfl⟩
theorem T44_ok:mkTI Go.Proofs.Try.prog 44=some T44∧T44.good=true:=⟨by kernel_rfl,by kernel_rfl⟩
theorem T108_ok:mkTI Go.Proofs.Try.prog 108=some T108∧T108.good=true:=⟨by kernel_rfl,by kernel_rfl⟩
theorem T6_ok:mkTI Go.Proofs.Try.prog 6=some T6∧T6.good=true:=⟨by kernel_rfl,by kernel_rfl⟩
theorem T194_ok:mkTI Go.Proofs.Try.prog 194=some T194∧T194.good=true:=⟨by kernel_rfl,by kernel_rfl⟩
theorem T50_ok:mkTI Go.Proofs.Try.prog 50=some T50∧T50.good=true:=⟨by kernel_rfl,by kernel_rfl⟩
theorem T178_ok:mkTI Go.Proofs.Try.prog 178=some T178∧T178.good=true:=⟨by kernel_rfl,by kernel_rfl⟩
theorem T42_ok:mkTI Go.Proofs.Try.prog 42=some T42∧T42.good=true:=⟨by kernel_rfl,by kernel_rfl⟩
theorem T186_ok:mkTI Go.Proofs.Try.prog 186=some T186∧T186.good=true:=⟨by kernel_rfl,by kernel_rfl⟩
theorem T22_ok:mkTI Go.Proofs.Try.prog 22=some T22∧T22.good=true:=⟨by kernel_rfl,by kernel_rfl⟩
theorem T182_ok:mkTI Go.Proofs.Try.prog 182=some T182∧T182.good=true:=⟨by kernel_rfl,by kernel_rfl⟩
noncomputable def tl0:List (Nat×TI):=[(1,T1),(3,T3),(31,T31),(63,T63),(95,T95),(111,T111),(39,T39),(119,T119),(19,T19),(51,T51),(27,T27),(5,T5),(17,T17),(185,T185),(109,T109),(93,T93),(2,T2),(4,T4),(8,T8),(16,T16),(64,T64),(128,T128),(48,T48),(176,T176)]
theorem tl0_ok:∀e∈tl0,mkTI Go.Proofs.Try.prog e.1=some e.2∧e.2.good=true:=by
 unfold tl0
 simp only[List.forall_mem_cons,List.not_mem_nil,false_implies,implies_true,and_true]
 exact⟨T1_ok,T3_ok,T31_ok,T63_ok,T95_ok,T111_ok,T39_ok,T119_ok,T19_ok,T51_ok,T27_ok,T5_ok,T17_ok,T185_ok,T109_ok,T93_ok,T2_ok,T4_ok,T8_ok,T16_ok,T64_ok,T128_ok,T48_ok,T176_ok⟩
noncomputable def tl1:List (Nat×TI):=[(24,T24),(72,T72),(168,T168),(120,T120),(20,T20),(180,T180),(44,T44),(108,T108),(6,T6),(194,T194),(50,T50),(178,T178),(42,T42),(186,T186),(22,T22),(182,T182)]
theorem tl1_ok:∀e∈tl1,mkTI Go.Proofs.Try.prog e.1=some e.2∧e.2.good=true:=by
 unfold tl1
 simp only[List.forall_mem_cons,List.not_mem_nil,false_implies,implies_true,and_true]
 exact⟨T24_ok,T72_ok,T168_ok,T120_ok,T20_ok,T180_ok,T44_ok,T108_ok,T6_ok,T194_ok,T50_ok,T178_ok,T42_ok,T186_ok,T22_ok,T182_ok⟩
theorem tl_list:types.list id=tl0++tl1:=by kernel_rfl
theorem tl_ok:∀e∈tl0++tl1,mkTI Go.Proofs.Try.prog e.1=some e.2∧e.2.good=true:=by
 simp only[List.forall_mem_append]
 exact⟨tl0_ok,tl1_ok⟩
noncomputable def fl0:List (Nat×Func):=[(47,Go.Proofs.Try.f47),(111,Go.Proofs.Try.f111),(151,Go.Proofs.Try.f151),(35,Go.Proofs.Try.f35),(115,Go.Proofs.Try.f115),(5,Go.Proofs.Try.f5),(33,Go.Proofs.Try.f33),(41,Go.Proofs.Try.f41),(37,Go.Proofs.Try.f37),(109,Go.Proofs.Try.f109),(36,Go.Proofs.Try.f36),(108,Go.Proofs.Try.f108),(34,Go.Proofs.Try.f34),(38,Go.Proofs.Try.f38),(150,Go.Proofs.Try.f150),(46,Go.Proofs.Try.f46),(110,Go.Proofs.Try.f110)]
theorem fl0_ok:∀e∈fl0,Go.Proofs.Try.prog.funcs[e.1]?=some e.2∧(e.2.name == "runtime.NumGoroutine")=false:=by
 unfold fl0
 simp only[List.forall_mem_cons,List.not_mem_nil,false_implies,implies_true,and_true]
 exact⟨⟨Go.Proofs.Try.func47,by kernel_rfl⟩,⟨Go.Proofs.Try.func111,by kernel_rfl⟩,⟨Go.Proofs.Try.func151,by kernel_rfl⟩,⟨Go.Proofs.Try.func35,by kernel_rfl⟩,⟨Go.Proofs.Try.func115,by kernel_rfl⟩,⟨Go.Proofs.Try.func5,by kernel_rfl⟩,⟨Go.Proofs.Try.func33,by kernel_rfl⟩,⟨Go.Proofs.Try.func41,by kernel_rfl⟩,⟨Go.Proofs.Try.func37,by kernel_rfl⟩,⟨Go.Proofs.Try.func109,by kernel_rfl⟩,⟨Go.Proofs.Try.func36,by kernel_rfl⟩,⟨Go.Proofs.Try.func108,by kernel_rfl⟩,⟨Go.Proofs.Try.func34,by kernel_rfl⟩,⟨Go.Proofs.Try.func38,by kernel_rfl⟩,⟨Go.Proofs.Try.func150,by kernel_rfl⟩,⟨Go.Proofs.Try.func46,by kernel_rfl⟩,⟨Go.Proofs.Try.func110,by kernel_rfl⟩⟩
theorem fl_list:funcs.list id=fl0:=by kernel_rfl
theorem fl_ok:∀e∈fl0,Go.Proofs.Try.prog.funcs[e.1]?=some e.2∧(e.2.name == "runtime.NumGoroutine")=false:=fl0_ok
theorem tOk:TOk Go.Proofs.Try.prog cx.T:=fun t ti h=>by
 have h:=Tr.mem_list types id h
 rw[tl_list]at h
 exact tl_ok (t,ti) h
theorem fOk:FOk Go.Proofs.Try.prog cx:=fun f fn h=>by
 have h:=Tr.mem_list funcs id h
 rw[fl_list]at h
 exact fl_ok (f,fn) h
theorem mixed:Go.Proofs.Try.prog.follows .mixedOrders=true:=by kernel_rfl
end Tab
end Go.Abs
