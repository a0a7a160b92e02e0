/- The tables of this seat are its program's. (Printed by a program.) -/
import Derived.Test.YtiinagmombigpaaEvE
import Derived.Test.YtiinagmombigpaaEvT
import Derived.KernelRfl
namespace Go.Abs
def Tr.list{α:Type}:Tr α→(Nat→Nat)→List (Nat×α)
 | .nil,_=>[]
 | .node v l r,f=>(match v with | some x=>[(f 0,x)] | none=>[])++(l.list (fun m=>f (2*m+1))++r.list (fun m=>f (2*m+2)))
theorem Tr.mem_list{α:Type}:∀(t:Tr α)(f:Nat→Nat) {n:Nat} {x:α},t.get n=some x→(f n,x)∈t.list f
 | .nil,_,n,x,h=>by simp[Tr.get]at h
 | .node v l r,f,0,x,h=>by
  simp only[Tr.get]at h
  subst h
  simp[Tr.list]
 | .node v l r,f,n+1,x,h=>by
  simp only[Tr.get]at h
  simp only[Tr.list,List.mem_append]
  right
  split at h
  ·rename_i he
   left
   have:=Tr.mem_list l (fun m=>f (2*m+1)) h
   have e:2*(n / 2)+1=n+1:=by omega
   simp only[e]at this
   exact this
  ·rename_i he
   right
   have:=Tr.mem_list r (fun m=>f (2*m+2)) h
   have e:2*(n / 2)+2=n+1:=by
    have h2:n % 2≠0:=he
    omega
   simp only[e]at this
   exact this
namespace Tab
theorem T1_ok:mkTI Go.Proofs.Try.prog 1=some T1∧T1.good=true:=⟨by kernel_rfl,by kernel_rfl⟩
theorem T3_ok:mkTI Go.Proofs.Try.prog 3=some T3∧T3.good=true:=⟨by kernel_rfl,by kernel_rfl⟩
theorem T7_ok:mkTI Go.Proofs.Try.prog 7=some T7∧T7.good=true:=⟨by kernel_rfl,by kernel_rfl⟩
theorem T31_ok:mkTI Go.Proofs.Try.prog 31=some T31∧T31.good=true:=⟨by kernel_rfl,by kernel_rfl⟩
theorem T63_ok:mkTI Go.Proofs.Try.prog 63=some T63∧T63.good=true:=⟨by kernel_rfl,by kernel_rfl⟩
theorem T95_ok:mkTI Go.Proofs.Try.prog 95=some T95∧T95.good=true:=⟨by kernel_rfl,by kernel_rfl⟩
theorem T159_ok:mkTI Go.Proofs.Try.prog 159=some T159∧T159.good=true:=⟨by kernel_rfl,by kernel_rfl⟩
theorem T223_ok:mkTI Go.Proofs.Try.prog 223=some T223∧T223.good=true:=⟨by kernel_rfl,by kernel_rfl⟩
theorem T143_ok:mkTI Go.Proofs.Try.prog 143=some T143∧T143.good=true:=⟨by kernel_rfl,by kernel_rfl⟩
theorem T207_ok:mkTI Go.Proofs.Try.prog 207=some T207∧T207.good=true:=⟨by kernel_rfl,by kernel_rfl⟩
theorem T111_ok:mkTI Go.Proofs.Try.prog 111=some T111∧T111.good=true:=⟨by kernel_rfl,by kernel_rfl⟩
theorem T39_ok:mkTI Go.Proofs.Try.prog 39=some T39∧T39.good=true:=⟨by kernel_rfl,by kernel_rfl⟩
theorem T167_ok:mkTI Go.Proofs.Try.prog 167=some T167∧T167.good=true:=⟨by kernel_rfl,by kernel_rfl⟩
theorem T215_ok:mkTI Go.Proofs.Try.prog 215=some T215∧T215.good=true:=⟨by kernel_rfl,by kernel_rfl⟩
theorem T119_ok:mkTI Go.Proofs.Try.prog 119=some T119∧T119.good=true:=⟨by kernel_rfl,by kernel_rfl⟩
theorem T19_ok:mkTI Go.Proofs.Try.prog 19=some T19∧T19.good=true:=⟨by kernel_rfl,by kernel_rfl⟩
theorem T259_ok:mkTI Go.Proofs.Try.prog 259=some T259∧T259.good=true:=⟨by kernel_rfl,by kernel_rfl⟩
theorem T115_ok:mkTI Go.Proofs.Try.prog 115=some T115∧T115.good=true:=⟨by kernel_rfl,by kernel_rfl⟩
theorem T27_ok:mkTI Go.Proofs.Try.prog 27=some T27∧T27.good=true:=⟨by kernel_rfl,by kernel_rfl⟩
theorem T139_ok:mkTI Go.Proofs.Try.prog 139=some T139∧T139.good=true:=⟨by kernel_rfl,by kernel_rfl⟩
theorem T123_ok:mkTI Go.Proofs.Try.prog 123=some T123∧T123.good=true:=⟨by kernel_rfl,by kernel_rfl⟩
theorem T251_ok:mkTI Go.Proofs.Try.prog 251=some T251∧T251.good=true:=⟨by kernel_rfl,by kernel_rfl⟩
theorem T5_ok:mkTI Go.Proofs.Try.prog 5=some T5∧T5.good=true:=⟨by kernel_rfl,by kernel_rfl⟩
theorem T9_ok:mkTI Go.Proofs.Try.prog 9=some T9∧T9.good=true:=⟨by kernel_rfl,by kernel_rfl⟩
theorem T17_ok:mkTI Go.Proofs.Try.prog 17=some T17∧T17.good=true:=⟨by kernel_rfl,by kernel_rfl⟩
theorem T257_ok:mkTI Go.Proofs.Try.prog 257=some T257∧T257.good=true:=⟨by kernel_rfl,by kernel_rfl⟩
theorem T161_ok:mkTI Go.Proofs.Try.prog 161=some T161∧T161.good=true:=⟨by kernel_rfl,by kernel_rfl⟩
theorem T209_ok:mkTI Go.Proofs.Try.prog 209=some T209∧T209.good=true:=⟨by kernel_rfl,by kernel_rfl⟩
theorem T113_ok:mkTI Go.Proofs.Try.prog 113=some T113∧T113.good=true:=⟨by kernel_rfl,by kernel_rfl⟩
theorem T241_ok:mkTI Go.Proofs.Try.prog 241=some T241∧T241.good=true:=⟨by kernel_rfl,by kernel_rfl⟩
theorem T169_ok:mkTI Go.Proofs.Try.prog 169=some T169∧T169.good=true:=⟨by kernel_rfl,by kernel_rfl⟩
theorem T249_ok:mkTI Go.Proofs.Try.prog 249=some T249∧T249.good=true:=⟨by kernel_rfl,by kernel_rfl⟩
theorem T21_ok:mkTI Go.Proofs.Try.prog 21=some T21∧T21.good=true:=⟨by kernel_rfl,by kernel_rfl⟩
theorem T213_ok:mkTI Go.Proofs.Try.prog 213=some T213∧T213.good=true:=⟨by kernel_rfl,by kernel_rfl⟩
theorem T117_ok:mkTI Go.Proofs.Try.prog 117=some T117∧T117.good=true:=⟨by kernel_rfl,by kernel_rfl⟩
theorem T45_ok:mkTI Go.Proofs.Try.prog 45=some T45∧T45.good=true:=⟨by kernel_rfl,by kernel_rfl⟩
theorem T141_ok:mkTI Go.Proofs.Try.prog 141=some T141∧T141.good=true:=⟨by kernel_rfl,by kernel_rfl⟩
theorem T109_ok:mkTI Go.Proofs.Try.prog 109=some T109∧T109.good=true:=⟨by kernel_rfl,by kernel_rfl⟩
theorem T61_ok:mkTI Go.Proofs.Try.prog 61=some T61∧T61.good=true:=⟨by kernel_rfl,by kernel_rfl⟩
theorem T93_ok:mkTI Go.Proofs.Try.prog 93=some T93∧T93.good=true:=⟨by kernel_rfl,by kernel_rfl⟩
theorem T2_ok:mkTI Go.Proofs.Try.prog 2=some T2∧T2.good=true:=⟨by kernel_rfl,by kernel_rfl⟩
theorem T4_ok:mkTI Go.Proofs.Try.prog 4=some T4∧T4.good=true:=⟨by kernel_rfl,by kernel_rfl⟩
theorem T8_ok:mkTI Go.Proofs.Try.prog 8=some T8∧T8.good=true:=⟨by kernel_rfl,by kernel_rfl⟩
theorem T16_ok:mkTI Go.Proofs.Try.prog 16=some T16∧T16.good=true:=⟨by kernel_rfl,by kernel_rfl⟩
theorem T32_ok:mkTI Go.Proofs.Try.prog 32=some T32∧T32.good=true:=⟨by kernel_rfl,by kernel_rfl⟩
theorem T64_ok:mkTI Go.Proofs.Try.prog 64=some T64∧T64.good=true:=⟨by kernel_rfl,by kernel_rfl⟩
theorem T128_ok:mkTI Go.Proofs.Try.prog 128=some T128∧T128.good=true:=⟨by kernel_rfl,by kernel_rfl⟩
theorem T192_ok:mkTI Go.Proofs.Try.prog 192=some T192∧T192.good=true:=⟨by kernel_rfl,by kernel_rfl⟩
theorem T48_ok:mkTI Go.Proofs.Try.prog 48=some T48∧T48.good=true:=⟨by kernel_rfl,by kernel_rfl⟩
theorem T144_ok:mkTI Go.Proofs.Try.prog 144=some T144∧T144.good=true:=⟨by kernel_rfl,by kernel_rfl⟩
theorem T24_ok:mkTI Go.Proofs.Try.prog 24=some T24∧T24.good=true:=⟨by kernel_rfl,by kernel_rfl⟩
theorem T72_ok:mkTI Go.Proofs.Try.prog 72=some T72∧T72.good=true:=⟨by kernel_rfl,by kernel_rfl⟩
theorem T168_ok:mkTI Go.Proofs.Try.prog 168=some T168∧T168.good=true:=⟨by kernel_rfl,by kernel_rfl⟩
theorem T232_ok:mkTI Go.Proofs.Try.prog 232=some T232∧T232.good=true:=⟨by kernel_rfl,by kernel_rfl⟩
theorem T56_ok:mkTI Go.Proofs.Try.prog 56=some T56∧T56.good=true:=⟨by kernel_rfl,by kernel_rfl⟩
theorem T120_ok:mkTI Go.Proofs.Try.prog 120=some T120∧T120.good=true:=⟨by kernel_rfl,by kernel_rfl⟩
theorem T248_ok:mkTI Go.Proofs.Try.prog 248=some T248∧T248.good=true:=⟨by kernel_rfl,by kernel_rfl⟩
theorem T260_ok:mkTI Go.Proofs.Try.prog 260=some T260∧T260.good=true:=⟨by kernel_rfl,by kernel_rfl⟩
theorem T84_ok:mkTI Go.Proofs.Try.prog 84=some T84∧T84.good=true:=⟨by kernel_rfl,by kernel_rfl⟩
theorem T212_ok:mkTI Go.Proofs.Try.prog 212=some T212∧T212.good=true:=⟨by kernel_rfl,by kernel_rfl⟩
theorem T140_ok:mkTI Go.Proofs.Try.prog 140=some T140∧T140.good=true:=⟨by kernel_rfl,by kernel_rfl⟩
theorem T108_ok:mkTI Go.Proofs.Try.prog 108=some T108∧T108.good=true:=⟨by kernel_rfl,by kernel_rfl⟩
theorem T220_ok:mkTI Go.Proofs.Try.prog 220=some T220∧T220.good=true:=⟨by kernel_rfl,by kernel_rfl⟩
theorem T124_ok:mkTI Go.Proofs.Try.prog 124=some T124∧T124.good=true:=⟨by kernel_rfl,by kernel_rfl⟩
theorem T6_ok:mkTI Go.Proofs.Try.prog 6=some T6∧T6.good=true:=⟨by kernel_rfl,by kernel_rfl⟩
theorem T18_ok:mkTI Go.Proofs.Try.prog 18=some T18∧T18.good=true:=⟨by kernel_rfl,by kernel_rfl⟩
theorem T66_ok:mkTI Go.Proofs.Try.prog 66=some T66∧T66.good=true:=⟨by kernel_rfl,by kernel_rfl⟩
theorem T194_ok:mkTI Go.Proofs.Try.prog 194=some T194∧T194.good=true:=⟨by kernel_rfl,by kernel_rfl⟩
theorem T50_ok:mkTI Go.Proofs.Try.prog 50=some T50∧T50.good=true:=⟨by kernel_rfl,by kernel_rfl⟩
theorem T114_ok:mkTI Go.Proofs.Try.prog 114=some T114∧T114.good=true:=⟨by kernel_rfl,by kernel_rfl⟩
theorem T26_ok:mkTI Go.Proofs.Try.prog 26=some T26∧T26.good=true:=⟨by kernel_rfl,by kernel_rfl⟩
theorem T42_ok:mkTI Go.Proofs.Try.prog 42=some T42∧T42.good=true:=⟨by kernel_rfl,by kernel_rfl⟩
theorem T202_ok:mkTI Go.Proofs.Try.prog 202=some T202∧T202.good=true:=⟨by kernel_rfl,by kernel_rfl⟩
theorem T218_ok:mkTI Go.Proofs.Try.prog 218=some T218∧T218.good=true:=⟨by kernel_rfl,by kernel_rfl⟩
theorem T122_ok:mkTI Go.Proofs.Try.prog 122=some T122∧T122.good=true:=⟨by kernel_rfl,by kernel_rfl⟩
theorem T262_ok:mkTI Go.Proofs.Try.prog 262=some T262∧T262.good=true:=⟨by kernel_rfl,by kernel_rfl⟩
theorem T182_ok:mkTI Go.Proofs.Try.prog 182=some T182∧T182.good=true:=⟨by kernel_rfl,by kernel_rfl⟩
theorem T126_ok:mkTI Go.Proofs.Try.prog 126=some T126∧T126.good=true:=⟨by kernel_rfl,by kernel_rfl⟩
theorem T190_ok:mkTI Go.Proofs.Try.prog 190=some T190∧T190.good=true:=⟨by kernel_rfl,by kernel_rfl⟩
theorem T254_ok:mkTI Go.Proofs.Try.prog 254=some T254∧T254.good=true:=⟨by kernel_rfl,by kernel_rfl⟩
noncomputable def tl0:List (Nat×TI):=[(1,T1),(3,T3),(7,T7),(31,T31),(63,T63),(95,T95),(159,T159),(223,T223),(143,T143),(207,T207),(111,T111),(39,T39),(167,T167),(215,T215),(119,T119),(19,T19),(259,T259),(115,T115),(27,T27),(139,T139),(123,T123),(251,T251),(5,T5),(9,T9)]
theorem tl0_ok:∀e∈tl0,mkTI Go.Proofs.Try.prog e.1=some e.2∧e.2.good=true:=by
 unfold tl0
 simp only[List.forall_mem_cons,List.not_mem_nil,false_implies,implies_true,and_true]
 exact⟨T1_ok,T3_ok,T7_ok,T31_ok,T63_ok,T95_ok,T159_ok,T223_ok,T143_ok,T207_ok,T111_ok,T39_ok,T167_ok,T215_ok,T119_ok,T19_ok,T259_ok,T115_ok,T27_ok,T139_ok,T123_ok,T251_ok,T5_ok,T9_ok⟩
noncomputable def tl1:List (Nat×TI):=[(17,T17),(257,T257),(161,T161),(209,T209),(113,T113),(241,T241),(169,T169),(249,T249),(21,T21),(213,T213),(117,T117),(45,T45),(141,T141),(109,T109),(61,T61),(93,T93),(2,T2),(4,T4),(8,T8),(16,T16),(32,T32),(64,T64),(128,T128),(192,T192)]
theorem tl1_ok:∀e∈tl1,mkTI Go.Proofs.Try.prog e.1=some e.2∧e.2.good=true:=by
 unfold tl1
 simp only[List.forall_mem_cons,List.not_mem_nil,false_implies,implies_true,and_true]
 exact⟨T17_ok,T257_ok,T161_ok,T209_ok,T113_ok,T241_ok,T169_ok,T249_ok,T21_ok,T213_ok,T117_ok,T45_ok,T141_ok,T109_ok,T61_ok,T93_ok,T2_ok,T4_ok,T8_ok,T16_ok,T32_ok,T64_ok,T128_ok,T192_ok⟩
noncomputable def tl2:List (Nat×TI):=[(48,T48),(144,T144),(24,T24),(72,T72),(168,T168),(232,T232),(56,T56),(120,T120),(248,T248),(260,T260),(84,T84),(212,T212),(140,T140),(108,T108),(220,T220),(124,T124),(6,T6),(18,T18),(66,T66),(194,T194),(50,T50),(114,T114),(26,T26),(42,T42)]
theorem tl2_ok:∀e∈tl2,mkTI Go.Proofs.Try.prog e.1=some e.2∧e.2.good=true:=by
 unfold tl2
 simp only[List.forall_mem_cons,List.not_mem_nil,false_implies,implies_true,and_true]
 exact⟨T48_ok,T144_ok,T24_ok,T72_ok,T168_ok,T232_ok,T56_ok,T120_ok,T248_ok,T260_ok,T84_ok,T212_ok,T140_ok,T108_ok,T220_ok,T124_ok,T6_ok,T18_ok,T66_ok,T194_ok,T50_ok,T114_ok,T26_ok,T42_ok⟩
noncomputable def tl3:List (Nat×TI):=[(202,T202),(218,T218),(122,T122),(262,T262),(182,T182),(126,T126),(190,T190),(254,T254)]
theorem tl3_ok:∀e∈tl3,mkTI Go.Proofs.Try.prog e.1=some e.2∧e.2.good=true:=by
 unfold tl3
 simp only[List.forall_mem_cons,List.not_mem_nil,false_implies,implies_true,and_true]
 exact⟨T202_ok,T218_ok,T122_ok,T262_ok,T182_ok,T126_ok,T190_ok,T254_ok⟩
theorem tl_list:types.list id=tl0++(tl1++(tl2++tl3)):=by kernel_rfl
theorem tl_ok:∀e∈tl0++(tl1++(tl2++tl3)),mkTI Go.Proofs.Try.prog e.1=some e.2∧e.2.good=true:=by
 simp only[List.forall_mem_append]
 exact⟨tl0_ok,tl1_ok,tl2_ok,tl3_ok⟩
noncomputable def fl0:List (Nat×Func):=[(127,Go.Proofs.Try.f127),(95,Go.Proofs.Try.f95),(159,Go.Proofs.Try.f159),(79,Go.Proofs.Try.f79),(175,Go.Proofs.Try.f175),(87,Go.Proofs.Try.f87),(119,Go.Proofs.Try.f119),(19,Go.Proofs.Try.f19),(67,Go.Proofs.Try.f67),(131,Go.Proofs.Try.f131),(163,Go.Proofs.Try.f163),(51,Go.Proofs.Try.f51),(91,Go.Proofs.Try.f91),(155,Go.Proofs.Try.f155),(123,Go.Proofs.Try.f123),(129,Go.Proofs.Try.f129),(161,Go.Proofs.Try.f161),(73,Go.Proofs.Try.f73),(137,Go.Proofs.Try.f137),(89,Go.Proofs.Try.f89),(153,Go.Proofs.Try.f153),(21,Go.Proofs.Try.f21),(69,Go.Proofs.Try.f69),(85,Go.Proofs.Try.f85)]
theorem fl0_ok:∀e∈fl0,Go.Proofs.Try.prog.funcs[e.1]?=some e.2∧(e.2.name == "runtime.NumGoroutine")=false:=by
 unfold fl0
 simp only[List.forall_mem_cons,List.not_mem_nil,false_implies,implies_true,and_true]
 exact⟨⟨Go.Proofs.Try.func127,by kernel_rfl⟩,⟨Go.Proofs.Try.func95,by kernel_rfl⟩,⟨Go.Proofs.Try.func159,by kernel_rfl⟩,⟨Go.Proofs.Try.func79,by kernel_rfl⟩,⟨Go.Proofs.Try.func175,by kernel_rfl⟩,⟨Go.Proofs.Try.func87,by kernel_rfl⟩,⟨Go.Proofs.Try.func119,by kernel_rfl⟩,⟨Go.Proofs.Try.func19,by kernel_rfl⟩,⟨Go.Proofs.Try.func67,by kernel_rfl⟩,⟨Go.Proofs.Try.func131,by kernel_rfl⟩,⟨Go.Proofs.Try.func163,by kernel_rfl⟩,⟨Go.Proofs.Try.func51,by kernel_rfl⟩,⟨Go.Proofs.Try.func91,by kernel_rfl⟩,⟨Go.Proofs.Try.func155,by kernel_rfl⟩,⟨Go.Proofs.Try.func123,by kernel_rfl⟩,⟨Go.Proofs.Try.func129,by kernel_rfl⟩,⟨Go.Proofs.Try.func161,by kernel_rfl⟩,⟨Go.Proofs.Try.func73,by kernel_rfl⟩,⟨Go.Proofs.Try.func137,by kernel_rfl⟩,⟨Go.Proofs.Try.func89,by kernel_rfl⟩,⟨Go.Proofs.Try.func153,by kernel_rfl⟩,⟨Go.Proofs.Try.func21,by kernel_rfl⟩,⟨Go.Proofs.Try.func69,by kernel_rfl⟩,⟨Go.Proofs.Try.func85,by kernel_rfl⟩⟩
noncomputable def fl1:List (Nat×Func):=[(117,Go.Proofs.Try.f117),(141,Go.Proofs.Try.f141),(93,Go.Proofs.Try.f93),(125,Go.Proofs.Try.f125),(96,Go.Proofs.Try.f96),(160,Go.Proofs.Try.f160),(48,Go.Proofs.Try.f48),(176,Go.Proofs.Try.f176),(88,Go.Proofs.Try.f88),(152,Go.Proofs.Try.f152),(52,Go.Proofs.Try.f52),(116,Go.Proofs.Try.f116),(140,Go.Proofs.Try.f140),(92,Go.Proofs.Try.f92),(156,Go.Proofs.Try.f156),(130,Go.Proofs.Try.f130),(162,Go.Proofs.Try.f162),(26,Go.Proofs.Try.f26),(90,Go.Proofs.Try.f90),(154,Go.Proofs.Try.f154),(122,Go.Proofs.Try.f122),(54,Go.Proofs.Try.f54),(86,Go.Proofs.Try.f86),(118,Go.Proofs.Try.f118)]
theorem fl1_ok:∀e∈fl1,Go.Proofs.Try.prog.funcs[e.1]?=some e.2∧(e.2.name == "runtime.NumGoroutine")=false:=by
 unfold fl1
 simp only[List.forall_mem_cons,List.not_mem_nil,false_implies,implies_true,and_true]
 exact⟨⟨Go.Proofs.Try.func117,by kernel_rfl⟩,⟨Go.Proofs.Try.func141,by kernel_rfl⟩,⟨Go.Proofs.Try.func93,by kernel_rfl⟩,⟨Go.Proofs.Try.func125,by kernel_rfl⟩,⟨Go.Proofs.Try.func96,by kernel_rfl⟩,⟨Go.Proofs.Try.func160,by kernel_rfl⟩,⟨Go.Proofs.Try.func48,by kernel_rfl⟩,⟨Go.Proofs.Try.func176,by kernel_rfl⟩,⟨Go.Proofs.Try.func88,by kernel_rfl⟩,⟨Go.Proofs.Try.func152,by kernel_rfl⟩,⟨Go.Proofs.Try.func52,by kernel_rfl⟩,⟨Go.Proofs.Try.func116,by kernel_rfl⟩,⟨Go.Proofs.Try.func140,by kernel_rfl⟩,⟨Go.Proofs.Try.func92,by kernel_rfl⟩,⟨Go.Proofs.Try.func156,by kernel_rfl⟩,⟨Go.Proofs.Try.func130,by kernel_rfl⟩,⟨Go.Proofs.Try.func162,by kernel_rfl⟩,⟨Go.Proofs.Try.func26,by kernel_rfl⟩,⟨Go.Proofs.Try.func90,by kernel_rfl⟩,⟨Go.Proofs.Try.func154,by kernel_rfl⟩,⟨Go.Proofs.Try.func122,by kernel_rfl⟩,⟨Go.Proofs.Try.func54,by kernel_rfl⟩,⟨Go.Proofs.Try.func86,by kernel_rfl⟩,⟨Go.Proofs.Try.func118,by kernel_rfl⟩⟩
noncomputable def fl2:List (Nat×Func):=[(78,Go.Proofs.Try.f78),(94,Go.Proofs.Try.f94),(158,Go.Proofs.Try.f158)]
theorem fl2_ok:∀e∈fl2,Go.Proofs.Try.prog.funcs[e.1]?=some e.2∧(e.2.name == "runtime.NumGoroutine")=false:=by
 unfold fl2
 simp only[List.forall_mem_cons,List.not_mem_nil,false_implies,implies_true,and_true]
 exact⟨⟨Go.Proofs.Try.func78,by kernel_rfl⟩,⟨Go.Proofs.Try.func94,by kernel_rfl⟩,⟨Go.Proofs.Try.func158,by kernel_rfl⟩⟩
theorem fl_list:funcs.list id=fl0++(fl1++fl2):=by kernel_rfl
theorem fl_ok:∀e∈fl0++(fl1++fl2),Go.Proofs.Try.prog.funcs[e.1]?=some e.2∧(e.2.name == "runtime.NumGoroutine")=false:=by
 simp only[List.forall_mem_append]
 exact⟨fl0_ok,fl1_ok,fl2_ok⟩
theorem tOk:TOk Go.Proofs.Try.prog cx.T:=fun t ti h=>by
 have h:=Tr.mem_list types id h
 rw[tl_list]at h
 exact tl_ok (t,ti) h
theorem fOk:FOk Go.Proofs.Try.prog cx:=fun f fn h=>by
 have h:=Tr.mem_list funcs id h
 rw[fl_list]at h
 exact fl_ok (f,fn) h
theorem mixed:Go.Proofs.Try.prog.follows .mixedOrders=true:=by kernel_rfl
end Tab
end Go.Abs
