/- Proved here: the statement ClassApart holds, without conditions. -/
import Derived.Test.YtiinagmombigpaaWkC
import Derived.Test.YtiinagmombigpaaOpen2
import Derived.Test.YtiinagmombigpaaEvH
import Derived.Test.YtiinagmombigpaaRows
import Derived.WalkKit
import Derived.ProofKit
import Derived.OpenShut
import Derived.ChangeOld
import Derived.Below
import Derived.Carry
import Derived.SizedLaws
set_option linter.unnecessarySimpa false
set_option linter.unusedSimpArgs false
set_option linter.unusedVariables false
namespace Go.Proofs.Ytiinagmombigpaa.classApart
open Go.ChangeShapes Go.WideShapes Go.ChangeAt Go.RowKit Go.Abs
theorem own:ownKnob Try.prog.godebug=none:=by kernel_rfl
theorem laidOut:laidOutB Try.prog=true:=by kernel_rfl
set_option maxRecDepth 100000 in
theorem lifted(os:Os)(started:os.Started)(H:Type)(enc:TypeId×Value→H):
  ReturnsInHanded {} Try.checked os 22 .any (Rows.classApartSpec.pre6 enc Try.prog Try.f22 Rows.classApartRow.domain false) (Rows.classApartSpec.post enc Try.prog Try.f22 false true false false):=by
 refine returnsInHanded_of_change_sized (C:=Try.checked) own started (by kernel_rfl) Try.func22
  (ChangeSpec.witness6 (enc:=enc) (C:=Try.checked) false ⟨#[],#[.slice none 0 0,.int .u8 0,.int .u8 0],[]⟩ 8 (by kernel_rfl) (by kernel_rfl) (by kernel_rfl) (by kernel_rfl)) ?_
 intro W base args ds gs before hval0 hW hcnd hsz0 _
 have hval:∀(j:Nat) t v,Try.f22.params[j]?=some t→args[j]?=some v→Value.okWide Try.prog W .any base t v:=hval0
 have hW':=hW
 obtain⟨p,q,hA0,hV,rfl,hfz,hnd⟩:=hW
 have hA:DataW.TrodAll enc Try.prog W 0 (fun _=>true) true Try.f22.params.toList args.toList ds p:=hA0
 rw[Try.params22]at hA hval
 obtain⟨v0,v1,v2,d0,d1,d2,p0,p1,p2,rfl,rfl,rfl,h0,h1,h2⟩:=trodAll_three hA
 obtain⟨rfl,rfl⟩:=trodVars_none hV
 have w0:=hval 0 56 v0 rfl rfl
 have g0:=h0
 obtain⟨z0,l0,c0,rfl⟩:=okWide_slice Try.underlying56 w0
 obtain⟨a0,r0,x0⟩:=arg_one (d:=20) (base:=0) (by kernel_rfl) rfl g0
 have w1:=hval 1 5 v1 rfl rfl
 have g1:=h1
 obtain⟨z1,rfl⟩:=okWide_int Try.underlying5 w1
 obtain⟨a1,r1,x1⟩:=arg_one (d:=20) (base:=0) (by kernel_rfl) rfl g1
 have w2:=hval 2 5 v2 rfl rfl
 have g2:=h2
 obtain⟨z2,rfl⟩:=okWide_int Try.underlying5 w2
 obtain⟨a2,r2,x2⟩:=arg_one (d:=20) (base:=0) (by kernel_rfl) rfl g2
 clear hA0 hval0 hsz0
 simp only[List.append_nil,List.nil_append]at hW'
 have hlt0:∀x∈p0,x.block<W.heap.size:=fun x hx=>by simpa using hW'.lt x (by simp[hx])
 have hlt1:∀x∈p1,x.block<W.heap.size:=fun x hx=>by simpa using hW'.lt x (by simp[hx])
 have hlt2:∀x∈p2,x.block<W.heap.size:=fun x hx=>by simpa using hW'.lt x (by simp[hx])
 obtain⟨H',hc⟩:=Tab.classa_row r0 r1 r2
 rw[←den_call_eq]at hc
 obtain⟨k,hk⟩:=den_call.1 hc
 have walk:=call_sound (P:=Try.prog) (w:=W) (cargs:=#[.slice z0 l0 c0,.int _ z1,.int _ z2]) Tab.tOk Tab.fOk Tab.mixed (by simp only[VRs];exact⟨_,_,rfl,x0,⟨_,_,rfl,x1,⟨_,_,rfl,x2,rfl⟩⟩⟩) hk
 refine walk.mono fun e W' ⟨he,bel⟩=>?_
 subst he
 exact⟨_,rfl,_,_,_,[],_,[],hW',trodAll_mk1 (shut_bool Try.underlying4 _),trodAll_mk3 (Below.trod laidOut (by kernel_rfl) (of_decide_eq_true (by kernel_rfl)) g0 bel hlt0) (Below.trod laidOut (by kernel_rfl) (of_decide_eq_true (by kernel_rfl)) g1 bel hlt1) (Below.trod laidOut (by kernel_rfl) (of_decide_eq_true (by kernel_rfl)) g2 bel hlt2),rfl,bel.frame _,fun h=>by cases h⟩
theorem over:Rows.classApartRow.holds Try.pinned (OpenSpec.ofChange Rows.classApartSpec) :=
 OpenClaim.holds_of_wide 22 Try.f22 rfl rfl rfl rfl rfl rfl rfl ⟨rfl,rfl,rfl,rfl,rfl⟩ rfl rfl rfl rfl rfl (by kernel_rfl) Try.func22
  (Head.joined 22 Try.f22 Rows.classApartSpec Rows.classApartRow Head.mayEnter rfl rfl (by kernel_rfl) Head.laid Head.rowed Head.heard)
  (of_decide_eq_true (by kernel_rfl)) (by unfold Func.isWrapper;first | (rw[if_pos (by decide +kernel)];kernel_rfl) | (rw[if_neg (by decide +kernel)];exact⟨rfl,rfl⟩))
  (fun os started H enc _=>lifted os started H enc)
theorem proved:Rows.ClassApartSaid:=over
#print axioms proved
end Go.Proofs.Ytiinagmombigpaa.classApart
namespace Go.Proofs.Ytiinagmombigpaa
theorem classApart_holds:Rows.ClassApartSaid:=classApart.proved
end Go.Proofs.Ytiinagmombigpaa
