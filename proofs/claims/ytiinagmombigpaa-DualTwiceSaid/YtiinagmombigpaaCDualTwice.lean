/- Proved here: the statement DualTwice holds, without conditions. -/
import Derived.Test.YtiinagmombigpaaWkB
import Derived.Test.YtiinagmombigpaaOpen2
import Derived.Test.YtiinagmombigpaaEvH
import Derived.Test.YtiinagmombigpaaRows
import Derived.WalkKit
import Derived.ProofKit
import Derived.OpenShut
import Derived.ChangeOld
import Derived.Below
import Derived.Carry
import Derived.SizedLaws
set_option linter.unnecessarySimpa false
set_option linter.unusedSimpArgs false
set_option linter.unusedVariables false
namespace Go.Proofs.Ytiinagmombigpaa.dualTwice
open Go.ChangeShapes Go.WideShapes Go.ChangeAt Go.RowKit Go.Abs
theorem own:ownKnob Try.prog.godebug=none:=by kernel_rfl
theorem laidOut:laidOutB Try.prog=true:=by kernel_rfl
set_option maxRecDepth 100000 in
theorem lifted(os:Os)(started:os.Started)(H:Type)(enc:TypeId×Value→H):
  ReturnsInHanded {} Try.checked os 13 .any (Rows.dualTwiceSpec.pre6 enc Try.prog Try.f13 Rows.dualTwiceRow.domain false) (Rows.dualTwiceSpec.post enc Try.prog Try.f13 false true false false):=by
 refine returnsInHanded_of_change_sized (C:=Try.checked) own started (by kernel_rfl) Try.func13
  (ChangeSpec.witness6 (enc:=enc) (C:=Try.checked) false ⟨#[],#[.slice none 0 0],[]⟩ 8 (by kernel_rfl) (by kernel_rfl) (by kernel_rfl) (by kernel_rfl)) ?_
 intro W base args ds gs before hval0 hW hcnd hsz0 _
 have hval:∀(j:Nat) t v,Try.f13.params[j]?=some t→args[j]?=some v→Value.okWide Try.prog W .any base t v:=hval0
 have hW':=hW
 obtain⟨p,q,hA0,hV,rfl,hfz,hnd⟩:=hW
 have hA:DataW.TrodAll enc Try.prog W 0 (fun _=>true) true Try.f13.params.toList args.toList ds p:=hA0
 rw[Try.params13]at hA hval
 obtain⟨v0,d0,rfl,rfl,h0⟩:=trodAll_one hA
 obtain⟨rfl,rfl⟩:=trodVars_none hV
 have w0:=hval 0 56 v0 rfl rfl
 have g0:=h0
 obtain⟨z0,l0,c0,rfl⟩:=okWide_slice Try.underlying56 w0
 obtain⟨a0,r0,x0⟩:=arg_one (d:=20) (base:=0) (by kernel_rfl) rfl g0
 clear hA0 hval0 hsz0
 simp only[List.append_nil,List.nil_append]at hW'
 have hlt0:∀x∈p,x.block<W.heap.size:=fun x hx=>by simpa using hW'.lt x (by simp[hx])
 obtain⟨H',hc⟩:=Tab.dualt_row r0
 rw[←den_call_eq]at hc
 obtain⟨k,hk⟩:=den_call.1 hc
 have walk:=call_sound (P:=Try.prog) (w:=W) (cargs:=#[.slice z0 l0 c0]) Tab.tOk Tab.fOk Tab.mixed (by simp only[VRs];exact⟨_,_,rfl,x0,rfl⟩) hk
 refine walk.mono fun e W' ⟨he,bel⟩=>?_
 subst he
 exact⟨_,rfl,_,_,_,[],_,[],hW',trodAll_mk1 (shut_bool Try.underlying4 _),trodAll_mk1 (Below.trod laidOut (by kernel_rfl) (of_decide_eq_true (by kernel_rfl)) g0 bel hlt0),rfl,bel.frame _,fun h=>by cases h⟩
theorem over:Rows.dualTwiceRow.holds Try.pinned (OpenSpec.ofChange Rows.dualTwiceSpec) :=
 OpenClaim.holds_of_wide 13 Try.f13 rfl rfl rfl rfl rfl rfl rfl ⟨rfl,rfl,rfl,rfl,rfl⟩ rfl rfl rfl rfl rfl (by kernel_rfl) Try.func13
  (Head.joined 13 Try.f13 Rows.dualTwiceSpec Rows.dualTwiceRow Head.mayEnter rfl rfl (by kernel_rfl) Head.laid Head.rowed Head.heard)
  (of_decide_eq_true (by kernel_rfl)) (by unfold Func.isWrapper;first | (rw[if_pos (by decide +kernel)];kernel_rfl) | (rw[if_neg (by decide +kernel)];exact⟨rfl,rfl⟩))
  (fun os started H enc _=>lifted os started H enc)
theorem proved:Rows.DualTwiceSaid:=over
#print axioms proved
end Go.Proofs.Ytiinagmombigpaa.dualTwice
namespace Go.Proofs.Ytiinagmombigpaa
theorem dualTwice_holds:Rows.DualTwiceSaid:=dualTwice.proved
end Go.Proofs.Ytiinagmombigpaa
