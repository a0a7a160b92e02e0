/- Proved here: the statement StateAdds holds, without conditions. -/
import Derived.Test.YtiinagmombigpaaWkD
import Derived.Test.YtiinagmombigpaaOpen2
import Derived.Test.YtiinagmombigpaaEvH
import Derived.Test.YtiinagmombigpaaRows
import Derived.WalkKit
import Derived.ProofKit
import Derived.OpenShut
import Derived.ChangeOld
import Derived.Below
import Derived.Carry
import Derived.SizedLaws
set_option linter.unnecessarySimpa false
set_option linter.unusedSimpArgs false
set_option linter.unusedVariables false
namespace Go.Proofs.Ytiinagmombigpaa.stateAdds
open Go.ChangeShapes Go.WideShapes Go.ChangeAt Go.RowKit Go.Abs
theorem own:ownKnob Try.prog.godebug=none:=by kernel_rfl
theorem laidOut:laidOutB Try.prog=true:=by kernel_rfl
theorem okWide_array{P:Program}{w:World}{r:Reach}{base:Nat}{t e:TypeId}{n:Nat}{v:Value}(ht:P.underlying t=some (.array n e))(h:Value.okWide P w r base t v):∃cs,v=.agg cs:=by
 simp only[Value.okWide,ht]at h
 obtain⟨cs,h1,_⟩:=h
 exact⟨cs,h1⟩
set_option maxRecDepth 100000 in
theorem lifted(os:Os)(started:os.Started)(H:Type)(enc:TypeId×Value→H):
  ReturnsInHanded {} Try.checked os 26 .any (Rows.stateAddsSpec.pre6 enc Try.prog Try.f26 Rows.stateAddsRow.domain false) (Rows.stateAddsSpec.post enc Try.prog Try.f26 false true false false):=by
 refine returnsInHanded_of_change_sized (C:=Try.checked) own started (by kernel_rfl) Try.func26
  (ChangeSpec.witness6 (enc:=enc) (C:=Try.checked) false ⟨#[],#[.agg #[.slice none 0 0,.slice none 0 0,.slice none 0 0,.slice none 0 0,.slice none 0 0,.slice none 0 0,.slice none 0 0,.slice none 0 0],.agg #[.int .i64 0,.int .i64 0,.int .i64 0,.int .i64 0,.int .i64 0,.int .i64 0,.int .i64 0,.int .i64 0,.int .i64 0,.int .i64 0,.int .i64 0,.int .i64 0,.int .i64 0,.int .i64 0,.int .i64 0,.int .i64 0,.int .i64 0,.int .i64 0,.int .i64 0,.int .i64 0,.int .i64 0,.int .i64 0,.int .i64 0,.int .i64 0,.int .i64 0,.int .i64 0,.int .i64 0,.int .i64 0,.int .i64 0,.int .i64 0,.int .i64 0,.int .i64 0,.int .i64 0,.int .i64 0,.int .i64 0,.int .i64 0,.int .i64 0,.int .i64 0,.int .i64 0,.int .i64 0,.int .i64 0,.int .i64 0,.int .i64 0,.int .i64 0,.int .i64 0,.int .i64 0,.int .i64 0,.int .i64 0,.int .i64 0,.int .i64 0],.agg #[.int .i64 0,.int .i64 0]],[]⟩ 8 (by kernel_rfl) (by kernel_rfl) (by kernel_rfl) (by kernel_rfl)) ?_
 intro W base args ds gs before hval0 hW hcnd hsz0 _
 have hval:∀(j:Nat) t v,Try.f26.params[j]?=some t→args[j]?=some v→Value.okWide Try.prog W .any base t v:=hval0
 have hW':=hW
 obtain⟨p,q,hA0,hV,rfl,hfz,hnd⟩:=hW
 have hA:DataW.TrodAll enc Try.prog W 0 (fun _=>true) true Try.f26.params.toList args.toList ds p:=hA0
 rw[Try.params26]at hA hval
 obtain⟨v0,v1,v2,d0,d1,d2,p0,p1,p2,rfl,rfl,rfl,h0,h1,h2⟩:=trodAll_three hA
 obtain⟨rfl,rfl⟩:=trodVars_none hV
 have w0:=hval 0 117 v0 rfl rfl
 have g0:=h0
 obtain⟨z0,e0,_⟩:=okWide_struct Try.underlying117 w0
 obtain⟨a0,r0,x0⟩:=arg_agg (d:=20) (base:=0) (by kernel_rfl) e0 g0
 subst e0
 have w1:=hval 1 122 v1 rfl rfl
 have g1:=h1
 obtain⟨z1,e1,_⟩:=okWide_struct Try.underlying122 w1
 obtain⟨a1,r1,x1⟩:=arg_agg (d:=20) (base:=0) (by kernel_rfl) e1 g1
 subst e1
 have w2:=hval 2 123 v2 rfl rfl
 have g2:=h2
 obtain⟨z2,e2⟩:=okWide_array Try.underlying123 w2
 obtain⟨a2,r2,x2⟩:=arg_agg (d:=20) (base:=0) (by kernel_rfl) e2 g2
 subst e2
 clear hA0 hval0 hsz0
 simp only[List.append_nil,List.nil_append]at hW'
 have hlt0:∀x∈p0,x.block<W.heap.size:=fun x hx=>by simpa using hW'.lt x (by simp[hx])
 have hlt1:∀x∈p1,x.block<W.heap.size:=fun x hx=>by simpa using hW'.lt x (by simp[hx])
 have hlt2:∀x∈p2,x.block<W.heap.size:=fun x hx=>by simpa using hW'.lt x (by simp[hx])
 obtain⟨H',hc⟩:=Tab.adds_row r0 r1 r2
 rw[←den_call_eq]at hc
 obtain⟨k,hk⟩:=den_call.1 hc
 have walk:=call_sound (P:=Try.prog) (w:=W) (cargs:=#[.agg z0,.agg z1,.agg z2]) Tab.tOk Tab.fOk Tab.mixed (by simp only[VRs];exact⟨_,_,rfl,x0,⟨_,_,rfl,x1,⟨_,_,rfl,x2,rfl⟩⟩⟩) hk
 refine walk.mono fun e W' ⟨he,bel⟩=>?_
 subst he
 exact⟨_,rfl,_,_,_,[],_,[],hW',trodAll_mk1 (shut_bool Try.underlying4 _),trodAll_mk3 (Below.trod laidOut (by kernel_rfl) (of_decide_eq_true (by kernel_rfl)) g0 bel hlt0) (Below.trod laidOut (by kernel_rfl) (of_decide_eq_true (by kernel_rfl)) g1 bel hlt1) (Below.trod laidOut (by kernel_rfl) (of_decide_eq_true (by kernel_rfl)) g2 bel hlt2),rfl,bel.frame _,fun h=>by cases h⟩
theorem over:Rows.stateAddsRow.holds Try.pinned (OpenSpec.ofChange Rows.stateAddsSpec) :=
 OpenClaim.holds_of_wide 26 Try.f26 rfl rfl rfl rfl rfl rfl rfl ⟨rfl,rfl,rfl,rfl,rfl⟩ rfl rfl rfl rfl rfl (by kernel_rfl) Try.func26
  (Head.joined 26 Try.f26 Rows.stateAddsSpec Rows.stateAddsRow Head.mayEnter rfl rfl (by kernel_rfl) Head.laid Head.rowed Head.heard)
  (of_decide_eq_true (by kernel_rfl)) (by unfold Func.isWrapper;first | (rw[if_pos (by decide +kernel)];kernel_rfl) | (rw[if_neg (by decide +kernel)];exact⟨rfl,rfl⟩))
  (fun os started H enc _=>lifted os started H enc)
theorem proved:Rows.StateAddsSaid:=over
#print axioms proved
end Go.Proofs.Ytiinagmombigpaa.stateAdds
namespace Go.Proofs.Ytiinagmombigpaa
theorem stateAdds_holds:Rows.StateAddsSaid:=stateAdds.proved
end Go.Proofs.Ytiinagmombigpaa
