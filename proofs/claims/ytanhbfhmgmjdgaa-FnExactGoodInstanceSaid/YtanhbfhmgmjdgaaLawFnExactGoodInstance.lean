-- Written by a program of this session; it walks the functions that the law reaches.
import Derived.Test.YtanhbfhmgmjdgaaRows
import Derived.Test.YtanhbfhmgmjdgaaQx27
import Derived.Test.YtanhbfhmgmjdgaaPureFnExactGoodInstance
import Derived.Test.YtanhbfhmgmjdgaaOp
import Derived.WalkKit
import Derived.ProofKit
import Derived.OpenShut
import Derived.ShutString
import Derived.ChangeOld
import Derived.Below
import Derived.SizedLaws
namespace Go.Proofs.Ytanhbfhmgmjdgaa.fnExactGoodInstance
open Go.ChangeShapes Go.WideShapes Go.ChangeAt Go.RowKit Go.Proofs.YtanhbfhmgmjdgaaW.PrintWords Go.Proofs.Ytanhbfhmgmjdgaa.Q
open Go.ChangeMaps (open_string shut_string)
set_option linter.unusedVariables false
set_option linter.unusedSimpArgs false
theorem own:ownKnob Try.prog.godebug=none:=by kernel_rfl
theorem laidOut:laidOutB Try.prog=true:=by kernel_rfl
set_option maxRecDepth 100000 in
theorem lifted (os:Os) (started:os.Started) (H:Type) (enc:TypeId × Value→H):
    ReturnsInHanded {} Try.checked os 3 .any (Rows.fnExactGoodInstanceSpec.pre6 enc Try.prog Try.f3 Rows.fnExactGoodInstanceRow.domain false) (Rows.fnExactGoodInstanceSpec.post enc Try.prog Try.f3 false true false false):=by
  refine returnsInHanded_of_change_sized (C:=Try.checked) own started (by kernel_rfl) Try.func3
    (ChangeSpec.witness6 (enc:=enc) (C:=Try.checked) false ⟨#[],#[.agg #[.slice none 0 0,.slice none 0 0,.bool false,.int .i64 0,.int .i64 0,.int .i64 0,.int .i64 0,.string ByteArray.empty,.slice none 0 0,.bool false,.int .i64 0]],[]⟩ 8 (by kernel_rfl) (by kernel_rfl) (by kernel_rfl) (by kernel_rfl)) ?_
  intro W base args ds gs before hval0 hW hcnd hsz0 _
  have hval:∀ (j:Nat) t v,Try.f3.params[j]? =some t→args[j]? =some v→Value.okWide Try.prog W .any base t v:=hval0
  have hW':=hW
  obtain⟨p,q,hA0,hV,rfl,hfz,hnd⟩:=hW
  have hA:DataW.TrodAll enc Try.prog W 0 (fun _=>true) true Try.f3.params.toList args.toList ds p:=hA0
  rw[Try.params3] at hA hval
  obtain⟨v0,vs0,d0,ds0,p0,q0,hargs,rfl,rfl,h0,r0⟩:=trodAll_cons hA
  obtain⟨rfl,rfl,rfl⟩:=trodAll_nil r0
  obtain rfl:args=#[v0]:=by cases args;simp_all
  obtain⟨rfl,rfl⟩:=trodVars_none hV
  have k0:=h0
  have lt0:∀ x∈p0,x.block<W.heap.size:=by obtain⟨m,hm⟩:=k0;exact DataW.trod_lt m _ _ _ hm
  obtain⟨cs0,rfl,_⟩:=okWide_struct Try.underlying32 (hval 0 32 v0 rfl rfl)
  obtain⟨⟨⟨l0_0,l0_1,a0_2,a0_3,a0_4,a0_5⟩,⟨⟨a0_6,a0_7⟩,l0_8⟩,a0_9,a0_10⟩,K0,B0⟩:=Op.rd_value (Op.rd_struct Try.underlying32 (by kernel_rfl) (Op.rdf_cons rfl (by kernel_rfl) (Op.rd_struct Try.underlying25 (by kernel_rfl) (Op.rdf_cons rfl (by kernel_rfl) (Op.rd_slice Try.underlying22 (by kernel_rfl) (Op.rd_iso (fun x:S84=>(x.f0,x.f1,x.f2,x.f3)) (fun y=>(⟨y.1,y.2.1,y.2.2.1,y.2.2.2⟩:S84)) (fun _=>rfl) (Op.rd_struct Try.underlying84 (by kernel_rfl) (Op.rdf_cons rfl (by kernel_rfl) (Op.rd_slice Try.underlying81 (by kernel_rfl) (Op.rd_int Try.underlying3)) (Op.rdf_cons rfl (by kernel_rfl) (Op.rd_int Try.underlying3) (Op.rdf_cons rfl (by kernel_rfl) (Op.rd_slice Try.underlying81 (by kernel_rfl) (Op.rd_int Try.underlying3)) (Op.rdf_one rfl (by kernel_rfl) (Op.rd_slice Try.underlying82 (by kernel_rfl) (Op.rd_iso (fun x:S133=>(x.f0,x.f1)) (fun y=>(⟨y.1,y.2⟩:S133)) (fun _=>rfl) (Op.rd_struct Try.underlying133 (by kernel_rfl) (Op.rdf_cons rfl (by kernel_rfl) (Op.rd_int Try.underlying3) (Op.rdf_one rfl (by kernel_rfl) (Op.rd_int Try.underlying3))))))))))))) (Op.rdf_cons rfl (by kernel_rfl) (Op.rd_slice Try.underlying23 (by kernel_rfl) (Op.rd_iso (fun x:S91=>(x.f0,x.f1,x.f2)) (fun y=>(⟨y.1,y.2.1,y.2.2⟩:S91)) (fun _=>rfl) (Op.rd_struct Try.underlying91 (by kernel_rfl) (Op.rdf_cons rfl (by kernel_rfl) (Op.rd_int Try.underlying3) (Op.rdf_cons rfl (by kernel_rfl) (Op.rd_bool Try.underlying4) (Op.rdf_one rfl (by kernel_rfl) (Op.rd_int Try.underlying70))))))) (Op.rdf_cons rfl (by kernel_rfl) (Op.rd_bool Try.underlying4) (Op.rdf_cons rfl (by kernel_rfl) (Op.rd_int Try.underlying3) (Op.rdf_cons rfl (by kernel_rfl) (Op.rd_int Try.underlying3) (Op.rdf_one rfl (by kernel_rfl) (Op.rd_int Try.underlying3)))))))) (Op.rdf_cons rfl (by kernel_rfl) (Op.rd_struct Try.underlying30 (by kernel_rfl) (Op.rdf_cons rfl (by kernel_rfl) (Op.rd_struct Try.underlying27 (by kernel_rfl) (Op.rdf_cons rfl (by kernel_rfl) (Op.rd_int Try.underlying3) (Op.rdf_one rfl (by kernel_rfl) (Op.rd_string Try.underlying9)))) (Op.rdf_one rfl (by kernel_rfl) (Op.rd_slice Try.underlying28 (by kernel_rfl) (Op.rd_iso (fun x:S93=>(x.f0,x.f1)) (fun y=>(⟨y.1,y.2⟩:S93)) (fun _=>rfl) (Op.rd_struct Try.underlying93 (by kernel_rfl) (Op.rdf_cons rfl (by kernel_rfl) (Op.rd_int Try.underlying3) (Op.rdf_one rfl (by kernel_rfl) (Op.rd_int Try.underlying70))))))))) (Op.rdf_cons rfl (by kernel_rfl) (Op.rd_bool Try.underlying4) (Op.rdf_one rfl (by kernel_rfl) (Op.rd_int Try.underlying3)))))) h0
  obtain⟨K0q0_a,K0q0_b,K0q0_e,K0q0_0,K0q0_1⟩:=K0
  obtain⟨K0q0_0q0_a,K0q0_0q0_b,K0q0_0q0_e,K0q0_0q0_0,K0q0_0q0_1⟩:=K0q0_0
  obtain⟨A0_0,c0_0,K0q0_0q0_0_e,hc0_0,hr0_0⟩:=K0q0_0q0_0
  obtain⟨K0q0_0q1_a,K0q0_0q1_b,K0q0_0q1_e,K0q0_0q1_0,K0q0_0q1_1⟩:=K0q0_0q0_1
  obtain⟨A0_1,c0_1,K0q0_0q1_0_e,hc0_1,hr0_1⟩:=K0q0_0q1_0
  obtain⟨K0q0_0q2_a,K0q0_0q2_b,K0q0_0q2_e,K0q0_0q2_0,K0q0_0q2_1⟩:=K0q0_0q1_1
  have K0q0_0q2_0_e:_=[(.bool a0_2:Value)]:=K0q0_0q2_0
  obtain⟨K0q0_0q3_a,K0q0_0q3_b,K0q0_0q3_e,K0q0_0q3_0,K0q0_0q3_1⟩:=K0q0_0q2_1
  have K0q0_0q3_0_e:_=[(.int .i64 a0_3:Value)]:=K0q0_0q3_0
  obtain⟨K0q0_0q4_a,K0q0_0q4_b,K0q0_0q4_e,K0q0_0q4_0,K0q0_0q4_1⟩:=K0q0_0q3_1
  have K0q0_0q4_0_e:_=[(.int .i64 a0_4:Value)]:=K0q0_0q4_0
  have K0q0_0q4_1_e:_=[(.int .i64 a0_5:Value)]:=K0q0_0q4_1
  obtain⟨K0q1_a,K0q1_b,K0q1_e,K0q1_0,K0q1_1⟩:=K0q0_1
  obtain⟨K0q1_0q0_a,K0q1_0q0_b,K0q1_0q0_e,K0q1_0q0_0,K0q1_0q0_1⟩:=K0q1_0
  obtain⟨K0q1_0q0_0q0_a,K0q1_0q0_0q0_b,K0q1_0q0_0q0_e,K0q1_0q0_0q0_0,K0q1_0q0_0q0_1⟩:=K0q1_0q0_0
  have K0q1_0q0_0q0_0_e:_=[(.int .i64 a0_6:Value)]:=K0q1_0q0_0q0_0
  have K0q1_0q0_0q0_1_e:_=[(.string a0_7:Value)]:=K0q1_0q0_0q0_1
  obtain⟨A0_8,c0_8,K0q1_0q0_1_e,hc0_8,hr0_8⟩:=K0q1_0q0_1
  obtain⟨K0q2_a,K0q2_b,K0q2_e,K0q2_0,K0q2_1⟩:=K0q1_1
  have K0q2_0_e:_=[(.bool a0_9:Value)]:=K0q2_0
  have K0q2_1_e:_=[(.int .i64 a0_10:Value)]:=K0q2_1
  obtain rfl:cs0=#[.slice A0_0 l0_0.length c0_0,.slice A0_1 l0_1.length c0_1,.bool a0_2,.int .i64 a0_3,.int .i64 a0_4,.int .i64 a0_5,.int .i64 a0_6,.string a0_7,.slice A0_8 l0_8.length c0_8,.bool a0_9,.int .i64 a0_10]:=by
    have e_:cs0.toList=_:=K0q0_e
    simp only[K0q0_0q0_e,K0q0_0q0_0_e,K0q0_0q1_e,K0q0_0q1_0_e,K0q0_0q2_e,K0q0_0q2_0_e,K0q0_0q3_e,K0q0_0q3_0_e,K0q0_0q4_e,K0q0_0q4_0_e,K0q0_0q4_1_e,K0q1_e,K0q1_0q0_e,K0q1_0q0_0q0_e,K0q1_0q0_0q0_0_e,K0q1_0q0_0q0_1_e,K0q1_0q0_1_e,K0q2_e,K0q2_0_e,K0q2_1_e,List.cons_append,List.nil_append] at e_
    rw[←Array.toList_inj];exact e_
  obtain⟨k_,h_⟩:=Pure.FnExactGoodInstance l0_0 l0_1 a0_2 a0_3 a0_4 a0_5 a0_6 a0_7 l0_8 a0_9 a0_10 B0.1.1 B0.1.2.1 B0.1.2.2.2.1 B0.1.2.2.2.2.1 B0.1.2.2.2.2.2 B0.2.1.1.1 B0.2.1.1.2 B0.2.1.2 B0.2.2.2
  clear hA0 hval0 hsz0
  refine(laws_FnExactGoodInstance.calls k_ _ _ l0_0 _ _ l0_1 a0_2 a0_3 a0_4 a0_5 a0_6 a0_7 _ _ l0_8 a0_9 a0_10 true W hr0_0 hc0_0 hr0_1 hc0_1 hr0_8 hc0_8 rfl h_).mono fun e W' ⟨he,bel0⟩=>?_
  have bel:Below W.heap.size W W':=bel0
  subst he
  exact⟨_,rfl,_,_,_,[],_,[],hW',trodAll_mk1 (shut_bool Try.underlying4 _),(trodAll_cons_mk (Below.trod laidOut (by kernel_rfl) (of_decide_eq_true (by kernel_rfl)) k0 bel lt0) trodAll_mk0),rfl,bel.frame _,fun h=>by cases h⟩
theorem over:Rows.fnExactGoodInstanceRow.holds Try.pinned (OpenSpec.ofChange Rows.fnExactGoodInstanceSpec):=
  OpenClaim.holds_of_wide 3 Try.f3 rfl rfl rfl rfl rfl rfl rfl ⟨rfl,rfl,rfl,rfl,rfl⟩ rfl rfl rfl rfl rfl (by kernel_rfl) Try.func3 (by kernel_rfl)
    (of_decide_eq_true (by kernel_rfl)) (by unfold Func.isWrapper;first|(rw[if_pos (by decide+kernel)];kernel_rfl)|(rw[if_neg (by decide+kernel)];exact⟨rfl,rfl⟩))
    (fun os started H enc _=>lifted os started H enc)
theorem proved:Rows.FnExactGoodInstanceSaid:=over
#print axioms proved
end Go.Proofs.Ytanhbfhmgmjdgaa.fnExactGoodInstance
namespace Go.Proofs.Ytanhbfhmgmjdgaa
/-- The row, under a short name, for the claim. -/
theorem fnExactGoodInstance_holds:Rows.FnExactGoodInstanceSaid:=fnExactGoodInstance.proved
end Go.Proofs.Ytanhbfhmgmjdgaa
