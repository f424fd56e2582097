-- Written by a program of this session; it walks the functions that the law reaches.
import Derived.Test.YtlgegdgilkaldaaRows
import Derived.Test.YtlgegdgilkaldaaQx16
import Derived.Test.YtlgegdgilkaldaaPureFnExactZeroOf
import Derived.Test.YtlgegdgilkaldaaOp
import Derived.WalkKit
import Derived.ProofKit
import Derived.OpenShut
import Derived.ShutString
import Derived.ChangeOld
import Derived.Below
import Derived.SizedLaws
namespace Go.Proofs.Ytlgegdgilkaldaa.fnExactZeroOf
open Go.ChangeShapes Go.WideShapes Go.ChangeAt Go.RowKit Go.Proofs.YtlgegdgilkaldaaW.PrintWords Go.Proofs.Ytlgegdgilkaldaa.Q
open Go.ChangeMaps (open_string shut_string)
set_option linter.unusedVariables false
set_option linter.unusedSimpArgs false
theorem own : ownKnob Try.prog.godebug = none := by kernel_rfl
theorem laidOut : laidOutB Try.prog = true := by kernel_rfl
set_option maxRecDepth 100000 in
theorem lifted (os : Os) (started : os.Started) (H : Type) (enc : TypeId × Value → H) :
    ReturnsInHanded {} Try.checked os 7 .any (Rows.fnExactZeroOfSpec.pre6 enc Try.prog Try.f7 Rows.fnExactZeroOfRow.domain false) (Rows.fnExactZeroOfSpec.post enc Try.prog Try.f7 false true false false) := by
  refine returnsInHanded_of_change_sized (C := Try.checked) own started (by kernel_rfl) Try.func7
    (ChangeSpec.witness6 (enc := enc) (C := Try.checked) false ⟨#[], #[.slice none 0 0], []⟩ 8 (by kernel_rfl) (by kernel_rfl) (by kernel_rfl) (by kernel_rfl)) ?_
  intro W base args ds gs before hval0 hW hcnd hsz0 _
  have hval : ∀ (j : Nat) t v, Try.f7.params[j]? = some t → args[j]? = some v → Value.okWide Try.prog W .any base t v := hval0
  have hW' := hW
  obtain ⟨p, q, hA0, hV, rfl, hfz, hnd⟩ := hW
  have hA : DataW.TrodAll enc Try.prog W 0 (fun _ => true) true Try.f7.params.toList args.toList ds p := hA0
  rw [Try.params7] at hA hval
  obtain ⟨v0, vs0, d0, ds0, p0, q0, hargs, rfl, rfl, h0, r0⟩ := trodAll_cons hA
  obtain ⟨rfl, rfl, rfl⟩ := trodAll_nil r0
  obtain rfl : args = #[v0] := by cases args; simp_all
  obtain ⟨rfl, rfl⟩ := trodVars_none hV
  have k0 := h0
  have lt0 : ∀ x ∈ p0, x.block < W.heap.size := by obtain ⟨m, hm⟩ := k0; exact DataW.trod_lt m _ _ _ hm
  obtain ⟨va0, vl0, vc0, rfl⟩ := okWide_slice Try.underlying22 (hval 0 22 v0 rfl rfl)
  obtain ⟨l0, K0, B0⟩ := Op.rd_value (Op.rd_slice Try.underlying22 (by kernel_rfl) (Op.rd_iso (fun x : S55 => (x.f0, x.f1, x.f2)) (fun y => (⟨y.1, y.2.1, y.2.2⟩ : S55)) (fun _ => rfl) (Op.rd_struct Try.underlying55 (by kernel_rfl) (Op.rdf_cons rfl (by kernel_rfl) (Op.rd_int Try.underlying3) (Op.rdf_cons rfl (by kernel_rfl) (Op.rd_int Try.underlying3) (Op.rdf_one rfl (by kernel_rfl) (Op.rd_int Try.underlying3))))))) h0
  obtain ⟨A0, c0, K0_e, hc0, hr0⟩ := K0
  have e0_ : (Value.slice va0 vl0 vc0) = .slice A0 l0.length c0 := by have h_ := K0_e; simpa [Value.cells] using h_
  rw [e0_] at k0 h0
  injection e0_ with e1_ e2_ e3_
  subst e1_ e2_ e3_
  obtain ⟨k_, h_⟩ := Pure.FnExactZeroOf l0 B0
  clear hA0 hval0 hsz0
  refine (laws_FnExactZeroOf.calls k_ _ _ l0 true W hr0 hc0 rfl h_).mono fun e W' ⟨he, bel0⟩ => ?_
  have bel : Below W.heap.size W W' := bel0
  subst he
  exact ⟨_, rfl, _, _, _, [], _, [], hW', trodAll_mk1 (shut_bool Try.underlying4 _), (trodAll_cons_mk (Below.trod laidOut (by kernel_rfl) (of_decide_eq_true (by kernel_rfl)) k0 bel lt0) trodAll_mk0), rfl, bel.frame _, fun h => by cases h⟩
theorem over : Rows.fnExactZeroOfRow.holds Try.pinned (OpenSpec.ofChange Rows.fnExactZeroOfSpec) :=
  OpenClaim.holds_of_wide 7 Try.f7 rfl rfl rfl rfl rfl rfl rfl ⟨rfl, rfl, rfl, rfl, rfl⟩ rfl rfl rfl rfl rfl (by kernel_rfl) Try.func7 (by kernel_rfl)
    (of_decide_eq_true (by kernel_rfl)) (by unfold Func.isWrapper; first | (rw [if_pos (by decide +kernel)]; kernel_rfl) | (rw [if_neg (by decide +kernel)]; exact ⟨rfl, rfl⟩))
    (fun os started H enc _ => lifted os started H enc)
theorem proved : Rows.FnExactZeroOfSaid := over
#print axioms proved
end Go.Proofs.Ytlgegdgilkaldaa.fnExactZeroOf
namespace Go.Proofs.Ytlgegdgilkaldaa
/-- The row, under a short name, for the claim. -/
theorem fnExactZeroOf_holds : Rows.FnExactZeroOfSaid := fnExactZeroOf.proved
end Go.Proofs.Ytlgegdgilkaldaa
