-- Written by a program of this session; it walks the functions that the law reaches.
import Derived.Test.YtdjpbhmkcamkpaaRows
import Derived.Test.YtdjpbhmkcamkpaaQx5
import Derived.Test.YtdjpbhmkcamkpaaPureFnExactLoadInt
import Derived.Test.YtdjpbhmkcamkpaaOp
import Derived.WalkKit
import Derived.ProofKit
import Derived.OpenShut
import Derived.ShutString
import Derived.ChangeOld
import Derived.Below
import Derived.SizedLaws
namespace Go.Proofs.Ytdjpbhmkcamkpaa.fnExactLoadInt
open Go.ChangeShapes Go.WideShapes Go.ChangeAt Go.RowKit Go.Proofs.YtdjpbhmkcamkpaaW.PrintWords Go.Proofs.Ytdjpbhmkcamkpaa.Q
open Go.ChangeMaps (open_string shut_string)
set_option linter.unusedVariables false
set_option linter.unusedSimpArgs false
theorem own : ownKnob Try.prog.godebug = none := by kernel_rfl
theorem laidOut : laidOutB Try.prog = true := by kernel_rfl
set_option maxRecDepth 100000 in
theorem lifted (os : Os) (started : os.Started) (H : Type) (enc : TypeId × Value → H) :
    ReturnsInHanded {} Try.checked os 6 .any (Rows.fnExactLoadIntSpec.pre6 enc Try.prog Try.f6 Rows.fnExactLoadIntRow.domain false) (Rows.fnExactLoadIntSpec.post enc Try.prog Try.f6 false true false false) := by
  refine returnsInHanded_of_change_sized (C := Try.checked) own started (by kernel_rfl) Try.func6
    (ChangeSpec.witness6 (enc := enc) (C := Try.checked) false ⟨#[], #[.agg #[.int .i64 0, .string ByteArray.empty], .int .i64 0, .int .i64 0, .bool false], []⟩ 8 (by kernel_rfl) (by kernel_rfl) (by kernel_rfl) (by kernel_rfl)) ?_
  intro W base args ds gs before hval0 hW hcnd hsz0 _
  have hval : ∀ (j : Nat) t v, Try.f6.params[j]? = some t → args[j]? = some v → Value.okWide Try.prog W .any base t v := hval0
  have hW' := hW
  obtain ⟨p, q, hA0, hV, rfl, hfz, hnd⟩ := hW
  have hA : DataW.TrodAll enc Try.prog W 0 (fun _ => true) true Try.f6.params.toList args.toList ds p := hA0
  rw [Try.params6] at hA hval
  obtain ⟨v0, vs0, d0, ds0, p0, q0, hargs, rfl, rfl, h0, r0⟩ := trodAll_cons hA
  obtain ⟨v1, vs1, d1, ds1, p1, q1, rfl, rfl, rfl, h1, r1⟩ := trodAll_cons r0
  obtain ⟨v2, vs2, d2, ds2, p2, q2, rfl, rfl, rfl, h2, r2⟩ := trodAll_cons r1
  obtain ⟨v3, vs3, d3, ds3, p3, q3, rfl, rfl, rfl, h3, r3⟩ := trodAll_cons r2
  obtain ⟨rfl, rfl, rfl⟩ := trodAll_nil r3
  obtain rfl : args = #[v0, v1, v2, v3] := by cases args; simp_all
  obtain ⟨rfl, rfl⟩ := trodVars_none hV
  have k0 := h0
  have lt0 : ∀ x ∈ p0, x.block < W.heap.size := by obtain ⟨m, hm⟩ := k0; exact DataW.trod_lt m _ _ _ hm
  obtain ⟨cs0, rfl, _⟩ := okWide_struct Try.underlying23 (hval 0 23 v0 rfl rfl)
  obtain ⟨⟨a0_0, a0_1⟩, K0, B0⟩ := Op.rd_value (Op.rd_struct Try.underlying23 (by kernel_rfl) (Op.rdf_cons rfl (by kernel_rfl) (Op.rd_int Try.underlying3) (Op.rdf_one rfl (by kernel_rfl) (Op.rd_string Try.underlying9)))) h0
  obtain ⟨K0q0_a, K0q0_b, K0q0_e, K0q0_0, K0q0_1⟩ := K0
  have K0q0_0_e : _ = [(.int .i64 a0_0 : Value)] := K0q0_0
  have K0q0_1_e : _ = [(.string a0_1 : Value)] := K0q0_1
  obtain rfl : cs0 = #[.int .i64 a0_0, .string a0_1] := by
    have e_ : cs0.toList = _ := K0q0_e
    simp only [K0q0_0_e, K0q0_1_e, List.cons_append, List.nil_append] at e_
    rw [← Array.toList_inj]; exact e_
  have k1 := h1
  have lt1 : ∀ x ∈ p1, x.block < W.heap.size := by obtain ⟨m, hm⟩ := k1; exact DataW.trod_lt m _ _ _ hm
  obtain ⟨vb1, rfl⟩ := okWide_int Try.underlying3 (hval 1 3 v1 rfl rfl)
  obtain ⟨a1, K1, B1⟩ := Op.rd_value (Op.rd_int Try.underlying3) h1
  have K1_e : _ = [(.int .i64 a1 : Value)] := K1
  have e1_ := K1_e
  obtain rfl : a1 = vb1 := (show vb1 = a1 by simpa [Value.cells] using e1_).symm
  have k2 := h2
  have lt2 : ∀ x ∈ p2, x.block < W.heap.size := by obtain ⟨m, hm⟩ := k2; exact DataW.trod_lt m _ _ _ hm
  obtain ⟨vb2, rfl⟩ := okWide_int Try.underlying3 (hval 2 3 v2 rfl rfl)
  obtain ⟨a2, K2, B2⟩ := Op.rd_value (Op.rd_int Try.underlying3) h2
  have K2_e : _ = [(.int .i64 a2 : Value)] := K2
  have e2_ := K2_e
  obtain rfl : a2 = vb2 := (show vb2 = a2 by simpa [Value.cells] using e2_).symm
  have k3 := h3
  have lt3 : ∀ x ∈ p3, x.block < W.heap.size := by obtain ⟨m, hm⟩ := k3; exact DataW.trod_lt m _ _ _ hm
  obtain ⟨vb3, rfl⟩ := okWide_bool Try.underlying4 (hval 3 4 v3 rfl rfl)
  obtain ⟨a3, K3, B3⟩ := Op.rd_value (Op.rd_bool Try.underlying4) h3
  have K3_e : _ = [(.bool a3 : Value)] := K3
  have e3_ := K3_e
  obtain rfl : a3 = vb3 := (show vb3 = a3 by simpa [Value.cells] using e3_).symm
  obtain ⟨k_, h_⟩ := Pure.FnExactLoadInt a0_0 a0_1 a1 a2 a3 B0.1 B0.2 B1 B2
  clear hA0 hval0 hsz0
  refine (laws_FnExactLoadInt.calls k_ a0_0 a0_1 a1 a2 a3 true W  rfl h_).mono fun e W' ⟨he, bel0⟩ => ?_
  have bel : Below W.heap.size W W' := bel0
  subst he
  exact ⟨_, rfl, _, _, _, [], _, [], hW', trodAll_mk1 (shut_bool Try.underlying4 _), (trodAll_cons_mk (Below.trod laidOut (by kernel_rfl) (of_decide_eq_true (by kernel_rfl)) k0 bel lt0) (trodAll_cons_mk (Below.trod laidOut (by kernel_rfl) (of_decide_eq_true (by kernel_rfl)) k1 bel lt1) (trodAll_cons_mk (Below.trod laidOut (by kernel_rfl) (of_decide_eq_true (by kernel_rfl)) k2 bel lt2) (trodAll_cons_mk (Below.trod laidOut (by kernel_rfl) (of_decide_eq_true (by kernel_rfl)) k3 bel lt3) trodAll_mk0)))), rfl, bel.frame _, fun h => by cases h⟩
theorem over : Rows.fnExactLoadIntRow.holds Try.pinned (OpenSpec.ofChange Rows.fnExactLoadIntSpec) :=
  OpenClaim.holds_of_wide 6 Try.f6 rfl rfl rfl rfl rfl rfl rfl ⟨rfl, rfl, rfl, rfl, rfl⟩ rfl rfl rfl rfl rfl (by kernel_rfl) Try.func6 (by kernel_rfl)
    (of_decide_eq_true (by kernel_rfl)) (by unfold Func.isWrapper; first | (rw [if_pos (by decide +kernel)]; kernel_rfl) | (rw [if_neg (by decide +kernel)]; exact ⟨rfl, rfl⟩))
    (fun os started H enc _ => lifted os started H enc)
theorem proved : Rows.FnExactLoadIntSaid := over
#print axioms proved
end Go.Proofs.Ytdjpbhmkcamkpaa.fnExactLoadInt
namespace Go.Proofs.Ytdjpbhmkcamkpaa
/-- The row, under a short name, for the claim. -/
theorem fnExactLoadInt_holds : Rows.FnExactLoadIntSaid := fnExactLoadInt.proved
end Go.Proofs.Ytdjpbhmkcamkpaa
