import Derived.Test.YtdeogandkgiggaaFs
import Derived.Test.YtdeogandkgiggaaQx10
namespace Go.Proofs.Ytdeogandkgiggaa.Pure
open Go.RowKit Go.Proofs.Ytdeogandkgiggaa.Q Go.Proofs.YtdeogandkgiggaaW.PrintWords Go.Proofs.YtdeogandkgiggaaW.PrintLast Go.Proofs.YtdeogandkgiggaaW.PrintMore Go.Proofs.Ytdeogandkgiggaa.Mb Go.Proofs.Ytdeogandkgiggaa.Fp Go.Proofs.Ytdeogandkgiggaa.Fl Go.Proofs.Ytdeogandkgiggaa.Fr Go.Proofs.Ytdeogandkgiggaa.Fo Go.Proofs.Ytdeogandkgiggaa.Fs
set_option linter.unusedSimpArgs false
set_option linter.unusedVariables false
theorem spec_add {F : Fm} (h : IsF F) (k : Nat) (hk : 77 ≤ k) (a0 a b : Int) (ha : 0 ≤ a ∧ a ≤ 4294967295) (hb : 0 ≤ b ∧ b ≤ 4294967295) (e0 : spec_l4Kind.f a0 = some (F.x, F.p, true)) :
    spec_FAdd.f k a0 a b = some (addF F a b) := by
  have o1 := op_facts h a ha.1
  have o2 := op_facts h b hb.1
  unfold spec_FAdd.f addF
  rw [e0]
  simp only [Option.bind_some, if_true]
  rw [spec_open h a ha.1 ha.2, spec_open h b hb.1 hb.2]
  simp only [Option.bind_some]
  rw [spec_sum h k hk _ _ _ _ _ _ _ _ _ _ (opM_lt h a ha.1).2 (opM_lt h b hb.1).2 (opE_range h a ha.1).2 (opE_range h b hb.1).2 o1.1 o2.1 o1.2 o2.2]
  rfl
theorem FnExactFAdd : laws_FnExactFAdd.Pure := by
  intro a0 a b _ ha hb
  refine ⟨77, ?_⟩
  have ha := wf_u32 ha
  have hb := wf_u32 hb
  unfold laws_FnExactFAdd.f
  rcases kinds a0 with ⟨F, h, f1, f2⟩ | ⟨f1, f2⟩
  · rw [spec_add h 77 (by omega) a0 a b ha hb f1, impl_add h 77 (by omega) a0 a b ha hb f2]
    simp
  · unfold impl_FAdd.f spec_FAdd.f
    rw [f1, f2]
    simp
end Go.Proofs.Ytdeogandkgiggaa.Pure
