import Derived.Test.YtdeogandkgiggaaFo
import Derived.Test.YtdeogandkgiggaaQx11
namespace Go.Proofs.Ytdeogandkgiggaa.Pure
open Go.RowKit Go.Proofs.Ytdeogandkgiggaa.Q Go.Proofs.YtdeogandkgiggaaW.PrintWords Go.Proofs.YtdeogandkgiggaaW.PrintLast Go.Proofs.YtdeogandkgiggaaW.PrintMore Go.Proofs.Ytdeogandkgiggaa.Mb Go.Proofs.Ytdeogandkgiggaa.Fp Go.Proofs.Ytdeogandkgiggaa.Fl Go.Proofs.Ytdeogandkgiggaa.Fr Go.Proofs.Ytdeogandkgiggaa.Fo
set_option linter.unusedSimpArgs false
def mul (F : Fm) (s1 i1 n1 : Bool) (m1 : Nat) (e1 : Int) (s2 i2 n2 : Bool) (m2 : Nat) (e2 : Int) : Int :=
  if (n1 || n2) = true then nan F else if i1 = true then (if i2 = true then inf F (s1 != s2) else if m2 = 0 then nan F else inf F (s1 != s2)) else if i2 = true then (if m1 = 0 then nan F else inf F (s1 != s2)) else fin F (s1 != s2) (m1 * m2) (e1 + e2)
theorem mul_bounds {m1 m2 : Nat} (h1 : m1 < 2 ^ 24) (h2 : m2 < 2 ^ 24) : m1 * m2 < 2 ^ 48 := by
  have := Nat.mul_le_mul (show m1 ≤ 2 ^ 24 - 1 by omega) (show m2 ≤ 2 ^ 24 - 1 by omega)
  omega
theorem wrap_mul {m1 m2 : Nat} (h1 : m1 < 2 ^ 24) (h2 : m2 < 2 ^ 24) : IntKind.u64.wrap ((m1 : Int) * (m2 : Int)) = ((m1 * m2 : Nat) : Int) := by
  have := mul_bounds h1 h2
  rw [← Int.natCast_mul]
  exact wu64 (by omega) (by omega)
theorem spec_product {F : Fm} (h : IsF F) (k : Nat) (hk : 72 ≤ k) (s1 i1 n1 : Bool) (m1 : Nat) (e1 : Int) (s2 i2 n2 : Bool) (m2 : Nat) (e2 : Int)
    (hm1 : m1 < 2 ^ 24) (hm2 : m2 < 2 ^ 24) (he1 : -149 ≤ e1 ∧ e1 ≤ 104) (he2 : -149 ≤ e2 ∧ e2 ≤ 104) :
    spec_l4K_product.f k F.x F.p s1 i1 n1 (m1 : Int) e1 s2 i2 n2 (m2 : Int) e2 = some (mul F s1 i1 n1 m1 e1 s2 i2 n2 m2 e2) := by
  obtain ⟨k, rfl⟩ : ∃ j, k = j + 2 := ⟨k - 2, by omega⟩
  have hb := mul_bounds hm1 hm2
  unfold spec_l4K_product.f
  simp only [spec_l4K_product.j0, spec_l4K_product.j1, nan_F h, inf_F h, Option.bind_some]
  rw [wrap_mul hm1 hm2, w64 (n := e1 + e2) (by omega) (by omega), spec_exact h k (by omega) _ _ _ (by omega) (by omega) (by omega)]
  unfold mul
  have c1 : ((m1 : Int) = 0) = (m1 = 0) := propext (by omega)
  have c2 : ((m2 : Int) = 0) = (m2 = 0) := propext (by omega)
  have d1 : ((m1 : Int) == 0) = decide (m1 = 0) := decide_eq_decide.2 (by omega)
  rw [d1]
  simp only [c1, c2]
  by_cases z1 : m1 = 0 <;> by_cases z2 : m2 = 0 <;> cases n1 <;> cases n2 <;> cases i1 <;> cases i2 <;> simp [z1, z2]
theorem impl_product {F : Fm} (h : IsF F) (k : Nat) (hk : 73 ≤ k) (a0 a b : Int) (ha : 0 ≤ a ∧ a ≤ 4294967295) (hb : 0 ≤ b ∧ b ≤ 4294967295) (e0 : impl_formatOf.f a0 = some (F.p, F.b, true)) :
    impl_FMul.f k a0 a b = some (mul F (opS F a) (opI F a) (opN F a) (opM F a) (opE F a) (opS F b) (opI F b) (opN F b) (opM F b) (opE F b)) := by
  obtain ⟨k, rfl⟩ : ∃ j, k = j + 3 := ⟨k - 3, by omega⟩
  have hm1 := (opM_lt h a ha.1).2
  have hm2 := (opM_lt h b hb.1).2
  have he1 := opE_range h a ha.1
  have he2 := opE_range h b hb.1
  have hbb := mul_bounds hm1 hm2
  unfold impl_FMul.f
  rw [e0]
  simp only [Option.bind_some, if_true]
  rw [impl_open h a ha.1 ha.2, impl_open h b hb.1 hb.2]
  simp only [Option.bind_some]
  generalize opS F a = s1, opI F a = i1, opN F a = n1, opM F a = m1, opE F a = e1, opS F b = s2, opI F b = i2, opN F b = n2, opM F b = m2, opE F b = e2 at *
  simp only [impl_FMul.j0, impl_FMul.j1, impl_FMul.j2, inan_F h, iinf_F h, Option.bind_some]
  rw [wrap_mul hm1 hm2, w64 (n := e1 + e2) (by omega) (by omega), impl_exact h k (by omega) _ _ _ (by omega) (by omega) (by omega)]
  unfold mul
  have c1 : ((m1 : Int) = 0) = (m1 = 0) := propext (by omega)
  have d2 : ((m2 : Int) == 0) = decide (m2 = 0) := decide_eq_decide.2 (by omega)
  rw [d2]
  simp only [c1]
  by_cases z1 : m1 = 0 <;> by_cases z2 : m2 = 0 <;> cases n1 <;> cases n2 <;> cases i1 <;> cases i2 <;> simp [z1, z2]
theorem FnExactFMul : laws_FnExactFMul.Pure := by
  intro a0 a b _ ha hb
  refine ⟨73, ?_⟩
  have ha := wf_u32 ha
  have hb := wf_u32 hb
  unfold laws_FnExactFMul.f spec_FMul.f
  rcases kinds a0 with ⟨F, h, f1, f2⟩ | ⟨f1, f2⟩
  · rw [f1]
    simp only [Option.bind_some, if_true]
    rw [spec_open h a ha.1 ha.2, spec_open h b hb.1 hb.2]
    simp only [Option.bind_some]
    rw [spec_product h 73 (by omega) _ _ _ _ _ _ _ _ _ _ (opM_lt h a ha.1).2 (opM_lt h b hb.1).2 (opE_range h a ha.1) (opE_range h b hb.1), impl_product h 73 (by omega) a0 a b ha hb f2]
    simp
  · unfold impl_FMul.f
    rw [f1, f2]
    simp
end Go.Proofs.Ytdeogandkgiggaa.Pure
