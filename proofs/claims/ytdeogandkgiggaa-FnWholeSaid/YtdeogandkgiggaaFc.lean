/- Floats that are drawn. -/
import Derived.Test.YtdeogandkgiggaaFe
import Derived.Test.YtdeogandkgiggaaCur
import Derived.Test.YtdeogandkgiggaaQx5
namespace Go.Proofs.Ytdeogandkgiggaa.Fc
open Go.RowKit Go.Proofs.Ytdeogandkgiggaa.Q Go.Proofs.YtdeogandkgiggaaW.PrintWords Go.Proofs.YtdeogandkgiggaaW.PrintLast Go.Proofs.YtdeogandkgiggaaW.PrintMore Go.Proofs.Ytdeogandkgiggaa.Mb Go.Proofs.Ytdeogandkgiggaa.Fp Go.Proofs.Ytdeogandkgiggaa.Fl Go.Proofs.Ytdeogandkgiggaa.Fr Go.Proofs.Ytdeogandkgiggaa.Fo Go.Proofs.Ytdeogandkgiggaa.Fe Go.Proofs.Ytdeogandkgiggaa.Cur
set_option linter.unusedSimpArgs false
set_option linter.unusedVariables false
theorem fin_range {F : Fm} (h : IsF F) (neg : Bool) (V : Nat) (e : Int) : 0 ≤ fin F neg V e ∧ fin F neg V e ≤ 4294967295 := by
  have h1 : rb F.P F.L F.I V e ≤ F.I := by unfold rb; split <;> omega
  unfold fin sg
  rcases h with rfl | rfl
  · have : F16.I = 31744 := rfl
    rw [show F16.C = 32768 from rfl]; split <;> omega
  · have : F32.I = 2139095040 := rfl
    rw [show F32.C = 2147483648 from rfl]; split <;> omega
theorem kind_ok {l : List Int} (hl : U8 l) {a : Int} (h0 : 0 ≤ a) (h1 : a ≤ 4611686018427386000) (s : Int) : ∃ r a' s', spec_l1Cur_kind.f l a s = some (r, a', s') ∧ (r = 16 ∨ r = 32 ∨ r = 64) ∧ a ≤ a' ∧ a' ≤ a + 4 := by
  unfold spec_l1Cur_kind.f
  obtain ⟨b, a1, s1, e1, ha, hb⟩ := one_ok hl h0 (by omega) s 40 (by omega) (by omega)
  rw [e1]
  simp only [Option.bind_some]
  cases b
  · rw [if_neg (by decide)]
    obtain ⟨r, a2, s2, e2, hr0, hr1, ha2, hb2⟩ := pick_ok hl (a := a1) (by omega) (by omega) s1 2 (by omega) (by omega)
    rw [e2]
    simp only [Option.bind_some]
    refine ⟨_, _, _, rfl, ?_, by omega, by omega⟩
    rw [w64 (n := 16 * r) (by omega) (by omega), w64 (by omega) (by omega)]
    omega
  · rw [if_pos rfl]
    exact ⟨_, _, _, rfl, Or.inr (Or.inr rfl), by omega, by omega⟩
theorem ofInt_ok {F : Fm} (h : IsF F) (k : Nat) (hk : 80 ≤ k) (v : Int) (h0 : -1152921504606846975 ≤ v) (h1 : v ≤ 1152921504606846975) :
    spec_l4K_ofInt.f k F.x F.p v = some (fin F (decide (v < 0)) v.natAbs 0) := by
  obtain ⟨k, rfl⟩ : ∃ j, k = j + 2 := ⟨k - 2, by omega⟩
  have hj : ∀ n : Nat, n < 1152921504606846976 → spec_l4K_ofInt.j0 (k + 2) (decide (v < 0)) (n : Int) F.x F.p = some (fin F (decide (v < 0)) n 0) := by
    intro n hn
    simp only [spec_l4K_ofInt.j0, spec_l4K_ofInt.l0]
    rw [if_neg (by omega), spec_exact h k (by omega) _ n 0 (by omega) (by omega) (by omega)]
    rfl
  unfold spec_l4K_ofInt.f
  by_cases c : v < 0
  · have e1 : IntKind.u64.wrap (-(IntKind.u64.wrap v)) = ((v.natAbs : Nat) : Int) := by rw [wrap_u64, wrap_u64]; omega
    rw [if_pos c, e1]
    exact hj _ (by omega)
  · have e1 : IntKind.u64.wrap v = ((v.natAbs : Nat) : Int) := by rw [wrap_u64]; omega
    rw [if_neg c, e1]
    exact hj _ (by omega)
theorem float_ok {l : List Int} (hl : U8 l) {a : Int} (h0 : 0 ≤ a) (h1 : a ≤ 4611686018427386000) (s kind : Int) {k : Nat} (hk : 90 ≤ k) : ∃ r a' s', spec_l1Cur_float.f k l a s kind = some (r, a', s') ∧ (0 ≤ r ∧ r ≤ 4294967295) ∧ a ≤ a' ∧ a' ≤ a + 30 := by
  obtain ⟨k, rfl⟩ : ∃ j, k = j + 1 := ⟨k - 1, by omega⟩
  unfold spec_l1Cur_float.f
  obtain ⟨w, s1, e1, hw⟩ := wide_ok hl h0 (by omega) s (k := k + 1) (by omega)
  rw [e1]
  simp only [Option.bind_some]
  obtain ⟨p, a2, s2, e2, hp0, hp1, ha2, hb2⟩ := pick_ok hl (a := a + 8) (by omega) (by omega) s1 8 (by omega) (by omega)
  rw [e2]
  simp only [Option.bind_some]
  have hmod : ∀ x : Int, 0 ≤ x % 4294967296 ∧ x % 4294967296 ≤ 4294967295 := fun x => by omega
  have hj0 : ∀ b : Bool, ∃ r a' s', spec_l1Cur_float.j0 (k + 1) kind (w % 4294967296) p b l a2 s2 = some (r, a', s') ∧ (0 ≤ r ∧ r ≤ 4294967295) ∧ a ≤ a' ∧ a' ≤ a + 30 := by
    intro b
    simp only [spec_l1Cur_float.j0]
    cases b
    · rw [if_neg (by decide)]
      by_cases c3 : p = 3
      · rw [if_pos c3]
        obtain ⟨w2, s3, e3, hw3⟩ := wide_ok hl (a := a2) (by omega) (by omega) s2 (k := k) (by omega)
        rw [e3]
        simp only [Option.bind_some]
        by_cases c4 : kind = 32
        · rw [if_pos c4]
          exact ⟨_, _, _, rfl, hmod _, by omega, by omega⟩
        · rw [if_neg c4]
          exact ⟨_, _, _, rfl, hmod _, by omega, by omega⟩
      · rw [if_neg c3]
        exact ⟨_, _, _, rfl, hmod _, by omega, by omega⟩
    · rw [if_pos rfl]
      rcases kinds kind with ⟨F, hF, f1, f2⟩ | ⟨f1, f2⟩
      · rw [f1]
        simp only [Option.bind_some, if_true]
        obtain ⟨q, a3, s3, e3, hq0, hq1, ha3, hb3⟩ := pick_ok hl (a := a2) (by omega) (by omega) s2 300 (by omega) (by omega)
        rw [e3]
        simp only [Option.bind_some]
        rw [w64 (n := q - 100) (by omega) (by omega), ofInt_ok hF k (by omega) _ (by omega) (by omega)]
        exact ⟨_, _, _, rfl, fin_range hF _ _ _, by omega, by omega⟩
      · rw [f1]
        simp only [Option.bind_some]
        rw [if_neg (by decide)]
        exact ⟨_, _, _, rfl, hmod _, by omega, by omega⟩
  by_cases c0 : p = 0
  · rw [if_pos c0]
    obtain ⟨r, a3, s3, e3, _, ha3, hb3⟩ := among_ok hl (a := a2) (by omega) (by omega) s2 ([0, 1, 15360, 31743, 31744, 32256, 32768, 1024, 1023, 64512] : List Int) (by simp) (by simp)
    rw [e3]
    simp only [Option.bind_some]
    by_cases c4 : kind = 32
    · rw [if_pos c4]
      obtain ⟨r4, a4, s4, e4, _, ha4, hb4⟩ := among_ok hl (a := a3) (by omega) (by omega) s3 ([0, 1, 1065353216, 2139095039, 2139095040, 2143289344, 2147483648, 8388608, 8388607, 4286578688] : List Int) (by simp) (by simp)
      rw [e4]
      simp only [Option.bind_some]
      exact ⟨_, _, _, rfl, hmod _, by omega, by omega⟩
    · rw [if_neg c4]
      exact ⟨_, _, _, rfl, hmod _, by omega, by omega⟩
  · rw [if_neg c0]
    by_cases c1 : p = 1
    · rw [if_pos c1]; exact hj0 _
    · rw [if_neg c1]; exact hj0 _
end Go.Proofs.Ytdeogandkgiggaa.Fc
