/- The law FnWide, on numbers alone. -/
import Derived.Test.YtdjpbhmkcamkpaaDv
import Derived.Test.YtdjpbhmkcamkpaaCurW
import Derived.Test.YtdjpbhmkcamkpaaQx4
namespace Go.Proofs.Ytdjpbhmkcamkpaa.Pure
open Go.RowKit Go.Proofs.Ytdjpbhmkcamkpaa.Q Go.Proofs.YtdjpbhmkcamkpaaW.PrintWords Go.Proofs.YtdjpbhmkcamkpaaW.PrintLast Go.Proofs.YtdjpbhmkcamkpaaW.PrintMore Go.Proofs.Ytdjpbhmkcamkpaa.Mb Go.Proofs.Ytdjpbhmkcamkpaa.Dv Go.Proofs.Ytdjpbhmkcamkpaa.Cur
set_option linter.unusedSimpArgs false
set_option linter.unusedVariables false

theorem drawDiv_ok {l : List Int} (hl : U8 l) : ∃ (u v d : Int), (∀ k, 9 ≤ k → spec_DrawDiv128.f k l = some (u, v, d)) ∧ 0 ≤ u ∧ u ≤ 18446744073709551615 ∧ 0 ≤ v ∧ v ≤ 18446744073709551615 ∧ 0 ≤ d ∧ d ≤ 18446744073709551615 := by
  have main : ∃ (u v d : Int), spec_DrawDiv128.f 9 l = some (u, v, d) ∧ 0 ≤ u ∧ u ≤ 18446744073709551615 ∧ 0 ≤ v ∧ v ≤ 18446744073709551615 ∧ 0 ≤ d ∧ d ≤ 18446744073709551615 := by
    unfold spec_DrawDiv128.f
    obtain ⟨x, a1, s1, e1, hx0, hx1, ha1, hb1⟩ := word_ok hl (a := 0) (by omega) (by omega) 0 (k := 9) (by omega)
    rw [e1]
    simp only [Option.bind_some]
    obtain ⟨y, a2, s2, e2, hy0, hy1, ha2, hb2⟩ := word_ok hl (a := a1) (by omega) (by omega) s1 (k := 9) (by omega)
    rw [e2]
    simp only [Option.bind_some]
    obtain ⟨b, a3, s3, e3, ha3, hb3⟩ := one_ok hl (a := a2) (by omega) (by omega) s2 2 (by omega) (by omega)
    rw [e3]
    simp only [Option.bind_some]
    obtain ⟨z, a4, s4, e4, hz0, hz1, ha4, hb4⟩ := word_ok hl (a := a3) (by omega) (by omega) s3 (k := 9) (by omega)
    rw [e4]
    simp only [Option.bind_some]
    by_cases c : b = true
    · rw [if_pos c]
      by_cases c1 : y > 0
      · rw [if_pos c1, if_neg (by omega), Int.tmod_eq_emod_of_nonneg hx0]
        have h1 := Int.emod_nonneg x (show y ≠ 0 by omega)
        have h2 := Int.emod_lt_of_pos x (show 0 < y by omega)
        exact ⟨_, _, _, rfl, h1, by omega, hz0, hz1, hy0, hy1⟩
      · rw [if_neg c1]
        exact ⟨_, _, _, rfl, hx0, hx1, hz0, hz1, hy0, hy1⟩
    · rw [if_neg c]
      exact ⟨_, _, _, rfl, hx0, hx1, hz0, hz1, hy0, hy1⟩
  obtain ⟨u, v, d, e, h⟩ := main
  exact ⟨u, v, d, fun k hk => at_rounds (spec_DrawDiv128.mono l) hk e, h⟩
theorem j1_ok {l : List Int} (hl : U8 l) : ∃ K, ∀ k, K ≤ k → laws_FnWide.j1 k l = some true := by
  obtain ⟨u, v, d, e, hu0, hu, hv0, hv, hd0, hd⟩ := drawDiv_ok hl
  by_cases c : u < d
  · obtain ⟨K, q, r, h1, h2, h3, h4, h5, h6⟩ := impl_div hu0 hv0 hv hd c
    refine ⟨K + 100, fun k hk => ?_⟩
    obtain ⟨k, rfl⟩ : ∃ j, k = j + 1 := ⟨k - 1, by omega⟩
    simp only [laws_FnWide.j1]
    rw [e k (by omega)]
    simp only [Option.bind_some]
    rw [h1 k (by omega)]
    obtain ⟨a, b, h7, _⟩ := spec_div k (by omega) u v d
    rw [h7, decide_eq_true c]
    simp only [Option.bind_some, bne_self_eq_false, Bool.false_eq_true, if_false, if_true]
    rw [spec_mul h5 h6 hd0 hd]
    simp only [Option.bind_some]
    generalize q * d = P at *
    by_cases c2 : IntKind.u64.wrap (P % 18446744073709551616 + r) < P % 18446744073709551616
    · rw [if_pos c2, if_pos h4]
      rw [wrap_u64] at c2
      have e1 : IntKind.u64.wrap (P / 18446744073709551616 + 1) = u := by rw [wrap_u64]; omega
      have e2 : IntKind.u64.wrap (P % 18446744073709551616 + r) = v := by rw [wrap_u64]; omega
      rw [e1, if_pos rfl, e2]
      simp
    · rw [if_neg c2, if_pos h4]
      rw [wrap_u64] at c2
      have e1 : P / 18446744073709551616 = u := by omega
      have e2 : IntKind.u64.wrap (P % 18446744073709551616 + r) = v := by rw [wrap_u64]; omega
      rw [if_pos e1, e2]
      simp
  · refine ⟨100, fun k hk => ?_⟩
    obtain ⟨k, rfl⟩ : ∃ j, k = j + 1 := ⟨k - 1, by omega⟩
    simp only [laws_FnWide.j1]
    rw [e k (by omega)]
    simp only [Option.bind_some]
    rw [impl_div_no (by omega)]
    obtain ⟨a, b, h7, h8⟩ := spec_div k (by omega) u v d
    rw [h7, decide_eq_false c]
    simp
theorem FnWide : laws_FnWide.Pure := by
  intro l0 l1 hl0 hl0' hu0 hl1 hl1' hu1
  have hu0 := u8_of hu0
  have hu1 := u8_of hu1
  obtain ⟨K1, hj⟩ := j1_ok hu1
  obtain ⟨a, a1, s1, e1, ha0, ha, hc1, hc2⟩ := word_ok hu0 (a := 0) (by omega) (by omega) 0 (k := 9) (by omega)
  obtain ⟨b, a2, s2, e2, hb0, hb, _, _⟩ := word_ok hu0 (a := a1) (by omega) (by omega) s1 (k := 9) (by omega)
  have ed : spec_DrawMul128.f 9 l0 = some (a, b) := by
    unfold spec_DrawMul128.f
    rw [e1]
    simp only [Option.bind_some]
    rw [e2]
    rfl
  have ed' : ∀ k, 9 ≤ k → spec_DrawMul128.f k l0 = some (a, b) := fun k hk => at_rounds (spec_DrawMul128.mono l0) hk ed
  have hP0 : 0 ≤ a * b := Int.mul_nonneg ha0 hb0
  have j0_ok : ∃ K, ∀ k, K ≤ k → laws_FnWide.j0 k l1 a b (a * b / 18446744073709551616) (a * b % 18446744073709551616) false = some true := by
    by_cases c : b > 0
    · by_cases c2 : a * b / 18446744073709551616 < b
      · obtain ⟨K, q, r, h1, h2, h3, h4, h5, h6⟩ := impl_div (hi := a * b / 18446744073709551616) (lo := a * b % 18446744073709551616) (d := b) (by omega) (by omega) (by omega) hb c2
        have e3 : q * b + r = a * b := by omega
        have e4 : q = a := by
          have g1 : q * b ≤ a * b := by omega
          have g2 : a * b < (q + 1) * b := by rw [Int.add_mul, Int.one_mul]; omega
          have g3 := le_of_mul (y := b) c g1
          have g4 := lt_of_mul (y := b) c g2
          omega
        have e5 : r = 0 := by rw [e4] at e3; omega
        refine ⟨K + K1 + 2, fun k hk => ?_⟩
        obtain ⟨k, rfl⟩ : ∃ j, k = j + 1 := ⟨k - 1, by omega⟩
        simp only [laws_FnWide.j0, Bool.false_eq_true, if_false]
        rw [if_pos c, h1 k (by omega)]
        simp only [Option.bind_some, decide_eq_true c2, bne_self_eq_false, Bool.false_eq_true, if_false, if_true]
        rw [if_pos e4, if_pos e5]
        exact hj k (by omega)
      · refine ⟨K1 + 2, fun k hk => ?_⟩
        obtain ⟨k, rfl⟩ : ∃ j, k = j + 1 := ⟨k - 1, by omega⟩
        simp only [laws_FnWide.j0, Bool.false_eq_true, if_false]
        rw [if_pos c, impl_div_no (by omega)]
        simp only [Option.bind_some, decide_eq_false c2, bne_self_eq_false, Bool.false_eq_true, if_false]
        exact hj k (by omega)
    · refine ⟨K1 + 2, fun k hk => ?_⟩
      obtain ⟨k, rfl⟩ : ∃ j, k = j + 1 := ⟨k - 1, by omega⟩
      simp only [laws_FnWide.j0, Bool.false_eq_true, if_false]
      rw [if_neg c]
      exact hj k (by omega)
  obtain ⟨K0, h0⟩ := j0_ok
  refine ⟨K0 + 9, ?_⟩
  unfold laws_FnWide.f
  rw [len_sum hl0' hl1']
  by_cases cl : (l0.length : Int) + (l1.length : Int) > 1048576
  · rw [if_pos cl]
  · rw [if_neg cl, ed' _ (by omega)]
    simp only [Option.bind_some]
    rw [impl_mul ha0 ha hb0 hb, spec_mul ha0 ha hb0 hb]
    simp only [Option.bind_some, if_true]
    have e3 : (a * b % 18446744073709551616 != IntKind.u64.wrap (a * b)) = false := by rw [wrap_u64]; simp
    rw [e3]
    exact h0 _ (by omega)
end Go.Proofs.Ytdjpbhmkcamkpaa.Pure
