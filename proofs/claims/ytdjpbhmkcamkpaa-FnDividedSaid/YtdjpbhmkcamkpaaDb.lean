/- Drawn arguments of Binary. -/
import Derived.Test.YtdjpbhmkcamkpaaCurW
import Derived.Test.YtdjpbhmkcamkpaaQx2
namespace Go.Proofs.Ytdjpbhmkcamkpaa.Cur
open Go.RowKit Go.Proofs.Ytdjpbhmkcamkpaa.Q Go.Proofs.YtdjpbhmkcamkpaaW.PrintWords Go.Proofs.YtdjpbhmkcamkpaaW.PrintLast Go.Proofs.YtdjpbhmkcamkpaaW.PrintMore Go.Proofs.Ytdjpbhmkcamkpaa.Mb
set_option linter.unusedSimpArgs false
set_option linter.unusedVariables false
theorem width_ok {l : List Int} (hl : U8 l) {a : Int} (h0 : 0 ≤ a) (h1 : a ≤ 4611686018427386000) (s : Int) : ∃ n a' s', spec_l1Cur_width.f l a s = some (n, a', s') ∧ a ≤ a' ∧ a' ≤ a + 4 := by
  unfold spec_l1Cur_width.f
  obtain ⟨b, a1, s1, e1, ha1, hb1⟩ := one_ok hl h0 (by omega) s 40 (by omega) (by omega)
  rw [e1]
  simp only [Option.bind_some]
  by_cases c : b = true
  · rw [if_pos c]
    obtain ⟨r, a2, s2, e2, _, ha2, hb2⟩ := among_ok hl (a := a1) (by omega) (by omega) s1 ([0, 16, 33] : List Int) (by simp) (by simp)
    rw [e2]
    simp only [Option.bind_some]
    exact ⟨_, _, _, rfl, by omega, by omega⟩
  · rw [if_neg c]
    obtain ⟨r, a2, s2, e2, _, _, ha2, hb2⟩ := pick_ok hl (a := a1) (by omega) (by omega) s1 2 (by omega) (by omega)
    rw [e2]
    simp only [Option.bind_some]
    exact ⟨_, _, _, rfl, by omega, by omega⟩
theorem drawBinary_ok {l : List Int} (hl : U8 l) {k : Nat} (hk : 9 ≤ k) : ∃ n op a b, spec_DrawBinary.f k l = some (n, op, a, b) ∧ 0 ≤ op ∧ op < 29 ∧ 0 ≤ a ∧ a ≤ 18446744073709551615 ∧ 0 ≤ b ∧ b ≤ 18446744073709551615 := by
  unfold spec_DrawBinary.f
  obtain ⟨x, a1, s1, e1, hx0, hx1, ha1, hb1⟩ := word_ok hl (a := 0) (by omega) (by omega) 0 hk
  rw [e1]
  simp only [Option.bind_some]
  obtain ⟨y, a2, s2, e2, hy0, hy1, ha2, hb2⟩ := word_ok hl (a := a1) (by omega) (by omega) s1 hk
  rw [e2]
  simp only [Option.bind_some]
  obtain ⟨p, a3, s3, e3, hp0, hp1, ha3, hb3⟩ := pick_ok hl (a := a2) (by omega) (by omega) s2 8 (by omega) (by omega)
  rw [e3]
  simp only [Option.bind_some]
  by_cases c0 : p = 0
  · rw [if_pos c0]
    obtain ⟨n, a4, s4, e4, ha4, hb4⟩ := width_ok hl (a := a3) (by omega) (by omega) s3
    rw [e4]
    simp only [Option.bind_some]
    obtain ⟨q, a5, s5, e5, hq0, hq1, _, _⟩ := pick_ok hl (a := a4) (by omega) (by omega) s4 29 (by omega) (by omega)
    rw [e5]
    exact ⟨_, _, _, _, rfl, hq0, hq1, hx0, hx1, hx0, hx1⟩
  · rw [if_neg c0]
    by_cases c1 : p = 1
    · rw [if_pos c1]
      obtain ⟨u, a4, s4, e4, _, ha4, hb4⟩ := among_ok hl (a := a3) (by omega) (by omega) s3 ([2147483648, (-9223372036854775808)] : List Int) (by simp) (by simp)
      rw [e4]
      simp only [Option.bind_some]
      obtain ⟨v, a5, s5, e5, _, ha5, hb5⟩ := among_ok hl (a := a4) (by omega) (by omega) s4 ([(-1), 4294967295, 0] : List Int) (by simp) (by simp)
      rw [e5]
      simp only [Option.bind_some]
      obtain ⟨n, a6, s6, e6, ha6, hb6⟩ := width_ok hl (a := a5) (by omega) (by omega) s5
      rw [e6]
      simp only [Option.bind_some]
      obtain ⟨q, a7, s7, e7, hq0, hq1, _, _⟩ := pick_ok hl (a := a6) (by omega) (by omega) s6 29 (by omega) (by omega)
      rw [e7]
      have h1 := wrap_u64_range u
      have h2 := wrap_u64_range v
      exact ⟨_, _, _, _, rfl, hq0, hq1, h1.1, h1.2, h2.1, h2.2⟩
    · rw [if_neg c1]
      obtain ⟨n, a4, s4, e4, ha4, hb4⟩ := width_ok hl (a := a3) (by omega) (by omega) s3
      rw [e4]
      simp only [Option.bind_some]
      obtain ⟨q, a5, s5, e5, hq0, hq1, _, _⟩ := pick_ok hl (a := a4) (by omega) (by omega) s4 29 (by omega) (by omega)
      rw [e5]
      exact ⟨_, _, _, _, rfl, hq0, hq1, hx0, hx1, hy0, hy1⟩
end Go.Proofs.Ytdjpbhmkcamkpaa.Cur
