/- Two floats that are drawn. -/
import Derived.Test.YtdeogandkgiggaaFc
import Derived.Test.YtdeogandkgiggaaQx17
namespace Go.Proofs.Ytdeogandkgiggaa.Fb
open Go.RowKit Go.Proofs.Ytdeogandkgiggaa.Q Go.Proofs.YtdeogandkgiggaaW.PrintWords Go.Proofs.YtdeogandkgiggaaW.PrintLast Go.Proofs.YtdeogandkgiggaaW.PrintMore Go.Proofs.Ytdeogandkgiggaa.Mb Go.Proofs.Ytdeogandkgiggaa.Cur Go.Proofs.Ytdeogandkgiggaa.Fc
set_option linter.unusedSimpArgs false
set_option linter.unusedVariables false
theorem draw_ok {l : List Int} (hl : U8 l) (k : Nat) (hk : 100 ≤ k) : ∃ kd a b, spec_DrawFAdd.f k l = some (kd, a, b) ∧ (kd = 16 ∨ kd = 32 ∨ kd = 64) ∧ (0 ≤ a ∧ a ≤ 4294967295) ∧ (0 ≤ b ∧ b ≤ 4294967295) := by
  unfold spec_DrawFAdd.f
  obtain ⟨p, a1, s1, e1, hp, ha1, hb1⟩ := kind_ok hl (a := 0) (by omega) (by omega) 0
  rw [e1]
  simp only [Option.bind_some]
  obtain ⟨x, a2, s2, e2, hx, ha2, hb2⟩ := float_ok hl (a := a1) (by omega) (by omega) s1 p (k := k) (by omega)
  rw [e2]
  simp only [Option.bind_some]
  obtain ⟨y, a3, s3, e3, hy, ha3, hb3⟩ := float_ok hl (a := a2) (by omega) (by omega) s2 p (k := k) (by omega)
  rw [e3]
  simp only [Option.bind_some]
  obtain ⟨q, a4, s4, e4, hq0, hq1, ha4, hb4⟩ := pick_ok hl (a := a3) (by omega) (by omega) s3 8 (by omega) (by omega)
  rw [e4]
  simp only [Option.bind_some]
  by_cases c0 : q = 0
  · rw [if_pos c0]
    exact ⟨_, _, _, rfl, hp, hx, bits_range_u32 _ _ _⟩
  · rw [if_neg c0]
    by_cases c1 : q = 1
    · rw [if_pos c1, if_pos (wrap_u64_range _).1]
      exact ⟨_, _, _, rfl, hp, hx, bits_range_u32 _ _ _⟩
    · rw [if_neg c1]
      exact ⟨_, _, _, rfl, hp, hx, hy⟩
end Go.Proofs.Ytdeogandkgiggaa.Fb
