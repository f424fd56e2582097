/- Whole numbers of units, as halves. -/
import Derived.Test.YtdeogandkgiggaaFx
import Derived.Test.YtdeogandkgiggaaFz
namespace Go.Proofs.Ytdeogandkgiggaa.Fy
open Go.RowKit Go.Proofs.Ytdeogandkgiggaa.Q Go.Proofs.YtdeogandkgiggaaW.PrintWords Go.Proofs.YtdeogandkgiggaaW.PrintLast Go.Proofs.YtdeogandkgiggaaW.PrintMore Go.Proofs.Ytdeogandkgiggaa.Mb Go.Proofs.Ytdeogandkgiggaa.Fp Go.Proofs.Ytdeogandkgiggaa.Fl Go.Proofs.Ytdeogandkgiggaa.Fr Go.Proofs.Ytdeogandkgiggaa.Fo Go.Proofs.Ytdeogandkgiggaa.Fe Go.Proofs.Ytdeogandkgiggaa.Fc Go.Proofs.Ytdeogandkgiggaa.Fx Go.Proofs.Ytdeogandkgiggaa.Fz
set_option linter.unusedSimpArgs false
set_option linter.unusedVariables false
theorem fin_val (S : Int) (hS : S ≠ 0) (hm : mag F16.P F16.L S.natAbs (-24) < F16.I) : fnt (fin F16 (decide (S < 0)) S.natAbs (-24)) = true ∧ EX (fin F16 (decide (S < 0)) S.natAbs (-24)) = R S := by
  have hV : S.natAbs ≠ 0 := by omega
  obtain ⟨o1, o2, o3, c, hc, o4, o5⟩ := open_fin isF16 (decide (S < 0)) S.natAbs (-24) hV hm
  refine ⟨(fnt_iff _).2 ⟨o2, o3⟩, ?_⟩
  have hl : low F16.P F16.L S.natAbs (-24) = -24 + (G S : Int) := by
    unfold low G
    rw [show F16.P = 10 from rfl, show F16.L = -24 from rfl]
    omega
  have hk : kv F16.P F16.L S.natAbs (-24) = rne S.natAbs (G S) := by
    unfold kv
    rw [hl]
    by_cases g : G S = 0
    · rw [g, if_pos (by omega), rne_zero]
      simp
    · rw [if_neg (by omega)]
      congr 1
      omega
  have hM : MX (fin F16 (decide (S < 0)) S.natAbs (-24)) = Rn S.natAbs (G S) := by
    unfold MX Rn
    rw [← hk, ← o5, o4, hl, Nat.mul_assoc, ← Nat.pow_add]
    congr 2
    omega
  unfold EX R
  rw [hM, o1]
  by_cases s : S < 0
  · rw [decide_eq_true s, if_pos rfl, if_pos s]
  · rw [decide_eq_false s, if_neg (show ¬ (false = true) by decide), if_neg s]
theorem sg_val (s : Bool) : fnt (sg F16 s) = true ∧ EX (sg F16 s) = 0 := by cases s <;> decide
theorem rep_mag (S : Int) (hr : Rep S) (hS : S ≠ 0) (hl : S.natAbs < 2 ^ 40) : mag F16.P F16.L S.natAbs (-24) < F16.I := by
  have hlow : low F16.P F16.L S.natAbs (-24) = -24 + (G S : Int) := by
    unfold low G
    rw [show F16.P = 10 from rfl, show F16.L = -24 from rfl]
    omega
  have hk : kv F16.P F16.L S.natAbs (-24) = rne S.natAbs (G S) := by
    unfold kv
    rw [hlow]
    by_cases g : G S = 0
    · rw [g, if_pos (by omega), rne_zero]
      simp
    · rw [if_neg (by omega)]
      congr 1
      omega
  have hR := R_rep hr
  have hRn : Rn S.natAbs (G S) = S.natAbs := by
    unfold R at hR
    split at hR <;> omega
  have hb : bl S.natAbs ≤ 40 := bl_le hl
  have hg : G S ≤ 29 := by unfold G; omega
  have hlt : S.natAbs < 2 ^ (11 + G S) := by
    by_cases c : 1 ≤ G S
    · exact (G_low c).2
    · have hb : bl S.natAbs ≤ 11 := by unfold G at c; omega
      have h0 : G S = 0 := by omega
      rw [h0]
      exact Nat.lt_of_lt_of_le (bl_lt _) (Nat.pow_le_pow_right (by decide) hb)
  have hk2 : rne S.natAbs (G S) < 2 ^ 11 := by
    unfold Rn at hRn
    rw [← hRn, Nat.pow_add] at hlt
    refine Nat.lt_of_mul_lt_mul_right (a := 2 ^ G S) ?_
    rw [hRn, ← Nat.pow_add]
    rw [hRn, ← Nat.pow_add] at hlt
    exact hlt
  rw [mag_kv, hk, hlow, show F16.L = -24 from rfl, show F16.P = 10 from rfl, show F16.I = 31744 from rfl]
  rw [show (-24 + (G S : Int) - -24).toNat = G S by omega]
  omega
/-- A whole number's float, in units of 2^-24. -/
theorem whole_EX (s : Bool) (q : Nat) (hq : q < 2 ^ 11) : fnt (fin F16 s q 0) = true ∧ EX (fin F16 s q 0) = if s = true then -((q : Int) * 16777216) else (q : Int) * 16777216 := by
  by_cases z : q = 0
  · subst z
    rw [fin_zero]
    obtain ⟨h1, h2⟩ := sg_val s
    refine ⟨h1, ?_⟩
    rw [h2]
    cases s <;> simp
  · obtain ⟨S, hS, hd, hA, hv⟩ : ∃ S : Int, S ≠ 0 ∧ decide (S < 0) = s ∧ S.natAbs = q * 2 ^ 24 ∧ S = if s = true then -((q : Int) * 16777216) else (q : Int) * 16777216 := by
      cases s
      · exact ⟨(q : Int) * 16777216, by omega, decide_eq_false (by omega), by omega, by simp⟩
      · exact ⟨-((q : Int) * 16777216), by omega, decide_eq_true (by omega), by omega, by simp⟩
    have hr : Rep S := ⟨q, 24, hq, hA⟩
    have e : fin F16 s q 0 = fin F16 (decide (S < 0)) S.natAbs (-24) := by
      have := fin_scale F16 s q 24 (-24)
      rw [show (-24 : Int) + ((24 : Nat) : Int) = 0 by omega] at this
      rw [hA, hd, this]
    have hm := rep_mag S hr hS (by omega)
    have := fin_val S hS hm
    rw [e, ← hv]
    exact ⟨this.1, by rw [this.2]; exact R_rep hr⟩
end Go.Proofs.Ytdeogandkgiggaa.Fy
