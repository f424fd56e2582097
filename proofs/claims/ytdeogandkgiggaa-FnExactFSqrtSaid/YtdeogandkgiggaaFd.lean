/- Rounding what is cut off, with a mark that something was: the place of the cut does not matter. -/
import Derived.Test.YtdeogandkgiggaaFo
import Derived.Test.YtdeogandkgiggaaQx18
namespace Go.Proofs.Ytdeogandkgiggaa.Fd
open Go.RowKit Go.Proofs.Ytdeogandkgiggaa.Q Go.Proofs.YtdeogandkgiggaaW.PrintWords Go.Proofs.YtdeogandkgiggaaW.PrintLast Go.Proofs.YtdeogandkgiggaaW.PrintMore Go.Proofs.Ytdeogandkgiggaa.Mb Go.Proofs.Ytdeogandkgiggaa.Fp Go.Proofs.Ytdeogandkgiggaa.Fl Go.Proofs.Ytdeogandkgiggaa.Fr Go.Proofs.Ytdeogandkgiggaa.Fo
set_option linter.unusedSimpArgs false
set_option linter.unusedVariables false
theorem fin_down {F : Fm} (neg : Bool) (Q d : Nat) (mb : Bool) (e : Int) (h : F.P + 2 ≤ bl (Q / 2 ^ d)) :
    fin F neg (Vm (Q / 2 ^ d) (decide (Q % 2 ^ d ≠ 0) || mb)) (Em (e + d) (decide (Q % 2 ^ d ≠ 0) || mb)) = fin F neg (Vm Q mb) (Em e mb) := by
  cases mb
  · rw [Bool.or_false]
    have x1 : Vm Q false = Q := rfl
    have x2 : Em e false = e := rfl
    rw [x1, x2]
    by_cases c : Q % 2 ^ d = 0
    · rw [decide_eq_false (by omega)]
      have x1 : Vm (Q / 2 ^ d) false = Q / 2 ^ d := rfl
      have x2 : Em (e + d) false = e + d := rfl
      have e1 : Q / 2 ^ d * 2 ^ d = Q := by
        have := Nat.div_add_mod Q (2 ^ d)
        rw [Nat.mul_comm]
        omega
      rw [x1, x2, fin_scale, e1]
    · rw [decide_eq_true c]
      exact fin_stick neg Q d e h c
  · rw [Bool.or_true]
    have x1 : Vm Q true = 2 * Q + 1 := rfl
    have x2 : Em e true = e - 1 := rfl
    have x3 : Vm (Q / 2 ^ d) true = 2 * (Q / 2 ^ d) + 1 := rfl
    have x4 : Em (e + d) true = e + d - 1 := rfl
    rw [x1, x2, x3, x4]
    have e1 : (2 * Q + 1) / 2 ^ (d + 1) = Q / 2 ^ d := by
      rw [Nat.pow_succ, Nat.mul_comm (2 ^ d) 2, ← Nat.div_div_eq_div_mul]
      congr 1
      omega
    have e2 : (2 * Q + 1) % 2 ^ (d + 1) ≠ 0 := by
      intro h0
      have h1 : 2 ∣ 2 ^ (d + 1) := ⟨2 ^ d, by rw [Nat.pow_succ, Nat.mul_comm]⟩
      have h2 : 2 ∣ 2 * Q + 1 := Nat.dvd_trans h1 (Nat.dvd_of_mod_eq_zero h0)
      omega
    have := fin_stick (F := F) neg (2 * Q + 1) (d + 1) (e - 1) (by rw [e1]; exact h) e2
    rw [e1] at this
    rw [← this]
    congr 1
    omega
theorem full_l0 {F : Fm} (h : IsF F) (s i n : Bool) (j : Nat) : ∀ (m k : Nat) (e : Int), m ≠ 0 → bl m + j = F.P + 1 → j < k → (j : Int) - 1000 ≤ e → e ≤ 1000 →
    spec_l4K_full.l0 k F.x F.p s i n (m : Int) e = some (s, i, n, ((m * 2 ^ j : Nat) : Int), e - j) := by
  have hs3 : shl .u64 1 F.p = F.A := by rcases h with rfl | rfl <;> decide +kernel
  obtain ⟨f1, f2, f3, f4, f5, f6, -⟩ := facts h
  induction j with
  | zero =>
    intro m k e hm hb hk _ _
    obtain ⟨k, rfl⟩ : ∃ t, k = t + 1 := ⟨k - 1, by omega⟩
    obtain ⟨b1, b2, b3⟩ := bl_pos hm
    have b4 : 2 ^ F.P ≤ m := by rw [show bl m - 1 = F.P by omega] at b1; exact b1
    simp only [spec_l4K_full.l0]
    rw [if_neg (by omega), if_pos (by omega), hs3, f2, if_neg (by omega)]
    simp
  | succ j ih =>
    intro m k e hm hb hk he0 he1
    obtain ⟨k, rfl⟩ : ∃ t, k = t + 1 := ⟨k - 1, by omega⟩
    obtain ⟨b1, b2, b3⟩ := bl_pos hm
    have b4 : m < 2 ^ F.P := Nat.lt_of_lt_of_le b2 (Nat.pow_le_pow_right (by decide) (by omega))
    have b5 : 2 ^ F.P ≤ 2 ^ 23 := Nat.pow_le_pow_right (by decide) f6
    simp only [spec_l4K_full.l0]
    have e1 : IntKind.u64.wrap ((m : Int) * 2) = ((m * 2 : Nat) : Int) := by rw [wu64 (by omega) (by omega)]; omega
    have e2 := bl_shift hm 1
    rw [Nat.pow_one] at e2
    have hjP : j ≤ F.P := by omega
    · rw [if_neg (by omega), if_pos (by omega), hs3, f2, if_pos (by omega), e1, w64 (n := e - 1) (by omega) (by omega), ih (m * 2) k (e - 1) (by omega) (by omega) (by omega) (by omega) (by omega)]
      have e3 : m * 2 * 2 ^ j = m * 2 ^ (j + 1) := by rw [Nat.mul_assoc, Nat.pow_succ, Nat.mul_comm 2]
      rw [e3]
      congr 5
      omega
theorem spec_full {F : Fm} (h : IsF F) (k : Nat) (hk : 30 ≤ k) (s i n : Bool) (m : Nat) (e : Int) (hm : m ≠ 0) (hm1 : m < 2 ^ (F.P + 1)) (he : -300 ≤ e ∧ e ≤ 300) :
    spec_l4K_full.f k F.x F.p s i n (m : Int) e = some (s, i, n, ((m * 2 ^ (F.P + 1 - bl m) : Nat) : Int), e - ((F.P + 1 - bl m : Nat) : Int)) := by
  obtain ⟨f1, f2, f3, f4, f5, f6, -⟩ := facts h
  have hb := bl_le hm1
  unfold spec_l4K_full.f
  exact full_l0 h s i n _ m k e hm (by omega) (by omega) (by omega) (by omega)
end Go.Proofs.Ytdeogandkgiggaa.Fd
