/- Sums of halves are sums of whole numbers, rounded to eleven bits. -/
import Derived.Test.YtdeogandkgiggaaFx
import Derived.Test.YtdeogandkgiggaaFz
import Derived.Test.YtdeogandkgiggaaFb
import Derived.Test.YtdeogandkgiggaaPureFnExactFAdd
import Derived.Test.YtdeogandkgiggaaPureFnExactFSub
namespace Go.Proofs.Ytdeogandkgiggaa.Fw
open Go.RowKit Go.Proofs.Ytdeogandkgiggaa.Q Go.Proofs.YtdeogandkgiggaaW.PrintWords Go.Proofs.YtdeogandkgiggaaW.PrintLast Go.Proofs.YtdeogandkgiggaaW.PrintMore Go.Proofs.Ytdeogandkgiggaa.Mb Go.Proofs.Ytdeogandkgiggaa.Fp Go.Proofs.Ytdeogandkgiggaa.Fl Go.Proofs.Ytdeogandkgiggaa.Fr Go.Proofs.Ytdeogandkgiggaa.Fo Go.Proofs.Ytdeogandkgiggaa.Fe Go.Proofs.Ytdeogandkgiggaa.Fc Go.Proofs.Ytdeogandkgiggaa.Fx Go.Proofs.Ytdeogandkgiggaa.Fs Go.Proofs.Ytdeogandkgiggaa.Fz Go.Proofs.Ytdeogandkgiggaa.Pure
set_option linter.unusedSimpArgs false
set_option linter.unusedVariables false
theorem sumO_val (s1 : Bool) (m1 : Nat) (s2 : Bool) (m2 d : Nat) (e2 : Int) (he : -24 ≤ e2) (X1 X2 : Nat) (h1 : X1 = m1 * 2 ^ d * 2 ^ (e2 + 24).toNat) (h2 : X2 = m2 * 2 ^ (e2 + 24).toNat) (S : Int)
    (hS : S = (if s1 = true then -(X1 : Int) else (X1 : Int)) + (if s2 = true then -(X2 : Int) else (X2 : Int))) :
    (S = 0 ∧ ∃ s, sumO F16 s1 m1 s2 m2 d e2 = sg F16 s) ∨ (S ≠ 0 ∧ sumO F16 s1 m1 s2 m2 d e2 = fin F16 (decide (S < 0)) S.natAbs (-24)) := by
  have hp := Nat.two_pow_pos (e2 + 24).toNat
  have sc : ∀ (s : Bool) (V : Nat), fin F16 s V e2 = fin F16 s (V * 2 ^ (e2 + 24).toNat) (-24) := by
    intro s V
    have := fin_scale F16 s V (e2 + 24).toNat (-24)
    rw [show (-24 : Int) + (((e2 + 24).toNat : Nat) : Int) = e2 by omega] at this
    exact this
  unfold sumO
  by_cases cs : s1 = s2
  · subst cs
    rw [if_pos rfl, sc, Nat.add_mul, ← h1, ← h2]
    by_cases z : S = 0
    · left
      refine ⟨z, s1, ?_⟩
      have : X1 + X2 = 0 := by
        cases s1 <;> simp only [if_true, if_false, Bool.false_eq_true] at hS <;> omega
      rw [this, fin_zero]
    · right
      refine ⟨z, ?_⟩
      cases s1 <;> simp only [if_true, if_false, Bool.false_eq_true] at hS
      · rw [decide_eq_false (by omega)]; congr 1; omega
      · rw [decide_eq_true (by omega)]; congr 1; omega
  · rw [if_neg cs]
    have e12 : s2 = !s1 := by cases s1 <;> cases s2 <;> first | rfl | exact absurd rfl cs
    subst e12
    have hlt : m2 > m1 * 2 ^ d ↔ X2 > X1 := by
      rw [h1, h2]
      exact (Nat.mul_lt_mul_right hp).symm
    have heq : m1 * 2 ^ d = m2 ↔ X1 = X2 := by
      rw [h1, h2]
      exact ⟨fun h => by rw [h], fun h => Nat.eq_of_mul_eq_mul_right hp h⟩
    by_cases c1 : m2 > m1 * 2 ^ d
    · have c1' := hlt.1 c1
      rw [if_pos c1, sc, Nat.sub_mul, ← h1, ← h2]
      right
      cases s1 <;> simp only [if_true, if_false, Bool.false_eq_true, Bool.not_false, Bool.not_true] at hS ⊢
      · refine ⟨by omega, ?_⟩
        rw [decide_eq_true (by omega)]; congr 1; omega
      · refine ⟨by omega, ?_⟩
        rw [decide_eq_false (by omega)]; congr 1; omega
    · have c1' : ¬ X2 > X1 := fun h => c1 (hlt.2 h)
      rw [if_neg c1]
      by_cases c2 : m1 * 2 ^ d = m2
      · have c2' := heq.1 c2
        rw [if_pos c2]
        left
        refine ⟨?_, false, rfl⟩
        cases s1 <;> simp only [if_true, if_false, Bool.false_eq_true, Bool.not_false, Bool.not_true] at hS <;> omega
      · have c2' : ¬ X1 = X2 := fun h => c2 (heq.2 h)
        rw [if_neg c2, sc, Nat.sub_mul, ← h1, ← h2]
        right
        cases s1 <;> simp only [if_true, if_false, Bool.false_eq_true, Bool.not_false, Bool.not_true] at hS ⊢
        · refine ⟨by omega, ?_⟩
          rw [decide_eq_false (by omega)]; congr 1; omega
        · refine ⟨by omega, ?_⟩
          rw [decide_eq_true (by omega)]; congr 1; omega
theorem MX_split (b : Int) (h0 : 0 ≤ b) (e2 : Int) (h1 : -24 ≤ e2) (h2 : e2 ≤ opE F16 b) : MX b = opM F16 b * 2 ^ (opE F16 b - e2).toNat * 2 ^ (e2 + 24).toNat := by
  have := f16_E b h0
  unfold MX
  rw [Nat.mul_assoc, ← Nat.pow_add]
  congr 2
  omega
theorem add_val (a b : Int) (ha : 0 ≤ a) (hb : 0 ≤ b) (fa : fnt a = true) (fb : fnt b = true) :
    (EX a + EX b = 0 ∧ ∃ s, addF F16 a b = sg F16 s) ∨ (EX a + EX b ≠ 0 ∧ addF F16 a b = fin F16 (decide (EX a + EX b < 0)) (EX a + EX b).natAbs (-24)) := by
  obtain ⟨i1, n1⟩ := (fnt_iff a).1 fa
  obtain ⟨i2, n2⟩ := (fnt_iff b).1 fb
  have ea := f16_E a ha
  have eb := f16_E b hb
  have e : addF F16 a b = sumF F16 (opS F16 a) (opM F16 a) (opE F16 a) (opS F16 b) (opM F16 b) (opE F16 b) := by
    unfold addF add
    rw [i1, n1, i2, n2]
    rfl
  rw [e]
  unfold sumF
  by_cases c : opE F16 a < opE F16 b
  · rw [if_pos c]
    have k1 := MX_split b hb (opE F16 a) ea.1 (by omega)
    have k2 : MX a = opM F16 a * 2 ^ (opE F16 a + 24).toNat := rfl
    exact sumO_val (opS F16 b) (opM F16 b) (opS F16 a) (opM F16 a) _ (opE F16 a) ea.1 (MX b) (MX a) k1 k2 (EX a + EX b) (by unfold EX; rw [Int.add_comm])
  · rw [if_neg c]
    have k1 := MX_split a ha (opE F16 b) eb.1 (by omega)
    have k2 : MX b = opM F16 b * 2 ^ (opE F16 b + 24).toNat := rfl
    exact sumO_val (opS F16 a) (opM F16 a) (opS F16 b) (opM F16 b) _ (opE F16 b) eb.1 (MX a) (MX b) k1 k2 (EX a + EX b) rfl
theorem fin_val (S : Int) (hS : S ≠ 0) (hm : mag F16.P F16.L S.natAbs (-24) < F16.I) : fnt (fin F16 (decide (S < 0)) S.natAbs (-24)) = true ∧ EX (fin F16 (decide (S < 0)) S.natAbs (-24)) = R S := by
  have hV : S.natAbs ≠ 0 := by omega
  obtain ⟨o1, o2, o3, c, hc, o4, o5⟩ := open_fin isF16 (decide (S < 0)) S.natAbs (-24) hV hm
  refine ⟨(fnt_iff _).2 ⟨o2, o3⟩, ?_⟩
  have hl : low F16.P F16.L S.natAbs (-24) = -24 + (G S : Int) := by
    unfold low G
    rw [show F16.P = 10 from rfl, show F16.L = -24 from rfl]
    omega
  have hk : kv F16.P F16.L S.natAbs (-24) = rne S.natAbs (G S) := by
    unfold kv
    rw [hl]
    by_cases g : G S = 0
    · rw [g, if_pos (by omega), rne_zero]
      simp
    · rw [if_neg (by omega)]
      congr 1
      omega
  have hM : MX (fin F16 (decide (S < 0)) S.natAbs (-24)) = Rn S.natAbs (G S) := by
    unfold MX Rn
    rw [← hk, ← o5, o4, hl, Nat.mul_assoc, ← Nat.pow_add]
    congr 2
    omega
  unfold EX R
  rw [hM, o1]
  by_cases s : S < 0
  · rw [decide_eq_true s, if_pos rfl, if_pos s]
  · rw [decide_eq_false s, if_neg (show ¬ (false = true) by decide), if_neg s]
theorem sg_val (s : Bool) : fnt (sg F16 s) = true ∧ EX (sg F16 s) = 0 := by cases s <;> decide
theorem R_zero : R 0 = 0 := R_rep rep_zero
/-- A finite sum is the rounded one. -/
theorem add_R (a b : Int) (ha : 0 ≤ a) (hb : 0 ≤ b) (fa : fnt a = true) (fb : fnt b = true) (hf : fnt (addF F16 a b) = true) : EX (addF F16 a b) = R (EX a + EX b) := by
  rcases add_val a b ha hb fa fb with ⟨z, s, e⟩ | ⟨z, e⟩
  · rw [e, z, R_zero, (sg_val s).2]
  · rw [e] at hf ⊢
    by_cases c : mag F16.P F16.L (EX a + EX b).natAbs (-24) < F16.I
    · exact (fin_val _ z c).2
    · rw [open_over isF16 _ _ _ (by omega) (by omega)] at hf
      have := (open_inf isF16 (decide (EX a + EX b < 0))).2.1
      have h2 := (fnt_iff _).1 hf
      rw [this] at h2
      exact absurd h2.1 (by decide)
/-- What is not finite stays so. -/
theorem add_fnt (a b : Int) (hf : fnt (addF F16 a b) = true) : fnt a = true ∧ fnt b = true := by
  have key : ∀ x : Int, (x = nan F16 ∨ ∃ s, x = inf F16 s) → fnt x = false := by
    rintro x (rfl | ⟨s, rfl⟩)
    · decide
    · cases s <;> decide
  rw [fnt_iff, fnt_iff]
  have hn : ¬ (addF F16 a b = nan F16 ∨ ∃ s, addF F16 a b = inf F16 s) := fun h => by rw [key _ h] at hf; cases hf
  unfold addF add at hn
  cases i1 : opI F16 a <;> cases n1 : opN F16 a <;> cases i2 : opI F16 b <;> cases n2 : opN F16 b <;> rw [i1, n1, i2, n2] at hn <;> first
    | exact ⟨⟨rfl, rfl⟩, ⟨rfl, rfl⟩⟩
    | exact absurd (Or.inl rfl) hn
    | exact absurd (Or.inr ⟨_, rfl⟩) hn
    | (exfalso; apply hn; cases opS F16 a <;> cases opS F16 b <;> first | exact Or.inl rfl | exact Or.inr ⟨true, rfl⟩ | exact Or.inr ⟨false, rfl⟩)
theorem add_range {F : Fm} (h : IsF F) (a b : Int) : 0 ≤ addF F a b ∧ addF F a b ≤ 4294967295 := by
  have hn : 0 ≤ nan F ∧ nan F ≤ 4294967295 := by rcases h with rfl | rfl <;> decide
  have hi : ∀ s, 0 ≤ inf F s ∧ inf F s ≤ 4294967295 := by intro s; rcases h with rfl | rfl <;> cases s <;> decide
  have ho : ∀ s1 m1 s2 m2 d e2, 0 ≤ sumO F s1 m1 s2 m2 d e2 ∧ sumO F s1 m1 s2 m2 d e2 ≤ 4294967295 := by
    intro s1 m1 s2 m2 d e2
    unfold sumO
    split
    · exact fin_range h _ _ _
    · split
      · exact fin_range h _ _ _
      · split
        · omega
        · exact fin_range h _ _ _
  unfold addF add sumF
  (repeat' split) <;> first | exact hn | exact hi _ | exact ho _ _ _ _ _ _
theorem EX_rep (b : Int) (h0 : 0 ≤ b) : Rep (EX b) := by
  refine ⟨opM F16 b, (opE F16 b + 24).toNat, (opM_lt isF16 b h0).1, ?_⟩
  have e : (EX b).natAbs = MX b := by unfold EX; split <;> omega
  rw [e]
  rfl
theorem flip_val (b : Int) (h0 : 0 ≤ b) (h1 : b ≤ 4294967295) : EX (flip F16 b) = -(EX b) ∧ fnt (flip F16 b) = fnt b := by
  obtain ⟨g1, g2, g3, g4, g5⟩ := flip_op isF16 b h0 h1
  have hM : MX (flip F16 b) = MX b := by unfold MX; rw [g4, g5]
  constructor
  · unfold EX
    rw [g1, hM]
    cases opS F16 b <;> simp
  · unfold fnt
    rw [g2, g3]
end Go.Proofs.Ytdeogandkgiggaa.Fw
