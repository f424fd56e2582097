/- Numbers without sign: both texts read alike, at any text. -/
import Derived.Test.YtmmlgkepnjelnaaLb
import Derived.Test.YtmmlgkepnjelnaaQx3
import Derived.Test.YtmmlgkepnjelnaaQx1
namespace Go.Proofs.Ytmmlgkepnjelnaa.Leb
open Go.RowKit Go.Proofs.Ytmmlgkepnjelnaa.Q Go.Proofs.YtmmlgkepnjelnaaW.PrintWords Go.Proofs.YtmmlgkepnjelnaaW.PrintLast Go.Proofs.YtmmlgkepnjelnaaW.PrintMore Go.Proofs.Ytmmlgkepnjelnaa.Mb
set_option linter.unusedSimpArgs false
set_option linter.unusedVariables false
set_option linter.unusedSectionVars false

section
variable (s : ByteArray) (b mo : Nat) (hs : s.size ≤ 1000000000) (hb0 : 1 ≤ b) (hb : b ≤ 64) (hmo : mo = (b + 6) / 7)
include hs hb0 hb hmo
theorem most_okU : wrap64 (Int.tdiv (wrap64 ((b : Int) + 6)) 7) = (mo : Int) := by
  rw [w64 (n := (b : Int) + 6) (by omega) (by omega), Int.tdiv_eq_ediv_of_nonneg (by omega), w64 (by omega) (by omega)]
  omega
theorem takeU_same (d : Nat) : ∀ (k i : Nat) (n : Int), 3 * d + 3 ≤ k → i + d = mo → ∃ x y, impl_TakeUleb.l0 k s (b : Int) n (i : Int) = some (x, y) ∧ spec_l1TakeU.l0 k s (b : Int) (mo : Int) n (i : Int) = some (x, y) ∧ 0 ≤ x ∧ x ≤ 18446744073709551615 ∧ 0 ≤ y ∧ y ≤ (s.size : Int) := by
  induction d with
  | zero =>
    intro k i n hk hi
    obtain ⟨k, rfl⟩ : ∃ j, k = j + 2 := ⟨k - 2, by omega⟩
    refine ⟨0, 0, ?_, ?_, by omega, by omega, by omega, by omega⟩
    · simp only [impl_TakeUleb.l0, impl_TakeUleb.j2]
      rw [most_okU s b mo hs hb0 hb hmo]
      by_cases c : (i : Int) < (s.size : Int)
      · rw [if_pos c, decide_eq_false (by omega), if_neg (by decide)]
      · rw [if_neg c, if_neg (by decide)]
    · simp only [spec_l1TakeU.l0, spec_l1TakeU.j1]
      rw [if_neg (by omega), if_neg (by decide)]
  | succ d ih =>
    intro k i n hk hi
    have cm : (i : Int) < (mo : Int) := by omega
    have w3 : Unit → wrap64 (7 * (i : Int)) = 7 * (i : Int) := fun _ => w64 (by omega) (by omega)
    have w4 : Unit → wrap64 ((b : Int) - 7 * (i : Int)) = (b : Int) - 7 * (i : Int) := fun _ => w64 (by omega) (by omega)
    have w5 : Unit → wrap64 ((i : Int) + 1) = ((i + 1 : Nat) : Int) := by intro _; rw [w64 (by omega) (by omega)]; omega
    have w6 : Unit → IntKind.u64.wrap (7 * (i : Int)) = 7 * (i : Int) := fun _ => wu64 (by omega) (by omega)
    have w7 : Unit → IntKind.u64.wrap ((b : Int) - 7 * (i : Int)) = (b : Int) - 7 * (i : Int) := fun _ => wu64 (by omega) (by omega)
    by_cases c : (i : Int) < (s.size : Int)
    · obtain ⟨k, rfl⟩ : ∃ j, k = j + 3 := ⟨k - 3, by omega⟩
      simp only [impl_TakeUleb.l0, impl_TakeUleb.j2, impl_TakeUleb.j3, spec_l1TakeU.l0, spec_l1TakeU.j1, spec_l1TakeU.j2]
      have cA : (0 : Int) ≤ (i : Int) := by omega
      have cD : (0 : Int) ≤ 7 * (i : Int) := by omega
      have cE : (0 : Int) ≤ (b : Int) - 7 * (i : Int) := by omega
      have m1 : decide ((i : Int) < (mo : Int)) = true := decide_eq_true cm
      have m2 : decide ((i : Int) < (s.size : Int)) = true := decide_eq_true c
      rw [most_okU s b mo hs hb0 hb hmo, w3 (), w4 (), w5 (), w6 (), w7 (), m1, m2]
      generalize IntKind.u64.wrap (Go.bits .and .u8 (bt s (i : Int)) 127) = low
      have hr := bits_range_u64 .or n (shl .u64 low (7 * (i : Int)))
      have fin : ∃ x y, (if bt s (i : Int) < 128 then some (Go.bits .or .u64 n (shl .u64 low (7 * (i : Int))), ((i + 1 : Nat) : Int)) else impl_TakeUleb.l0 k s (b : Int) (Go.bits .or .u64 n (shl .u64 low (7 * (i : Int)))) ((i + 1 : Nat) : Int)) = some (x, y) ∧ (if bt s (i : Int) < 128 then some (Go.bits .or .u64 n (shl .u64 low (7 * (i : Int))), ((i + 1 : Nat) : Int)) else spec_l1TakeU.l0 k s (b : Int) (mo : Int) (Go.bits .or .u64 n (shl .u64 low (7 * (i : Int)))) ((i + 1 : Nat) : Int)) = some (x, y) ∧ 0 ≤ x ∧ x ≤ 18446744073709551615 ∧ 0 ≤ y ∧ y ≤ (s.size : Int) := by
        by_cases hbt : bt s (i : Int) < 128
        · rw [if_pos hbt, if_pos hbt]
          exact ⟨_, _, rfl, rfl, hr.1, hr.2, by omega, by omega⟩
        · rw [if_neg hbt, if_neg hbt]
          exact ih k (i + 1) _ (by omega) (by omega)
      by_cases c7 : (b : Int) - 7 * (i : Int) < 7
      · by_cases z : shr .u64 low ((b : Int) - 7 * (i : Int)) = 0
        · have zb : (shr .u64 low ((b : Int) - 7 * (i : Int)) != 0) = false := by rw [z]; rfl
          simp only [if_pos c, if_pos cm, if_pos cA, if_pos cD, if_pos cE, if_pos c7, zb, if_true, Bool.false_eq_true, if_false]
          exact fin
        · have zb : (shr .u64 low ((b : Int) - 7 * (i : Int)) != 0) = true := bne_iff_ne.2 z
          simp only [if_pos c, if_pos cm, if_pos cA, if_pos cD, if_pos cE, if_pos c7, zb, if_true]
          exact ⟨0, 0, rfl, rfl, by omega, by omega, by omega, by omega⟩
      · simp only [if_pos c, if_pos cm, if_pos cA, if_pos cD, if_pos cE, if_neg c7, if_true, Bool.false_eq_true, if_false]
        exact fin
    · obtain ⟨k, rfl⟩ : ∃ j, k = j + 2 := ⟨k - 2, by omega⟩
      refine ⟨0, 0, ?_, ?_, by omega, by omega, by omega, by omega⟩
      · simp only [impl_TakeUleb.l0, impl_TakeUleb.j2]
        rw [if_neg c, if_neg (by decide)]
      · simp only [spec_l1TakeU.l0, spec_l1TakeU.j1]
        rw [if_pos cm, decide_eq_false c, if_neg (by decide)]
end
/-- Both texts read alike, at any text and any number of bits from 1 to 64. -/
theorem takeU_l1 (s : ByteArray) (hs : s.size ≤ 1000000000) (b : Nat) (hb0 : 1 ≤ b) (hb1 : b ≤ 64) : ∃ x y, (∀ k, 100 ≤ k → impl_TakeUleb.f k s (b : Int) = some (x, y) ∧ spec_l1TakeU.f k s (b : Int) = some (x, y)) ∧ 0 ≤ x ∧ x ≤ 18446744073709551615 ∧ 0 ≤ y ∧ y ≤ (s.size : Int) := by
  obtain ⟨K, hK0, hK1⟩ : ∃ K, 70 ≤ K ∧ K ≤ 80 := ⟨75, by omega, by omega⟩
  obtain ⟨mo, hmo⟩ : ∃ mo, mo = (b + 6) / 7 := ⟨_, rfl⟩
  obtain ⟨x, y, e1, e2, hr⟩ := takeU_same s b mo hs hb0 hb1 hmo mo K 0 0 (by omega) (by omega)
  rw [show ((0 : Nat) : Int) = 0 from rfl] at e1 e2
  refine ⟨x, y, fun k hk => ?_, hr⟩
  obtain ⟨k, rfl⟩ : ∃ j, k = j + 1 := ⟨k - 1, by omega⟩
  constructor
  · unfold impl_TakeUleb.f
    rw [if_neg (by omega), decide_eq_false (by omega)]
    simp only [impl_TakeUleb.j0]
    rw [if_neg (by decide)]
    exact at_rounds (g := fun k => impl_TakeUleb.l0 k s (b : Int) 0 0) (fun k => (impl_TakeUleb.mono_l k).2.1 _ _ _ _) (show K ≤ k by omega) e1
  · unfold spec_l1TakeU.f
    rw [most_okU s b mo hs hb0 hb1 hmo]
    exact at_rounds (g := fun k => spec_l1TakeU.l0 k s (b : Int) (mo : Int) 0 0) (fun k => (spec_l1TakeU.mono_l k).1 _ _ _ _ _) (show K ≤ k + 1 by omega) e2
end Go.Proofs.Ytmmlgkepnjelnaa.Leb
