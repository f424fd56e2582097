/- Numbers with a sign: both texts read alike, and read what was written (the second half). -/
import Derived.Test.YtmmlgkepnjelnaaLt
namespace Go.Proofs.Ytmmlgkepnjelnaa.Leb
open Go.RowKit Go.Proofs.Ytmmlgkepnjelnaa.Q Go.Proofs.YtmmlgkepnjelnaaW.PrintWords Go.Proofs.YtmmlgkepnjelnaaW.PrintLast Go.Proofs.YtmmlgkepnjelnaaW.PrintMore Go.Proofs.Ytmmlgkepnjelnaa.Mb
set_option linter.unusedSimpArgs false
set_option linter.unusedVariables false
set_option linter.unusedSectionVars false

section
variable (s : ByteArray) (b mo : Nat) (hs : s.size ≤ 1000000000) (hb0 : 1 ≤ b) (hb : b ≤ 64) (hmo : mo = (b + 6) / 7)
include hs hb0 hb hmo
/-- A byte that says that there is more. -/
theorem impl_more (k i : Nat) (n : Int) (hi : i < mo) (hsz : i < s.size) (hn0 : 0 ≤ n) (hn : n < 128 ^ i) (hbt : 128 ≤ bt s (i : Int)) :
    (i + 1 < mo → impl_TakeSleb.l0 (k + 4) s (b : Int) n (i : Int) = impl_TakeSleb.l0 k s (b : Int) (n + (bt s (i : Int) - 128) * 128 ^ i) ((i + 1 : Nat) : Int)) ∧
    (mo ≤ i + 1 → impl_TakeSleb.l0 (k + 6) s (b : Int) n (i : Int) = some (0, 0)) := by
  have hr := bt_rng s (i : Int)
  have hend : ∀ N : Int, mo ≤ i + 1 → impl_TakeSleb.l0 (k + 2) s (b : Int) N ((i + 1 : Nat) : Int) = some (0, 0) := fun N h => (ends s b mo hs hb0 hb hmo k (i + 1) N (.inl h)).1
  have e1 : Unit → bt s (i : Int) % 128 = bt s (i : Int) - 128 := fun _ => by omega
  have hw1 : Unit → wrap64 (bt s (i : Int) - 128) = bt s (i : Int) - 128 := fun _ => w64 (by omega) (by omega)
  have hw2 : Unit → wrap64 (bt s (i : Int) - 128 - 128) = bt s (i : Int) - 128 - 128 := fun _ => w64 (by omega) (by omega)
  have hw3 : Unit → wrap64 (7 * (i : Int)) = 7 * (i : Int) := fun _ => w64 (by omega) (by omega)
  have hw4 : Unit → wrap64 ((b : Int) - 7 * (i : Int)) = (b : Int) - 7 * (i : Int) := fun _ => w64 (by omega) (by omega)
  have hw5 : Unit → wrap64 ((i : Int) + 1) = ((i + 1 : Nat) : Int) := by intro _; rw [w64 (by omega) (by omega)]; omega
  have hw6 : Unit → wrap64 ((b : Int) - 7 * (i : Int) - 1) = (b : Int) - 7 * (i : Int) - 1 := fun _ => w64 (by omega) (by omega)
  constructor
  · intro h
    have c7 : ¬ (b : Int) - 7 * (i : Int) < 7 := by omega
    simp only [impl_TakeSleb.l0, impl_TakeSleb.j2, impl_TakeSleb.j3, impl_TakeSleb.j4]
    rw [most_ok s b mo hs hb0 hb hmo, if_pos (by omega), decide_eq_true (by omega), if_pos rfl, if_pos (by omega), if_pos (by omega), u8_and127 hr.1 hr.2, e1 (), hw1 (), hw2 (), hw3 (), hw4 (), hw5 ()]
    have cA : (0 : Int) ≤ (i : Int) := by omega
    have cB : (i : Int) < (s.size : Int) := by omega
    have cC : ¬ bt s (i : Int) < 128 := by omega
    have cD : (0 : Int) ≤ 7 * (i : Int) := by omega
    simp only [if_neg c7, if_pos cA, if_pos cB, if_neg cC, if_pos cD, Bool.false_eq_true, if_false, ite_self]
    rw [show (7 * (i : Int)) = ((7 * i : Nat) : Int) by omega, acc_s n _ i hn0 hn (by omega) (by omega) (by omega)]
  · intro h
    rw [show k + 6 = (k + 2) + 4 by omega]
    generalize hk2 : k + 2 = k2 at *
    simp only [impl_TakeSleb.l0, impl_TakeSleb.j2, impl_TakeSleb.j3, impl_TakeSleb.j4]
    rw [most_ok s b mo hs hb0 hb hmo, if_pos (by omega), decide_eq_true (by omega), if_pos rfl, if_pos (by omega), if_pos (by omega), u8_and127 hr.1 hr.2, e1 (), hw1 (), hw2 (), hw3 (), hw4 (), hw5 (), hw6 ()]
    have cA : (0 : Int) ≤ (i : Int) := by omega
    have cB : (i : Int) < (s.size : Int) := by omega
    have cC : ¬ bt s (i : Int) < 128 := by omega
    have cD : (0 : Int) ≤ 7 * (i : Int) := by omega
    by_cases c7 : (b : Int) - 7 * (i : Int) < 7
    · have cE : 0 ≤ (b : Int) - 7 * (i : Int) - 1 := by omega
      simp only [hend _ h, if_pos c7, if_pos cE, if_pos cA, if_pos cB, if_neg cC, if_pos cD, Bool.false_eq_true, if_false, ite_self]
    · simp only [hend _ h, if_neg c7, if_pos cA, if_pos cB, if_neg cC, if_pos cD, Bool.false_eq_true, if_false, ite_self]
theorem spec_more (k i : Nat) (n : Int) (hi : i < mo) (hsz : i < s.size) (hn0 : 0 ≤ n) (hn : n < 128 ^ i) (hbt : 128 ≤ bt s (i : Int)) :
    (i + 1 < mo → spec_l1TakeS.l0 (k + 2) s (b : Int) (mo : Int) n (i : Int) = spec_l1TakeS.l0 k s (b : Int) (mo : Int) (n + (bt s (i : Int) - 128) * 128 ^ i) ((i + 1 : Nat) : Int)) ∧
    (mo ≤ i + 1 → spec_l1TakeS.l0 (k + 4) s (b : Int) (mo : Int) n (i : Int) = some (0, 0)) := by
  have hr := bt_rng s (i : Int)
  have e1 : Unit → bt s (i : Int) % 128 = bt s (i : Int) - 128 := fun _ => by omega
  have hw3 : Unit → wrap64 (7 * (i : Int)) = 7 * (i : Int) := fun _ => w64 (by omega) (by omega)
  have hw5 : Unit → wrap64 ((i : Int) + 1) = ((i + 1 : Nat) : Int) := by intro _; rw [w64 (by omega) (by omega)]; omega
  constructor
  · intro h
    have hp : (128 : Int) ^ i ≤ 128 ^ 8 := pow_le_pow 128 (by decide) (by omega)
    have h8 : (128 : Int) ^ 8 = 72057594037927936 := by decide
    have hp0 : (0 : Int) < 128 ^ i := Int.pow_pos (by decide)
    have hm1 : (bt s (i : Int) - 128) * 128 ^ i ≤ 127 * 128 ^ i := Int.mul_le_mul_of_nonneg_right (by omega) (Int.le_of_lt hp0)
    simp only [spec_l1TakeS.l0, spec_l1TakeS.j1]
    rw [if_pos (by omega), decide_eq_true (by omega), if_pos rfl, if_pos (by omega), if_pos (by omega), if_pos (wrap_u64_range _).1, if_pos (by omega), u8_and127 hr.1 hr.2, e1 (), wu64 (n := bt s (i : Int) - 128) (by omega) (by omega), hw3 (), wu64 (n := 7 * (i : Int)) (by omega) (by omega), hw5 (), show (7 * (i : Int)) = ((7 * i : Nat) : Int) by omega, acc_u n _ i hn0 hn (by omega) (by omega) (by omega) (by omega)]
  · intro h
    rw [show k + 4 = (k + 2) + 2 by omega]
    generalize hk2 : k + 2 = k2 at *
    simp only [spec_l1TakeS.l0, spec_l1TakeS.j1]
    rw [if_pos (by omega), decide_eq_true (by omega), if_pos rfl, if_pos (by omega), if_pos (by omega), if_pos (wrap_u64_range _).1, if_pos (by omega), hw5 ()]
    subst hk2
    exact (ends s b mo hs hb0 hb hmo k (i + 1) _ (.inl h)).2
/-- Both texts read alike. -/
theorem take_same (d : Nat) : ∀ (k i : Nat) (n : Int), 6 * d + 6 ≤ k → i + d = mo → 0 ≤ n → n < 128 ^ i → ∃ x y, impl_TakeSleb.l0 k s (b : Int) n (i : Int) = some (x, y) ∧ spec_l1TakeS.l0 k s (b : Int) (mo : Int) n (i : Int) = some (x, y) ∧ 0 ≤ y ∧ y ≤ (s.size : Int) := by
  induction d with
  | zero =>
    intro k i n hk hi hn0 hn
    obtain ⟨k, rfl⟩ : ∃ j, k = j + 2 := ⟨k - 2, by omega⟩
    have := ends s b mo hs hb0 hb hmo k i n (.inl (by omega))
    exact ⟨0, 0, this.1, this.2, by omega, by omega⟩
  | succ d ih =>
    intro k i n hk hi hn0 hn
    by_cases hsz : i < s.size
    · by_cases hbt : bt s (i : Int) < 128
      · obtain ⟨k, rfl⟩ : ∃ j, k = j + 4 := ⟨k - 4, by omega⟩
        have e1 := impl_last s b mo hs hb0 hb hmo k i n (by omega) hsz hn0 hn hbt
        have e2 := spec_last s b mo hs hb0 hb hmo (k + 1) i n (by omega) hsz hn0 hn hbt
        by_cases hfit : fitS (bt s (i : Int)) ((b : Int) - 7 * (i : Int)) = true
        · rw [if_pos hfit] at e1 e2
          exact ⟨_, _, e1, e2, by omega, by omega⟩
        · rw [if_neg hfit] at e1 e2
          exact ⟨_, _, e1, e2, by omega, by omega⟩
      · have hr := bt_rng s (i : Int)
        by_cases c : i + 1 < mo
        · obtain ⟨k, rfl⟩ : ∃ j, k = j + 4 := ⟨k - 4, by omega⟩
          have e1 := (impl_more s b mo hs hb0 hb hmo k i n (by omega) hsz hn0 hn (by omega)).1 c
          have e2 := (spec_more s b mo hs hb0 hb hmo (k + 2) i n (by omega) hsz hn0 hn (by omega)).1 c
          obtain ⟨hN0, hN⟩ := acc_next n (bt s (i : Int) - 128) i hn0 hn (by omega) (by omega)
          obtain ⟨x, y, f1, f2, f3⟩ := ih k (i + 1) _ (by omega) (by omega) hN0 hN
          refine ⟨x, y, by rw [e1, f1], ?_, f3⟩
          rw [show k + 4 = k + 2 + 2 by omega, e2]
          exact at_rounds (g := fun k => spec_l1TakeS.l0 k s (b : Int) (mo : Int) (n + (bt s (i : Int) - 128) * 128 ^ i) ((i + 1 : Nat) : Int)) (fun k => (spec_l1TakeS.mono_l k).1 _ _ _ _ _) (show k ≤ k + 2 by omega) f2
        · obtain ⟨k, rfl⟩ : ∃ j, k = j + 6 := ⟨k - 6, by omega⟩
          have e1 := (impl_more s b mo hs hb0 hb hmo k i n (by omega) hsz hn0 hn (by omega)).2 (by omega)
          have e2 := (spec_more s b mo hs hb0 hb hmo (k + 2) i n (by omega) hsz hn0 hn (by omega)).2 (by omega)
          exact ⟨0, 0, e1, e2, by omega, by omega⟩
    · obtain ⟨k, rfl⟩ : ∃ j, k = j + 2 := ⟨k - 2, by omega⟩
      have := ends s b mo hs hb0 hb hmo k i n (.inr (by omega))
      exact ⟨0, 0, this.1, this.2, by omega, by omega⟩
end
/-- Both texts read alike, at any text and any number of bits from 1 to 64. -/
theorem takeS_l1 (s : ByteArray) (hs : s.size ≤ 1000000000) (b : Nat) (hb0 : 1 ≤ b) (hb1 : b ≤ 64) : ∃ x y, (∀ k, 100 ≤ k → impl_TakeSleb.f k s (b : Int) = some (x, y) ∧ spec_l1TakeS.f k s (b : Int) = some (x, y)) ∧ 0 ≤ y ∧ y ≤ (s.size : Int) := by
  obtain ⟨K, hK0, hK1⟩ : ∃ K, 70 ≤ K ∧ K ≤ 80 := ⟨75, by omega, by omega⟩
  obtain ⟨mo, hmo⟩ : ∃ mo, mo = (b + 6) / 7 := ⟨_, rfl⟩
  obtain ⟨x, y, e1, e2, e3⟩ := take_same s b mo hs (by omega) (by omega) hmo mo K 0 0 (by omega) (by omega) (by decide) (by decide)
  rw [show ((0 : Nat) : Int) = 0 from rfl] at e1 e2
  refine ⟨x, y, fun k hk => ?_, e3⟩
  obtain ⟨k, rfl⟩ : ∃ j, k = j + 1 := ⟨k - 1, by omega⟩
  constructor
  · unfold impl_TakeSleb.f
    rw [if_neg (by omega), decide_eq_false (by omega)]
    simp only [impl_TakeSleb.j0]
    rw [if_neg (by decide)]
    exact at_rounds (g := fun k => impl_TakeSleb.l0 k s (b : Int) 0 0) (fun k => (impl_TakeSleb.mono_l k).2.1 _ _ _ _) (show K ≤ k by omega) e1
  · unfold spec_l1TakeS.f
    rw [most_ok s b mo hs (by omega) (by omega) hmo]
    exact at_rounds (g := fun k => spec_l1TakeS.l0 k s (b : Int) (mo : Int) 0 0) (fun k => (spec_l1TakeS.mono_l k).1 _ _ _ _ _) (show K ≤ k + 1 by omega) e2
end Go.Proofs.Ytmmlgkepnjelnaa.Leb
