/- Products of two words in two words, and their division (by Knuth's way, digit by digit). -/
import Derived.Test.YtdjpbhmkcamkpaaMb
import Derived.Lib.BitFns
import Derived.Test.YtdjpbhmkcamkpaaQx4
namespace Go.Proofs.Ytdjpbhmkcamkpaa.Dv
open Go.RowKit Go.Proofs.Ytdjpbhmkcamkpaa.Q Go.Proofs.YtdjpbhmkcamkpaaW.PrintWords Go.Proofs.YtdjpbhmkcamkpaaW.PrintLast Go.Proofs.YtdjpbhmkcamkpaaW.PrintMore Go.Proofs.Ytdjpbhmkcamkpaa.Mb
set_option linter.unusedSimpArgs false
set_option linter.unusedVariables false
set_option linter.unusedSectionVars false

/-! products -/
theorem mul_small {x y : Int} (hx0 : 0 ≤ x) (hx : x < 4294967296) (hy0 : 0 ≤ y) (hy : y < 4294967296) : 0 ≤ x * y ∧ x * y ≤ 18446744065119617025 := by
  refine ⟨Int.mul_nonneg hx0 hy0, ?_⟩
  have := Int.mul_le_mul (a := x) (b := y) (c := 4294967295) (d := 4294967295) (by omega) (by omega) hy0 (by omega)
  omega
theorem mul_parts (a b : Int) : a * b = (a / 4294967296 * (b / 4294967296)) * 18446744073709551616 + (a / 4294967296 * (b % 4294967296) + a % 4294967296 * (b / 4294967296)) * 4294967296 + a % 4294967296 * (b % 4294967296) := by
  have ha : a = a / 4294967296 * 4294967296 + a % 4294967296 := by omega
  have hb : b = b / 4294967296 * 4294967296 + b % 4294967296 := by omega
  generalize a / 4294967296 = x1 at *
  generalize a % 4294967296 = x0 at *
  generalize b / 4294967296 = y1 at *
  generalize b % 4294967296 = y0 at *
  subst ha hb
  grind
theorem impl_mul {a b : Int} (ha0 : 0 ≤ a) (ha : a ≤ 18446744073709551615) (hb0 : 0 ≤ b) (hb : b ≤ 18446744073709551615) : impl_Mul128.f a b = some (a * b / 18446744073709551616, a * b % 18446744073709551616) := by
  unfold impl_Mul128.f bits_Mul64.f
  simp only [Option.bind_some, u64_and32 ha0 ha, u64_and32 hb0 hb]
  have h := mul_parts a b
  have p00 := mul_small (x := a % 4294967296) (y := b % 4294967296) (by omega) (by omega) (by omega) (by omega)
  have p01 := mul_small (x := a % 4294967296) (y := b / 4294967296) (by omega) (by omega) (by omega) (by omega)
  have p10 := mul_small (x := a / 4294967296) (y := b % 4294967296) (by omega) (by omega) (by omega) (by omega)
  have p11 := mul_small (x := a / 4294967296) (y := b / 4294967296) (by omega) (by omega) (by omega) (by omega)
  have hh := h
  rw [h]
  clear h hh
  generalize a % 4294967296 * (b % 4294967296) = P00 at *
  generalize a % 4294967296 * (b / 4294967296) = P01 at *
  generalize a / 4294967296 * (b % 4294967296) = P10 at *
  generalize a / 4294967296 * (b / 4294967296) = P11 at *
  rw [u64_and32 (wrap_u64_range _).1 (wrap_u64_range _).2]
  simp only [wrap_u64]
  congr 2
  omega
theorem spec_mul {a b : Int} (ha0 : 0 ≤ a) (ha : a ≤ 18446744073709551615) (hb0 : 0 ≤ b) (hb : b ≤ 18446744073709551615) : spec_Mul128.f a b = some (a * b / 18446744073709551616, a * b % 18446744073709551616) := by
  unfold spec_Mul128.f spec_l3Mul.f
  simp only [Option.bind_some, u64_and32 ha0 ha, u64_and32 hb0 hb]
  have h := mul_parts a b
  have p00 := mul_small (x := a % 4294967296) (y := b % 4294967296) (by omega) (by omega) (by omega) (by omega)
  have p01 := mul_small (x := a % 4294967296) (y := b / 4294967296) (by omega) (by omega) (by omega) (by omega)
  have p10 := mul_small (x := a / 4294967296) (y := b % 4294967296) (by omega) (by omega) (by omega) (by omega)
  have p11 := mul_small (x := a / 4294967296) (y := b / 4294967296) (by omega) (by omega) (by omega) (by omega)
  rw [h]
  clear h
  generalize a % 4294967296 * (b % 4294967296) = P00 at *
  generalize a % 4294967296 * (b / 4294967296) = P01 at *
  generalize a / 4294967296 * (b % 4294967296) = P10 at *
  generalize a / 4294967296 * (b / 4294967296) = P11 at *
  rw [u64_and32 (wrap_u64_range _).1 (wrap_u64_range _).2, u64_and32 (wrap_u64_range _).1 (wrap_u64_range _).2]
  simp only [wrap_u64]
  rw [Mb.u64_join 32 _ _ (by omega) (by omega) (by omega) (by omega) (by omega) (by omega)]
  congr 1
  refine Prod.ext ?_ ?_
  · simp only; omega
  · simp only; omega

/-! a quotient's digit -/
/-- What a digit's test asks: is q times y beyond u 2^32 + w? -/
theorem digit_prod {y q yn1 yn0 : Int} (hy : y = yn1 * 4294967296 + yn0) : q * y = q * yn1 * 4294967296 + q * yn0 := by
  rw [hy, Int.mul_add, Int.mul_assoc]
theorem quot_unique {N y Q : Int} (hy : 0 < y) (h0 : Q * y ≤ N) (h1 : N < Q * y + y) : N / y = Q := by
  have e : N = (N - Q * y) + Q * y := by omega
  rw [e, Int.add_mul_ediv_right _ _ (by omega), Int.ediv_eq_zero_of_lt (by omega) (by omega)]
  omega
theorem quot_facts {N y : Int} (hy : 0 < y) : N / y * y ≤ N ∧ N < N / y * y + y := by
  have h1 := Int.ediv_mul_le N (show y ≠ 0 by omega)
  have h2 := Int.lt_ediv_add_one_mul_self N hy
  rw [Int.add_mul, Int.one_mul] at h2
  exact ⟨h1, h2⟩
theorem lt_of_mul {p q y : Int} (hy : 0 < y) (h : p * y < q * y) : p < q := Int.lt_of_mul_lt_mul_right h (by omega)
theorem le_of_mul {p q y : Int} (hy : 0 < y) (h : p * y ≤ q * y) : p ≤ q := Int.le_of_mul_le_mul_right h hy
/-- The quotient is a digit. -/
theorem digit_lt {y u w : Int} (hy : 0 < y) (hu : u < y) (hw : w < 4294967296) : (u * 4294967296 + w) / y < 4294967296 := by
  have h := quot_facts (N := u * 4294967296 + w) hy
  refine lt_of_mul hy ?_
  omega
theorem digit_nonneg {y u w : Int} (hy : 0 < y) (hu0 : 0 ≤ u) (hw0 : 0 ≤ w) : 0 ≤ (u * 4294967296 + w) / y := Int.ediv_nonneg (by omega) (by omega)
/-- The first guess is not below. -/
theorem digit_guess {y yn1 yn0 u w : Int} (hy : y = yn1 * 4294967296 + yn0) (h1 : 0 < yn1) (h00 : 0 ≤ yn0) (hu0 : 0 ≤ u) (hw : w < 4294967296) (hw0 : 0 ≤ w) : (u * 4294967296 + w) / y ≤ u / yn1 := by
  have hp : 0 < y := by omega
  have h := quot_facts (N := u * 4294967296 + w) hp
  have hn := digit_nonneg hp hu0 hw0
  generalize hQ : (u * 4294967296 + w) / y = Q at *
  have e := digit_prod (q := Q) hy
  have h0 : 0 ≤ Q * yn0 := Int.mul_nonneg hn h00
  have : Q * yn1 ≤ u := by omega
  exact (Int.le_ediv_iff_mul_le h1).2 this
section
variable {y yn1 yn0 u w : Int} (hy : y = yn1 * 4294967296 + yn0) (h1 : 0 < yn1) (h1b : yn1 < 4294967296) (h00 : 0 ≤ yn0) (h0b : yn0 < 4294967296) (hu0 : 0 ≤ u) (huy : u < y) (hw0 : 0 ≤ w) (hwb : w < 4294967296)
include hy h1 h1b h00 h0b hu0 huy hw0 hwb
/-- One step of the correction: what the test says, and what is left behind it. -/
theorem digit_step {q rh : Int} (hq : (u * 4294967296 + w) / y ≤ q) (hr : rh = u - q * yn1) (hr0 : 0 ≤ rh) (hrb : rh < 4294967296) :
    (q < 4294967296 → (q * yn0 > 4294967296 * rh + w ↔ (u * 4294967296 + w) / y < q)) ∧ (4294967296 ≤ q → (u * 4294967296 + w) / y < q) ∧
    ((u * 4294967296 + w) / y < q → 4294967296 ≤ rh + yn1 → q - 1 = (u * 4294967296 + w) / y) ∧ 0 ≤ q ∧ (q < 4294967296 → 0 ≤ q * yn0 ∧ q * yn0 ≤ 18446744065119617025) ∧ rh + yn1 = u - (q - 1) * yn1 := by
  have hp : 0 < y := by omega
  have hN := quot_facts (N := u * 4294967296 + w) hp
  have hn := digit_nonneg hp hu0 hw0
  have hl := digit_lt (w := w) hp huy hwb
  generalize hQ : (u * 4294967296 + w) / y = Q at *
  have e := digit_prod (q := q) hy
  refine ⟨fun hqb => ⟨fun h => ?_, fun h => ?_⟩, fun h => by omega, fun hlt hbig => ?_, by omega, fun hqb => mul_small (by omega) hqb h00 h0b, ?_⟩
  · refine lt_of_mul hp ?_
    omega
  · have h2 : (Q + 1) * y ≤ q * y := Int.mul_le_mul_of_nonneg_right (by omega) (by omega)
    rw [Int.add_mul, Int.one_mul] at h2
    omega
  · have e1 := digit_prod (q := q - 1) hy
    have e2 : (q - 1) * yn1 = q * yn1 - yn1 := by rw [Int.sub_mul, Int.one_mul]
    have hqb : q - 1 < 4294967296 := by
      refine lt_of_mul h1 ?_
      rw [e2, Int.mul_comm 4294967296 yn1]
      omega
    have h3 := mul_small (x := q - 1) (y := yn0) (by omega) hqb h00 h0b
    have h4 : (q - 1) * y ≤ u * 4294967296 + w := by
      rw [e1, e2]
      omega
    have h5 : q - 1 ≤ Q := by rw [← hQ]; exact (Int.le_ediv_iff_mul_le hp).2 h4
    omega
  · rw [Int.sub_mul, Int.one_mul]; omega
end
/-- The second digit. -/
theorem second {y yn1 yn0 u w : Int} (hy : y = yn1 * 4294967296 + yn0) (h1 : 0 < yn1) (h1b : yn1 < 4294967296) (h00 : 0 ≤ yn0) (h0b : yn0 < 4294967296) (hu0 : 0 ≤ u) (huy : u < y) (hw0 : 0 ≤ w) (hwb : w < 4294967296)
    (s q1 : Int) (hs : 0 ≤ s) (d : Nat) : ∀ (k : Nat) (q rh : Int), 2 * d + 2 ≤ k → q = (u * 4294967296 + w) / y + d → rh = u - q * yn1 → 0 ≤ rh → rh < 4294967296 → q < 18446744073709551616 →
    bits_Div64.l1 k y s yn1 yn0 w q1 rh u q = some (IntKind.u64.wrap ((IntKind.u64.wrap (q1 * 4294967296)) + (u * 4294967296 + w) / y), shr .u64 (IntKind.u64.wrap ((IntKind.u64.wrap ((IntKind.u64.wrap (u * 4294967296)) + w)) - (IntKind.u64.wrap ((u * 4294967296 + w) / y * y)))) s) := by
  induction d with
  | zero =>
    intro k q rh hk hq hr hr0 hrb hqW
    obtain ⟨k, rfl⟩ : ∃ j, k = j + 2 := ⟨k - 2, by omega⟩
    obtain ⟨t1, t2, t3, t4, t5, t6⟩ := digit_step hy h1 h1b h00 h0b hu0 huy hw0 hwb (q := q) (rh := rh) (by omega) hr hr0 hrb
    have hlt : ¬ (u * 4294967296 + w) / y < q := by omega
    have hqb : q < 4294967296 := by
      by_cases c : 4294967296 ≤ q
      · exact absurd (t2 c) hlt
      · omega
    have e0 : q = (u * 4294967296 + w) / y := by omega
    simp only [bits_Div64.l1]
    rw [if_neg (by omega), wu64 (n := q * yn0) (by have := t5 hqb; omega) (by have := t5 hqb; omega), wu64 (n := 4294967296 * rh) (by omega) (by omega), wu64 (n := 4294967296 * rh + w) (by omega) (by omega), decide_eq_false (fun h => hlt ((t1 hqb).1 h))]
    simp only [bits_Div64.j4]
    rw [if_neg (by decide), if_pos hs, e0]
  | succ d ih =>
    intro k q rh hk hq hr hr0 hrb hqW
    obtain ⟨k, rfl⟩ : ∃ j, k = j + 2 := ⟨k - 2, by omega⟩
    obtain ⟨t1, t2, t3, t4, t5, t6⟩ := digit_step hy h1 h1b h00 h0b hu0 huy hw0 hwb (q := q) (rh := rh) (by omega) hr hr0 hrb
    have hlt : (u * 4294967296 + w) / y < q := by omega
    have hn := digit_nonneg (y := y) (by omega) hu0 hw0
    have key : bits_Div64.j4 (k + 1) y s yn1 yn0 w q1 rh u q true = some (IntKind.u64.wrap ((IntKind.u64.wrap (q1 * 4294967296)) + (u * 4294967296 + w) / y), shr .u64 (IntKind.u64.wrap ((IntKind.u64.wrap ((IntKind.u64.wrap (u * 4294967296)) + w)) - (IntKind.u64.wrap ((u * 4294967296 + w) / y * y)))) s) := by
      simp only [bits_Div64.j4]
      rw [if_pos trivial, wu64 (n := rh + yn1) (by omega) (by omega), wu64 (n := q - 1) (by omega) (by omega)]
      by_cases c : rh + yn1 ≥ 4294967296
      · rw [if_pos c, if_pos hs, t3 hlt c]
      · rw [if_neg c]
        exact ih k (q - 1) (rh + yn1) (by omega) (by omega) t6 (by omega) (by omega) (by omega)
    simp only [bits_Div64.l1]
    by_cases c : q ≥ 4294967296
    · rw [if_pos c]; exact key
    · have hqb : q < 4294967296 := by omega
      rw [if_neg c, wu64 (n := q * yn0) (by have := t5 hqb; omega) (by have := t5 hqb; omega), wu64 (n := 4294967296 * rh) (by omega) (by omega), wu64 (n := 4294967296 * rh + w) (by omega) (by omega), decide_eq_true ((t1 hqb).2 hlt)]
      exact key
/-- The first digit: it goes on with the next. -/
theorem first {y yn1 yn0 u w : Int} (hy : y = yn1 * 4294967296 + yn0) (h1 : 0 < yn1) (h1b : yn1 < 4294967296) (h00 : 0 ≤ yn0) (h0b : yn0 < 4294967296) (hu0 : 0 ≤ u) (huy : u < y) (hw0 : 0 ≤ w) (hwb : w < 4294967296)
    (s w0 : Int) (R : Int × Int) (K : Nat) (hj : ∀ k, K ≤ k → bits_Div64.j2 k y s yn1 yn0 u w w0 ((u * 4294967296 + w) / y) = some R) (d : Nat) : ∀ (k : Nat) (q rh : Int), 2 * d + 2 + K ≤ k → q = (u * 4294967296 + w) / y + d → rh = u - q * yn1 → 0 ≤ rh → rh < 4294967296 → q < 18446744073709551616 →
    bits_Div64.l0 k y s yn1 yn0 u w w0 q rh = some R := by
  induction d with
  | zero =>
    intro k q rh hk hq hr hr0 hrb hqW
    obtain ⟨k, rfl⟩ : ∃ j, k = j + 2 := ⟨k - 2, by omega⟩
    obtain ⟨t1, t2, t3, t4, t5, t6⟩ := digit_step hy h1 h1b h00 h0b hu0 huy hw0 hwb (q := q) (rh := rh) (by omega) hr hr0 hrb
    have hlt : ¬ (u * 4294967296 + w) / y < q := by omega
    have hqb : q < 4294967296 := by
      by_cases c : 4294967296 ≤ q
      · exact absurd (t2 c) hlt
      · omega
    have e0 : q = (u * 4294967296 + w) / y := by omega
    simp only [bits_Div64.l0]
    rw [if_neg (by omega), wu64 (n := q * yn0) (by have := t5 hqb; omega) (by have := t5 hqb; omega), wu64 (n := 4294967296 * rh) (by omega) (by omega), wu64 (n := 4294967296 * rh + w) (by omega) (by omega), decide_eq_false (fun h => hlt ((t1 hqb).1 h))]
    simp only [bits_Div64.j1]
    rw [if_neg (by decide), e0]
    exact hj k (by omega)
  | succ d ih =>
    intro k q rh hk hq hr hr0 hrb hqW
    obtain ⟨k, rfl⟩ : ∃ j, k = j + 2 := ⟨k - 2, by omega⟩
    obtain ⟨t1, t2, t3, t4, t5, t6⟩ := digit_step hy h1 h1b h00 h0b hu0 huy hw0 hwb (q := q) (rh := rh) (by omega) hr hr0 hrb
    have hlt : (u * 4294967296 + w) / y < q := by omega
    have hn := digit_nonneg (y := y) (by omega) hu0 hw0
    have key : bits_Div64.j1 (k + 1) y s yn1 yn0 u w w0 q rh true = some R := by
      simp only [bits_Div64.j1]
      rw [if_pos trivial, wu64 (n := rh + yn1) (by omega) (by omega), wu64 (n := q - 1) (by omega) (by omega)]
      by_cases c : rh + yn1 ≥ 4294967296
      · rw [if_pos c, t3 hlt c]
        exact hj k (by omega)
      · rw [if_neg c]
        exact ih k (q - 1) (rh + yn1) (by omega) (by omega) t6 (by omega) (by omega) (by omega)
    simp only [bits_Div64.l0]
    by_cases c : q ≥ 4294967296
    · rw [if_pos c]; exact key
    · have hqb : q < 4294967296 := by omega
      rw [if_neg c, wu64 (n := q * yn0) (by have := t5 hqb; omega) (by have := t5 hqb; omega), wu64 (n := 4294967296 * rh) (by omega) (by omega), wu64 (n := 4294967296 * rh + w) (by omega) (by omega), decide_eq_true ((t1 hqb).2 hlt)]
      exact key
/-- A guess and what is left of it. -/
theorem guess {y yn1 yn0 u w : Int} (hy : y = yn1 * 4294967296 + yn0) (h1 : 0 < yn1) (h1b : yn1 < 4294967296) (h00 : 0 ≤ yn0) (h0b : yn0 < 4294967296) (hu0 : 0 ≤ u) (huy : u < y) (hw0 : 0 ≤ w) (hwb : w < 4294967296) :
    ∃ d : Nat, u / yn1 = (u * 4294967296 + w) / y + d ∧ 0 ≤ u - u / yn1 * yn1 ∧ u - u / yn1 * yn1 < 4294967296 ∧ IntKind.u64.wrap (Int.tdiv u yn1) = u / yn1 ∧ IntKind.u64.wrap (u - IntKind.u64.wrap (u / yn1 * yn1)) = u - u / yn1 * yn1 ∧ u / yn1 < 18446744073709551616 := by
  have hg := digit_guess hy h1 h00 hu0 hwb hw0
  have hq := quot_facts (N := u) h1
  have h2 : u / yn1 ≤ u := Int.ediv_le_self _ hu0
  have h3 : 0 ≤ u / yn1 := Int.ediv_nonneg hu0 (by omega)
  have h4 : 0 ≤ u / yn1 * yn1 := Int.mul_nonneg h3 (by omega)
  refine ⟨(u / yn1 - (u * 4294967296 + w) / y).toNat, by omega, by omega, by omega, ?_, ?_, by omega⟩
  · rw [Int.tdiv_eq_ediv_of_nonneg hu0]; exact wu64 (by omega) (by omega)
  · rw [wu64 (n := u / yn1 * yn1) (by omega) (by omega)]; exact wu64 (by omega) (by omega)
theorem left_of {y u w : Int} (hy : 0 < y) (hyW : y ≤ 18446744073709551616) (hu0 : 0 ≤ u) (hw0 : 0 ≤ w) : IntKind.u64.wrap ((IntKind.u64.wrap ((IntKind.u64.wrap (u * 4294967296)) + w)) - (IntKind.u64.wrap ((u * 4294967296 + w) / y * y))) = u * 4294967296 + w - (u * 4294967296 + w) / y * y := by
  have h := quot_facts (N := u * 4294967296 + w) hy
  generalize (u * 4294967296 + w) / y * y = P at *
  simp only [wrap_u64]
  omega
/-- Both digits. -/
theorem both {y yn1 yn0 u w1 w0 : Int} (hy : y = yn1 * 4294967296 + yn0) (h1 : 0 < yn1) (h1b : yn1 < 4294967296) (h00 : 0 ≤ yn0) (h0b : yn0 < 4294967296) (hu0 : 0 ≤ u) (huy : u < y) (hw0 : 0 ≤ w1) (hwb : w1 < 4294967296) (hv0 : 0 ≤ w0) (hvb : w0 < 4294967296) (s : Int) (hs : 0 ≤ s) :
    ∃ (K : Nat) (q r : Int), (∀ k, K ≤ k → bits_Div64.l0 k y s yn1 yn0 u w1 w0 (IntKind.u64.wrap (Int.tdiv u yn1)) (IntKind.u64.wrap (u - IntKind.u64.wrap (IntKind.u64.wrap (Int.tdiv u yn1) * yn1))) = some (q, shr .u64 r s)) ∧ q * y + r = (u * 4294967296 + w1) * 4294967296 + w0 ∧ 0 ≤ r ∧ r < y ∧ 0 ≤ q ∧ q ≤ 18446744073709551615 := by
  have hp : 0 < y := by omega
  have hN1 := quot_facts (N := u * 4294967296 + w1) hp
  have hQ1 := digit_lt (w := w1) hp huy hwb
  have hQ0 := digit_nonneg (y := y) hp hu0 hw0
  have hl := left_of (y := y) hp (by omega) hu0 hw0
  obtain ⟨d1, g1, g2, g3, g4, g5, g6⟩ := guess hy h1 h1b h00 h0b hu0 huy hw0 hwb
  generalize hu2 : u * 4294967296 + w1 - (u * 4294967296 + w1) / y * y = u2 at *
  obtain ⟨d2, f1, f2, f3, f4, f5, f6⟩ := guess hy h1 h1b h00 h0b (u := u2) (w := w0) (by omega) (by omega) hv0 hvb
  have hN2 := quot_facts (N := u2 * 4294967296 + w0) hp
  have hR1 := digit_lt (u := u2) (w := w0) hp (by omega) hvb
  have hR0 := digit_nonneg (y := y) (u := u2) hp (by omega) hv0
  have hl2 := left_of (y := y) (u := u2) (w := w0) hp (by omega) (by omega) hv0
  refine ⟨2 * d1 + 2 + (2 * d2 + 3), (u * 4294967296 + w1) / y * 4294967296 + (u2 * 4294967296 + w0) / y, u2 * 4294967296 + w0 - (u2 * 4294967296 + w0) / y * y, ?_, ?_, by omega, by omega, by omega, by omega⟩
  · intro k hk
    rw [g4, g5]
    refine first hy h1 h1b h00 h0b hu0 huy hw0 hwb s w0 _ (2 * d2 + 3) ?_ d1 k _ _ hk g1 rfl g2 g3 g6
    intro k hk
    obtain ⟨k, rfl⟩ : ∃ j, k = j + 1 := ⟨k - 1, by omega⟩
    simp only [bits_Div64.j2]
    rw [if_neg (by omega), hl, f4, f5, second hy h1 h1b h00 h0b (by omega) (by omega) hv0 hvb s _ hs d2 k _ _ (by omega) f1 rfl f2 f3 f6, hl2, wu64 (n := (u * 4294967296 + w1) / y * 4294967296) (by omega) (by omega), wu64 (by omega) (by omega)]
  · have e1 : (u * 4294967296 + w1) / y * y = u * 4294967296 + w1 - u2 := by omega
    have e2 : (u * 4294967296 + w1) / y * 4294967296 * y = ((u * 4294967296 + w1) / y * y) * 4294967296 := by grind
    rw [Int.add_mul, e2, e1]
    omega

/-! how far a number is shifted -/
theorem len_aux (f : Nat) : ∀ x : Nat, x < 2 ^ f → x ≠ 0 → 1 ≤ Lib.bitLenAux f x ∧ Lib.bitLenAux f x ≤ f ∧ 2 ^ (Lib.bitLenAux f x - 1) ≤ x ∧ x < 2 ^ Lib.bitLenAux f x := by
  induction f with
  | zero => intro x hx h0; simp at hx; exact absurd hx h0
  | succ f ih =>
    intro x hx h0
    unfold Lib.bitLenAux
    rw [if_neg h0]
    rw [Nat.pow_succ] at hx
    by_cases c : x / 2 = 0
    · have : x = 1 := by omega
      subst this
      have : Lib.bitLenAux f (1 / 2) = 0 := by cases f <;> simp [Lib.bitLenAux]
      rw [this]
      simp
    · obtain ⟨a, b, c1, c2⟩ := ih (x / 2) (by omega) c
      generalize Lib.bitLenAux f (x / 2) = L at *
      obtain ⟨L, rfl⟩ : ∃ j, L = j + 1 := ⟨L - 1, by omega⟩
      rw [Nat.add_sub_cancel] at c1
      refine ⟨by omega, by omega, ?_, ?_⟩
      · rw [show 1 + (L + 1) - 1 = L + 1 by omega, Nat.pow_succ]; omega
      · rw [show 1 + (L + 1) = (L + 1) + 1 by omega, Nat.pow_succ]; omega
theorem len_ok (x : Nat) (hx : x < 18446744073709551616) (h0 : x ≠ 0) : 1 ≤ Lib.bitLen x ∧ Lib.bitLen x ≤ 64 ∧ 2 ^ (Lib.bitLen x - 1) ≤ x ∧ x < 2 ^ Lib.bitLen x := len_aux 64 x hx h0
theorem pow_split {s : Nat} (hs : s ≤ 64) : (18446744073709551616 : Nat) = 2 ^ (64 - s) * 2 ^ s := by
  rw [← Nat.pow_add, show 64 - s + s = 64 by omega]
/-- A number of two words, shifted: its upper word, and the lower one. -/
theorem shifted (hi lo : Nat) (s : Nat) (hs : s ≤ 64) (hlo : lo < 18446744073709551616) (hhi : hi * 2 ^ s < 18446744073709551616) :
    Go.bits .or .u64 (shl .u64 (hi : Int) (s : Int)) (shr .u64 (lo : Int) ((64 - s : Nat) : Int)) = ((hi * 2 ^ s + lo / 2 ^ (64 - s) : Nat) : Int) ∧ shl .u64 (lo : Int) (s : Int) = ((lo * 2 ^ s % 18446744073709551616 : Nat) : Int) ∧
    (hi * 2 ^ s + lo / 2 ^ (64 - s)) * 18446744073709551616 + lo * 2 ^ s % 18446744073709551616 = (hi * 18446744073709551616 + lo) * 2 ^ s := by
  have hW := pow_split hs
  have hp := Nat.two_pow_pos s
  have hp2 := Nat.two_pow_pos (64 - s)
  have hd : lo / 2 ^ (64 - s) < 2 ^ s := by
    rw [Nat.div_lt_iff_lt_mul hp2, Nat.mul_comm, ← hW]; exact hlo
  refine ⟨?_, ?_, ?_⟩
  · rw [shl_nat _ _ hs hhi, shr_nat _ _ (by omega)]
    have hsum : hi * 2 ^ s + lo / 2 ^ (64 - s) < 18446744073709551616 := by
      have : (hi + 1) * 2 ^ s ≤ 2 ^ (64 - s) * 2 ^ s := by
        refine Nat.mul_le_mul_right _ ?_
        rw [hW] at hhi
        exact Nat.lt_of_mul_lt_mul_right hhi
      rw [Nat.add_mul, Nat.one_mul, ← hW] at this
      omega
    have hj := Mb.u64_or (hi * 2 ^ s) (lo / 2 ^ (64 - s)) hhi (by omega)
    rw [hj, Nat.mul_comm hi, ← Nat.two_pow_add_eq_or_of_lt hd]
  · rw [shl_u64 _ _ s rfl hs]
    rw [Int.natCast_emod, Int.natCast_mul, Int.natCast_pow]; rfl
  · have h3 : lo * 2 ^ s % 18446744073709551616 = (lo % 2 ^ (64 - s)) * 2 ^ s := by
      conv => lhs; rw [hW]
      rw [Nat.mul_mod_mul_right]
    have h4 := Nat.div_add_mod lo (2 ^ (64 - s))
    rw [h3]
    have h5 : lo / 2 ^ (64 - s) * 18446744073709551616 + lo % 2 ^ (64 - s) * 2 ^ s = lo * 2 ^ s := by
      conv => lhs; rw [hW]
      rw [← Nat.mul_assoc, ← Nat.add_mul, Nat.mul_comm (lo / 2 ^ (64 - s)), h4]
    rw [Nat.add_mul, Nat.add_assoc, h5]
    grind
theorem div_ok (hi lo d : Nat) (hlo : lo < 18446744073709551616) (hd : d < 18446744073709551616) (hlt : hi < d) :
    ∃ (K : Nat) (q r : Int), (∀ k, K ≤ k → bits_Div64.f k (hi : Int) (lo : Int) (d : Int) = some (q, r)) ∧ q * d + r = (hi : Int) * 18446744073709551616 + lo ∧ 0 ≤ r ∧ r < d ∧ 0 ≤ q ∧ q ≤ 18446744073709551615 := by
  have hd0 : d ≠ 0 := by omega
  by_cases c : (hi : Int) = 0
  · have c' : hi = 0 := by omega
    subst c'
    refine ⟨0, (lo : Int) / d, (lo : Int) % d, fun k _ => ?_, ?_, Int.emod_nonneg _ (by omega), Int.emod_lt_of_pos _ (by omega), Int.ediv_nonneg (by omega) (by omega), ?_⟩
    · have h1 : (lo : Int) / d ≤ lo := Int.ediv_le_self _ (by omega)
      have h2 : 0 ≤ (lo : Int) / d := Int.ediv_nonneg (by omega) (by omega)
      unfold bits_Div64.f
      rw [if_neg (by omega), if_neg (by omega), if_pos c, Int.tdiv_eq_ediv_of_nonneg (by omega), Int.tmod_eq_emod_of_nonneg (by omega), wu64 (by omega) (by omega)]
    · have := Int.mul_ediv_add_emod (lo : Int) d
      rw [Int.mul_comm] at this
      omega
    · have h1 : (lo : Int) / d ≤ lo := Int.ediv_le_self _ (by omega)
      omega
  · obtain ⟨l1, l2, l3, l4⟩ := len_ok d hd hd0
    obtain ⟨s, hs⟩ : ∃ s, s = 64 - Lib.bitLen d := ⟨_, rfl⟩
    have e1 : wrap64 (64 - (Lib.bitLen d : Int)) = (s : Int) := by rw [w64 (by omega) (by omega)]; omega
    have e2 : IntKind.u64.wrap (s : Int) = (s : Int) := wu64 (by omega) (by omega)
    have e3 : IntKind.u64.wrap (64 - (s : Int)) = ((64 - s : Nat) : Int) := by rw [wu64 (by omega) (by omega)]; omega
    have hW := pow_split (s := s) (by omega)
    have hp := Nat.two_pow_pos s
    rw [show 64 - s = Lib.bitLen d by omega] at hW
    have hdW : d * 2 ^ s < 18446744073709551616 := by
      conv => rhs; rw [hW]
      exact Nat.mul_lt_mul_of_pos_right l4 hp
    have hdL : 9223372036854775808 ≤ d * 2 ^ s := by
      have h1 : 2 ^ (Lib.bitLen d - 1) * 2 ^ s ≤ d * 2 ^ s := Nat.mul_le_mul_right _ l3
      have h2 : 2 ^ Lib.bitLen d = 2 ^ (Lib.bitLen d - 1) * 2 := by rw [← Nat.pow_succ]; congr 1; omega
      rw [h2] at hW
      have h3 : 2 ^ (Lib.bitLen d - 1) * 2 * 2 ^ s = 2 ^ (Lib.bitLen d - 1) * 2 ^ s * 2 := by grind
      omega
    have hhW : (hi + 1) * 2 ^ s ≤ d * 2 ^ s := Nat.mul_le_mul_right _ hlt
    rw [Nat.add_mul, Nat.one_mul] at hhW
    obtain ⟨f1, f2, f3⟩ := shifted hi lo s (by omega) hlo (by omega)
    have hy2 : Go.bits .and .u64 ((d * 2 ^ s : Nat) : Int) 4294967295 = ((d * 2 ^ s : Nat) : Int) % 4294967296 := u64_and32 (by omega) (by omega)
    have hl2 : Go.bits .and .u64 ((lo * 2 ^ s % 18446744073709551616 : Nat) : Int) 4294967295 = ((lo * 2 ^ s % 18446744073709551616 : Nat) : Int) % 4294967296 := u64_and32 (by omega) (by omega)
    have hmain : ∀ k, bits_Div64.f k (hi : Int) (lo : Int) (d : Int) = bits_Div64.l0 k ((d * 2 ^ s : Nat) : Int) (s : Int) (((d * 2 ^ s : Nat) : Int) / 4294967296) (((d * 2 ^ s : Nat) : Int) % 4294967296) ((hi * 2 ^ s + lo / 2 ^ (64 - s) : Nat) : Int) (((lo * 2 ^ s % 18446744073709551616 : Nat) : Int) / 4294967296) (((lo * 2 ^ s % 18446744073709551616 : Nat) : Int) % 4294967296)
        (IntKind.u64.wrap (Int.tdiv ((hi * 2 ^ s + lo / 2 ^ (64 - s) : Nat) : Int) (((d * 2 ^ s : Nat) : Int) / 4294967296))) (IntKind.u64.wrap (((hi * 2 ^ s + lo / 2 ^ (64 - s) : Nat) : Int) - IntKind.u64.wrap (IntKind.u64.wrap (Int.tdiv ((hi * 2 ^ s + lo / 2 ^ (64 - s) : Nat) : Int) (((d * 2 ^ s : Nat) : Int) / 4294967296)) * (((d * 2 ^ s : Nat) : Int) / 4294967296)))) := by
      intro k
      unfold bits_Div64.f
      rw [if_neg (by omega), if_neg (by omega), if_neg c]
      unfold bits_LeadingZeros64.f bits_Len64.f
      rw [if_pos (by omega), if_pos (by omega)]
      simp only [Option.bind_some, Int.toNat_natCast]
      rw [e1, e2, e3, f1, f2, shl_nat d s (by omega) hdW, if_pos (by omega), if_pos (by omega), if_neg (by omega), hy2, hl2]
    have hq : lo / 2 ^ (64 - s) < 2 ^ s := by
      have hW' := pow_split (s := s) (by omega)
      rw [Nat.div_lt_iff_lt_mul (Nat.two_pow_pos _), Nat.mul_comm, ← hW']; exact hlo
    clear f1 f2 hy2 hl2
    generalize hY : d * 2 ^ s = Y at *
    generalize hU : hi * 2 ^ s + lo / 2 ^ (64 - s) = U at *
    generalize hL : lo * 2 ^ s % 18446744073709551616 = L at *
    have hLb : L < 18446744073709551616 := by rw [← hL]; exact Nat.mod_lt _ (by decide)
    obtain ⟨K, q, r, b1, b2, b3, b4, b5, b6⟩ := both (y := (Y : Int)) (yn1 := (Y : Int) / 4294967296) (yn0 := (Y : Int) % 4294967296) (u := (U : Int)) (w1 := (L : Int) / 4294967296) (w0 := (L : Int) % 4294967296) (by omega) (by omega) (by omega) (by omega) (by omega) (by omega) (by omega) (by omega) (by omega) (by omega) (by omega) (s : Int) (by omega)
    obtain ⟨r, rfl⟩ := Int.eq_ofNat_of_zero_le b3
    obtain ⟨q, rfl⟩ := Int.eq_ofNat_of_zero_le b5
    have hsum : q * Y + r = U * 18446744073709551616 + L := by
      have : ((q * Y : Nat) : Int) = (q : Int) * (Y : Int) := Int.natCast_mul _ _
      omega
    rw [f3, ← hY, ← Nat.mul_assoc] at hsum
    have hr : ∃ t, r = t * 2 ^ s ∧ q * d + t = hi * 18446744073709551616 + lo := by
      have h0 : (q * d) * 2 ^ s ≤ (hi * 18446744073709551616 + lo) * 2 ^ s := by omega
      have h1 : q * d ≤ hi * 18446744073709551616 + lo := Nat.le_of_mul_le_mul_right h0 hp
      refine ⟨hi * 18446744073709551616 + lo - q * d, ?_, by omega⟩
      rw [Nat.sub_mul]; omega
    obtain ⟨t, rfl, ht⟩ := hr
    refine ⟨K, (q : Int), (t : Int), fun k hk => ?_, ?_, by omega, ?_, b5, b6⟩
    · rw [hmain k, b1 k hk, shr_nat _ _ (by omega), Nat.mul_div_cancel _ hp]
    · have : ((q * d : Nat) : Int) = (q : Int) * (d : Int) := Int.natCast_mul _ _
      omega
    · have h1 : t * 2 ^ s < d * 2 ^ s := by omega
      have := Nat.lt_of_mul_lt_mul_right h1
      omega
theorem impl_div {hi lo d : Int} (h0 : 0 ≤ hi) (hlo0 : 0 ≤ lo) (hlo : lo ≤ 18446744073709551615) (hd : d ≤ 18446744073709551615) (hlt : hi < d) :
    ∃ (K : Nat) (q r : Int), (∀ k, K ≤ k → impl_Div128.f k hi lo d = some (q, r, true)) ∧ q * d + r = hi * 18446744073709551616 + lo ∧ 0 ≤ r ∧ r < d ∧ 0 ≤ q ∧ q ≤ 18446744073709551615 := by
  obtain ⟨hi, rfl⟩ := Int.eq_ofNat_of_zero_le h0
  obtain ⟨lo, rfl⟩ := Int.eq_ofNat_of_zero_le hlo0
  obtain ⟨d, rfl⟩ := Int.eq_ofNat_of_zero_le (show 0 ≤ d by omega)
  obtain ⟨K, q, r, h1, h2⟩ := div_ok hi lo d (by omega) (by omega) (by omega)
  refine ⟨K, q, r, fun k hk => ?_, h2⟩
  unfold impl_Div128.f
  rw [if_neg (by omega), h1 k hk]
  rfl
theorem impl_div_no {hi lo d : Int} (h : d ≤ hi) (k : Nat) : impl_Div128.f k hi lo d = some (0, 0, false) := by unfold impl_Div128.f; rw [if_pos h]
/-- The reference's division always ends. -/
theorem spec_loop (n : Nat) : ∀ (k : Nat) (x0 x1 x2 q i : Int), n < k → i = (n : Int) - 1 → n ≤ 64 → ∃ a b, spec_Div128.l0 k x0 x1 x2 q i = some (a, b, true) := by
  induction n with
  | zero =>
    intro k x0 x1 x2 q i hk hi _
    obtain ⟨k, rfl⟩ : ∃ j, k = j + 1 := ⟨k - 1, by omega⟩
    simp only [spec_Div128.l0]
    rw [if_neg (by omega)]
    exact ⟨_, _, rfl⟩
  | succ n ih =>
    intro k x0 x1 x2 q i hk hi hn
    obtain ⟨k, rfl⟩ : ∃ j, k = j + 1 := ⟨k - 1, by omega⟩
    simp only [spec_Div128.l0]
    rw [if_pos (by omega), if_pos (wrap_u64_range _).1, w64 (n := i - 1) (by omega) (by omega)]
    split
    · exact ih k _ _ _ _ _ (by omega) (by omega) (by omega)
    · split
      · exact ih k _ _ _ _ _ (by omega) (by omega) (by omega)
      · exact ih k _ _ _ _ _ (by omega) (by omega) (by omega)
theorem spec_div (k : Nat) (hk : 65 ≤ k) (hi lo d : Int) : ∃ a b, spec_Div128.f k hi lo d = some (a, b, decide (hi < d)) ∧ (¬ hi < d → a = 0 ∧ b = 0) := by
  unfold spec_Div128.f
  by_cases c : d ≤ hi
  · rw [if_pos c, decide_eq_false (by omega)]
    exact ⟨0, 0, rfl, fun _ => ⟨rfl, rfl⟩⟩
  · rw [if_neg c, decide_eq_true (by omega)]
    obtain ⟨a, b, h⟩ := spec_loop 64 k hi lo d 0 63 (by omega) (by omega) (by omega)
    exact ⟨a, b, h, fun h => absurd (by omega) h⟩
end Go.Proofs.Ytdjpbhmkcamkpaa.Dv
