/- The law FnDivided, on numbers alone. -/
import Derived.Test.YtdjpbhmkcamkpaaBb
import Derived.Test.YtdjpbhmkcamkpaaDb
import Derived.Test.YtdjpbhmkcamkpaaQx20
namespace Go.Proofs.Ytdjpbhmkcamkpaa.Pure
open Go.RowKit Go.Proofs.Ytdjpbhmkcamkpaa.Q Go.Proofs.YtdjpbhmkcamkpaaW.PrintWords Go.Proofs.YtdjpbhmkcamkpaaW.PrintLast Go.Proofs.YtdjpbhmkcamkpaaW.PrintMore Go.Proofs.Ytdjpbhmkcamkpaa.Mb Go.Proofs.Ytdjpbhmkcamkpaa.Bn Go.Proofs.Ytdjpbhmkcamkpaa.Cur
set_option linter.unusedSimpArgs false
set_option linter.unusedVariables false
set_option linter.unusedSectionVars false

theorem wrap64_mod {n : Int} {e : Nat} (h : We n e) (z : Int) : wrap64 z % ((2 ^ e : Nat) : Int) = z % ((2 ^ e : Nat) : Int) := by
  unfold wrap64
  rcases h with ⟨_, rfl⟩ | ⟨_, rfl⟩
  · simp only [show (2 ^ 32 : Nat) = 4294967296 from by decide]; omega
  · simp only [show (2 ^ 64 : Nat) = 18446744073709551616 from by decide]; omega
section
variable {n : Int} {e : Nat} (h : We n e) (k : Nat) (a b : Nat) (ha : a < 18446744073709551616) (hb : b < 18446744073709551616)
include h ha hb
theorem low (z : Nat) : z % 2 ^ e < 2 ^ e := Nat.mod_lt _ (Nat.two_pow_pos e)
theorem to_div (op : Int) (h1 : 4 ≤ op) (h2 : op ≤ 7) : impl_Binary.f (k + 4) n op a b = (impl_divide.f (k + 2) n op ((a % 2 ^ e : Nat) : Int) ((b % 2 ^ e : Nat) : Int)).bind fun r => some (r.1, r.2) := by
  rw [impl_in h _ _ _ _ (by omega) (by omega), impl_go h (k + 3) a b ha hb, if_neg (by omega), if_neg (by omega), if_neg (by omega), show decide (4 ≤ op ∧ op ≤ 7) = true from by simp; omega]
  simp only [impl_Binary.j1, if_true]
theorem t_none (op : Int) (h1 : 4 ≤ op) (h2 : op ≤ 7) (hz : b % 2 ^ e = 0) : impl_Binary.f (k + 4) n op a b = some (0, 1) := by
  rw [to_div h k a b ha hb op h1 h2, hz]
  unfold impl_divide.f
  rw [if_pos (by rfl)]
  rfl
theorem t_divu (hz : b % 2 ^ e ≠ 0) : impl_Binary.f (k + 4) n 5 a b = some (((a % 2 ^ e / (b % 2 ^ e) : Nat) : Int), 0) := by
  have hx := low h a b ha hb a
  have hp := h.pow
  have h1 : a % 2 ^ e / (b % 2 ^ e) ≤ a % 2 ^ e := Nat.div_le_self _ _
  rw [to_div h k a b ha hb 5 (by decide) (by decide)]
  unfold impl_divide.f
  rw [if_neg (by omega), if_pos rfl, Int.tdiv_eq_ediv_of_nonneg (by omega), ← Int.natCast_ediv]
  generalize a % 2 ^ e / (b % 2 ^ e) = q at *
  rw [wu64 (by omega) (by omega)]
  rfl
theorem t_remu (hz : b % 2 ^ e ≠ 0) : impl_Binary.f (k + 4) n 7 a b = some (((a % 2 ^ e % (b % 2 ^ e) : Nat) : Int), 0) := by
  rw [to_div h k a b ha hb 7 (by decide) (by decide)]
  unfold impl_divide.f
  rw [if_neg (by omega), if_neg (by decide), if_pos rfl, Int.tmod_eq_emod_of_nonneg (by omega), ← Int.natCast_emod]
  rfl
/-- The signed ones: a trap, or quotient and what is left. -/
theorem t_signed (hz : b % 2 ^ e ≠ 0) : (∃ t : Int, t ≠ 0 ∧ impl_Binary.f (k + 4) n 4 a b = some (0, t)) ∨
    (impl_Binary.f (k + 4) n 4 a b = some (Int.tdiv (sg n ((a % 2 ^ e : Nat) : Int)) (sg n ((b % 2 ^ e : Nat) : Int)) % ((2 ^ e : Nat) : Int), 0) ∧
     impl_Binary.f (k + 4) n 6 a b = some (Int.tmod (sg n ((a % 2 ^ e : Nat) : Int)) (sg n ((b % 2 ^ e : Nat) : Int)) % ((2 ^ e : Nat) : Int), 0)) := by
  have hx := low h a b ha hb a
  have hy := low h a b ha hb b
  rw [to_div h k a b ha hb 4 (by decide) (by decide), to_div h k a b ha hb 6 (by decide) (by decide)]
  have hl := lowest h
  have hl3 : shl .u64 1 ((e - 1 : Nat) : Int) = ((2 ^ (e - 1) : Nat) : Int) := by rw [← hl.1]; exact hl.2
  have hy0 : sg n ((b % 2 ^ e : Nat) : Int) ≠ 0 := fun hh => hz ((sg_zero h _ hy).1 hh)
  unfold impl_divide.f
  rw [if_neg (by omega), if_neg (by decide), if_neg (by decide), if_neg (by omega), if_neg (by decide), if_neg (by decide), hl.1, hl3]
  simp only [signedE, Option.bind_some, if_pos (Int.natCast_nonneg (e - 1))]
  generalize sg n ((a % 2 ^ e : Nat) : Int) = X at *
  generalize sg n ((b % 2 ^ e : Nat) : Int) = Y at *
  generalize sg n ((2 ^ (e - 1) : Nat) : Int) = L at *
  by_cases cx : X = L
  · rw [if_pos cx, if_pos cx]
    by_cases cy : Y = -1
    · refine .inl ⟨2, by decide, ?_⟩
      have cyb : (Y == -1) = true := by simp [cy]
      rw [cyb]
      simp [impl_divide.j0, impl_divide.j1]
    · have cyb : (Y == -1) = false := by simpa using cy
      rw [cyb]
      refine .inr ⟨?_, ?_⟩
      · simp only [impl_divide.j0, impl_divide.j1, if_true, Bool.false_eq_true, if_false, if_neg hy0]
        rw [cutW h, wrap64_mod h]; rfl
      · simp only [impl_divide.j0, impl_divide.j1]
        rw [if_neg (by decide), if_neg (by decide), if_neg (by decide), if_neg (by decide), if_neg hy0, cutW h]; rfl
  · rw [if_neg cx, if_neg cx]
    refine .inr ⟨?_, ?_⟩
    · simp only [impl_divide.j0, impl_divide.j1, if_true, Bool.false_eq_true, if_false, if_neg hy0]
      rw [cutW h, wrap64_mod h]; rfl
    · simp only [impl_divide.j0, impl_divide.j1]
      rw [if_neg (by decide), if_neg (by decide), if_neg (by decide), if_neg (by decide), if_neg hy0, cutW h]; rfl
theorem t_add : impl_Binary.f (k + 2) n 1 a b = some ((((a % 2 ^ e + b % 2 ^ e) % 2 ^ e : Nat) : Int), 0) := by
  rw [impl_in h _ _ _ _ (by decide) (by decide), impl_go h (k + 1) a b ha hb, if_pos rfl]; rfl
theorem t_mul : impl_Binary.f (k + 2) n 3 a b = some ((((a % 2 ^ e * (b % 2 ^ e)) % 2 ^ e : Nat) : Int), 0) := by
  rw [impl_in h _ _ _ _ (by decide) (by decide), impl_go h (k + 1) a b ha hb, if_neg (by decide), if_neg (by decide), if_pos rfl]; rfl
theorem t_ltu : impl_Binary.f (k + 2) n 19 a b = some (if a % 2 ^ e < b % 2 ^ e then 1 else 0, 0) := by
  rw [impl_in h _ _ _ _ (by decide) (by decide), impl_go h (k + 1) a b ha hb, if_neg (by decide), if_neg (by decide), if_neg (by decide), show decide ((4 : Int) ≤ 19 ∧ (19 : Int) ≤ 7) = false from by decide]
  simp only [impl_Binary.j1, impl_compare.f, signedE, Option.bind_some]
  simp only [Int.reduceEq, if_false, if_true, Bool.false_eq_true]
  by_cases c : a % 2 ^ e < b % 2 ^ e
  · rw [if_pos c, show decide (((a % 2 ^ e : Nat) : Int) < ((b % 2 ^ e : Nat) : Int)) = true from decide_eq_true (by omega)]; rfl
  · rw [if_neg c, show decide (((a % 2 ^ e : Nat) : Int) < ((b % 2 ^ e : Nat) : Int)) = false from decide_eq_false (by omega)]; rfl
theorem whole_of : impl_Binary.f (k + 2) n 1 a 0 = some (((a % 2 ^ e : Nat) : Int), 0) := by
  have q1 := t_add h k a 0 ha (by decide)
  have e0 : (a % 2 ^ e + 0 % 2 ^ e) % 2 ^ e = a % 2 ^ e := by rw [Nat.zero_mod]; exact Nat.mod_mod _ _
  rw [e0] at q1
  exact q1
end
theorem signed_of {n : Int} {e : Nat} (h : We n e) (a : Int) : spec_SignedOf.f n a = some (sg n a, true) := by
  unfold spec_SignedOf.f
  have : spec_l3Bits.f = impl_goodBits.f := by funext x; unfold spec_l3Bits.f impl_goodBits.f; rfl
  rw [this, goodE h, signed_same]
  simp only [Option.bind_some, if_true, signedE]
/-- A number within the bounds is what its bits say. -/
theorem sg_back {n : Int} {e : Nat} (h : We n e) (z : Int) (h0 : -((2 ^ (e - 1) : Nat) : Int) ≤ z) (h1 : z < ((2 ^ (e - 1) : Nat) : Int)) : sg n (z % ((2 ^ e : Nat) : Int)) = z := by
  unfold sg
  rcases h with ⟨rfl, rfl⟩ | ⟨rfl, rfl⟩
  · rw [if_pos rfl]; simp only [show (2 ^ 32 : Nat) = 4294967296 from by decide, show (2 ^ (32 - 1) : Nat) = 2147483648 from by decide] at *; unfold wrap64 wrap32; omega
  · rw [if_neg (by decide)]; simp only [show (2 ^ 64 : Nat) = 18446744073709551616 from by decide, show (2 ^ (64 - 1) : Nat) = 9223372036854775808 from by decide] at *; unfold wrap64; omega
theorem sg_cut {n : Int} {e : Nat} (h : We n e) (a : Nat) : sg n ((a % 2 ^ e : Nat) : Int) = sg n (a : Int) := by
  unfold sg
  rcases h with ⟨rfl, rfl⟩ | ⟨rfl, rfl⟩
  · rw [if_pos rfl, if_pos rfl]; simp only [show (2 ^ 32 : Nat) = 4294967296 from by decide]; unfold wrap64 wrap32; omega
  · rw [if_neg (by decide), if_neg (by decide)]; simp only [show (2 ^ 64 : Nat) = 18446744073709551616 from by decide]; unfold wrap64; omega
theorem tmod_bounds (X Y : Int) (hY : Y ≠ 0) : (0 ≤ X → 0 ≤ Int.tmod X Y ∧ Int.tmod X Y ≤ X) ∧ (X ≤ 0 → X ≤ Int.tmod X Y ∧ Int.tmod X Y ≤ 0) := by
  constructor
  · intro h
    refine ⟨Int.tmod_nonneg _ h, ?_⟩
    have h1 : (Int.tmod X Y).natAbs ≤ X.natAbs := by rw [Int.natAbs_tmod]; exact Nat.mod_le _ _
    have h2 := Int.tmod_nonneg Y h
    omega
  · intro h
    have e : Int.tmod X Y = -Int.tmod (-X) Y := by rw [Int.neg_tmod]; omega
    have h1 : (Int.tmod (-X) Y).natAbs ≤ (-X).natAbs := by rw [Int.natAbs_tmod]; exact Nat.mod_le _ _
    have h2 := Int.tmod_nonneg Y (show 0 ≤ -X by omega)
    omega
/-- (z Y + m) cut is X cut, whatever stands for z and Y. -/
theorem back_mod (M z Y m X q y r : Int) (hX : z * Y + m = X) (hq : q % M = z % M) (hy : y % M = Y % M) (hr : r % M = m % M) : ((q * y) % M + r) % M = X % M := by
  rw [← hX, Int.emod_add_emod, Int.add_emod, Int.mul_emod, hq, hy, hr, ← Int.mul_emod, ← Int.add_emod]
section
variable {n : Int} {e : Nat} (h : We n e) (k : Nat) (a b : Nat) (ha : a < 18446744073709551616) (hb : b < 18446744073709551616)
include h ha hb
def L2 : List (List Int) := [[4, 6], [5, 7]]
/-- The second pair: unsigned. -/
theorem second_ok (K : Nat) (hK : 12 ≤ K) : laws_FnDivided.l0 K n a b L2 (L2.length : Int) 1 = some true := by
  obtain ⟨k, rfl⟩ : ∃ j, K = j + 1 := ⟨K - 1, by omega⟩
  have hp := h.pow
  have r0 : rd_L2 L2 1 = [5, 7] := rfl
  have r1 : rd ([5, 7] : List Int) 0 = 5 := rfl
  have r2 : rd ([5, 7] : List Int) 1 = 7 := rfl
  have w1 : wrap64 (1 + 1) = 2 := w64 (by decide) (by decide)
  have fin : laws_FnDivided.l0 k n a b L2 (L2.length : Int) 2 = some true := by
    obtain ⟨k, rfl⟩ : ∃ j, k = j + 1 := ⟨k - 1, by omega⟩
    simp only [laws_FnDivided.l0]
    rw [if_neg (show ¬ (2 : Int) < (L2.length : Int) from by decide)]
  simp only [laws_FnDivided.l0]
  rw [if_pos (show (1 : Int) < (L2.length : Int) from by decide), if_pos (by decide), if_pos (show (1 : Int) < (L2.length : Int) from by decide), r0, r1, r2, w1, fin, if_pos (by decide)]
  clear fin
  obtain ⟨k, rfl⟩ : ∃ j, k = j + 7 := ⟨k - 7, by omega⟩
  by_cases hz : b % 2 ^ e = 0
  · rw [t_none h (k + 3) a b ha hb 5 (by decide) (by decide) hz, t_none h (k + 3) a b ha hb 7 (by decide) (by decide) hz]
    simp
  · have hx := low h a b ha hb a
    have hy := low h a b ha hb b
    have hq : a % 2 ^ e / (b % 2 ^ e) ≤ a % 2 ^ e := Nat.div_le_self _ _
    have hr := Nat.mod_lt (a % 2 ^ e) (show 0 < b % 2 ^ e by omega)
    have hdm := Nat.div_add_mod (a % 2 ^ e) (b % 2 ^ e)
    rw [t_divu h (k + 3) a b ha hb hz, t_remu h (k + 3) a b ha hb hz]
    simp only [Option.bind_some]
    rw [if_pos (by decide), if_pos trivial, if_pos trivial]
    generalize hQ : a % 2 ^ e / (b % 2 ^ e) = q at *
    generalize hR : a % 2 ^ e % (b % 2 ^ e) = r at *
    have hqM : q % 2 ^ e = q := Nat.mod_eq_of_lt (by omega)
    have hrM : r % 2 ^ e = r := Nat.mod_eq_of_lt (by omega)
    have hqb : q * (b % 2 ^ e) = b % 2 ^ e * q := Nat.mul_comm _ _
    have e3 : (q * (b % 2 ^ e) % 2 ^ e % 2 ^ e + r % 2 ^ e) % 2 ^ e = a % 2 ^ e := by
      rw [Nat.mod_mod, hrM, hqb, Nat.mod_eq_of_lt (a := b % 2 ^ e * q) (by omega), hdm, Nat.mod_mod]
    rw [t_mul h (k + 5) q b (by omega) hb, hqM]
    simp only [Option.bind_some]
    rw [t_add h (k + 5) (q * (b % 2 ^ e) % 2 ^ e) r (Nat.lt_of_lt_of_le (Nat.mod_lt _ (Nat.two_pow_pos e)) hp) (by omega), e3, whole_of h (k + 5) a b ha hb]
    simp only [Option.bind_some, if_true]
    rw [t_ltu h (k + 5) r b (by omega) hb, hrM, if_pos hr]
    simp only [Option.bind_some, if_true]
    rw [signed_of h, signed_of h]
    simp
theorem loop_ok (K : Nat) (hK : 13 ≤ K) : laws_FnDivided.l0 K n a b L2 (L2.length : Int) 0 = some true := by
  obtain ⟨k, rfl⟩ : ∃ j, K = j + 1 := ⟨K - 1, by omega⟩
  have hp := h.pow
  have r0 : rd_L2 L2 0 = [4, 6] := rfl
  have r1 : rd ([4, 6] : List Int) 0 = 4 := rfl
  have r2 : rd ([4, 6] : List Int) 1 = 6 := rfl
  have w1 : wrap64 (0 + 1) = 1 := w64 (by decide) (by decide)
  have fin := second_ok h a b ha hb k (by omega)
  simp only [laws_FnDivided.l0]
  rw [if_pos (show (0 : Int) < (L2.length : Int) from by decide), if_pos (by decide), if_pos (show (0 : Int) < (L2.length : Int) from by decide), r0, r1, r2, w1, fin, if_pos (by decide)]
  clear fin
  obtain ⟨k, rfl⟩ : ∃ j, k = j + 8 := ⟨k - 8, by omega⟩
  by_cases hz : b % 2 ^ e = 0
  · rw [t_none h (k + 4) a b ha hb 4 (by decide) (by decide) hz, t_none h (k + 4) a b ha hb 6 (by decide) (by decide) hz]
    simp
  · have hx := low h a b ha hb a
    have hy := low h a b ha hb b
    rcases t_signed h (k + 4) a b ha hb hz with ⟨t, t0, t1⟩ | ⟨t1, t2⟩
    · obtain ⟨r, u, e6, _⟩ := bin_same (k + 4) n 6 a b (by decide) (by omega) (by omega) (by omega) (by omega)
      rw [t1, e6]
      simp only [Option.bind_some]
      rw [if_pos (by decide), if_neg t0]
    · rw [t1, t2]
      simp only [Option.bind_some]
      rw [if_pos (by decide), if_pos trivial, if_pos trivial]
      have hXr := sg_range h (a % 2 ^ e)
      obtain ⟨tX, hXm⟩ := sg_mod h (a % 2 ^ e)
      obtain ⟨tY, hYm⟩ := sg_mod h (b % 2 ^ e)
      have hXa := sg_cut h a
      have hY0 : sg n ((b % 2 ^ e : Nat) : Int) ≠ 0 := fun hh => hz ((sg_zero h _ hy).1 hh)
      generalize hX : sg n ((a % 2 ^ e : Nat) : Int) = X at *
      generalize hY : sg n ((b % 2 ^ e : Nat) : Int) = Y at *
      have hM : (0 : Int) < ((2 ^ e : Nat) : Int) := by have := Nat.two_pow_pos e; omega
      have hq0 := Int.emod_nonneg (Int.tdiv X Y) (show ((2 ^ e : Nat) : Int) ≠ 0 by omega)
      have hq1 := Int.emod_lt_of_pos (Int.tdiv X Y) hM
      have hr0 := Int.emod_nonneg (Int.tmod X Y) (show ((2 ^ e : Nat) : Int) ≠ 0 by omega)
      have hr1 := Int.emod_lt_of_pos (Int.tmod X Y) hM
      have hdm : Int.tdiv X Y * Y + Int.tmod X Y = X := by have := Int.mul_tdiv_add_tmod X Y; rw [Int.mul_comm] at this; exact this
      have hback := back_mod ((2 ^ e : Nat) : Int) (Int.tdiv X Y) Y (Int.tmod X Y) X (Int.tdiv X Y % ((2 ^ e : Nat) : Int)) ((b % 2 ^ e : Nat) : Int) (Int.tmod X Y % ((2 ^ e : Nat) : Int)) hdm (Int.emod_emod _ _) (by rw [hYm, Int.add_mul_emod_self_right]) (Int.emod_emod _ _)
      have hXa2 : X % ((2 ^ e : Nat) : Int) = ((a % 2 ^ e : Nat) : Int) := by
        rw [hXm, Int.add_mul_emod_self_right, ← Int.natCast_emod, Nat.mod_mod]
      have hsr : sg n (Int.tmod X Y % ((2 ^ e : Nat) : Int)) = Int.tmod X Y := by
        obtain ⟨g1, g2⟩ := tmod_bounds X Y hY0
        by_cases c : 0 ≤ X
        · have := g1 c; exact sg_back h _ (by omega) (by omega)
        · have := g2 (by omega); exact sg_back h _ (by omega) (by omega)
      have hsign : ¬ Int.tmod X Y = 0 → (decide (Int.tmod X Y < 0) != decide (X < 0)) = false := by
        intro hne
        obtain ⟨g1, g2⟩ := tmod_bounds X Y hY0
        by_cases c : 0 ≤ X
        · have := g1 c
          rw [decide_eq_false (by omega), decide_eq_false (by omega)]; rfl
        · have := g2 (by omega)
          rw [decide_eq_true (by omega), decide_eq_true (by omega)]; rfl
      generalize hQ : Int.tdiv X Y % ((2 ^ e : Nat) : Int) = Q at *
      generalize hR : Int.tmod X Y % ((2 ^ e : Nat) : Int) = R at *
      obtain ⟨q, rfl⟩ := Int.eq_ofNat_of_zero_le hq0
      obtain ⟨r, rfl⟩ := Int.eq_ofNat_of_zero_le hr0
      have hqM : q % 2 ^ e = q := Nat.mod_eq_of_lt (by omega)
      have hrM : r % 2 ^ e = r := Nat.mod_eq_of_lt (by omega)
      have e3 : (q * (b % 2 ^ e) % 2 ^ e % 2 ^ e + r % 2 ^ e) % 2 ^ e = a % 2 ^ e := by
        rw [Nat.mod_mod, hrM]
        rw [hXa2, ← Int.natCast_mul, ← Int.natCast_emod, ← Int.natCast_add, ← Int.natCast_emod] at hback
        exact_mod_cast hback
      rw [t_mul h (k + 6) q b (by omega) hb, hqM]
      simp only [Option.bind_some]
      rw [t_add h (k + 6) (q * (b % 2 ^ e) % 2 ^ e) r (Nat.lt_of_lt_of_le (Nat.mod_lt _ (Nat.two_pow_pos e)) hp) (by omega), e3, whole_of h (k + 6) a b ha hb]
      simp only [Option.bind_some, if_true]
      rw [t_ltu h (k + 6) r b (by omega) hb, hrM, signed_of h, signed_of h, hsr, ← hXa]
      simp only [Option.bind_some]
      rw [if_neg (by decide)]
      by_cases c : Int.tmod X Y = 0
      · rw [if_pos c]
      · rw [if_neg c, hsign c, if_neg (by decide)]
end
theorem FnDivided : laws_FnDivided.Pure := by
  intro l0 hl0 hl0' hu0
  have hu0 := u8_of hu0
  refine ⟨13, ?_⟩
  unfold laws_FnDivided.f
  by_cases cl : (l0.length : Int) > 1048576
  · rw [if_pos cl]
  · rw [if_neg cl]
    obtain ⟨n, op, a, b, e1, h1, h2, ha0, ha1, hb0, hb1⟩ := drawBinary_ok hu0 (k := 13) (by decide)
    rw [e1]
    simp only [Option.bind_some]
    obtain ⟨r, t, e2, e3⟩ := bin_same 9 n op a b h1 ha0 ha1 hb0 hb1
    rw [e2, e3]
    simp only [Option.bind_some, if_true]
    show laws_FnDivided.l0 13 n a b L2 (L2.length : Int) 0 = some true
    by_cases c : n = 32 ∨ n = 64
    · obtain ⟨e, h⟩ : ∃ e, We n e := by
        rcases c with rfl | rfl
        · exact ⟨32, .inl ⟨rfl, rfl⟩⟩
        · exact ⟨64, .inr ⟨rfl, rfl⟩⟩
      obtain ⟨a, rfl⟩ := Int.eq_ofNat_of_zero_le ha0
      obtain ⟨b, rfl⟩ := Int.eq_ofNat_of_zero_le hb0
      exact loop_ok h a b (by omega) (by omega) 13 (by omega)
    · have ho : ∀ (k : Nat) (op : Int), impl_Binary.f (k + 1) n op a b = some (0, 3) := fun k op => (odd_out (n := n) (by omega) (by omega) k op a b).1
      have r0 : rd_L2 L2 0 = [4, 6] := rfl
      have r1 : rd_L2 L2 1 = [5, 7] := rfl
      have w1 : wrap64 (0 + 1) = 1 := w64 (by decide) (by decide)
      have w2 : wrap64 (1 + 1) = 2 := w64 (by decide) (by decide)
      have l2 : ∀ k : Nat, laws_FnDivided.l0 (k + 1) n a b L2 (L2.length : Int) 2 = some true := fun k => by
        simp only [laws_FnDivided.l0]
        rw [if_neg (show ¬ (2 : Int) < (L2.length : Int) from by decide)]
      have l1 : ∀ k : Nat, laws_FnDivided.l0 (k + 2) n a b L2 (L2.length : Int) 1 = some true := fun k => by
        have hk := l2 k
        generalize hj : k + 1 = j at *
        rw [show k + 2 = j + 1 by omega]
        simp only [laws_FnDivided.l0]
        rw [if_pos (show (1 : Int) < (L2.length : Int) from by decide), if_pos (by decide), if_pos (show (1 : Int) < (L2.length : Int) from by decide), r1, w2, hk, if_pos (by decide)]
        subst hj
        rw [ho]
        simp only [Option.bind_some]
        rw [if_pos (by decide), ho]
        simp
      have hk := l1 10
      generalize hj : (10 + 2 : Nat) = j at *
      rw [show (13 : Nat) = j + 1 by omega]
      simp only [laws_FnDivided.l0]
      rw [if_pos (show (0 : Int) < (L2.length : Int) from by decide), if_pos (by decide), if_pos (show (0 : Int) < (L2.length : Int) from by decide), r0, w1, hk, if_pos (by decide)]
      subst hj
      rw [ho]
      simp only [Option.bind_some]
      rw [if_pos (by decide), ho]
      simp
end Go.Proofs.Ytdjpbhmkcamkpaa.Pure
