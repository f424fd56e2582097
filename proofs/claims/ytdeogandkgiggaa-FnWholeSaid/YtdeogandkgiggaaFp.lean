/- Rounding of numbers m 2^e to floats of p bits behind the point: the plain law. -/
import Derived.Test.YtdeogandkgiggaaMb
namespace Go.Proofs.Ytdeogandkgiggaa.Fp
set_option linter.unusedSimpArgs false
set_option linter.unusedVariables false

/-- How many bits. -/
def bl (m : Nat) : Nat := if m = 0 then 0 else Nat.log2 m + 1
theorem bl_pos {m : Nat} (h : m ≠ 0) : 2 ^ (bl m - 1) ≤ m ∧ m < 2 ^ bl m ∧ 1 ≤ bl m := by
  unfold bl
  rw [if_neg h]
  exact ⟨Nat.log2_self_le h, Nat.lt_log2_self, by omega⟩
theorem bl_zero : bl 0 = 0 := rfl
theorem bl_lt (m : Nat) : m < 2 ^ bl m := by
  by_cases h : m = 0
  · subst h; decide
  · exact (bl_pos h).2.1
/-- The count is told by its bounds. -/
theorem bl_of {m n : Nat} (h0 : 2 ^ n ≤ m) (h1 : m < 2 ^ (n + 1)) : bl m = n + 1 := by
  have hm : m ≠ 0 := by have := Nat.two_pow_pos n; omega
  obtain ⟨a, b, c⟩ := bl_pos hm
  have h2 : bl m - 1 < n + 1 := (Nat.pow_lt_pow_iff_right (by decide : 1 < 2)).1 (Nat.lt_of_le_of_lt a h1)
  have h3 : n < bl m := (Nat.pow_lt_pow_iff_right (by decide : 1 < 2)).1 (Nat.lt_of_le_of_lt h0 b)
  omega
theorem bl_le {m n : Nat} (h : m < 2 ^ n) : bl m ≤ n := by
  by_cases hm : m = 0
  · subst hm; exact Nat.zero_le _
  · obtain ⟨a, b, c⟩ := bl_pos hm
    have : bl m - 1 < n := (Nat.pow_lt_pow_iff_right (by decide : 1 < 2)).1 (Nat.lt_of_le_of_lt a h)
    omega
theorem bl_ge {m n : Nat} (h : 2 ^ n ≤ m) : n + 1 ≤ bl m := by
  have hm : m ≠ 0 := by have := Nat.two_pow_pos n; omega
  obtain ⟨a, b, c⟩ := bl_pos hm
  have : n < bl m := (Nat.pow_lt_pow_iff_right (by decide : 1 < 2)).1 (Nat.lt_of_le_of_lt h b)
  omega
theorem bl_mono {m n : Nat} (h : m ≤ n) : bl m ≤ bl n := bl_le (Nat.lt_of_le_of_lt h (bl_lt n))
theorem bl_shift {m : Nat} (h : m ≠ 0) (d : Nat) : bl (m * 2 ^ d) = bl m + d := by
  obtain ⟨a, b, c⟩ := bl_pos h
  obtain ⟨n, hn⟩ : ∃ n, bl m = n + 1 := ⟨bl m - 1, by omega⟩
  rw [hn] at a b ⊢
  have e : n + 1 + d = (n + d) + 1 := by omega
  rw [e]
  refine bl_of ?_ ?_
  · rw [Nat.pow_add]; exact Nat.mul_le_mul_right _ (by simpa using a)
  · rw [show n + d + 1 = (n + 1) + d by omega, Nat.pow_add]; exact Nat.mul_lt_mul_of_pos_right b (Nat.two_pow_pos d)
theorem bl_half {m : Nat} (h : m ≠ 0) : bl m = bl (m / 2) + 1 := by
  by_cases h1 : m = 1
  · subst h1; rfl
  · obtain ⟨a, b, c⟩ := bl_pos h
    have h2 : 2 ≤ bl m := bl_ge (n := 1) (by omega)
    obtain ⟨n, hn⟩ : ∃ n, bl m = n + 2 := ⟨bl m - 2, by omega⟩
    rw [hn] at a b ⊢
    have e : bl (m / 2) = n + 1 := by
      refine bl_of ?_ ?_
      · rw [show n + 2 - 1 = n + 1 by omega, Nat.pow_succ] at a; omega
      · rw [show n + 2 = (n + 1) + 1 by omega, Nat.pow_succ] at b; omega
    omega
theorem bl_odd (m s : Nat) (hs : s ≤ 1) (h : m ≠ 0) : bl (2 * m + s) = bl m + 1 := by
  rw [bl_half (by omega)]
  congr 1
  congr 1
  omega
theorem bl_div {m d : Nat} (h : m / 2 ^ d ≠ 0) : bl m = bl (m / 2 ^ d) + d := by
  induction d with
  | zero => simp
  | succ d ih =>
    have e : m / 2 ^ (d + 1) = m / 2 ^ d / 2 := by rw [Nat.pow_succ, Nat.div_div_eq_div_mul]
    rw [e] at h ⊢
    have h1 : m / 2 ^ d ≠ 0 := fun h0 => by rw [h0] at h; exact h rfl
    rw [ih h1, bl_half h1]
    omega

/-- V / 2^s, to the nearest, of two the even one. -/
def rne (V s : Nat) : Nat := V / 2 ^ s + (if 2 * (V % 2 ^ s) > 2 ^ s ∨ (2 * (V % 2 ^ s) = 2 ^ s ∧ V / 2 ^ s % 2 = 1) then 1 else 0)
theorem rne_zero (V : Nat) : rne V 0 = V := by unfold rne; simp [Nat.mod_one]
theorem rne_scale (V s d : Nat) : rne (V * 2 ^ d) (s + d) = rne V s := by
  unfold rne
  have hd := Nat.two_pow_pos d
  have e1 : V * 2 ^ d / 2 ^ (s + d) = V / 2 ^ s := by rw [Nat.pow_add, Nat.mul_div_mul_right _ _ hd]
  have e2 : V * 2 ^ d % 2 ^ (s + d) = (V % 2 ^ s) * 2 ^ d := by rw [Nat.pow_add, Nat.mul_mod_mul_right]
  rw [e1, e2, Nat.pow_add]
  have e3 : 2 * (V % 2 ^ s * 2 ^ d) = (2 * (V % 2 ^ s)) * 2 ^ d := by rw [Nat.mul_assoc]
  rw [e3]
  have c1 : (2 * (V % 2 ^ s)) * 2 ^ d > 2 ^ s * 2 ^ d ↔ 2 * (V % 2 ^ s) > 2 ^ s := Nat.mul_lt_mul_right hd
  have c2 : (2 * (V % 2 ^ s)) * 2 ^ d = 2 ^ s * 2 ^ d ↔ 2 * (V % 2 ^ s) = 2 ^ s := by
    constructor
    · exact Nat.eq_of_mul_eq_mul_right hd
    · intro h; rw [h]
  simp only [c1, c2]
/-- What lies far behind the place of rounding counts as one bit. -/
def stick (N d : Nat) : Nat := 2 * (N / 2 ^ d) + (if N % 2 ^ d = 0 then 0 else 1)
theorem stick_zero (N : Nat) : stick N 0 = 2 * N := by unfold stick; simp [Nat.mod_one]
theorem rne_stick (N d s : Nat) (hs : 1 ≤ s) : rne (stick N d) (s + 1) = rne N (s + d) := by
  obtain ⟨t, rfl⟩ : ∃ t, s = t + 1 := ⟨s - 1, by omega⟩
  unfold rne stick
  generalize hq : N / 2 ^ d = q
  generalize hr : N % 2 ^ d = r
  have hN : N = q * 2 ^ d + r := by rw [← hq, ← hr, Nat.mul_comm]; exact (Nat.div_add_mod N (2 ^ d)).symm
  have hrd : r < 2 ^ d := by rw [← hr]; exact Nat.mod_lt _ (Nat.two_pow_pos d)
  generalize hz : (if r = 0 then 0 else 1) = z
  have hz1 : z ≤ 1 := by rw [← hz]; split <;> omega
  have hz0 : z = 0 ↔ r = 0 := by rw [← hz]; split <;> omega
  -- quotients
  have e1 : (2 * q + z) / 2 ^ (t + 1 + 1) = q / 2 ^ (t + 1) := by
    rw [Nat.pow_succ 2 (t + 1), Nat.mul_comm (2 ^ (t + 1)) 2, ← Nat.div_div_eq_div_mul]
    congr 1
    omega
  have e2 : N / 2 ^ (t + 1 + d) = q / 2 ^ (t + 1) := by rw [Nat.add_comm, Nat.pow_add, ← Nat.div_div_eq_div_mul, hq]
  -- what is left
  have f1 : (2 * q + z) % 2 ^ (t + 1 + 1) = 2 * (q % 2 ^ (t + 1)) + z := by
    have h1 := Nat.div_add_mod (2 * q + z) (2 ^ (t + 1 + 1))
    have h2 := Nat.div_add_mod q (2 ^ (t + 1))
    rw [e1] at h1
    rw [Nat.pow_succ 2 (t + 1), Nat.mul_comm (2 ^ (t + 1)) 2, Nat.mul_assoc] at h1
    rw [Nat.pow_succ 2 (t + 1), Nat.mul_comm (2 ^ (t + 1)) 2]
    generalize 2 ^ (t + 1) * (q / 2 ^ (t + 1)) = X at *
    omega
  have f2 : N % 2 ^ (t + 1 + d) = (q % 2 ^ (t + 1)) * 2 ^ d + r := by
    have h1 := Nat.div_add_mod N (2 ^ (t + 1 + d))
    have h2 := Nat.div_add_mod q (2 ^ (t + 1))
    rw [e2] at h1
    have h3 : 2 ^ (t + 1 + d) * (q / 2 ^ (t + 1)) = (2 ^ (t + 1) * (q / 2 ^ (t + 1))) * 2 ^ d := by
      rw [Nat.pow_add, Nat.mul_assoc, Nat.mul_comm (2 ^ d), ← Nat.mul_assoc]
    have h4 : q * 2 ^ d = (2 ^ (t + 1) * (q / 2 ^ (t + 1))) * 2 ^ d + (q % 2 ^ (t + 1)) * 2 ^ d := by rw [← Nat.add_mul, h2]
    rw [h3] at h1
    generalize (2 ^ (t + 1) * (q / 2 ^ (t + 1))) * 2 ^ d = X at *
    omega
  rw [e1, e2, f1, f2]
  generalize hw : q % 2 ^ (t + 1) = w
  -- the comparisons
  have g1 : 2 ^ (t + 1 + 1) = 2 * 2 ^ (t + 1) := by rw [Nat.pow_succ, Nat.mul_comm]
  have g2 : 2 ^ (t + 1 + d) = 2 ^ (t + 1) * 2 ^ d := Nat.pow_add _ _ _
  have g3 : 2 ^ (t + 1) = 2 * 2 ^ t := by rw [Nat.pow_succ, Nat.mul_comm]
  have hd := Nat.two_pow_pos d
  rw [g1, g2]
  generalize hT : 2 ^ t = T at *
  rw [g3]
  generalize hD : 2 ^ d = D at *
  -- 2w + z against 2T; (w D + r) against T D
  have k1 : 2 * (2 * w + z) > 2 * (2 * T) ↔ (w > T ∨ (w = T ∧ z = 1)) := by omega
  have k2 : 2 * (2 * w + z) = 2 * (2 * T) ↔ (w = T ∧ z = 0) := by omega
  have m1 : 2 * (w * D + r) > 2 * T * D ↔ (w > T ∨ (w = T ∧ r ≠ 0)) := by
    rw [Nat.mul_assoc]
    constructor
    · intro h
      rcases Nat.lt_trichotomy w T with h1 | h1 | h1
      · have : (w + 1) * D ≤ T * D := Nat.mul_le_mul_right _ h1
        rw [Nat.add_mul] at this; omega
      · subst h1; right; omega
      · left; exact h1
    · rintro (h | ⟨h, h2⟩)
      · have : (T + 1) * D ≤ w * D := Nat.mul_le_mul_right _ h
        rw [Nat.add_mul] at this; omega
      · subst h; omega
  have m2 : 2 * (w * D + r) = 2 * T * D ↔ (w = T ∧ r = 0) := by
    rw [Nat.mul_assoc]
    constructor
    · intro h
      rcases Nat.lt_trichotomy w T with h1 | h1 | h1
      · have : (w + 1) * D ≤ T * D := Nat.mul_le_mul_right _ h1
        rw [Nat.add_mul] at this; omega
      · subst h1; exact ⟨rfl, by omega⟩
      · have : (T + 1) * D ≤ w * D := Nat.mul_le_mul_right _ h1
        rw [Nat.add_mul] at this; omega
    · rintro ⟨h, h2⟩; subst h; omega
  have hz2 : z = 1 ↔ r ≠ 0 := by omega
  simp only [k1, k2, m1, m2, hz0, hz2]

/-- The place of the last bit that is kept. -/
def low (p : Nat) (L : Int) (V : Nat) (e : Int) : Int := max (e + (bl V : Int) - (p : Int) - 1) L
/-- The float's bits without sign, were there no end to the exponents: V is not 0. -/
def mag (p : Nat) (L : Int) (V : Nat) (e : Int) : Nat :=
  (if low p L V e ≤ e then V * 2 ^ (e - low p L V e).toNat else rne V (low p L V e - e).toNat) + (low p L V e - L).toNat * 2 ^ p
/-- The bits of V 2^e, I being those of what is infinite. -/
def rb (p : Nat) (L : Int) (I : Nat) (V : Nat) (e : Int) : Nat := if V = 0 then 0 else min (mag p L V e) I
/-- The number in front of the place. -/
def kv (p : Nat) (L : Int) (V : Nat) (e : Int) : Nat := if low p L V e ≤ e then V * 2 ^ (e - low p L V e).toNat else rne V (low p L V e - e).toNat
theorem mag_kv (p : Nat) (L : Int) (V : Nat) (e : Int) : mag p L V e = kv p L V e + (low p L V e - L).toNat * 2 ^ p := rfl
theorem kv_bounds {p : Nat} {L : Int} {V : Nat} {e : Int} (hV : V ≠ 0) : kv p L V e ≤ 2 ^ (p + 1) ∧ (kv p L V e < 2 ^ p → low p L V e = L) := by
  obtain ⟨a, b, c⟩ := bl_pos hV
  have hl1 : e + (bl V : Int) - (p : Int) - 1 ≤ low p L V e := by unfold low; omega
  have hl2 : low p L V e ≠ L → low p L V e = e + (bl V : Int) - (p : Int) - 1 := by unfold low; omega
  unfold kv
  generalize low p L V e = l at *
  by_cases h : l ≤ e
  · rw [if_pos h]
    constructor
    · have h1 : V * 2 ^ (e - l).toNat < 2 ^ bl V * 2 ^ (e - l).toNat := Nat.mul_lt_mul_of_pos_right b (Nat.two_pow_pos _)
      rw [← Nat.pow_add] at h1
      exact Nat.le_of_lt (Nat.lt_of_lt_of_le h1 (Nat.pow_le_pow_right (by decide) (by omega)))
    · intro h1
      refine Classical.byContradiction fun h2 => ?_
      have h3 := hl2 h2
      have h4 : 2 ^ (bl V - 1) * 2 ^ (e - l).toNat ≤ V * 2 ^ (e - l).toNat := Nat.mul_le_mul_right _ a
      rw [← Nat.pow_add, show bl V - 1 + (e - l).toNat = p by omega] at h4
      omega
  · rw [if_neg h]
    have hs : bl V ≤ (l - e).toNat + (p + 1) := by omega
    have h1 : V / 2 ^ (l - e).toNat < 2 ^ (p + 1) := by
      rw [Nat.div_lt_iff_lt_mul (Nat.two_pow_pos _), ← Nat.pow_add]
      exact Nat.lt_of_lt_of_le b (Nat.pow_le_pow_right (by decide) (by omega))
    constructor
    · unfold rne
      split <;> omega
    · intro h2
      refine Classical.byContradiction fun h3 => ?_
      have h4 := hl2 h3
      have h5 : 2 ^ p ≤ V / 2 ^ (l - e).toNat := by
        rw [Nat.le_div_iff_mul_le (Nat.two_pow_pos _), ← Nat.pow_add, show p + (l - e).toNat = bl V - 1 by omega]
        exact a
      unfold rne at h2
      omega
theorem rne_far {V s : Nat} (h : 2 * V < 2 ^ s) : rne V s = 0 := by
  unfold rne
  rw [Nat.div_eq_of_lt (by omega), Nat.mod_eq_of_lt (by omega), if_neg (by omega)]
/-- One bit more that says 'and something'. -/
theorem rne_more (V s : Nat) : rne (2 * V + 1) (s + 2) = V / 2 ^ (s + 1) + (if V % 2 ^ (s + 1) ≥ 2 ^ s then 1 else 0) := by
  have h := rne_stick (2 * V + 1) 0 (s + 2) (by omega)
  unfold rne
  have g1 : 2 ^ (s + 2) = 2 * 2 ^ (s + 1) := by rw [Nat.pow_succ 2 (s + 1), Nat.mul_comm]
  have g2 : 2 ^ (s + 1) = 2 * 2 ^ s := by rw [Nat.pow_succ, Nat.mul_comm]
  have e1 : (2 * V + 1) / 2 ^ (s + 2) = V / 2 ^ (s + 1) := by
    rw [g1, ← Nat.div_div_eq_div_mul]
    congr 1
    omega
  have e2 : (2 * V + 1) % 2 ^ (s + 2) = 2 * (V % 2 ^ (s + 1)) + 1 := by
    have h1 := Nat.div_add_mod (2 * V + 1) (2 ^ (s + 2))
    have h2 := Nat.div_add_mod V (2 ^ (s + 1))
    rw [e1, g1, Nat.mul_assoc] at h1
    rw [g1]
    generalize 2 ^ (s + 1) * (V / 2 ^ (s + 1)) = X at *
    omega
  rw [e1, e2, g1, g2]
  congr 1
  have hp := Nat.two_pow_pos s
  by_cases c : V % (2 * 2 ^ s) ≥ 2 ^ s
  · rw [if_pos c, if_pos (by omega)]
  · rw [if_neg c, if_neg (by omega)]
theorem low_scale {p : Nat} {L : Int} {V : Nat} {e : Int} (hV : V ≠ 0) (d : Nat) : low p L (V * 2 ^ d) (e - d) = low p L V e := by
  unfold low
  rw [bl_shift hV]
  congr 1
  omega
theorem rb_scale (p : Nat) (L : Int) (I V : Nat) (e : Int) (d : Nat) : rb p L I (V * 2 ^ d) (e - d) = rb p L I V e := by
  have hd := Nat.two_pow_pos d
  by_cases hV : V = 0
  · subst hV; simp [rb]
  · have hV' : V * 2 ^ d ≠ 0 := Nat.mul_ne_zero hV (by omega)
    unfold rb
    rw [if_neg hV, if_neg hV']
    congr 1
    unfold mag
    rw [low_scale hV]
    congr 1
    generalize low p L V e = l
    by_cases c : l ≤ e
    · rw [if_pos c]
      by_cases c2 : l ≤ e - d
      · rw [if_pos c2, Nat.mul_assoc, ← Nat.pow_add]
        congr 2
        omega
      · rw [if_neg c2]
        have e1 : d = (e - l).toNat + (l - (e - d)).toNat := by omega
        conv => lhs; rw [e1, Nat.pow_add, ← Nat.mul_assoc]
        have := rne_scale (V * 2 ^ (e - l).toNat) 0 (l - (e - (((e - l).toNat + (l - (e - d)).toNat : Nat) : Int))).toNat
        rw [Nat.zero_add, rne_zero] at this
        have e2 : (l - (e - (((e - l).toNat + (l - (e - d)).toNat : Nat) : Int))).toNat = (l - (e - d)).toNat := by omega
        rw [e2] at this
        rw [e2]
        exact this
    · rw [if_neg c, if_neg (by omega)]
      have := rne_scale V (l - e).toNat d
      rw [show (l - (e - d)).toNat = (l - e).toNat + d by omega]
      exact this
/-- What lies far behind counts as one bit, where the number has bits enough. -/
theorem rb_stick (p : Nat) (L : Int) (I N d : Nat) (e : Int) (h : p + 2 ≤ bl (N / 2 ^ d)) : rb p L I (stick N d) (e + d - 1) = rb p L I N e := by
  have hq : N / 2 ^ d ≠ 0 := fun h0 => by rw [h0] at h; simp [bl] at h
  have hN : N ≠ 0 := fun h0 => by rw [h0] at hq; simp at hq
  have hs : stick N d ≠ 0 := by unfold stick; omega
  have hb : bl (stick N d) = bl (N / 2 ^ d) + 1 := by
    unfold stick
    exact bl_odd _ _ (by split <;> omega) hq
  have hbN := bl_div hq
  unfold rb
  rw [if_neg hs, if_neg hN]
  congr 1
  have hl : low p L (stick N d) (e + d - 1) = low p L N e := by
    unfold low
    rw [hb, hbN]
    congr 1
    omega
  unfold mag
  rw [hl]
  congr 1
  have h1 : e + d + 1 ≤ low p L N e := by unfold low; omega
  generalize low p L N e = l at h1
  rw [if_neg (by omega), if_neg (by omega)]
  have := rne_stick N d (l - e - d).toNat (by omega)
  rw [show (l - (e + d - 1)).toNat = (l - e - d).toNat + 1 by omega, this]
  congr 1
  omega
end Go.Proofs.Ytdeogandkgiggaa.Fp
