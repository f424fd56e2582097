/- Whole numbers rounded to eleven bits: sums and their errors (Sterbenz, Dekker, Knuth). -/
import Derived.Test.YtdeogandkgiggaaFp
namespace Go.Proofs.Ytdeogandkgiggaa.Fz
open Go.Proofs.Ytdeogandkgiggaa.Fp
set_option linter.unusedSimpArgs false
set_option linter.unusedVariables false
/-- The place of the last bit that is kept. -/
def G (z : Int) : Nat := bl z.natAbs - 11
def Rn (V g : Nat) : Nat := rne V g * 2 ^ g
def R (z : Int) : Int := if z < 0 then -((Rn z.natAbs (G z) : Nat) : Int) else ((Rn z.natAbs (G z) : Nat) : Int)
def Rep (z : Int) : Prop := ∃ m j : Nat, m < 2048 ∧ z.natAbs = m * 2 ^ j
theorem rep_neg {z : Int} (h : Rep z) : Rep (-z) := by obtain ⟨m, j, a, b⟩ := h; exact ⟨m, j, a, by rw [Int.natAbs_neg]; exact b⟩
theorem rep_zero : Rep 0 := ⟨0, 0, by decide, rfl⟩
theorem dvd_abs (t : Nat) (z : Int) : ((2 ^ t : Nat) : Int) ∣ z ↔ 2 ^ t ∣ z.natAbs := Int.ofNat_dvd_left
/-- A great number is a multiple. -/
theorem rep_dvd {z : Int} (h : Rep z) (t : Nat) (hz : 2 ^ (10 + t) ≤ z.natAbs) : ((2 ^ t : Nat) : Int) ∣ z := by
  obtain ⟨m, j, hm, e⟩ := h
  rw [dvd_abs, e]
  have h1 : m * 2 ^ j < 2 ^ 11 * 2 ^ j := Nat.mul_lt_mul_of_pos_right hm (Nat.two_pow_pos j)
  rw [← Nat.pow_add] at h1
  rw [e] at hz
  have h2 : 10 + t < 11 + j := (Nat.pow_lt_pow_iff_right (by decide : 1 < 2)).1 (Nat.lt_of_le_of_lt hz h1)
  exact Nat.dvd_trans (Nat.pow_dvd_pow 2 (by omega)) (Nat.dvd_mul_left _ _)
/-- A multiple that is not too great has its bits. -/
theorem dvd_rep {z : Int} (t : Nat) (h : ((2 ^ t : Nat) : Int) ∣ z) (hz : z.natAbs ≤ 2 ^ (11 + t)) : Rep z := by
  rw [dvd_abs] at h
  obtain ⟨m, hm⟩ := h
  have hp := Nat.two_pow_pos t
  by_cases c : z.natAbs = 2 ^ (11 + t)
  · exact ⟨1, 11 + t, by decide, by rw [c, Nat.one_mul]⟩
  · refine ⟨m, t, ?_, by rw [hm, Nat.mul_comm]⟩
    have h1 : 2 ^ t * m < 2 ^ t * 2 ^ 11 := by
      rw [← hm, ← Nat.pow_add, Nat.add_comm t 11]
      omega
    exact Nat.lt_of_mul_lt_mul_left h1
/-- In full. -/
theorem rep_full {z : Int} (h : Rep z) : ∃ j : Nat, ((2 ^ j : Nat) : Int) ∣ z ∧ z.natAbs < 2 ^ (11 + j) ∧ (j = 0 ∨ 2 ^ (10 + j) ≤ z.natAbs) := by
  refine ⟨G z, ?_⟩
  by_cases hz : z.natAbs < 2 ^ 11
  · have hb := bl_le hz
    have hG : G z = 0 := by unfold G; omega
    rw [hG]
    exact ⟨⟨z, by simp⟩, hz, Or.inl rfl⟩
  · have h0 : z.natAbs ≠ 0 := by
      intro h0; rw [h0] at hz; exact hz (by decide)
    obtain ⟨b1, b2, b3⟩ := bl_pos h0
    have hb := bl_ge (m := z.natAbs) (n := 11) (by omega)
    have e1 : bl z.natAbs - 1 = 10 + G z := by unfold G; omega
    have e2 : bl z.natAbs = 11 + G z := by unfold G; omega
    rw [e1] at b1
    rw [e2] at b2
    exact ⟨rep_dvd h _ b1, b2, Or.inr b1⟩
theorem G_low {z : Int} (h : 1 ≤ G z) : 2 ^ (10 + G z) ≤ z.natAbs ∧ z.natAbs < 2 ^ (11 + G z) := by
  have h0 : z.natAbs ≠ 0 := by
    intro h0
    unfold G at h
    rw [h0] at h
    simp [bl] at h
  obtain ⟨b1, b2, b3⟩ := bl_pos h0
  have e1 : bl z.natAbs - 1 = 10 + G z := by unfold G at h ⊢; omega
  have e2 : bl z.natAbs = 11 + G z := by unfold G at h ⊢; omega
  rw [e1] at b1
  rw [e2] at b2
  exact ⟨b1, b2⟩
theorem Rn_near (V g : Nat) : Rn V g ≤ V + 2 ^ g ∧ 2 * Rn V g ≤ 2 * V + 2 ^ g ∧ 2 * V ≤ 2 * Rn V g + 2 ^ g := by
  unfold Rn rne
  have hd := Nat.div_add_mod V (2 ^ g)
  have hr := Nat.mod_lt V (Nat.two_pow_pos g)
  rw [Nat.mul_comm] at hd
  split
  · rw [Nat.add_mul, Nat.one_mul]
    omega
  · rw [Nat.add_zero]
    omega
theorem R_near (z : Int) : -((2 ^ G z : Nat) : Int) ≤ 2 * (R z - z) ∧ 2 * (R z - z) ≤ ((2 ^ G z : Nat) : Int) := by
  obtain ⟨h1, h2, h3⟩ := Rn_near z.natAbs (G z)
  unfold R
  split <;> omega
theorem R_dvd (z : Int) : ((2 ^ G z : Nat) : Int) ∣ R z := by
  rw [dvd_abs]
  have : (R z).natAbs = Rn z.natAbs (G z) := by unfold R; split <;> omega
  rw [this]
  exact Nat.dvd_mul_left _ _
/-- Two multiples that are less than a step apart. -/
theorem mult_eq {P x : Int} (hP : 0 < P) (h : P ∣ x) (h1 : -P < x) (h2 : x < P) : x = 0 := by
  obtain ⟨c, hc⟩ := h
  have h3 : c < 1 := by
    refine Classical.byContradiction fun h => ?_
    have : P * 1 ≤ P * c := Int.mul_le_mul_of_nonneg_left (by omega) (by omega)
    omega
  have h4 : -1 < c := by
    refine Classical.byContradiction fun h => ?_
    have : P * c ≤ P * (-1) := Int.mul_le_mul_of_nonneg_left (by omega) (by omega)
    omega
  have : c = 0 := by omega
  rw [hc, this, Int.mul_zero]
theorem R_mult {z : Int} (h : ((2 ^ G z : Nat) : Int) ∣ z) : R z = z := by
  have hp := Nat.two_pow_pos (G z)
  obtain ⟨n1, n2⟩ := R_near z
  have := mult_eq (P := ((2 ^ G z : Nat) : Int)) (x := R z - z) (by omega) (Int.dvd_sub (R_dvd z) h) (by omega) (by omega)
  omega
theorem R_rep {z : Int} (h : Rep z) : R z = z := by
  apply R_mult
  by_cases c : 1 ≤ G z
  · exact rep_dvd h _ (G_low c).1
  · have : G z = 0 := by omega
    rw [this]
    exact ⟨z, by simp⟩
theorem rep_R (z : Int) : Rep (R z) := by
  refine dvd_rep (G z) (R_dvd z) ?_
  obtain ⟨n1, n2⟩ := R_near z
  obtain ⟨h1, h2, h3⟩ := Rn_near z.natAbs (G z)
  have hR : (R z).natAbs = Rn z.natAbs (G z) := by unfold R; split <;> omega
  have e : 2 ^ (11 + G z) = 2048 * 2 ^ G z := by rw [Nat.pow_add]
  have hlt : z.natAbs < 2 ^ (11 + G z) := by
    by_cases c : 1 ≤ G z
    · exact (G_low c).2
    · have hb : bl z.natAbs ≤ 11 := by unfold G at c; omega
      have h0 : G z = 0 := by omega
      rw [h0]
      exact Nat.lt_of_lt_of_le (bl_lt _) (Nat.pow_le_pow_right (by decide) hb)
  -- both are multiples
  have hd : 2 ^ G z ∣ Rn z.natAbs (G z) := Nat.dvd_mul_left _ _
  obtain ⟨c, hc⟩ := hd
  rw [hR, hc, e, Nat.mul_comm 2048]
  apply Nat.mul_le_mul_left
  refine Classical.byContradiction fun h => ?_
  have h4 : 2 ^ G z * 2049 ≤ 2 ^ G z * c := Nat.mul_le_mul_left _ (by omega)
  have hp := Nat.two_pow_pos (G z)
  omega
/-- No number of eleven bits is nearer. -/
theorem R_best {z f : Int} (hf : Rep f) : (R z - z).natAbs ≤ (z - f).natAbs := by
  obtain ⟨n1, n2⟩ := R_near z
  have hp := Nat.two_pow_pos (G z)
  have mult : ∀ f : Int, ((2 ^ G z : Nat) : Int) ∣ f → (R z - z).natAbs ≤ (z - f).natAbs := by
    intro f hd
    refine Classical.byContradiction fun h => ?_
    have := mult_eq (P := ((2 ^ G z : Nat) : Int)) (x := R z - f) (by omega) (Int.dvd_sub (R_dvd z) hd) (by omega) (by omega)
    omega
  by_cases c : 1 ≤ G z
  · obtain ⟨l1, l2⟩ := G_low c
    by_cases c2 : 2 ^ (10 + G z) ≤ f.natAbs
    · exact mult f (rep_dvd hf _ c2)
    · have e : 2 ^ (10 + G z) = 1024 * 2 ^ G z := by rw [Nat.pow_add]
      have hd : ((2 ^ G z : Nat) : Int) ∣ ((2 ^ (10 + G z) : Nat) : Int) := ⟨1024, by rw [e]; omega⟩
      by_cases s : 0 ≤ z
      · have := mult _ hd
        omega
      · have := mult _ (Int.dvd_neg.2 hd)
        omega
  · have h0 : G z = 0 := by omega
    have : R z = z := R_mult (by rw [h0]; exact ⟨z, by simp⟩)
    rw [this]
    simp
theorem R_neg (z : Int) : R (-z) = -(R z) := by
  have hG : G (-z) = G z := by unfold G; rw [Int.natAbs_neg]
  unfold R
  rw [hG, Int.natAbs_neg]
  by_cases c : z = 0
  · subst c
    simp [Rn, rne, G, bl]
  · by_cases c2 : z < 0
    · rw [if_pos c2, if_neg (by omega)]; omega
    · rw [if_neg c2, if_pos (by omega)]
/-- Sterbenz. -/
theorem sterbenz {a b : Int} (ha : Rep a) (hb : Rep b) (h1 : 0 ≤ a) (h2 : a ≤ b) (h3 : b ≤ 2 * a) : Rep (b - a) := by
  obtain ⟨j, d, l, u⟩ := rep_full ha
  refine dvd_rep j (Int.dvd_sub ?_ d) (by omega)
  rcases u with u | u
  · rw [u]; exact ⟨b, by simp⟩
  · exact rep_dvd hb _ (by omega)
/-- The error of a sum has its bits. -/
theorem err_rep {a b : Int} (ha : Rep a) (hb : Rep b) : Rep (R (a + b) - (a + b)) := by
  obtain ⟨j, d, l, -⟩ := rep_full ha
  obtain ⟨i, e, k, -⟩ := rep_full hb
  have best1 := R_best (z := a + b) ha
  have best2 := R_best (z := a + b) hb
  have key : ∀ t : Nat, ((2 ^ t : Nat) : Int) ∣ a + b → (R (a + b) - (a + b)).natAbs ≤ 2 ^ (11 + t) → Rep (R (a + b) - (a + b)) := by
    intro t hd hl
    by_cases c : t ≤ G (a + b)
    · refine dvd_rep t (Int.dvd_sub ?_ hd) hl
      have : ((2 ^ t : Nat) : Int) ∣ ((2 ^ G (a + b) : Nat) : Int) := Int.natCast_dvd_natCast.2 (Nat.pow_dvd_pow 2 c)
      exact Int.dvd_trans this (R_dvd _)
    · have : ((2 ^ G (a + b) : Nat) : Int) ∣ ((2 ^ t : Nat) : Int) := Int.natCast_dvd_natCast.2 (Nat.pow_dvd_pow 2 (by omega))
      rw [R_mult (Int.dvd_trans this hd), Int.sub_self]
      exact rep_zero
  by_cases c : j ≤ i
  · have h1 : ((2 ^ j : Nat) : Int) ∣ b := Int.dvd_trans (Int.natCast_dvd_natCast.2 (Nat.pow_dvd_pow 2 c)) e
    exact key j (Int.dvd_add d h1) (by omega)
  · have h1 : ((2 ^ i : Nat) : Int) ∣ a := Int.dvd_trans (Int.natCast_dvd_natCast.2 (Nat.pow_dvd_pow 2 (by omega))) d
    exact key i (Int.dvd_add h1 e) (by omega)
/-- Dekker: what is taken of the lesser number. -/
theorem fast {x y : Int} (hx : Rep x) (hy : Rep y) (h : y.natAbs ≤ x.natAbs) : Rep (R (x + y) - x) := by
  by_cases c : R (x + y) = x + y
  · rw [c, show x + y - x = y by omega]; exact hy
  · have hg : 1 ≤ G (x + y) := by
      refine Classical.byContradiction fun h0 => c (R_mult ?_)
      have : G (x + y) = 0 := by omega
      rw [this]
      exact ⟨x + y, by simp⟩
    obtain ⟨l1, l2⟩ := G_low hg
    obtain ⟨n1, n2⟩ := R_near (x + y)
    have hd := R_dvd (x + y)
    have hm : ¬ ((2 ^ G (x + y) : Nat) : Int) ∣ x + y := fun h => c (R_mult h)
    obtain ⟨t, ht⟩ : ∃ t, G (x + y) = t + 1 := ⟨G (x + y) - 1, by omega⟩
    rw [ht] at l1 l2 n1 n2 hd hm
    have e0 : 2 ^ (t + 1) = 2 * 2 ^ t := by rw [Nat.pow_succ, Nat.mul_comm]
    have e1 : 2 ^ (10 + (t + 1)) = 2048 * 2 ^ t := by rw [Nat.pow_add, e0, ← Nat.mul_assoc]
    have e2 : 2 ^ (10 + t) = 1024 * 2 ^ t := by rw [Nat.pow_add]
    have e3 : 2 ^ (11 + t) = 2048 * 2 ^ t := by rw [Nat.pow_add]
    have hp := Nat.two_pow_pos t
    have dx : ((2 ^ t : Nat) : Int) ∣ x := rep_dvd hx t (by omega)
    have dR : ((2 ^ t : Nat) : Int) ∣ R (x + y) := Int.dvd_trans (Int.natCast_dvd_natCast.2 (Nat.pow_dvd_pow 2 (by omega))) hd
    have hy2 : y.natAbs < 2 ^ (10 + (t + 1)) := by
      refine Classical.byContradiction fun hc => hm ?_
      exact Int.dvd_add (rep_dvd hx _ (by omega)) (rep_dvd hy _ (by omega))
    have dd := Int.dvd_sub dR dx
    refine dvd_rep t dd ?_
    rw [dvd_abs] at dd
    obtain ⟨q, hq⟩ := dd
    rw [hq, e3, Nat.mul_comm 2048]
    apply Nat.mul_le_mul_left
    refine Classical.byContradiction fun h => ?_
    have h4 : 2 ^ t * 2049 ≤ 2 ^ t * q := Nat.mul_le_mul_left _ (by omega)
    omega
/-- What is nearer nought. -/
theorem R_ge {z a : Int} (ha : Rep a) (h : a.natAbs ≤ z.natAbs) : a.natAbs ≤ (R z).natAbs := by
  refine Classical.byContradiction fun c => ?_
  by_cases s : 0 ≤ z
  · by_cases s2 : 0 ≤ a
    · have := R_best (z := z) ha; omega
    · have := R_best (z := z) (rep_neg ha); omega
  · by_cases s2 : 0 ≤ a
    · have := R_best (z := z) (rep_neg ha); omega
    · have := R_best (z := z) ha; omega
/-- Knuth: the sum of two. -/
theorem two_sum {a b s b1 a1 da db : Int} (ha : Rep a) (hb : Rep b) (hs : s = R (a + b)) (hb1 : b1 = R (s - a)) (ha1 : a1 = R (s - b1)) (hda : da = R (a - a1)) (hdb : db = R (b - b1)) : R (da + db) = a + b - s := by
  have rs : Rep s := by rw [hs]; exact rep_R _
  have herr : Rep (a + b - s) := by
    have := rep_neg (err_rep ha hb)
    rw [← hs] at this
    rw [show a + b - s = -(s - (a + b)) by omega]
    exact this
  by_cases c : Rep (s - a)
  · have e1 : b1 = s - a := by rw [hb1, R_rep c]
    have e2 : a1 = a := by rw [ha1, e1, show s - (s - a) = a by omega, R_rep ha]
    have e3 : da = 0 := by rw [hda, e2, Int.sub_self, R_rep rep_zero]
    have e4 : db = a + b - s := by rw [hdb, e1, show b - (s - a) = a + b - s by omega, R_rep herr]
    rw [e3, e4, Int.zero_add, R_rep herr]
  · -- the second number is the greater one
    have hab : a.natAbs < b.natAbs := by
      refine Classical.byContradiction fun h => c ?_
      have := fast ha hb (by omega)
      rw [← hs] at this
      exact this
    have hinex : s ≠ a + b := fun h => c (by rw [h, show a + b - a = b by omega]; exact hb)
    have hsa : a.natAbs ≤ s.natAbs := by
      refine Classical.byContradiction fun h => ?_
      have hz : (a + b).natAbs < a.natAbs := by
        refine Classical.byContradiction fun h2 => h ?_
        rw [hs]
        exact R_ge ha (by omega)
      apply hinex
      rw [hs]
      apply R_rep
      by_cases sa : 0 ≤ a
      · have := sterbenz (a := a) (b := -b) ha (rep_neg hb) (by omega) (by omega) (by omega)
        rw [show a + b = -(-b - a) by omega]
        exact rep_neg this
      · have := sterbenz (a := -a) (b := b) (rep_neg ha) hb (by omega) (by omega) (by omega)
        rw [show a + b = b - -a by omega]
        exact this
    have r1 : Rep (b1 - s) := by
      have := fast rs (rep_neg ha) (by rw [Int.natAbs_neg]; exact hsa)
      rw [show s + -a = s - a by omega, ← hb1] at this
      exact this
    have e2 : a1 = s - b1 := by rw [ha1]; exact R_rep (by rw [show s - b1 = -(b1 - s) by omega]; exact rep_neg r1)
    have r2 : Rep (b1 - (s - a)) := by
      have := err_rep rs (rep_neg ha)
      rw [show s + -a = s - a by omega, ← hb1] at this
      exact this
    have e3 : da = b1 - (s - a) := by rw [hda, e2, show a - (s - b1) = b1 - (s - a) by omega, R_rep r2]
    have r3 : Rep (b - b1) := by
      obtain ⟨n1, n2⟩ := R_near (a + b)
      obtain ⟨m1, m2⟩ := R_near (s - a)
      rw [← hs] at n1 n2
      rw [← hb1] at m1 m2
      have hg : 1 ≤ G (a + b) := by
        refine Classical.byContradiction fun h0 => hinex ?_
        have h0 : G (a + b) = 0 := by omega
        rw [h0] at n1 n2
        have : ((2 ^ 0 : Nat) : Int) = 1 := rfl
        omega
      have hg' : 1 ≤ G (s - a) := by
        refine Classical.byContradiction fun h0 => c ?_
        have h0 : G (s - a) = 0 := by omega
        rw [h0] at m1 m2
        have : ((2 ^ 0 : Nat) : Int) = 1 := rfl
        have : b1 = s - a := by omega
        rw [← this, hb1]
        exact rep_R _
      obtain ⟨l1, l2⟩ := G_low hg
      obtain ⟨k1, k2⟩ := G_low hg'
      have db1 : ((2 ^ G (s - a) : Nat) : Int) ∣ b1 := by rw [hb1]; exact R_dvd _
      generalize G (a + b) = g at *
      generalize G (s - a) = i at *
      obtain ⟨t, rfl⟩ : ∃ t, g = t + 1 := ⟨g - 1, by omega⟩
      obtain ⟨r, rfl⟩ : ∃ r, i = r + 1 := ⟨i - 1, by omega⟩
      have e0 : 2 ^ (t + 1) = 2 * 2 ^ t := by rw [Nat.pow_succ, Nat.mul_comm]
      have f0 : 2 ^ (r + 1) = 2 * 2 ^ r := by rw [Nat.pow_succ, Nat.mul_comm]
      have e1 : 2 ^ (10 + (t + 1)) = 2048 * 2 ^ t := by rw [Nat.pow_add, e0, ← Nat.mul_assoc]
      have f1 : 2 ^ (10 + (r + 1)) = 2048 * 2 ^ r := by rw [Nat.pow_add, f0, ← Nat.mul_assoc]
      have f2 : 2 ^ (11 + (r + 1)) = 4096 * 2 ^ r := by rw [Nat.pow_add, f0, ← Nat.mul_assoc]
      have e4 : 2 ^ (10 + t) = 1024 * 2 ^ t := by rw [Nat.pow_add]
      have f4 : 2 ^ (10 + r) = 1024 * 2 ^ r := by rw [Nat.pow_add]
      have e5 : 2 ^ (11 + t) = 2048 * 2 ^ t := by rw [Nat.pow_add]
      have f5 : 2 ^ (11 + r) = 2048 * 2 ^ r := by rw [Nat.pow_add]
      have hpt := Nat.two_pow_pos t
      have hpr := Nat.two_pow_pos r
      by_cases cc : t < r
      · have hle : 2 ^ (t + 1) ≤ 2 ^ r := Nat.pow_le_pow_right (by decide) cc
        have dbb : ((2 ^ r : Nat) : Int) ∣ b := rep_dvd hb r (by omega)
        have dbb1 : ((2 ^ r : Nat) : Int) ∣ b1 := Int.dvd_trans (Int.natCast_dvd_natCast.2 (Nat.pow_dvd_pow 2 (by omega))) db1
        exact dvd_rep r (Int.dvd_sub dbb dbb1) (by omega)
      · have dbb : ((2 ^ t : Nat) : Int) ∣ b := rep_dvd hb t (by omega)
        have hle : 2 ^ r ≤ 2 ^ t := Nat.pow_le_pow_right (by decide) (by omega)
        by_cases c2 : r = t
        · subst c2
          have dbb1 : ((2 ^ r : Nat) : Int) ∣ b1 := Int.dvd_trans (Int.natCast_dvd_natCast.2 (Nat.pow_dvd_pow 2 (by omega))) db1
          exact dvd_rep r (Int.dvd_sub dbb dbb1) (by omega)
        · -- r < t: r + 1 ≤ t
          have dbb' : ((2 ^ (r + 1) : Nat) : Int) ∣ b := Int.dvd_trans (Int.natCast_dvd_natCast.2 (Nat.pow_dvd_pow 2 (by omega))) dbb
          refine dvd_rep (r + 1) (Int.dvd_sub dbb' db1) ?_
          -- the places are not far apart
          omega
    have e4 : db = b - b1 := by rw [hdb, R_rep r3]
    rw [e3, e4, show b1 - (s - a) + (b - b1) = a + b - s by omega, R_rep herr]
end Go.Proofs.Ytdeogandkgiggaa.Fz
