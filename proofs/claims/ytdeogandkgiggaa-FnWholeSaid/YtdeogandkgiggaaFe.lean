/- Floats that were rounded, opened again; a float told anew is itself; whole parts. -/
import Derived.Test.YtdeogandkgiggaaFo
namespace Go.Proofs.Ytdeogandkgiggaa.Fe
open Go.RowKit Go.Proofs.Ytdeogandkgiggaa.Q Go.Proofs.YtdeogandkgiggaaW.PrintWords Go.Proofs.YtdeogandkgiggaaW.PrintLast Go.Proofs.YtdeogandkgiggaaW.PrintMore Go.Proofs.Ytdeogandkgiggaa.Mb Go.Proofs.Ytdeogandkgiggaa.Fp Go.Proofs.Ytdeogandkgiggaa.Fl Go.Proofs.Ytdeogandkgiggaa.Fr Go.Proofs.Ytdeogandkgiggaa.Fo
set_option linter.unusedSimpArgs false
set_option linter.unusedVariables false
theorem parts {F : Fm} (h : IsF F) (neg : Bool) (v : Int) (h0 : 0 ≤ v) (h1 : v < F.C) : opS F (sg F neg + v) = neg ∧ ex F (sg F neg + v) = v / F.A ∧ fr F (sg F neg + v) = v % F.A := by
  unfold opS ex fr sg
  rcases h with rfl | rfl
  · have h2 : v < 32768 := h1
    rw [show F16.C = 32768 from rfl, show F16.A = 1024 from rfl, show F16.B = 32 from rfl]
    cases neg
    · rw [if_neg (by decide)]
      exact ⟨decide_eq_false (by omega), by omega, by omega⟩
    · rw [if_pos rfl]
      exact ⟨decide_eq_true (by omega), by omega, by omega⟩
  · have h2 : v < 2147483648 := h1
    rw [show F32.C = 2147483648 from rfl, show F32.A = 8388608 from rfl, show F32.B = 256 from rfl]
    cases neg
    · rw [if_neg (by decide)]
      exact ⟨decide_eq_false (by omega), by omega, by omega⟩
    · rw [if_pos rfl]
      exact ⟨decide_eq_true (by omega), by omega, by omega⟩
/-- The bits of a float, put together. -/
theorem whole_bits {F : Fm} (h : IsF F) (b : Int) (h0 : 0 ≤ b) : b % (2 * F.C) = sg F (opS F b) + (fr F b + ex F b * F.A) := by
  unfold opS ex fr sg
  rcases h with rfl | rfl
  · rw [show F16.C = 32768 from rfl, show F16.A = 1024 from rfl, show F16.B = 32 from rfl]
    by_cases c : b / 32768 % 2 = 1
    · rw [decide_eq_true c, if_pos rfl]; omega
    · rw [decide_eq_false c, if_neg (by decide)]; omega
  · rw [show F32.C = 2147483648 from rfl, show F32.A = 8388608 from rfl, show F32.B = 256 from rfl]
    by_cases c : b / 2147483648 % 2 = 1
    · rw [decide_eq_true c, if_pos rfl]; omega
    · rw [decide_eq_false c, if_neg (by decide)]; omega
theorem not_special {F : Fm} {b : Int} (hi : opI F b = false) (hn : opN F b = false) : ex F b ≠ F.B - 1 := by
  intro z3
  unfold opI at hi
  unfold opN at hn
  have z1 := of_decide_eq_false hi
  have z2 := of_decide_eq_false hn
  by_cases c : fr F b = 0
  · exact z1 ⟨z3, c⟩
  · exact z2 ⟨z3, c⟩
theorem special {F : Fm} {b : Int} (hx : ex F b ≠ F.B - 1) : opI F b = false ∧ opN F b = false := ⟨decide_eq_false fun h => hx h.1, decide_eq_false fun h => hx h.1⟩
/-- A finite float told anew is itself. -/
theorem fin_self {F : Fm} (h : IsF F) (b : Int) (h0 : 0 ≤ b) (hi : opI F b = false) (hn : opN F b = false) : fin F (opS F b) (opM F b) (opE F b) = b % (2 * F.C) := by
  have hx := not_special hi hn
  obtain ⟨r1, r2, r3, r4⟩ := ranges h b h0
  obtain ⟨f1, f2, f3, f4, f5, f6, -⟩ := facts h
  obtain ⟨g1, g2, g3, g4, g5, g6, g7, g8⟩ := facts2 h
  have hm := opM_cast h b h0
  rw [if_neg hx] at hm
  rw [whole_bits h b h0]
  have hlt := (opM_lt h b h0).1
  unfold fin
  congr 1
  have key : ((rb F.P F.L F.I (opM F b) (opE F b) : Nat) : Int) = fr F b + ex F b * F.A := by
    unfold rb
    by_cases z : opM F b = 0
    · rw [if_pos z]
      by_cases c : ex F b = 0
      · rw [if_pos c] at hm
        rw [c, Int.zero_mul]
        omega
      · rw [if_neg c] at hm
        omega
    · rw [if_neg z]
      have hfrA : fr F b + ex F b * F.A < F.I := by
        have : (ex F b + 1) * F.A ≤ (F.B - 1) * F.A := Int.mul_le_mul_of_nonneg_right (by omega) (by omega)
        rw [← g5, Int.add_mul, Int.one_mul] at this
        omega
      have hmag : ((mag F.P F.L (opM F b) (opE F b) : Nat) : Int) = fr F b + ex F b * F.A := by
        unfold mag
        by_cases c : ex F b = 0
        · rw [if_pos c] at hm
          have he : opE F b = F.L := by unfold opE; rw [if_neg hx, if_pos c]
          have hb : bl (opM F b) ≤ F.P := bl_le (by apply Int.ofNat_lt.1; rw [← f2]; omega)
          have hl : low F.P F.L (opM F b) (opE F b) = F.L := by unfold low; rw [he]; omega
          rw [hl, he, if_pos (Int.le_refl _), Int.sub_self, c, Int.zero_mul]
          simp
          omega
        · rw [if_neg c] at hm
          have he : opE F b = F.L + ex F b - 1 := by unfold opE; rw [if_neg hx, if_neg c]
          have hb : bl (opM F b) = F.P + 1 := by
            refine bl_of ?_ hlt
            apply Int.ofNat_le.1
            rw [← f2]
            omega
          have hl : low F.P F.L (opM F b) (opE F b) = opE F b := by unfold low; rw [hb, he]; omega
          rw [hl, if_pos (Int.le_refl _), Int.sub_self]
          have e1 : opE F b - F.L = ex F b - 1 := by omega
          rw [e1]
          obtain ⟨t, ht⟩ : ∃ t : Nat, ex F b = (t : Int) + 1 := ⟨(ex F b - 1).toNat, by omega⟩
          have e2 : (ex F b - 1).toNat = t := by omega
          rw [e2]
          simp only [Int.toNat_zero, Nat.pow_zero, Nat.mul_one]
          rw [Int.natCast_add, Int.natCast_mul, ← f2, hm, ht, Int.add_mul, Int.one_mul]
          omega
      rw [Nat.min_eq_left (by omega)]
      exact hmag
  exact key
theorem inf_self {F : Fm} (h : IsF F) (b : Int) (h0 : 0 ≤ b) (hi : opI F b = true) : inf F (opS F b) = b % (2 * F.C) := by
  have g5 := (facts2 h).2.2.2.2.1
  rw [whole_bits h b h0]
  unfold opI at hi
  have z := of_decide_eq_true hi
  rw [z.1, z.2]
  unfold inf
  omega
/-- What was rounded to a finite float, opened. -/
theorem open_fin {F : Fm} (h : IsF F) (neg : Bool) (V : Nat) (e : Int) (hV : V ≠ 0) (hm : mag F.P F.L V e < F.I) :
    opS F (fin F neg V e) = neg ∧ opI F (fin F neg V e) = false ∧ opN F (fin F neg V e) = false ∧ ∃ c : Nat, c ≤ 1 ∧ opE F (fin F neg V e) = low F.P F.L V e + c ∧ opM F (fin F neg V e) * 2 ^ c = kv F.P F.L V e := by
  obtain ⟨f1, f2, f3, f4, f5, f6, -⟩ := facts h
  obtain ⟨g1, g2, g3, g4, g5, g6, g7, g8⟩ := facts2 h
  obtain ⟨k1, k2⟩ := kv_bounds (p := F.P) (L := F.L) (e := e) hV
  have hlow : F.L ≤ low F.P F.L V e := by unfold low; omega
  have hfin : fin F neg V e = sg F neg + ((mag F.P F.L V e : Nat) : Int) := by
    unfold fin rb
    rw [if_neg hV, Nat.min_eq_left (by omega)]
  rw [hfin]
  obtain ⟨p1, p2, p3⟩ := parts h neg ((mag F.P F.L V e : Nat) : Int) (by omega) (by omega)
  have b0 : 0 ≤ sg F neg + ((mag F.P F.L V e : Nat) : Int) := by
    have : 0 ≤ sg F neg := by unfold sg; split <;> omega
    omega
  have hmk := mag_kv F.P F.L V e
  obtain ⟨t, ht⟩ : ∃ t : Nat, low F.P F.L V e = F.L + t := ⟨(low F.P F.L V e - F.L).toNat, by omega⟩
  rw [ht, show (F.L + (t : Int) - F.L).toNat = t by omega] at hmk
  have hmk' : ((mag F.P F.L V e : Nat) : Int) = ((kv F.P F.L V e : Nat) : Int) + t * F.A := by rw [hmk, Int.natCast_add, Int.natCast_mul, f2]
  have k1' : ((kv F.P F.L V e : Nat) : Int) ≤ 2 * F.A := by rw [g1]; exact Int.ofNat_le.2 k1
  have hxB : ((mag F.P F.L V e : Nat) : Int) / F.A < F.B - 1 := by
    apply Int.ediv_lt_of_lt_mul (by omega)
    rw [← g5]
    omega
  rw [← p2] at hxB
  have hs := special (b := sg F neg + ((mag F.P F.L V e : Nat) : Int)) (F := F) (by omega)
  have hM := opM_cast h _ b0
  rw [if_neg (by omega)] at hM
  have hE : opE F (sg F neg + ((mag F.P F.L V e : Nat) : Int)) = if ex F (sg F neg + ((mag F.P F.L V e : Nat) : Int)) = 0 then F.L else F.L + ex F (sg F neg + ((mag F.P F.L V e : Nat) : Int)) - 1 := by
    unfold opE
    rw [if_neg (by omega)]
  refine ⟨p1, hs.1, hs.2, ?_⟩
  rw [hE]
  rw [p2, p3] at hM
  rw [p2, ht]
  generalize sg F neg + ((mag F.P F.L V e : Nat) : Int) = bb at *
  rw [hmk'] at hM ⊢
  by_cases c1 : kv F.P F.L V e < 2 ^ F.P
  · have ht0 : t = 0 := by have := k2 c1; omega
    subst ht0
    have c1' : ((kv F.P F.L V e : Nat) : Int) < F.A := by rw [f2]; exact Int.ofNat_lt.2 c1
    have e1 : ((kv F.P F.L V e : Nat) : Int) + (0 : Nat) * F.A = ((kv F.P F.L V e : Nat) : Int) := by simp
    rw [e1] at hM ⊢
    have e2 : ((kv F.P F.L V e : Nat) : Int) / F.A = 0 := Int.ediv_eq_zero_of_lt (by omega) c1'
    have e3 : ((kv F.P F.L V e : Nat) : Int) % F.A = ((kv F.P F.L V e : Nat) : Int) := Int.emod_eq_of_lt (by omega) c1'
    rw [e2, if_pos rfl, e3] at hM
    rw [e2, if_pos rfl]
    refine ⟨0, by omega, by omega, ?_⟩
    rw [Nat.pow_zero, Nat.mul_one]
    omega
  · have c1' : F.A ≤ ((kv F.P F.L V e : Nat) : Int) := by rw [f2]; exact Int.ofNat_le.2 (by omega)
    by_cases c2 : ((kv F.P F.L V e : Nat) : Int) = 2 * F.A
    · have e1 : ((kv F.P F.L V e : Nat) : Int) + t * F.A = ((t : Int) + 2) * F.A := by rw [c2, Int.add_mul]; omega
      rw [e1] at hM ⊢
      have e2 : ((t : Int) + 2) * F.A / F.A = (t : Int) + 2 := Int.mul_ediv_cancel _ (by omega)
      have e3 : ((t : Int) + 2) * F.A % F.A = 0 := Int.mul_emod_left _ _
      rw [e2, if_neg (by omega), e3] at hM
      rw [e2, if_neg (by omega)]
      refine ⟨1, by omega, by omega, ?_⟩
      rw [Nat.pow_one]
      omega
    · have e1 : ((kv F.P F.L V e : Nat) : Int) + t * F.A = (((kv F.P F.L V e : Nat) : Int) - F.A) + ((t : Int) + 1) * F.A := by rw [Int.add_mul, Int.one_mul]; omega
      rw [e1] at hM ⊢
      have e2 : ((((kv F.P F.L V e : Nat) : Int) - F.A) + ((t : Int) + 1) * F.A) / F.A = (t : Int) + 1 := by
        rw [Int.add_mul_ediv_right _ _ (by omega), Int.ediv_eq_zero_of_lt (by omega) (by omega)]
        omega
      have e3 : ((((kv F.P F.L V e : Nat) : Int) - F.A) + ((t : Int) + 1) * F.A) % F.A = ((kv F.P F.L V e : Nat) : Int) - F.A := by
        rw [Int.add_mul_emod_self_right]
        exact Int.emod_eq_of_lt (by omega) (by omega)
      rw [e2, if_neg (by omega), e3] at hM
      rw [e2, if_neg (by omega)]
      refine ⟨0, by omega, by omega, ?_⟩
      rw [Nat.pow_zero, Nat.mul_one]
      omega
theorem open_over {F : Fm} (h : IsF F) (neg : Bool) (V : Nat) (e : Int) (hV : V ≠ 0) (hm : F.I ≤ mag F.P F.L V e) : fin F neg V e = inf F neg := by
  unfold fin rb inf
  rw [if_neg hV, Nat.min_eq_right hm]
theorem open_inf {F : Fm} (h : IsF F) (neg : Bool) : opS F (inf F neg) = neg ∧ opI F (inf F neg) = true ∧ opN F (inf F neg) = false := by rcases h with rfl | rfl <;> cases neg <;> decide
theorem open_nan {F : Fm} (h : IsF F) : opN F (nan F) = true := by rcases h with rfl | rfl <;> decide
theorem fin_zero (F : Fm) (neg : Bool) (e : Int) : fin F neg 0 e = sg F neg := by unfold fin rb; rw [if_pos rfl]; simp
theorem open_zero {F : Fm} (h : IsF F) (neg : Bool) : opS F (sg F neg) = neg ∧ opI F (sg F neg) = false ∧ opN F (sg F neg) = false ∧ opM F (sg F neg) = 0 ∧ opE F (sg F neg) = F.L := by rcases h with rfl | rfl <;> cases neg <;> decide
/-- The bits above the sign are not seen. -/
theorem op_mod {F : Fm} (h : IsF F) (b : Int) (h0 : 0 ≤ b) : opS F (b % (2 * F.C)) = opS F b ∧ ex F (b % (2 * F.C)) = ex F b ∧ fr F (b % (2 * F.C)) = fr F b := by
  unfold opS ex fr
  rcases h with rfl | rfl
  · rw [show F16.C = 32768 from rfl, show F16.A = 1024 from rfl, show F16.B = 32 from rfl]
    exact ⟨decide_eq_decide.2 (by omega), by omega, by omega⟩
  · rw [show F32.C = 2147483648 from rfl, show F32.A = 8388608 from rfl, show F32.B = 256 from rfl]
    exact ⟨decide_eq_decide.2 (by omega), by omega, by omega⟩
end Go.Proofs.Ytdeogandkgiggaa.Fe
