/- Halves as whole numbers (of 2^-24), exactly. -/
import Derived.Test.YtdeogandkgiggaaFc
import Derived.Test.YtdeogandkgiggaaQx5
namespace Go.Proofs.Ytdeogandkgiggaa.Fx
open Go.RowKit Go.Proofs.Ytdeogandkgiggaa.Q Go.Proofs.YtdeogandkgiggaaW.PrintWords Go.Proofs.YtdeogandkgiggaaW.PrintLast Go.Proofs.YtdeogandkgiggaaW.PrintMore Go.Proofs.Ytdeogandkgiggaa.Mb Go.Proofs.Ytdeogandkgiggaa.Fp Go.Proofs.Ytdeogandkgiggaa.Fl Go.Proofs.Ytdeogandkgiggaa.Fr Go.Proofs.Ytdeogandkgiggaa.Fo Go.Proofs.Ytdeogandkgiggaa.Fe Go.Proofs.Ytdeogandkgiggaa.Fc
set_option linter.unusedSimpArgs false
set_option linter.unusedVariables false
theorem shl_i64 (x y : Int) (j : Nat) (hy : y = j) (hj : j ≤ 64) : shl .i64 x y = wrap64 (x * 2 ^ j) := by
  subst hy
  have e : (IntKind.i64).bits = 64 := rfl
  unfold shl
  rw [i64_w, e, Int.toNat_natCast, Nat.min_eq_left hj]
/-- How much it is, without sign. -/
def MX (b : Int) : Nat := opM F16 b * 2 ^ (opE F16 b + 24).toNat
def EX (b : Int) : Int := if opS F16 b = true then -(MX b : Int) else (MX b : Int)
def fnt (b : Int) : Bool := !(opI F16 b || opN F16 b)
theorem f16_E (b : Int) (h0 : 0 ≤ b) : -24 ≤ opE F16 b ∧ opE F16 b ≤ 5 := by
  obtain ⟨r1, r2, r3, r4⟩ := ranges isF16 b h0
  unfold opE
  simp only [F16] at *
  constructor <;> (repeat' split) <;> omega
theorem MX_lt (b : Int) (h0 : 0 ≤ b) : MX b < 2 ^ 40 := by
  have h1 := (opM_lt isF16 b h0).1
  have h2 := f16_E b h0
  have h3 : opM F16 b < 2 ^ 11 := h1
  unfold MX
  have h4 : 2 ^ (opE F16 b + 24).toNat ≤ 2 ^ 29 := Nat.pow_le_pow_right (by decide) (by omega)
  have h5 : opM F16 b * 2 ^ (opE F16 b + 24).toNat ≤ (2 ^ 11 - 1) * 2 ^ 29 := Nat.mul_le_mul (by omega) h4
  omega
theorem EX_range (b : Int) (h0 : 0 ≤ b) : -1099511627776 < EX b ∧ EX b < 1099511627776 := by
  have := MX_lt b h0
  unfold EX
  split <;> omega
theorem exact_ok (b : Int) (h0 : 0 ≤ b) (h1 : b ≤ 4294967295) : laws_exact.f b = some (if fnt b = true then (EX b, true) else (0, false)) := by
  have h16 : spec_l4Kind.f 16 = some (F16.x, F16.p, true) := rfl
  have he := f16_E b h0
  have hm := (opM_lt isF16 b h0).2
  have hM := MX_lt b h0
  unfold laws_exact.f spec_FloatParts.f fnt
  rw [h16]
  simp only [Option.bind_some, if_true]
  have ho : spec_l4K_open.f F16.x F16.p b = _ := spec_open isF16 b h0 h1
  rw [ho]
  simp only [Option.bind_some]
  by_cases ci : opI F16 b = true
  · rw [if_pos ci, ci]
    rfl
  · rw [if_neg ci]
    by_cases cn : opN F16 b = true
    · rw [if_pos cn, cn, Bool.or_true]
      rfl
    · rw [if_neg cn, Bool.eq_false_iff.2 ci, Bool.eq_false_iff.2 cn]
      simp only [Option.bind_some, if_true, Bool.or_self, Bool.not_false]
      obtain ⟨d, hd⟩ : ∃ d : Nat, opE F16 b + 24 = (d : Int) := ⟨(opE F16 b + 24).toNat, by omega⟩
      have hMe : ((opM F16 b : Nat) : Int) * 2 ^ d = ((MX b : Nat) : Int) := by
        unfold MX
        rw [hd, Int.toNat_natCast, Int.natCast_mul, Int.natCast_pow]
        rfl
      rw [w64 (n := opE F16 b + 24) (by omega) (by omega), hd, wu64 (n := (d : Int)) (by omega) (by omega), if_pos (by omega), w64 (n := ((opM F16 b : Nat) : Int)) (by omega) (by omega), shl_i64 _ _ d rfl (by omega), hMe, w64 (n := ((MX b : Nat) : Int)) (by omega) (by omega), w64 (n := -((MX b : Nat) : Int)) (by omega) (by omega)]
      unfold EX
      split <;> rfl
/-- By the lower bits. -/
def Mv (v : Nat) : Nat := if v / 1024 = 0 then v % 1024 else (1024 + v % 1024) * 2 ^ (v / 1024 - 1)
theorem Mv_step (v : Nat) : Mv v < Mv (v + 1) := by
  unfold Mv
  by_cases c : v % 1024 = 1023
  · have e1 : (v + 1) / 1024 = v / 1024 + 1 := by omega
    have e2 : (v + 1) % 1024 = 0 := by omega
    rw [e1, e2, if_neg (show ¬ (v / 1024 + 1 = 0) by omega), Nat.add_zero, Nat.add_sub_cancel, c]
    by_cases z : v / 1024 = 0
    · rw [if_pos z, z]; decide
    · rw [if_neg z]
      obtain ⟨t, ht⟩ : ∃ t, v / 1024 = t + 1 := ⟨v / 1024 - 1, by omega⟩
      rw [ht, Nat.add_sub_cancel, Nat.pow_succ]
      have := Nat.two_pow_pos t
      omega
  · have e1 : (v + 1) / 1024 = v / 1024 := by omega
    have e2 : (v + 1) % 1024 = v % 1024 + 1 := by omega
    rw [e1, e2]
    by_cases z : v / 1024 = 0
    · rw [if_pos z, if_pos z]; omega
    · rw [if_neg z, if_neg z]
      exact Nat.mul_lt_mul_of_pos_right (by omega) (Nat.two_pow_pos _)
theorem Mv_lt {u v : Nat} (h : u < v) : Mv u < Mv v := by
  induction v with
  | zero => omega
  | succ v ih =>
    by_cases c : u = v
    · subst c; exact Mv_step u
    · exact Nat.lt_trans (ih (by omega)) (Mv_step v)
theorem Mv_lt_iff (u v : Nat) : Mv u < Mv v ↔ u < v := by
  refine ⟨fun h => ?_, Mv_lt⟩
  refine Classical.byContradiction fun c => ?_
  by_cases e : u = v
  · subst e; omega
  · have := Mv_lt (show v < u by omega); omega
theorem MX_v (b : Int) (h0 : 0 ≤ b) (hf : fnt b = true) : MX b = Mv (b % 32768).toNat := by
  have hi : opI F16 b = false ∧ opN F16 b = false := by
    unfold fnt at hf
    cases h1 : opI F16 b <;> cases h2 : opN F16 b <;> rw [h1, h2] at hf <;> first | exact ⟨rfl, rfl⟩ | cases hf
  have hx := not_special hi.1 hi.2
  obtain ⟨r1, r2, r3, r4⟩ := ranges isF16 b h0
  have hc := opM_cast isF16 b h0
  rw [if_neg hx] at hc
  have hE : opE F16 b = if ex F16 b = 0 then F16.L else F16.L + ex F16 b - 1 := by unfold opE; rw [if_neg hx]
  have e1 : ex F16 b = b / 1024 % 32 := rfl
  have e2 : fr F16 b = b % 1024 := rfl
  have e3 : F16.L = -24 := rfl
  have e4 : F16.A = 1024 := rfl
  have q1 : (((b % 32768).toNat / 1024 : Nat) : Int) = ex F16 b := by rw [e1]; omega
  have q2 : (((b % 32768).toNat % 1024 : Nat) : Int) = fr F16 b := by rw [e2]; omega
  unfold MX Mv
  by_cases c : ex F16 b = 0
  · rw [if_pos c] at hc hE
    rw [if_pos (by omega), hE, e3]
    simp
    omega
  · rw [if_neg c] at hc hE
    rw [if_neg (by omega), hE, e3]
    rw [show (-24 + ex F16 b - 1 + 24).toNat = (b % 32768).toNat / 1024 - 1 by omega]
    congr 1
    omega
theorem fnt_iff (b : Int) : fnt b = true ↔ opI F16 b = false ∧ opN F16 b = false := by
  unfold fnt
  cases opI F16 b <;> cases opN F16 b <;> decide
/-- Only the lowest 16 bits are seen. -/
theorem EX_mod (b : Int) (h0 : 0 ≤ b) : EX (b % 65536) = EX b ∧ fnt (b % 65536) = fnt b := by
  obtain ⟨m1, m2, m3⟩ := op_mod isF16 b h0
  rw [show 2 * F16.C = 65536 from rfl] at m1 m2 m3
  unfold EX MX fnt opM opE opI opN
  rw [m1, m2, m3]
  exact ⟨rfl, rfl⟩
end Go.Proofs.Ytdeogandkgiggaa.Fx
