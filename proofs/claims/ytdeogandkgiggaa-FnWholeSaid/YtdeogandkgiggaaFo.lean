/- Floats opened, in both texts. -/
import Derived.Test.YtdeogandkgiggaaFr
namespace Go.Proofs.Ytdeogandkgiggaa.Fo
open Go.RowKit Go.Proofs.Ytdeogandkgiggaa.Q Go.Proofs.YtdeogandkgiggaaW.PrintWords Go.Proofs.YtdeogandkgiggaaW.PrintLast Go.Proofs.YtdeogandkgiggaaW.PrintMore Go.Proofs.Ytdeogandkgiggaa.Mb Go.Proofs.Ytdeogandkgiggaa.Fp Go.Proofs.Ytdeogandkgiggaa.Fl Go.Proofs.Ytdeogandkgiggaa.Fr
set_option linter.unusedSimpArgs false
set_option linter.unusedVariables false

def ex (F : Fm) (b : Int) : Int := b / F.A % F.B
def fr (F : Fm) (b : Int) : Int := b % F.A
def opS (F : Fm) (b : Int) : Bool := decide (b / F.C % 2 = 1)
def opI (F : Fm) (b : Int) : Bool := decide (ex F b = F.B - 1 ∧ fr F b = 0)
def opN (F : Fm) (b : Int) : Bool := decide (ex F b = F.B - 1 ∧ fr F b ≠ 0)
def opM (F : Fm) (b : Int) : Nat := (if ex F b = F.B - 1 then 0 else if ex F b = 0 then fr F b else fr F b + F.A).toNat
def opE (F : Fm) (b : Int) : Int := if ex F b = F.B - 1 then 0 else if ex F b = 0 then F.L else F.L + ex F b - 1
theorem bne_dec (x y : Int) : (x != y) = decide (x ≠ y) := by by_cases h : x = y <;> simp [h]
theorem beq_dec (x y : Int) : (x == y) = decide (x = y) := rfl
theorem and_pow (i : Nat) (hi : i < 32) (b : Int) (h0 : 0 ≤ b) (h1 : b ≤ 4294967295) : Go.bits .and .u32 b (2 ^ i) = b / 2 ^ i % 2 * 2 ^ i := by
  obtain ⟨n, rfl⟩ : ∃ n : Nat, b = n := ⟨b.toNat, by omega⟩
  have hp : (2 : Nat) ^ i < 2 ^ 32 := Nat.pow_lt_pow_right (by decide) hi
  have := Mb.u32_and n (2 ^ i) (by omega) hp
  rw [Int.natCast_pow] at this
  rw [show ((2 : Nat) : Int) = 2 from rfl] at this
  rw [this]
  have e : (n : Int) / 2 ^ i = ((n / 2 ^ i : Nat) : Int) := by rw [Int.natCast_ediv, Int.natCast_pow]; rfl
  rw [e]
  by_cases c : n / 2 ^ i % 2 = 1
  · have e1 : n &&& 2 ^ i = 2 ^ i := by
      apply Nat.eq_of_testBit_eq
      intro j
      rw [Nat.testBit_and, Nat.testBit_two_pow]
      by_cases hj : i = j
      · subst hj
        rw [Nat.testBit_eq_decide_div_mod_eq, decide_eq_true c]
        simp
      · simp [hj]
    have e2 : ((n / 2 ^ i : Nat) : Int) % 2 = 1 := by omega
    rw [e1, e2, Int.natCast_pow, Int.one_mul]
    rfl
  · have e1 : n &&& 2 ^ i = 0 := by
      apply Nat.eq_of_testBit_eq
      intro j
      rw [Nat.testBit_and, Nat.testBit_two_pow]
      by_cases hj : i = j
      · subst hj
        rw [Nat.testBit_eq_decide_div_mod_eq, decide_eq_false c]
        simp
      · simp [hj]
    have e2 : ((n / 2 ^ i : Nat) : Int) % 2 = 0 := by omega
    rw [e1, e2, Int.zero_mul]
    rfl
theorem ranges {F : Fm} (h : IsF F) (b : Int) (h0 : 0 ≤ b) : 0 ≤ fr F b ∧ fr F b < F.A ∧ 0 ≤ ex F b ∧ ex F b < F.B := by
  rcases h with rfl | rfl
  · simp only [fr, ex, F16]; omega
  · simp only [fr, ex, F32]; omega
theorem opM_cast {F : Fm} (h : IsF F) (b : Int) (h0 : 0 ≤ b) : ((opM F b : Nat) : Int) = if ex F b = F.B - 1 then 0 else if ex F b = 0 then fr F b else fr F b + F.A := by
  obtain ⟨r1, r2, r3, r4⟩ := ranges h b h0
  have := (facts2 h).2.2.2.2.2.1
  unfold opM
  split
  · rfl
  · split <;> omega
theorem opM_lt {F : Fm} (h : IsF F) (b : Int) (h0 : 0 ≤ b) : opM F b < 2 ^ (F.P + 1) ∧ opM F b < 2 ^ 24 := by
  obtain ⟨r1, r2, r3, r4⟩ := ranges h b h0
  have h1 := opM_cast h b h0
  have h2 := (facts2 h).1
  have h3 := (facts2 h).2.2.2.2.2.1
  have h4 := (facts2 h).2.1
  constructor
  · apply Int.ofNat_lt.1
    rw [← h2, h1]
    split
    · omega
    · split <;> omega
  · apply Int.ofNat_lt.1
    rw [h1]
    split
    · decide
    · split <;> omega
theorem opE_range {F : Fm} (h : IsF F) (b : Int) (h0 : 0 ≤ b) : -149 ≤ opE F b ∧ opE F b ≤ 104 := by
  obtain ⟨r1, r2, r3, r4⟩ := ranges h b h0
  unfold opE
  rcases h with rfl | rfl
  · simp only [F16] at *; refine ⟨?_, ?_⟩ <;> (repeat' split) <;> omega
  · simp only [F32] at *; refine ⟨?_, ?_⟩ <;> (repeat' split) <;> omega

theorem spec_open16 (b : Int) (h0 : 0 ≤ b) (h1 : b ≤ 4294967295) : spec_l4K_open.f 5 10 b = some (opS F16 b, opI F16 b, opN F16 b, ((opM F16 b : Nat) : Int), opE F16 b) := by
  rw [opM_cast isF16 b h0]
  have hk : spec_l4K_mask.f 5 10 = some 65535 := by decide +kernel
  have hl : spec_l4K_least.f 5 10 = some (-24) := least_F isF16
  have m16 : Go.bits .and .u32 b 65535 = b % 65536 := u32_mask 16 (by decide) b h0 (by omega)
  have k1 : ((shl .u32 1 5) - 1) % 4294967296 = 31 := by decide +kernel
  have k2 : ((shl .u32 1 10) - 1) % 4294967296 = 1023 := by decide +kernel
  have k3 : shl .u32 1 10 = 1024 := by decide +kernel
  have k4 : IntKind.u64.wrap (5 + 10) = 15 := by decide
  unfold spec_l4K_open.f
  rw [hk, hl]
  simp only [Option.bind_some]
  rw [k1, k2, k3, k4, m16, if_pos (by decide), if_pos (by decide), if_pos (by decide)]
  rw [shr_u32 _ 10 10 rfl (by decide), shr_u32 _ 15 15 rfl (by decide)]
  rw [show (2 : Int) ^ 10 = 1024 from rfl, show (2 : Int) ^ 15 = 32768 from rfl]
  have m5 : Go.bits .and .u32 (b % 65536 / 1024) 31 = b / 1024 % 32 := (u32_mask 5 (by decide) (b % 65536 / 1024) (by omega) (by omega)).trans (by show b % 65536 / 1024 % 32 = _; omega)
  have m10 : Go.bits .and .u32 (b % 65536) 1023 = b % 1024 := (u32_mask 10 (by decide) (b % 65536) (by omega) (by omega)).trans (by show b % 65536 % 1024 = _; omega)
  rw [m5, m10]
  have s1 : (b % 65536 / 32768 == 1) = opS F16 b := decide_eq_decide.2 (by show b % 65536 / 32768 = 1 ↔ b / 32768 % 2 = 1; omega)
  rw [s1]
  have e1 : ex F16 b = b / 1024 % 32 := rfl
  have e2 : fr F16 b = b % 1024 := rfl
  unfold opI opN opE
  rw [e1, e2, show F16.B - 1 = 31 from rfl, show F16.L = -24 from rfl, show F16.A = 1024 from rfl]
  by_cases c : b / 1024 % 32 = 31
  · rw [if_pos c, if_pos c, if_pos c, beq_dec, bne_dec]
    simp only [c, true_and]
  · rw [if_neg c, if_neg c, if_neg c]
    have g1 : decide (b / 1024 % 32 = 31 ∧ b % 1024 = 0) = false := decide_eq_false (fun h => c h.1)
    have g2 : decide (b / 1024 % 32 = 31 ∧ b % 1024 ≠ 0) = false := decide_eq_false (fun h => c h.1)
    rw [g1, g2]
    by_cases c2 : b / 1024 % 32 = 0
    · rw [if_pos c2, if_pos c2, if_pos c2, wu64 (by omega) (by omega)]
    · rw [if_neg c2, if_neg c2, if_neg c2, bits_or_comm, u32_join 10 1024 (b % 1024) (by decide) (by decide) (by decide) (by omega) (by omega) (by omega), wu64 (by omega) (by omega), w64 (n := b / 1024 % 32) (by omega) (by omega), w64 (n := -24 + b / 1024 % 32) (by omega) (by omega), w64 (by omega) (by omega), Int.add_comm 1024]
theorem spec_open32 (b : Int) (h0 : 0 ≤ b) (h1 : b ≤ 4294967295) : spec_l4K_open.f 8 23 b = some (opS F32 b, opI F32 b, opN F32 b, ((opM F32 b : Nat) : Int), opE F32 b) := by
  rw [opM_cast isF32 b h0]
  have hk : spec_l4K_mask.f 8 23 = some 4294967295 := by decide +kernel
  have hl : spec_l4K_least.f 8 23 = some (-149) := least_F isF32
  have m16 : Go.bits .and .u32 b 4294967295 = b % 4294967296 := u32_mask 32 (by decide) b h0 (by omega)
  have m16' : b % 4294967296 = b := by omega
  have k1 : ((shl .u32 1 8) - 1) % 4294967296 = 255 := by decide +kernel
  have k2 : ((shl .u32 1 23) - 1) % 4294967296 = 8388607 := by decide +kernel
  have k3 : shl .u32 1 23 = 8388608 := by decide +kernel
  have k4 : IntKind.u64.wrap (8 + 23) = 31 := by decide
  unfold spec_l4K_open.f
  rw [hk, hl]
  simp only [Option.bind_some]
  rw [k1, k2, k3, k4, m16, m16', if_pos (by decide), if_pos (by decide), if_pos (by decide)]
  rw [shr_u32 _ 23 23 rfl (by decide), shr_u32 _ 31 31 rfl (by decide)]
  rw [show (2 : Int) ^ 23 = 8388608 from rfl, show (2 : Int) ^ 31 = 2147483648 from rfl]
  have m5 : Go.bits .and .u32 (b / 8388608) 255 = b / 8388608 % 256 := (u32_mask 8 (by decide) (b / 8388608) (by omega) (by omega)).trans rfl
  have m10 : Go.bits .and .u32 b 8388607 = b % 8388608 := (u32_mask 23 (by decide) b (by omega) (by omega)).trans rfl
  rw [m5, m10]
  have s1 : (b / 2147483648 == 1) = opS F32 b := decide_eq_decide.2 (by show b / 2147483648 = 1 ↔ b / 2147483648 % 2 = 1; omega)
  rw [s1]
  have e1 : ex F32 b = b / 8388608 % 256 := rfl
  have e2 : fr F32 b = b % 8388608 := rfl
  unfold opI opN opE
  rw [e1, e2, show F32.B - 1 = 255 from rfl, show F32.L = -149 from rfl, show F32.A = 8388608 from rfl]
  by_cases c : b / 8388608 % 256 = 255
  · rw [if_pos c, if_pos c, if_pos c, beq_dec, bne_dec]
    simp only [c, true_and]
  · rw [if_neg c, if_neg c, if_neg c]
    have g1 : decide (b / 8388608 % 256 = 255 ∧ b % 8388608 = 0) = false := decide_eq_false (fun h => c h.1)
    have g2 : decide (b / 8388608 % 256 = 255 ∧ b % 8388608 ≠ 0) = false := decide_eq_false (fun h => c h.1)
    rw [g1, g2]
    by_cases c2 : b / 8388608 % 256 = 0
    · rw [if_pos c2, if_pos c2, if_pos c2, wu64 (by omega) (by omega)]
    · rw [if_neg c2, if_neg c2, if_neg c2, bits_or_comm, u32_join 23 8388608 (b % 8388608) (by decide) (by decide) (by decide) (by omega) (by omega) (by omega), wu64 (by omega) (by omega), w64 (n := b / 8388608 % 256) (by omega) (by omega), w64 (n := -149 + b / 8388608 % 256) (by omega) (by omega), w64 (by omega) (by omega), Int.add_comm 8388608]
theorem spec_open {F : Fm} (h : IsF F) (b : Int) (h0 : 0 ≤ b) (h1 : b ≤ 4294967295) : spec_l4K_open.f F.x F.p b = some (opS F b, opI F b, opN F b, ((opM F b : Nat) : Int), opE F b) := by
  rcases h with rfl | rfl
  · exact spec_open16 b h0 h1
  · exact spec_open32 b h0 h1
theorem impl_open16 (b : Int) (h0 : 0 ≤ b) (h1 : b ≤ 4294967295) : impl_format_open.f 10 15 b = some (opS F16 b, opN F16 b, opI F16 b, ((opM F16 b : Nat) : Int), opE F16 b) := by
  rw [opM_cast isF16 b h0]
  have hk : impl_format_top.f 10 15 = some 31 := top_F isF16
  have hl : impl_format_sign.f 10 15 = some 32768 := isign_F isF16
  have k2 : ((shl .u32 1 10) - 1) % 4294967296 = 1023 := by decide +kernel
  have k3 : shl .u64 1 10 = 1024 := by decide +kernel
  unfold impl_format_open.f
  rw [hk, hl]
  simp only [Option.bind_some]
  rw [k2, k3, if_pos (by decide), shr_u32 _ 10 10 rfl (by decide), show (2 : Int) ^ 10 = 1024 from rfl]
  have m5 : Go.bits .and .u32 (b / 1024) 31 = b / 1024 % 32 := (u32_mask 5 (by decide) (b / 1024) (by omega) (by omega)).trans rfl
  have m10 : Go.bits .and .u32 b 1023 = b % 1024 := (u32_mask 10 (by decide) b (by omega) (by omega)).trans rfl
  have ms : Go.bits .and .u32 b 32768 = b / 32768 % 2 * 32768 := and_pow 15 (by decide) b h0 h1
  rw [m5, m10, ms]
  have s1 : (b / 32768 % 2 * 32768 != 0) = opS F16 b := by rw [bne_dec]; exact decide_eq_decide.2 (by show _ ↔ b / 32768 % 2 = 1; omega)
  rw [s1]
  have e1 : ex F16 b = b / 1024 % 32 := rfl
  have e2 : fr F16 b = b % 1024 := rfl
  have e3 : IntKind.u64.wrap (b % 1024) = b % 1024 := wu64 (by omega) (by omega)
  unfold opI opN opE
  rw [e1, e2, e3, show F16.B - 1 = 31 from rfl, show F16.L = -24 from rfl, show F16.A = 1024 from rfl]
  by_cases c : b / 1024 % 32 = 31
  · rw [if_pos c, if_pos c, if_pos c, beq_dec, bne_dec]
    simp only [c, true_and]
  · rw [if_neg c, if_neg c, if_neg c]
    have g1 : decide (b / 1024 % 32 = 31 ∧ b % 1024 = 0) = false := decide_eq_false (fun h => c h.1)
    have g2 : decide (b / 1024 % 32 = 31 ∧ b % 1024 ≠ 0) = false := decide_eq_false (fun h => c h.1)
    rw [g1, g2]
    by_cases c2 : b / 1024 % 32 = 0
    · rw [if_pos c2, if_pos c2, if_pos c2, show wrap64 (wrap64 (1 - 15) - 10) = -24 by decide +kernel]
    · rw [if_neg c2, if_neg c2, if_neg c2, wu64 (by omega) (by omega), w64 (n := b / 1024 % 32) (by omega) (by omega), w64 (n := b / 1024 % 32 - 15) (by omega) (by omega), w64 (by omega) (by omega)]
      congr 5
      omega
theorem impl_open32 (b : Int) (h0 : 0 ≤ b) (h1 : b ≤ 4294967295) : impl_format_open.f 23 127 b = some (opS F32 b, opN F32 b, opI F32 b, ((opM F32 b : Nat) : Int), opE F32 b) := by
  rw [opM_cast isF32 b h0]
  have hk : impl_format_top.f 23 127 = some 255 := top_F isF32
  have hl : impl_format_sign.f 23 127 = some 2147483648 := isign_F isF32
  have k2 : ((shl .u32 1 23) - 1) % 4294967296 = 8388607 := by decide +kernel
  have k3 : shl .u64 1 23 = 8388608 := by decide +kernel
  unfold impl_format_open.f
  rw [hk, hl]
  simp only [Option.bind_some]
  rw [k2, k3, if_pos (by decide), shr_u32 _ 23 23 rfl (by decide), show (2 : Int) ^ 23 = 8388608 from rfl]
  have m5 : Go.bits .and .u32 (b / 8388608) 255 = b / 8388608 % 256 := (u32_mask 8 (by decide) (b / 8388608) (by omega) (by omega)).trans rfl
  have m10 : Go.bits .and .u32 b 8388607 = b % 8388608 := (u32_mask 23 (by decide) b (by omega) (by omega)).trans rfl
  have ms : Go.bits .and .u32 b 2147483648 = b / 2147483648 % 2 * 2147483648 := and_pow 31 (by decide) b h0 h1
  rw [m5, m10, ms]
  have s1 : (b / 2147483648 % 2 * 2147483648 != 0) = opS F32 b := by rw [bne_dec]; exact decide_eq_decide.2 (by show _ ↔ b / 2147483648 % 2 = 1; omega)
  rw [s1]
  have e1 : ex F32 b = b / 8388608 % 256 := rfl
  have e2 : fr F32 b = b % 8388608 := rfl
  have e3 : IntKind.u64.wrap (b % 8388608) = b % 8388608 := wu64 (by omega) (by omega)
  unfold opI opN opE
  rw [e1, e2, e3, show F32.B - 1 = 255 from rfl, show F32.L = -149 from rfl, show F32.A = 8388608 from rfl]
  by_cases c : b / 8388608 % 256 = 255
  · rw [if_pos c, if_pos c, if_pos c, beq_dec, bne_dec]
    simp only [c, true_and]
  · rw [if_neg c, if_neg c, if_neg c]
    have g1 : decide (b / 8388608 % 256 = 255 ∧ b % 8388608 = 0) = false := decide_eq_false (fun h => c h.1)
    have g2 : decide (b / 8388608 % 256 = 255 ∧ b % 8388608 ≠ 0) = false := decide_eq_false (fun h => c h.1)
    rw [g1, g2]
    by_cases c2 : b / 8388608 % 256 = 0
    · rw [if_pos c2, if_pos c2, if_pos c2, show wrap64 (wrap64 (1 - 127) - 23) = -149 by decide +kernel]
    · rw [if_neg c2, if_neg c2, if_neg c2, wu64 (by omega) (by omega), w64 (n := b / 8388608 % 256) (by omega) (by omega), w64 (n := b / 8388608 % 256 - 127) (by omega) (by omega), w64 (by omega) (by omega)]
      congr 5
      omega
theorem impl_open {F : Fm} (h : IsF F) (b : Int) (h0 : 0 ≤ b) (h1 : b ≤ 4294967295) : impl_format_open.f F.p F.b b = some (opS F b, opN F b, opI F b, ((opM F b : Nat) : Int), opE F b) := by
  rcases h with rfl | rfl
  · exact impl_open16 b h0 h1
  · exact impl_open32 b h0 h1

/-- Rounding of what is exact. -/
theorem spec_exact {F : Fm} (h : IsF F) (k : Nat) (hk : 70 ≤ k) (neg : Bool) (m : Nat) (e : Int) (hm1 : m < 2 ^ 62) (he0 : -90000 ≤ e) (he1 : e ≤ 90000) :
    spec_l4K_round.f k F.x F.p neg (m : Int) e false = some (fin F neg m e) := spec_round h k hk neg m e false hm1 he0 he1 (fun h => by cases h)
theorem impl_exact {F : Fm} (h : IsF F) (k : Nat) (hk : 70 ≤ k) (neg : Bool) (m : Nat) (e : Int) (hm1 : m < 2 ^ 62) (he0 : -90000 ≤ e) (he1 : e ≤ 90000) :
    impl_format_round.f k F.p F.b neg (m : Int) e false = some (fin F neg m e) := impl_round h k hk neg m e false hm1 he0 he1 (fun h => by cases h)
/-- The two kinds. -/
theorem kinds (a : Int) : (∃ F, IsF F ∧ spec_l4Kind.f a = some (F.x, F.p, true) ∧ impl_formatOf.f a = some (F.p, F.b, true)) ∨ (spec_l4Kind.f a = some (0, 0, false) ∧ impl_formatOf.f a = some (0, 0, false)) := by
  rcases kind_cases a with ⟨h1, h2⟩ | ⟨h1, h2⟩ | ⟨-, -, h1, h2⟩
  · exact Or.inl ⟨F16, isF16, h1, h2⟩
  · exact Or.inl ⟨F32, isF32, h1, h2⟩
  · exact Or.inr ⟨h1, h2⟩
theorem fin_scale (F : Fm) (neg : Bool) (V d : Nat) (e : Int) : fin F neg V (e + d) = fin F neg (V * 2 ^ d) e := by
  have := rb_scale F.P F.L F.I V (e + d) d
  rw [show e + (d : Int) - d = e by omega] at this
  unfold fin
  rw [this]
theorem fin_stick {F : Fm} (neg : Bool) (N d : Nat) (e : Int) (h : F.P + 2 ≤ bl (N / 2 ^ d)) (hr : N % 2 ^ d ≠ 0) : fin F neg (2 * (N / 2 ^ d) + 1) (e + d - 1) = fin F neg N e := by
  have := rb_stick F.P F.L F.I N d e h
  unfold stick at this
  rw [if_neg hr] at this
  unfold fin
  rw [this]
theorem bneb (s1 s2 : Bool) : ((s1 == s2) = true) = (s1 = s2) := by cases s1 <;> cases s2 <;> decide
theorem nat_sub {a b : Nat} (h : b ≤ a) (ha : a < 2 ^ 64) : IntKind.u64.wrap ((a : Int) - (b : Int)) = ((a - b : Nat) : Int) := by rw [wu64 (by omega) (by omega)]; omega
theorem nat_add {a b : Nat} (h : a + b < 2 ^ 64) : IntKind.u64.wrap ((a : Int) + (b : Int)) = ((a + b : Nat) : Int) := by rw [wu64 (by omega) (by omega)]; omega

end Go.Proofs.Ytdeogandkgiggaa.Fo
