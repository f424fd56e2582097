/- Floats: what the printed functions of both texts tell, in the plain law's words. -/
import Derived.Test.YtdeogandkgiggaaFp
import Derived.Lib.BitFns
import Derived.Test.YtdeogandkgiggaaQx1
import Derived.Test.YtdeogandkgiggaaQx2
import Derived.Test.YtdeogandkgiggaaQx3
namespace Go.Proofs.Ytdeogandkgiggaa.Fl
open Go.RowKit Go.Proofs.Ytdeogandkgiggaa.Q Go.Proofs.YtdeogandkgiggaaW.PrintWords Go.Proofs.YtdeogandkgiggaaW.PrintLast Go.Proofs.YtdeogandkgiggaaW.PrintMore Go.Proofs.Ytdeogandkgiggaa.Mb Go.Proofs.Ytdeogandkgiggaa.Fp
set_option linter.unusedSimpArgs false
set_option linter.unusedVariables false

/-- A kind of floats: p bits behind the point, x of the exponent, the bias b; L the least exponent, I what is infinite; A, B, C: 2^p, 2^x, 2^(p+x). -/
structure Fm where
  P : Nat
  I : Nat
  p : Int
  x : Int
  b : Int
  L : Int
  A : Int
  B : Int
  C : Int
def F16 : Fm := ⟨10, 31744, 10, 5, 15, -24, 1024, 32, 32768⟩
def F32 : Fm := ⟨23, 2139095040, 23, 8, 127, -149, 8388608, 256, 2147483648⟩
def IsF (F : Fm) : Prop := F = F16 ∨ F = F32
def sg (F : Fm) (neg : Bool) : Int := if neg = true then F.C else 0
/-- A finite result. -/
def fin (F : Fm) (neg : Bool) (V : Nat) (e : Int) : Int := sg F neg + (rb F.P F.L F.I V e : Nat)
def nan (F : Fm) : Int := F.I + F.A / 2
def inf (F : Fm) (neg : Bool) : Int := sg F neg + F.I

/-! lengths -/
theorem len_l0 (d : Nat) : ∀ (m k : Nat) (n : Int), m < 2 ^ d → d < k → 0 ≤ n → n + d ≤ 2000 → spec_l4Len.l0 k (m : Int) n = some (n + (bl m : Int)) := by
  induction d with
  | zero =>
    intro m k n hm hk _ _
    obtain ⟨k, rfl⟩ : ∃ j, k = j + 1 := ⟨k - 1, by omega⟩
    have h0 : m = 0 := by simpa using hm
    subst h0
    simp only [spec_l4Len.l0]
    rw [if_neg (by decide)]
    simp [bl]
  | succ d ih =>
    intro m k n hm hk h0 h1
    obtain ⟨k, rfl⟩ : ∃ j, k = j + 1 := ⟨k - 1, by omega⟩
    simp only [spec_l4Len.l0]
    by_cases c : m = 0
    · subst c
      rw [if_neg (by decide)]
      simp [bl]
    · rw [if_pos (by omega)]
      have e : (m : Int) / 2 = ((m / 2 : Nat) : Int) := by omega
      have hb := bl_half c
      rw [e, w64 (by omega) (by omega), ih (m / 2) k (n + 1) (by rw [Nat.pow_succ] at hm; omega) (by omega) (by omega) (by omega), hb]
      congr 1
      omega
theorem spec_len (m k : Nat) (hm : m < 2 ^ 64) (hk : 65 ≤ k) : spec_l4Len.f k (m : Int) = some (bl m : Int) := by
  unfold spec_l4Len.f
  rw [len_l0 64 m k 0 hm (by omega) (by omega) (by omega)]
  simp
theorem lib_len (f : Nat) : ∀ m : Nat, m < 2 ^ f → Lib.bitLenAux f m = bl m := by
  induction f with
  | zero => intro m hm; have h0 : m = 0 := by simpa using hm
            subst h0; rfl
  | succ f ih =>
    intro m hm
    unfold Lib.bitLenAux
    by_cases c : m = 0
    · subst c; rfl
    · rw [if_neg c, ih (m / 2) (by rw [Nat.pow_succ] at hm; omega), bl_half c, Nat.add_comm]
theorem impl_len (m : Nat) (hm : m < 2 ^ 64) : bits_Len64.f (m : Int) = some (bl m : Int) := by
  unfold bits_Len64.f
  rw [if_pos (by omega), if_pos (by omega)]
  unfold Lib.bitLen
  rw [Int.toNat_natCast, lib_len 64 m hm]

/-! closed facts of both kinds -/
theorem least_F {F : Fm} (h : IsF F) : spec_l4K_least.f F.x F.p = some F.L := by rcases h with rfl | rfl <;> decide +kernel
theorem sign_F {F : Fm} (h : IsF F) (neg : Bool) : spec_l4K_sign.f F.x F.p neg = some (sg F neg) := by rcases h with rfl | rfl <;> cases neg <;> decide +kernel
theorem inf_F {F : Fm} (h : IsF F) (neg : Bool) : spec_l4K_inf.f F.x F.p neg = some (inf F neg) := by rcases h with rfl | rfl <;> cases neg <;> decide +kernel
theorem nan_F {F : Fm} (h : IsF F) : spec_l4K_nan.f F.x F.p = some (nan F) := by rcases h with rfl | rfl <;> decide +kernel
theorem mask_F {F : Fm} (h : IsF F) : spec_l4K_mask.f F.x F.p = some (2 * F.C - 1) := by rcases h with rfl | rfl <;> decide +kernel
theorem top_F {F : Fm} (h : IsF F) : impl_format_top.f F.p F.b = some (F.B - 1) := by rcases h with rfl | rfl <;> decide +kernel
theorem isign_F {F : Fm} (h : IsF F) : impl_format_sign.f F.p F.b = some F.C := by rcases h with rfl | rfl <;> decide +kernel
theorem inan_F {F : Fm} (h : IsF F) : impl_format_noNumber.f F.p F.b = some (nan F) := by rcases h with rfl | rfl <;> decide +kernel
theorem iinf_F {F : Fm} (h : IsF F) (neg : Bool) : impl_format_infinite.f F.p F.b neg = some (inf F neg) := by rcases h with rfl | rfl <;> cases neg <;> decide +kernel
theorem kind_cases (k : Int) : (spec_l4Kind.f k = some (F16.x, F16.p, true) ∧ impl_formatOf.f k = some (F16.p, F16.b, true)) ∨ (spec_l4Kind.f k = some (F32.x, F32.p, true) ∧ impl_formatOf.f k = some (F32.p, F32.b, true)) ∨ (k ≠ 16 ∧ k ≠ 32 ∧ spec_l4Kind.f k = some (0, 0, false) ∧ impl_formatOf.f k = some (0, 0, false)) := by
  unfold spec_l4Kind.f impl_formatOf.f
  by_cases h : k = 16
  · left; rw [if_pos h, if_pos h]; exact ⟨rfl, rfl⟩
  · by_cases h2 : k = 32
    · right; left; rw [if_neg h, if_pos h2, if_neg h, if_pos h2]; exact ⟨rfl, rfl⟩
    · right; right; rw [if_neg h, if_neg h2, if_neg h, if_neg h2]; exact ⟨h, h2, rfl, rfl⟩
theorem isF16 : IsF F16 := Or.inl rfl
theorem isF32 : IsF F32 := Or.inr rfl

/-! the sign beside the rest -/
theorem or_sg {F : Fm} (h : IsF F) (neg : Bool) {v : Int} (h0 : 0 ≤ v) (h1 : v < F.C) : Go.bits .or .u32 (sg F neg) v = sg F neg + v := by
  cases neg
  · have e : sg F false = 0 := rfl
    rw [e, bits_or_comm]
    rcases h with rfl | rfl
    · have h2 : v < 32768 := h1
      rw [bits_or_comm, u32_join 31 0 v (by decide) (by decide) (by decide) h0 (by omega) (by omega)]
    · have h2 : v < 2147483648 := h1
      rw [bits_or_comm, u32_join 31 0 v (by decide) (by decide) (by decide) h0 (by omega) (by omega)]
  · rcases h with rfl | rfl
    · have h2 : v < 32768 := h1
      exact u32_join 15 32768 v (by decide) (by decide) (by decide) h0 (by omega) (by omega)
    · have h2 : v < 2147483648 := h1
      exact u32_join 31 2147483648 v (by decide) (by decide) (by decide) h0 (by omega) (by omega)
theorem isigned_F {F : Fm} (h : IsF F) (neg : Bool) {v : Int} (h0 : 0 ≤ v) (h1 : v < F.C) : impl_format_signed.f F.p F.b neg v = some (sg F neg + v) := by
  unfold impl_format_signed.f
  cases neg
  · rw [if_neg (by decide)]
    have e : sg F false = 0 := rfl
    rw [e, Int.zero_add]
  · rw [if_pos rfl, isign_F h]
    simp only [Option.bind_some]
    have := or_sg h true h0 h1
    rw [bits_or_comm]
    exact congrArg some this

/-! what is packed -/
/-- v is what stands in front of 2^q. -/
def pack (F : Fm) (neg : Bool) (v q : Int) : Int := sg F neg + min (v + (q - F.L) * F.A) F.I
theorem or_shift (i : Nat) {F : Fm} (h : IsF F) (neg : Bool) (x f : Int) (hx0 : 0 ≤ x) (hx1 : x < F.B - 1) (hf0 : 0 ≤ f) (hf1 : f < F.A) :
    Go.bits .or .u32 (Go.bits .or .u32 (sg F neg) (shl .u32 (x % 4294967296) F.p)) f = sg F neg + (x * F.A + f) := by
  rcases h with rfl | rfl
  · have h1 : x < 31 := hx1
    have h2 : f < 1024 := hf1
    rw [show (F16).p = 10 from rfl, show F16.A = 1024 from rfl, shl_u32 _ 10 10 rfl (by decide)]
    have e : x % 4294967296 * 2 ^ 10 % 4294967296 = x * 1024 := by omega
    rw [e, or_sg isF16 neg (by omega) (by show x * 1024 < 32768; omega)]
    cases neg
    · have e2 : sg F16 false = 0 := rfl
      rw [e2, u32_join 10 _ _ (by omega) (by omega) (by omega) hf0 (by omega) (by omega)]
      omega
    · have e2 : sg F16 true = 32768 := rfl
      rw [e2, u32_join 10 _ _ (by omega) (by omega) (by omega) hf0 (by omega) (by omega)]
      omega
  · have h1 : x < 255 := hx1
    have h2 : f < 8388608 := hf1
    rw [show (F32).p = 23 from rfl, show F32.A = 8388608 from rfl, shl_u32 _ 23 23 rfl (by decide)]
    have e : x % 4294967296 * 2 ^ 23 % 4294967296 = x * 8388608 := by omega
    rw [e, or_sg isF32 neg (by omega) (by show x * 8388608 < 2147483648; omega)]
    cases neg
    · have e2 : sg F32 false = 0 := rfl
      rw [e2, u32_join 23 _ _ (by omega) (by omega) (by omega) hf0 (by omega) (by omega)]
      omega
    · have e2 : sg F32 true = 2147483648 := rfl
      rw [e2, u32_join 23 _ _ (by omega) (by omega) (by omega) hf0 (by omega) (by omega)]
      omega
theorem spec_j2 {F : Fm} (h : IsF F) (k : Nat) (neg : Bool) (v q : Int) (hv0 : 0 ≤ v) (hv1 : v < 2 * F.A) (hq : F.L ≤ q) (hq2 : q ≤ 100000) (hv2 : v < F.A → q = F.L) :
    spec_l4K_round.j2 (k + 1) neg v q F.x F.p = some (pack F neg v q) := by
  have hs1 : (0 : Int) ≤ F.p := by rcases h with rfl | rfl <;> decide
  have hs2 : (0 : Int) ≤ F.x := by rcases h with rfl | rfl <;> decide
  have hs3 : shl .u64 1 F.p = F.A := by rcases h with rfl | rfl <;> decide +kernel
  have hs4 : wrap64 (shl .i64 1 F.x - 1) = F.B - 1 := by rcases h with rfl | rfl <;> decide +kernel
  have hs5 : ((shl .u32 1 F.p) - 1) % 4294967296 = F.A - 1 := by rcases h with rfl | rfl <;> decide +kernel
  simp only [spec_l4K_round.j2]
  rw [if_pos hs1, hs3, least_F h, sign_F h, inf_F h, hs4, hs5]
  simp only [Option.bind_some]
  rw [if_pos hs2]
  unfold pack
  by_cases c : v < F.A
  · rw [if_pos c, hv2 c]
    have hI : v < F.I ∧ v < F.C ∧ F.A ≤ 8388608 := by rcases h with rfl | rfl <;> simp only [F16, F32] at c ⊢ <;> omega
    have e : v % 4294967296 = v := by omega
    rw [e, or_sg h neg hv0 hI.2.1]
    congr 2
    rw [Int.sub_self, Int.zero_mul, Int.add_zero]
    omega
  · rw [if_neg c]
    have hL : -149 ≤ F.L := by rcases h with rfl | rfl <;> decide
    have hL2 : F.L ≤ 0 := by rcases h with rfl | rfl <;> decide
    rw [w64 (n := q - F.L) (by omega) (by omega), w64 (n := q - F.L + 1) (by omega) (by omega)]
    by_cases c2 : q - F.L + 1 ≥ F.B - 1
    · rw [if_pos c2]
      unfold inf
      congr 2
      rcases h with rfl | rfl
      · simp only [F16] at *; omega
      · simp only [F32] at *; omega
    · rw [if_neg c2]
      have e : Go.bits .and .u32 (v % 4294967296) (F.A - 1) = v - F.A := by
        rcases h with rfl | rfl
        · simp only [F16] at *
          have := u32_mask 10 (by decide) (v % 4294967296) (by omega) (by omega)
          rw [show (2 : Int) ^ 10 - 1 = 1024 - 1 by decide] at this
          rw [this]; omega
        · simp only [F32] at *
          have := u32_mask 23 (by decide) (v % 4294967296) (by omega) (by omega)
          rw [show (2 : Int) ^ 23 - 1 = 8388608 - 1 by decide] at this
          rw [this]; omega
      rw [e, or_shift 0 h neg _ _ (by omega) (by omega) (by omega) (by omega)]
      congr 2
      rcases h with rfl | rfl
      · simp only [F16] at *; omega
      · simp only [F32] at *; omega
theorem spec_j1 {F : Fm} (h : IsF F) (k : Nat) (neg : Bool) (v q : Int) (hv0 : 0 ≤ v) (hv1 : v ≤ 2 * F.A) (hq : F.L ≤ q) (hq2 : q ≤ 99999) (hv2 : v < F.A → q = F.L) :
    spec_l4K_round.j1 (k + 2) neg v q F.x F.p = some (pack F neg v q) := by
  have hs1 : (0 : Int) ≤ IntKind.u64.wrap (F.p + 1) := by rcases h with rfl | rfl <;> decide +kernel
  have hs3 : shl .u64 1 (IntKind.u64.wrap (F.p + 1)) = 2 * F.A := by rcases h with rfl | rfl <;> decide +kernel
  have hL : -149 ≤ F.L := by rcases h with rfl | rfl <;> decide
  have hA : 1024 ≤ F.A := by rcases h with rfl | rfl <;> decide
  simp only [spec_l4K_round.j1]
  rw [if_pos hs1, hs3]
  by_cases c : v = 2 * F.A
  · subst c
    rw [if_pos rfl, w64 (by omega) (by omega), spec_j2 h k neg _ _ (by omega) (by omega) (by omega) (by omega) (by omega)]
    unfold pack
    congr 3
    rcases h with rfl | rfl
    · simp only [F16] at *; omega
    · simp only [F32] at *; omega
  · rw [if_neg c, spec_j2 h k neg v q hv0 (by omega) hq (by omega) hv2]

/-- What is rounded lies where it should. -/
theorem mag_pack {F : Fm} (h : IsF F) (neg : Bool) (V : Nat) (e : Int) (hV : V ≠ 0) : fin F neg V e = pack F neg ((mag F.P F.L V e : Nat) - ((low F.P F.L V e - F.L).toNat * 2 ^ F.P : Nat)) (low F.P F.L V e) := by
  unfold fin pack rb
  rw [if_neg hV]
  have hl : F.L ≤ low F.P F.L V e := by unfold low; omega
  have hA : F.A = ((2 ^ F.P : Nat) : Int) := by rcases h with rfl | rfl <;> decide
  have e1 : (low F.P F.L V e - F.L) * F.A = (((low F.P F.L V e - F.L).toNat * 2 ^ F.P : Nat) : Int) := by
    rw [hA, Int.natCast_mul, Int.toNat_of_nonneg (by omega)]
  rw [e1]
  omega
end Go.Proofs.Ytdeogandkgiggaa.Fl
