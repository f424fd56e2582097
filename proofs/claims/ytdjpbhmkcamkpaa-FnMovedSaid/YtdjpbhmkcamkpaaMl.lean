/- Memories: what is loaded of them, as the program's text tells it. -/
import Derived.Test.YtdjpbhmkcamkpaaMb
import Derived.Test.YtdjpbhmkcamkpaaQx6
namespace Go.Proofs.Ytdjpbhmkcamkpaa.Mem
open Go.RowKit Go.Proofs.Ytdjpbhmkcamkpaa.Q Go.Proofs.YtdjpbhmkcamkpaaW.PrintWords Go.Proofs.YtdjpbhmkcamkpaaW.PrintLast Go.Proofs.YtdjpbhmkcamkpaaW.PrintMore Go.Proofs.Ytdjpbhmkcamkpaa.Mb
set_option linter.unusedSimpArgs false
set_option linter.unusedVariables false

theorem bt_rng (s : ByteArray) (i : Int) : 0 ≤ bt s i ∧ bt s i ≤ 255 := by
  unfold bt
  split
  · rename_i h
    have := (s[i.toNat]'h).toNat_lt
    omega
  · omega
def gm (m : Int) (d : ByteArray) : Bool := decide (0 ≤ m ∧ m ≤ 8 ∧ (d.size : Int) % 256 = 0 ∧ (d.size : Int) ≤ m * 256)
theorem spec_gm (m : Int) (d : ByteArray) : spec_GoodMemory.f m d = some (gm m d) := by
  unfold spec_GoodMemory.f spec_l1In.f gm
  by_cases h : m ≥ 0
  · by_cases h2 : m ≤ 8
    · rw [if_pos h]
      simp only [Option.bind_some, h2, decide_true, if_true]
      by_cases h3 : (d.size : Int) % 256 = 0
      · rw [if_pos h3, w64 (by omega) (by omega)]
        simp [h, h2, h3]
      · rw [if_neg h3]; simp [h3]
    · simp [h, h2]
  · simp [h]
theorem impl_gm (m : Int) (d : ByteArray) : impl_GoodMemory.f m d = some (gm m d) := by
  unfold impl_GoodMemory.f gm
  by_cases h : m ≥ 0
  · by_cases h2 : m ≤ 8
    · rw [if_pos h, if_pos h2]
      by_cases h3 : (d.size : Int) % 256 = 0
      · rw [if_pos h3, w64 (by omega) (by omega)]
        simp [h, h2, h3]
      · rw [if_neg h3]; simp [h3]
    · simp [h, h2]
  · simp [h]
theorem gm_size {m : Int} {d : ByteArray} (h : gm m d = true) : (d.size : Int) ≤ 2048 ∧ 0 ≤ m ∧ m ≤ 8 := by
  unfold gm at h
  simp at h
  omega
def gwd (a : Int) : Bool := a == 1 || a == 2 || a == 4 || a == 8
theorem impl_width (a : Int) : impl_goodWidth.f a = some (gwd a) := by
  unfold impl_goodWidth.f gwd
  by_cases h1 : a = 1
  · simp [h1]
  · by_cases h2 : a = 2
    · simp [h2]
    · by_cases h4 : a = 4 <;> simp [h1, h2, h4]
theorem gwd_cases {a : Int} (h : gwd a = true) : a = 1 ∨ a = 2 ∨ a = 4 ∨ a = 8 := by
  unfold gwd at h
  simp at h
  omega
/-- The number of the first d bytes, the lowest one first. -/
def low (s : ByteArray) : Nat → Int
  | 0 => 0
  | d + 1 => bt s d * 256 ^ d + low s d
theorem low_range (s : ByteArray) (d : Nat) : 0 ≤ low s d ∧ low s d < 256 ^ d := by
  induction d with
  | zero => exact ⟨Int.le_refl _, by unfold low; decide⟩
  | succ d ih =>
    have hb := bt_rng s d
    have hp : (0 : Int) < 256 ^ d := Int.pow_pos (by decide)
    have h1 : 0 ≤ bt s d * 256 ^ d := Int.mul_nonneg hb.1 (Int.le_of_lt hp)
    have h2 : bt s d * 256 ^ d ≤ 255 * 256 ^ d := Int.mul_le_mul_of_nonneg_right hb.2 (Int.le_of_lt hp)
    have h3 : (256 : Int) ^ (d + 1) = 256 * 256 ^ d := by rw [Int.pow_succ, Int.mul_comm]
    rw [show low s (d + 1) = bt s d * 256 ^ d + low s d from rfl, h3]
    constructor <;> omega
theorem num_l0 (s : ByteArray) (hs : s.size ≤ 8) : ∀ (d k m : Nat) (x : Int), d ≤ s.size → d < k → 0 ≤ x → x < 256 ^ m → m + d ≤ 8 → impl_number.l0 k s x ((d : Int) - 1) = some (x * 256 ^ d + low s d) := by
  intro d
  induction d with
  | zero =>
    intro k m x _ hk _ _ _
    obtain ⟨k, rfl⟩ : ∃ j, k = j + 1 := ⟨k - 1, by omega⟩
    simp only [impl_number.l0]
    rw [if_neg (by omega)]
    simp [low]
  | succ d ih =>
    intro k m x hd hk hx0 hx1 hm
    obtain ⟨k, rfl⟩ : ∃ j, k = j + 1 := ⟨k - 1, by omega⟩
    have hb := bt_rng s d
    have hmm : (256 : Int) ^ (m + 1) ≤ 256 ^ 8 := pow_le_pow 256 (by decide) (show m + 1 ≤ 8 by omega)
    have h3 : (256 : Int) ^ (m + 1) = 256 * 256 ^ m := by rw [Int.pow_succ, Int.mul_comm]
    have h88 : (256 : Int) ^ 8 = 18446744073709551616 := by decide
    simp only [impl_number.l0]
    have e : ((d + 1 : Nat) : Int) - 1 = (d : Int) := by omega
    rw [e, if_pos (by omega), if_pos (by omega), if_pos (by omega), wu64 (by omega) (by omega), wu64 hb.1 (by omega), u64_join 8 _ _ (by omega) (by omega) (by omega) hb.1 (by omega) (by omega), w64 (by omega) (by omega)]
    rw [ih k (m + 1) (x * 256 + bt s d) (by omega) (by omega) (by omega) (by omega) (by omega)]
    congr 1
    have h4 : (256 : Int) ^ (d + 1) = 256 * 256 ^ d := by rw [Int.pow_succ, Int.mul_comm]
    rw [show low s (d + 1) = bt s d * 256 ^ d + low s d from rfl, h4, Int.add_mul, Int.mul_assoc x 256, Int.add_assoc]
theorem impl_num (k : Nat) (s : ByteArray) (hs : s.size ≤ 8) (hk : 9 ≤ k) : impl_number.f k s = some (low s s.size) := by
  unfold impl_number.f
  rw [w64 (by omega) (by omega), num_l0 s hs s.size k 0 0 (Nat.le_refl _) (by omega) (by omega) (by decide) (by omega)]
  simp
/-- With its sign, in 64 bits. -/
def sext (n : Nat) (x : Int) : Int := if n < 8 ∧ x / 2 ^ (8 * n - 1) = 1 then x + (18446744073709551616 - 2 ^ (8 * n)) else x
theorem impl_widen1 {x : Int} (h0 : 0 ≤ x) (h1 : x < 256) : impl_widen.f x 1 = some (sext 1 x) := by
  unfold impl_widen.f sext
  rw [show wrap64 (64 - wrap64 (8 * 1)) = 56 by unfold wrap64; omega, if_pos (show (0 : Int) ≤ 56 by decide), shl_u64 _ 56 56 rfl (by decide), shr_i64 _ 56 56 rfl (by decide), wrap_u64]
  congr 1
  try rw [show (2 : Int) ^ (8 * 1 - 1) = 128 by decide]
  try rw [show (2 : Int) ^ (8 * 1) = 256 by decide]
  try rw [show (2 : Int) ^ 56 = 72057594037927936 by decide]
  unfold wrap64
  split <;> omega
theorem impl_widen2 {x : Int} (h0 : 0 ≤ x) (h1 : x < 65536) : impl_widen.f x 2 = some (sext 2 x) := by
  unfold impl_widen.f sext
  rw [show wrap64 (64 - wrap64 (8 * 2)) = 48 by unfold wrap64; omega, if_pos (show (0 : Int) ≤ 48 by decide), shl_u64 _ 48 48 rfl (by decide), shr_i64 _ 48 48 rfl (by decide), wrap_u64]
  congr 1
  try rw [show (2 : Int) ^ (8 * 2 - 1) = 32768 by decide]
  try rw [show (2 : Int) ^ (8 * 2) = 65536 by decide]
  try rw [show (2 : Int) ^ 48 = 281474976710656 by decide]
  unfold wrap64
  split <;> omega
theorem impl_widen4 {x : Int} (h0 : 0 ≤ x) (h1 : x < 4294967296) : impl_widen.f x 4 = some (sext 4 x) := by
  unfold impl_widen.f sext
  rw [show wrap64 (64 - wrap64 (8 * 4)) = 32 by unfold wrap64; omega, if_pos (show (0 : Int) ≤ 32 by decide), shl_u64 _ 32 32 rfl (by decide), shr_i64 _ 32 32 rfl (by decide), wrap_u64]
  congr 1
  try rw [show (2 : Int) ^ (8 * 4 - 1) = 2147483648 by decide]
  try rw [show (2 : Int) ^ (8 * 4) = 4294967296 by decide]
  try rw [show (2 : Int) ^ 32 = 4294967296 by decide]
  unfold wrap64
  split <;> omega
theorem impl_widen8 {x : Int} (h0 : 0 ≤ x) (h1 : x < 18446744073709551616) : impl_widen.f x 8 = some (sext 8 x) := by
  unfold impl_widen.f sext
  rw [show wrap64 (64 - wrap64 (8 * 8)) = 0 by unfold wrap64; omega, if_pos (show (0 : Int) ≤ 0 by decide), shl_u64 _ 0 0 rfl (by decide), shr_i64 _ 0 0 rfl (by decide), wrap_u64]
  congr 1
  simp only [show ¬ (8 < 8) by decide, false_and, if_false]
  try rw [show (2 : Int) ^ 0 = 1 by decide]
  unfold wrap64
  omega
/-- What LoadBytes tells. -/
def ldB (m : Int) (d : ByteArray) (at_ n : Int) : ByteArray × Int :=
  if gm m d = true ∧ 0 ≤ at_ ∧ 0 ≤ n then (if at_ + n ≤ (d.size : Int) then (d.extract at_.toNat (at_ + n).toNat, 0) else ((⟨#[]⟩ : ByteArray), 2)) else ((⟨#[]⟩ : ByteArray), 1)
theorem impl_ldB (k : Nat) (m : Int) (d : ByteArray) (at_ n : Int) (ha : at_ ≤ 9223372036854775807) (hn : n ≤ 9223372036854775807) : impl_LoadBytes.f (k + 1) m d at_ n = some (ldB m d at_ n) := by
  unfold impl_LoadBytes.f ldB
  rw [impl_gm]
  simp only [Option.bind_some, impl_LoadBytes.j0, impl_Memory_within.f]
  cases hg : gm m d
  · simp
  · have hz := gm_size hg
    simp only [if_true, true_and]
    by_cases h1 : at_ < 0
    · rw [if_pos h1, if_neg (by omega)]
    · rw [if_neg h1]
      by_cases h2 : n < 0
      · simp [h2]; intro h3 h4; omega
      · simp only [h2, decide_false, Bool.false_eq_true, if_false]
        rw [if_pos (show 0 ≤ at_ ∧ 0 ≤ n by omega)]
        by_cases h3 : at_ ≤ (d.size : Int)
        · rw [if_pos h3, w64 (by omega) (by omega)]
          by_cases h4 : n ≤ (d.size : Int) - at_
          · simp only [h4, decide_true, Option.bind_some, if_true]
            rw [w64 (by omega) (by omega), if_pos (by omega), if_pos (by omega), if_pos (by omega), if_pos (by omega)]
          · simp only [h4, decide_false, Option.bind_some, Bool.false_eq_true, if_false]
            rw [if_neg (by omega)]
        · rw [if_neg h3]
          simp only [Option.bind_some, Bool.false_eq_true, if_false]
          rw [if_neg (by omega)]
theorem ldB_size {m : Int} {d : ByteArray} {at_ n : Int} (h : (ldB m d at_ n).2 = 0) : ((ldB m d at_ n).1.size : Int) = n := by
  unfold ldB at h ⊢
  split
  · rename_i h1
    rw [if_pos h1] at h
    split
    · rename_i h2
      simp only [ByteArray.size_extract]
      omega
    · rename_i h2; rw [if_neg h2] at h; simp at h
  · rename_i h1; rw [if_neg h1] at h; simp at h
/-- What LoadInt tells. -/
def ldI (m : Int) (d : ByteArray) (at_ n : Int) (sg : Bool) : Int × Int :=
  if gwd n = true then (if (ldB m d at_ n).2 = 0 then (if sg = true then (sext n.toNat (low (ldB m d at_ n).1 n.toNat), 0) else (low (ldB m d at_ n).1 n.toNat, 0)) else (0, (ldB m d at_ n).2)) else (0, 1)
theorem impl_ldI (k : Nat) (m : Int) (d : ByteArray) (at_ n : Int) (sg : Bool) (ha : at_ ≤ 9223372036854775807) (hn : n ≤ 9223372036854775807) (hk : 8 ≤ k) : impl_LoadInt.f (k + 1) m d at_ n sg = some (ldI m d at_ n sg) := by
  unfold impl_LoadInt.f ldI
  rw [impl_width, impl_ldB k m d at_ n ha hn]
  simp only [Option.bind_some]
  cases hg : gwd n
  · simp
  · simp only [if_true]
    by_cases hc : (ldB m d at_ n).2 = 0
    · have hz := ldB_size hc
      rw [if_pos hc, if_pos hc]
      generalize (ldB m d at_ n).1 = s at *
      have hr := low_range s s.size
      rcases gwd_cases hg with rfl | rfl | rfl | rfl
      all_goals
        rw [impl_num (k + 1) s (by omega) (by omega)]
        simp only [Option.bind_some]
      · have e : s.size = 1 := by omega
        rw [e] at hr ⊢
        rw [impl_widen1 hr.1 (by simpa using hr.2)]
        cases sg <;> rfl
      · have e : s.size = 2 := by omega
        rw [e] at hr ⊢
        rw [impl_widen2 hr.1 (by simpa using hr.2)]
        cases sg <;> rfl
      · have e : s.size = 4 := by omega
        rw [e] at hr ⊢
        rw [impl_widen4 hr.1 (by simpa using hr.2)]
        cases sg <;> rfl
      · have e : s.size = 8 := by omega
        rw [e] at hr ⊢
        rw [impl_widen8 hr.1 (by simpa using hr.2)]
        cases sg <;> rfl
    · rw [if_neg hc, if_neg hc]
end Go.Proofs.Ytdjpbhmkcamkpaa.Mem
