/- Numbers in bytes of a memory: both texts read them alike. -/
import Derived.Test.YtdjpbhmkcamkpaaHp
namespace Go.Proofs.Ytdjpbhmkcamkpaa.Pure
open Go.RowKit Go.Proofs.Ytdjpbhmkcamkpaa.Q Go.Proofs.YtdjpbhmkcamkpaaW.PrintWords Go.Proofs.YtdjpbhmkcamkpaaW.PrintLast Go.Proofs.YtdjpbhmkcamkpaaW.PrintMore Go.Proofs.Ytdjpbhmkcamkpaa.Mb
set_option linter.unusedSimpArgs false

theorem width_same (a : Int) : spec_l5Size.f a = impl_goodWidth.f a := rfl
def gwd (a : Int) : Bool := a == 1 || a == 2 || a == 4 || a == 8
theorem impl_width (a : Int) : impl_goodWidth.f a = some (gwd a) := by
  unfold impl_goodWidth.f gwd
  by_cases h1 : a = 1
  · simp [h1]
  · by_cases h2 : a = 2
    · simp [h2]
    · by_cases h4 : a = 4 <;> simp [h1, h2, h4]
theorem gwd_cases {a : Int} (h : gwd a = true) : a = 1 ∨ a = 2 ∨ a = 4 ∨ a = 8 := by
  unfold gwd at h
  simp at h
  omega

/-- The number of the first d bytes, the lowest one first. -/
def low (s : ByteArray) : Nat → Int
  | 0 => 0
  | d + 1 => bt s d * 256 ^ d + low s d
theorem low_range (s : ByteArray) (d : Nat) : 0 ≤ low s d ∧ low s d < 256 ^ d := by
  induction d with
  | zero => exact ⟨Int.le_refl _, by unfold low; decide⟩
  | succ d ih =>
    have hb := bt_range s d
    have hp : (0 : Int) < 256 ^ d := Int.pow_pos (by decide)
    have h1 : 0 ≤ bt s d * 256 ^ d := Int.mul_nonneg hb.1 (Int.le_of_lt hp)
    have h2 : bt s d * 256 ^ d ≤ 255 * 256 ^ d := Int.mul_le_mul_of_nonneg_right hb.2 (Int.le_of_lt hp)
    have h3 : (256 : Int) ^ (d + 1) = 256 * 256 ^ d := by rw [Int.pow_succ, Int.mul_comm]
    rw [show low s (d + 1) = bt s d * 256 ^ d + low s d from rfl, h3]
    constructor <;> omega
theorem num_same : ∀ (k : Nat) (s : ByteArray) (x i : Int), spec_l5Number.l0 k s x i = impl_number.l0 k s x i := by
  intro k
  induction k with
  | zero => intros; rfl
  | succ k ih => intro s x i; simp only [spec_l5Number.l0, impl_number.l0, ih]
theorem num_l0 (s : ByteArray) (hs : s.size ≤ 8) : ∀ (d k m : Nat) (x : Int), d ≤ s.size → d < k → 0 ≤ x → x < 256 ^ m → m + d ≤ 8 → impl_number.l0 k s x ((d : Int) - 1) = some (x * 256 ^ d + low s d) := by
  intro d
  induction d with
  | zero =>
    intro k m x _ hk _ _ _
    obtain ⟨k, rfl⟩ : ∃ j, k = j + 1 := ⟨k - 1, by omega⟩
    simp only [impl_number.l0]
    rw [if_neg (by omega)]
    simp [low]
  | succ d ih =>
    intro k m x hd hk hx0 hx1 hm
    obtain ⟨k, rfl⟩ : ∃ j, k = j + 1 := ⟨k - 1, by omega⟩
    have hb := bt_range s d
    have hmm : (256 : Int) ^ (m + 1) ≤ 256 ^ 8 := pow_le_pow 256 (by decide) (show m + 1 ≤ 8 by omega)
    have h3 : (256 : Int) ^ (m + 1) = 256 * 256 ^ m := by rw [Int.pow_succ, Int.mul_comm]
    have h88 : (256 : Int) ^ 8 = 18446744073709551616 := by decide
    simp only [impl_number.l0]
    have e : ((d + 1 : Nat) : Int) - 1 = (d : Int) := by omega
    rw [e, if_pos (by omega), if_pos (by omega), if_pos (by omega), wu64 (by omega) (by omega), wu64 hb.1 (by omega), u64_join 8 _ _ (by omega) (by omega) (by omega) hb.1 (by omega) (by omega), w64 (by omega) (by omega)]
    rw [ih k (m + 1) (x * 256 + bt s d) (by omega) (by omega) (by omega) (by omega) (by omega)]
    congr 1
    have h4 : (256 : Int) ^ (d + 1) = 256 * 256 ^ d := by rw [Int.pow_succ, Int.mul_comm]
    rw [show low s (d + 1) = bt s d * 256 ^ d + low s d from rfl, h4, Int.add_mul, Int.mul_assoc x 256, Int.add_assoc]
theorem impl_num (k : Nat) (s : ByteArray) (hs : s.size ≤ 8) (hk : 9 ≤ k) : impl_number.f k s = some (low s s.size) := by
  unfold impl_number.f
  rw [w64 (by omega) (by omega), num_l0 s hs s.size k 0 0 (Nat.le_refl _) (by omega) (by omega) (by decide) (by omega)]
  simp
theorem spec_num (k : Nat) (s : ByteArray) (hs : s.size ≤ 8) (hk : 9 ≤ k) : spec_l5Number.f k s = some (low s s.size) := by
  rw [← impl_num k s hs hk]
  unfold spec_l5Number.f impl_number.f
  rw [num_same]

/-- With its sign, in 64 bits. -/
def sext (n : Nat) (x : Int) : Int := if n < 8 ∧ x / 2 ^ (8 * n - 1) = 1 then x + (18446744073709551616 - 2 ^ (8 * n)) else x
theorem impl_widen1 {x : Int} (h0 : 0 ≤ x) (h1 : x < 256) : impl_widen.f x 1 = some (sext 1 x) := by
  unfold impl_widen.f sext
  rw [show wrap64 (64 - wrap64 (8 * 1)) = 56 by unfold wrap64; omega, if_pos (show (0 : Int) ≤ 56 by decide), shl_u64 _ 56 56 rfl (by decide), shr_i64 _ 56 56 rfl (by decide), wrap_u64]
  congr 1
  try rw [show (2 : Int) ^ (8 * 1 - 1) = 128 by decide]
  try rw [show (2 : Int) ^ (8 * 1) = 256 by decide]
  try rw [show (2 : Int) ^ 56 = 72057594037927936 by decide]
  unfold wrap64
  split <;> omega
theorem impl_widen2 {x : Int} (h0 : 0 ≤ x) (h1 : x < 65536) : impl_widen.f x 2 = some (sext 2 x) := by
  unfold impl_widen.f sext
  rw [show wrap64 (64 - wrap64 (8 * 2)) = 48 by unfold wrap64; omega, if_pos (show (0 : Int) ≤ 48 by decide), shl_u64 _ 48 48 rfl (by decide), shr_i64 _ 48 48 rfl (by decide), wrap_u64]
  congr 1
  try rw [show (2 : Int) ^ (8 * 2 - 1) = 32768 by decide]
  try rw [show (2 : Int) ^ (8 * 2) = 65536 by decide]
  try rw [show (2 : Int) ^ 48 = 281474976710656 by decide]
  unfold wrap64
  split <;> omega
theorem impl_widen4 {x : Int} (h0 : 0 ≤ x) (h1 : x < 4294967296) : impl_widen.f x 4 = some (sext 4 x) := by
  unfold impl_widen.f sext
  rw [show wrap64 (64 - wrap64 (8 * 4)) = 32 by unfold wrap64; omega, if_pos (show (0 : Int) ≤ 32 by decide), shl_u64 _ 32 32 rfl (by decide), shr_i64 _ 32 32 rfl (by decide), wrap_u64]
  congr 1
  try rw [show (2 : Int) ^ (8 * 4 - 1) = 2147483648 by decide]
  try rw [show (2 : Int) ^ (8 * 4) = 4294967296 by decide]
  try rw [show (2 : Int) ^ 32 = 4294967296 by decide]
  unfold wrap64
  split <;> omega
theorem impl_widen8 {x : Int} (h0 : 0 ≤ x) (h1 : x < 18446744073709551616) : impl_widen.f x 8 = some (sext 8 x) := by
  unfold impl_widen.f sext
  rw [show wrap64 (64 - wrap64 (8 * 8)) = 0 by unfold wrap64; omega, if_pos (show (0 : Int) ≤ 0 by decide), shl_u64 _ 0 0 rfl (by decide), shr_i64 _ 0 0 rfl (by decide), wrap_u64]
  congr 1
  simp only [show ¬ (8 < 8) by decide, false_and, if_false]
  try rw [show (2 : Int) ^ 0 = 1 by decide]
  unfold wrap64
  omega
theorem spec_widen1 {x : Int} (h0 : 0 ≤ x) (h1 : x < 256) (c : Int) : (if 0 ≤ (IntKind.u64.wrap (wrap64 ((wrap64 (8 * 1)) - 1))) then (if (shr .u64 x (IntKind.u64.wrap (wrap64 ((wrap64 (8 * 1)) - 1)))) = 1 then (if 0 ≤ (IntKind.u64.wrap (wrap64 (8 * 1))) then (some (Go.bits .or .u64 x (shl .u64 18446744073709551615 (IntKind.u64.wrap (wrap64 (8 * 1)))), c)) else (none)) else (some (x, c))) else (none)) = some (sext 1 x, c) := by
  unfold sext
  rw [show IntKind.u64.wrap (wrap64 ((wrap64 (8 * 1)) - 1)) = 7 by rw [wrap_u64]; unfold wrap64; omega, show IntKind.u64.wrap (wrap64 (8 * 1)) = 8 by rw [wrap_u64]; unfold wrap64; omega, if_pos (by decide), shr_u64 _ 7 7 rfl (by decide), if_pos (show (0 : Int) ≤ 8 by decide), shl_u64 _ 8 8 rfl (by decide)]
  try rw [show (2 : Int) ^ (8 * 1 - 1) = 128 by decide]
  try rw [show (2 : Int) ^ (8 * 1) = 256 by decide]
  try rw [show (2 : Int) ^ 7 = 128 by decide]
  try rw [show (2 : Int) ^ 8 = 256 by decide]
  by_cases h : x / 128 = 1
  · rw [if_pos h, if_pos ⟨by decide, h⟩, bits_or_comm, u64_join 8 _ _ (by decide) (by decide) (by decide) h0 (by omega) (by omega)]
    congr 2
    omega
  · rw [if_neg h, if_neg (fun h2 => h h2.2)]
theorem spec_widen2 {x : Int} (h0 : 0 ≤ x) (h1 : x < 65536) (c : Int) : (if 0 ≤ (IntKind.u64.wrap (wrap64 ((wrap64 (8 * 2)) - 1))) then (if (shr .u64 x (IntKind.u64.wrap (wrap64 ((wrap64 (8 * 2)) - 1)))) = 1 then (if 0 ≤ (IntKind.u64.wrap (wrap64 (8 * 2))) then (some (Go.bits .or .u64 x (shl .u64 18446744073709551615 (IntKind.u64.wrap (wrap64 (8 * 2)))), c)) else (none)) else (some (x, c))) else (none)) = some (sext 2 x, c) := by
  unfold sext
  rw [show IntKind.u64.wrap (wrap64 ((wrap64 (8 * 2)) - 1)) = 15 by rw [wrap_u64]; unfold wrap64; omega, show IntKind.u64.wrap (wrap64 (8 * 2)) = 16 by rw [wrap_u64]; unfold wrap64; omega, if_pos (by decide), shr_u64 _ 15 15 rfl (by decide), if_pos (show (0 : Int) ≤ 16 by decide), shl_u64 _ 16 16 rfl (by decide)]
  try rw [show (2 : Int) ^ (8 * 2 - 1) = 32768 by decide]
  try rw [show (2 : Int) ^ (8 * 2) = 65536 by decide]
  try rw [show (2 : Int) ^ 15 = 32768 by decide]
  try rw [show (2 : Int) ^ 16 = 65536 by decide]
  by_cases h : x / 32768 = 1
  · rw [if_pos h, if_pos ⟨by decide, h⟩, bits_or_comm, u64_join 16 _ _ (by decide) (by decide) (by decide) h0 (by omega) (by omega)]
    congr 2
    omega
  · rw [if_neg h, if_neg (fun h2 => h h2.2)]
theorem spec_widen4 {x : Int} (h0 : 0 ≤ x) (h1 : x < 4294967296) (c : Int) : (if 0 ≤ (IntKind.u64.wrap (wrap64 ((wrap64 (8 * 4)) - 1))) then (if (shr .u64 x (IntKind.u64.wrap (wrap64 ((wrap64 (8 * 4)) - 1)))) = 1 then (if 0 ≤ (IntKind.u64.wrap (wrap64 (8 * 4))) then (some (Go.bits .or .u64 x (shl .u64 18446744073709551615 (IntKind.u64.wrap (wrap64 (8 * 4)))), c)) else (none)) else (some (x, c))) else (none)) = some (sext 4 x, c) := by
  unfold sext
  rw [show IntKind.u64.wrap (wrap64 ((wrap64 (8 * 4)) - 1)) = 31 by rw [wrap_u64]; unfold wrap64; omega, show IntKind.u64.wrap (wrap64 (8 * 4)) = 32 by rw [wrap_u64]; unfold wrap64; omega, if_pos (by decide), shr_u64 _ 31 31 rfl (by decide), if_pos (show (0 : Int) ≤ 32 by decide), shl_u64 _ 32 32 rfl (by decide)]
  try rw [show (2 : Int) ^ (8 * 4 - 1) = 2147483648 by decide]
  try rw [show (2 : Int) ^ (8 * 4) = 4294967296 by decide]
  try rw [show (2 : Int) ^ 31 = 2147483648 by decide]
  try rw [show (2 : Int) ^ 32 = 4294967296 by decide]
  by_cases h : x / 2147483648 = 1
  · rw [if_pos h, if_pos ⟨by decide, h⟩, bits_or_comm, u64_join 32 _ _ (by decide) (by decide) (by decide) h0 (by omega) (by omega)]
    congr 2
    omega
  · rw [if_neg h, if_neg (fun h2 => h h2.2)]

/-- What LoadBytes tells. -/
def ldB (m : Int) (d : ByteArray) (at_ n : Int) : ByteArray × Int :=
  if gm m d = true ∧ 0 ≤ at_ ∧ 0 ≤ n then (if at_ + n ≤ (d.size : Int) then (d.extract at_.toNat (at_ + n).toNat, 0) else ((⟨#[]⟩ : ByteArray), 2)) else ((⟨#[]⟩ : ByteArray), 1)
theorem impl_ldB (k : Nat) (m : Int) (d : ByteArray) (at_ n : Int) (ha : at_ ≤ 9223372036854775807) (hn : n ≤ 9223372036854775807) : impl_LoadBytes.f (k + 1) m d at_ n = some (ldB m d at_ n) := by
  unfold impl_LoadBytes.f ldB
  rw [impl_gm]
  simp only [Option.bind_some, impl_LoadBytes.j0, impl_Memory_within.f]
  cases hg : gm m d
  · simp
  · have hz := gm_size hg
    simp only [if_true, true_and]
    by_cases h1 : at_ < 0
    · rw [if_pos h1, if_neg (by omega)]
    · rw [if_neg h1]
      by_cases h2 : n < 0
      · simp [h2]; intro h3 h4; omega
      · simp only [h2, decide_false, Bool.false_eq_true, if_false]
        rw [if_pos (show 0 ≤ at_ ∧ 0 ≤ n by omega)]
        by_cases h3 : at_ ≤ (d.size : Int)
        · rw [if_pos h3, w64 (by omega) (by omega)]
          by_cases h4 : n ≤ (d.size : Int) - at_
          · simp only [h4, decide_true, Option.bind_some, if_true]
            rw [w64 (by omega) (by omega), if_pos (by omega), if_pos (by omega), if_pos (by omega), if_pos (by omega)]
          · simp only [h4, decide_false, Option.bind_some, Bool.false_eq_true, if_false]
            rw [if_neg (by omega)]
        · rw [if_neg h3]
          simp only [Option.bind_some, Bool.false_eq_true, if_false]
          rw [if_neg (by omega)]
theorem spec_ldB (k : Nat) (m : Int) (d : ByteArray) (at_ n : Int) (ha : at_ ≤ 9223372036854775807) (hn : n ≤ 9223372036854775807) : spec_LoadBytes.f (k + 1) m d at_ n = some (ldB m d at_ n) := by
  rw [← impl_ldB k m d at_ n ha hn]
  unfold spec_LoadBytes.f impl_LoadBytes.f
  rw [spec_gm, impl_gm]
  rfl
theorem ldB_size {m : Int} {d : ByteArray} {at_ n : Int} (h : (ldB m d at_ n).2 = 0) : ((ldB m d at_ n).1.size : Int) = n := by
  unfold ldB at h ⊢
  split
  · rename_i h1
    rw [if_pos h1] at h
    split
    · rename_i h2
      simp only [ByteArray.size_extract]
      omega
    · rename_i h2; rw [if_neg h2] at h; simp at h
  · rename_i h1; rw [if_neg h1] at h; simp at h

/-- What LoadInt tells. -/
def ldI (m : Int) (d : ByteArray) (at_ n : Int) (sg : Bool) : Int × Int :=
  if gwd n = true then (if (ldB m d at_ n).2 = 0 then (if sg = true then (sext n.toNat (low (ldB m d at_ n).1 n.toNat), 0) else (low (ldB m d at_ n).1 n.toNat, 0)) else (0, (ldB m d at_ n).2)) else (0, 1)
theorem impl_ldI (k : Nat) (m : Int) (d : ByteArray) (at_ n : Int) (sg : Bool) (ha : at_ ≤ 9223372036854775807) (hn : n ≤ 9223372036854775807) (hk : 8 ≤ k) : impl_LoadInt.f (k + 1) m d at_ n sg = some (ldI m d at_ n sg) := by
  unfold impl_LoadInt.f ldI
  rw [impl_width, impl_ldB k m d at_ n ha hn]
  simp only [Option.bind_some]
  cases hg : gwd n
  · simp
  · simp only [if_true]
    by_cases hc : (ldB m d at_ n).2 = 0
    · have hz := ldB_size hc
      rw [if_pos hc, if_pos hc]
      generalize (ldB m d at_ n).1 = s at *
      have hr := low_range s s.size
      rcases gwd_cases hg with rfl | rfl | rfl | rfl
      all_goals
        rw [impl_num (k + 1) s (by omega) (by omega)]
        simp only [Option.bind_some]
      · have e : s.size = 1 := by omega
        rw [e] at hr ⊢
        rw [impl_widen1 hr.1 (by simpa using hr.2)]
        cases sg <;> rfl
      · have e : s.size = 2 := by omega
        rw [e] at hr ⊢
        rw [impl_widen2 hr.1 (by simpa using hr.2)]
        cases sg <;> rfl
      · have e : s.size = 4 := by omega
        rw [e] at hr ⊢
        rw [impl_widen4 hr.1 (by simpa using hr.2)]
        cases sg <;> rfl
      · have e : s.size = 8 := by omega
        rw [e] at hr ⊢
        rw [impl_widen8 hr.1 (by simpa using hr.2)]
        cases sg <;> rfl
    · rw [if_neg hc, if_neg hc]
theorem spec_ldI (k : Nat) (m : Int) (d : ByteArray) (at_ n : Int) (sg : Bool) (ha : at_ ≤ 9223372036854775807) (hn : n ≤ 9223372036854775807) (hk : 8 ≤ k) : spec_LoadInt.f (k + 1) m d at_ n sg = some (ldI m d at_ n sg) := by
  unfold spec_LoadInt.f ldI
  rw [width_same, impl_width, spec_ldB k m d at_ n ha hn]
  simp only [Option.bind_some]
  cases hg : gwd n
  · simp
  · simp only [if_true]
    by_cases hc : (ldB m d at_ n).2 = 0
    · have hz := ldB_size hc
      rw [if_pos hc, if_pos hc]
      generalize (ldB m d at_ n).1 = s at *
      have hr := low_range s s.size
      rcases gwd_cases hg with rfl | rfl | rfl | rfl
      all_goals
        rw [spec_num (k + 1) s (by omega) (by omega)]
        simp only [Option.bind_some]
      · have e : s.size = 1 := by omega
        rw [e] at hr ⊢
        rw [if_pos (show (1 : Int) < 8 by decide), spec_widen1 hr.1 (by simpa using hr.2)]
        cases sg <;> rfl
      · have e : s.size = 2 := by omega
        rw [e] at hr ⊢
        rw [if_pos (show (2 : Int) < 8 by decide), spec_widen2 hr.1 (by simpa using hr.2)]
        cases sg <;> rfl
      · have e : s.size = 4 := by omega
        rw [e] at hr ⊢
        rw [if_pos (show (4 : Int) < 8 by decide), spec_widen4 hr.1 (by simpa using hr.2)]
        cases sg <;> rfl
      · have e : s.size = 8 := by omega
        rw [e] at hr ⊢
        rw [if_neg (show ¬ (8 : Int) < 8 by decide)]
        cases sg <;> rfl
    · rw [if_neg hc, if_neg hc]
end Go.Proofs.Ytdjpbhmkcamkpaa.Pure
