/- Numbers with a sign in as many bytes as they need: what is written, and that it is read back; both texts read alike. -/
import Derived.Test.YtdckgbmonojdaaaLz
import Derived.Test.YtdckgbmonojdaaaQx2
import Derived.Test.YtdckgbmonojdaaaQx4
namespace Go.Proofs.Ytdckgbmonojdaaa.Leb
open Go.RowKit Go.Proofs.Ytdckgbmonojdaaa.Q Go.Proofs.YtdckgbmonojdaaaW.PrintWords Go.Proofs.YtdckgbmonojdaaaW.PrintLast Go.Proofs.YtdckgbmonojdaaaW.PrintMore Go.Proofs.Ytdckgbmonojdaaa.Mb
set_option linter.unusedSimpArgs false
set_option linter.unusedVariables false

theorem u8_and64 {b : Int} (h0 : 0 ≤ b) (h1 : b ≤ 127) : Go.bits .and .u8 b 64 = 0 ↔ b < 64 := by
  have h : ∀ n : Fin 128, (Go.bits .and .u8 ((n.val : Nat) : Int) 64 = 0 ↔ ((n.val : Nat) : Int) < 64) := by decide +kernel
  obtain ⟨b, rfl⟩ := Int.eq_ofNat_of_zero_le h0
  exact h ⟨b, by omega⟩
/-- The bytes of a number with a sign. -/
def sl : Nat → Int → List Int
  | 0, x => [x % 128]
  | f + 1, x => if -64 ≤ x ∧ x < 64 then [x % 128] else (x % 128 + 128) :: sl f (x / 128)
theorem sl_in {f : Nat} {x : Int} (h : -64 ≤ x ∧ x < 64) : sl (f + 1) x = [x % 128] := by simp only [sl]; rw [if_pos h]
theorem sl_out {f : Nat} {x : Int} (h : ¬ (-64 ≤ x ∧ x < 64)) : sl (f + 1) x = (x % 128 + 128) :: sl f (x / 128) := by simp only [sl]; rw [if_neg h]
theorem sl_b8 (f : Nat) : ∀ x : Int, B8 (sl f x) := by
  induction f with
  | zero =>
    intro x y hy
    simp only [sl, List.mem_singleton] at hy
    subst hy; omega
  | succ f ih =>
    intro x y hy
    by_cases c : -64 ≤ x ∧ x < 64
    · rw [sl_in c, List.mem_singleton] at hy
      subst hy; omega
    · rw [sl_out c] at hy
      rcases List.mem_cons.1 hy with rfl | hy
      · omega
      · exact ih (x / 128) y hy
/-- One round of the writer. -/
theorem sleb_step (k : Nat) (x : Int) (acc : List Int) (ha : acc.length < 140737488355328) : impl_SlebBytes.l0 (k + 1) x acc = if -64 ≤ x ∧ x < 64 then some (strOfNums (acc ++ [x % 128])) else impl_SlebBytes.l0 k (x / 128) (acc ++ [x % 128 + 128]) := by
  simp only [impl_SlebBytes.l0]
  rw [i64_and127, show x % 128 % 256 = x % 128 by omega, u8_or128 (by omega) (by omega), show x % 128 % 128 + 128 = x % 128 + 128 by omega]
  have h64 := u8_and64 (b := x % 128) (by omega) (by omega)
  simp only [h64, if_pos ha]
  by_cases c1 : x / 128 = 0
  · rw [if_pos c1]
    by_cases c2 : x % 128 < 64
    · rw [if_pos c2, if_pos (by omega)]
    · rw [if_neg c2, if_neg (by omega), if_neg (by omega)]
  · rw [if_neg c1]
    by_cases c3 : x / 128 = -1
    · rw [if_pos c3]
      by_cases c2 : x % 128 < 64
      · rw [if_pos c2, if_neg (by omega)]
      · rw [if_neg c2, if_pos (by omega)]
    · rw [if_neg c3, if_neg (by omega)]
theorem sleb_same : ∀ (k : Nat) (x : Int) (acc : List Int), spec_l1Sleb.l0 k x acc = impl_SlebBytes.l0 k x acc := by
  intro k
  induction k with
  | zero => intros; rfl
  | succ k ih => intro x acc; simp only [spec_l1Sleb.l0, impl_SlebBytes.l0, ih]
theorem pow_small {f : Nat} (hf : f ≤ 9) : (1 : Int) ≤ 128 ^ f ∧ (128 : Int) ^ f ≤ 9223372036854775808 := by
  have h1 : (128 : Int) ^ f ≤ 128 ^ 9 := pow_le_pow 128 (by decide) hf
  have h2 : (0 : Int) < 128 ^ f := Int.pow_pos (by decide)
  have h3 : (128 : Int) ^ 9 = 9223372036854775808 := by decide
  exact ⟨by omega, by omega⟩
theorem impl_sl_l0 (f : Nat) : ∀ (k : Nat) (x : Int) (acc : List Int), f < k → -(64 * 128 ^ f) ≤ x → x < 64 * 128 ^ f → acc.length + f ≤ 1000 → impl_SlebBytes.l0 k x acc = some (strOfNums (acc ++ sl f x)) := by
  induction f with
  | zero =>
    intro k x acc hk h0 h1 ha
    obtain ⟨k, rfl⟩ : ∃ j, k = j + 1 := ⟨k - 1, by omega⟩
    rw [Int.pow_zero] at h0 h1
    rw [sleb_step k x acc (by omega), if_pos (by omega)]
    rfl
  | succ f ih =>
    intro k x acc hk h0 h1 ha
    obtain ⟨k, rfl⟩ : ∃ j, k = j + 1 := ⟨k - 1, by omega⟩
    rw [Int.pow_succ] at h0 h1
    rw [sleb_step k x acc (by omega)]
    by_cases c : -64 ≤ x ∧ x < 64
    · rw [if_pos c, sl_in c]
    · rw [if_neg c, sl_out c, ih k (x / 128) _ (by omega) (by omega) (by omega) (by simp; omega), List.append_assoc]
      rfl
/-- The bytes of a number of 64 bits with a sign. -/
def S (x : Int) : List Int := sl 9 x
theorem s_bounds {x : Int} (h0 : -9223372036854775808 ≤ x) (h1 : x ≤ 9223372036854775807) : -(64 * 128 ^ 9) ≤ x ∧ x < 64 * 128 ^ 9 := by
  have h9 : (128 : Int) ^ 9 = 9223372036854775808 := by decide
  rw [h9]; omega
theorem impl_S (k : Nat) (hk : 10 ≤ k) (x : Int) (h0 : -9223372036854775808 ≤ x) (h1 : x ≤ 9223372036854775807) : impl_SlebBytes.f k x = some (strOfNums (S x)) := by
  have hb := s_bounds h0 h1
  unfold impl_SlebBytes.f
  rw [impl_sl_l0 9 k x [] (by omega) hb.1 hb.2 (by simp)]
  rfl
theorem spec_S (k : Nat) (hk : 10 ≤ k) (x : Int) (h0 : -9223372036854775808 ≤ x) (h1 : x ≤ 9223372036854775807) : spec_SlebBytes.f k x = some (strOfNums (S x)) := by
  unfold spec_SlebBytes.f spec_l1Sleb.f
  rw [sleb_same]
  have := impl_S k hk x h0 h1
  unfold impl_SlebBytes.f at this
  rw [this]
  rfl
theorem sl_len (f : Nat) : ∀ x : Int, -(64 * 128 ^ f) ≤ x → x < 64 * 128 ^ f → 1 ≤ (sl f x).length ∧ (sl f x).length ≤ f + 1 ∧ -(64 * 128 ^ ((sl f x).length - 1)) ≤ x ∧ x < 64 * 128 ^ ((sl f x).length - 1) := by
  induction f with
  | zero =>
    intro x h0 h1
    rw [show (sl 0 x).length = 1 from rfl]
    exact ⟨by omega, by omega, h0, h1⟩
  | succ f ih =>
    intro x h0 h1
    rw [Int.pow_succ] at h0 h1
    by_cases c : -64 ≤ x ∧ x < 64
    · rw [sl_in c, List.length_singleton]
      exact ⟨by omega, by omega, by rw [Nat.sub_self, Int.pow_zero]; omega, by rw [Nat.sub_self, Int.pow_zero]; omega⟩
    · rw [sl_out c, List.length_cons]
      obtain ⟨a, b, d, e⟩ := ih (x / 128) (by omega) (by omega)
      generalize (sl f (x / 128)).length = L at *
      obtain ⟨L, rfl⟩ : ∃ j, L = j + 1 := ⟨L - 1, by omega⟩
      rw [Nat.add_sub_cancel] at d e ⊢
      rw [Int.pow_succ]
      exact ⟨by omega, by omega, by omega, by omega⟩

/-! reading: what a last byte tells -/
/-- A byte's seven bits with their sign. -/
def sg7 (low : Int) : Int := if low ≥ 64 then low - 128 else low
/-- Is the last byte right, when but r bits are left? -/
def fitS (low r : Int) : Bool := decide (7 ≤ r) || decide (-(2 ^ (r - 1).toNat) ≤ sg7 low ∧ sg7 low < 2 ^ (r - 1).toNat)
theorem shr_fit {low r : Int} (h0 : 0 ≤ low) (h1 : low ≤ 127) (hr0 : 1 ≤ r) (hr : r < 7) : fitS low r = ((shr .i64 (sg7 low) (r - 1) == 0) || (shr .i64 (sg7 low) (r - 1) == -1)) ∧
    fitS low r = ((shr .u64 low (r - 1) == 0) || (shr .u64 low (r - 1) == shr .u64 127 (r - 1))) := by
  have h : ∀ n : Fin 128, ∀ q : Fin 6, fitS ((n.val : Nat) : Int) (((q.val : Nat) : Int) + 1) = ((shr .i64 (sg7 ((n.val : Nat) : Int)) (((q.val : Nat) : Int) + 1 - 1) == 0) || (shr .i64 (sg7 ((n.val : Nat) : Int)) (((q.val : Nat) : Int) + 1 - 1) == -1)) ∧
      fitS ((n.val : Nat) : Int) (((q.val : Nat) : Int) + 1) = ((shr .u64 ((n.val : Nat) : Int) (((q.val : Nat) : Int) + 1 - 1) == 0) || (shr .u64 ((n.val : Nat) : Int) (((q.val : Nat) : Int) + 1 - 1) == shr .u64 127 (((q.val : Nat) : Int) + 1 - 1))) := by decide +kernel
  obtain ⟨low, rfl⟩ := Int.eq_ofNat_of_zero_le h0
  obtain ⟨q, rfl⟩ : ∃ q : Nat, r = (q : Int) + 1 := ⟨(r - 1).toNat, by omega⟩
  exact h ⟨low, by omega⟩ ⟨q, by omega⟩
end Go.Proofs.Ytdckgbmonojdaaa.Leb
