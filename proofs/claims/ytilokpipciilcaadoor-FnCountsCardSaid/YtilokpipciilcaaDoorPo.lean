/- Counts of bits: plain numbers. -/
import Derived.Test.YtilokpipciilcaaDoorMb
import Derived.Lib.BitFns
import Derived.Lib.ItoaNum
import Derived.Lib.TrailingZeros
namespace Go.Proofs.YtilokpipciilcaaDoor.Po
open Go Go.Lib
set_option linter.unusedSimpArgs false
set_option linter.unusedVariables false
set_option linter.unusedSectionVars false

/-! both of two numbers, cut at a place -/
theorem and_split (k h l H L : Nat) (hl : l < 2 ^ k) (hL : L < 2 ^ k) : (2 ^ k * h + l) &&& (2 ^ k * H + L) = 2 ^ k * (h &&& H) + (l &&& L) := by
  apply Nat.eq_of_testBit_eq
  intro i
  rw [Nat.testBit_and, Nat.testBit_two_pow_mul_add _ hl, Nat.testBit_two_pow_mul_add _ hL, Nat.testBit_two_pow_mul_add _ (Nat.and_lt_two_pow l hL)]
  split
  · rw [Nat.testBit_and]
  · rw [Nat.testBit_and]
theorem and_byte (h l H L : Nat) (hl : l < 256) (hL : L < 256) : (256 * h + l) &&& (256 * H + L) = 256 * (h &&& H) + (l &&& L) := and_split 8 h l H L hl hL
theorem and_two (h l H L : Nat) (hl : l < 2) (hL : L < 2) : (2 * h + l) &&& (2 * H + L) = 2 * (h &&& H) + (l &&& L) := and_split 1 h l H L hl hL

/-! the count of ones, four places at a time -/
def s1 (M x : Nat) : Nat := ((x / 2) &&& M) + (x &&& M)
def s2 (M x : Nat) : Nat := ((x / 4) &&& M) + (x &&& M)
def s3 (M x : Nat) : Nat := (x / 16 + x) &&& M
def mm (c : Nat) : Nat → Nat
  | 0 => 0
  | n + 1 => 256 * mm c n + c
def p8 (b : Nat) : Nat := s3 15 (s2 51 (s1 85 b))
theorem b1 : ∀ (h : Fin 2) (l : Fin 256), ((128 * h.val + l.val / 2) &&& 85) = ((l.val / 2) &&& 85) := by decide +kernel
theorem b1s : ∀ (l : Fin 256), s1 85 l.val < 256 := by decide +kernel
theorem b2 : ∀ (h : Fin 4) (l : Fin 256), ((64 * h.val + l.val / 4) &&& 51) = ((l.val / 4) &&& 51) := by decide +kernel
theorem b2s : ∀ (l : Fin 256), s2 51 (s1 85 l.val) < 69 ∧ s2 51 (s1 85 l.val) % 16 ≤ 4 ∧ s2 51 (s1 85 l.val) / 16 ≤ 4 := by decide +kernel
theorem b3 : ∀ (h : Fin 5) (l : Fin 69), l.val % 16 ≤ 4 → l.val / 16 ≤ 4 → ((16 * h.val + l.val / 16 + l.val) &&& 15) = ((l.val / 16 + l.val) &&& 15) := by decide +kernel
theorem p8_pop : ∀ (l : Fin 256), p8 l.val = popAux 8 l.val ∧ p8 l.val ≤ 8 := by decide +kernel
theorem s1_step (M h l : Nat) (hl : l < 256) : s1 (256 * M + 85) (256 * h + l) = 256 * s1 M h + s1 85 l := by
  unfold s1
  have e : (256 * h + l) / 2 = 256 * (h / 2) + (128 * (h % 2) + l / 2) := by omega
  have q := b1 ⟨h % 2, by omega⟩ ⟨l, hl⟩
  dsimp only at q
  rw [e, and_byte _ _ _ _ (by omega) (by decide), and_byte _ _ _ _ hl (by decide), q]
  omega
theorem s2_step (M h l : Nat) (hl : l < 256) : s2 (256 * M + 51) (256 * h + l) = 256 * s2 M h + s2 51 l := by
  unfold s2
  have e : (256 * h + l) / 4 = 256 * (h / 4) + (64 * (h % 4) + l / 4) := by omega
  have q := b2 ⟨h % 4, by omega⟩ ⟨l, hl⟩
  dsimp only at q
  rw [e, and_byte _ _ _ _ (by omega) (by decide), and_byte _ _ _ _ hl (by decide), q]
  omega
theorem s3_step (M h l : Nat) (hl : l < 69) (h1 : l % 16 ≤ 4) (h2 : l / 16 ≤ 4) (hh : h % 16 ≤ 4) : s3 (256 * M + 15) (256 * h + l) = 256 * s3 M h + s3 15 l := by
  unfold s3
  have e : (256 * h + l) / 16 + (256 * h + l) = 256 * (h / 16 + h) + (16 * (h % 16) + l / 16 + l) := by omega
  have q := b3 ⟨h % 16, by omega⟩ ⟨l, hl⟩ h1 h2
  dsimp only at q
  rw [e, and_byte _ _ _ _ (by omega) (by decide), q]
/-- The ones of each byte, in the byte's place. -/
def dd : Nat → Nat → Nat
  | 0, _ => 0
  | n + 1, x => 256 * dd n (x / 256) + p8 (x % 256)
theorem s_all : ∀ (n x : Nat), s3 (mm 15 n) (s2 (mm 51 n) (s1 (mm 85 n) x)) = dd n x ∧ s2 (mm 51 n) (s1 (mm 85 n) x) % 16 ≤ 4
  | 0, x => by simp [mm, dd, s1, s2, s3]
  | n + 1, x => by
    obtain ⟨ih, hq⟩ := s_all n (x / 256)
    have hl : x % 256 < 256 := Nat.mod_lt _ (by decide)
    have e : x = 256 * (x / 256) + x % 256 := by omega
    have q1 := b1s ⟨x % 256, hl⟩
    obtain ⟨q2, q3, q4⟩ := b2s ⟨x % 256, hl⟩
    dsimp only at q1 q2 q3 q4
    have e1 : s1 (mm 85 (n + 1)) x = 256 * s1 (mm 85 n) (x / 256) + s1 85 (x % 256) := by
      conv => lhs; rw [e]
      exact s1_step _ _ _ hl
    have e2 : s2 (mm 51 (n + 1)) (s1 (mm 85 (n + 1)) x) = 256 * s2 (mm 51 n) (s1 (mm 85 n) (x / 256)) + s2 51 (s1 85 (x % 256)) := by
      rw [e1]; exact s2_step _ _ _ q1
    rw [e2]
    refine ⟨?_, by omega⟩
    show s3 (256 * mm 15 n + 15) _ = _
    rw [s3_step _ _ _ q2 q3 q4 hq, ih]
    rfl
theorem popAux_byte (f x : Nat) : popAux (8 + f) x = popAux 8 (x % 256) + popAux f (x / 256) := by
  rw [show 8 + f = f + 1 + 1 + 1 + 1 + 1 + 1 + 1 + 1 from by omega]
  simp only [popAux]
  have e8 : x / 2 / 2 / 2 / 2 / 2 / 2 / 2 / 2 = x / 256 := by omega
  rw [e8]
  have h0 : x % 256 % 2 = x % 2 := by omega
  have h1 : x % 256 / 2 % 2 = x / 2 % 2 := by omega
  have h2 : x % 256 / 2 / 2 % 2 = x / 2 / 2 % 2 := by omega
  have h3 : x % 256 / 2 / 2 / 2 % 2 = x / 2 / 2 / 2 % 2 := by omega
  have h4 : x % 256 / 2 / 2 / 2 / 2 % 2 = x / 2 / 2 / 2 / 2 % 2 := by omega
  have h5 : x % 256 / 2 / 2 / 2 / 2 / 2 % 2 = x / 2 / 2 / 2 / 2 / 2 % 2 := by omega
  have h6 : x % 256 / 2 / 2 / 2 / 2 / 2 / 2 % 2 = x / 2 / 2 / 2 / 2 / 2 / 2 % 2 := by omega
  have h7 : x % 256 / 2 / 2 / 2 / 2 / 2 / 2 / 2 % 2 = x / 2 / 2 / 2 / 2 / 2 / 2 / 2 % 2 := by omega
  rw [h0, h1, h2, h3, h4, h5, h6, h7]
  simp only [Nat.add_assoc, Nat.add_zero, Nat.zero_add]
theorem p8_le (l : Nat) : p8 (l % 256) ≤ 8 := (p8_pop ⟨l % 256, Nat.mod_lt _ (by decide)⟩).2
theorem p8_eq (l : Nat) : popAux 8 (l % 256) = p8 (l % 256) := (p8_pop ⟨l % 256, Nat.mod_lt _ (by decide)⟩).1.symm
def sm : Nat → Nat → Nat
  | 0, _ => 0
  | n + 1, x => p8 (x % 256) + sm n (x / 256)
theorem sm_pop : ∀ (n x : Nat), popAux (8 * n) x = sm n x
  | 0, x => rfl
  | n + 1, x => by rw [show 8 * (n + 1) = 8 + 8 * n from by omega, popAux_byte, p8_eq, sm_pop n]; rfl
theorem dd_pop (x : Nat) : ∃ c0 c1 c2 c3 c4 c5 c6 c7 : Nat, c0 ≤ 8 ∧ c1 ≤ 8 ∧ c2 ≤ 8 ∧ c3 ≤ 8 ∧ c4 ≤ 8 ∧ c5 ≤ 8 ∧ c6 ≤ 8 ∧ c7 ≤ 8 ∧
    dd 8 x = 256 * (256 * (256 * (256 * (256 * (256 * (256 * (256 * 0 + c7) + c6) + c5) + c4) + c3) + c2) + c1) + c0 ∧ popAux 64 x = c0 + (c1 + (c2 + (c3 + (c4 + (c5 + (c6 + (c7 + 0))))))) := by
  have h := sm_pop 8 x
  simp only [Nat.reduceMul, sm] at h
  simp only [dd]
  exact ⟨_, _, _, _, _, _, _, _, p8_le _, p8_le _, p8_le _, p8_le _, p8_le _, p8_le _, p8_le _, p8_le _, rfl, h⟩
/-- The library's count of ones. -/
theorem ones64 (x d y z t : Nat) (hd0 : d = dd 8 x) (hy : y = d + d / 256) (hz : z = y + y / 65536) (ht : t = z + z / 4294967296) :
    t % 128 = popAux 64 x ∧ d < 651057060983703561 ∧ y < 671402594139444298 ∧ z < 671412838957846499 ∧ t < 671412995283120219 := by
  obtain ⟨c0, c1, c2, c3, c4, c5, c6, c7, h0, h1, h2, h3, h4, h5, h6, h7, e1, e2⟩ := dd_pop x
  rw [e1] at hd0
  rw [e2]
  clear e1 e2
  have hdd : d / 256 = c1 + 256 * c2 + 65536 * c3 + 16777216 * c4 + 4294967296 * c5 + 1099511627776 * c6 + 281474976710656 * c7 := by omega
  rw [hdd, hd0] at hy
  clear hdd
  have hyy : y / 65536 = (c2 + c3) + 256 * (c3 + c4) + 65536 * (c4 + c5) + 16777216 * (c5 + c6) + 4294967296 * (c6 + c7) + 1099511627776 * c7 := by clear hz ht hd0; omega
  rw [hyy, hy] at hz
  clear hyy
  have hzz : z / 4294967296 = (c4 + c5 + c6 + c7) + 256 * (c5 + c6 + c7) + 65536 * (c6 + c7) + 16777216 * c7 := by clear hy ht hd0; omega
  rw [hzz, hz] at ht
  clear hzz
  refine ⟨?_, ?_, ?_, ?_, ?_⟩
  · clear hd0 hy hz; omega
  · clear hy hz ht; omega
  · clear hd0 hz ht; omega
  · clear hd0 hy ht; omega
  · clear hd0 hy hz; omega

/-! what the counts have to do with one another -/
theorem pop_zero : ∀ f, popAux f 0 = 0
  | 0 => rfl
  | f + 1 => by simp [popAux, pop_zero f]
theorem pop_pred : ∀ (f x : Nat), x ≠ 0 → x < 2 ^ f → popAux f (x &&& (x - 1)) + 1 = popAux f x
  | 0, x, h0, h => by simp at h; omega
  | f + 1, x, h0, h => by
    have hx : x / 2 < 2 ^ f := by rw [Nat.pow_succ] at h; omega
    by_cases c : x % 2 = 1
    · have e : x &&& (x - 1) = 2 * (x / 2) := by
        have e1 : x = 2 * (x / 2) + 1 := by omega
        have e2 : x - 1 = 2 * (x / 2) + 0 := by omega
        conv => lhs; rw [e2]; lhs; rw [e1]
        rw [and_two _ _ _ _ (by decide) (by decide), Nat.and_self]
        simp
      rw [e]
      simp only [popAux]
      rw [show 2 * (x / 2) % 2 = 0 from by omega, show 2 * (x / 2) / 2 = x / 2 from by omega]
      omega
    · have hne : x / 2 ≠ 0 := by omega
      have e : x &&& (x - 1) = 2 * ((x / 2) &&& (x / 2 - 1)) := by
        have e1 : x = 2 * (x / 2) + 0 := by omega
        have e2 : x - 1 = 2 * (x / 2 - 1) + 1 := by omega
        conv => lhs; rw [e2]; lhs; rw [e1]
        rw [and_two _ _ _ _ (by decide) (by decide)]
        simp
      rw [e]
      simp only [popAux]
      have ih := pop_pred f (x / 2) hne hx
      rw [show 2 * ((x / 2) &&& (x / 2 - 1)) % 2 = 0 from by omega, show 2 * ((x / 2) &&& (x / 2 - 1)) / 2 = (x / 2) &&& (x / 2 - 1) from by omega]
      omega
theorem pop_le : ∀ (f x : Nat), x < 2 ^ f → popAux f x ≤ bitLenAux f x
  | 0, x, h => by simp [popAux, bitLenAux]
  | f + 1, x, h => by
    have hx : x / 2 < 2 ^ f := by rw [Nat.pow_succ] at h; omega
    have ih := pop_le f (x / 2) hx
    simp only [popAux, bitLenAux]
    split
    · subst x; simp [pop_zero]
    · omega
theorem pop_ctz : ∀ (f x : Nat), x ≠ 0 → x < 2 ^ f → popAux f x + ctzFrom f x ≤ bitLenAux f x
  | 0, x, h0, h => by simp at h; omega
  | f + 1, x, h0, h => by
    have hx : x / 2 < 2 ^ f := by rw [Nat.pow_succ] at h; omega
    simp only [popAux, bitLenAux, ctzFrom]
    rw [if_neg h0]
    split
    · have := pop_le f (x / 2) hx
      omega
    · have := pop_ctz f (x / 2) (by omega) hx
      omega
theorem pop_low : ∀ (f g x : Nat), x < 2 ^ f → popAux (f + g) x = popAux f x
  | 0, g, x, h => by
    have : x = 0 := by simpa using h
    subst this; simp [pop_zero, popAux]
  | f + 1, g, x, h => by
    have hx : x / 2 < 2 ^ f := by rw [Nat.pow_succ] at h; omega
    rw [show f + 1 + g = (f + g) + 1 from by omega]
    simp only [popAux]
    rw [pop_low f g _ hx]
theorem pow_div (x i : Nat) : x / 2 ^ (i + 1) = x / 2 ^ i / 2 := by rw [Nat.pow_succ, Nat.div_div_eq_div_mul]
end Go.Proofs.YtilokpipciilcaaDoor.Po
