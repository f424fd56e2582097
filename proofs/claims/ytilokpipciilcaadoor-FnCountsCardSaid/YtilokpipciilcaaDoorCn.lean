/- Both texts' counts of noughts and ones. -/
import Derived.Test.YtilokpipciilcaaDoorPo
import Derived.Test.YtilokpipciilcaaDoorQx1
namespace Go.Proofs.YtilokpipciilcaaDoor.Cn
open Go.RowKit Go.Proofs.YtilokpipciilcaaDoor.Q Go.Proofs.YtilokpipciilcaaDoorW.PrintWords Go.Proofs.YtilokpipciilcaaDoorW.PrintLast Go.Proofs.YtilokpipciilcaaDoorW.PrintMore Go.Proofs.YtilokpipciilcaaDoor.Mb Go.Proofs.YtilokpipciilcaaDoor.Po Go.Lib
set_option linter.unusedSimpArgs false
set_option linter.unusedVariables false
set_option linter.unusedSectionVars false

/-! widths -/
def We (n : Int) (e : Nat) : Prop := n = 32 ∧ e = 32 ∨ n = 64 ∧ e = 64
theorem We.le {n : Int} {e : Nat} (h : We n e) : e ≤ 64 := by rcases h with ⟨_, rfl⟩ | ⟨_, rfl⟩ <;> decide
theorem We.ge {n : Int} {e : Nat} (h : We n e) : 32 ≤ e := by rcases h with ⟨_, rfl⟩ | ⟨_, rfl⟩ <;> decide
theorem We.eq {n : Int} {e : Nat} (h : We n e) : n = (e : Int) := by rcases h with ⟨rfl, rfl⟩ | ⟨rfl, rfl⟩ <;> rfl
theorem We.pow {n : Int} {e : Nat} (h : We n e) : 2 ^ e ≤ 18446744073709551616 := by rcases h with ⟨_, rfl⟩ | ⟨_, rfl⟩ <;> decide
theorem We.pow' {n : Int} {e : Nat} (h : We n e) : 4294967296 ≤ 2 ^ e := by rcases h with ⟨_, rfl⟩ | ⟨_, rfl⟩ <;> decide
theorem cutE {n : Int} {e : Nat} (h : We n e) (a : Nat) (ha : a < 18446744073709551616) : impl_cut.f n (a : Int) = some ((a % 2 ^ e : Nat) : Int) := by
  unfold impl_cut.f
  rcases h with ⟨rfl, rfl⟩ | ⟨rfl, rfl⟩
  · rw [if_pos rfl, u64_and32 (by omega) (by omega)]; congr 1
  · rw [if_neg (by decide)]; congr 2; exact (Nat.mod_eq_of_lt ha).symm
theorem mask_cut : spec_l3Mask.f = impl_cut.f := by funext a b; unfold spec_l3Mask.f impl_cut.f; rfl
theorem truth_yes : spec_l3Yes.f = impl_truth.f := by funext a; unfold spec_l3Yes.f impl_truth.f; rfl
theorem wrap32_mod (a : Int) : wrap32 (a % 4294967296) = wrap32 a := by unfold wrap32; omega
theorem signed_same : spec_l3Signed.f = impl_signed.f := by funext a b; unfold spec_l3Signed.f impl_signed.f; rw [wrap32_mod]
theorem good_same : spec_l3Bits.f = impl_goodBits.f := by funext a; unfold spec_l3Bits.f impl_goodBits.f; rfl
theorem goodE {n : Int} {e : Nat} (h : We n e) : impl_goodBits.f n = some true := by
  unfold impl_goodBits.f
  rcases h with ⟨rfl, rfl⟩ | ⟨rfl, rfl⟩ <;> simp
theorem badE {n : Int} (h1 : n ≠ 32) (h2 : n ≠ 64) : impl_goodBits.f n = some false := by
  unfold impl_goodBits.f
  rw [if_neg h1, beq_eq_false_iff_ne.mpr h2]
theorem wrapE {n : Int} {e : Nat} (h : We n e) : IntKind.u64.wrap n = (e : Int) := by
  rcases h with ⟨rfl, rfl⟩ | ⟨rfl, rfl⟩ <;> (rw [wrap_u64]; rfl)

/-! the library's three -/
theorem ones_ok (x : Nat) (hx : x < 18446744073709551616) : bits_OnesCount64.f (x : Int) = some ((popAux 64 x : Nat) : Int) := by
  have hm1 : mm 85 8 = 6148914691236517205 := by decide
  have hm2 : mm 51 8 = 3689348814741910323 := by decide
  have hm3 : mm 15 8 = 1085102592571150095 := by decide
  have hs := (s_all 8 x).1
  rw [hm1, hm2, hm3] at hs
  have a1 : (x / 2) &&& 6148914691236517205 ≤ 6148914691236517205 := Nat.and_le_right
  have a2 : x &&& 6148914691236517205 ≤ 6148914691236517205 := Nat.and_le_right
  have e1 : IntKind.u64.wrap ((Go.bits .and .u64 ((x : Int) / 2) 6148914691236517205) + (Go.bits .and .u64 (x : Int) 6148914691236517205)) = ((s1 6148914691236517205 x : Nat) : Int) := by
    have q1 := Go.Proofs.YtilokpipciilcaaDoor.Mb.u64_and (x / 2) 6148914691236517205 (by omega) (by decide)
    have q2 := Go.Proofs.YtilokpipciilcaaDoor.Mb.u64_and x 6148914691236517205 (by omega) (by decide)
    have q3 : ((x / 2 : Nat) : Int) = (x : Int) / 2 := by omega
    rw [q3] at q1
    rw [show ((6148914691236517205 : Nat) : Int) = 6148914691236517205 from rfl] at q1 q2
    rw [q1, q2, wu64 (by omega) (by omega)]
    unfold s1
    omega
  have hx1 : s1 6148914691236517205 x < 18446744073709551616 := by unfold s1; omega
  generalize hX1 : s1 6148914691236517205 x = x1 at *
  have b1 : (x1 / 4) &&& 3689348814741910323 ≤ 3689348814741910323 := Nat.and_le_right
  have b2 : x1 &&& 3689348814741910323 ≤ 3689348814741910323 := Nat.and_le_right
  have e2 : IntKind.u64.wrap ((Go.bits .and .u64 ((x1 : Int) / 4) 3689348814741910323) + (Go.bits .and .u64 (x1 : Int) 3689348814741910323)) = ((s2 3689348814741910323 x1 : Nat) : Int) := by
    have q1 := Go.Proofs.YtilokpipciilcaaDoor.Mb.u64_and (x1 / 4) 3689348814741910323 (by omega) (by decide)
    have q2 := Go.Proofs.YtilokpipciilcaaDoor.Mb.u64_and x1 3689348814741910323 (by omega) (by decide)
    have q3 : ((x1 / 4 : Nat) : Int) = (x1 : Int) / 4 := by omega
    rw [q3] at q1
    rw [show ((3689348814741910323 : Nat) : Int) = 3689348814741910323 from rfl] at q1 q2
    rw [q1, q2, wu64 (by omega) (by omega)]
    unfold s2
    omega
  have hx2 : s2 3689348814741910323 x1 ≤ 7378697629483820646 := by unfold s2; omega
  generalize hX2 : s2 3689348814741910323 x1 = x2 at *
  have e3 : Go.bits .and .u64 (IntKind.u64.wrap ((x2 : Int) / 16 + (x2 : Int))) 1085102592571150095 = ((dd 8 x : Nat) : Int) := by
    have q1 := Go.Proofs.YtilokpipciilcaaDoor.Mb.u64_and (x2 / 16 + x2) 1085102592571150095 (by omega) (by decide)
    have q3 : ((x2 / 16 + x2 : Nat) : Int) = (x2 : Int) / 16 + (x2 : Int) := by omega
    rw [q3, show ((1085102592571150095 : Nat) : Int) = 1085102592571150095 from rfl] at q1
    rw [wu64 (by omega) (by omega), q1, ← hs]
    rfl
  generalize hD : dd 8 x = d at *
  obtain ⟨k1, k2, k3, k4, k5⟩ := ones64 x d _ _ _ hD.symm rfl rfl rfl
  have e4 : IntKind.u64.wrap ((d : Int) + (d : Int) / 256) = ((d + d / 256 : Nat) : Int) := by rw [wu64 (by omega) (by omega)]; omega
  generalize hY : d + d / 256 = y at *
  have e5 : IntKind.u64.wrap ((y : Int) + (y : Int) / 65536) = ((y + y / 65536 : Nat) : Int) := by rw [wu64 (by omega) (by omega)]; omega
  generalize hZ : y + y / 65536 = z at *
  have e6 : IntKind.u64.wrap ((z : Int) + (z : Int) / 4294967296) = ((z + z / 4294967296 : Nat) : Int) := by rw [wu64 (by omega) (by omega)]; omega
  generalize hT : z + z / 4294967296 = t at *
  have e7 : Go.bits .and .i64 (wrap64 (t : Int)) 127 = ((t % 128 : Nat) : Int) := by
    rw [w64 (by omega) (by omega)]
    have := i64_mask 7 (by decide) (t : Int) (by omega) (by omega)
    rw [show ((2 : Int) ^ 7 - 1) = 127 from rfl, show ((2 : Int) ^ 7) = 128 from rfl] at this
    rw [this]
    omega
  unfold bits_OnesCount64.f
  rw [e1, e2, e3, e4, e5, e6, e7, k1]
theorem len_ok (x : Nat) (hx : x < 18446744073709551616) : bits_Len64.f (x : Int) = some ((Lib.bitLen x : Nat) : Int) := by
  unfold bits_Len64.f
  rw [if_pos (by omega), if_pos (by omega), Int.toNat_natCast]
theorem ctz_ok (x : Nat) (hx : x < 18446744073709551616) : bits_TrailingZeros64.f (x : Int) = some ((ctz 64 x : Nat) : Int) := by
  unfold bits_TrailingZeros64.f
  rw [if_pos (by omega), if_pos (by omega), Int.toNat_natCast]

/-! noughts behind -/
theorem ctz_bits : ∀ (f x : Nat), x ≠ 0 → x < 2 ^ f → (∀ j, j < ctzFrom f x → x / 2 ^ j % 2 = 0) ∧ x / 2 ^ ctzFrom f x % 2 = 1 ∧ x % 2 ^ ctzFrom f x = 0
  | 0, x, h0, h => by simp at h; omega
  | f + 1, x, h0, h => by
    have hx : x / 2 < 2 ^ f := by rw [Nat.pow_succ] at h; omega
    by_cases c : x % 2 = 1
    · have e : ctzFrom (f + 1) x = 0 := by simp only [ctzFrom]; rw [if_pos c]
      rw [e]
      exact ⟨fun j hj => absurd hj (by omega), by simpa using c, by simp; omega⟩
    · have e : ctzFrom (f + 1) x = ctzFrom f (x / 2) + 1 := by simp only [ctzFrom]; rw [if_neg c]; omega
      obtain ⟨q1, q2, q3⟩ := ctz_bits f (x / 2) (by omega) hx
      have ed : ∀ j, x / 2 ^ (j + 1) = x / 2 / 2 ^ j := fun j => by rw [Nat.pow_succ, Nat.mul_comm, Nat.div_div_eq_div_mul]
      rw [e]
      refine ⟨fun j hj => ?_, ?_, ?_⟩
      · cases j with
        | zero => simp; omega
        | succ j => rw [ed]; exact q1 j (by omega)
      · rw [ed]; exact q2
      · rw [Nat.pow_succ, Nat.mul_comm, Nat.mod_mul, q3]
        omega
theorem ctz_lt {e x : Nat} (h0 : x ≠ 0) (h : x < 2 ^ e) (h2 : x < 2 ^ 64) : ctzFrom 64 x < e := by
  obtain ⟨q1, q2, q3⟩ := ctz_bits 64 x h0 h2
  apply Nat.lt_of_not_le
  intro hle
  have hp : 2 ^ e ≤ 2 ^ ctzFrom 64 x := Nat.pow_le_pow_right (by decide) hle
  have : x / 2 ^ ctzFrom 64 x = 0 := Nat.div_eq_of_lt (by omega)
  omega
/-- Noughts behind of a number of e bits. -/
def cz (e x : Nat) : Nat := if x = 0 then e else ctzFrom 64 x
theorem cz_le {e x : Nat} (h : x < 2 ^ e) (h2 : x < 2 ^ 64) : cz e x ≤ e := by
  unfold cz
  split
  · exact Nat.le_refl _
  · rename_i c; exact Nat.le_of_lt (ctz_lt c h h2)

/-! noughts ahead -/
theorem len_le {e x : Nat} (he : e ≤ 64) (h : x < 2 ^ e) : Lib.bitLen x ≤ e := bitLen_le x e he h
theorem len_bounds {x : Nat} (h0 : x ≠ 0) (h : x < 2 ^ 64) : 1 ≤ Lib.bitLen x ∧ 2 ^ (Lib.bitLen x - 1) ≤ x ∧ x < 2 ^ Lib.bitLen x := bitLenAux_bounds 64 x h h0
theorem len_zero : Lib.bitLen 0 = 0 := bitLenAux_zero 64

section
variable {n : Int} {e : Nat} (h : We n e) (x : Nat) (hx : x < 2 ^ e)
include h hx
theorem low64 : x < 18446744073709551616 := Nat.lt_of_lt_of_le hx h.pow
theorem maskS (m : Nat) (hm : m ≤ 64) : spec_l3Mask.f n (m : Int) = some (m : Int) := by
  have := h.pow'
  rw [mask_cut, cutE h m (by omega), Nat.mod_eq_of_lt (by omega)]
theorem bit_at (i : Nat) (hi : i ≤ 63) : Go.bits .and .u64 (shr .u64 (x : Int) (IntKind.u64.wrap (i : Int))) 1 = ((x / 2 ^ i % 2 : Nat) : Int) := by
  have hl := low64 h x hx
  rw [wu64 (by omega) (by omega), shr_nat x i (by omega), and_one_nat _ (Nat.lt_of_le_of_lt (Nat.div_le_self _ _) hl)]
theorem impl_clz : impl_unary.f n 22 (x : Int) = some ((e - Lib.bitLen x : Nat) : Int) := by
  have hl := low64 h x hx
  have := len_le h.le hx
  have := h.le
  unfold impl_unary.f
  rw [if_pos rfl, len_ok x hl]
  simp only [Option.bind_some]
  rw [h.eq, w64 (by omega) (by omega), wu64 (by omega) (by omega)]
  congr 1
  omega
theorem impl_ctz : impl_unary.f n 23 (x : Int) = some ((cz e x : Nat) : Int) := by
  have hl := low64 h x hx
  have hle := cz_le hx hl
  have := h.le
  unfold impl_unary.f
  rw [if_neg (by decide), if_pos rfl, ctz_ok x hl]
  simp only [Option.bind_some]
  have e1 : mn n ((ctz 64 x : Nat) : Int) = ((cz e x : Nat) : Int) := by
    rw [h.eq]
    unfold cz at hle ⊢
    unfold ctz mn
    by_cases c : x = 0
    · rw [if_pos c, if_pos c]; split <;> omega
    · rw [if_neg c] at hle
      rw [if_neg c, if_neg c]; split <;> omega
  rw [e1, wu64 (by omega) (by omega)]
theorem pop_le64 : popAux 64 x ≤ 64 := Nat.le_trans (pop_le 64 x (low64 h x hx)) (bitLenAux_le 64 x 64 (low64 h x hx))
theorem impl_pop : impl_unary.f n 24 (x : Int) = some ((popAux 64 x : Nat) : Int) := by
  have hl := low64 h x hx
  have := pop_le64 h x hx
  unfold impl_unary.f
  rw [if_neg (by decide), if_neg (by decide), if_pos rfl, ones_ok x hl]
  simp only [Option.bind_some]
  rw [wu64 (by omega) (by omega)]
theorem spec_l0 : ∀ (i k : Nat), i < k → i ≤ e → x < 2 ^ i → spec_l3Unary.l0 k n (x : Int) ((e - i : Nat) : Int) ((i : Int) - 1) = some (((e - Lib.bitLen x : Nat) : Int), 0)
  | _, 0, hk, _, _ => absurd hk (by omega)
  | 0, k + 1, hk, hi, hlt => by
    have h0 : x = 0 := by simpa using hlt
    have hee := h.le
    simp only [spec_l3Unary.l0]
    rw [if_neg (by omega), maskS h x hx _ (by omega)]
    subst h0
    rw [len_zero]
    rfl
  | i + 1, k + 1, hk, hi, hlt => by
    have hee := h.le
    have ei : ((i + 1 : Nat) : Int) - 1 = (i : Int) := by omega
    have hl := low64 h x hx
    simp only [spec_l3Unary.l0]
    rw [ei, if_pos (by omega), if_pos (by rw [wu64 (by omega) (by omega)]; omega), bit_at h x hx i (by omega)]
    by_cases c : x / 2 ^ i = 0
    · have hlt2 : x < 2 ^ i := by
        rcases Nat.lt_or_ge x (2 ^ i) with q | q
        · exact q
        · have := Nat.div_pos q (Nat.two_pow_pos i); omega
      rw [if_pos (by rw [c]; rfl), w64 (by omega) (by omega), wu64 (by omega) (by omega)]
      have ee : ((e - (i + 1) : Nat) : Int) + 1 = ((e - i : Nat) : Int) := by omega
      rw [ee]
      exact spec_l0 i k (by omega) (by omega) hlt2
    · have hlt3 : x / 2 ^ i < 2 := by rw [Nat.div_lt_iff_lt_mul (Nat.two_pow_pos i)]; rw [Nat.pow_succ] at hlt; omega
      have h1 : x / 2 ^ i = 1 := by generalize x / 2 ^ i = q at c hlt3 ⊢; omega
      have hge : 2 ^ i ≤ x := by
        rcases Nat.lt_or_ge x (2 ^ i) with q | q
        · rw [Nat.div_eq_of_lt q] at h1; omega
        · exact q
      rw [if_neg (by rw [h1]; decide), maskS h x hx _ (by omega)]
      have hpos := Nat.two_pow_pos i
      have hb := len_bounds (x := x) (by omega) hl
      have hL : Lib.bitLen x ≤ i + 1 := len_le (by omega) hlt
      have hL2 : Lib.bitLen x = i + 1 := by
        rcases Nat.lt_or_ge i (Lib.bitLen x) with q | q
        · omega
        · have := Nat.pow_le_pow_right (n := 2) (by decide) q; omega
      rw [hL2]
      rfl
theorem spec_l1 (c : Nat) (hc : c ≤ e) (hz : ∀ j, j < c → x / 2 ^ j % 2 = 0) (ho : c = e ∨ x / 2 ^ c % 2 = 1) : ∀ (d i k : Nat), i + d = c → d < k → spec_l3Unary.l1 k n (x : Int) (i : Int) (i : Int) = some ((c : Int), 0)
  | _, _, 0, _, hk => absurd hk (by omega)
  | 0, i, k + 1, hi, hk => by
    have hee := h.le
    obtain rfl : i = c := by omega
    simp only [spec_l3Unary.l1]
    rcases ho with q | q
    · rw [if_neg (by rw [h.eq]; omega), maskS h x hx _ (by omega)]; rfl
    · by_cases c2 : i = e
      · rw [if_neg (by rw [h.eq]; omega), maskS h x hx _ (by omega)]; rfl
      · rw [if_pos (by rw [h.eq]; omega), if_pos (by rw [wu64 (by omega) (by omega)]; omega), bit_at h x hx i (by omega), q, if_neg (by decide), maskS h x hx _ (by omega)]; rfl
  | d + 1, i, k + 1, hi, hk => by
    have hee := h.le
    simp only [spec_l3Unary.l1]
    rw [if_pos (by rw [h.eq]; omega), if_pos (by rw [wu64 (by omega) (by omega)]; omega), bit_at h x hx i (by omega), hz i (by omega), if_pos (show ((0 : Nat) : Int) = 0 from rfl), w64 (by omega) (by omega), wu64 (by omega) (by omega)]
    exact spec_l1 c hc hz ho d (i + 1) k (by omega) (by omega)
theorem spec_l2 : ∀ (d i acc k : Nat), i + d = e → d < k → acc ≤ i → spec_l3Unary.l2 k n (x : Int) (acc : Int) (i : Int) = some (((acc + popAux d (x / 2 ^ i) : Nat) : Int), 0)
  | _, _, _, 0, _, hk, _ => absurd hk (by omega)
  | 0, i, acc, k + 1, hi, hk, ha => by
    have hee := h.le
    simp only [spec_l3Unary.l2]
    rw [if_neg (by rw [h.eq]; omega), maskS h x hx _ (by omega)]
    rfl
  | d + 1, i, acc, k + 1, hi, hk, ha => by
    have hee := h.le
    have hb : x / 2 ^ i % 2 < 2 := Nat.mod_lt _ (by decide)
    simp only [spec_l3Unary.l2]
    rw [if_pos (by rw [h.eq]; omega), if_pos (by rw [wu64 (by omega) (by omega)]; omega), bit_at h x hx i (by omega), w64 (by omega) (by omega), wu64 (by omega) (by omega)]
    have := spec_l2 d (i + 1) (acc + x / 2 ^ i % 2) k (by omega) (by omega) (by omega)
    rw [show ((acc : Int) + ((x / 2 ^ i % 2 : Nat) : Int)) = ((acc + x / 2 ^ i % 2 : Nat) : Int) from by omega, show ((i : Int) + 1) = ((i + 1 : Nat) : Int) from by omega, this]
    congr 3
    simp only [popAux]
    rw [pow_div]
    omega
end
end Go.Proofs.YtilokpipciilcaaDoor.Cn
