/- The law FnCounts, on numbers alone. -/
import Derived.Test.YtilokpipciilcaaDoorCm
import Derived.Test.YtilokpipciilcaaDoorQx2
namespace Go.Proofs.YtilokpipciilcaaDoor.Pure
open Go.RowKit Go.Proofs.YtilokpipciilcaaDoor.Q Go.Proofs.YtilokpipciilcaaDoorW.PrintWords Go.Proofs.YtilokpipciilcaaDoorW.PrintLast Go.Proofs.YtilokpipciilcaaDoorW.PrintMore Go.Proofs.YtilokpipciilcaaDoor.Mb Go.Proofs.YtilokpipciilcaaDoor.Po Go.Proofs.YtilokpipciilcaaDoor.Cur Go.Proofs.YtilokpipciilcaaDoor.Cn Go.Lib
set_option linter.unusedSimpArgs false
set_option linter.unusedVariables false

theorem j5_ok {l : List Int} (hl : U8 l) {k : Nat} (hk : 9 ≤ k) : laws_FnCounts.j5 (k + 1) l = some true := by
  simp only [laws_FnCounts.j5]
  obtain ⟨b, x, e1, hx0, hx1⟩ := drawSigned_ok hl hk
  rw [e1]
  simp only [Option.bind_some]
  unfold impl_SignedOf.f spec_SignedOf.f impl_BitsOf.f spec_BitsOf.f impl_Extend32.f
  rw [good_same, signed_same, mask_cut]
  by_cases c : b = 32
  · subst c
    have hg : impl_goodBits.f 32 = some true := rfl
    have hs : impl_signed.f 32 x = some (wrap64 (wrap32 x)) := rfl
    rw [hg]
    simp only [Option.bind_some, if_true, hs]
    have h1 := cutE (n := 32) (e := 32) (.inl ⟨rfl, rfl⟩) (IntKind.u64.wrap (wrap64 (wrap32 x))).toNat (by have := wrap_u64_range (wrap64 (wrap32 x)); omega)
    have h2 := cutE (n := 32) (e := 32) (.inl ⟨rfl, rfl⟩) (IntKind.u64.wrap (wrap64 x)).toNat (by have := wrap_u64_range (wrap64 x); omega)
    have r1 := wrap_u64_range (wrap64 (wrap32 x))
    have r2 := wrap_u64_range (wrap64 x)
    rw [Int.toNat_of_nonneg r1.1] at h1
    rw [Int.toNat_of_nonneg r2.1] at h2
    rw [h1, h2]
    simp only [Option.bind_some, if_true]
    have e2 : (((IntKind.u64.wrap (wrap64 (wrap32 x))).toNat % 2 ^ 32 : Nat) : Int) = (((IntKind.u64.wrap (wrap64 x)).toNat % 2 ^ 32 : Nat) : Int) := by
      rw [show (2 : Nat) ^ 32 = 4294967296 from rfl]
      rw [wrap_u64] at r1 r2 ⊢
      rw [wrap_u64]
      unfold wrap64 wrap32
      omega
    rw [e2, if_pos rfl]
    simp
  · by_cases c2 : b = 64
    · subst c2
      have hg : impl_goodBits.f 64 = some true := rfl
      have hs : impl_signed.f 64 x = some (wrap64 x) := rfl
      have hc : ∀ z, impl_cut.f 64 z = some z := fun z => rfl
      rw [hg]
      simp only [Option.bind_some, if_true, hs, hc]
      simp
    · rw [badE c c2]
      simp
theorem x_low {n : Int} {e : Nat} (h : We n e) (x : Nat) (hx : x < 2 ^ e) : x % 2 ^ e = x ∧ x < 18446744073709551616 := ⟨Nat.mod_eq_of_lt hx, low64 h x hx⟩
theorem j4_ok {l : List Int} (hl : U8 l) {n : Int} {e : Nat} (h : We n e) {k : Nat} (hk : 9 ≤ k) (x : Nat) (hx : x < 2 ^ e) : laws_FnCounts.j4 (k + 2) l n (x : Int) ((popAux 64 x : Nat) : Int) false = some true := by
  obtain ⟨hm, hl64⟩ := x_low h x hx
  simp only [laws_FnCounts.j4, Bool.false_eq_true, if_false]
  have hp64 := pop_le64 h x hx
  by_cases c : x = 0
  · subst c
    have e1 : Go.bits .and .u64 ((0 : Nat) : Int) (IntKind.u64.wrap (((0 : Nat) : Int) - 1)) = ((0 : Nat) : Int) := by decide +kernel
    rw [e1, i_pop h k 0 (by decide)]
    simp only [Option.bind_some]
    rw [if_pos (show ((0 : Nat) : Int) = 0 from rfl)]
    exact j5_ok hl hk
  · have e1 : Go.bits .and .u64 (x : Int) (IntKind.u64.wrap ((x : Int) - 1)) = ((x &&& (x - 1) : Nat) : Int) := by
      rw [wu64 (by omega) (by omega), show (x : Int) - 1 = ((x - 1 : Nat) : Int) from by omega]
      exact Go.Proofs.YtilokpipciilcaaDoor.Mb.u64_and x (x - 1) (by omega) (by omega)
    have hy : x &&& (x - 1) ≤ x := Nat.and_le_left
    obtain ⟨hm2, _⟩ := x_low h (x &&& (x - 1)) (by omega)
    rw [e1, i_pop h k _ (by omega), hm2]
    simp only [Option.bind_some]
    rw [if_neg (show ¬ ((x : Nat) : Int) = 0 from by omega)]
    have hp := pop_pred 64 x c hl64
    rw [if_pos (by rw [wu64 (by omega) (by omega)]; omega)]
    exact j5_ok hl hk
theorem j3_ok {l : List Int} (hl : U8 l) {n : Int} {e : Nat} (h : We n e) {k : Nat} (hk : 9 ≤ k) (x : Nat) (hx : x < 2 ^ e) :
    laws_FnCounts.j3 (k + 3) l n (x : Int) ((e - Lib.bitLen x : Nat) : Int) ((cz e x : Nat) : Int) ((popAux 64 x : Nat) : Int) false = some true := by
  obtain ⟨hm, hl64⟩ := x_low h x hx
  have hee := h.le
  simp only [laws_FnCounts.j3, Bool.false_eq_true, if_false]
  by_cases c : x = 0
  · subst c
    rw [if_pos (show ((0 : Nat) : Int) = 0 from rfl)]
    exact j4_ok hl h hk 0 hx
  · obtain ⟨b1, b2, b3⟩ := len_bounds c hl64
    have hle := len_le hee hx
    obtain ⟨z1, z2, z3⟩ := ctz_bits 64 x c hl64
    have hz := ctz_lt c hx hl64
    have hcz : cz e x = ctzFrom 64 x := by unfold cz; rw [if_neg c]
    have hpc := pop_ctz 64 x c hl64
    rw [show bitLenAux 64 x = Lib.bitLen x from rfl] at hpc
    have ew : IntKind.u64.wrap (IntKind.u64.wrap (IntKind.u64.wrap n - ((e - Lib.bitLen x : Nat) : Int)) - 1) = ((Lib.bitLen x - 1 : Nat) : Int) := by
      rw [wrapE h, wu64 (n := (e : Int) - ((e - Lib.bitLen x : Nat) : Int)) (by omega) (by omega), wu64 (by omega) (by omega)]
      omega
    have hdiv : x / 2 ^ (Lib.bitLen x - 1) = 1 := by
      have hpos := Nat.two_pow_pos (Lib.bitLen x - 1)
      have : x < 2 * 2 ^ (Lib.bitLen x - 1) := by
        have := Nat.pow_succ (n := 2) (m := Lib.bitLen x - 1)
        rw [show (Lib.bitLen x - 1).succ = Lib.bitLen x from by omega] at this
        omega
      apply Nat.le_antisymm
      · exact Nat.le_of_lt_succ (by rw [Nat.div_lt_iff_lt_mul hpos]; omega)
      · rw [Nat.le_div_iff_mul_le hpos]; omega
    rw [if_neg (show ¬ ((x : Nat) : Int) = 0 from by omega), ew, if_pos (by omega), shr_nat x _ (by omega), hdiv, if_pos (show ((1 : Nat) : Int) = 1 from rfl), hcz, if_pos (by omega), shr_nat x _ (by omega),
      and_one_nat _ (Nat.lt_of_le_of_lt (Nat.div_le_self _ _) hl64), z2, if_pos (show ((1 : Nat) : Int) = 1 from rfl), mask_nat x _ hl64 (by omega), z3, if_pos (show ((0 : Nat) : Int) = 0 from rfl)]
    rw [wu64 (n := ((popAux 64 x : Nat) : Int) + ((e - Lib.bitLen x : Nat) : Int)) (by omega) (by omega), wu64 (n := ((popAux 64 x : Nat) : Int) + ((e - Lib.bitLen x : Nat) : Int) + ((ctzFrom 64 x : Nat) : Int)) (by omega) (by omega), wrapE h, decide_eq_false (by omega)]
    exact j4_ok hl h hk x hx
theorem j2_ok {l : List Int} (hl : U8 l) {n : Int} {e : Nat} (h : We n e) {k : Nat} (hk : 66 ≤ k) (a : Nat) (ha : a < 18446744073709551616) :
    laws_FnCounts.j2 (k + 4) l n (a : Int) ((a % 2 ^ e : Nat) : Int) = some true := by
  have hx := low h a ha a
  have hee := h.le
  simp only [laws_FnCounts.j2]
  rw [i_clz h (k + 2) a ha, i_ctz h (k + 2) a ha, i_pop h (k + 2) a ha]
  simp only [Option.bind_some]
  by_cases c : a % 2 ^ e = 0
  · have q := j3_ok hl h (k := k) (by omega) (a % 2 ^ e) hx
    rw [c] at q ⊢
    have e0 : cz e 0 = e := by unfold cz; rw [if_pos rfl]
    rw [len_zero, e0, pop_zero, Nat.sub_zero] at q ⊢
    rw [if_pos (show ((0 : Nat) : Int) = 0 from rfl), wrapE h, if_pos rfl, if_pos rfl]
    exact q
  · rw [if_neg (by omega)]
    exact j3_ok hl h (by omega) _ hx
theorem j1_ok {l : List Int} (hl : U8 l) {n : Int} {e : Nat} (h : We n e) {k : Nat} (hk : 66 ≤ k) (a : Nat) (ha : a < 18446744073709551616) :
    laws_FnCounts.j1 (k + 5) l n (a : Int) true = some true := by
  have q := j2_ok hl h hk a ha
  simp only [laws_FnCounts.j1, if_true]
  rcases h with ⟨rfl, rfl⟩ | ⟨rfl, rfl⟩
  · rw [if_pos rfl]
    have := cutE (n := 32) (e := 32) (.inl ⟨rfl, rfl⟩) a ha
    unfold impl_WrapTo32.f
    rw [this]
    simp only [Option.bind_some]
    exact q
  · rw [if_neg (by decide)]
    rw [Nat.mod_eq_of_lt (show a < 2 ^ 64 from ha)] at q
    exact q
theorem FnCounts : laws_FnCounts.Pure := by
  intro l0 l1 hm0 y0 hw0 hm1 y1 hw1
  have hl0 := u8_of hw0
  have hl1 := u8_of hw1
  refine ⟨100, ?_⟩
  unfold laws_FnCounts.f
  split
  · rfl
  · obtain ⟨n, op, a, e1, ha0, ha1⟩ := drawUnary_ok hl0 (k := 100) (by decide)
    rw [e1]
    simp only [Option.bind_some]
    obtain ⟨a, rfl⟩ := Int.eq_ofNat_of_zero_le ha0
    by_cases c : n = 32 ∨ n = 64
    · obtain ⟨e, h⟩ : ∃ e, We n e := by
        rcases c with rfl | rfl
        · exact ⟨32, .inl ⟨rfl, rfl⟩⟩
        · exact ⟨64, .inr ⟨rfl, rfl⟩⟩
      obtain ⟨r, r1, r2⟩ := un_same h 99 a (by omega) (by decide) op
      rw [r1, r2]
      simp only [Option.bind_some, if_true, bne_self_eq_false]
      simp only [laws_FnCounts.j0, Bool.false_eq_true, if_false]
      have q := j1_ok hl1 h (k := 94) (by decide) a (by omega)
      rcases h with ⟨rfl, rfl⟩ | ⟨rfl, rfl⟩
      · rw [if_pos rfl]; exact q
      · rw [if_neg (by decide)]; exact q
    · obtain ⟨r1, r2⟩ := un_bad (n := n) (by omega) (by omega) 99 op (a : Int)
      rw [r1, r2]
      simp only [Option.bind_some, if_true, bne_self_eq_false]
      simp only [laws_FnCounts.j0, Bool.false_eq_true, if_false]
      rw [if_neg (by omega), beq_eq_false_iff_ne.mpr (by omega)]
      simp only [laws_FnCounts.j1, Bool.false_eq_true, if_false]
      exact j5_ok hl1 (by decide)
end Go.Proofs.YtilokpipciilcaaDoor.Pure
