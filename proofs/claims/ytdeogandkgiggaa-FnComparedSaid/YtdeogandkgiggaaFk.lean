/- Comparing floats, and the lesser one; halves as whole numbers. -/
import Derived.Test.YtdeogandkgiggaaFc
import Derived.Test.YtdeogandkgiggaaQx53
import Derived.Test.YtdeogandkgiggaaQx54
import Derived.Test.YtdeogandkgiggaaQx57
import Derived.Test.YtdeogandkgiggaaQx58
namespace Go.Proofs.Ytdeogandkgiggaa.Fk
open Go.RowKit Go.Proofs.Ytdeogandkgiggaa.Q Go.Proofs.YtdeogandkgiggaaW.PrintWords Go.Proofs.YtdeogandkgiggaaW.PrintLast Go.Proofs.YtdeogandkgiggaaW.PrintMore Go.Proofs.Ytdeogandkgiggaa.Mb Go.Proofs.Ytdeogandkgiggaa.Fp Go.Proofs.Ytdeogandkgiggaa.Fl Go.Proofs.Ytdeogandkgiggaa.Fr Go.Proofs.Ytdeogandkgiggaa.Fo Go.Proofs.Ytdeogandkgiggaa.Fe Go.Proofs.Ytdeogandkgiggaa.Fc
set_option linter.unusedSimpArgs false
set_option linter.unusedVariables false
def ordS (F : Fm) (b : Int) : Int := if opS F b = true then -(b % F.C) else b % F.C
def ordI (F : Fm) (b : Int) : Int := if opS F b = true then -(b % F.C) - 1 else b % F.C
theorem C_facts {F : Fm} (h : IsF F) : 0 < F.C ∧ 2 * F.C ≤ 4294967296 ∧ F.C = F.A * F.B := by rcases h with rfl | rfl <;> decide
theorem and_low {F : Fm} (h : IsF F) (b : Int) (h0 : 0 ≤ b) (h1 : b ≤ 4294967295) : Go.bits .and .u32 b ((F.C - 1) % 4294967296) = b % F.C := by
  rcases h with rfl | rfl
  · exact u32_mask 15 (by decide) b h0 (by omega)
  · exact u32_mask 31 (by decide) b h0 (by omega)
theorem and_sign {F : Fm} (h : IsF F) (b : Int) (h0 : 0 ≤ b) (h1 : b ≤ 4294967295) : Go.bits .and .u32 b F.C = b / F.C % 2 * F.C := by
  rcases h with rfl | rfl
  · exact and_pow 15 (by decide) b h0 h1
  · exact and_pow 31 (by decide) b h0 h1
theorem impl_order {F : Fm} (h : IsF F) (b : Int) (h0 : 0 ≤ b) (h1 : b ≤ 4294967295) : impl_format_order.f F.p F.b b = some (ordI F b) := by
  obtain ⟨c1, c2, -⟩ := C_facts h
  have hm := Int.emod_nonneg b (show F.C ≠ 0 by omega)
  have hl := Int.emod_lt_of_pos b c1
  unfold impl_format_order.f ordI opS
  rw [isign_F h]
  simp only [Option.bind_some]
  rw [and_low h b h0 h1, and_sign h b h0 h1]
  by_cases c : b / F.C % 2 = 1
  · rw [decide_eq_true c, if_pos rfl, c, Int.one_mul, if_neg (by omega), w64 (n := b % F.C) (by omega) (by omega), w64 (n := -(b % F.C)) (by omega) (by omega), w64 (by omega) (by omega)]
  · have c0 : b / F.C % 2 = 0 := by omega
    rw [decide_eq_false c, if_neg (show ¬ (false = true) by decide), c0, Int.zero_mul, if_pos rfl, w64 (by omega) (by omega)]
theorem spec_order {F : Fm} (h : IsF F) (b : Int) (h0 : 0 ≤ b) (h1 : b ≤ 4294967295) : spec_l4K_order.f F.x F.p b = some (ordS F b) := by
  unfold spec_l4K_order.f
  rw [mask_F h]
  simp only [Option.bind_some]
  have hx : 0 ≤ IntKind.u64.wrap (F.x + F.p) := (wrap_u64_range _).1
  rw [if_pos hx]
  have em : Go.bits .and .u32 b (2 * F.C - 1) = b % (2 * F.C) := by
    rcases h with rfl | rfl
    · exact u32_mask 16 (by decide) b h0 (by omega)
    · exact u32_mask 32 (by decide) b h0 (by omega)
  rw [em]
  unfold ordS opS
  rcases h with rfl | rfl
  · have k4 : IntKind.u64.wrap (F16.x + F16.p) = 15 := by decide
    have k5 : ((shl .u32 1 15) - 1) % 4294967296 = 32767 := by decide +kernel
    rw [k4, k5, shr_u32 _ 15 15 rfl (by decide), show F16.C = 32768 from rfl]
    have m15 : Go.bits .and .u32 (b % (2 * 32768)) 32767 = b % 32768 := (u32_mask 15 (by decide) (b % (2 * 32768)) (by omega) (by omega)).trans (by show b % (2 * 32768) % 32768 = _; omega)
    rw [m15, show (2 : Int) ^ 15 = 32768 from rfl]
    by_cases c : b / 32768 % 2 = 1
    · rw [decide_eq_true c, if_pos rfl, if_pos (by omega), w64 (n := b % 32768) (by omega) (by omega), w64 (by omega) (by omega)]
    · rw [decide_eq_false c, if_neg (show ¬ (false = true) by decide), if_neg (by omega), w64 (by omega) (by omega)]
  · have k4 : IntKind.u64.wrap (F32.x + F32.p) = 31 := by decide
    have k5 : ((shl .u32 1 31) - 1) % 4294967296 = 2147483647 := by decide +kernel
    rw [k4, k5, shr_u32 _ 31 31 rfl (by decide), show F32.C = 2147483648 from rfl]
    have m15 : Go.bits .and .u32 (b % (2 * 2147483648)) 2147483647 = b % 2147483648 := (u32_mask 31 (by decide) (b % (2 * 2147483648)) (by omega) (by omega)).trans (by show b % (2 * 2147483648) % 2147483648 = _; omega)
    rw [m15, show (2 : Int) ^ 31 = 2147483648 from rfl]
    by_cases c : b / 2147483648 % 2 = 1
    · rw [decide_eq_true c, if_pos rfl, if_pos (by omega), w64 (n := b % 2147483648) (by omega) (by omega), w64 (by omega) (by omega)]
    · rw [decide_eq_false c, if_neg (show ¬ (false = true) by decide), if_neg (by omega), w64 (by omega) (by omega)]
/-- What is compared. -/
def cmp (F : Fm) (a b : Int) : Int := if (opN F a || opN F b) = true then 2 else if ordS F a < ordS F b then -1 else if ordS F a > ordS F b then 1 else 0
theorem low_bits {F : Fm} (h : IsF F) (b : Int) (h0 : 0 ≤ b) : b % F.C = fr F b + ex F b * F.A := by
  unfold fr ex
  rcases h with rfl | rfl
  · rw [show F16.C = 32768 from rfl, show F16.A = 1024 from rfl, show F16.B = 32 from rfl]; omega
  · rw [show F32.C = 2147483648 from rfl, show F32.A = 8388608 from rfl, show F32.B = 256 from rfl]; omega
theorem zero_iff {F : Fm} (h : IsF F) (b : Int) (h0 : 0 ≤ b) (hn : opN F b = false) : (opI F b = false ∧ opM F b = 0) ↔ b % F.C = 0 := by
  obtain ⟨r1, r2, r3, r4⟩ := ranges h b h0
  obtain ⟨g1, g2, g3, g4, g5, g6, g7, g8⟩ := facts2 h
  have hc := opM_cast h b h0
  rw [low_bits h b h0]
  have hxA : 0 ≤ ex F b * F.A := Int.mul_nonneg r3 (by omega)
  constructor
  · rintro ⟨hi, hm⟩
    have hx := not_special hi hn
    rw [if_neg hx, hm] at hc
    by_cases c : ex F b = 0
    · rw [if_pos c] at hc
      rw [c, Int.zero_mul]
      omega
    · rw [if_neg c] at hc
      omega
  · intro hz
    have hf : fr F b = 0 := by omega
    have hx : ex F b * F.A = 0 := by omega
    have hx0 : ex F b = 0 := by
      rcases Int.mul_eq_zero.1 hx with h | h
      · exact h
      · omega
    have hxn : ex F b ≠ F.B - 1 := by omega
    refine ⟨(special hxn).1, ?_⟩
    rw [if_neg hxn, if_pos hx0, hf] at hc
    omega
/-- Both orders tell the same, but for the two noughts. -/
theorem ord_iff {F : Fm} (h : IsF F) (a b : Int) (hz : ¬ (a % F.C = 0 ∧ b % F.C = 0)) : (ordI F a < ordI F b ↔ ordS F a < ordS F b) ∧ (ordI F a > ordI F b ↔ ordS F a > ordS F b) := by
  have c1 := (C_facts h).1
  have ha := Int.emod_nonneg a (show F.C ≠ 0 by omega)
  have hb := Int.emod_nonneg b (show F.C ≠ 0 by omega)
  unfold ordI ordS
  cases opS F a <;> cases opS F b <;> simp only [if_true, if_false, Bool.false_eq_true] <;> constructor <;> constructor <;> intro _ <;> omega
theorem impl_cmp {F : Fm} (h : IsF F) (k : Nat) (hk : 5 ≤ k) (a0 a b : Int) (ha : 0 ≤ a ∧ a ≤ 4294967295) (hb : 0 ≤ b ∧ b ≤ 4294967295) (e0 : impl_formatOf.f a0 = some (F.p, F.b, true)) : impl_FCompare.f k a0 a b = some (cmp F a b) := by
  obtain ⟨k, rfl⟩ : ∃ j, k = j + 2 := ⟨k - 2, by omega⟩
  have za := zero_iff h a ha.1
  have zb := zero_iff h b hb.1
  unfold impl_FCompare.f
  rw [e0]
  simp only [Option.bind_some, if_true]
  rw [impl_open h a ha.1 ha.2, impl_open h b hb.1 hb.2]
  simp only [Option.bind_some, impl_FCompare.j0, impl_FCompare.j1]
  rw [impl_order h a ha.1 ha.2, impl_order h b hb.1 hb.2]
  simp only [Option.bind_some]
  unfold cmp
  by_cases cn : opN F a = true
  · rw [if_pos cn, if_pos trivial, cn, Bool.true_or, if_pos rfl]
  · rw [if_neg cn]
    have cn' := Bool.eq_false_iff.2 cn
    rw [cn', Bool.false_or]
    by_cases dn : opN F b = true
    · rw [if_pos dn, if_pos dn]
    · rw [if_neg dn, if_neg dn]
      have dn' := Bool.eq_false_iff.2 dn
      have za := za cn'
      have zb := zb dn'
      have e1 : ((opM F a : Nat) : Int) = 0 ↔ opM F a = 0 := by omega
      have e2 : (((opM F b : Nat) : Int) == 0) = decide (opM F b = 0) := decide_eq_decide.2 (by omega)
      rw [e2]
      by_cases hz : a % F.C = 0 ∧ b % F.C = 0
      · obtain ⟨i1, m1⟩ := za.2 hz.1
        obtain ⟨i2, m2⟩ := zb.2 hz.2
        rw [i1, i2, if_neg (by decide), if_neg (by decide), if_pos (e1.2 m1), decide_eq_true m2, if_pos rfl]
        have o1 : ordS F a = 0 := by unfold ordS; rw [hz.1]; split <;> rfl
        have o2 : ordS F b = 0 := by unfold ordS; rw [hz.2]; split <;> rfl
        rw [o1, o2]
        simp
      · obtain ⟨q1, q2⟩ := ord_iff h a b hz
        have base : (if ordI F a < ordI F b then some (-1 : Int) else if ordI F a > ordI F b then some 1 else some 0) = some (if ordS F a < ordS F b then -1 else if ordS F a > ordS F b then 1 else 0) := by
          simp only [q1, q2]
          repeat' split
          all_goals rfl
        have nf : ¬ (false = true) := by decide
        by_cases i1 : opI F a = true
        · rw [if_pos i1, if_neg nf]; exact base
        · rw [if_neg i1]
          by_cases i2 : opI F b = true
          · rw [if_pos i2, if_neg nf]; exact base
          · rw [if_neg i2]
            by_cases m1 : opM F a = 0
            · rw [if_pos (e1.2 m1)]
              have m2 : ¬ opM F b = 0 := fun m2 => hz ⟨za.1 ⟨Bool.eq_false_iff.2 i1, m1⟩, zb.1 ⟨Bool.eq_false_iff.2 i2, m2⟩⟩
              rw [decide_eq_false m2, if_neg nf]
              exact base
            · rw [if_neg (fun h => m1 (e1.1 h)), if_neg nf]
              exact base
theorem spec_cmp0 {F : Fm} (h : IsF F) (k : Nat) (hk : 5 ≤ k) (a b : Int) (ha : 0 ≤ a ∧ a ≤ 4294967295) (hb : 0 ≤ b ∧ b ≤ 4294967295) : spec_l4K_compare.f k F.x F.p a b = some (cmp F a b) := by
  obtain ⟨k, rfl⟩ : ∃ j, k = j + 2 := ⟨k - 2, by omega⟩
  unfold spec_l4K_compare.f cmp
  rw [spec_open h a ha.1 ha.2, spec_open h b hb.1 hb.2]
  simp only [Option.bind_some, spec_l4K_compare.j0]
  rw [spec_order h a ha.1 ha.2, spec_order h b hb.1 hb.2]
  simp only [Option.bind_some]
  cases opN F a <;> cases opN F b <;> simp only [if_true, if_false, Bool.false_eq_true, Bool.or_false, Bool.or_true, Bool.false_or, Bool.true_or]
  repeat' split
  all_goals rfl
theorem spec_cmp {F : Fm} (h : IsF F) (k : Nat) (hk : 5 ≤ k) (a0 a b : Int) (ha : 0 ≤ a ∧ a ≤ 4294967295) (hb : 0 ≤ b ∧ b ≤ 4294967295) (e0 : spec_l4Kind.f a0 = some (F.x, F.p, true)) : spec_FCompare.f k a0 a b = some (cmp F a b) := by
  unfold spec_FCompare.f
  rw [e0]
  simp only [Option.bind_some, if_true]
  rw [spec_cmp0 h k hk a b ha hb]
  rfl
/-- The lesser one. -/
def mn (F : Fm) (a b : Int) : Int := if (opN F a || opN F b) = true then nan F else if ordI F b < ordI F a then b % (2 * F.C) else a % (2 * F.C)
theorem and_mask {F : Fm} (h : IsF F) (b : Int) (h0 : 0 ≤ b) (h1 : b ≤ 4294967295) : Go.bits .and .u32 b (2 * F.C - 1) = b % (2 * F.C) := by
  rcases h with rfl | rfl
  · exact u32_mask 16 (by decide) b h0 (by omega)
  · exact u32_mask 32 (by decide) b h0 (by omega)
theorem imask_F {F : Fm} (h : IsF F) : impl_format_mask.f F.p F.b = some (2 * F.C - 1) := by rcases h with rfl | rfl <;> decide +kernel
theorem impl_min {F : Fm} (h : IsF F) (k : Nat) (hk : 5 ≤ k) (a0 a b : Int) (ha : 0 ≤ a ∧ a ≤ 4294967295) (hb : 0 ≤ b ∧ b ≤ 4294967295) (e0 : impl_formatOf.f a0 = some (F.p, F.b, true)) : impl_FMin.f k a0 a b = some (mn F a b) := by
  obtain ⟨k, rfl⟩ : ∃ j, k = j + 2 := ⟨k - 2, by omega⟩
  unfold impl_FMin.f mn
  rw [e0]
  simp only [Option.bind_some, if_true]
  rw [impl_open h a ha.1 ha.2, impl_open h b hb.1 hb.2]
  simp only [Option.bind_some, impl_FMin.j0]
  rw [inan_F h, impl_order h a ha.1 ha.2, impl_order h b hb.1 hb.2, imask_F h]
  simp only [Option.bind_some]
  rw [and_mask h a ha.1 ha.2, and_mask h b hb.1 hb.2]
  cases opN F a <;> cases opN F b <;> simp only [if_true, if_false, Bool.false_eq_true, Bool.or_false, Bool.or_true, Bool.false_or, Bool.true_or]
  repeat' split
  all_goals rfl
theorem or_mod {F : Fm} (h : IsF F) (a b : Int) (ha : 0 ≤ a ∧ a ≤ 4294967295) (hb : 0 ≤ b ∧ b ≤ 4294967295) : ∃ x y : Nat, (x : Int) = a % (2 * F.C) ∧ (y : Int) = b % (2 * F.C) ∧ Go.bits .and .u32 (Go.bits .or .u32 a b) (2 * F.C - 1) = ((x ||| y : Nat) : Int) := by
  obtain ⟨i, hi, hC⟩ : ∃ i : Nat, i ≤ 32 ∧ 2 * F.C = ((2 ^ i : Nat) : Int) := by
    rcases h with rfl | rfl
    · exact ⟨16, by decide, rfl⟩
    · exact ⟨32, by decide, rfl⟩
  obtain ⟨x, rfl⟩ : ∃ x : Nat, a = x := ⟨a.toNat, by omega⟩
  obtain ⟨y, rfl⟩ : ∃ y : Nat, b = y := ⟨b.toNat, by omega⟩
  refine ⟨x % 2 ^ i, y % 2 ^ i, by rw [hC]; rfl, by rw [hC]; rfl, ?_⟩
  have ho := Mb.u32_or x y (by omega) (by omega)
  have hr := bits_range_u32 .or (x : Int) (y : Int)
  rw [and_mask h _ hr.1 hr.2, ho, hC]
  rw [← Nat.or_mod_two_pow]
  rfl
theorem spec_min {F : Fm} (h : IsF F) (k : Nat) (hk : 5 ≤ k) (a0 a b : Int) (ha : 0 ≤ a ∧ a ≤ 4294967295) (hb : 0 ≤ b ∧ b ≤ 4294967295) (e0 : spec_l4Kind.f a0 = some (F.x, F.p, true)) : spec_FMin.f k a0 a b = some (mn F a b) := by
  unfold spec_FMin.f
  rw [e0]
  simp only [Option.bind_some, if_true]
  rw [spec_cmp0 h k hk a b ha hb, nan_F h, mask_F h]
  simp only [Option.bind_some]
  rw [and_mask h a ha.1 ha.2, and_mask h b hb.1 hb.2]
  have c1 := (C_facts h).1
  have hva := Int.emod_nonneg a (show F.C ≠ 0 by omega)
  have hvb := Int.emod_nonneg b (show F.C ≠ 0 by omega)
  have wa := whole_bits h a ha.1
  have wb := whole_bits h b hb.1
  rw [← low_bits h a ha.1] at wa
  rw [← low_bits h b hb.1] at wb
  obtain ⟨x, y, hx, hy, ho⟩ := or_mod h a b ha hb
  rw [ho]
  unfold cmp mn
  by_cases cn : (opN F a || opN F b) = true
  · rw [if_pos cn, if_pos cn, if_pos rfl]
  · rw [if_neg cn, if_neg cn]
    by_cases hz : a % F.C = 0 ∧ b % F.C = 0
    · have o1 : ordS F a = 0 := by unfold ordS; rw [hz.1]; split <;> rfl
      have o2 : ordS F b = 0 := by unfold ordS; rw [hz.2]; split <;> rfl
      have y1 : ¬ ((0 : Int) < 0) := by decide
      have y2 : ¬ ((0 : Int) > 0) := by decide
      have y3 : ¬ ((0 : Int) = 2) := by decide
      have y4 : ¬ ((0 : Int) = -1) := by decide
      have y5 : ¬ ((0 : Int) = 1) := by decide
      rw [o1, o2, if_neg y1, if_neg y2, if_neg y3, if_neg y4, if_neg y5]
      congr 1
      unfold ordI
      rw [hz.1] at wa ⊢
      rw [hz.2] at wb ⊢
      rw [← hx, ← hy]
      rw [wa] at hx
      rw [wb] at hy
      unfold sg at hx hy
      generalize opS F a = sa, opS F b = sb at *
      cases sa <;> cases sb <;> simp only [if_true, if_false, Bool.false_eq_true] at hx hy ⊢
      · have : x = 0 := by omega
        subst this
        have : y = 0 := by omega
        subst this
        rfl
      · have : x = 0 := by omega
        subst this
        rw [if_pos (by decide), Nat.zero_or]
      · have : y = 0 := by omega
        subst this
        rw [if_neg (by decide), Nat.or_zero]
      · have : x = y := by omega
        subst this
        rw [if_neg (by decide), Nat.or_self]
    · obtain ⟨q1, q2⟩ := ord_iff h a b hz
      by_cases l1 : ordS F a < ordS F b
      · rw [if_pos l1, if_neg (show ¬ ((-1 : Int) = 2) by decide), if_pos (show ((-1 : Int) = -1) from rfl), if_neg (by have := q1.2 l1; omega)]
      · rw [if_neg l1]
        by_cases l2 : ordS F a > ordS F b
        · rw [if_pos l2, if_neg (show ¬ ((1 : Int) = 2) by decide), if_neg (show ¬ ((1 : Int) = -1) by decide), if_pos (show ((1 : Int) = 1) from rfl), if_pos (by have := q2.2 l2; omega)]
        · rw [if_neg l2, if_neg (show ¬ ((0 : Int) = 2) by decide), if_neg (show ¬ ((0 : Int) = -1) by decide), if_neg (show ¬ ((0 : Int) = 1) by decide)]
          have e : ordS F a = ordS F b := by omega
          have hnl : ¬ ordI F b < ordI F a := fun h => l2 (q2.1 h)
          rw [if_neg hnl]
          have hxy : x = y := by
            have h1 : (x : Int) = y := by
              rw [hx, hy, wa, wb]
              unfold ordS at e
              unfold sg
              cases ca : opS F a <;> cases cb : opS F b <;> rw [ca, cb] at e <;> simp only [if_true, if_false, Bool.false_eq_true] at e ⊢ <;> omega
            omega
          rw [← hxy, Nat.or_self, hx]
end Go.Proofs.Ytdeogandkgiggaa.Fk
