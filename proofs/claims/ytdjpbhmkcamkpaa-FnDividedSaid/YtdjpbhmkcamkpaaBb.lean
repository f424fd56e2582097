/- Both texts' Binary tell the same; what some of its ops tell. -/
import Derived.Test.YtdjpbhmkcamkpaaBn
namespace Go.Proofs.Ytdjpbhmkcamkpaa.Bn
open Go.RowKit Go.Proofs.Ytdjpbhmkcamkpaa.Q Go.Proofs.YtdjpbhmkcamkpaaW.PrintWords Go.Proofs.YtdjpbhmkcamkpaaW.PrintLast Go.Proofs.YtdjpbhmkcamkpaaW.PrintMore Go.Proofs.Ytdjpbhmkcamkpaa.Mb
set_option linter.unusedSimpArgs false
set_option linter.unusedVariables false
set_option linter.unusedSectionVars false
set_option linter.unusedSectionVars false

theorem impl_in {n : Int} {e : Nat} (h : We n e) (k : Nat) (op a b : Int) (h1 : 1 ≤ op) (h2 : op ≤ 21) : impl_Binary.f k n op a b = impl_Binary.j0 k n op a b false := by
  unfold impl_Binary.f
  rw [goodE h]
  simp only [Option.bind_some, if_true]
  rw [if_neg (by omega), show decide (op > 21) = false from by simp; omega]
theorem spec_in {n : Int} {e : Nat} (h : We n e) (k : Nat) (op a b : Int) : spec_Binary.f k n op a b = (spec_l3Binary.f k n op a b).bind fun r => some (r.1, r.2) := by
  unfold spec_Binary.f
  have : spec_l3Bits.f = impl_goodBits.f := by funext x; unfold spec_l3Bits.f impl_goodBits.f; rfl
  rw [this, goodE h]
  simp only [Option.bind_some, if_true]
theorem odd_out {n : Int} (h1 : n ≠ 32) (h2 : n ≠ 64) (k : Nat) (op a b : Int) : impl_Binary.f (k + 1) n op a b = some (0, 3) ∧ spec_Binary.f (k + 1) n op a b = some (0, 3) := by
  have g : impl_goodBits.f n = some false := by unfold impl_goodBits.f; rw [if_neg h1]; simp [h2]
  have : spec_l3Bits.f = impl_goodBits.f := by funext x; unfold spec_l3Bits.f impl_goodBits.f; rfl
  constructor
  · unfold impl_Binary.f
    rw [g]
    simp [impl_Binary.j0]
  · unfold spec_Binary.f
    rw [this, g]
    simp
/-- An op beyond all. -/
theorem op_out {n : Int} {e : Nat} (h : We n e) (k : Nat) (op : Int) (a b : Nat) (ha : a < 18446744073709551616) (hb : b < 18446744073709551616) (h1 : 0 ≤ op) (h2 : op < 1 ∨ 21 < op) : impl_Binary.f (k + 1) n op a b = some (0, 3) ∧ spec_Binary.f (k + 1) n op a b = some (0, 3) := by
  constructor
  · unfold impl_Binary.f
    rw [goodE h]
    simp only [Option.bind_some, if_true]
    rcases h2 with h2 | h2
    · rw [if_pos h2]; simp [impl_Binary.j0]
    · rw [if_neg (by omega), show decide (op > 21) = true from by simp; omega]; simp [impl_Binary.j0]
  · rw [spec_in h]
    unfold spec_l3Binary.f
    rw [mask_cut, cutE h a ha, cutE h b hb]
    simp only [Option.bind_some]
    rw [if_neg (wrapNE h), signed_same]
    simp only [signedE, Option.bind_some]
    rw [if_neg (by omega), if_neg (by omega), if_neg (by omega), if_neg (by omega), if_neg (by omega), if_neg (by omega)]
    simp only [spec_l3Binary.j0]
    rw [if_neg (by simp; omega)]
    repeat rw [if_neg (by omega)]
    rfl
section
variable {n : Int} {e : Nat} (h : We n e) (k : Nat) (a b : Nat) (ha : a < 18446744073709551616) (hb : b < 18446744073709551616)
include h ha hb
/-- Ahead of the ops: both numbers cut. -/
theorem impl_go (op : Int) : impl_Binary.j0 (k + 1) n op a b false = (if op = 1 then some (((a % 2 ^ e : Nat) + (b % 2 ^ e : Nat) : Int) % ((2 ^ e : Nat) : Int), 0) else if op = 2 then some (((a % 2 ^ e : Nat) - (b % 2 ^ e : Nat) : Int) % ((2 ^ e : Nat) : Int), 0)
    else if op = 3 then some (((a % 2 ^ e : Nat) * (b % 2 ^ e : Nat) : Int) % ((2 ^ e : Nat) : Int), 0)
    else impl_Binary.j1 k n op ((a % 2 ^ e : Nat) : Int) ((b % 2 ^ e : Nat) : Int) ((b % 2 ^ e % e : Nat) : Int) op (decide (4 ≤ op ∧ op ≤ 7))) := by
  simp only [impl_Binary.j0, Bool.false_eq_true, if_false]
  rw [cutE h a ha, cutE h b hb]
  simp only [Option.bind_some]
  rw [if_neg (wrapNE h), byE h, by64 h]
  simp only [cutW h, Option.bind_some]
  by_cases c1 : op = 1
  · rw [if_pos c1, if_pos c1]
  · rw [if_neg c1, if_neg c1]
    by_cases c2 : op = 2
    · rw [if_pos c2, if_pos c2]
    · rw [if_neg c2, if_neg c2]
      by_cases c3 : op = 3
      · rw [if_pos c3, if_pos c3]
      · rw [if_neg c3, if_neg c3]
        by_cases c4 : op = 4
        · subst c4; simp
        · by_cases c5 : op = 5
          · subst c5; simp
          · by_cases c6 : op = 6
            · subst c6; simp
            · rw [if_neg c4, if_neg c5, if_neg c6]
              congr 1
              rw [Bool.eq_iff_iff]; simp; omega
theorem spec_go (op : Int) : spec_l3Binary.f (k + 1) n op a b = (if op = 1 then some (((a % 2 ^ e : Nat) + (b % 2 ^ e : Nat) : Int) % ((2 ^ e : Nat) : Int), 0) else if op = 2 then some (((a % 2 ^ e : Nat) - (b % 2 ^ e : Nat) : Int) % ((2 ^ e : Nat) : Int), 0)
    else if op = 3 then some (((a % 2 ^ e : Nat) * (b % 2 ^ e : Nat) : Int) % ((2 ^ e : Nat) : Int), 0)
    else spec_l3Binary.j0 (k + 1) n op ((a % 2 ^ e : Nat) : Int) ((b % 2 ^ e : Nat) : Int) ((b % 2 ^ e % e : Nat) : Int) (sg n ((a % 2 ^ e : Nat) : Int)) (sg n ((b % 2 ^ e : Nat) : Int)) op (decide (4 ≤ op ∧ op ≤ 7))) := by
  unfold spec_l3Binary.f
  rw [mask_cut, signed_same, cutE h a ha, cutE h b hb]
  simp only [Option.bind_some]
  rw [if_neg (wrapNE h), byE h]
  simp only [cutW h, signedE, Option.bind_some]
  by_cases c1 : op = 1
  · rw [if_pos c1, if_pos c1]
  · rw [if_neg c1, if_neg c1]
    by_cases c2 : op = 2
    · rw [if_pos c2, if_pos c2]
    · rw [if_neg c2, if_neg c2]
      by_cases c3 : op = 3
      · rw [if_pos c3, if_pos c3]
      · rw [if_neg c3, if_neg c3]
        by_cases c4 : op = 4
        · subst c4; simp
        · by_cases c5 : op = 5
          · subst c5; simp
          · by_cases c6 : op = 6
            · subst c6; simp
            · rw [if_neg c4, if_neg c5, if_neg c6]
              congr 1
              rw [Bool.eq_iff_iff]; simp; omega
end
section
variable {n : Int} {e : Nat} (h : We n e) (k : Nat) (x y : Nat) (hx : x < 2 ^ e) (hy : y < 2 ^ e)
include h hx hy
theorem two_low : x < 18446744073709551616 := Nat.lt_of_lt_of_le hx h.pow
theorem s_lt : y % e < e := Nat.mod_lt _ h.pos
theorem cut_low (z : Nat) (hz : z < 2 ^ e) : impl_cut.f n (z : Int) = some (z : Int) := by
  rw [cutE h z (Nat.lt_of_lt_of_le hz h.pow), Nat.mod_eq_of_lt hz]
theorem truth_low (b : Bool) : ∃ t : Nat, impl_truth.f b = some (t : Int) ∧ t < 2 ^ e := by
  have := Nat.one_lt_two_pow (n := e) (by have := h.pos; omega)
  cases b
  · exact ⟨0, rfl, by omega⟩
  · exact ⟨1, rfl, by omega⟩
theorem and_low : x &&& y < 2 ^ e := Nat.and_lt_two_pow x hy
theorem or_low : x ||| y < 2 ^ e := Nat.or_lt_two_pow hx hy
theorem xor_low : x ^^^ y < 2 ^ e := Nat.xor_lt_two_pow hx hy
theorem v_and : impl_Binary.j1 (k + 1) n 8 (x : Int) (y : Int) ((y % e : Nat) : Int) 8 false = some (((x &&& y : Nat) : Int), 0) := by
  simp [impl_Binary.j1]; exact Mb.u64_and x y (two_low h x y hx hy) (two_low h y x hy hx)
theorem v_or : impl_Binary.j1 (k + 1) n 9 (x : Int) (y : Int) ((y % e : Nat) : Int) 9 false = some (((x ||| y : Nat) : Int), 0) := by
  simp [impl_Binary.j1]; exact Mb.u64_or x y (two_low h x y hx hy) (two_low h y x hy hx)
theorem v_xor : impl_Binary.j1 (k + 1) n 10 (x : Int) (y : Int) ((y % e : Nat) : Int) 10 false = some (((x ^^^ y : Nat) : Int), 0) := by
  simp [impl_Binary.j1]; exact Mb.u64_xor x y (two_low h x y hx hy) (two_low h y x hy hx)
theorem v_shl : impl_Binary.j1 (k + 1) n 11 (x : Int) (y : Int) ((y % e : Nat) : Int) 11 false = some (((x * 2 ^ (y % e) % 2 ^ e : Nat) : Int), 0) := by
  have h1 := s_lt h x y hx hy; have h2 := h.le
  simp only [impl_Binary.j1]
  rw [if_neg (by decide), if_neg (by decide), if_neg (by decide), if_neg (by decide), if_pos trivial, if_pos (by omega), shlN _ _ (by omega), cutE h _ (Nat.mod_lt _ (by decide)), mod_mod_pow h]
  rfl
theorem v_rotl : impl_Binary.j1 (k + 1) n 14 (x : Int) (y : Int) ((y % e : Nat) : Int) 14 false = some (((tl e x (y % e) : Nat) : Int), 0) := by
  have h1 := s_lt h x y hx hy; have h2 := h.le
  simp only [impl_Binary.j1]
  rw [if_neg (by decide), if_neg (by decide), if_neg (by decide), if_neg (by decide), if_neg (by decide), if_neg (by decide), if_neg (by decide), if_pos trivial,
    rotlE h x hx _ (y % e) (by rw [← Int.natCast_emod, Nat.mod_mod]) h1]
  rfl
theorem v_rotr : impl_Binary.j1 (k + 1) n 15 (x : Int) (y : Int) ((y % e : Nat) : Int) 15 false = some (((tr e x (y % e) : Nat) : Int), 0) := by
  have h1 := s_lt h x y hx hy; have h2 := h.le
  have he : e = 32 ∨ e = 64 := by rcases h with ⟨_, rfl⟩ | ⟨_, rfl⟩ <;> simp
  simp only [impl_Binary.j1]
  rw [if_neg (by decide), if_neg (by decide), if_neg (by decide), if_neg (by decide), if_neg (by decide), if_neg (by decide), if_neg (by decide), if_neg (by decide), if_pos trivial,
    rotlE h x hx _ ((e - y % e) % e) (neg_mod h1 he) (Nat.mod_lt _ h.pos), tl_tr hx h1]
  rfl
theorem same_ops (op : Int) (h1 : 4 ≤ op) (h2 : op ≤ 21) :
    impl_Binary.j1 (k + 3) n op (x : Int) (y : Int) ((y % e : Nat) : Int) op (decide (4 ≤ op ∧ op ≤ 7)) = spec_l3Binary.j0 (k + 3) n op (x : Int) (y : Int) ((y % e : Nat) : Int) (sg n x) (sg n y) op (decide (4 ≤ op ∧ op ≤ 7)) ∧
    ∃ r t : Int, impl_Binary.j1 (k + 3) n op (x : Int) (y : Int) ((y % e : Nat) : Int) op (decide (4 ≤ op ∧ op ≤ 7)) = some (r, t) := by
  have s1 := s_lt h x y hx hy; have s2 := h.le; have s3 := h.pos; have hp := h.pow
  have hxl := two_low h x y hx hy; have hyl := two_low h y x hy hx
  by_cases hd : op ≤ 7
  · rw [show decide (4 ≤ op ∧ op ≤ 7) = true from by simp; omega]
    obtain ⟨e1, r, t, e2⟩ := divide_same h k op h1 hd x y hx hy
    simp only [impl_Binary.j1, spec_l3Binary.j0, if_true]
    rw [← e1, e2]
    exact ⟨rfl, _, _, rfl⟩
  · rw [show decide (4 ≤ op ∧ op ≤ 7) = false from by simp; omega]
    have hc : op = 8 ∨ op = 9 ∨ op = 10 ∨ op = 11 ∨ op = 12 ∨ op = 13 ∨ op = 14 ∨ op = 15 ∨ op = 16 ∨ op = 17 ∨ op = 18 ∨ op = 19 ∨ op = 20 ∨ op = 21 := by omega
    have hm := mask_cut
    have ht := truth_yes
    rcases hc with rfl | rfl | rfl | rfl | rfl | rfl | rfl | rfl | rfl | rfl | rfl | rfl | rfl | rfl
    · rw [v_and h _ x y hx hy]
      simp [spec_l3Binary.j0, hm, Mb.u64_and x y hxl hyl, cut_low h x y hx hy _ (and_low h x y hx hy)]
    · rw [v_or h _ x y hx hy]
      simp [spec_l3Binary.j0, hm, Mb.u64_or x y hxl hyl, cut_low h x y hx hy _ (or_low h x y hx hy)]
    · rw [v_xor h _ x y hx hy]
      simp [spec_l3Binary.j0, hm, Mb.u64_xor x y hxl hyl, cut_low h x y hx hy _ (xor_low h x y hx hy)]
    · rw [v_shl h _ x y hx hy]
      refine ⟨?_, _, _, rfl⟩
      simp only [spec_l3Binary.j0]
      rw [if_neg (by decide), if_neg (by decide), if_neg (by decide), if_neg (by decide), if_pos trivial, if_pos (by omega), hm, shlN _ _ (by omega), cutE h _ (Nat.mod_lt _ (by decide)), mod_mod_pow h]
      rfl
    · simp only [impl_Binary.j1, spec_l3Binary.j0]
      rw [if_neg (by decide), if_neg (by decide), if_neg (by decide), if_neg (by decide), if_neg (by decide), if_pos trivial, signedE]
      rw [if_neg (by decide), if_neg (by decide), if_neg (by decide), if_neg (by decide), if_neg (by decide), if_neg (by decide), if_pos trivial, if_pos (by omega), hm]
      simp only [Option.bind_some]
      rw [if_pos (by omega), cutW h]
      exact ⟨rfl, _, _, rfl⟩
    · simp only [impl_Binary.j1, spec_l3Binary.j0]
      rw [if_neg (by decide), if_neg (by decide), if_neg (by decide), if_neg (by decide), if_neg (by decide), if_neg (by decide), if_pos trivial, if_pos (by omega)]
      rw [if_neg (by decide), if_neg (by decide), if_neg (by decide), if_neg (by decide), if_neg (by decide), if_pos trivial, if_pos (by omega), hm, shr_nat _ _ (by omega), cut_low h x y hx hy _ (Nat.lt_of_le_of_lt (Nat.div_le_self _ _) hx)]
      exact ⟨rfl, _, _, rfl⟩
    · rw [v_rotl h _ x y hx hy]
      refine ⟨?_, _, _, rfl⟩
      simp only [spec_l3Binary.j0]
      have g1 : IntKind.u64.wrap ((e : Int) - ((y % e : Nat) : Int)) = ((e - y % e : Nat) : Int) := by rw [wu64 (by omega) (by omega)]; omega
      have g2 := Nat.mod_lt (x * 2 ^ (y % e)) (show 0 < 18446744073709551616 by decide)
      have g3 : x / 2 ^ (e - y % e) ≤ x := Nat.div_le_self _ _
      rw [if_neg (by decide), if_neg (by decide), if_neg (by decide), if_neg (by decide), if_neg (by decide), if_neg (by decide), if_neg (by decide), if_pos trivial, if_pos (by omega), wrapE h, g1, if_pos (by omega), hm, shlN _ _ (by omega), shr_nat _ _ (by omega),
        Mb.u64_or _ _ g2 (by omega), cutE h _ (Nat.or_lt_two_pow (n := 64) g2 (by omega)), or_mod, mod_mod_pow h, Nat.mod_eq_of_lt (a := x / 2 ^ (e - y % e)) (by omega)]
      rfl
    · rw [v_rotr h _ x y hx hy]
      refine ⟨?_, _, _, rfl⟩
      simp only [spec_l3Binary.j0]
      have g1 : IntKind.u64.wrap ((e : Int) - ((y % e : Nat) : Int)) = ((e - y % e : Nat) : Int) := by rw [wu64 (by omega) (by omega)]; omega
      have g2 := Nat.mod_lt (x * 2 ^ (e - y % e)) (show 0 < 18446744073709551616 by decide)
      have g3 : x / 2 ^ (y % e) ≤ x := Nat.div_le_self _ _
      rw [if_neg (by decide), if_neg (by decide), if_neg (by decide), if_neg (by decide), if_neg (by decide), if_neg (by decide), if_neg (by decide), if_neg (by decide), if_pos trivial, if_pos (by omega), wrapE h, g1, if_pos (by omega), hm, shlN _ _ (by omega), shr_nat _ _ (by omega),
        Mb.u64_or _ _ (by omega) g2, cutE h _ (Nat.or_lt_two_pow (n := 64) (by omega) g2), or_mod, mod_mod_pow h, Nat.mod_eq_of_lt (a := x / 2 ^ (y % e)) (by omega)]
      rfl
    all_goals
      simp only [impl_Binary.j1, spec_l3Binary.j0, impl_compare.f, signedE, Option.bind_some, hm, ht]
      simp only [Int.reduceEq, if_true, if_false, Bool.false_eq_true]
      first
        | (obtain ⟨t, e1, e2⟩ := truth_low h x y hx hy ((x : Int) == (y : Int)); rw [e1]; simp [cut_low h x y hx hy t e2])
        | (obtain ⟨t, e1, e2⟩ := truth_low h x y hx hy ((x : Int) != (y : Int)); rw [e1]; simp [cut_low h x y hx hy t e2])
        | (obtain ⟨t, e1, e2⟩ := truth_low h x y hx hy (decide (sg n x < sg n y)); rw [e1]; simp [cut_low h x y hx hy t e2])
        | (obtain ⟨t, e1, e2⟩ := truth_low h x y hx hy (decide ((x : Int) < (y : Int))); rw [e1]; simp [cut_low h x y hx hy t e2])
        | (obtain ⟨t, e1, e2⟩ := truth_low h x y hx hy (decide (sg n x > sg n y)); rw [e1]; simp [cut_low h x y hx hy t e2])
        | (obtain ⟨t, e1, e2⟩ := truth_low h x y hx hy (decide ((x : Int) > (y : Int))); rw [e1]; simp [cut_low h x y hx hy t e2])
end
/-- Both tell the same, of all numbers. -/
theorem bin_same (k : Nat) (n op a b : Int) (h0 : 0 ≤ op) (ha0 : 0 ≤ a) (ha : a ≤ 18446744073709551615) (hb0 : 0 ≤ b) (hb : b ≤ 18446744073709551615) :
    ∃ r t : Int, impl_Binary.f (k + 4) n op a b = some (r, t) ∧ spec_Binary.f (k + 4) n op a b = some (r, t) := by
  by_cases c1 : n = 32 ∨ n = 64
  · obtain ⟨e, h⟩ : ∃ e, We n e := by
      rcases c1 with rfl | rfl
      · exact ⟨32, .inl ⟨rfl, rfl⟩⟩
      · exact ⟨64, .inr ⟨rfl, rfl⟩⟩
    obtain ⟨a, rfl⟩ := Int.eq_ofNat_of_zero_le ha0
    obtain ⟨b, rfl⟩ := Int.eq_ofNat_of_zero_le hb0
    by_cases c2 : 1 ≤ op ∧ op ≤ 21
    · rw [impl_in h _ _ _ _ c2.1 c2.2, spec_in h]
      have e1 := impl_go h (k + 3) a b (by omega) (by omega) op
      have e2 := spec_go h (k + 3) a b (by omega) (by omega) op
      rw [e1, e2]
      by_cases d1 : op = 1
      · rw [if_pos d1, if_pos d1]; exact ⟨_, _, rfl, rfl⟩
      · rw [if_neg d1, if_neg d1]
        by_cases d2 : op = 2
        · rw [if_pos d2, if_pos d2]; exact ⟨_, _, rfl, rfl⟩
        · rw [if_neg d2, if_neg d2]
          by_cases d3 : op = 3
          · rw [if_pos d3, if_pos d3]; exact ⟨_, _, rfl, rfl⟩
          · rw [if_neg d3, if_neg d3]
            obtain ⟨f1, r, t, f2⟩ := same_ops h k (a % 2 ^ e) (b % 2 ^ e) (Nat.mod_lt _ (Nat.two_pow_pos e)) (Nat.mod_lt _ (Nat.two_pow_pos e)) op (by omega) c2.2
            have f3 := spec_go h (k + 3) a b (by omega) (by omega) op
            refine ⟨r, t, f2, ?_⟩
            have f4 : spec_l3Binary.j0 (k + 3 + 1) n op ((a % 2 ^ e : Nat) : Int) ((b % 2 ^ e : Nat) : Int) ((b % 2 ^ e % e : Nat) : Int) (sg n ((a % 2 ^ e : Nat) : Int)) (sg n ((b % 2 ^ e : Nat) : Int)) op (decide (4 ≤ op ∧ op ≤ 7)) = some (r, t) :=
              spec_l3Binary.mono_l (k + 3) _ _ _ _ _ _ _ _ _ (r, t) (f1 ▸ f2)
            rw [f4]
            rfl
    · have := op_out h (k + 3) op a b (by omega) (by omega) h0 (by omega)
      exact ⟨0, 3, this.1, this.2⟩
  · have := odd_out (n := n) (by omega) (by omega) (k + 3) op a b
    exact ⟨0, 3, this.1, this.2⟩
end Go.Proofs.Ytdjpbhmkcamkpaa.Bn
