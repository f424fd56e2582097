/- Unary of both texts alike; drawn arguments. -/
import Derived.Test.YtilokpipciilcaaDoorCn
import Derived.Test.YtilokpipciilcaaDoorCurW
import Derived.Test.YtilokpipciilcaaDoorQx1
namespace Go.Proofs.YtilokpipciilcaaDoor.Cn
open Go.RowKit Go.Proofs.YtilokpipciilcaaDoor.Q Go.Proofs.YtilokpipciilcaaDoorW.PrintWords Go.Proofs.YtilokpipciilcaaDoorW.PrintLast Go.Proofs.YtilokpipciilcaaDoorW.PrintMore Go.Proofs.YtilokpipciilcaaDoor.Mb Go.Proofs.YtilokpipciilcaaDoor.Po Go.Proofs.YtilokpipciilcaaDoor.Cur Go.Lib
set_option linter.unusedSimpArgs false
set_option linter.unusedVariables false
set_option linter.unusedSectionVars false

theorem i8_low (z : Int) : IntKind.i8.wrap (z % 256) = IntKind.i8.wrap z := by simp [IntKind.wrap, IntKind.signed, IntKind.bits]
theorem i16_low (z : Int) : IntKind.i16.wrap (IntKind.u16.wrap z) = IntKind.i16.wrap z := by simp [IntKind.wrap, IntKind.signed, IntKind.bits]
theorem cut_some (n z : Int) : ∃ r, impl_cut.f n z = some r := by unfold impl_cut.f; split <;> exact ⟨_, rfl⟩
section
variable {n : Int} {e : Nat} (h : We n e) (k : Nat) (a : Nat) (ha : a < 18446744073709551616)
include h ha
theorem impl_in (op : Int) (h1 : 22 ≤ op) (h2 : op ≤ 27) : impl_Unary.f (k + 1) n op (a : Int) = (impl_unary.f n op ((a % 2 ^ e : Nat) : Int)).bind fun t => some (t, 0) := by
  unfold impl_Unary.f
  rw [goodE h]
  simp only [Option.bind_some, if_true]
  rw [if_neg (by omega), decide_eq_false (by omega)]
  simp only [impl_Unary.j0, Bool.false_eq_true, if_false]
  rw [cutE h a ha]
  rfl
theorem impl_out (op : Int) (h1 : op < 22 ∨ 27 < op) : impl_Unary.f (k + 1) n op (a : Int) = some (0, 3) := by
  unfold impl_Unary.f
  rw [goodE h]
  simp only [Option.bind_some, if_true]
  rcases h1 with q | q
  · rw [if_pos q]; simp only [impl_Unary.j0, if_true]
  · rw [if_neg (by omega), decide_eq_true (by omega)]; simp only [impl_Unary.j0, if_true]
theorem spec_in (op : Int) : spec_Unary.f k n op (a : Int) = (spec_l3Unary.f k n op (a : Int)).bind fun r => some (r.1, r.2) := by
  unfold spec_Unary.f
  rw [good_same, goodE h]
  rfl
theorem low (z : Nat) : z % 2 ^ e < 2 ^ e := Nat.mod_lt _ (Nat.two_pow_pos e)
theorem i_clz : impl_Unary.f (k + 1) n 22 (a : Int) = some (((e - Lib.bitLen (a % 2 ^ e) : Nat) : Int), 0) := by rw [impl_in h k a ha 22 (by decide) (by decide), impl_clz h _ (low h a ha a)]; rfl
theorem i_ctz : impl_Unary.f (k + 1) n 23 (a : Int) = some (((cz e (a % 2 ^ e) : Nat) : Int), 0) := by rw [impl_in h k a ha 23 (by decide) (by decide), impl_ctz h _ (low h a ha a)]; rfl
theorem i_pop : impl_Unary.f (k + 1) n 24 (a : Int) = some (((popAux 64 (a % 2 ^ e) : Nat) : Int), 0) := by rw [impl_in h k a ha 24 (by decide) (by decide), impl_pop h _ (low h a ha a)]; rfl
theorem s_open (op : Int) : spec_l3Unary.f k n op (a : Int) = (if op = 22 then (spec_l3Unary.l0 k n ((a % 2 ^ e : Nat) : Int) 0 (wrap64 (n - 1))) else (if op = 23 then (spec_l3Unary.l1 k n ((a % 2 ^ e : Nat) : Int) 0 0) else (if op = 24 then (spec_l3Unary.l2 k n ((a % 2 ^ e : Nat) : Int) 0 0) else (if op = 25 then ((spec_l3Yes.f (((a % 2 ^ e : Nat) : Int) == 0)).bind fun t179 => ((spec_l3Mask.f n t179).bind fun t180 => (some (t180, 0)))) else (if op = 26 then ((spec_l3Mask.f n (IntKind.u64.wrap (wrap64 (IntKind.i8.wrap (((a % 2 ^ e : Nat) : Int) % 256))))).bind fun t181 => (some (t181, 0))) else (if op = 27 then ((spec_l3Mask.f n (IntKind.u64.wrap (wrap64 (IntKind.i16.wrap (IntKind.u16.wrap ((a % 2 ^ e : Nat) : Int)))))).bind fun t182 => (some (t182, 0))) else (some (0, 3)))))))) := by
  unfold spec_l3Unary.f
  rw [mask_cut, cutE h a ha]
  rfl
theorem s_clz (hk : 66 ≤ k) : spec_Unary.f k n 22 (a : Int) = some (((e - Lib.bitLen (a % 2 ^ e) : Nat) : Int), 0) := by
  have hee := h.le
  have hge := h.ge
  rw [spec_in h k a ha, s_open h k a ha, if_pos rfl, h.eq, w64 (by omega) (by omega), ← h.eq]
  have := spec_l0 h _ (low h a ha a) e k (by omega) (Nat.le_refl _) (low h a ha a)
  rw [Nat.sub_self] at this
  rw [show ((0 : Nat) : Int) = 0 from rfl, ← h.eq] at this
  rw [this]
  rfl
theorem s_ctz (hk : 66 ≤ k) : spec_Unary.f k n 23 (a : Int) = some (((cz e (a % 2 ^ e) : Nat) : Int), 0) := by
  have hee := h.le
  have hx := low h a ha a
  have hl := low64 h _ hx
  have hle := cz_le hx hl
  rw [spec_in h k a ha, s_open h k a ha, if_neg (by decide), if_pos rfl]
  have := spec_l1 h _ hx (cz e (a % 2 ^ e)) hle (by
    intro j hj
    unfold cz at hj
    by_cases c : a % 2 ^ e = 0
    · rw [c]; simp
    · rw [if_neg c] at hj
      exact (ctz_bits 64 _ c hl).1 j hj) (by
    unfold cz
    by_cases c : a % 2 ^ e = 0
    · rw [if_pos c]; exact .inl rfl
    · rw [if_neg c]; exact .inr (ctz_bits 64 _ c hl).2.1) (cz e (a % 2 ^ e)) 0 k (by omega) (by omega)
  rw [show ((0 : Nat) : Int) = 0 from rfl] at this
  rw [this]
  rfl
theorem s_pop (hk : 66 ≤ k) : spec_Unary.f k n 24 (a : Int) = some (((popAux 64 (a % 2 ^ e) : Nat) : Int), 0) := by
  have hee := h.le
  have hx := low h a ha a
  rw [spec_in h k a ha, s_open h k a ha, if_neg (by decide), if_neg (by decide), if_pos rfl]
  have := spec_l2 h _ hx e 0 0 k (by omega) (by omega) (Nat.le_refl _)
  rw [show ((0 : Nat) : Int) = 0 from rfl, Nat.pow_zero, Nat.div_one, Nat.zero_add] at this
  rw [this, show (64 : Nat) = e + (64 - e) from by omega, pop_low e _ _ hx]
  rfl
theorem un_same (hk : 66 ≤ k) (op : Int) : ∃ r, impl_Unary.f (k + 1) n op (a : Int) = some r ∧ spec_Unary.f (k + 1) n op (a : Int) = some r := by
  by_cases c22 : op = 22
  · subst c22; exact ⟨_, i_clz h k a ha, s_clz h (k + 1) a ha (by omega)⟩
  by_cases c23 : op = 23
  · subst c23; exact ⟨_, i_ctz h k a ha, s_ctz h (k + 1) a ha (by omega)⟩
  by_cases c24 : op = 24
  · subst c24; exact ⟨_, i_pop h k a ha, s_pop h (k + 1) a ha (by omega)⟩
  rw [spec_in h (k + 1) a ha, s_open h (k + 1) a ha, if_neg c22, if_neg c23, if_neg c24]
  by_cases c25 : op = 25
  · subst c25
    rw [if_pos rfl, impl_in h k a ha 25 (by decide) (by decide), truth_yes]
    unfold impl_unary.f
    rw [if_neg (by decide), if_neg (by decide), if_neg (by decide), if_pos rfl]
    have hm0 := maskS h _ (low h a ha a) 0 (by omega)
    have hm1 := maskS h _ (low h a ha a) 1 (by omega)
    rw [show ((0 : Nat) : Int) = 0 from rfl] at hm0
    rw [show ((1 : Nat) : Int) = 1 from rfl] at hm1
    unfold impl_truth.f
    split
    · simp only [Option.bind_some, hm1]; exact ⟨_, rfl, rfl⟩
    · simp only [Option.bind_some, hm0]; exact ⟨_, rfl, rfl⟩
  rw [if_neg c25]
  by_cases c26 : op = 26
  · subst c26
    rw [if_pos rfl, impl_in h k a ha 26 (by decide) (by decide), mask_cut, i8_low]
    unfold impl_unary.f
    rw [if_neg (by decide), if_neg (by decide), if_neg (by decide), if_neg (by decide), if_pos rfl]
    obtain ⟨r, hr⟩ := cut_some n (IntKind.u64.wrap (wrap64 (IntKind.i8.wrap ((a % 2 ^ e : Nat) : Int))))
    rw [hr]
    exact ⟨_, rfl, rfl⟩
  rw [if_neg c26]
  by_cases c27 : op = 27
  · subst c27
    rw [if_pos rfl, impl_in h k a ha 27 (by decide) (by decide), mask_cut, i16_low]
    unfold impl_unary.f
    rw [if_neg (by decide), if_neg (by decide), if_neg (by decide), if_neg (by decide), if_neg (by decide)]
    obtain ⟨r, hr⟩ := cut_some n (IntKind.u64.wrap (wrap64 (IntKind.i16.wrap ((a % 2 ^ e : Nat) : Int))))
    rw [hr]
    exact ⟨_, rfl, rfl⟩
  rw [if_neg c27]
  exact ⟨_, impl_out h k a ha op (by omega), rfl⟩
end
theorem un_bad {n : Int} (h1 : n ≠ 32) (h2 : n ≠ 64) (k : Nat) (op a : Int) : impl_Unary.f (k + 1) n op a = some (0, 3) ∧ spec_Unary.f (k + 1) n op a = some (0, 3) := by
  unfold impl_Unary.f spec_Unary.f
  rw [good_same, badE h1 h2]
  simp only [Option.bind_some, Bool.false_eq_true, if_false, impl_Unary.j0, if_true]
  exact ⟨trivial, trivial⟩

/-! drawn arguments -/
theorem width_ok {l : List Int} (hl : U8 l) {a : Int} (h0 : 0 ≤ a) (h1 : a ≤ 4611686018427386000) (s : Int) : ∃ n a' s', spec_l1Cur_width.f l a s = some (n, a', s') ∧ a ≤ a' ∧ a' ≤ a + 4 := by
  unfold spec_l1Cur_width.f
  obtain ⟨b, a1, s1, e1, ha1, hb1⟩ := one_ok hl h0 (by omega) s 40 (by omega) (by omega)
  rw [e1]
  simp only [Option.bind_some]
  by_cases c : b = true
  · rw [if_pos c]
    obtain ⟨r, a2, s2, e2, _, ha2, hb2⟩ := among_ok hl (a := a1) (by omega) (by omega) s1 ([0, 16, 33] : List Int) (by simp) (by simp)
    rw [e2]
    simp only [Option.bind_some]
    exact ⟨_, _, _, rfl, by omega, by omega⟩
  · rw [if_neg c]
    obtain ⟨r, a2, s2, e2, _, _, ha2, hb2⟩ := pick_ok hl (a := a1) (by omega) (by omega) s1 2 (by omega) (by omega)
    rw [e2]
    simp only [Option.bind_some]
    exact ⟨_, _, _, rfl, by omega, by omega⟩
theorem drawUnary_ok {l : List Int} (hl : U8 l) {k : Nat} (hk : 9 ≤ k) : ∃ n op a, spec_DrawUnary.f k l = some (n, op, a) ∧ 0 ≤ a ∧ a ≤ 18446744073709551615 := by
  unfold spec_DrawUnary.f
  obtain ⟨n, a1, s1, e1, ha1, hb1⟩ := width_ok hl (a := 0) (by omega) (by omega) 0
  rw [e1]
  simp only [Option.bind_some]
  obtain ⟨p, a2, s2, e2, _, _, ha2, hb2⟩ := pick_ok hl (a := a1) (by omega) (by omega) s1 9 (by omega) (by omega)
  rw [e2]
  simp only [Option.bind_some]
  obtain ⟨x, a3, s3, e3, hx0, hx1, ha3, hb3⟩ := word_ok hl (a := a2) (by omega) (by omega) s2 hk
  rw [e3]
  simp only [Option.bind_some]
  exact ⟨_, _, _, rfl, by omega, by omega⟩
theorem drawSigned_ok {l : List Int} (hl : U8 l) {k : Nat} (hk : 9 ≤ k) : ∃ n a, spec_DrawSignedOf.f k l = some (n, a) ∧ 0 ≤ a ∧ a ≤ 18446744073709551615 := by
  unfold spec_DrawSignedOf.f
  obtain ⟨n, a1, s1, e1, ha1, hb1⟩ := width_ok hl (a := 0) (by omega) (by omega) 0
  rw [e1]
  simp only [Option.bind_some]
  obtain ⟨x, a3, s3, e3, hx0, hx1, ha3, hb3⟩ := word_ok hl (a := a1) (by omega) (by omega) s1 hk
  rw [e3]
  simp only [Option.bind_some]
  exact ⟨_, _, rfl, by omega, by omega⟩
end Go.Proofs.YtilokpipciilcaaDoor.Cn
