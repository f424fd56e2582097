/- The law FnLoaded, on numbers and bytes alone. -/
import Derived.Test.YtdjpbhmkcamkpaaDm
import Derived.Test.YtdjpbhmkcamkpaaQx8
namespace Go.Proofs.Ytdjpbhmkcamkpaa.Pure
open Go.RowKit Go.Proofs.Ytdjpbhmkcamkpaa.Q Go.Proofs.YtdjpbhmkcamkpaaW.PrintWords Go.Proofs.YtdjpbhmkcamkpaaW.PrintLast Go.Proofs.YtdjpbhmkcamkpaaW.PrintMore Go.Proofs.Ytdjpbhmkcamkpaa.Mb Go.Proofs.Ytdjpbhmkcamkpaa.Mem Go.Proofs.Ytdjpbhmkcamkpaa.Cur
set_option linter.unusedSimpArgs false
set_option linter.unusedVariables false

theorem drawSB {l : List Int} (hl : U8 l) {k : Nat} (hk : 1200 ≤ k) : ∃ m d at_ s, spec_DrawStoreBytes.f k l = some (m, d, at_, s) ∧ d.size ≤ 601 ∧ -1 ≤ at_ ∧ at_ ≤ 9223372036854775807 ∧ s.size ≤ 12 := by
  unfold spec_DrawStoreBytes.f
  obtain ⟨m, D, a1, s1, e1, h1, h2, h3, h4, h5⟩ := memory_ok hl (a := 0) (by omega) (by omega) 0 (k := k) (by omega)
  rw [e1]
  simp only [Option.bind_some]
  obtain ⟨at_, a2, s2, e2, g1, g2, g3, g4⟩ := place_ok hl (a := a1) (by omega) (by omega) s1
  rw [e2]
  simp only [Option.bind_some]
  obtain ⟨n, a3, s3, e3, hn0, hn1, ha3, hb3⟩ := pick_ok hl (a := a2) (by omega) (by omega) s2 12 (by omega) (by omega)
  rw [e3]
  simp only [Option.bind_some]
  obtain ⟨t, a4, s4, e4, ht, _, _⟩ := text_ok hl (a := a3) (by omega) (by omega) s3 n hn0 (by omega) (k := k) (by omega)
  rw [e4]
  simp only [Option.bind_some]
  exact ⟨_, _, _, _, rfl, h1, g1, g2, by omega⟩
theorem drawSI {l : List Int} (hl : U8 l) {k : Nat} (hk : 1200 ≤ k) : ∃ m d at_ n v, spec_DrawStoreInt.f k l = some (m, d, at_, n, v) ∧ d.size ≤ 601 ∧ -1 ≤ at_ ∧ at_ ≤ 9223372036854775807 ∧ 0 ≤ n ∧ n ≤ 8 ∧ 0 ≤ v ∧ v ≤ 18446744073709551615 := by
  unfold spec_DrawStoreInt.f
  obtain ⟨m, D, a1, s1, e1, h1, h2, h3, h4, h5⟩ := memory_ok hl (a := 0) (by omega) (by omega) 0 (k := k) (by omega)
  rw [e1]
  simp only [Option.bind_some]
  obtain ⟨at_, a2, s2, e2, g1, g2, g3, g4⟩ := place_ok hl (a := a1) (by omega) (by omega) s1
  rw [e2]
  simp only [Option.bind_some]
  obtain ⟨n, a3, s3, e3, hr, ha3, hb3⟩ := among_ok hl (a := a2) (by omega) (by omega) s2 ([1, 2, 4, 8, 3, 0] : List Int) (by simp) (by simp)
  rw [e3]
  simp only [Option.bind_some]
  simp only [List.mem_cons, List.not_mem_nil, or_false] at hr
  obtain ⟨v, a4, s4, e4, hv0, hv1, _, _⟩ := word_ok hl (a := a3) (by omega) (by omega) s3 (k := k) (by omega)
  rw [e4]
  exact ⟨_, _, _, _, _, rfl, h1, g1, g2, by omega, by omega, hv0, hv1⟩
theorem shl_of (w : Int) (hw0 : 0 ≤ w) (c : Nat) (hc : c ≤ 64) : shl .u64 w (c : Int) = w * 2 ^ c % 18446744073709551616 := shl_u64 w _ c rfl hc
theorem tail1 {w : Int} (h0 : 0 ≤ w) (h1 : w < 256) : (if sext 1 w * 2 ^ 56 % 18446744073709551616 = w * 2 ^ 56 % 18446744073709551616 then (if (0 : Int) ≤ ((7 : Nat) : Int) then some ((sext 1 w / 9223372036854775808 == 1) == (w / 2 ^ 7 == 1)) else none) else some false) = some true := by
  unfold sext
  simp only [show (2 : Int) ^ (8 * 1 - 1) = 128 by decide, show (2 : Int) ^ (8 * 1) = 256 by decide, show (2 : Int) ^ 56 = 72057594037927936 by decide, show (2 : Int) ^ 7 = 128 by decide]
  by_cases c : w / 128 = 1
  · have e : (if (1 : Nat) < 8 ∧ w / 128 = 1 then w + (18446744073709551616 - 256) else w) = w + (18446744073709551616 - 256) := if_pos ⟨by decide, c⟩
    rw [e, if_pos (by omega), if_pos (by decide), show (w + (18446744073709551616 - 256)) / 9223372036854775808 = 1 by omega, c]
    rfl
  · have e : (if (1 : Nat) < 8 ∧ w / 128 = 1 then w + (18446744073709551616 - 256) else w) = w := if_neg (fun hh => c hh.2)
    rw [e, if_pos rfl, if_pos (by decide), show w / 9223372036854775808 = 0 by omega, show w / 128 = 0 by omega]
    rfl
theorem sext_range1 {w : Int} (h0 : 0 ≤ w) (h1 : w < 256) : 0 ≤ sext 1 w := by
  unfold sext
  simp only [show (2 : Int) ^ (8 * 1 - 1) = 128 by decide, show (2 : Int) ^ (8 * 1) = 256 by decide]
  split <;> omega
theorem tail2 {w : Int} (h0 : 0 ≤ w) (h1 : w < 65536) : (if sext 2 w * 2 ^ 48 % 18446744073709551616 = w * 2 ^ 48 % 18446744073709551616 then (if (0 : Int) ≤ ((15 : Nat) : Int) then some ((sext 2 w / 9223372036854775808 == 1) == (w / 2 ^ 15 == 1)) else none) else some false) = some true := by
  unfold sext
  simp only [show (2 : Int) ^ (8 * 2 - 1) = 32768 by decide, show (2 : Int) ^ (8 * 2) = 65536 by decide, show (2 : Int) ^ 48 = 281474976710656 by decide, show (2 : Int) ^ 15 = 32768 by decide]
  by_cases c : w / 32768 = 1
  · have e : (if (2 : Nat) < 8 ∧ w / 32768 = 1 then w + (18446744073709551616 - 65536) else w) = w + (18446744073709551616 - 65536) := if_pos ⟨by decide, c⟩
    rw [e, if_pos (by omega), if_pos (by decide), show (w + (18446744073709551616 - 65536)) / 9223372036854775808 = 1 by omega, c]
    rfl
  · have e : (if (2 : Nat) < 8 ∧ w / 32768 = 1 then w + (18446744073709551616 - 65536) else w) = w := if_neg (fun hh => c hh.2)
    rw [e, if_pos rfl, if_pos (by decide), show w / 9223372036854775808 = 0 by omega, show w / 32768 = 0 by omega]
    rfl
theorem sext_range2 {w : Int} (h0 : 0 ≤ w) (h1 : w < 65536) : 0 ≤ sext 2 w := by
  unfold sext
  simp only [show (2 : Int) ^ (8 * 2 - 1) = 32768 by decide, show (2 : Int) ^ (8 * 2) = 65536 by decide]
  split <;> omega
theorem tail4 {w : Int} (h0 : 0 ≤ w) (h1 : w < 4294967296) : (if sext 4 w * 2 ^ 32 % 18446744073709551616 = w * 2 ^ 32 % 18446744073709551616 then (if (0 : Int) ≤ ((31 : Nat) : Int) then some ((sext 4 w / 9223372036854775808 == 1) == (w / 2 ^ 31 == 1)) else none) else some false) = some true := by
  unfold sext
  simp only [show (2 : Int) ^ (8 * 4 - 1) = 2147483648 by decide, show (2 : Int) ^ (8 * 4) = 4294967296 by decide, show (2 : Int) ^ 32 = 4294967296 by decide, show (2 : Int) ^ 31 = 2147483648 by decide]
  by_cases c : w / 2147483648 = 1
  · have e : (if (4 : Nat) < 8 ∧ w / 2147483648 = 1 then w + (18446744073709551616 - 4294967296) else w) = w + (18446744073709551616 - 4294967296) := if_pos ⟨by decide, c⟩
    rw [e, if_pos (by omega), if_pos (by decide), show (w + (18446744073709551616 - 4294967296)) / 9223372036854775808 = 1 by omega, c]
    rfl
  · have e : (if (4 : Nat) < 8 ∧ w / 2147483648 = 1 then w + (18446744073709551616 - 4294967296) else w) = w := if_neg (fun hh => c hh.2)
    rw [e, if_pos rfl, if_pos (by decide), show w / 9223372036854775808 = 0 by omega, show w / 2147483648 = 0 by omega]
    rfl
theorem sext_range4 {w : Int} (h0 : 0 ≤ w) (h1 : w < 4294967296) : 0 ≤ sext 4 w := by
  unfold sext
  simp only [show (2 : Int) ^ (8 * 4 - 1) = 2147483648 by decide, show (2 : Int) ^ (8 * 4) = 4294967296 by decide]
  split <;> omega
theorem j0_ok {l : List Int} (hl : U8 l) {k : Nat} (hk : 1300 ≤ k) : laws_FnLoaded.j0 k l = some true := by
  obtain ⟨k, rfl⟩ : ∃ j, k = j + 1 := ⟨k - 1, by omega⟩
  simp only [laws_FnLoaded.j0]
  obtain ⟨m, d, at_, n, v, e1, h1, h2, h3, h4, h5, h6, h7⟩ := drawSI hl (k := k) (by omega)
  rw [e1]
  simp only [Option.bind_some]
  -- the codes
  obtain ⟨k, rfl⟩ : ∃ j, k = j + 1 := ⟨k - 1, by omega⟩
  have hsize : spec_l5Size.f n = impl_goodWidth.f n := rfl
  by_cases hw : gwd n = true
  · obtain ⟨n, rfl⟩ := Int.eq_ofNat_of_zero_le h4
    obtain ⟨s, i1, i2, i3, i4⟩ := inBytes_ok v h6 n (by omega) (k + 1) (by omega)
    obtain ⟨m', d', p1, p2⟩ := impl_stB k m d at_ s (by omega) (by omega)
    obtain ⟨m2, d2, q1, q2⟩ := spec_stB m d at_ s (by omega) (by omega)
    have ei : impl_StoreInt.f (k + 1) m d at_ (n : Int) v = some (m', d', (stB m d at_ s).2) := by
      unfold impl_StoreInt.f
      rw [impl_width, hw]
      simp only [Option.bind_some, if_true]
      rw [i1]
      simp only [Option.bind_some]
      rw [p1]
      rfl
    have es : ∃ x y, spec_StoreInt.f (k + 1) m d at_ (n : Int) v = some (x, y, (stB m d at_ s).2) := by
      unfold spec_StoreInt.f
      rw [spec_gm, hsize, impl_width, hw]
      by_cases hg : gm m d = true
      · simp only [Option.bind_some, hg, if_true]
        rw [i2]
        simp only [Option.bind_some]
        rw [q1]
        exact ⟨_, _, rfl⟩
      · have hg' : gm m d = false := by simpa using hg
        have : (stB m d at_ s).2 = 1 := by unfold stB; rw [if_neg (fun hh => hg hh.1)]
        rw [hg', this]
        exact ⟨_, _, rfl⟩
    obtain ⟨x, y, es⟩ := es
    rw [ei, es]
    simp only [Option.bind_some, if_true]
    by_cases hc : (stB m d at_ s).2 = 0
    · rw [if_pos hc]
      obtain ⟨rfl, rfl⟩ := p2 hc
      have hin : gm m' d = true ∧ 0 ≤ at_ ∧ at_ + (n : Int) ≤ (d.size : Int) := by
        unfold stB at hc
        by_cases c1 : gm m' d = true ∧ 0 ≤ at_
        · rw [if_pos c1] at hc
          by_cases c2 : at_ + (s.size : Int) ≤ (d.size : Int)
          · exact ⟨c1.1, c1.2, by omega⟩
          · rw [if_neg c2] at hc; simp at hc
        · rw [if_neg c1] at hc; simp at hc
      obtain ⟨a, rfl⟩ := Int.eq_ofNat_of_zero_le hin.2.1
      have hst : (stB m' d (a : Int) s).1 = stD d a s := by
        unfold stB
        rw [if_pos ⟨hin.1, hin.2.1⟩, if_pos (by omega), Int.toNat_natCast]
      rw [hst]
      have hsz := stD_size d a s (by omega)
      have hgm : gm m' (stD d a s) = true := by
        have := hin.1
        unfold gm at this ⊢
        rw [hsz]; exact this
      have hld : ldB m' (stD d a s) (a : Int) (n : Int) = (s, 0) := by
        unfold ldB
        rw [if_pos ⟨hgm, by omega, by omega⟩, if_pos (by rw [hsz]; omega)]
        have := stD_mid d a s (by omega)
        rw [i3] at this
        rw [Int.toNat_natCast, show ((a : Int) + (n : Int)).toNat = a + n by omega, this]
      have hlow := low_bytes s v h6 n i4
      have hf : impl_LoadInt.f (k + 1) m' (stD d a s) (a : Int) (n : Int) false = some (v % 256 ^ n, 0) := by
        rw [impl_ldI k m' _ _ _ _ (by omega) (by omega) (by omega)]
        unfold ldI
        rw [hw, hld]
        simp only [if_true, Int.toNat_natCast, Bool.false_eq_true, if_false]
        rw [hlow]
      have ht : impl_LoadInt.f (k + 1) m' (stD d a s) (a : Int) (n : Int) true = some (sext n (v % 256 ^ n), 0) := by
        rw [impl_ldI k m' _ _ _ _ (by omega) (by omega) (by omega)]
        unfold ldI
        rw [hw, hld]
        simp only [if_true, Int.toNat_natCast]
        rw [hlow]
      rw [hf, ht]
      simp only [Option.bind_some, if_true]
      rcases gwd_cases hw with hn | hn | hn | hn
      · obtain rfl : n = 1 := by omega
        have e3 : IntKind.u64.wrap (wrap64 (8 * ((1 : Nat) : Int))) = ((8 : Nat) : Int) := by rw [wrap_u64]; unfold wrap64; omega
        have e4 : IntKind.u64.wrap (wrap64 (64 - wrap64 (8 * ((1 : Nat) : Int)))) = ((56 : Nat) : Int) := by rw [wrap_u64]; unfold wrap64; omega
        have e5 : IntKind.u64.wrap (wrap64 (wrap64 (8 * ((1 : Nat) : Int)) - 1)) = ((7 : Nat) : Int) := by rw [wrap_u64]; unfold wrap64; omega
        have e6 : Go.bits .and .u64 v (IntKind.u64.wrap (shl .u64 1 ((8 : Nat) : Int) - 1)) = v % 256 := by
          have := mask_nat v.toNat 8 (by omega) (by omega)
          rw [show ((v.toNat : Nat) : Int) = v by omega] at this
          rw [this]
          simp only [show (2 ^ 8 : Nat) = 256 from by decide]
          omega
        have hv := Int.emod_lt_of_pos v (show (0 : Int) < 256 by decide)
        have hv0 := Int.emod_nonneg v (show (256 : Int) ≠ 0 by decide)
        have hsx := sext_range1 hv0 hv
        have ht := tail1 hv0 hv
        rw [show (256 : Int) ^ 1 = 256 by decide, e3, e4, e5, e6, if_pos (by decide), if_pos (by decide), if_pos rfl, if_neg (by decide), if_pos (by decide), shl_of _ hsx 56 (by decide), shl_of _ hv0 56 (by decide), shr_u64 _ _ 7 rfl (by decide)]
        exact ht
      · obtain rfl : n = 2 := by omega
        have e3 : IntKind.u64.wrap (wrap64 (8 * ((2 : Nat) : Int))) = ((16 : Nat) : Int) := by rw [wrap_u64]; unfold wrap64; omega
        have e4 : IntKind.u64.wrap (wrap64 (64 - wrap64 (8 * ((2 : Nat) : Int)))) = ((48 : Nat) : Int) := by rw [wrap_u64]; unfold wrap64; omega
        have e5 : IntKind.u64.wrap (wrap64 (wrap64 (8 * ((2 : Nat) : Int)) - 1)) = ((15 : Nat) : Int) := by rw [wrap_u64]; unfold wrap64; omega
        have e6 : Go.bits .and .u64 v (IntKind.u64.wrap (shl .u64 1 ((16 : Nat) : Int) - 1)) = v % 65536 := by
          have := mask_nat v.toNat 16 (by omega) (by omega)
          rw [show ((v.toNat : Nat) : Int) = v by omega] at this
          rw [this]
          simp only [show (2 ^ 16 : Nat) = 65536 from by decide]
          omega
        have hv := Int.emod_lt_of_pos v (show (0 : Int) < 65536 by decide)
        have hv0 := Int.emod_nonneg v (show (65536 : Int) ≠ 0 by decide)
        have hsx := sext_range2 hv0 hv
        have ht := tail2 hv0 hv
        rw [show (256 : Int) ^ 2 = 65536 by decide, e3, e4, e5, e6, if_pos (by decide), if_pos (by decide), if_pos rfl, if_neg (by decide), if_pos (by decide), shl_of _ hsx 48 (by decide), shl_of _ hv0 48 (by decide), shr_u64 _ _ 15 rfl (by decide)]
        exact ht
      · obtain rfl : n = 4 := by omega
        have e3 : IntKind.u64.wrap (wrap64 (8 * ((4 : Nat) : Int))) = ((32 : Nat) : Int) := by rw [wrap_u64]; unfold wrap64; omega
        have e4 : IntKind.u64.wrap (wrap64 (64 - wrap64 (8 * ((4 : Nat) : Int)))) = ((32 : Nat) : Int) := by rw [wrap_u64]; unfold wrap64; omega
        have e5 : IntKind.u64.wrap (wrap64 (wrap64 (8 * ((4 : Nat) : Int)) - 1)) = ((31 : Nat) : Int) := by rw [wrap_u64]; unfold wrap64; omega
        have e6 : Go.bits .and .u64 v (IntKind.u64.wrap (shl .u64 1 ((32 : Nat) : Int) - 1)) = v % 4294967296 := by
          have := mask_nat v.toNat 32 (by omega) (by omega)
          rw [show ((v.toNat : Nat) : Int) = v by omega] at this
          rw [this]
          simp only [show (2 ^ 32 : Nat) = 4294967296 from by decide]
          omega
        have hv := Int.emod_lt_of_pos v (show (0 : Int) < 4294967296 by decide)
        have hv0 := Int.emod_nonneg v (show (4294967296 : Int) ≠ 0 by decide)
        have hsx := sext_range4 hv0 hv
        have ht := tail4 hv0 hv
        rw [show (256 : Int) ^ 4 = 4294967296 by decide, e4, e3, e5, e6, if_pos (by decide), if_pos (by decide), if_pos rfl, if_neg (by decide), if_pos (by decide), shl_of _ hsx 32 (by decide), shl_of _ hv0 32 (by decide), shr_u64 _ _ 31 rfl (by decide)]
        exact ht
      · obtain rfl : n = 8 := by omega
        have e8 : v % 256 ^ 8 = v := by
          rw [show (256 : Int) ^ 8 = 18446744073709551616 by decide]; omega
        have e9 : sext 8 v = v := by
          unfold sext
          exact if_neg (fun hh => absurd hh.1 (by decide))
        rw [if_neg (by decide), if_pos (by decide), e8, e9, if_pos rfl, if_pos rfl]
    · rw [if_neg hc]
  · have hw' : gwd n = false := by simpa using hw
    have ei : ∃ x y, impl_StoreInt.f (k + 1) m d at_ n v = some (x, y, 1) := by
      unfold impl_StoreInt.f
      rw [impl_width, hw']
      simp only [Option.bind_some, Bool.false_eq_true, if_false, impl_orZero.f, impl_gm]
      cases gm m d
      · exact ⟨_, _, rfl⟩
      · exact ⟨_, _, rfl⟩
    have es : ∃ x y, spec_StoreInt.f (k + 1) m d at_ n v = some (x, y, 1) := by
      unfold spec_StoreInt.f
      rw [spec_gm, hsize, impl_width, hw']
      simp only [Option.bind_some, Bool.false_eq_true, if_false]
      cases gm m d
      · exact ⟨_, _, rfl⟩
      · exact ⟨_, _, rfl⟩
    obtain ⟨x, y, ei⟩ := ei
    obtain ⟨x2, y2, es⟩ := es
    rw [ei, es]
    simp
theorem FnLoaded : laws_FnLoaded.Pure := by
  intro l0 l1 hl0 hl0' hu0 hl1 hl1' hu1
  have hu0 := u8_of hu0
  have hu1 := u8_of hu1
  obtain ⟨k, hk⟩ : ∃ k, 1300 ≤ k := ⟨1300, Nat.le_refl _⟩
  refine ⟨k + 1, ?_⟩
  unfold laws_FnLoaded.f
  rw [len_sum hl0' hl1']
  by_cases cl : (l0.length : Int) + (l1.length : Int) > 1048576
  · rw [if_pos cl]
  · rw [if_neg cl, j0_ok hu1 (k := k + 1) (by omega)]
    obtain ⟨m, d, at_, s, e1, h1, h2, h3, h4⟩ := drawSB hu0 (k := k + 1) (by omega)
    rw [e1]
    simp only [Option.bind_some]
    obtain ⟨m', d', p1, p2⟩ := impl_stB k m d at_ s (by omega) (by omega)
    obtain ⟨m2, d2, q1, q2⟩ := spec_stB m d at_ s (by omega) (by omega)
    rw [p1]
    simp only [Option.bind_some]
    rw [q1]
    simp only [Option.bind_some, if_true]
    by_cases hc : (stB m d at_ s).2 = 0
    · rw [if_pos hc]
      obtain ⟨rfl, rfl⟩ := p2 hc
      have hin : gm m' d = true ∧ 0 ≤ at_ ∧ at_ + (s.size : Int) ≤ (d.size : Int) := by
        unfold stB at hc
        by_cases c1 : gm m' d = true ∧ 0 ≤ at_
        · rw [if_pos c1] at hc
          by_cases c2 : at_ + (s.size : Int) ≤ (d.size : Int)
          · exact ⟨c1.1, c1.2, by omega⟩
          · rw [if_neg c2] at hc; simp at hc
        · rw [if_neg c1] at hc; simp at hc
      obtain ⟨a, rfl⟩ := Int.eq_ofNat_of_zero_le hin.2.1
      have hst : (stB m' d (a : Int) s).1 = stD d a s := by
        unfold stB
        rw [if_pos ⟨hin.1, hin.2.1⟩, if_pos hin.2.2, Int.toNat_natCast]
      rw [hst]
      have hle : a + s.size ≤ d.size := by omega
      have hsz := stD_size d a s hle
      have hgm : gm m' (stD d a s) = true := by
        have := hin.1
        unfold gm at this ⊢
        rw [hsz]; exact this
      have hld : ldB m' (stD d a s) (a : Int) (s.size : Int) = (s, 0) := by
        unfold ldB
        rw [if_pos ⟨hgm, by omega, by omega⟩, if_pos (by rw [hsz]; omega)]
        rw [Int.toNat_natCast, show ((a : Int) + (s.size : Int)).toNat = a + s.size by omega, stD_mid d a s hle]
      rw [impl_ldB k m' _ _ _ (by omega) (by omega), hld]
      simp only [Option.bind_some]
      have hback := stD_back d a s hle
      rw [hsz] at hback
      have hwr : wrap64 ((a : Int) + (s.size : Int)) = ((a + s.size : Nat) : Int) := by rw [w64 (by omega) (by omega)]; omega
      have hfront := stD_front d a s hle
      have c1 : (0 : Int) ≤ (a : Int) := Int.natCast_nonneg a
      have c2 : (a : Int) ≤ (d.size : Int) := Int.ofNat_le.2 (Nat.le_trans (Nat.le_add_right _ _) hle)
      have c3 : (0 : Int) ≤ ((a + s.size : Nat) : Int) := Int.natCast_nonneg _
      have c4 : ((a + s.size : Nat) : Int) ≤ (d.size : Int) := Int.ofNat_le.2 hle
      clear hc p1 p2 q1 e1 hst hld hin hgm
      generalize stD d a s = D at *
      rw [hwr, if_pos trivial, if_pos trivial, hsz, if_pos rfl, if_pos c1, if_pos c2, if_pos c2, Int.toNat_natCast, Int.toNat_natCast, hfront, hback, if_pos rfl, if_pos c3, if_pos c4, if_pos c4, if_pos rfl]
    · rw [if_neg hc]
end Go.Proofs.Ytdjpbhmkcamkpaa.Pure
