/- A word that is put in a place of another type comes back from it, whatever bytes it is drawn of. -/
import Derived.Test.YtdjpbhmkcamkpaaWd
import Derived.Test.YtdjpbhmkcamkpaaCur
import Derived.Test.YtdjpbhmkcamkpaaQx8
namespace Go.Proofs.Ytdjpbhmkcamkpaa.Pure
open Go.RowKit Go.Proofs.Ytdjpbhmkcamkpaa.Q Go.Proofs.YtdjpbhmkcamkpaaW.PrintWords Go.Proofs.YtdjpbhmkcamkpaaW.PrintLast Go.Proofs.YtdjpbhmkcamkpaaW.PrintMore Go.Proofs.Ytdjpbhmkcamkpaa.Mb Go.Proofs.Ytdjpbhmkcamkpaa.Cur
set_option linter.unusedSimpArgs false
theorem coreWord_ok {l : List Int} (hl : U8 l) {a : Int} (h0 : 0 ≤ a) (h1 : a ≤ 4611686018427385000) (s : Int) {k : Nat} (hk : 9 ≤ k) : ∃ t b a' s', spec_l1Cur_coreWord.f k l a s = some (t, b, a', s') ∧ 0 ≤ b ∧ b ≤ 18446744073709551615 ∧ a ≤ a' ∧ a' ≤ a + 20 := by
  unfold spec_l1Cur_coreWord.f
  obtain ⟨p, a1, s1, e1, hp0, hp1, ha1, hb1⟩ := pick_ok hl h0 (by omega) s 3 (by omega) (by omega)
  rw [e1]
  simp only [Option.bind_some]
  obtain ⟨b, a2, s2, e2, hb0, hb1', ha2, hb2⟩ := word_ok hl (a := a1) (by omega) (by omega) s1 hk
  rw [e2]
  simp only [Option.bind_some]
  by_cases c : wrap64 (125 + p) = 126
  · rw [if_pos c]; exact ⟨_, _, _, _, rfl, hb0, hb1', by omega, by omega⟩
  · rw [if_neg c]
    obtain ⟨y, a3, s3, e3, ha3, hb3⟩ := one_ok hl (a := a2) (by omega) (by omega) s2 12 (by omega) (by omega)
    rw [e3]
    simp only [Option.bind_some]
    cases y
    · rw [if_neg (by decide)]
      have := bits_range_u64 .and b 4294967295
      exact ⟨_, _, _, _, rfl, this.1, this.2, by omega, by omega⟩
    · rw [if_pos rfl]; exact ⟨_, _, _, _, rfl, hb0, hb1', by omega, by omega⟩
theorem draw_ok {l : List Int} (hl : U8 l) {k : Nat} (hk : 9 ≤ k) : ∃ t b w, spec_DrawWordAs.f k l = some (t, b, w) ∧ 0 ≤ b ∧ b ≤ 18446744073709551615 := by
  unfold spec_DrawWordAs.f
  obtain ⟨t, b, a1, s1, e1, hb0, hb1, ha1, hb⟩ := coreWord_ok hl (a := 0) (by omega) (by omega) 0 hk
  rw [e1]
  simp only [Option.bind_some]
  obtain ⟨p, a2, s2, e2, _⟩ := pick_ok hl (a := a1) (by omega) (by omega) s1 4 (by omega) (by omega)
  rw [e2]
  exact ⟨_, _, _, rfl, hb0, hb1⟩
theorem back_ok {t b w : Int} (hb0 : 0 ≤ b) (hb1 : b ≤ 18446744073709551615) (h : (asW t b w).2.2 = true) : fromW (asW t b w).1 (asW t b w).2.1 t = (t, b, true) ∧ (asW t b w).1 = w ∧ gw (asW t b w).1 (asW t b w).2.1 = true := by
  unfold asW at h ⊢
  by_cases c : gw t b = true ∧ gt w = true ∧ (t = w ∨ w = 126 ∨ (w = 127 ∧ t = 125))
  · rw [if_pos c] at h ⊢
    obtain ⟨c1, c2, c3⟩ := c
    have ht := gw_gt c1
    have hw : 125 ≤ w ∧ w ≤ 127 := by unfold gt at c2; simpa using c2
    have hlow : t ≠ 126 → b < 4294967296 := by
      intro hne
      unfold gw at c1
      simp [hne] at c1
      exact c1.2
    have hm : t ≠ 126 → Go.bits .and .u64 b 4294967295 = b := by
      intro hne
      have := hlow hne
      rw [u64_and32 hb0 hb1]
      omega
    have hgw : gw w b = true := by
      unfold gw
      rw [c2]
      by_cases h6 : w = 126
      · simp [h6]
      · have : t ≠ 126 := by omega
        simp [h6, hlow this]
    refine ⟨?_, rfl, hgw⟩
    show fromW w b t = (t, b, true)
    unfold fromW
    rw [if_pos hgw]
    by_cases h1 : t = 126
    · subst h1
      have : w = 126 := by omega
      simp [this]
    · by_cases h2 : t = 125
      · subst h2; simp [hm]
      · have h3 : t = 127 := by omega
        subst h3
        have : w ≠ 125 := by omega
        simp [hm, this]
  · rw [if_neg c] at h; simp at h
theorem from_good {t b w : Int} (hb0 : 0 ≤ b) (hb1 : b ≤ 18446744073709551615) (h : (fromW t b w).2.2 = true) : gw (fromW t b w).1 (fromW t b w).2.1 = true ∧ (fromW t b w).1 = w := by
  have hm : Go.bits .and .u64 b 4294967295 < 4294967296 := by rw [u64_and32 hb0 hb1]; omega
  unfold fromW at h ⊢
  by_cases c : gw t b = true
  · rw [if_pos c] at h ⊢
    by_cases h1 : w = 126
    · subst h1
      by_cases h2 : t = 126
      · simp [h2, gw, gt]
      · simp [h2] at h
    · by_cases h2 : w = 125
      · subst h2; simp [gw, gt, hm]
      · by_cases h3 : w = 127
        · subst h3
          by_cases h4 : t = 125
          · simp [h4] at h
          · simp [h4, gw, gt, hm]
        · simp [h1, h2, h3] at h
  · rw [if_neg c] at h; simp at h
theorem j1_ok {l : List Int} (hl : U8 l) (k : Nat) (hk : 10 ≤ k) : laws_FnSlots.j1 (k + 1) l = some true := by
  simp only [laws_FnSlots.j1]
  obtain ⟨t, b, w, e, hb0, hb1⟩ := draw_ok hl (k := k) (by omega)
  unfold spec_DrawWordFrom.f
  rw [e]
  simp only [Option.bind_some]
  obtain ⟨k, rfl⟩ : ∃ j, k = j + 1 := ⟨k - 1, by omega⟩
  rw [impl_from, spec_from]
  simp only [Option.bind_some, impl_gw]
  cases h : (fromW t b w).2.2
  · simp
  · obtain ⟨g1, g2⟩ := from_good hb0 hb1 h
    rw [g2] at g1
    simp [g1, g2]
theorem FnSlots : laws_FnSlots.Pure := by
  intro l0 l1 _ h0 w0 _ h1 w1
  refine ⟨20, ?_⟩
  have hl0 := u8_of w0
  have hl1 := u8_of w1
  unfold laws_FnSlots.f
  by_cases c : wrap64 ((l0.length : Int) + (l1.length : Int)) > 1048576
  · rw [if_pos c]
  · rw [if_neg c]
    obtain ⟨t, b, w, e, hb0, hb1⟩ := draw_ok hl0 (k := 20) (by decide)
    rw [e]
    simp only [Option.bind_some]
    rw [impl_as 19, spec_as 19]
    simp only [Option.bind_some, laws_FnSlots.j0, j1_ok hl1 18 (by decide), impl_from 18, impl_gw]
    cases h : (asW t b w).2.2
    · simp
    · obtain ⟨h1, h2, h3⟩ := back_ok hb0 hb1 h
      rw [h1]
      simp [h2, h3]
      rw [h2] at h3
      simp [h3]
end Go.Proofs.Ytdjpbhmkcamkpaa.Pure
