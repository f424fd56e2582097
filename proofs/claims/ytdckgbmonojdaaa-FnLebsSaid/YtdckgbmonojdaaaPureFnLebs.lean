/- The law FnLebs, on numbers and bytes alone. -/
import Derived.Test.YtdckgbmonojdaaaLu
import Derived.Test.YtdckgbmonojdaaaCurS
import Derived.Test.YtdckgbmonojdaaaQx4
namespace Go.Proofs.Ytdckgbmonojdaaa.Pure
open Go.RowKit Go.Proofs.Ytdckgbmonojdaaa.Q Go.Proofs.YtdckgbmonojdaaaW.PrintWords Go.Proofs.YtdckgbmonojdaaaW.PrintLast Go.Proofs.YtdckgbmonojdaaaW.PrintMore Go.Proofs.Ytdckgbmonojdaaa.Mb Go.Proofs.Ytdckgbmonojdaaa.Cur Go.Proofs.Ytdckgbmonojdaaa.Leb
set_option linter.unusedSimpArgs false
set_option linter.unusedVariables false
theorem S_len {x : Int} (h0 : -9223372036854775808 ≤ x) (h1 : x ≤ 9223372036854775807) : 1 ≤ (S x).length ∧ (S x).length ≤ 10 ∧ -(64 * 128 ^ ((S x).length - 1)) ≤ x ∧ x < 64 * 128 ^ ((S x).length - 1) := by
  have hb := s_bounds h0 h1
  exact sl_len 9 x hb.1 hb.2
theorem S_size (x : Int) : (strOfNums (S x)).size = (S x).length := strOfNums_size _
theorem U_size (x : Int) : (strOfNums (U x)).size = (U x).length := strOfNums_size _
theorem U_len {n : Int} (h0 : 0 ≤ n) (h1 : n ≤ 18446744073709551615) : 1 ≤ (U n).length ∧ (U n).length ≤ 10 ∧ n < 128 ^ (U n).length ∧ (1 < (U n).length → 128 ^ ((U n).length - 1) ≤ n) := ul_len 9 n h0 (Int.lt_of_le_of_lt h1 p128_10)
theorem draw_takeS {l : List Int} (hl : U8 l) {k : Nat} (hk : 50 ≤ k) : ∃ b n, spec_DrawTakeSleb.f k l = some (b, n) ∧ b.size ≤ 1000 ∧ 0 ≤ n ∧ n ≤ 65 := by
  unfold spec_DrawTakeSleb.f
  obtain ⟨x, a1, s1, e1, hx0, hx1, ha1, hb1⟩ := signed_ok hl (a := 0) (by omega) (by omega) 0 (k := k) (by omega)
  rw [e1]
  simp only [Option.bind_some]
  rw [spec_S k (by omega) x hx0 hx1]
  simp only [Option.bind_some]
  have hL := (S_len hx0 hx1).2.1
  have hz := S_size x
  generalize strOfNums (S x) = t at hz ⊢
  obtain ⟨p, a2, s2, e2, hp0, hp1, ha2, hb2⟩ := pick_ok hl (a := a1) (by omega) (by omega) s1 5 (by omega) (by omega)
  rw [e2]
  simp only [Option.bind_some]
  by_cases c0 : p = 0
  · rw [if_pos c0]
    obtain ⟨r, a3, s3, e3, hr, ha3, hb3⟩ := of_ok hl (a := a2) (by omega) (by omega) s2 ([(⟨#[]⟩ : ByteArray), (⟨#[128]⟩ : ByteArray), (⟨#[255, 127]⟩ : ByteArray), (⟨#[255, 255, 255, 255, 127]⟩ : ByteArray), (⟨#[255, 255, 255, 255, 15]⟩ : ByteArray), (⟨#[128, 128, 128, 128, 120]⟩ : ByteArray), (⟨#[128, 128, 128, 128, 112]⟩ : ByteArray), (⟨#[128, 128, 128, 128, 128, 128, 128, 128, 128, 127]⟩ : ByteArray)] : List ByteArray) (by simp) (by simp)
    have hrs : r.size ≤ 1000 := by
      simp only [List.mem_cons, List.not_mem_nil, or_false] at hr
      rcases hr with h | h | h | h | h | h | h | h <;> rw [h] <;> decide
    rw [e3]
    simp only [Option.bind_some]
    obtain ⟨n, a4, s4, e4, hn0, hn1, _, _⟩ := bits_ok hl (a := a3) (by omega) (by omega) s3
    rw [e4]
    simp only [Option.bind_some]
    exact ⟨r, n, rfl, hrs, hn0, hn1⟩
  · rw [if_neg c0]
    by_cases c1 : p = 1
    · rw [if_pos c1]
      obtain ⟨r, a3, s3, e3, hr, ha3, hb3⟩ := bytes_ok hl (a := a2) (by omega) (by omega) s2 4 (by omega) (k := k) (by omega)
      rw [show ((4 : Nat) : Int) = 4 from rfl] at e3
      rw [e3]
      simp only [Option.bind_some]
      have hz2 : (strOfNums r).size = r.length := strOfNums_size _
      rw [hz2, if_pos (by omega)]
      obtain ⟨n, a4, s4, e4, hn0, hn1, _, _⟩ := bits_ok hl (a := a3) (by omega) (by omega) s3
      rw [e4]
      simp only [Option.bind_some]
      exact ⟨_, n, rfl, by rw [ByteArray.size_append, hz2]; omega, hn0, hn1⟩
    · rw [if_neg c1]
      obtain ⟨n, a4, s4, e4, hn0, hn1, _, _⟩ := bits_ok hl (a := a2) (by omega) (by omega) s2
      rw [e4]
      simp only [Option.bind_some]
      exact ⟨t, n, rfl, by omega, hn0, hn1⟩
theorem j3_ok {l : List Int} (hl : U8 l) {k : Nat} (hk : 200 ≤ k) : laws_FnLebs.j3 k l false = some true := by
  obtain ⟨k, rfl⟩ : ∃ j, k = j + 1 := ⟨k - 1, by omega⟩
  obtain ⟨b, n, e, hb, hn0, hn1⟩ := draw_takeS hl (k := k) (by omega)
  obtain ⟨x, y, h⟩ := takeS_same b (by omega) n (by omega) (by omega)
  have h := h k (by omega)
  simp only [laws_FnLebs.j3]
  rw [if_neg (by decide), e]
  simp only [Option.bind_some]
  rw [h.1, h.2]
  simp
theorem pow7 (L : Nat) (h : 1 ≤ L) : (2 : Int) ^ (7 * L - 1) = 64 * 128 ^ (L - 1) := by
  obtain ⟨m, rfl⟩ : ∃ m, L = m + 1 := ⟨L - 1, by omega⟩
  rw [show 7 * (m + 1) - 1 = 7 * m + 6 by omega, Int.pow_add, ← pow128, show m + 1 - 1 = m by omega, Int.mul_comm]
  rfl
theorem j2_ok {l : List Int} (hl : U8 l) {k : Nat} (hk : 300 ≤ k) (x : Int) (h0 : -9223372036854775808 ≤ x) (h1 : x ≤ 9223372036854775807) : laws_FnLebs.j2 k l x (strOfNums (S x)) false = some true := by
  obtain ⟨k, rfl⟩ : ∃ j, k = j + 1 := ⟨k - 1, by omega⟩
  have hj := j3_ok hl (k := k) (by omega)
  have hL := S_len h0 h1
  simp only [laws_FnLebs.j2]
  rw [if_neg (by decide), S_size]
  generalize (S x).length = L at hL
  obtain ⟨g0, g1, g2, g3⟩ := hL
  rw [w64 (n := 7 * (L : Int)) (by omega) (by omega)]
  by_cases c : 7 * (L : Int) < 64
  · have hp : (128 : Int) ^ (L - 1) ≤ 128 ^ 8 := pow_le_pow 128 (by decide) (by omega)
    have h8 : (128 : Int) ^ 8 = 72057594037927936 := by decide
    rw [if_pos c, w64 (n := 7 * (L : Int) - 1) (by omega) (by omega), wu64 (n := 7 * (L : Int) - 1) (by omega) (by omega), if_pos (by omega), show 7 * (L : Int) - 1 = ((7 * L - 1 : Nat) : Int) by omega, shl_i64 _ _ (by omega), shl_i64 _ _ (by omega), pow7 L g0]
    generalize (128 : Int) ^ (L - 1) = P at *
    rw [w64 (n := -1 * (64 * P)) (by omega) (by omega), w64 (n := 1 * (64 * P)) (by omega) (by omega), if_neg (by omega), decide_eq_false (by omega)]
    exact hj
  · rw [if_neg c]
    exact hj
theorem j1_ok {l : List Int} (hl : U8 l) {k : Nat} (hk : 400 ≤ k) : laws_FnLebs.j1 k l false = some true := by
  obtain ⟨k, rfl⟩ : ∃ j, k = j + 1 := ⟨k - 1, by omega⟩
  obtain ⟨x, a1, s1, e1, hx0, hx1, ha1, hb1⟩ := signed_ok hl (a := 0) (by omega) (by omega) 0 (k := k) (by omega)
  have hj := j2_ok hl (k := k) (by omega) x hx0 hx1
  have ed : spec_DrawSlebBytes.f k l = some x := by unfold spec_DrawSlebBytes.f; rw [e1, Option.bind_some]
  have hL := (S_len hx0 hx1).2.1
  have hm : (⟨#[109, 111, 114, 101]⟩ : ByteArray).size ≤ 1000000 := by decide
  have ht := take_S k (by omega) x hx0 hx1 (⟨#[109, 111, 114, 101]⟩ : ByteArray) hm
  have hz := S_size x
  simp only [laws_FnLebs.j1]
  rw [if_neg (by decide), ed, Option.bind_some, impl_S k (by omega) x hx0 hx1, Option.bind_some, if_pos (by omega), ht, Option.bind_some, spec_S k (by omega) x hx0 hx1, Option.bind_some, if_pos rfl, if_pos rfl, hz, bne_self_eq_false]
  exact hj
theorem j0_ok {l : List Int} (hl : U8 l) {k : Nat} (hk : 500 ≤ k) (n : Int) (h0 : 0 ≤ n) (h1 : n ≤ 18446744073709551615) : laws_FnLebs.j0 k l n (strOfNums (U n)) false = some true := by
  obtain ⟨k, rfl⟩ : ∃ j, k = j + 1 := ⟨k - 1, by omega⟩
  have hj := j1_ok hl (k := k) (by omega)
  have hL := U_len h0 h1
  simp only [laws_FnLebs.j0]
  rw [if_neg (by decide), U_size]
  generalize (U n).length = L at hL
  obtain ⟨g0, g1, g2, g3⟩ := hL
  have tail : (if (L : Int) < 10 then (if 0 ≤ (IntKind.u64.wrap (wrap64 (7 * (L : Int)))) then (laws_FnLebs.j1 k l ((shr .u64 n (IntKind.u64.wrap (wrap64 (7 * (L : Int))))) != 0)) else (none)) else (laws_FnLebs.j1 k l false)) = some true := by
    by_cases c : (L : Int) < 10
    · rw [if_pos c, w64 (n := 7 * (L : Int)) (by omega) (by omega), wu64 (n := 7 * (L : Int)) (by omega) (by omega), if_pos (by omega), shr_u64 n _ (7 * L) (by omega) (by omega), ← pow128, Int.ediv_eq_zero_of_lt h0 g2]
      exact hj
    · rw [if_neg c]
      exact hj
  by_cases c : (L : Int) > 1
  · have g4 := g3 (by omega)
    have hp0 : (0 : Int) < 128 ^ (L - 1) := Int.pow_pos (by decide)
    have hne : ¬ n / 128 ^ (L - 1) = 0 := by
      have : 1 ≤ n / 128 ^ (L - 1) := (Int.le_ediv_iff_mul_le hp0).2 (by rw [Int.one_mul]; exact g4)
      omega
    rw [if_pos c, w64 (n := (L : Int) - 1) (by omega) (by omega), w64 (n := 7 * ((L : Int) - 1)) (by omega) (by omega), wu64 (n := 7 * ((L : Int) - 1)) (by omega) (by omega), if_pos (by omega), shr_u64 n _ (7 * (L - 1)) (by omega) (by omega), ← pow128, if_neg hne]
    exact tail
  · rw [if_neg c]
    exact tail
theorem FnLebs : laws_FnLebs.Pure := by
  intro l0 l1 hl0 hl0' hu0 hl1 hl1' hu1
  have hu0 := u8_of hu0
  have hu1 := u8_of hu1
  obtain ⟨k, hk⟩ : ∃ k, 600 ≤ k := ⟨600, Nat.le_refl _⟩
  refine ⟨k, ?_⟩
  unfold laws_FnLebs.f
  rw [len_sum hl0' hl1']
  by_cases cl : (l0.length : Int) + (l1.length : Int) > 1048576
  · rw [if_pos cl]
  · rw [if_neg cl]
    obtain ⟨n, a1, s1, e1, h0, h1, ha1, hb1⟩ := word_ok hu0 (a := 0) (by omega) (by omega) 0 (k := k) (by omega)
    have hj := j0_ok hu1 (k := k) (by omega) n h0 h1
    have ed : spec_DrawUlebBytes.f k l0 = some n := by unfold spec_DrawUlebBytes.f; rw [e1, Option.bind_some]
    have eu : spec_UlebBytes.f k n = some (strOfNums (U n)) := by unfold spec_UlebBytes.f; rw [spec_U k (by omega) n h0 h1, Option.bind_some]
    have ei : impl_UlebBytes.f k n = some (strOfNums (U n)) := impl_U k (by omega) n h0 h1
    have es : impl_UlebSize.f k n = some ((strOfNums (U n)).size : Int) := by unfold impl_UlebSize.f; rw [ei, Option.bind_some]
    have hL := (U_len h0 h1).2.1
    have hm : (⟨#[109, 111, 114, 101]⟩ : ByteArray).size ≤ 1000000 := by decide
    have ht := take_U k (by omega) n h0 h1 (⟨#[109, 111, 114, 101]⟩ : ByteArray) hm
    have hz := U_size n
    rw [← hz] at ht
    rw [ed, Option.bind_some, ei, Option.bind_some, if_pos (by omega), ht, Option.bind_some, eu, Option.bind_some, if_pos rfl, if_pos rfl, if_pos rfl, es, Option.bind_some, bne_self_eq_false]
    exact hj
end Go.Proofs.Ytdckgbmonojdaaa.Pure
