/- The reader of choices: numbers with a sign, texts, bytes. -/
import Derived.Test.YtdckgbmonojdaaaCurW
import Derived.Test.YtdckgbmonojdaaaQx2
namespace Go.Proofs.Ytdckgbmonojdaaa.Cur
open Go.RowKit Go.Proofs.Ytdckgbmonojdaaa.Q Go.Proofs.YtdckgbmonojdaaaW.PrintWords Go.Proofs.YtdckgbmonojdaaaW.PrintLast Go.Proofs.YtdckgbmonojdaaaW.PrintMore Go.Proofs.Ytdckgbmonojdaaa.Mb
set_option linter.unusedSimpArgs false
set_option linter.unusedVariables false
theorem signed_ok {l : List Int} (hl : U8 l) {a : Int} (h0 : 0 ≤ a) (h1 : a ≤ 4611686018427380000) (s : Int) {k : Nat} (hk : 9 ≤ k) : ∃ r a' s', spec_l1Cur_signed.f k l a s = some (r, a', s') ∧ -9223372036854775808 ≤ r ∧ r ≤ 9223372036854775807 ∧ a ≤ a' ∧ a' ≤ a + 14 := by
  unfold spec_l1Cur_signed.f
  obtain ⟨r, a1, s1, e1, hr0, hr1, ha1, hb1⟩ := word_ok hl h0 (by omega) s hk
  rw [e1]
  simp only [Option.bind_some]
  obtain ⟨b, a2, s2, e2, ha2, hb2⟩ := one_ok hl (a := a1) (by omega) (by omega) s1 2 (by omega) (by omega)
  rw [e2]
  simp only [Option.bind_some]
  have hw1 := wrap64_range (-(wrap64 r))
  have hw2 := wrap64_range r
  by_cases hb : b = true
  · rw [if_pos hb]
    exact ⟨_, _, _, rfl, hw1.1, hw1.2, by omega, by omega⟩
  · rw [if_neg hb]
    exact ⟨_, _, _, rfl, hw2.1, hw2.2, by omega, by omega⟩
theorem rdOf_mem {α : Type} (d : α) {l : List α} {i : Int} (h0 : 0 ≤ i) (h1 : i < (l.length : Int)) : rdOf d l i ∈ l := by
  unfold rdOf
  have h : i.toNat < l.length := by omega
  rw [List.getD_eq_getElem?_getD, List.getElem?_eq_getElem h]
  exact List.getElem_mem h
theorem of_ok {l : List Int} (hl : U8 l) {a : Int} (h0 : 0 ≤ a) (h1 : a ≤ 4611686018427387000) (s : Int) (L : List ByteArray) (hL : 1 ≤ L.length) (hL2 : L.length ≤ 1000000) : ∃ r a' s', spec_l1Cur_of.f l a s L = some (r, a', s') ∧ r ∈ L ∧ a ≤ a' ∧ a' ≤ a + 2 := by
  unfold spec_l1Cur_of.f
  obtain ⟨r, a', s', e, hr0, hr1, ha0, ha1⟩ := pick_ok hl h0 h1 s (L.length : Int) (by omega) (by omega)
  rw [e]
  simp only [Option.bind_some]
  rw [if_pos hr0, if_pos hr1]
  exact ⟨_, _, _, rfl, rdOf_mem _ hr0 hr1, ha0, ha1⟩
theorem bits_ok {l : List Int} (hl : U8 l) {a : Int} (h0 : 0 ≤ a) (h1 : a ≤ 4611686018427387000) (s : Int) : ∃ r a' s', spec_l1Cur_bits.f l a s = some (r, a', s') ∧ 0 ≤ r ∧ r ≤ 65 ∧ a ≤ a' ∧ a' ≤ a + 2 := by
  unfold spec_l1Cur_bits.f
  obtain ⟨r, a', s', e, hr, ha0, ha1⟩ := among_ok hl h0 h1 s ([32, 64, 32, 64, 1, 7, 8, 33, 0, 65] : List Int) (by simp) (by simp)
  rw [e]
  simp only [Option.bind_some]
  have hb : 0 ≤ r ∧ r ≤ 65 := by
    simp only [List.mem_cons, List.not_mem_nil, or_false] at hr
    omega
  exact ⟨_, _, _, rfl, hb.1, hb.2, ha0, ha1⟩
theorem bytes_l0 {l : List Int} (hl : U8 l) (d : Nat) : ∀ (k : Nat) (acc : List Int) (a s : Int), d < k → acc.length + d ≤ 1000000 → 0 ≤ a → a + d ≤ 4611686018427387100 →
    ∃ r s', spec_l1Cur_bytes.l0 k acc (d : Int) l a s = some (r, a + (d : Int), s') ∧ r.length = acc.length + d := by
  induction d with
  | zero =>
    intro k acc a s hk _ _ _
    obtain ⟨k, rfl⟩ : ∃ j, k = j + 1 := ⟨k - 1, by omega⟩
    simp only [spec_l1Cur_bytes.l0]
    rw [if_neg (by omega)]
    exact ⟨acc, s, by simp, rfl⟩
  | succ d ih =>
    intro k acc a s hk hd ha0 ha1
    obtain ⟨k, rfl⟩ : ∃ j, k = j + 1 := ⟨k - 1, by omega⟩
    simp only [spec_l1Cur_bytes.l0]
    rw [if_pos (by omega)]
    obtain ⟨r, s1, e1, hr0, hr1⟩ := next_ok hl (a := a) ⟨ha0, by omega⟩ s
    rw [e1]
    simp only [Option.bind_some]
    rw [if_pos (by omega), w64 (n := ((d + 1 : Nat) : Int) - 1) (by omega) (by omega), show ((d + 1 : Nat) : Int) - 1 = (d : Int) by omega]
    obtain ⟨r2, s2, e2, h⟩ := ih k (acc ++ [r % 256]) (a + 1) s1 (by omega) (by rw [List.length_append, List.length_singleton]; omega) (by omega) (by omega)
    refine ⟨r2, s2, ?_, ?_⟩
    · rw [e2]
      congr 3
      omega
    · rw [h, List.length_append, List.length_singleton]; omega
theorem bytes_ok {l : List Int} (hl : U8 l) {a : Int} (h0 : 0 ≤ a) (h1 : a ≤ 4611686018427380000) (s : Int) (n : Nat) (hn : n ≤ 1000) {k : Nat} (hk : n + 2 ≤ k) : ∃ r a' s', spec_l1Cur_bytes.f k l a s (n : Int) = some (r, a', s') ∧ r.length ≤ n ∧ a ≤ a' ∧ a' ≤ a + 2 + n := by
  unfold spec_l1Cur_bytes.f
  rw [w64 (n := (n : Int) + 1) (by omega) (by omega)]
  obtain ⟨p, a1, s1, e, hr0, hr1, ha0, ha1⟩ := pick_ok hl h0 (by omega) s ((n : Int) + 1) (by omega) (by omega)
  rw [e]
  simp only [Option.bind_some]
  obtain ⟨p, rfl⟩ := Int.eq_ofNat_of_zero_le hr0
  obtain ⟨r, s2, e2, h⟩ := bytes_l0 hl p k [] a1 s1 (by omega) (by simp; omega) (by omega) (by omega)
  rw [e2]
  exact ⟨_, _, _, rfl, by rw [h]; simp; omega, by omega, by omega⟩
end Go.Proofs.Ytdckgbmonojdaaa.Cur
