/- Numbers with a sign: both texts read alike, and read what was written. -/
import Derived.Test.YtmmlgkepnjelnaaLb
import Derived.Test.YtmmlgkepnjelnaaQx4
import Derived.Test.YtmmlgkepnjelnaaQx1
namespace Go.Proofs.Ytmmlgkepnjelnaa.Leb
open Go.RowKit Go.Proofs.Ytmmlgkepnjelnaa.Q Go.Proofs.YtmmlgkepnjelnaaW.PrintWords Go.Proofs.YtmmlgkepnjelnaaW.PrintLast Go.Proofs.YtmmlgkepnjelnaaW.PrintMore Go.Proofs.Ytmmlgkepnjelnaa.Mb
set_option linter.unusedSimpArgs false
set_option linter.unusedVariables false
set_option linter.unusedSectionVars false

theorem shl_i64 (x : Int) (j : Nat) (hj : j ≤ 64) : shl .i64 x (j : Int) = wrap64 (x * 2 ^ j) := by
  have e : (IntKind.i64).bits = 64 := rfl
  unfold shl
  rw [IntKind.wrap_i64, e, Int.toNat_natCast, Nat.min_eq_left hj]
  unfold wrap64
  omega
theorem sg7_bounds {low : Int} (h0 : 0 ≤ low) (h1 : low ≤ 127) : -64 ≤ sg7 low ∧ sg7 low ≤ 63 := by unfold sg7; split <;> omega
/-- One byte more, signed. -/
theorem acc_s (n q : Int) (i : Nat) (hn0 : 0 ≤ n) (hn : n < 128 ^ i) (hq0 : -64 ≤ q) (hq : q ≤ 127) (hi : i ≤ 8) : Go.bits .or .i64 n (shl .i64 q ((7 * i : Nat) : Int)) = n + q * 128 ^ i := by
  have hp : (128 : Int) ^ i ≤ 128 ^ 8 := pow_le_pow 128 (by decide) hi
  have h8 : (128 : Int) ^ 8 = 72057594037927936 := by decide
  have hp0 : (0 : Int) < 128 ^ i := Int.pow_pos (by decide)
  have hm0 : -64 * 128 ^ i ≤ q * 128 ^ i := Int.mul_le_mul_of_nonneg_right hq0 (Int.le_of_lt hp0)
  have hm1 : q * 128 ^ i ≤ 127 * 128 ^ i := Int.mul_le_mul_of_nonneg_right hq (Int.le_of_lt hp0)
  rw [shl_i64 _ _ (by omega), ← pow128, w64 (by omega) (by omega), i64_join (7 * i) (by omega) n _ hn0 (by rw [← pow128]; exact hn) (by rw [← pow128]; exact Int.mul_emod_left _ _) (by omega) (by omega)]
theorem acc_next (n low : Int) (i : Nat) (hn0 : 0 ≤ n) (hn : n < 128 ^ i) (h0 : 0 ≤ low) (h1 : low ≤ 127) : 0 ≤ n + low * 128 ^ i ∧ n + low * 128 ^ i < 128 ^ (i + 1) := by
  have hp0 : (0 : Int) < 128 ^ i := Int.pow_pos (by decide)
  have hm0 : 0 ≤ low * 128 ^ i := Int.mul_nonneg h0 (Int.le_of_lt hp0)
  have hm1 : low * 128 ^ i ≤ 127 * 128 ^ i := Int.mul_le_mul_of_nonneg_right h1 (Int.le_of_lt hp0)
  rw [Int.pow_succ]
  omega
theorem u64_and64 {low : Int} (h0 : 0 ≤ low) (h1 : low ≤ 127) : Go.bits .and .u64 low 64 = 0 ↔ low < 64 := by
  have h : ∀ n : Fin 128, (Go.bits .and .u64 ((n.val : Nat) : Int) 64 = 0 ↔ ((n.val : Nat) : Int) < 64) := by decide +kernel
  obtain ⟨b, rfl⟩ := Int.eq_ofNat_of_zero_le h0
  exact h ⟨b, by omega⟩
/-- The reference's sign, laid above. -/
theorem sign_above (N low : Int) (i : Nat) (hi : i ≤ 8) (hN0 : 0 ≤ N) (hN : N < 128 ^ (i + 1)) : wrap64 (Go.bits .or .u64 N (shl .u64 18446744073709551615 ((7 * (i + 1) : Nat) : Int))) = N - 128 ^ (i + 1) := by
  have hp : (128 : Int) ^ (i + 1) ≤ 128 ^ 9 := pow_le_pow 128 (by decide) (by omega)
  have h9 : (128 : Int) ^ 9 = 9223372036854775808 := by decide
  have hp0 : (0 : Int) < 128 ^ (i + 1) := Int.pow_pos (by decide)
  have hd : (128 : Int) ^ (i + 1) ∣ 18446744073709551616 := ⟨2 ^ (64 - 7 * (i + 1)), by rw [pow128, ← Int.pow_add, show 7 * (i + 1) + (64 - 7 * (i + 1)) = 64 by omega]; decide⟩
  have hs : shl .u64 18446744073709551615 ((7 * (i + 1) : Nat) : Int) = 18446744073709551616 - 128 ^ (i + 1) := by
    rw [shl_u64 _ _ (7 * (i + 1)) rfl (by omega), ← pow128]
    generalize (128 : Int) ^ (i + 1) = P at *
    have e : (18446744073709551615 : Int) * P = (18446744073709551616 - P) + (P - 1) * 18446744073709551616 := by
      rw [Int.sub_mul]; omega
    rw [e, Int.add_mul_emod_self_right, Int.emod_eq_of_lt (by omega) (by omega)]
  rw [hs, bits_or_comm, u64_join (7 * (i + 1)) _ N (by omega) (by rw [← pow128]; exact Int.emod_eq_zero_of_dvd (Int.dvd_sub hd (Int.dvd_refl _))) (by omega) hN0 (by rw [← pow128]; exact hN) (by omega)]
  unfold wrap64
  omega
section
variable (s : ByteArray) (b mo : Nat) (hs : s.size ≤ 1000000000) (hb0 : 1 ≤ b) (hb : b ≤ 64) (hmo : mo = (b + 6) / 7)
include hs hb0 hb hmo
theorem most_ok : wrap64 (Int.tdiv (wrap64 ((b : Int) + 6)) 7) = (mo : Int) := by
  rw [w64 (n := (b : Int) + 6) (by omega) (by omega), Int.tdiv_eq_ediv_of_nonneg (by omega), w64 (by omega) (by omega)]
  omega
theorem ends (k i : Nat) (n : Int) (h : mo ≤ i ∨ s.size ≤ i) : impl_TakeSleb.l0 (k + 2) s (b : Int) n (i : Int) = some (0, 0) ∧ spec_l1TakeS.l0 (k + 2) s (b : Int) (mo : Int) n (i : Int) = some (0, 0) := by
  constructor
  · simp only [impl_TakeSleb.l0, impl_TakeSleb.j2]
    rw [most_ok s b mo hs hb0 hb hmo]
    by_cases c : (i : Int) < (s.size : Int)
    · rw [if_pos c, decide_eq_false (by omega), if_neg (by decide)]
    · rw [if_neg c, if_neg (by decide)]
  · simp only [spec_l1TakeS.l0, spec_l1TakeS.j1]
    by_cases c : (i : Int) < (mo : Int)
    · rw [if_pos c, decide_eq_false (by omega), if_neg (by decide)]
    · rw [if_neg c, if_neg (by decide)]
/-- What the last byte tells, in the program's text. -/
theorem impl_last (k i : Nat) (n : Int) (hi : i < mo) (hsz : i < s.size) (hn0 : 0 ≤ n) (hn : n < 128 ^ i) (hbt : bt s (i : Int) < 128) :
    impl_TakeSleb.l0 (k + 4) s (b : Int) n (i : Int) = some (if fitS (bt s (i : Int)) ((b : Int) - 7 * (i : Int)) = true then (n + sg7 (bt s (i : Int)) * 128 ^ i, ((i + 1 : Nat) : Int)) else (0, 0)) := by
  have hr := bt_rng s (i : Int)
  have hq := sg7_bounds hr.1 (by omega)
  simp only [impl_TakeSleb.l0, impl_TakeSleb.j2, impl_TakeSleb.j3, impl_TakeSleb.j4]
  rw [most_ok s b mo hs hb0 hb hmo, if_pos (by omega), decide_eq_true (by omega), if_pos rfl, if_pos (by omega), if_pos (by omega), u8_and127 hr.1 hr.2, show bt s (i : Int) % 128 = bt s (i : Int) by omega, w64 (n := bt s (i : Int)) (by omega) (by omega), w64 (n := bt s (i : Int) - 128) (by omega) (by omega), w64 (n := 7 * (i : Int)) (by omega) (by omega), w64 (n := (b : Int) - 7 * (i : Int)) (by omega) (by omega), w64 (n := (i : Int) + 1) (by omega) (by omega), w64 (n := (b : Int) - 7 * (i : Int) - 1) (by omega) (by omega)]
  generalize hlow : bt s (i : Int) = low at *
  have main : ∀ q : Int, q = sg7 low → (if (b : Int) - 7 * (i : Int) < 7 then (if 0 ≤ (b : Int) - 7 * (i : Int) - 1 then (if shr .i64 q ((b : Int) - 7 * (i : Int) - 1) = 0 then (if false = true then some ((0 : Int), (0 : Int)) else (if 0 ≤ (i : Int) then (if (i : Int) < (s.size : Int) then (if low < 128 then (if 0 ≤ 7 * (i : Int) then (some (Go.bits .or .i64 n (shl .i64 q (7 * (i : Int))), (i : Int) + 1)) else (none)) else (if 0 ≤ 7 * (i : Int) then (impl_TakeSleb.l0 k s (b : Int) (Go.bits .or .i64 n (shl .i64 low (7 * (i : Int)))) ((i : Int) + 1)) else (none))) else (none)) else (none))) else (if (shr .i64 q ((b : Int) - 7 * (i : Int) - 1) != -1) = true then some (0, 0) else (if 0 ≤ (i : Int) then (if (i : Int) < (s.size : Int) then (if low < 128 then (if 0 ≤ 7 * (i : Int) then (some (Go.bits .or .i64 n (shl .i64 q (7 * (i : Int))), (i : Int) + 1)) else (none)) else (if 0 ≤ 7 * (i : Int) then (impl_TakeSleb.l0 k s (b : Int) (Go.bits .or .i64 n (shl .i64 low (7 * (i : Int)))) ((i : Int) + 1)) else (none))) else (none)) else (none)))) else (none)) else (if false = true then some (0, 0) else (if 0 ≤ (i : Int) then (if (i : Int) < (s.size : Int) then (if low < 128 then (if 0 ≤ 7 * (i : Int) then (some (Go.bits .or .i64 n (shl .i64 q (7 * (i : Int))), (i : Int) + 1)) else (none)) else (if 0 ≤ 7 * (i : Int) then (impl_TakeSleb.l0 k s (b : Int) (Go.bits .or .i64 n (shl .i64 low (7 * (i : Int)))) ((i : Int) + 1)) else (none))) else (none)) else (none)))) =
      some (if fitS low ((b : Int) - 7 * (i : Int)) = true then (n + sg7 low * 128 ^ i, ((i + 1 : Nat) : Int)) else (0, 0)) := by
    intro q hqe
    subst hqe
    have val : fitS low ((b : Int) - 7 * (i : Int)) = true → (if 0 ≤ (i : Int) then (if (i : Int) < (s.size : Int) then (if low < 128 then (if 0 ≤ 7 * (i : Int) then (some (Go.bits .or .i64 n (shl .i64 (sg7 low) (7 * (i : Int))), (i : Int) + 1)) else (none)) else (if 0 ≤ 7 * (i : Int) then (impl_TakeSleb.l0 k s (b : Int) (Go.bits .or .i64 n (shl .i64 low (7 * (i : Int)))) ((i : Int) + 1)) else (none))) else (none)) else (none)) = some (n + sg7 low * 128 ^ i, ((i + 1 : Nat) : Int)) := by
      intro hf
      rw [if_pos (by omega), if_pos (by omega), if_pos hbt, if_pos (by omega), show (7 * (i : Int)) = ((7 * i : Nat) : Int) by omega, show ((i : Int) + 1) = ((i + 1 : Nat) : Int) by omega]
      by_cases c8 : i ≤ 8
      · rw [acc_s n (sg7 low) i hn0 hn hq.1 (by omega) c8]
      · have hi9 : i = 9 := by omega
        have hb64 : b = 64 := by omega
        subst hi9 hb64
        have h9 : (128 : Int) ^ 9 = 9223372036854775808 := by decide
        rw [show (((64 : Nat) : Int) - 7 * ((9 : Nat) : Int)) = 1 by decide] at hf
        unfold fitS at hf
        simp only [show decide ((7 : Int) ≤ 1) = false from by decide, Bool.false_or, decide_eq_true_eq, show ((1 : Int) - 1).toNat = 0 from rfl, Int.pow_zero] at hf
        have hcase : sg7 low = 0 ∨ sg7 low = -1 := by omega
        rcases hcase with e | e
        · rw [e, shl_i64 _ _ (by decide), Int.zero_mul, w64 (by decide) (by decide), i64_join 63 (by decide) n 0 hn0 (by rw [h9] at hn; exact hn) (by decide) (by decide) (by decide), Int.zero_mul]
        · rw [e, shl_i64 _ _ (by decide), show (-1 : Int) * 2 ^ (7 * 9) = -9223372036854775808 by decide, w64 (by decide) (by decide), i64_join 63 (by decide) n _ hn0 (by rw [h9] at hn; exact hn) (by decide) (by decide) (by decide), h9]
          rfl
    by_cases c7 : (b : Int) - 7 * (i : Int) < 7
    · have hfit := (shr_fit (low := low) (r := (b : Int) - 7 * (i : Int)) hr.1 (by omega) (by omega) c7).1
      rw [if_pos c7, if_pos (by omega)]
      by_cases z : shr .i64 (sg7 low) ((b : Int) - 7 * (i : Int) - 1) = 0
      · have hf : fitS low ((b : Int) - 7 * (i : Int)) = true := by rw [hfit, z]; rfl
        rw [if_pos z, if_neg (by decide), val hf, hf, if_pos rfl]
      · rw [if_neg z]
        by_cases z2 : shr .i64 (sg7 low) ((b : Int) - 7 * (i : Int) - 1) = -1
        · have hf : fitS low ((b : Int) - 7 * (i : Int)) = true := by rw [hfit, z2]; rfl
          rw [show (shr .i64 (sg7 low) ((b : Int) - 7 * (i : Int) - 1) != -1) = false from by rw [z2]; rfl, if_neg (by decide), val hf, hf, if_pos rfl]
        · have hf : fitS low ((b : Int) - 7 * (i : Int)) = false := by rw [hfit]; simp [z, z2]
          rw [show (shr .i64 (sg7 low) ((b : Int) - 7 * (i : Int) - 1) != -1) = true from by simpa using z2, if_pos rfl, hf, if_neg (by decide)]
    · have hf : fitS low ((b : Int) - 7 * (i : Int)) = true := by unfold fitS; rw [decide_eq_true (by omega)]; rfl
      rw [if_neg c7, if_neg (by decide), val hf, hf, if_pos rfl]
  by_cases c64 : low ≥ 64
  · rw [if_pos c64]
    exact main (low - 128) (by unfold sg7; rw [if_pos c64])
  · rw [if_neg c64]
    exact main low (by unfold sg7; rw [if_neg c64])
/-- What the last byte tells, in the reference's text: what it puts together. -/
theorem spec_val (i : Nat) (n low : Int) (hi : i < mo) (hn0 : 0 ≤ n) (hn : n < 128 ^ i) (hl0 : 0 ≤ low) (hl : low ≤ 127) (hf : fitS low ((b : Int) - 7 * (i : Int)) = true) :
    (if wrap64 (7 * ((i : Int) + 1)) < 64 then (if Go.bits .and .u64 low 64 = 0 then (some (wrap64 (Go.bits .or .u64 n (shl .u64 low ((7 * i : Nat) : Int))), (i : Int) + 1)) else (if 0 ≤ IntKind.u64.wrap (wrap64 (7 * ((i : Int) + 1))) then (some (wrap64 (Go.bits .or .u64 (Go.bits .or .u64 n (shl .u64 low ((7 * i : Nat) : Int))) (shl .u64 18446744073709551615 (IntKind.u64.wrap (wrap64 (7 * ((i : Int) + 1)))))), (i : Int) + 1)) else (none))) else (some (wrap64 (Go.bits .or .u64 n (shl .u64 low ((7 * i : Nat) : Int))), (i : Int) + 1))) =
      some (n + sg7 low * 128 ^ i, ((i + 1 : Nat) : Int)) := by
  have hq := sg7_bounds hl0 hl
  rw [show ((i : Int) + 1) = ((i + 1 : Nat) : Int) by omega, show (7 * ((i + 1 : Nat) : Int)) = ((7 * (i + 1) : Nat) : Int) by omega, w64 (n := ((7 * (i + 1) : Nat) : Int)) (by omega) (by omega), wu64 (n := ((7 * (i + 1) : Nat) : Int)) (by omega) (by omega)]
  by_cases c8 : i ≤ 8
  · have hp : (128 : Int) ^ i ≤ 128 ^ 8 := pow_le_pow 128 (by decide) c8
    have h8 : (128 : Int) ^ 8 = 72057594037927936 := by decide
    have hp0 : (0 : Int) < 128 ^ i := Int.pow_pos (by decide)
    have hm1 : low * 128 ^ i ≤ 127 * 128 ^ i := Int.mul_le_mul_of_nonneg_right hl (Int.le_of_lt hp0)
    obtain ⟨hN0, hN⟩ := acc_next n low i hn0 hn hl0 hl
    rw [if_pos (by omega), acc_u n low i hn0 hn hl0 hl (by omega) (by omega)]
    have h64 := u64_and64 hl0 hl
    by_cases c : low < 64
    · rw [if_pos (h64.2 c), w64 (by omega) (by rw [Int.pow_succ] at hN; omega)]
      unfold sg7
      rw [if_neg (by omega)]
    · rw [if_neg (fun h => c (h64.1 h)), if_pos (by omega), sign_above _ low i c8 hN0 hN]
      unfold sg7
      rw [if_pos (by omega), Int.sub_mul, Int.pow_succ]
      congr 2
      omega
  · have hi9 : i = 9 := by omega
    have hb64 : b = 64 := by omega
    subst hi9 hb64
    have h9 : (128 : Int) ^ 9 = 9223372036854775808 := by decide
    rw [show (((64 : Nat) : Int) - 7 * ((9 : Nat) : Int)) = 1 by decide] at hf
    unfold fitS at hf
    simp only [show decide ((7 : Int) ≤ 1) = false from by decide, Bool.false_or, decide_eq_true_eq, show ((1 : Int) - 1).toNat = 0 from rfl, Int.pow_zero] at hf
    rw [if_neg (by decide)]
    have hcase : (low = 0 ∧ sg7 low = 0) ∨ (low = 127 ∧ sg7 low = -1) := by
      unfold sg7 at hf ⊢
      split at hf
      · rename_i h; rw [if_pos h]; omega
      · rename_i h; rw [if_neg h]; omega
    rcases hcase with ⟨e1, e2⟩ | ⟨e1, e2⟩
    · rw [e2, e1, shl_u64 _ _ 63 rfl (by decide), show ((0 : Int) * 2 ^ 63 % 18446744073709551616) = 0 by decide, bits_or_comm, u64_join 63 0 n (by decide) (by decide) (by decide) hn0 (by rw [h9] at hn; exact hn) (by omega), Int.zero_mul, w64 (by omega) (by omega)]
      congr 2
      omega
    · rw [e2, e1, shl_u64 _ _ 63 rfl (by decide), show ((127 : Int) * 2 ^ 63 % 18446744073709551616) = 9223372036854775808 by decide, bits_or_comm, u64_join 63 _ n (by decide) (by decide) (by decide) hn0 (by rw [h9] at hn; exact hn) (by omega), h9]
      congr 2
      rw [h9] at hn
      unfold wrap64
      omega
theorem spec_last (k i : Nat) (n : Int) (hi : i < mo) (hsz : i < s.size) (hn0 : 0 ≤ n) (hn : n < 128 ^ i) (hbt : bt s (i : Int) < 128) :
    spec_l1TakeS.l0 (k + 3) s (b : Int) (mo : Int) n (i : Int) = some (if fitS (bt s (i : Int)) ((b : Int) - 7 * (i : Int)) = true then (n + sg7 (bt s (i : Int)) * 128 ^ i, ((i + 1 : Nat) : Int)) else (0, 0)) := by
  have hr := bt_rng s (i : Int)
  have hv := spec_val s b mo hs hb0 hb hmo i n (bt s (i : Int)) hi hn0 hn hr.1 (by omega)
  simp only [spec_l1TakeS.l0, spec_l1TakeS.j1, spec_l1TakeS.j2]
  rw [if_pos (by omega), decide_eq_true (by omega), if_pos rfl, if_pos (by omega), if_pos (by omega), if_pos (wrap_u64_range _).1, if_neg (by omega), u8_and127 hr.1 hr.2, show bt s (i : Int) % 128 = bt s (i : Int) by omega, wu64 (n := bt s (i : Int)) (by omega) (by omega), w64 (n := 7 * (i : Int)) (by omega) (by omega), wu64 (n := 7 * (i : Int)) (by omega) (by omega), show (7 * (i : Int)) = ((7 * i : Nat) : Int) by omega, w64 (n := (b : Int) - ((7 * i : Nat) : Int)) (by omega) (by omega), w64 (n := (i : Int) + 1) (by omega) (by omega), w64 (n := (b : Int) - ((7 * i : Nat) : Int) - 1) (by omega) (by omega)]
  rw [show (7 * (i : Int)) = ((7 * i : Nat) : Int) by omega] at hv
  generalize hlow : bt s (i : Int) = low at *
  by_cases c7 : (b : Int) - ((7 * i : Nat) : Int) < 7
  · have hfit := (shr_fit (low := low) (r := (b : Int) - ((7 * i : Nat) : Int)) hr.1 (by omega) (by omega) c7).2
    rw [if_pos c7, wu64 (n := (b : Int) - ((7 * i : Nat) : Int) - 1) (by omega) (by omega), if_pos (by omega)]
    by_cases z : shr .u64 low ((b : Int) - ((7 * i : Nat) : Int) - 1) = 0
    · have hf : fitS low ((b : Int) - ((7 * i : Nat) : Int)) = true := by rw [hfit, z]; rfl
      rw [if_pos z, if_neg (by decide), hf, if_pos rfl]
      exact hv hf
    · rw [if_neg z]
      by_cases z2 : shr .u64 low ((b : Int) - ((7 * i : Nat) : Int) - 1) = shr .u64 127 ((b : Int) - ((7 * i : Nat) : Int) - 1)
      · have hf : fitS low ((b : Int) - ((7 * i : Nat) : Int)) = true := by rw [hfit, z2]; simp
        rw [show (shr .u64 low ((b : Int) - ((7 * i : Nat) : Int) - 1) != shr .u64 127 ((b : Int) - ((7 * i : Nat) : Int) - 1)) = false from by rw [z2]; simp, if_neg (by decide), hf, if_pos rfl]
        exact hv hf
      · have hf : fitS low ((b : Int) - ((7 * i : Nat) : Int)) = false := by rw [hfit, beq_eq_false_iff_ne.2 z, beq_eq_false_iff_ne.2 z2]; rfl
        rw [bne_iff_ne.2 z2, if_pos rfl, hf, if_neg (by decide)]
  · have hf : fitS low ((b : Int) - ((7 * i : Nat) : Int)) = true := by unfold fitS; rw [decide_eq_true (by omega)]; rfl
    rw [if_neg c7, hf, if_pos rfl]
    exact hv hf
end
end Go.Proofs.Ytmmlgkepnjelnaa.Leb
