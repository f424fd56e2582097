/- Numbers in as many bytes as they need: what is written, and that it is read back. -/
import Derived.Test.YtdckgbmonojdaaaMb
import Derived.Test.YtdckgbmonojdaaaQx2
namespace Go.Proofs.Ytdckgbmonojdaaa.Leb
open Go.RowKit Go.Proofs.Ytdckgbmonojdaaa.Q Go.Proofs.YtdckgbmonojdaaaW.PrintWords Go.Proofs.YtdckgbmonojdaaaW.PrintLast Go.Proofs.YtdckgbmonojdaaaW.PrintMore Go.Proofs.Ytdckgbmonojdaaa.Mb
set_option linter.unusedSimpArgs false
set_option linter.unusedVariables false

/-! bits of bytes and of signed numbers -/
theorem u8_and127 {b : Int} (h0 : 0 ≤ b) (h1 : b ≤ 255) : Go.bits .and .u8 b 127 = b % 128 := by
  have h : ∀ n : Fin 256, Go.bits .and .u8 ((n.val : Nat) : Int) 127 = ((n.val : Nat) : Int) % 128 := by decide +kernel
  obtain ⟨b, rfl⟩ := Int.eq_ofNat_of_zero_le h0
  exact h ⟨b, by omega⟩
theorem u8_or128 {b : Int} (h0 : 0 ≤ b) (h1 : b ≤ 255) : Go.bits .or .u8 b 128 = b % 128 + 128 := by
  have h : ∀ n : Fin 256, Go.bits .or .u8 ((n.val : Nat) : Int) 128 = ((n.val : Nat) : Int) % 128 + 128 := by decide +kernel
  obtain ⟨b, rfl⟩ := Int.eq_ofNat_of_zero_le h0
  exact h ⟨b, by omega⟩
theorem u64_and127 {x : Int} (h0 : 0 ≤ x) (h1 : x ≤ 18446744073709551615) : Go.bits .and .u64 x 127 = x % 128 := u64_mask 7 (by decide) x h0 (by omega)
theorem ofInt_mod (x : Int) : BitVec.ofInt 64 x = BitVec.ofInt 64 (x % 18446744073709551616) := by
  apply BitVec.eq_of_toInt_eq
  rw [BitVec.toInt_ofInt, BitVec.toInt_ofInt]
  have h := Int.emod_bmod x 18446744073709551616
  exact h.symm
theorem and_i64 (x y : Int) : Go.bits .and .i64 x y = wrap64 (Go.bits .and .u64 (x % 18446744073709551616) (y % 18446744073709551616)) := by
  have e1 : (IntKind.i64).bits = 64 := rfl
  have e2 : (IntKind.u64).bits = 64 := rfl
  show IntKind.i64.wrap (((BitVec.ofInt 64 x &&& BitVec.ofInt 64 y).toNat : Nat) : Int) = wrap64 (IntKind.u64.wrap (((BitVec.ofInt 64 (x % 18446744073709551616) &&& BitVec.ofInt 64 (y % 18446744073709551616)).toNat : Nat) : Int))
  rw [← ofInt_mod x, ← ofInt_mod y, IntKind.wrap_i64, wrap_u64]
  unfold wrap64
  omega
theorem or_i64 (x y : Int) : Go.bits .or .i64 x y = wrap64 (Go.bits .or .u64 (x % 18446744073709551616) (y % 18446744073709551616)) := by
  have e1 : (IntKind.i64).bits = 64 := rfl
  have e2 : (IntKind.u64).bits = 64 := rfl
  show IntKind.i64.wrap (((BitVec.ofInt 64 x ||| BitVec.ofInt 64 y).toNat : Nat) : Int) = wrap64 (IntKind.u64.wrap (((BitVec.ofInt 64 (x % 18446744073709551616) ||| BitVec.ofInt 64 (y % 18446744073709551616)).toNat : Nat) : Int))
  rw [← ofInt_mod x, ← ofInt_mod y, IntKind.wrap_i64, wrap_u64]
  unfold wrap64
  omega
theorem i64_and127 (x : Int) : Go.bits .and .i64 x 127 = x % 128 := by
  rw [and_i64, show (127 : Int) % 18446744073709551616 = 127 by decide, u64_and127 (by omega) (by omega), w64 (by omega) (by omega)]
  omega
/-- A multiple of 2^j, of any sign, and what is below 2^j. -/
theorem i64_join (j : Nat) (hj : j ≤ 63) (x y : Int) (hx0 : 0 ≤ x) (hx : x < 2 ^ j) (hy : y % 2 ^ j = 0) (hy0 : -9223372036854775808 ≤ y) (hy1 : y ≤ 9223372036854775807) : Go.bits .or .i64 x y = x + y := by
  have hp : (2 : Int) ^ j ≤ 9223372036854775808 := by
    have := two_pow_lt hj
    have e : ((2 ^ j : Nat) : Int) = (2 : Int) ^ j := by rw [Int.natCast_pow]; rfl
    omega
  have hd : (2 : Int) ^ j ∣ 18446744073709551616 := ⟨2 ^ (64 - j), by rw [← Int.pow_add, show j + (64 - j) = 64 by omega]; decide⟩
  rw [or_i64, Int.emod_eq_of_lt hx0 (by omega), bits_or_comm, u64_join j (y % 18446744073709551616) x (by omega) (by rw [Int.emod_emod_of_dvd _ hd]; exact hy) (by omega) hx0 hx (by omega)]
  have hs : -9223372036854775808 ≤ x + y ∧ x + y ≤ 9223372036854775807 := by
    obtain ⟨t, ht⟩ := Int.dvd_of_emod_eq_zero hy
    have h2 : (2 : Int) ^ j * t + 2 ^ j ≤ 9223372036854775808 := by
      obtain ⟨u, hu⟩ : (2 : Int) ^ j ∣ 9223372036854775808 := ⟨2 ^ (63 - j), by rw [← Int.pow_add, show j + (63 - j) = 63 by omega]; decide⟩
      have hpos : (0 : Int) < 2 ^ j := Int.pow_pos (by decide)
      have h3 : t < u := by
        refine Int.lt_of_mul_lt_mul_left (a := 2 ^ j) ?_ (Int.le_of_lt hpos)
        omega
      have h4 : (2 : Int) ^ j * (t + 1) ≤ 2 ^ j * u := Int.mul_le_mul_of_nonneg_left (by omega) (Int.le_of_lt hpos)
      rw [Int.mul_add, Int.mul_one] at h4
      omega
    omega
  unfold wrap64
  omega

/-! texts and their bytes -/
theorem bt_str (xs : List Int) (i : Nat) (hi : i < xs.length) (h0 : 0 ≤ xs.getD i 0) (h1 : xs.getD i 0 ≤ 255) : bt (strOfNums xs) (i : Int) = xs.getD i 0 := by
  unfold bt
  have hs : (i : Int).toNat < (strOfNums xs).size := by rw [Int.toNat_natCast, strOfNums_size]; exact hi
  rw [dif_pos hs]
  have e : (strOfNums xs)[(i : Int).toNat]'hs = UInt8.ofNat (xs.getD i 0).toNat := by
    simp only [Int.toNat_natCast, strOfNums, ByteArray.getElem_eq_getElem_data, List.getElem_toArray, List.getElem_map, List.getD_eq_getElem?_getD, List.getElem?_eq_getElem hi, Option.getD_some]
  rw [e]
  generalize xs.getD i 0 = x at *
  obtain ⟨x, rfl⟩ := Int.eq_ofNat_of_zero_le h0
  rw [Int.toNat_natCast, UInt8.toNat_ofNat']
  omega
theorem bt_rng (s : ByteArray) (i : Int) : 0 ≤ bt s i ∧ bt s i ≤ 255 := by
  unfold bt
  split
  · rename_i h
    have := (s[i.toNat]'h).toNat_lt
    omega
  · omega
theorem bt_append (a b : ByteArray) (i : Nat) (h : i < a.size) : bt (a ++ b) (i : Int) = bt a (i : Int) := by
  unfold bt
  have h1 : (i : Int).toNat < a.size := by rw [Int.toNat_natCast]; exact h
  have h2 : (i : Int).toNat < (a ++ b).size := by rw [ByteArray.size_append]; omega
  rw [dif_pos h1, dif_pos h2]
  congr 2
  exact ByteArray.getElem_append_left h1
/-- These bytes stand in a text from place i on. -/
def At (s : ByteArray) (i : Nat) : List Int → Prop
  | [] => True
  | x :: xs => bt s (i : Int) = x ∧ i < s.size ∧ At s (i + 1) xs
def B8 (xs : List Int) : Prop := ∀ x ∈ xs, 0 ≤ x ∧ x ≤ 255
theorem At_of (s : ByteArray) (ys : List Int) : ∀ (xs : List Int) (i : Nat), (∀ j, j < xs.length → bt s ((i + j : Nat) : Int) = xs.getD j 0) → i + xs.length ≤ s.size → At s i xs := by
  intro xs
  induction xs with
  | nil => intro i _ _; trivial
  | cons x xs ih =>
    intro i h hs
    rw [List.length_cons] at hs
    refine ⟨h 0 (by simp), by omega, ih (i + 1) (fun j hj => ?_) (by omega)⟩
    have := h (j + 1) (by simpa using hj)
    rw [show i + (j + 1) = i + 1 + j by omega] at this
    rw [this]; rfl
/-- What was made out of bytes, and anything behind it. -/
theorem At_str (xs : List Int) (hb : B8 xs) (more : ByteArray) : At (strOfNums xs ++ more) 0 xs := by
  refine At_of _ xs xs 0 (fun j hj => ?_) ?_
  · have hm : xs.getD j 0 ∈ xs := by
      rw [List.getD_eq_getElem?_getD, List.getElem?_eq_getElem hj]; exact List.getElem_mem hj
    have := hb _ hm
    rw [Nat.zero_add, bt_append _ _ _ (by rw [strOfNums_size]; exact hj), bt_str xs j hj this.1 this.2]
  · rw [ByteArray.size_append, strOfNums_size]; omega

/-! numbers without sign -/
def ul : Nat → Int → List Int
  | 0, n => [n]
  | f + 1, n => if n ≥ 128 then (n % 128 + 128) :: ul f (n / 128) else [n]
theorem ul_ge {f : Nat} {n : Int} (h : n ≥ 128) : ul (f + 1) n = (n % 128 + 128) :: ul f (n / 128) := by simp only [ul]; rw [if_pos h]
theorem ul_lt {f : Nat} {n : Int} (h : ¬ n ≥ 128) : ul (f + 1) n = [n] := by simp only [ul]; rw [if_neg h]
theorem ul_b8 (f : Nat) : ∀ n : Int, 0 ≤ n → n < 128 ^ (f + 1) → B8 (ul f n) := by
  induction f with
  | zero =>
    intro n h0 h1 x hx
    rw [Int.pow_succ, Int.pow_zero] at h1
    simp only [ul, List.mem_singleton] at hx
    subst hx; omega
  | succ f ih =>
    intro n h0 h1 x hx
    unfold ul at hx
    rw [Int.pow_succ] at h1
    split at hx
    · rcases List.mem_cons.1 hx with rfl | hx
      · omega
      · exact ih (n / 128) (by omega) (by omega) x hx
    · simp only [List.mem_singleton] at hx
      subst hx; omega
theorem impl_ul_l0 (f : Nat) : ∀ (k : Nat) (n : Int) (acc : List Int), f < k → 0 ≤ n → n < 128 ^ (f + 1) → acc.length + f ≤ 1000 → impl_UlebBytes.l0 k n acc = some (strOfNums (acc ++ ul f n)) := by
  induction f with
  | zero =>
    intro k n acc hk h0 h1 ha
    obtain ⟨k, rfl⟩ : ∃ j, k = j + 1 := ⟨k - 1, by omega⟩
    rw [Int.pow_succ, Int.pow_zero] at h1
    simp only [impl_UlebBytes.l0, ul]
    rw [if_neg (by omega), if_pos (by omega), show n % 256 = n by omega]
  | succ f ih =>
    intro k n acc hk h0 h1 ha
    obtain ⟨k, rfl⟩ : ∃ j, k = j + 1 := ⟨k - 1, by omega⟩
    rw [Int.pow_succ] at h1
    simp only [impl_UlebBytes.l0, ul]
    by_cases c : n ≥ 128
    · rw [if_pos c, if_pos c, if_pos (by omega), u8_or128 (by omega) (by omega), show n % 256 % 128 + 128 = n % 128 + 128 by omega, ih k (n / 128) _ (by omega) (by omega) (by omega) (by simp; omega), List.append_assoc]
      rfl
    · rw [if_neg c, if_neg c, if_pos (by omega), show n % 256 = n by omega]
theorem spec_ul_l0 (f : Nat) : ∀ (k : Nat) (n : Int) (acc : List Int), f < k → 0 ≤ n → n ≤ 18446744073709551615 → n < 128 ^ (f + 1) → acc.length + f ≤ 1000 → spec_l1Uleb.l0 k n acc = some (strOfNums (acc ++ ul f n)) := by
  induction f with
  | zero =>
    intro k n acc hk h0 _ h1 ha
    obtain ⟨k, rfl⟩ : ∃ j, k = j + 1 := ⟨k - 1, by omega⟩
    rw [Int.pow_succ, Int.pow_zero] at h1
    simp only [spec_l1Uleb.l0, ul]
    rw [if_neg (by omega), if_pos (by omega), show n % 256 = n by omega]
  | succ f ih =>
    intro k n acc hk h0 h64 h1 ha
    obtain ⟨k, rfl⟩ : ∃ j, k = j + 1 := ⟨k - 1, by omega⟩
    rw [Int.pow_succ] at h1
    simp only [spec_l1Uleb.l0, ul]
    by_cases c : n ≥ 128
    · rw [if_pos c, if_pos (by omega), if_pos (by omega), u64_and127 h0 h64, bits_or_comm, u64_join 7 128 (n % 128) (by decide) (by decide) (by decide) (by omega) (by omega) (by omega), show (128 + n % 128) % 256 = n % 128 + 128 by omega, ih k (n / 128) _ (by omega) (by omega) (by omega) (by omega) (by simp; omega), List.append_assoc]
      rfl
    · rw [if_neg c, if_neg (by omega), if_pos (by omega), show n % 256 = n by omega]
theorem p128_10 : (18446744073709551615 : Int) < 128 ^ (9 + 1) := by decide
/-- The bytes of a number of 64 bits. -/
def U (n : Int) : List Int := ul 9 n
theorem impl_U (k : Nat) (hk : 10 ≤ k) (n : Int) (h0 : 0 ≤ n) (h1 : n ≤ 18446744073709551615) : impl_UlebBytes.f k n = some (strOfNums (U n)) := by
  unfold impl_UlebBytes.f
  rw [impl_ul_l0 9 k n [] (by omega) h0 (Int.lt_of_le_of_lt h1 p128_10) (by simp)]
  rfl
theorem spec_U (k : Nat) (hk : 10 ≤ k) (n : Int) (h0 : 0 ≤ n) (h1 : n ≤ 18446744073709551615) : spec_l1Uleb.f k n = some (strOfNums (U n)) := by
  unfold spec_l1Uleb.f
  rw [spec_ul_l0 9 k n [] (by omega) h0 h1 (Int.lt_of_le_of_lt h1 p128_10) (by simp)]
  rfl
theorem U_b8 (n : Int) (h0 : 0 ≤ n) (h1 : n ≤ 18446744073709551615) : B8 (U n) := ul_b8 9 n h0 (Int.lt_of_le_of_lt h1 p128_10)
/-- As few as can be. -/
theorem ul_len (f : Nat) : ∀ n : Int, 0 ≤ n → n < 128 ^ (f + 1) → 1 ≤ (ul f n).length ∧ (ul f n).length ≤ f + 1 ∧ n < 128 ^ (ul f n).length ∧ (1 < (ul f n).length → 128 ^ ((ul f n).length - 1) ≤ n) := by
  induction f with
  | zero =>
    intro n h0 h1
    rw [show (ul 0 n).length = 1 from rfl]
    exact ⟨by omega, by omega, h1, fun h => absurd h (by decide)⟩
  | succ f ih =>
    intro n h0 h1
    rw [Int.pow_succ] at h1
    unfold ul
    by_cases c : n ≥ 128
    · rw [if_pos c]
      obtain ⟨a, b, d, e⟩ := ih (n / 128) (by omega) (by omega)
      simp only [List.length_cons]
      generalize (ul f (n / 128)).length = L at *
      refine ⟨by omega, by omega, ?_, fun _ => ?_⟩
      · rw [Int.pow_succ]; omega
      · rw [show L + 1 - 1 = L by omega]
        obtain ⟨L, rfl⟩ : ∃ j, L = j + 1 := ⟨L - 1, by omega⟩
        by_cases c2 : 1 < L + 1
        · have := e c2
          rw [show L + 1 - 1 = L by omega] at this
          rw [Int.pow_succ]; omega
        · obtain rfl : L = 0 := by omega
          rw [Int.pow_succ, Int.pow_zero]; omega
    · rw [if_neg c]
      simp only [List.length_singleton]
      refine ⟨by omega, by omega, ?_, fun h => absurd h (by decide)⟩
      rw [Int.pow_succ, Int.pow_zero]; omega
theorem pow128 (i : Nat) : (128 : Int) ^ i = 2 ^ (7 * i) := by rw [Int.pow_mul]; rfl
/-- One byte more. -/
theorem acc_u (n low : Int) (i : Nat) (hn0 : 0 ≤ n) (hn : n < 128 ^ i) (hl0 : 0 ≤ low) (hl : low ≤ 127) (hb : low * 128 ^ i < 18446744073709551616) (hi : i ≤ 9) : Go.bits .or .u64 n (shl .u64 low ((7 * i : Nat) : Int)) = n + low * 128 ^ i := by
  have hp : (128 : Int) ^ i ≤ 128 ^ 9 := pow_le_pow 128 (by decide) hi
  have h9 : (128 : Int) ^ 9 = 9223372036854775808 := by decide
  have hp0 : (0 : Int) < 128 ^ i := Int.pow_pos (by decide)
  have hm0 : 0 ≤ low * 128 ^ i := Int.mul_nonneg hl0 (Int.le_of_lt hp0)
  rw [shl_u64 _ _ (7 * i) rfl (by omega), ← pow128, Int.emod_eq_of_lt hm0 hb, bits_or_comm, u64_join (7 * i) _ n hm0 (by rw [← pow128]; exact Int.mul_emod_left _ _) hb hn0 (by rw [← pow128]; exact hn) (by omega)]
  omega
/-- What was written is read, whatever stands behind it. -/
theorem take_u (f : Nat) : ∀ (k : Nat) (s : ByteArray) (i : Nat) (n m : Int), 3 * f + 3 ≤ k → i + f ≤ 9 → s.size ≤ 1000000000 → 0 ≤ n → n < 128 ^ i → 0 ≤ m → m < 128 ^ (f + 1) → n + m * 128 ^ i ≤ 18446744073709551615 → At s i (ul f m) →
    impl_TakeUleb.l0 k s 64 n (i : Int) = some (n + m * 128 ^ i, ((i + (ul f m).length : Nat) : Int)) := by
  induction f with
  | zero =>
    intro k s i n m hk hi hs hn0 hn hm0 hm hb hat
    obtain ⟨k, rfl⟩ : ∃ j, k = j + 3 := ⟨k - 3, by omega⟩
    rw [Int.pow_succ, Int.pow_zero] at hm
    obtain ⟨hbt, hsz, -⟩ := hat
    have hp0 : (0 : Int) < 128 ^ i := Int.pow_pos (by decide)
    have hmax : wrap64 (Int.tdiv (wrap64 (64 + 6)) 7) = 10 := by decide +kernel
    simp only [impl_TakeUleb.l0, impl_TakeUleb.j2, impl_TakeUleb.j3]
    rw [if_pos (by omega), hmax, decide_eq_true (by omega), if_pos rfl, if_pos (by omega), if_pos (by omega), hbt, u8_and127 hm0 (by omega), show m % 128 = m by omega, wu64 hm0 (by omega), w64 (n := 7 * (i : Int)) (by omega) (by omega), w64 (n := 64 - 7 * (i : Int)) (by omega) (by omega)]
    have fin : (if 0 ≤ 7 * (i : Int) then if 0 ≤ (i : Int) then if (i : Int) < (s.size : Int) then if m < 128 then some (Go.bits .or .u64 n (shl .u64 m (7 * (i : Int))), wrap64 ((i : Int) + 1)) else impl_TakeUleb.l0 k s 64 (Go.bits .or .u64 n (shl .u64 m (7 * (i : Int)))) (wrap64 ((i : Int) + 1)) else none else none else none) = some (n + m * 128 ^ i, ((i + 1 : Nat) : Int)) := by
      rw [if_pos (by omega), if_pos (by omega), if_pos (by omega), if_pos (by omega), w64 (n := (i : Int) + 1) (by omega) (by omega), show (7 * (i : Int)) = ((7 * i : Nat) : Int) by omega, acc_u n m i hn0 hn hm0 (by omega) (by omega) (by omega)]
      congr 2
    by_cases c : 64 - 7 * (i : Int) < 7
    · have hi9 : i = 9 := by omega
      subst hi9
      have h9 : (128 : Int) ^ 9 = 9223372036854775808 := by decide
      rw [if_pos c, if_pos (by omega), shr_u64 m _ 1 (by decide) (by decide)]
      have hm1 : m ≤ 1 := by rw [h9] at hb; omega
      have e0 : (m / 2 ^ 1 != 0) = false := by
        rw [show (2 : Int) ^ 1 = 2 by decide, show m / 2 = 0 by omega]; rfl
      rw [e0, if_neg (by decide)]
      exact fin
    · rw [if_neg c, if_neg (by decide)]
      exact fin
  | succ f ih =>
    intro k s i n m hk hi hs hn0 hn hm0 hm hb hat
    have hp0 : (0 : Int) < 128 ^ i := Int.pow_pos (by decide)
    by_cases c : m ≥ 128
    · unfold ul at hat
      rw [if_pos c] at hat
      obtain ⟨hbt, hsz, hrest⟩ := hat
      obtain ⟨k, rfl⟩ : ∃ j, k = j + 3 := ⟨k - 3, by omega⟩
      rw [Int.pow_succ] at hm
      have hmax : wrap64 (Int.tdiv (wrap64 (64 + 6)) 7) = 10 := by decide +kernel
      simp only [impl_TakeUleb.l0, impl_TakeUleb.j2, impl_TakeUleb.j3]
      rw [if_pos (by omega), hmax, decide_eq_true (by omega), if_pos rfl, if_pos (by omega), if_pos (by omega), hbt, u8_and127 (by omega) (by omega), show (m % 128 + 128) % 128 = m % 128 by omega, wu64 (n := m % 128) (by omega) (by omega), w64 (n := 7 * (i : Int)) (by omega) (by omega), w64 (n := 64 - 7 * (i : Int)) (by omega) (by omega), if_neg (by omega), if_neg (by decide)]
      have hsplit : m * 128 ^ i = m % 128 * 128 ^ i + m / 128 * 128 ^ (i + 1) := by
        have : m = m % 128 + m / 128 * 128 := by omega
        conv => lhs; rw [this]
        rw [Int.add_mul, Int.pow_succ, Int.mul_assoc (m / 128) 128, Int.mul_comm 128]
      have hq0 : 0 ≤ m / 128 * 128 ^ (i + 1) := Int.mul_nonneg (by omega) (Int.le_of_lt (Int.pow_pos (by decide)))
      have hr0 : 0 ≤ m % 128 * 128 ^ i := Int.mul_nonneg (by omega) (Int.le_of_lt hp0)
      have hr1 : m % 128 * 128 ^ i ≤ 127 * 128 ^ i := Int.mul_le_mul_of_nonneg_right (by omega) (Int.le_of_lt hp0)
      rw [if_pos (by omega), if_pos (by omega), if_pos (by omega), if_neg (by omega), w64 (n := (i : Int) + 1) (by omega) (by omega), show (7 * (i : Int)) = ((7 * i : Nat) : Int) by omega, acc_u n (m % 128) i hn0 hn (by omega) (by omega) (by omega) (by omega)]
      have := ih k s (i + 1) (n + m % 128 * 128 ^ i) (m / 128) (by omega) (by omega) hs (by omega) (by rw [Int.pow_succ]; omega) (by omega) (by omega) (by omega) hrest
      rw [show ((i : Int) + 1) = ((i + 1 : Nat) : Int) by omega, this]
      rw [ul_ge c, hsplit, List.length_cons, show n + m % 128 * 128 ^ i + m / 128 * 128 ^ (i + 1) = n + (m % 128 * 128 ^ i + m / 128 * 128 ^ (i + 1)) by omega, show i + 1 + (ul f (m / 128)).length = i + ((ul f (m / 128)).length + 1) by omega]
    · have hul : ul (f + 1) m = ul 0 m := ul_lt c
      rw [hul] at hat ⊢
      have hz : impl_TakeUleb.l0 k s 64 n (i : Int) = some (n + m * 128 ^ i, ((i + (ul 0 m).length : Nat) : Int)) := by
        obtain ⟨hbt, hsz, -⟩ := hat
        obtain ⟨k, rfl⟩ : ∃ j, k = j + 3 := ⟨k - 3, by omega⟩
        have hmax : wrap64 (Int.tdiv (wrap64 (64 + 6)) 7) = 10 := by decide +kernel
        simp only [impl_TakeUleb.l0, impl_TakeUleb.j2, impl_TakeUleb.j3]
        rw [if_pos (by omega), hmax, decide_eq_true (by omega), if_pos rfl, if_pos (by omega), if_pos (by omega), hbt, u8_and127 hm0 (by omega), show m % 128 = m by omega, wu64 hm0 (by omega), w64 (n := 7 * (i : Int)) (by omega) (by omega), w64 (n := 64 - 7 * (i : Int)) (by omega) (by omega), if_neg (by omega), if_neg (by decide)]
        rw [if_pos (by omega), if_pos (by omega), if_pos (by omega), if_pos (by omega), w64 (n := (i : Int) + 1) (by omega) (by omega), show (7 * (i : Int)) = ((7 * i : Nat) : Int) by omega, acc_u n m i hn0 hn hm0 (by omega) (by omega) (by omega)]
        rfl
      exact hz
theorem take_U (k : Nat) (hk : 40 ≤ k) (n : Int) (h0 : 0 ≤ n) (h1 : n ≤ 18446744073709551615) (more : ByteArray) (hm : more.size ≤ 1000000) : impl_TakeUleb.f k (strOfNums (U n) ++ more) 64 = some (n, ((U n).length : Int)) := by
  obtain ⟨k, rfl⟩ : ∃ j, k = j + 1 := ⟨k - 1, by omega⟩
  have hl := ul_len 9 n h0 (Int.lt_of_le_of_lt h1 p128_10)
  unfold impl_TakeUleb.f
  rw [if_neg (by decide), show decide ((64 : Int) > 64) = false from by decide]
  simp only [impl_TakeUleb.j0]
  rw [if_neg (by decide)]
  have := take_u 9 k (strOfNums (U n) ++ more) 0 0 n (by omega) (by omega) (by rw [ByteArray.size_append, strOfNums_size]; unfold U; omega) (by decide) (by decide) h0 (Int.lt_of_le_of_lt h1 p128_10) (by rw [Int.pow_zero]; omega) (At_str (U n) (U_b8 n h0 h1) more)
  rw [Int.pow_zero, Int.mul_one, Int.zero_add, Nat.zero_add] at this
  exact this
end Go.Proofs.Ytdckgbmonojdaaa.Leb
