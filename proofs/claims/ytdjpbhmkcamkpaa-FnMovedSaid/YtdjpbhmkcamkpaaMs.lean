/- Memories: what is stored in them. -/
import Derived.Test.YtdjpbhmkcamkpaaMl
import Derived.Test.YtdjpbhmkcamkpaaQx7
namespace Go.Proofs.Ytdjpbhmkcamkpaa.Mem
open Go.RowKit Go.Proofs.Ytdjpbhmkcamkpaa.Q Go.Proofs.YtdjpbhmkcamkpaaW.PrintWords Go.Proofs.YtdjpbhmkcamkpaaW.PrintLast Go.Proofs.YtdjpbhmkcamkpaaW.PrintMore Go.Proofs.Ytdjpbhmkcamkpaa.Mb
set_option linter.unusedSimpArgs false
set_option linter.unusedVariables false

/-! bytes as lists -/
theorem ba_ext {a b : ByteArray} (h : a.data.toList = b.data.toList) : a = b := by
  cases a; cases b
  simp only [ByteArray.mk.injEq]
  exact Array.toList_inj.1 h
theorem tl_append (a b : ByteArray) : (a ++ b).data.toList = a.data.toList ++ b.data.toList := by
  rw [ByteArray.data_append, Array.toList_append]
theorem tl_extract (a : ByteArray) (i j : Nat) : (a.extract i j).data.toList = (a.data.toList.take j).drop i := by
  rw [ByteArray.data_extract, Array.toList_extract, List.extract_eq_take_drop, List.drop_take]
theorem tl_size (a : ByteArray) : a.data.toList.length = a.size := Array.length_toList

/-- A memory's bytes with s at a place. -/
def stD (d : ByteArray) (a : Nat) (s : ByteArray) : ByteArray := (d.extract 0 a ++ s) ++ d.extract (a + s.size) d.size
theorem stD_list (d : ByteArray) (a : Nat) (s : ByteArray) : (stD d a s).data.toList = (d.data.toList.take a ++ s.data.toList) ++ d.data.toList.drop (a + s.size) := by
  unfold stD
  rw [tl_append, tl_append, tl_extract, tl_extract, List.drop_zero, ← tl_size d, List.take_length]
section
variable (d : ByteArray) (a : Nat) (s : ByteArray) (h : a + s.size ≤ d.size)
include h
theorem stD_size : (stD d a s).size = d.size := by
  rw [← tl_size (stD d a s), stD_list]
  simp only [List.length_append, List.length_take, List.length_drop, tl_size]
  omega
theorem stD_mid : (stD d a s).extract a (a + s.size) = s := by
  refine ba_ext ?_
  rw [tl_extract, stD_list]
  have h1 : (d.data.toList.take a).length = a := by rw [List.length_take, tl_size]; omega
  have h2 : (d.data.toList.take a ++ s.data.toList).length = a + s.size := by rw [List.length_append, h1, tl_size]
  rw [List.take_left' h2, List.drop_left' h1]
theorem stD_front : (stD d a s).extract 0 a = d.extract 0 a := by
  refine ba_ext ?_
  rw [tl_extract, tl_extract, stD_list, List.drop_zero, List.drop_zero, List.append_assoc]
  have h1 : (d.data.toList.take a).length = a := by rw [List.length_take, tl_size]; omega
  rw [List.take_left' h1]
theorem stD_back : (stD d a s).extract (a + s.size) (stD d a s).size = d.extract (a + s.size) d.size := by
  refine ba_ext ?_
  rw [tl_extract, tl_extract, ← tl_size (stD d a s), List.take_length, ← tl_size d, List.take_length, stD_list]
  have h1 : (d.data.toList.take a).length = a := by rw [List.length_take, tl_size]; omega
  have h2 : (d.data.toList.take a ++ s.data.toList).length = a + s.size := by rw [List.length_append, h1, tl_size]
  rw [List.drop_left' h2]
end
theorem with_ok (m : Int) (d : ByteArray) (a : Nat) (s : ByteArray) (h : a + s.size ≤ d.size) (hd : d.size ≤ 1000000000) : impl_Memory_with.f m d (a : Int) s = some (m, stD d a s) := by
  unfold impl_Memory_with.f
  rw [w64 (n := (a : Int) + (s.size : Int)) (by omega) (by omega)]
  have e1 : ((a : Int)).toNat = a := Int.toNat_natCast a
  have e2 : ((a : Int) + (s.size : Int)).toNat = a + s.size := by omega
  rw [e1, e2, if_pos (by omega), if_pos (by omega)]
  have h1 : (d.extract 0 a).size + s.size ≤ 9223372036854775807 := by rw [ByteArray.size_extract]; omega
  rw [if_pos h1, if_pos (by omega), if_pos (by omega)]
  have h2 : (d.extract 0 a ++ s).size + (d.extract (a + s.size) d.size).size ≤ 9223372036854775807 := by rw [ByteArray.size_append, ByteArray.size_extract, ByteArray.size_extract]; omega
  rw [if_pos h2]
  rfl
theorem store_same : spec_l5Store.f = impl_Memory_with.f := by funext a b c d; unfold spec_l5Store.f impl_Memory_with.f; rfl
/-- What a store tells: the memory then, and a code. -/
def stB (m : Int) (d : ByteArray) (at_ : Int) (s : ByteArray) : ByteArray × Int :=
  if gm m d = true ∧ 0 ≤ at_ then (if at_ + (s.size : Int) ≤ (d.size : Int) then (stD d at_.toNat s, 0) else (d, 2)) else (d, 1)
theorem within_ok (m : Int) (d : ByteArray) (a n : Int) (h0 : 0 ≤ a) (hd : d.size ≤ 1000000000) (hn : 0 ≤ n) : impl_Memory_within.f m d a n = some (decide (a + n ≤ (d.size : Int))) := by
  unfold impl_Memory_within.f
  by_cases h : a ≤ (d.size : Int)
  · rw [if_pos h, w64 (by omega) (by omega)]
    congr 1
    rw [Bool.eq_iff_iff]; simp; omega
  · rw [if_neg h]; congr 1; symm; simp; omega
theorem impl_stB (k : Nat) (m : Int) (d : ByteArray) (at_ : Int) (s : ByteArray) (hd : d.size ≤ 1000000000) (hs : s.size ≤ 1000000000) : ∃ m' d', impl_StoreBytes.f (k + 1) m d at_ s = some (m', d', (stB m d at_ s).2) ∧ ((stB m d at_ s).2 = 0 → m' = m ∧ d' = (stB m d at_ s).1) := by
  unfold impl_StoreBytes.f stB
  rw [impl_gm]
  simp only [Option.bind_some, impl_StoreBytes.j0, impl_orZero.f, impl_gm]
  by_cases hg : gm m d = true
  · rw [hg]
    simp only [if_true, true_and]
    by_cases h1 : at_ < 0
    · rw [decide_eq_true h1, if_pos rfl, if_neg (by omega)]
      exact ⟨m, d, rfl, fun h => by simp at h⟩
    · rw [decide_eq_false h1, if_neg (by decide), if_pos (show 0 ≤ at_ by omega), within_ok m d at_ _ (by omega) hd (by omega)]
      simp only [Option.bind_some]
      by_cases h2 : at_ + (s.size : Int) ≤ (d.size : Int)
      · rw [decide_eq_true h2, if_pos rfl, if_pos h2]
        obtain ⟨a, rfl⟩ := Int.eq_ofNat_of_zero_le (show 0 ≤ at_ by omega)
        rw [with_ok m d a s (by omega) hd]
        exact ⟨m, _, rfl, fun _ => ⟨rfl, rfl⟩⟩
      · rw [decide_eq_false h2, if_neg (by decide), if_neg h2]
        exact ⟨m, d, rfl, fun h => by simp at h⟩
  · have hg' : gm m d = false := by simpa using hg
    rw [hg']
    simp only [Bool.false_eq_true, if_false, false_and, if_true]
    exact ⟨_, _, rfl, fun h => by simp at h⟩
theorem spec_stB (m : Int) (d : ByteArray) (at_ : Int) (s : ByteArray) (hd : d.size ≤ 1000000000) (hs : s.size ≤ 1000000000) : ∃ m' d', spec_StoreBytes.f m d at_ s = some (m', d', (stB m d at_ s).2) ∧ d'.size ≤ d.size := by
  unfold spec_StoreBytes.f stB
  rw [spec_gm]
  simp only [Option.bind_some]
  by_cases hg : gm m d = true
  · rw [hg]
    simp only [if_true, true_and]
    by_cases h1 : at_ < 0
    · rw [if_pos h1, if_neg (by omega)]
      exact ⟨m, d, rfl, Nat.le_refl _⟩
    · rw [if_neg h1, if_pos (show 0 ≤ at_ by omega), show spec_l5Inside.f = impl_Memory_within.f from rfl, within_ok m d at_ _ (by omega) hd (by omega)]
      simp only [Option.bind_some]
      by_cases h2 : at_ + (s.size : Int) ≤ (d.size : Int)
      · rw [decide_eq_true h2, if_pos rfl, if_pos h2]
        obtain ⟨a, rfl⟩ := Int.eq_ofNat_of_zero_le (show 0 ≤ at_ by omega)
        rw [store_same, with_ok m d a s (by omega) hd]
        exact ⟨m, _, rfl, by rw [stD_size d a s (by omega)]; exact Nat.le_refl _⟩
      · rw [decide_eq_false h2, if_neg (by decide), if_neg h2]
        exact ⟨m, d, rfl, Nat.le_refl _⟩
  · have hg' : gm m d = false := by simpa using hg
    rw [hg']
    simp only [Bool.false_eq_true, if_false, false_and]
    exact ⟨_, _, rfl, Nat.zero_le _⟩

/-! a number's bytes -/
theorem bt_str (xs : List Int) (i : Nat) (hi : i < xs.length) (h0 : 0 ≤ xs.getD i 0) (h1 : xs.getD i 0 ≤ 255) : bt (strOfNums xs) (i : Int) = xs.getD i 0 := by
  unfold bt
  have hs : (i : Int).toNat < (strOfNums xs).size := by rw [Int.toNat_natCast, strOfNums_size]; exact hi
  rw [dif_pos hs]
  have e : (strOfNums xs)[(i : Int).toNat]'hs = UInt8.ofNat (xs.getD i 0).toNat := by
    simp only [Int.toNat_natCast, strOfNums, ByteArray.getElem_eq_getElem_data, List.getElem_toArray, List.getElem_map, List.getD_eq_getElem?_getD, List.getElem?_eq_getElem hi, Option.getD_some]
  rw [e]
  generalize xs.getD i 0 = x at *
  obtain ⟨x, rfl⟩ := Int.eq_ofNat_of_zero_le h0
  rw [Int.toNat_natCast, UInt8.toNat_ofNat']
  omega
theorem inb_same (k : Nat) : ∀ (x : Int) (l : List Int) (n i : Int), 0 ≤ i → i ≤ 100 → 0 ≤ n → n ≤ 100 → spec_l5Bytes.l0 k x l n i = impl_inBytes.l0 k x l n i := by
  induction k with
  | zero => intros; rfl
  | succ k ih =>
    intro x l n i h0 h1 h2 h3
    simp only [spec_l5Bytes.l0, impl_inBytes.l0]
    by_cases c : i < n
    · rw [if_pos c, if_pos c, w64 (n := 8 * i) (by omega) (by omega), wu64 (by omega) (by omega), w64 (n := i + 1) (by omega) (by omega), ih _ _ _ _ (by omega) (by omega) h2 h3]
    · rw [if_neg c, if_neg c]
/-- Byte i of a number. -/
def byt (x : Int) (i : Nat) : Int := x / 256 ^ i % 256
theorem inb_l0 (x : Int) (hx0 : 0 ≤ x) (n : Nat) (hn : n ≤ 8) (d : Nat) : ∀ (k i : Nat) (l : List Int), d < k → i + d = n → l.length = n → (∀ j, j < i → l.getD j 0 = byt x j) →
    ∃ l', impl_inBytes.l0 k x l (n : Int) (i : Int) = some (strOfNums l') ∧ l'.length = n ∧ ∀ j, j < n → l'.getD j 0 = byt x j := by
  induction d with
  | zero =>
    intro k i l hk hi hl hj
    obtain ⟨k, rfl⟩ : ∃ j, k = j + 1 := ⟨k - 1, by omega⟩
    simp only [impl_inBytes.l0]
    rw [if_neg (by omega)]
    exact ⟨l, rfl, hl, fun j hj' => hj j (by omega)⟩
  | succ d ih =>
    intro k i l hk hi hl hj
    obtain ⟨k, rfl⟩ : ∃ j, k = j + 1 := ⟨k - 1, by omega⟩
    simp only [impl_inBytes.l0]
    rw [if_pos (by omega), w64 (n := 8 * (i : Int)) (by omega) (by omega), if_pos (by omega), if_pos (by omega), if_pos (by omega), w64 (n := (i : Int) + 1) (by omega) (by omega), shr_u64 _ _ (8 * i) (by omega) (by omega)]
    have e : x / 2 ^ (8 * i) % 256 = byt x i := by
      unfold byt
      rw [Int.pow_mul]; rfl
    rw [e, Int.toNat_natCast]
    obtain ⟨l', h1, h2, h3⟩ := ih k (i + 1) (l.set i (byt x i)) (by omega) (by omega) (by simpa using hl) (fun j hj' => by
      by_cases c : j = i
      · subst c
        rw [List.getD_eq_getElem?_getD, List.getElem?_set_self (by omega)]; rfl
      · rw [List.getD_eq_getElem?_getD, List.getElem?_set_ne (by omega), ← List.getD_eq_getElem?_getD]
        exact hj j (by omega))
    exact ⟨l', h1, h2, h3⟩
/-- The lowest n bytes of a number, as a text. -/
theorem inBytes_ok (x : Int) (hx0 : 0 ≤ x) (n : Nat) (hn : n ≤ 8) (k : Nat) (hk : 9 ≤ k) : ∃ s, impl_inBytes.f k x (n : Int) = some s ∧ spec_l5Bytes.f k x (n : Int) = some s ∧ s.size = n ∧ ∀ j, j < n → bt s (j : Int) = byt x j := by
  obtain ⟨l, h1, h2, h3⟩ := inb_l0 x hx0 n hn n k 0 (List.replicate n 0) (by omega) (by omega) (by simp) (fun j hj => by omega)
  have hr : ∀ j, 0 ≤ byt x j ∧ byt x j ≤ 255 := fun j => by unfold byt; omega
  refine ⟨strOfNums l, ?_, ?_, by rw [strOfNums_size, h2], fun j hj => ?_⟩
  · unfold impl_inBytes.f
    rw [if_pos (by omega), Int.toNat_natCast, if_pos (by omega)]
    simp only [Option.bind_some, List.length_replicate]
    exact h1
  · unfold spec_l5Bytes.f
    rw [if_pos (by omega), Int.toNat_natCast, if_pos (by omega)]
    simp only [Option.bind_some, List.length_replicate]
    rw [inb_same k _ _ _ _ (by omega) (by omega) (by omega) (by omega)]
    exact h1
  · have := hr j
    rw [bt_str l j (by omega) (by rw [h3 j hj]; omega) (by rw [h3 j hj]; omega), h3 j hj]
theorem low_bytes (s : ByteArray) (x : Int) (hx : 0 ≤ x) (d : Nat) (h : ∀ j, j < d → bt s (j : Int) = byt x j) : low s d = x % 256 ^ d := by
  induction d with
  | zero => unfold low; rw [Int.pow_zero, Int.emod_one]
  | succ d ih =>
    rw [show low s (d + 1) = bt s d * 256 ^ d + low s d from rfl, ih (fun j hj => h j (by omega)), h d (by omega)]
    unfold byt
    obtain ⟨x, rfl⟩ := Int.eq_ofNat_of_zero_le hx
    have e : ∀ m : Nat, (256 : Int) ^ m = ((256 ^ m : Nat) : Int) := fun m => by rw [Int.natCast_pow]; rfl
    have h2 := Nat.mod_mul (x := x) (a := 256 ^ d) (b := 256)
    rw [e, e, Nat.pow_succ]
    have h3 : (((x % (256 ^ d * 256) : Nat)) : Int) = ((x % 256 ^ d + 256 ^ d * (x / 256 ^ d % 256) : Nat) : Int) := by rw [h2]
    rw [Int.natCast_add, Int.natCast_mul] at h3
    rw [Int.natCast_emod] at h3
    rw [h3, Int.add_comm, Int.mul_comm]
    rfl
end Go.Proofs.Ytdjpbhmkcamkpaa.Mem
