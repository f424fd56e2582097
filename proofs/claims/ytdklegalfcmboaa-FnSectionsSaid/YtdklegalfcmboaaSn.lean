/- Sections and names: what is written, what is read, what is drawn. -/
import Derived.Test.YtdklegalfcmboaaLz
import Derived.Test.YtdklegalfcmboaaCup
import Derived.Test.YtdklegalfcmboaaQx1
import Derived.Test.YtdklegalfcmboaaQx3
namespace Go.Proofs.Ytdklegalfcmboaa.Sn
open Go.RowKit Go.Proofs.Ytdklegalfcmboaa.Q Go.Proofs.YtdklegalfcmboaaW.PrintWords Go.Proofs.YtdklegalfcmboaaW.PrintLast Go.Proofs.YtdklegalfcmboaaW.PrintMore Go.Proofs.Ytdklegalfcmboaa.Mb Go.Proofs.Ytdklegalfcmboaa.Leb Go.Proofs.Ytdklegalfcmboaa.Cur
set_option linter.unusedSimpArgs false
set_option linter.unusedVariables false

/-! bytes -/
theorem ba_ext {a b : ByteArray} (h : a.data.toList = b.data.toList) : a = b := ByteArray.ext (Array.ext' h)
theorem tl_app (a b : ByteArray) : (a ++ b).data.toList = a.data.toList ++ b.data.toList := by rw [ByteArray.data_append, Array.toList_append]
theorem tl_ext (a : ByteArray) (i j : Nat) : (a.extract i j).data.toList = (a.data.toList.take j).drop i := by
  rw [ByteArray.data_extract, Array.toList_extract, List.extract_eq_take_drop, List.drop_take]
theorem tl_len (a : ByteArray) : a.data.toList.length = a.size := by rw [Array.length_toList]; rfl
theorem ext_tail (a b : ByteArray) : (a ++ b).extract a.size (a ++ b).size = b := by
  apply ba_ext
  rw [tl_ext, tl_app, ← tl_len (a ++ b), tl_app, List.take_length, ← tl_len a, List.drop_left]
theorem ext_mid (a b c : ByteArray) : (a ++ b ++ c).extract a.size (a.size + b.size) = b := by
  apply ba_ext
  rw [tl_ext, tl_app, tl_app, ← tl_len a, ← tl_len b, ← List.length_append, List.take_left, List.drop_left]
theorem sz0 : (⟨#[]⟩ : ByteArray).size = 0 := rfl
theorem app_nil (a : ByteArray) : a ++ (⟨#[]⟩ : ByteArray) = a := by
  apply ba_ext
  rw [tl_app]; exact List.append_nil _
theorem nil_app (a : ByteArray) : (⟨#[]⟩ : ByteArray) ++ a = a := by
  apply ba_ext
  rw [tl_app]; rfl
theorem app_as (a b c : ByteArray) : a ++ b ++ c = a ++ (b ++ c) := by
  apply ba_ext
  rw [tl_app, tl_app, tl_app, tl_app, List.append_assoc]
theorem empty_iff (s : ByteArray) : s.toList = ([] : List UInt8) ↔ s.size = 0 := by
  rw [ByteArray.toList_eq]
  constructor
  · intro h; rw [← tl_len, h]; rfl
  · intro h; exact List.length_eq_zero_iff.1 (by rw [tl_len, h])
theorem U_size (x : Int) : (strOfNums (U x)).size = (U x).length := strOfNums_size _
theorem U_len {n : Int} (h0 : 0 ≤ n) (h1 : n ≤ 18446744073709551615) : 1 ≤ (U n).length ∧ (U n).length ≤ 10 := by
  have := ul_len 9 n h0 (Int.lt_of_le_of_lt h1 p128_10)
  exact ⟨this.1, this.2.1⟩
theorem ul_two (f g : Nat) (n : Int) (h0 : 0 ≤ n) (h1 : n < 128 ^ 2) : ul (f + 1) n = ul (g + 1) n := by
  unfold ul
  by_cases c : n ≥ 128
  · rw [if_pos c, if_pos c]
    have e : ∀ f, ul f (n / 128) = [n / 128] := by
      intro f
      cases f with
      | zero => rfl
      | succ f => exact ul_lt (by omega)
    rw [e, e]
  · rw [if_neg c, if_neg c]
/-- A number below 2^28 that was written is read, in 32 bits, whatever stands behind it. -/
theorem take_u32 (f : Nat) : ∀ (k : Nat) (s : ByteArray) (i : Nat) (n m : Int), 3 * f + 3 ≤ k → i + f ≤ 3 → s.size ≤ 1000000000 → 0 ≤ n → n < 128 ^ i → 0 ≤ m → m < 128 ^ (f + 1) → n + m * 128 ^ i ≤ 18446744073709551615 → At s i (ul f m) →
    impl_TakeUleb.l0 k s 32 n (i : Int) = some (n + m * 128 ^ i, ((i + (ul f m).length : Nat) : Int)) := by
  have hmax : wrap64 (Int.tdiv (wrap64 (32 + 6)) 7) = 5 := by decide +kernel
  have one : ∀ (k : Nat) (s : ByteArray) (i : Nat) (n m : Int), 3 ≤ k → i ≤ 3 → s.size ≤ 1000000000 → 0 ≤ n → n < 128 ^ i → 0 ≤ m → m < 128 → n + m * 128 ^ i ≤ 18446744073709551615 → At s i [m] → impl_TakeUleb.l0 k s 32 n (i : Int) = some (n + m * 128 ^ i, ((i + 1 : Nat) : Int)) := by
    intro k s i n m hk hi hs hn0 hn hm0 hm hb hat
    obtain ⟨k, rfl⟩ : ∃ j, k = j + 3 := ⟨k - 3, by omega⟩
    obtain ⟨hbt, hsz, -⟩ := hat
    have hp0 : (0 : Int) < 128 ^ i := Int.pow_pos (by decide)
    simp only [impl_TakeUleb.l0, impl_TakeUleb.j2, impl_TakeUleb.j3]
    rw [if_pos (by omega), hmax, decide_eq_true (by omega), if_pos rfl, if_pos (by omega), if_pos (by omega), hbt, u8_and127 hm0 (by omega), show m % 128 = m by omega, wu64 hm0 (by omega), w64 (n := 7 * (i : Int)) (by omega) (by omega), w64 (n := 32 - 7 * (i : Int)) (by omega) (by omega), if_neg (by omega), if_neg (by decide)]
    rw [if_pos (by omega), if_pos (by omega), if_pos (by omega), if_pos (by omega), w64 (n := (i : Int) + 1) (by omega) (by omega), show (7 * (i : Int)) = ((7 * i : Nat) : Int) by omega, acc_u n m i hn0 hn hm0 (by omega) (by omega) (by omega)]
    congr 2
  induction f with
  | zero =>
    intro k s i n m hk hi hs hn0 hn hm0 hm hb hat
    exact one k s i n m (by omega) (by omega) hs hn0 hn hm0 (by rw [Int.pow_succ, Int.pow_zero] at hm; omega) hb hat
  | succ f ih =>
    intro k s i n m hk hi hs hn0 hn hm0 hm hb hat
    have hp0 : (0 : Int) < 128 ^ i := Int.pow_pos (by decide)
    by_cases c : m ≥ 128
    · unfold ul at hat
      rw [if_pos c] at hat
      obtain ⟨hbt, hsz, hrest⟩ := hat
      obtain ⟨k, rfl⟩ : ∃ j, k = j + 3 := ⟨k - 3, by omega⟩
      rw [Int.pow_succ] at hm
      simp only [impl_TakeUleb.l0, impl_TakeUleb.j2, impl_TakeUleb.j3]
      rw [if_pos (by omega), hmax, decide_eq_true (by omega), if_pos rfl, if_pos (by omega), if_pos (by omega), hbt, u8_and127 (by omega) (by omega), show (m % 128 + 128) % 128 = m % 128 by omega, wu64 (n := m % 128) (by omega) (by omega), w64 (n := 7 * (i : Int)) (by omega) (by omega), w64 (n := 32 - 7 * (i : Int)) (by omega) (by omega), if_neg (by omega), if_neg (by decide)]
      have hsplit : m * 128 ^ i = m % 128 * 128 ^ i + m / 128 * 128 ^ (i + 1) := by
        have : m = m % 128 + m / 128 * 128 := by omega
        conv => lhs; rw [this]
        rw [Int.add_mul, Int.pow_succ, Int.mul_assoc (m / 128) 128, Int.mul_comm 128]
      have hq0 : 0 ≤ m / 128 * 128 ^ (i + 1) := Int.mul_nonneg (by omega) (Int.le_of_lt (Int.pow_pos (by decide)))
      have hr0 : 0 ≤ m % 128 * 128 ^ i := Int.mul_nonneg (by omega) (Int.le_of_lt hp0)
      have hr1 : m % 128 * 128 ^ i ≤ 127 * 128 ^ i := Int.mul_le_mul_of_nonneg_right (by omega) (Int.le_of_lt hp0)
      rw [if_pos (by omega), if_pos (by omega), if_pos (by omega), if_neg (by omega), w64 (n := (i : Int) + 1) (by omega) (by omega), show (7 * (i : Int)) = ((7 * i : Nat) : Int) by omega, acc_u n (m % 128) i hn0 hn (by omega) (by omega) (by omega) (by omega)]
      have := ih k s (i + 1) (n + m % 128 * 128 ^ i) (m / 128) (by omega) (by omega) hs (by omega) (by rw [Int.pow_succ]; omega) (by omega) (by omega) (by omega) hrest
      rw [show ((i : Int) + 1) = ((i + 1 : Nat) : Int) by omega, this]
      rw [ul_ge c, hsplit, List.length_cons, show n + m % 128 * 128 ^ i + m / 128 * 128 ^ (i + 1) = n + (m % 128 * 128 ^ i + m / 128 * 128 ^ (i + 1)) by omega, show i + 1 + (ul f (m / 128)).length = i + ((ul f (m / 128)).length + 1) by omega]
    · rw [ul_lt c] at hat ⊢
      exact one k s i n m (by omega) (by omega) hs hn0 hn hm0 (by omega) hb hat
theorem take_U32 (k : Nat) (hk : 40 ≤ k) (n : Int) (h0 : 0 ≤ n) (h1 : n < 16384) (more : ByteArray) (hm : more.size ≤ 1000000) : impl_TakeUleb.f k (strOfNums (U n) ++ more) 32 = some (n, ((U n).length : Int)) := by
  obtain ⟨k, rfl⟩ : ∃ j, k = j + 1 := ⟨k - 1, by omega⟩
  have hl := U_len (n := n) h0 (by omega)
  unfold impl_TakeUleb.f
  rw [if_neg (by decide), show decide ((32 : Int) > 64) = false from by decide]
  simp only [impl_TakeUleb.j0]
  rw [if_neg (by decide)]
  have e : U n = ul 1 n := ul_two 8 0 n h0 h1
  have hat := At_str (U n) (U_b8 n h0 (by omega)) more
  rw [e] at hat hl ⊢
  have := take_u32 1 k (strOfNums (ul 1 n) ++ more) 0 0 n (by omega) (by omega) (by rw [ByteArray.size_append, strOfNums_size]; omega) (by decide) (by decide) h0 h1 (by rw [Int.pow_zero]; omega) hat
  rw [Int.pow_zero, Int.mul_one, Int.zero_add, Nat.zero_add] at this
  exact this
theorem takeText_ok (k : Nat) (hk : 40 ≤ k) (b more : ByteArray) (hb : b.size ≤ 1000) (hm : more.size ≤ 900000) : impl_takeText.f k (strOfNums (U (b.size : Int)) ++ (b ++ more)) = some (b, (((U (b.size : Int)).length + b.size : Nat) : Int)) := by
  have hl := U_len (n := (b.size : Int)) (by omega) (by omega)
  unfold impl_takeText.f
  rw [take_U32 k hk _ (by omega) (by omega) _ (by rw [ByteArray.size_append]; omega)]
  simp only [Option.bind_some]
  have hs : (strOfNums (U (b.size : Int)) ++ (b ++ more)).size = (U (b.size : Int)).length + (b.size + more.size) := by rw [ByteArray.size_append, ByteArray.size_append, U_size]
  have hx := ext_mid (strOfNums (U (b.size : Int))) b more
  rw [app_as, U_size] at hx
  rw [hs]
  generalize (U (b.size : Int)).length = L at *
  rw [if_neg (by omega), w64 (n := ((L + (b.size + more.size) : Nat) : Int) - (L : Int)) (by omega) (by omega), wu64 (by omega) (by omega), if_neg (by omega), if_pos (by omega), w64 (n := (b.size : Int)) (by omega) (by omega), w64 (n := (L : Int) + (b.size : Int)) (by omega) (by omega), if_pos (by omega), if_pos (by omega), show ((L : Int) + (b.size : Int)) = ((L + b.size : Nat) : Int) by omega, Int.toNat_natCast, Int.toNat_natCast, hx]
/-! sections -/
def enc : List S45 → ByteArray
  | [] => ⟨#[]⟩
  | x :: xs => strOfNums [x.f0 % 256] ++ (strOfNums (U (x.f1.size : Int)) ++ (x.f1 ++ enc xs))
theorem one_size (c : Int) : (strOfNums [c]).size = 1 := strOfNums_size _
theorem enc_size (n : Nat) : ∀ (xs : List S45), xs.length ≤ n → (∀ x ∈ xs, x.f1.size ≤ 1001) → (enc xs).size ≤ 1100 * n
  | [], _, _ => by rw [enc, sz0]; omega
  | x :: xs, hn, h => by
    rw [List.length_cons] at hn
    obtain ⟨n, rfl⟩ : ∃ m, n = m + 1 := ⟨n - 1, by omega⟩
    have h1 := enc_size n xs (by omega) (fun y hy => h y (List.mem_cons_of_mem _ hy))
    have h2 := h x List.mem_cons_self
    have h3 := U_len (n := (x.f1.size : Int)) (by omega) (by omega)
    rw [enc, ByteArray.size_append, ByteArray.size_append, ByteArray.size_append, one_size, U_size]
    omega
theorem rdX (l : List S45) (j : Nat) (hlt : j < l.length) : rd_T45 l (j : Int) = l[j] := by
  unfold rd_T45
  rw [Int.toNat_natCast, List.getD_eq_getElem?_getD, List.getElem?_eq_getElem hlt]
  rfl
theorem sec_impl (k : Nat) (hk : 10 ≤ k) : ∀ (xs : List S45) (s : ByteArray), xs.length ≤ 20 → s.size ≤ 1000000 - 1100 * xs.length → (∀ x ∈ xs, x.f1.size ≤ 1001) → secF k xs s = some (s ++ enc xs)
  | [], s, _, _, _ => by rw [secF, enc, app_nil]
  | x :: xs, s, hn, hs, h => by
    rw [List.length_cons] at hn hs
    have h2 := h x List.mem_cons_self
    have h3 := U_len (n := (x.f1.size : Int)) (by omega) (by omega)
    have hsz : (strOfNums (U (x.f1.size : Int)) ++ x.f1).size = (U (x.f1.size : Int)).length + x.f1.size := by rw [ByteArray.size_append, U_size]
    rw [secF, wu64 (n := (x.f1.size : Int)) (by omega) (by omega), impl_U k hk _ (by omega) (by omega)]
    simp only [Option.bind_some]
    rw [U_size, if_pos (by omega), hsz, if_pos (by omega)]
    rw [sec_impl k hk xs _ (by omega) (by rw [ByteArray.size_append, ByteArray.size_append, one_size, hsz]; omega) (fun y hy => h y (List.mem_cons_of_mem _ hy)), enc, app_as, app_as, app_as]
theorem sec_spec (l : List S45) (hl : l.length ≤ 20) (h : ∀ x ∈ l, x.f1.size ≤ 1001) (d : Nat) : ∀ (j : Nat) (s : ByteArray), j + d = l.length → s.size ≤ 1100 * j → Ev (fun k => spec_SectionsBytes.l0 k s l (l.length : Int) (j : Int)) (if ((s ++ enc (l.drop j)).size : Int) > 4000 then (⟨#[]⟩, false) else (s ++ enc (l.drop j), true)) := by
  induction d with
  | zero =>
    intro j s hj hs
    obtain rfl : j = l.length := by omega
    rw [List.drop_length, enc, app_nil]
    refine Ev.step (f := fun _ => some (if (s.size : Int) > 4000 then ((⟨#[]⟩ : ByteArray), false) else (s, true))) (fun k => ?_) (Ev.now _)
    rw [spec_SectionsBytes.l0, if_neg (by omega)]
    split <;> rfl
  | succ d ih =>
    intro j s hj hs
    have hlt : j < l.length := by omega
    have h2 := h l[j] (List.getElem_mem hlt)
    have h3 := U_len (n := (l[j].f1.size : Int)) (by omega) (by omega)
    have hU : Ev (fun k => spec_l1Uleb.f k (IntKind.u64.wrap (l[j].f1.size : Int))) (strOfNums (U (l[j].f1.size : Int))) := ⟨10, fun k hk => by rw [wu64 (n := (l[j].f1.size : Int)) (by omega) (by omega)]; exact spec_U k hk _ (by omega) (by omega)⟩
    have hsz : ((strOfNums [l[j].f0 % 256] ++ strOfNums (U (l[j].f1.size : Int))) ++ l[j].f1).size = 1 + (U (l[j].f1.size : Int)).length + l[j].f1.size := by rw [ByteArray.size_append, ByteArray.size_append, one_size, U_size]
    have ih := ih (j + 1) (s ++ ((strOfNums [l[j].f0 % 256] ++ strOfNums (U (l[j].f1.size : Int))) ++ l[j].f1)) (by omega) (by rw [ByteArray.size_append, hsz]; omega)
    have e : s ++ ((strOfNums [l[j].f0 % 256] ++ strOfNums (U (l[j].f1.size : Int))) ++ l[j].f1) ++ enc (l.drop (j + 1)) = s ++ enc (l.drop j) := by
      rw [List.drop_eq_getElem_cons hlt, enc, app_as, app_as, app_as]
    rw [e] at ih
    refine Ev.step (f := fun k => (spec_l1Uleb.f k (IntKind.u64.wrap (l[j].f1.size : Int))).bind fun t181 => (if (strOfNums [l[j].f0 % 256]).size + t181.size ≤ 9223372036854775807 then (if ((strOfNums [l[j].f0 % 256]) ++ t181).size + l[j].f1.size ≤ 9223372036854775807 then (if s.size + (((strOfNums [l[j].f0 % 256]) ++ t181) ++ l[j].f1).size ≤ 9223372036854775807 then (spec_SectionsBytes.l0 k (s ++ (((strOfNums [l[j].f0 % 256]) ++ t181) ++ l[j].f1)) l (l.length : Int) ((j + 1 : Nat) : Int)) else (none)) else (none)) else (none))) (fun k => ?_) ?_
    · rw [spec_SectionsBytes.l0, if_pos (by omega), if_pos (by omega), if_pos (by omega), rdX l j hlt, w64 (n := (j : Int) + 1) (by omega) (by omega)]
      rfl
    · refine Ev.bind hU ?_
      refine Ev.congr (fun k => ?_) ih
      rw [if_pos (by rw [one_size, U_size]; omega), if_pos (by rw [ByteArray.size_append, one_size, U_size]; omega), if_pos (by rw [hsz]; omega)]
/-! which sections are right -/
def aF (P : Nat → Bool) : Nat → Nat → Bool
  | _, 0 => true
  | j, d + 1 => P j && aF P (j + 1) d
theorem aF_iff (P : Nat → Bool) (d : Nat) : ∀ j, aF P j d = true ↔ ∀ i, j ≤ i → i < j + d → P i = true := by
  induction d with
  | zero => intro j; simp only [aF, true_iff]; intro i h1 h2; omega
  | succ d ih =>
    intro j
    rw [aF, Bool.and_eq_true, ih]
    constructor
    · rintro ⟨h0, h⟩ i h1 h2
      rcases Nat.eq_or_lt_of_le h1 with e | e
      · rw [← e]; exact h0
      · exact h i e (by omega)
    · intro h
      exact ⟨h j (Nat.le_refl _) (by omega), fun i h1 h2 => h i (by omega) (by omega)⟩
def okAt (l : List S45) (j : Nat) : Bool := decide (0 ≤ (rd_T45 l (j : Int)).f0) && decide ((rd_T45 l (j : Int)).f0 ≤ 20) && decide (((rd_T45 l (j : Int)).f1.size : Int) ≤ 1000) && (decide (j = 0) || decide ((rd_T45 l ((j : Int) - 1)).f0 < (rd_T45 l (j : Int)).f0))
theorem ok_impl (l : List S45) (hl : l.length ≤ 1000) (d : Nat) : ∀ j : Nat, j + d = l.length → Ev (fun k => impl_sectionsOk.l0 k l l (l.length : Int) (j : Int)) (aF (okAt l) j d) := by
  induction d with
  | zero =>
    intro j hj
    exact Ev.step (f := fun _ => some true) (fun k => by rw [impl_sectionsOk.l0, if_neg (by omega)]) (Ev.now _)
  | succ d ih =>
    intro j hj
    have ih := ih (j + 1) (by omega)
    have e1 : wrap64 ((j : Int) + 1) = ((j + 1 : Nat) : Int) := w64 (by omega) (by omega)
    have e2 : wrap64 ((j : Int) - 1) = (j : Int) - 1 := w64 (by omega) (by omega)
    rw [aF]
    have no : okAt l j = false → (∀ k, impl_sectionsOk.l0 (k + 1) l l (l.length : Int) (j : Int) = some false) → Ev (fun k => impl_sectionsOk.l0 k l l (l.length : Int) (j : Int)) (okAt l j && aF (okAt l) (j + 1) d) := by
      intro h hk
      rw [h, Bool.false_and]
      exact Ev.step (f := fun _ => some false) hk (Ev.now _)
    have yes : okAt l j = true → (∀ k, impl_sectionsOk.l0 (k + 1) l l (l.length : Int) (j : Int) = impl_sectionsOk.l0 k l l (l.length : Int) ((j + 1 : Nat) : Int)) → Ev (fun k => impl_sectionsOk.l0 k l l (l.length : Int) (j : Int)) (okAt l j && aF (okAt l) (j + 1) d) := by
      intro h hk
      rw [h, Bool.true_and]
      exact Ev.step hk ih
    by_cases c1 : (rd_T45 l (j : Int)).f0 < 0
    · exact no (by unfold okAt; rw [decide_eq_false (by omega)]; rfl) (fun k => by rw [impl_sectionsOk.l0, if_pos (by omega), if_pos (by omega), if_pos (by omega), if_pos c1])
    by_cases c2 : (rd_T45 l (j : Int)).f0 > 20
    · exact no (by unfold okAt; rw [decide_eq_false (show ¬ (rd_T45 l (j : Int)).f0 ≤ 20 by omega), Bool.and_false]; rfl) (fun k => by rw [impl_sectionsOk.l0, if_pos (by omega), if_pos (by omega), if_pos (by omega), if_neg c1, if_pos c2])
    by_cases c3 : ((rd_T45 l (j : Int)).f1.size : Int) > 1000
    · exact no (by unfold okAt; rw [decide_eq_false (show ¬ ((rd_T45 l (j : Int)).f1.size : Int) ≤ 1000 by omega), Bool.and_false]; rfl) (fun k => by rw [impl_sectionsOk.l0, if_pos (by omega), if_pos (by omega), if_pos (by omega), if_neg c1, if_neg c2, if_pos c3])
    by_cases c4 : (j : Int) > 0
    · by_cases c5 : (rd_T45 l ((j : Int) - 1)).f0 ≥ (rd_T45 l (j : Int)).f0
      · exact no (by unfold okAt; rw [decide_eq_false (show ¬ j = 0 by omega), decide_eq_false (show ¬ (rd_T45 l ((j : Int) - 1)).f0 < (rd_T45 l (j : Int)).f0 by omega), Bool.or_self, Bool.and_false]) (fun k => by rw [impl_sectionsOk.l0, if_pos (by omega), if_pos (by omega), if_pos (by omega), if_neg c1, if_neg c2, if_neg c3, if_pos c4, e2, if_pos (by omega), if_pos (by omega), if_pos c5])
      · exact yes (by unfold okAt; rw [decide_eq_true (show 0 ≤ (rd_T45 l (j : Int)).f0 by omega), decide_eq_true (show (rd_T45 l (j : Int)).f0 ≤ 20 by omega), decide_eq_true (show ((rd_T45 l (j : Int)).f1.size : Int) ≤ 1000 by omega), decide_eq_true (show (rd_T45 l ((j : Int) - 1)).f0 < (rd_T45 l (j : Int)).f0 by omega), Bool.or_true]; rfl) (fun k => by rw [impl_sectionsOk.l0, if_pos (by omega), if_pos (by omega), if_pos (by omega), if_neg c1, if_neg c2, if_neg c3, if_pos c4, e2, if_pos (by omega), if_pos (by omega), if_neg c5, e1])
    · exact yes (by unfold okAt; rw [decide_eq_true (show 0 ≤ (rd_T45 l (j : Int)).f0 by omega), decide_eq_true (show (rd_T45 l (j : Int)).f0 ≤ 20 by omega), decide_eq_true (show ((rd_T45 l (j : Int)).f1.size : Int) ≤ 1000 by omega), decide_eq_true (show j = 0 by omega), Bool.true_or]; rfl) (fun k => by rw [impl_sectionsOk.l0, if_pos (by omega), if_pos (by omega), if_pos (by omega), if_neg c1, if_neg c2, if_neg c3, if_neg c4, e1])
theorem in_ok (a b c : Int) : spec_l1In.f a b c = some (decide (b ≤ a) && decide (a ≤ c)) := by
  unfold spec_l1In.f
  by_cases h : a ≥ b
  · rw [if_pos h, decide_eq_true h, Bool.true_and]
  · rw [if_neg h, decide_eq_false h, Bool.false_and]
theorem ok_spec (l : List S45) (hl : l.length ≤ 1000) (d : Nat) : ∀ j : Nat, j + d = l.length → Ev (fun k => spec_l1Sections.l0 k l l (l.length : Int) (j : Int)) (aF (okAt l) j d && decide ((l.length : Int) ≤ 20)) := by
  induction d with
  | zero =>
    intro j hj
    exact Ev.step (f := fun _ => some (decide ((l.length : Int) ≤ 20))) (fun k => by rw [spec_l1Sections.l0, if_neg (by omega)]) (Ev.now _)
  | succ d ih =>
    intro j hj
    have ih := ih (j + 1) (by omega)
    have e1 : wrap64 ((j : Int) + 1) = ((j + 1 : Nat) : Int) := w64 (by omega) (by omega)
    have e2 : wrap64 ((j : Int) - 1) = (j : Int) - 1 := w64 (by omega) (by omega)
    rw [aF, Bool.and_assoc]
    have no : okAt l j = false → (∀ k, spec_l1Sections.l0 (k + 1) l l (l.length : Int) (j : Int) = some false) → Ev (fun k => spec_l1Sections.l0 k l l (l.length : Int) (j : Int)) (okAt l j && (aF (okAt l) (j + 1) d && decide ((l.length : Int) ≤ 20))) := by
      intro h hk
      rw [h, Bool.false_and]
      exact Ev.step (f := fun _ => some false) hk (Ev.now _)
    have yes : okAt l j = true → (∀ k, spec_l1Sections.l0 (k + 1) l l (l.length : Int) (j : Int) = spec_l1Sections.l0 k l l (l.length : Int) ((j + 1 : Nat) : Int)) → Ev (fun k => spec_l1Sections.l0 k l l (l.length : Int) (j : Int)) (okAt l j && (aF (okAt l) (j + 1) d && decide ((l.length : Int) ≤ 20))) := by
      intro h hk
      rw [h, Bool.true_and]
      exact Ev.step hk ih
    by_cases c12 : 0 ≤ (rd_T45 l (j : Int)).f0 ∧ (rd_T45 l (j : Int)).f0 ≤ 20
    · have hin : spec_l1In.f (rd_T45 l (j : Int)).f0 0 20 = some true := by rw [in_ok, decide_eq_true c12.1, decide_eq_true c12.2]; rfl
      by_cases c3 : ((rd_T45 l (j : Int)).f1.size : Int) > 1000
      · exact no (by unfold okAt; rw [decide_eq_false (show ¬ ((rd_T45 l (j : Int)).f1.size : Int) ≤ 1000 by omega), Bool.and_false]; rfl) (fun k => by rw [spec_l1Sections.l0, if_pos (by omega), if_pos (by omega), if_pos (by omega), hin, Option.bind_some, if_pos rfl, if_pos c3])
      by_cases c4 : (j : Int) > 0
      · by_cases c5 : (rd_T45 l ((j : Int) - 1)).f0 ≥ (rd_T45 l (j : Int)).f0
        · exact no (by unfold okAt; rw [decide_eq_false (show ¬ j = 0 by omega), decide_eq_false (show ¬ (rd_T45 l ((j : Int) - 1)).f0 < (rd_T45 l (j : Int)).f0 by omega), Bool.or_self, Bool.and_false]) (fun k => by rw [spec_l1Sections.l0, if_pos (by omega), if_pos (by omega), if_pos (by omega), hin, Option.bind_some, if_pos rfl, if_neg c3, if_pos c4, e2, if_pos (by omega), if_pos (by omega), if_pos c5])
        · exact yes (by unfold okAt; rw [decide_eq_true c12.1, decide_eq_true c12.2, decide_eq_true (show ((rd_T45 l (j : Int)).f1.size : Int) ≤ 1000 by omega), decide_eq_true (show (rd_T45 l ((j : Int) - 1)).f0 < (rd_T45 l (j : Int)).f0 by omega), Bool.or_true]; rfl) (fun k => by rw [spec_l1Sections.l0, if_pos (by omega), if_pos (by omega), if_pos (by omega), hin, Option.bind_some, if_pos rfl, if_neg c3, if_pos c4, e2, if_pos (by omega), if_pos (by omega), if_neg c5, e1])
      · exact yes (by unfold okAt; rw [decide_eq_true c12.1, decide_eq_true c12.2, decide_eq_true (show ((rd_T45 l (j : Int)).f1.size : Int) ≤ 1000 by omega), decide_eq_true (show j = 0 by omega), Bool.true_or]; rfl) (fun k => by rw [spec_l1Sections.l0, if_pos (by omega), if_pos (by omega), if_pos (by omega), hin, Option.bind_some, if_pos rfl, if_neg c3, if_neg c4, e1])
    · have hb : (decide (0 ≤ (rd_T45 l (j : Int)).f0) && decide ((rd_T45 l (j : Int)).f0 ≤ 20)) = false := by
        by_cases c1 : 0 ≤ (rd_T45 l (j : Int)).f0
        · rw [decide_eq_false (show ¬ (rd_T45 l (j : Int)).f0 ≤ 20 by omega), Bool.and_false]
        · rw [decide_eq_false c1, Bool.false_and]
      exact no (by unfold okAt; rw [hb]; rfl) (fun k => by rw [spec_l1Sections.l0, if_pos (by omega), if_pos (by omega), if_pos (by omega), in_ok, hb, Option.bind_some, if_neg (by decide)])
def okS (l : List S45) : Bool := aF (okAt l) 0 l.length && decide ((l.length : Int) ≤ 20)
theorem okS_impl (l : List S45) (hl : l.length ≤ 1000) : Ev (fun k => impl_sectionsOk.f k l) (okS l) := by
  unfold impl_sectionsOk.f okS
  by_cases c : (l.length : Int) > 20
  · rw [decide_eq_false (by omega), Bool.and_false]
    exact Ev.congr (fun k => if_pos c) (Ev.now false)
  · rw [decide_eq_true (by omega), Bool.and_true]
    exact Ev.congr (fun k => if_neg c) (ok_impl l hl l.length 0 (by omega))
theorem okS_spec (l : List S45) (hl : l.length ≤ 1000) : Ev (fun k => spec_l1Sections.f k l) (okS l) := ok_spec l hl l.length 0 (by omega)
theorem okS_facts (l : List S45) (h : okS l = true) : l.length ≤ 20 ∧ ∀ x ∈ l, 0 ≤ x.f0 ∧ x.f0 ≤ 20 ∧ x.f1.size ≤ 1000 := by
  unfold okS at h
  rw [Bool.and_eq_true, aF_iff] at h
  have hn := of_decide_eq_true h.2
  refine ⟨by omega, fun x hx => ?_⟩
  obtain ⟨i, hi, rfl⟩ := List.mem_iff_getElem.1 hx
  have := h.1 i (Nat.zero_le _) (by omega)
  unfold okAt at this
  rw [rdX l i hi] at this
  simp only [Bool.and_eq_true, decide_eq_true_eq] at this
  exact ⟨this.1.1.1, this.1.1.2, by omega⟩
/-- Both write the same. -/
def wr (l : List S45) : ByteArray × Bool := if okS l = true then (if ((enc l).size : Int) > 4000 then (⟨#[]⟩, false) else (enc l, true)) else (⟨#[]⟩, false)
theorem wr_impl (l : List S45) (hl : l.length ≤ 1000) : Ev (fun k => impl_SectionsBytes.f k l) (wr l) := by
  unfold impl_SectionsBytes.f wr
  refine Ev.bind (okS_impl l hl) ?_
  cases h : okS l with
  | false => exact Ev.congr (fun k => if_neg (by decide)) (Ev.now _)
  | true =>
    obtain ⟨h1, h2⟩ := okS_facts l h
    refine Ev.congr (fun k => if_pos rfl) ?_
    refine Ev.bind (a := enc l) ⟨10, fun k hk => ?_⟩ ?_
    · show secF k l ⟨#[]⟩ = _
      rw [sec_impl k hk l _ h1 (by rw [sz0]; omega) (fun x hx => by have := (h2 x hx).2.2; omega), nil_app]
    · rw [if_pos rfl]
      by_cases c : ((enc l).size : Int) > 4000
      · rw [if_pos c]; exact Ev.congr (fun k => by rw [if_pos c]) (Ev.now _)
      · rw [if_neg c]; exact Ev.congr (fun k => by rw [if_neg c]) (Ev.now _)
theorem wr_spec (l : List S45) (hl : l.length ≤ 1000) : Ev (fun k => spec_SectionsBytes.f k l) (wr l) := by
  unfold spec_SectionsBytes.f wr
  refine Ev.bind (okS_spec l hl) ?_
  cases h : okS l with
  | false => exact Ev.congr (fun k => if_neg (by decide)) (Ev.now _)
  | true =>
    obtain ⟨h1, h2⟩ := okS_facts l h
    refine Ev.congr (fun k => if_pos rfl) ?_
    have := sec_spec l h1 (fun x hx => by have := (h2 x hx).2.2; omega) l.length 0 ⟨#[]⟩ (by omega) (by rw [sz0]; omega)
    rw [List.drop_zero, nil_app] at this
    rw [if_pos rfl]
    exact this
/-- What was written is read. -/
theorem read_l0 (r : List S45 × Bool) : ∀ (xs acc : List S45), xs.length + acc.length ≤ 1000 → xs.length ≤ 20 → (∀ x ∈ xs, 0 ≤ x.f0 ∧ x.f0 ≤ 20 ∧ x.f1.size ≤ 1000) → (Ev (fun k => (impl_sectionsOk.f k (acc ++ xs)).bind fun t187 => (if t187 = true then (some (acc ++ xs, true)) else (some (([] : List (S45)), false)))) r) → Ev (fun k => impl_ReadSections.l0 k (enc xs) acc) r
  | [], acc, _, _, _, hr => by
    rw [List.append_nil] at hr
    refine Ev.step (fun k => ?_) hr
    rw [impl_ReadSections.l0, if_pos (by rw [enc, empty_iff]; rfl)]
  | x :: xs, acc, hn, hl, h, hr => by
    rw [List.length_cons] at hn hl
    obtain ⟨x0, x1, x2⟩ := h x List.mem_cons_self
    have hmem : ∀ y ∈ xs, 0 ≤ y.f0 ∧ y.f0 ≤ 20 ∧ y.f1.size ≤ 1000 := fun y hy => h y (List.mem_cons_of_mem _ hy)
    have hsz := enc_size 20 xs (by omega) (fun y hy => by have := (hmem y hy).2.2; omega)
    have hlU := U_len (n := (x.f1.size : Int)) (by omega) (by omega)
    have ih := read_l0 r xs (acc ++ [x]) (by rw [List.length_append, List.length_singleton]; omega) (by omega) hmem (by rw [List.append_assoc]; exact hr)
    have hs : (enc (x :: xs)).size = 1 + ((U (x.f1.size : Int)).length + (x.f1.size + (enc xs).size)) := by rw [enc, ByteArray.size_append, ByteArray.size_append, ByteArray.size_append, one_size, U_size]
    have he : (enc (x :: xs)).extract 1 (enc (x :: xs)).size = strOfNums (U (x.f1.size : Int)) ++ (x.f1 ++ enc xs) := by
      have := ext_tail (strOfNums [x.f0 % 256]) (strOfNums (U (x.f1.size : Int)) ++ (x.f1 ++ enc xs))
      rw [one_size] at this
      exact this
    have he2 : (enc (x :: xs)).extract (1 + ((U (x.f1.size : Int)).length + x.f1.size)) (enc (x :: xs)).size = enc xs := by
      have := ext_tail (strOfNums [x.f0 % 256] ++ (strOfNums (U (x.f1.size : Int)) ++ x.f1)) (enc xs)
      rw [ByteArray.size_append (a := strOfNums [x.f0 % 256]), ByteArray.size_append (a := strOfNums (U (x.f1.size : Int))), one_size, U_size, app_as, app_as] at this
      exact this
    have hb : bt (enc (x :: xs)) 0 = x.f0 := by
      have h1 := bt_append (strOfNums [x.f0 % 256]) (strOfNums (U (x.f1.size : Int)) ++ (x.f1 ++ enc xs)) 0 (by rw [one_size]; omega)
      have h2 := bt_str [x.f0 % 256] 0 (by simp) (by simp; omega) (by simp; omega)
      rw [show ((0 : Nat) : Int) = 0 from rfl] at h1 h2
      rw [enc, h1, h2]
      show x.f0 % 256 = x.f0
      omega
    have hne : ¬ (enc (x :: xs)).toList = ([] : List UInt8) := by
      rw [empty_iff, hs]
      omega
    have hT : Ev (fun k => impl_takeText.f k ((enc (x :: xs)).extract 1 (enc (x :: xs)).size)) (x.f1, (((U (x.f1.size : Int)).length + x.f1.size : Nat) : Int)) := ⟨40, fun k hk => by rw [he]; exact takeText_ok k hk _ _ x2 (by omega)⟩
    refine Ev.step (f := fun k => (impl_takeText.f k ((enc (x :: xs)).extract 1 (enc (x :: xs)).size)).bind fun bt188 => (if bt188.2 = 0 then (some (([] : List (S45)), false)) else (if 0 < ((enc (x :: xs)).size : Int) then (if acc.length < 5864062014805 then (if 0 ≤ (wrap64 (1 + bt188.2)) then (if (wrap64 (1 + bt188.2)) ≤ ((enc (x :: xs)).size : Int) then (impl_ReadSections.l0 k ((enc (x :: xs)).extract ((wrap64 (1 + bt188.2)) : Int).toNat (enc (x :: xs)).size) (acc ++ [(⟨wrap64 (bt (enc (x :: xs)) 0), bt188.1⟩ : S45)])) else (none)) else (none)) else (none)) else (none)))) (fun k => ?_) ?_
    · rw [impl_ReadSections.l0, if_neg hne, if_pos (by rw [hs]; omega)]
    · refine Ev.bind hT ?_
      refine Ev.congr (fun k => ?_) ih
      rw [if_neg (by omega), if_pos (by rw [hs]; omega), if_pos (by omega), w64 (n := 1 + (((U (x.f1.size : Int)).length + x.f1.size : Nat) : Int)) (by omega) (by omega), if_pos (by omega), if_pos (by rw [hs]; omega), show (1 + (((U (x.f1.size : Int)).length + x.f1.size : Nat) : Int)) = ((1 + ((U (x.f1.size : Int)).length + x.f1.size) : Nat) : Int) by omega, Int.toNat_natCast, he2, hb, w64 (n := x.f0) (by omega) (by omega)]
theorem read_wr (l : List S45) (h : okS l = true) (hs : (enc l).size ≤ 4000) : Ev (fun k => impl_ReadSections.f k (enc l)) (l, true) := by
  obtain ⟨h1, h2⟩ := okS_facts l h
  unfold impl_ReadSections.f
  refine Ev.congr (fun k => if_neg (by omega)) ?_
  refine read_l0 (l, true) l [] (by simp; omega) h1 h2 ?_
  rw [List.nil_append]
  refine Ev.bind (okS_impl l (by omega)) ?_
  rw [h]
  exact Ev.congr (fun k => if_pos rfl) (Ev.now _)
/-! draws -/
theorem text_l0 {l : List Int} (hl : U8 l) (d : Nat) : ∀ (x : List Int) (a s : Int) (j : Nat), j + d = x.length → x.length ≤ 1000 → 0 ≤ a → a + 2 * d ≤ 4611686018427380000 →
    ∃ r a' s', Ev (fun k => spec_l1Cur_text.l0 k x (x.length : Int) (j : Int) l a s) (r, a', s') ∧ r.size = x.length ∧ a ≤ a' ∧ a' ≤ a + 2 * d := by
  induction d with
  | zero =>
    intro x a s j hj hx h0 h1
    exact ⟨strOfNums x, a, s, Ev.step (f := fun _ => some (strOfNums x, a, s)) (fun k => by rw [spec_l1Cur_text.l0, if_neg (by omega)]) (Ev.now _), strOfNums_size _, by omega, by omega⟩
  | succ d ih =>
    intro x a s j hj hx h0 h1
    obtain ⟨r, a1, s1, e1, hr0, hr1, ha1, hb1⟩ := pick_ok hl (a := a) h0 (by omega) s 256 (by omega) (by omega)
    obtain ⟨t, a2, s2, e2, h2, h3, h4⟩ := ih (x.set j (r % 256)) a1 s1 (j + 1) (by rw [List.length_set]; omega) (by rw [List.length_set]; omega) (by omega) (by omega)
    rw [List.length_set] at e2 h2
    refine ⟨t, a2, s2, Ev.step (fun k => ?_) e2, h2, by omega, by omega⟩
    rw [spec_l1Cur_text.l0, if_pos (by omega), e1]
    simp only [Option.bind_some]
    rw [if_pos (by omega), if_pos (by omega), Int.toNat_natCast, w64 (n := (j : Int) + 1) (by omega) (by omega)]
    rfl
theorem text_ok {l : List Int} (hl : U8 l) {a : Int} (h0 : 0 ≤ a) (h1 : a ≤ 4611686018427370000) (s : Int) (n : Int) (hn0 : 0 ≤ n) (hn : n ≤ 1000) : ∃ r a' s', Ev (fun k => spec_l1Cur_text.f k l a s n) (r, a', s') ∧ r.size = n.toNat ∧ a ≤ a' ∧ a' ≤ a + 2000 := by
  obtain ⟨n, rfl⟩ := Int.eq_ofNat_of_zero_le hn0
  obtain ⟨r, a', s', e, h2, h3, h4⟩ := text_l0 hl n (List.replicate n 0) a s 0 (by simp) (by simp; omega) h0 (by omega)
  refine ⟨r, a', s', ?_, by rw [h2, List.length_replicate, Int.toNat_natCast], h3, by omega⟩
  unfold spec_l1Cur_text.f
  refine Ev.congr (fun k => ?_) e
  rw [if_pos hn0, if_pos (by simp; omega), Int.toNat_natCast]
  rfl
theorem secs_l0 {l : List Int} (hl : U8 l) (d : Nat) : ∀ (acc : List S45) (x a s : Int), acc.length + d ≤ 100 → 0 ≤ a → a + 3000 * d ≤ 4611686018427300000 →
    ∃ r : List S45, Ev (fun k => spec_DrawSectionsBytes.l0 k acc x (d : Int) l a s) r ∧ r.length ≤ 100 := by
  induction d with
  | zero =>
    intro acc x a s hn h0 h1
    exact ⟨acc, Ev.step (f := fun _ => some acc) (fun k => by rw [spec_DrawSectionsBytes.l0, if_neg (by omega)]) (Ev.now _), by omega⟩
  | succ d ih =>
    intro acc x a s hn h0 h1
    have hj : ∀ (a s : Int) (b : ByteArray), 0 ≤ a → a + 3000 * d + 100 ≤ 4611686018427300000 → ∃ r : List S45, Ev (fun k => spec_DrawSectionsBytes.j1 k acc x ((d + 1 : Nat) : Int) l a s x b) r ∧ r.length ≤ 100 := by
      intro a s b h0 h1
      obtain ⟨p, a1, s1, e1, _, _, ha1, hb1⟩ := pick_ok hl (a := a) h0 (by omega) s 4 (by omega) (by omega)
      obtain ⟨c, a2, s2, e2, ha2, hb2⟩ := one_ok hl (a := a1) (by omega) (by omega) s1 20 (by omega) (by omega)
      have hd : wrap64 (((d + 1 : Nat) : Int) - 1) = (d : Int) := by rw [w64 (by omega) (by omega)]; omega
      cases c with
      | true =>
        obtain ⟨q, a3, s3, e3, _, _, ha3, hb3⟩ := pick_ok hl (a := a2) (by omega) (by omega) s2 23 (by omega) (by omega)
        obtain ⟨r, hr, hrl⟩ := ih (acc ++ [⟨x, b⟩]) q a3 s3 (by rw [List.length_append, List.length_singleton]; omega) (by omega) (by omega)
        refine ⟨r, Ev.step (fun k => ?_) hr, hrl⟩
        rw [spec_DrawSectionsBytes.j1, if_pos (by omega)]
        simp only [Option.bind_some, e1, e2, e3, if_true, hd]
      | false =>
        obtain ⟨r, hr, hrl⟩ := ih (acc ++ [⟨x, b⟩]) (wrap64 (x + (wrap64 (1 + p)))) a2 s2 (by rw [List.length_append, List.length_singleton]; omega) (by omega) (by omega)
        refine ⟨r, Ev.step (fun k => ?_) hr, hrl⟩
        rw [spec_DrawSectionsBytes.j1, if_pos (by omega)]
        simp only [Option.bind_some, e1, e2, Bool.false_eq_true, if_false, hd]
    obtain ⟨p, a1, s1, e1, hp0, hp1, ha1, hb1⟩ := pick_ok hl (a := a) h0 (by omega) s 20 (by omega) (by omega)
    obtain ⟨t, a2, s2, e2, _, ha2, hb2⟩ := text_ok hl (a := a1) (by omega) (by omega) s1 p hp0 (by omega)
    obtain ⟨c, a3, s3, e3, ha3, hb3⟩ := one_ok hl (a := a2) (by omega) (by omega) s2 20 (by omega) (by omega)
    have tail : ∃ r : List S45, Ev (fun k => (spec_l1Cur_one.f l a2 s2 20).bind fun bt132 => (if bt132.1 = true then ((spec_l1Cur_pick.f l bt132.2.1 bt132.2.2 2).bind fun bt135 => (if 0 ≤ (wrap64 (1000 + bt135.1)) then (if (wrap64 (1000 + bt135.1) : Int).toNat ≤ 281474976710656 then (spec_DrawSectionsBytes.j1 k acc x ((d + 1 : Nat) : Int) l bt135.2.1 bt135.2.2 x (strOfNums (List.replicate (wrap64 (1000 + bt135.1) : Int).toNat 0))) else (none)) else (none))) else (spec_DrawSectionsBytes.j1 k acc x ((d + 1 : Nat) : Int) l bt132.2.1 bt132.2.2 x t))) r ∧ r.length ≤ 100 := by
      rw [e3]
      simp only [Option.bind_some]
      cases c with
      | true =>
        obtain ⟨q, a4, s4, e4, hq0, hq1, ha4, hb4⟩ := pick_ok hl (a := a3) (by omega) (by omega) s3 2 (by omega) (by omega)
        obtain ⟨r, hr, hrl⟩ := hj a4 s4 (strOfNums (List.replicate (wrap64 (1000 + q) : Int).toNat 0)) (by omega) (by omega)
        refine ⟨r, Ev.congr (fun k => ?_) hr, hrl⟩
        rw [if_pos rfl, e4]
        simp only [Option.bind_some]
        have hw : wrap64 (1000 + q) = 1000 + q := w64 (by omega) (by omega)
        rw [hw, if_pos (by omega), if_pos (by omega)]
      | false =>
        obtain ⟨r, hr, hrl⟩ := hj a3 s3 t (by omega) (by omega)
        exact ⟨r, Ev.congr (fun k => if_neg (by decide)) hr, hrl⟩
    obtain ⟨r, hr, hrl⟩ := tail
    refine ⟨r, Ev.step (f := fun k => (spec_l1Cur_text.f k l a1 s1 p).bind fun bt128 => ((spec_l1Cur_one.f l bt128.2.1 bt128.2.2 20).bind fun bt132 => (if bt132.1 = true then ((spec_l1Cur_pick.f l bt132.2.1 bt132.2.2 2).bind fun bt135 => (if 0 ≤ (wrap64 (1000 + bt135.1)) then (if (wrap64 (1000 + bt135.1) : Int).toNat ≤ 281474976710656 then (spec_DrawSectionsBytes.j1 k acc x ((d + 1 : Nat) : Int) l bt135.2.1 bt135.2.2 x (strOfNums (List.replicate (wrap64 (1000 + bt135.1) : Int).toNat 0))) else (none)) else (none))) else (spec_DrawSectionsBytes.j1 k acc x ((d + 1 : Nat) : Int) l bt132.2.1 bt132.2.2 x bt128.1)))) (fun k => ?_) (Ev.bind e2 hr), hrl⟩
    rw [spec_DrawSectionsBytes.l0, if_pos (by omega), e1]
    rfl
theorem draw_secs {l : List Int} (hl : U8 l) : ∃ r : List S45, Ev (fun k => spec_DrawSectionsBytes.f k l) r ∧ r.length ≤ 100 := by
  obtain ⟨p, a1, s1, e1, _, _, ha1, hb1⟩ := pick_ok hl (a := 0) (by omega) (by omega) 0 3 (by omega) (by omega)
  obtain ⟨q, a2, s2, e2, hq0, hq1, ha2, hb2⟩ := pick_ok hl (a := a1) (by omega) (by omega) s1 5 (by omega) (by omega)
  obtain ⟨q, rfl⟩ := Int.eq_ofNat_of_zero_le hq0
  obtain ⟨r, hr, hrl⟩ := secs_l0 hl q [] p a2 s2 (by simp; omega) (by omega) (by omega)
  refine ⟨r, Ev.congr (fun k => ?_) hr, hrl⟩
  unfold spec_DrawSectionsBytes.f
  rw [e1]
  simp only [Option.bind_some, e2]
theorem draw_name {l : List Int} (hl : U8 l) : ∃ t : ByteArray, Ev (fun k => spec_DrawNameBytes.f k l) t ∧ t.size ≤ 200 := by
  obtain ⟨c, a1, s1, e1, ha1, hb1⟩ := one_ok hl (a := 0) (by omega) (by omega) 0 12 (by omega) (by omega)
  unfold spec_DrawNameBytes.f
  rw [e1]
  simp only [Option.bind_some]
  cases c with
  | true =>
    obtain ⟨p, a2, s2, e2, hp0, hp1, _, _⟩ := pick_ok hl (a := a1) (by omega) (by omega) s1 2 (by omega) (by omega)
    have hw : wrap64 (100 + p) = 100 + p := w64 (by omega) (by omega)
    refine ⟨strOfNums (List.replicate (100 + p).toNat 0), Ev.congr (fun k => ?_) (Ev.now _), ?_⟩
    · rw [if_pos rfl, e2]
      simp only [Option.bind_some]
      rw [hw, if_pos (by omega), if_pos (by omega)]
    · rw [strOfNums_size, List.length_replicate]; omega
  | false =>
    obtain ⟨p, a2, s2, e2, hp0, hp1, ha2, hb2⟩ := pick_ok hl (a := a1) (by omega) (by omega) s1 20 (by omega) (by omega)
    obtain ⟨t, a3, s3, e3, ht, _, _⟩ := text_ok hl (a := a2) (by omega) (by omega) s2 p hp0 (by omega)
    refine ⟨t, ?_, by omega⟩
    refine Ev.congr (f := fun k => (spec_l1Cur_text.f k l a2 s2 p).bind fun bt206 => (some bt206.1)) (fun k => ?_) (Ev.bind e3 (Ev.now _))
    rw [if_neg (by decide), e2]
    rfl
/-! names -/
theorem takeName_ok (b more : ByteArray) (hb : b.size ≤ 100) (hm : more.size ≤ 900000) : Ev (fun k => impl_TakeName.f k (strOfNums (U (b.size : Int)) ++ (b ++ more))) (b, (((U (b.size : Int)).length + b.size : Nat) : Int), true) := by
  have hl := U_len (n := (b.size : Int)) (by omega) (by omega)
  unfold impl_TakeName.f
  refine Ev.bind (a := (b, (((U (b.size : Int)).length + b.size : Nat) : Int))) ⟨40, fun k hk => takeText_ok k hk b more (by omega) hm⟩ ?_
  refine Ev.congr (fun k => ?_) (Ev.now _)
  show (if (((U (b.size : Int)).length + b.size : Nat) : Int) = 0 then some ((⟨#[]⟩ : ByteArray), (0 : Int), false) else if (b.size : Int) > 100 then some ((⟨#[]⟩ : ByteArray), (0 : Int), false) else some (b, (((U (b.size : Int)).length + b.size : Nat) : Int), true)) = _
  rw [if_neg (by omega), if_neg (by omega)]
theorem name_big (b : ByteArray) (h : (b.size : Int) > 100) : Ev (fun k => impl_NameBytes.f k b) ((⟨#[]⟩ : ByteArray), false) ∧ Ev (fun k => spec_NameBytes.f k b) ((⟨#[]⟩ : ByteArray), false) :=
  ⟨Ev.congr (fun k => by rw [impl_NameBytes.f, if_pos h]) (Ev.now _), Ev.congr (fun k => by rw [spec_NameBytes.f, if_pos h]) (Ev.now _)⟩
theorem name_ok (b : ByteArray) (h : ¬ (b.size : Int) > 100) : Ev (fun k => impl_NameBytes.f k b) (strOfNums (U (b.size : Int)) ++ b, true) ∧ Ev (fun k => spec_NameBytes.f k b) (strOfNums (U (b.size : Int)) ++ b, true) := by
  have hl := U_len (n := (b.size : Int)) (by omega) (by omega)
  have hw : IntKind.u64.wrap (b.size : Int) = (b.size : Int) := wu64 (by omega) (by omega)
  constructor
  · refine ⟨10, fun k hk => ?_⟩
    show impl_NameBytes.f k b = _
    rw [impl_NameBytes.f, if_neg h, hw, impl_U k hk _ (by omega) (by omega), Option.bind_some, if_pos (by rw [U_size]; omega)]
  · refine ⟨10, fun k hk => ?_⟩
    show spec_NameBytes.f k b = _
    rw [spec_NameBytes.f, if_neg h, hw, spec_U k hk _ (by omega) (by omega), Option.bind_some, if_pos (by rw [U_size]; omega)]
end Go.Proofs.Ytdklegalfcmboaa.Sn
