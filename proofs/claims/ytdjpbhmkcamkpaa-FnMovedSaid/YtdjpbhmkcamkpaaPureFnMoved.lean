/- The law FnMoved, on numbers and bytes alone. -/
import Derived.Test.YtdjpbhmkcamkpaaDm
import Derived.Test.YtdjpbhmkcamkpaaQx21
import Derived.Test.YtdjpbhmkcamkpaaQx25
namespace Go.Proofs.Ytdjpbhmkcamkpaa.Pure
open Go.RowKit Go.Proofs.Ytdjpbhmkcamkpaa.Q Go.Proofs.YtdjpbhmkcamkpaaW.PrintWords Go.Proofs.YtdjpbhmkcamkpaaW.PrintLast Go.Proofs.YtdjpbhmkcamkpaaW.PrintMore Go.Proofs.Ytdjpbhmkcamkpaa.Mb Go.Proofs.Ytdjpbhmkcamkpaa.Mem Go.Proofs.Ytdjpbhmkcamkpaa.Cur
set_option linter.unusedSimpArgs false
set_option linter.unusedVariables false

theorem cw_j0 {l : List Int} (hl : U8 l) (k : Nat) (x y : Int) (f : Bool) (a s m : Int) (D : ByteArray) (h0 : 0 ≤ a) (h1 : a ≤ 4611686018427386000) (hx0 : -9223372036854775808 ≤ x) (hx : x ≤ 9223372036854775807) (hy0 : -9223372036854775808 ≤ y) (hy : y ≤ 9223372036854775807) :
    ∃ b n, spec_DrawCopyWithin.j0 (k + 1) x y f l a s m D = some (m, D, x, b, n) ∧ -9223372036854775808 ≤ b ∧ b ≤ 9223372036854775807 ∧ -1 ≤ n ∧ n ≤ 28 := by
  simp only [spec_DrawCopyWithin.j0]
  cases f
  · obtain ⟨q, a1, s1, e1, hq0, hq1, _, _⟩ := pick_ok hl h0 (by omega) s 30 (by omega) (by omega)
    rw [if_neg (by decide), e1]
    simp only [Option.bind_some]
    exact ⟨_, _, rfl, hy0, hy, by rw [w64 (by omega) (by omega)]; omega, by rw [w64 (by omega) (by omega)]; omega⟩
  · obtain ⟨p, a1, s1, e1, hp0, hp1, ha1, hb1⟩ := pick_ok hl h0 (by omega) s 9 (by omega) (by omega)
    rw [if_pos rfl, e1]
    simp only [Option.bind_some]
    obtain ⟨q, a2, s2, e2, hq0, hq1, _, _⟩ := pick_ok hl (a := a1) (by omega) (by omega) s1 30 (by omega) (by omega)
    rw [e2]
    simp only [Option.bind_some]
    have := wrap64_range (wrap64 (x + p) - 4)
    exact ⟨_, _, rfl, this.1, this.2, by rw [w64 (by omega) (by omega)]; omega, by rw [w64 (by omega) (by omega)]; omega⟩
theorem drawCW {l : List Int} (hl : U8 l) {k : Nat} (hk : 1200 ≤ k) : ∃ m d a b n, spec_DrawCopyWithin.f k l = some (m, d, a, b, n) ∧ d.size ≤ 601 ∧ -9223372036854775808 ≤ a ∧ a ≤ 9223372036854775807 ∧ -9223372036854775808 ≤ b ∧ b ≤ 9223372036854775807 ∧ -1 ≤ n ∧ n ≤ 28 := by
  obtain ⟨k, rfl⟩ : ∃ j, k = j + 1 := ⟨k - 1, by omega⟩
  unfold spec_DrawCopyWithin.f
  obtain ⟨m, D, a1, s1, e1, h1, h2, h3, h4, h5⟩ := memory_ok hl (a := 0) (by omega) (by omega) 0 (k := k + 1) (by omega)
  rw [e1]
  simp only [Option.bind_some]
  obtain ⟨x, a2, s2, e2, g1, g2, g3, g4⟩ := place_ok hl (a := a1) (by omega) (by omega) s1
  rw [e2]
  simp only [Option.bind_some]
  obtain ⟨y, a3, s3, e3, f1, f2, f3, f4⟩ := place_ok hl (a := a2) (by omega) (by omega) s2
  rw [e3]
  simp only [Option.bind_some]
  obtain ⟨b, a4, s4, e4, ha4, hb4⟩ := one_ok hl (a := a3) (by omega) (by omega) s3 2 (by omega) (by omega)
  rw [e4]
  simp only [Option.bind_some]
  have key : ∀ f : Bool, ∃ m' d a b n, spec_DrawCopyWithin.j0 (k + 1) x y f l a4 s4 m D = some (m', d, a, b, n) ∧ d.size ≤ 601 ∧ -9223372036854775808 ≤ a ∧ a ≤ 9223372036854775807 ∧ -9223372036854775808 ≤ b ∧ b ≤ 9223372036854775807 ∧ -1 ≤ n ∧ n ≤ 28 := by
    intro f
    obtain ⟨b, n, e, q1, q2, q3, q4⟩ := cw_j0 hl k x y f a4 s4 m D (by omega) (by omega) (by omega) g2 (by omega) f2
    exact ⟨m, D, x, b, n, e, h1, by omega, g2, q1, q2, q3, q4⟩
  split
  · exact key _
  · exact key _
/-- The code of a copy. -/
def cpC (m : Int) (d : ByteArray) (a b n : Int) : Int := if gm m d = true ∧ 0 ≤ a ∧ 0 ≤ b ∧ 0 ≤ n then (if a + n ≤ (d.size : Int) ∧ b + n ≤ (d.size : Int) then 0 else 2) else 1
theorem piece_size (d : ByteArray) (b n : Nat) (h : b + n ≤ d.size) : (d.extract b (b + n)).size = n := by
  rw [ByteArray.size_extract]; omega
theorem impl_cp (k : Nat) (m : Int) (d : ByteArray) (a b n : Int) (hd : d.size ≤ 1000000) (hn : n ≤ 1000) : ∃ m' d', impl_CopyWithin.f (k + 1) m d a b n = some (m', d', cpC m d a b n) ∧ (cpC m d a b n = 0 → d' = stD d a.toNat (d.extract b.toNat (b.toNat + n.toNat))) := by
  unfold impl_CopyWithin.f cpC
  rw [impl_gm]
  simp only [Option.bind_some, impl_CopyWithin.j0, impl_orZero.f, impl_gm]
  by_cases hg : gm m d = true
  · rw [hg]
    simp only [if_true, true_and, Option.bind_some]
    by_cases h1 : a < 0
    · rw [if_pos h1, if_neg (by omega)]
      exact ⟨_, _, rfl, fun h => by simp at h⟩
    · rw [if_neg h1]
      by_cases h2 : b < 0
      · rw [if_pos h2, if_neg (by omega)]
        exact ⟨_, _, rfl, fun h => by simp at h⟩
      · rw [if_neg h2]
        by_cases h3 : n < 0
        · rw [decide_eq_true h3, if_pos rfl, if_neg (by omega)]
          exact ⟨_, _, rfl, fun h => by simp at h⟩
        · rw [decide_eq_false h3, if_neg (by decide), if_pos (show 0 ≤ a ∧ 0 ≤ b ∧ 0 ≤ n by omega), within_ok m d a n (by omega) (by omega) (by omega), within_ok m d b n (by omega) (by omega) (by omega)]
          simp only [Option.bind_some]
          by_cases h4 : a + n ≤ (d.size : Int)
          · by_cases h5 : b + n ≤ (d.size : Int)
            · obtain ⟨a, rfl⟩ := Int.eq_ofNat_of_zero_le (show 0 ≤ a by omega)
              obtain ⟨b, rfl⟩ := Int.eq_ofNat_of_zero_le (show 0 ≤ b by omega)
              obtain ⟨n, rfl⟩ := Int.eq_ofNat_of_zero_le (show 0 ≤ n by omega)
              rw [decide_eq_true h4, decide_eq_true h5, if_pos rfl, if_pos rfl, if_pos (⟨h4, h5⟩ : (a : Int) + (n : Int) ≤ (d.size : Int) ∧ (b : Int) + (n : Int) ≤ (d.size : Int)), w64 (n := (b : Int) + (n : Int)) (by omega) (by omega), if_pos (show (0 : Int) ≤ (b : Int) by omega), if_pos (show (b : Int) ≤ (b : Int) + (n : Int) by omega), if_pos h5, Int.toNat_natCast, Int.toNat_natCast, Int.toNat_natCast, show ((b : Int) + (n : Int)).toNat = b + n by omega]
              rw [with_ok m d a _ (by rw [piece_size d b n (by omega)]; omega) (by omega)]
              exact ⟨_, _, rfl, fun _ => rfl⟩
            · rw [decide_eq_true h4, decide_eq_false h5, if_pos rfl, if_neg (by decide), if_neg (show ¬ (a + n ≤ (d.size : Int) ∧ b + n ≤ (d.size : Int)) from fun h => h5 h.2)]
              exact ⟨_, _, rfl, fun h => by simp at h⟩
          · rw [decide_eq_false h4, if_neg (by decide), if_neg (show ¬ (a + n ≤ (d.size : Int) ∧ b + n ≤ (d.size : Int)) from fun h => h4 h.1)]
            exact ⟨_, _, rfl, fun h => by simp at h⟩
  · have hg' : gm m d = false := by simpa using hg
    rw [hg']
    simp only [Bool.false_eq_true, if_false, false_and, if_true, Option.bind_some]
    exact ⟨_, _, rfl, fun h => by simp at h⟩
theorem spec_cp (k : Nat) (m : Int) (d : ByteArray) (a b n : Int) (hd : d.size ≤ 1000000) (hn : n ≤ 1000) : ∃ m' d', spec_CopyWithin.f (k + 1) m d a b n = some (m', d', cpC m d a b n) := by
  unfold spec_CopyWithin.f cpC
  rw [spec_gm]
  simp only [Option.bind_some, spec_CopyWithin.j0]
  have hin : spec_l5Inside.f = impl_Memory_within.f := rfl
  by_cases hg : gm m d = true
  · rw [hg]
    simp only [if_true, true_and, Option.bind_some]
    by_cases h1 : a < 0
    · rw [if_pos h1, if_neg (by omega)]
      exact ⟨_, _, rfl⟩
    · rw [if_neg h1]
      by_cases h2 : b < 0
      · rw [if_pos h2, if_neg (by omega)]
        exact ⟨_, _, rfl⟩
      · rw [if_neg h2]
        by_cases h3 : n < 0
        · rw [decide_eq_true h3, if_pos rfl, if_neg (by omega)]
          exact ⟨_, _, rfl⟩
        · rw [decide_eq_false h3, if_neg (by decide), if_pos (show 0 ≤ a ∧ 0 ≤ b ∧ 0 ≤ n by omega), hin, within_ok m d a n (by omega) (by omega) (by omega), within_ok m d b n (by omega) (by omega) (by omega)]
          simp only [Option.bind_some]
          by_cases h4 : a + n ≤ (d.size : Int)
          · by_cases h5 : b + n ≤ (d.size : Int)
            · obtain ⟨a, rfl⟩ := Int.eq_ofNat_of_zero_le (show 0 ≤ a by omega)
              obtain ⟨b, rfl⟩ := Int.eq_ofNat_of_zero_le (show 0 ≤ b by omega)
              obtain ⟨n, rfl⟩ := Int.eq_ofNat_of_zero_le (show 0 ≤ n by omega)
              rw [decide_eq_true h4, decide_eq_true h5, if_pos rfl, if_pos rfl, if_pos (⟨h4, h5⟩ : (a : Int) + (n : Int) ≤ (d.size : Int) ∧ (b : Int) + (n : Int) ≤ (d.size : Int)), w64 (n := (b : Int) + (n : Int)) (by omega) (by omega), if_pos (show (0 : Int) ≤ (b : Int) by omega), if_pos (show (b : Int) ≤ (b : Int) + (n : Int) by omega), if_pos h5, Int.toNat_natCast, show ((b : Int) + (n : Int)).toNat = b + n by omega]
              rw [store_same, with_ok m d a _ (by rw [piece_size d b n (by omega)]; omega) (by omega)]
              exact ⟨_, _, rfl⟩
            · rw [decide_eq_true h4, decide_eq_false h5, if_pos rfl, if_neg (by decide), if_neg (show ¬ (a + n ≤ (d.size : Int) ∧ b + n ≤ (d.size : Int)) from fun h => h5 h.2)]
              exact ⟨_, _, rfl⟩
          · rw [decide_eq_false h4, if_neg (by decide), if_neg (show ¬ (a + n ≤ (d.size : Int) ∧ b + n ≤ (d.size : Int)) from fun h => h4 h.1)]
            exact ⟨_, _, rfl⟩
  · have hg' : gm m d = false := by simpa using hg
    rw [hg']
    simp only [Bool.false_eq_true, if_false, false_and]
    exact ⟨_, _, rfl⟩
theorem cpC_in {m : Int} {d : ByteArray} {a b n : Int} (h : cpC m d a b n = 0) : 0 ≤ a ∧ 0 ≤ b ∧ 0 ≤ n ∧ a + n ≤ (d.size : Int) ∧ b + n ≤ (d.size : Int) := by
  unfold cpC at h
  split at h
  · rename_i h1
    split at h
    · rename_i h2; exact ⟨h1.2.1, h1.2.2.1, h1.2.2.2, h2.1, h2.2⟩
    · simp at h
  · simp at h

/-! growing -/
theorem rep_zero (c : Nat) : Lib.repeatL [0] c = List.replicate c (0 : UInt8) := by
  induction c with
  | zero => rfl
  | succ c ih => rw [List.replicate_succ, ← ih]; rfl
/-- c bytes 0. -/
def zs (c : Nat) : ByteArray := ⟨(List.replicate c (0 : UInt8)).toArray⟩
theorem zs_size (c : Nat) : (zs c).size = c := by
  rw [← tl_size]; simp [zs]
theorem rep_ok (c : Nat) (hc : c ≤ 100000) : strings_Repeat.f (⟨#[0]⟩ : ByteArray) (c : Int) = some (zs c) := by
  unfold strings_Repeat.f zs
  have h1 : (⟨#[0]⟩ : ByteArray).size = 1 := rfl
  rw [if_pos (by omega), if_pos (by omega), Int.toNat_natCast, h1, if_pos (by omega)]
  have h2 : (⟨#[0]⟩ : ByteArray).data.toList = [0] := rfl
  rw [h2, rep_zero]
theorem bt_tail (d : ByteArray) (c i : Nat) (h1 : d.size ≤ i) (h2 : i < d.size + c) : bt (d ++ zs c) (i : Int) = 0 := by
  unfold bt
  have hs : (i : Int).toNat < (d ++ zs c).size := by rw [Int.toNat_natCast, ByteArray.size_append, zs_size]; exact h2
  rw [dif_pos hs]
  have e : (d ++ zs c)[(i : Int).toNat]'hs = 0 := by
    have e1 : (d ++ zs c)[(i : Int).toNat]'hs = (d ++ zs c).data.toList[i]'(by rw [tl_size, ByteArray.size_append, zs_size]; exact h2) := by
      simp only [Int.toNat_natCast]; rfl
    rw [e1]
    have e2 : (d ++ zs c).data.toList[i]? = some 0 := by
      rw [tl_append, List.getElem?_append_right (by rw [tl_size]; exact h1), tl_size]
      show (List.replicate c (0 : UInt8))[i - d.size]? = some 0
      rw [List.getElem?_replicate, if_pos (by omega)]
    have e3 := List.getElem?_eq_getElem (l := (d ++ zs c).data.toList) (i := i) (by rw [tl_size, ByteArray.size_append, zs_size]; exact h2)
    rw [e3] at e2
    exact Option.some.inj e2
  rw [e]
  rfl
theorem zero_loop (d : ByteArray) (c : Nat) (m : Int) (hd : d.size + c ≤ 1000000) (t : Nat) : ∀ (k i : Nat), t < k → d.size ≤ i → i + t = d.size + c → laws_FnMoved.l0 k (i : Int) m (d ++ zs c) = some true := by
  have hsz : (d ++ zs c).size = d.size + c := by rw [ByteArray.size_append, zs_size]
  induction t with
  | zero =>
    intro k i hk hi ht
    obtain ⟨k, rfl⟩ : ∃ j, k = j + 1 := ⟨k - 1, by omega⟩
    simp only [laws_FnMoved.l0]
    rw [hsz, if_neg (by omega)]
  | succ t ih =>
    intro k i hk hi ht
    obtain ⟨k, rfl⟩ : ∃ j, k = j + 1 := ⟨k - 1, by omega⟩
    simp only [laws_FnMoved.l0]
    rw [hsz, if_pos (by omega), if_pos (by omega), bt_tail d c i hi (by omega), if_pos rfl, w64 (n := (i : Int) + 1) (by omega) (by omega)]
    exact ih k (i + 1) (by omega) (by omega) (by omega)
theorem front_same (d z : ByteArray) : (d ++ z).extract 0 d.size = d := by
  refine ba_ext ?_
  rw [tl_extract, tl_append, List.drop_zero, List.take_left' (tl_size d)]
theorem draw_grow {l : List Int} (hl : U8 l) {k : Nat} (hk : 5000 ≤ k + 1) : ∃ m d g, spec_DrawGrowMemory.f k l = some (m, d, g) ∧ d.size ≤ 601 ∧ -1 ≤ m ∧ m ≤ 9 ∧ -1 ≤ g ∧ g ≤ 4 := by
  unfold spec_DrawGrowMemory.f
  obtain ⟨m, D, a1, s1, e1, h1, h2, h3, h4, h5⟩ := memory_ok hl (a := 0) (by omega) (by omega) 0 (k := k) (by omega)
  rw [e1]
  simp only [Option.bind_some]
  obtain ⟨p, a2, s2, e2, hp0, hp1, _, _⟩ := pick_ok hl (a := a1) (by omega) (by omega) s1 6 (by omega) (by omega)
  rw [e2]
  simp only [Option.bind_some]
  rw [w64 (n := p - 1) (by omega) (by omega)]
  exact ⟨m, D, p - 1, rfl, h1, h2, h3, by omega, by omega⟩
theorem gi_bad (k : Nat) (m : Int) (d : ByteArray) (g : Int) (hg : gm m d = false) : impl_GrowMemory.f (k + 1) m d g = some (0, (⟨#[]⟩ : ByteArray), 0, false) := by
  unfold impl_GrowMemory.f
  rw [impl_gm, hg, Option.bind_some, if_neg (by decide)]
  simp only [impl_GrowMemory.j0]
  rw [if_pos trivial]
  unfold impl_orZero.f
  rw [impl_gm, hg, Option.bind_some, if_neg (by decide), Option.bind_some]
theorem gs_bad (m : Int) (d : ByteArray) (g : Int) (hg : gm m d = false) : spec_GrowMemory.f m d g = some (0, (⟨#[]⟩ : ByteArray), 0, false) := by
  unfold spec_GrowMemory.f
  rw [spec_gm, hg, Option.bind_some, if_neg (by decide)]
theorem gi_neg (k : Nat) (m : Int) (d : ByteArray) (g : Int) (hg : gm m d = true) (hb : g < 0) : impl_GrowMemory.f (k + 1) m d g = some (m, d, 0, false) := by
  unfold impl_GrowMemory.f
  rw [impl_gm, hg, Option.bind_some, if_pos rfl, if_pos hb]
  simp only [impl_GrowMemory.j0]
  rw [if_pos trivial]
  unfold impl_orZero.f
  rw [impl_gm, hg, Option.bind_some, if_pos rfl, Option.bind_some]
theorem gs_neg (m : Int) (d : ByteArray) (g : Int) (hg : gm m d = true) (hb : g < 0) : spec_GrowMemory.f m d g = some (m, d, 0, false) := by
  unfold spec_GrowMemory.f spec_l1In.f
  rw [spec_gm, hg, Option.bind_some, if_pos rfl, if_neg (show ¬ g ≥ 0 by omega), Option.bind_some, if_neg (by decide)]
theorem gi_out (k : Nat) (m : Int) (d : ByteArray) (g : Int) (hg : gm m d = true) (hb : 0 ≤ g) (hb4 : g ≤ 4) (hd : d.size ≤ 601) (hp : (d.size : Int) / 256 + g > m) : impl_GrowMemory.f (k + 1) m d g = some (m, d, -1, true) := by
  unfold impl_GrowMemory.f
  rw [impl_gm, hg, Option.bind_some, if_pos rfl, if_neg (show ¬ g < 0 by omega), decide_eq_false (show ¬ g > 8 by omega)]
  simp only [impl_GrowMemory.j0]
  rw [if_neg (by decide), w64 (n := (d.size : Int) / 256) (by omega) (by omega), w64 (n := (d.size : Int) / 256 + g) (by omega) (by omega), if_pos hp]
theorem gs_out (m : Int) (d : ByteArray) (g : Int) (hg : gm m d = true) (hb : 0 ≤ g) (hb4 : g ≤ 4) (hd : d.size ≤ 601) (hp : (d.size : Int) / 256 + g > m) : spec_GrowMemory.f m d g = some (m, d, -1, true) := by
  unfold spec_GrowMemory.f spec_l1In.f
  rw [spec_gm, hg, Option.bind_some, if_pos rfl, if_pos (show g ≥ 0 by omega), decide_eq_true (show g ≤ 8 by omega), Option.bind_some, if_pos rfl, w64 (n := (d.size : Int) / 256) (by omega) (by omega), w64 (n := (d.size : Int) / 256 + g) (by omega) (by omega), if_pos hp]
theorem gi_in (k : Nat) (m : Int) (d : ByteArray) (g : Nat) (hg : gm m d = true) (hb4 : g ≤ 4) (hd : d.size ≤ 601) (hp : ¬ (d.size : Int) / 256 + (g : Int) > m) : impl_GrowMemory.f (k + 1) m d (g : Int) = some (m, d ++ zs (g * 256), (d.size : Int) / 256, true) := by
  have hr := rep_ok (g * 256) (by omega)
  rw [show ((g * 256 : Nat) : Int) = (g : Int) * 256 by omega] at hr
  have hz := zs_size (g * 256)
  unfold impl_GrowMemory.f
  rw [impl_gm, hg, Option.bind_some, if_pos rfl, if_neg (show ¬ (g : Int) < 0 by omega), decide_eq_false (show ¬ (g : Int) > 8 by omega)]
  simp only [impl_GrowMemory.j0]
  rw [if_neg (by decide), w64 (n := (d.size : Int) / 256) (by omega) (by omega), w64 (n := (d.size : Int) / 256 + (g : Int)) (by omega) (by omega), if_neg hp, w64 (n := (g : Int) * 256) (by omega) (by omega), hr, Option.bind_some, hz, if_pos (by omega)]
theorem gs_in (m : Int) (d : ByteArray) (g : Nat) (hg : gm m d = true) (hb4 : g ≤ 4) (hd : d.size ≤ 601) (hp : ¬ (d.size : Int) / 256 + (g : Int) > m) : ∃ y, spec_GrowMemory.f m d (g : Int) = some (m, y, (d.size : Int) / 256, true) := by
  refine ⟨d ++ strOfNums (List.replicate ((g : Int) * 256).toNat 0), ?_⟩
  have hz : (strOfNums (List.replicate ((g : Int) * 256).toNat 0)).size = ((g : Int) * 256).toNat := by rw [strOfNums_size, List.length_replicate]
  unfold spec_GrowMemory.f spec_l1In.f
  rw [spec_gm, hg, Option.bind_some, if_pos rfl, if_pos (show (g : Int) ≥ 0 by omega), decide_eq_true (show (g : Int) ≤ 8 by omega), Option.bind_some, if_pos rfl, w64 (n := (d.size : Int) / 256) (by omega) (by omega), w64 (n := (d.size : Int) / 256 + (g : Int)) (by omega) (by omega), if_neg hp, w64 (n := (g : Int) * 256) (by omega) (by omega), if_pos (show (0 : Int) ≤ (g : Int) * 256 by omega), if_pos (show ((g : Int) * 256).toNat ≤ 281474976710656 by omega), Option.bind_some, hz, if_pos (show d.size + ((g : Int) * 256).toNat ≤ 9223372036854775807 by omega)]
theorem j1_zero (k : Nat) (g : Nat) (m : Int) (d : ByteArray) (hb4 : g ≤ 4) (hd : d.size ≤ 601) (hk : 4000 ≤ k) : laws_FnMoved.j1 k (g : Int) ((d.size : Int) / 256) true false m d m (d ++ zs (g * 256)) = some true := by
  obtain ⟨k, rfl⟩ : ∃ j, k = j + 1 := ⟨k - 1, by omega⟩
  obtain ⟨k, rfl⟩ : ∃ j, k = j + 1 := ⟨k - 1, by omega⟩
  have hne : ¬ (d.size : Int) / 256 = -1 := by omega
  have hsz : (d ++ zs (g * 256)).size = d.size + g * 256 := by rw [ByteArray.size_append, zs_size]
  simp only [laws_FnMoved.j1]
  rw [if_neg (by decide), if_pos trivial, if_neg hne, w64 (n := (g : Int) * 256) (by omega) (by omega), w64 (n := (d.size : Int) + (g : Int) * 256) (by omega) (by omega), hsz, if_pos (show ((d.size + g * 256 : Nat) : Int) = (d.size : Int) + (g : Int) * 256 by omega), if_pos (show (0 : Int) ≤ (d.size : Int) by omega), if_pos (show (d.size : Int) ≤ ((d.size + g * 256 : Nat) : Int) by omega), Int.toNat_natCast, front_same]
  simp only [laws_FnMoved.j2, bne_self_eq_false, Bool.false_eq_true, if_false]
  exact zero_loop d (g * 256) m (by omega) (g * 256) k d.size (by omega) (Nat.le_refl _) rfl
theorem j0_ok {l : List Int} (hl : U8 l) {k : Nat} (hk : 5000 ≤ k) : laws_FnMoved.j0 k l false = some true := by
  obtain ⟨k, rfl⟩ : ∃ j, k = j + 1 := ⟨k - 1, by omega⟩
  obtain ⟨m, d, g, e1, h1, h2, h3, h4, h5⟩ := draw_grow hl hk
  simp only [laws_FnMoved.j0]
  rw [if_neg (by decide), e1]
  simp only [Option.bind_some]
  obtain ⟨k, rfl⟩ : ∃ j, k = j + 1 := ⟨k - 1, by omega⟩
  by_cases hg : gm m d = true
  · by_cases hb : g < 0
    · rw [gi_neg k m d g hg hb, gs_neg m d g hg hb]
      simp [laws_FnMoved.j1]
    · obtain ⟨g, rfl⟩ := Int.eq_ofNat_of_zero_le (show 0 ≤ g by omega)
      by_cases hp : (d.size : Int) / 256 + (g : Int) > m
      · rw [gi_out k m d g hg (by omega) (by omega) h1 hp, gs_out m d g hg (by omega) (by omega) h1 hp]
        simp [laws_FnMoved.j1]
      · obtain ⟨y, es⟩ := gs_in m d g hg (by omega) h1 hp
        rw [gi_in k m d g hg (by omega) h1 hp, es]
        simp only [Option.bind_some, bne_self_eq_false, Bool.false_eq_true, if_false, if_true]
        exact j1_zero (k + 1) g m d (by omega) h1 (by omega)
  · have hg' : gm m d = false := by simpa using hg
    rw [gi_bad k m d g hg', gs_bad m d g hg']
    simp [laws_FnMoved.j1]
theorem FnMoved : laws_FnMoved.Pure := by
  intro l0 l1 hl0 hl0' hu0 hl1 hl1' hu1
  have hu0 := u8_of hu0
  have hu1 := u8_of hu1
  obtain ⟨k, hk⟩ : ∃ k, 6000 ≤ k := ⟨6000, Nat.le_refl _⟩
  refine ⟨k + 1, ?_⟩
  unfold laws_FnMoved.f
  rw [len_sum hl0' hl1']
  have hj := j0_ok hu1 (k := k + 1) (by omega)
  by_cases cl : (l0.length : Int) + (l1.length : Int) > 1048576
  · rw [if_pos cl]
  · rw [if_neg cl]
    obtain ⟨m, d, a, b, n, e1, h1, h2, h3, h4, h5, h6, h7⟩ := drawCW hu0 (k := k + 1) (by omega)
    rw [e1]
    simp only [Option.bind_some]
    obtain ⟨m', d', p1, p2⟩ := impl_cp k m d a b n (by omega) (by omega)
    obtain ⟨m2, d2, q1⟩ := spec_cp k m d a b n (by omega) (by omega)
    rw [p1, q1]
    simp only [Option.bind_some, if_true]
    by_cases hc : cpC m d a b n = 0
    · rw [if_pos hc]
      have hin := cpC_in hc
      have hd' := p2 hc
      subst hd'
      clear p1 q1 p2 e1 hc
      obtain ⟨a, rfl⟩ := Int.eq_ofNat_of_zero_le hin.1
      obtain ⟨b, rfl⟩ := Int.eq_ofNat_of_zero_le hin.2.1
      obtain ⟨n, rfl⟩ := Int.eq_ofNat_of_zero_le hin.2.2.1
      have hs := piece_size d b n (by omega)
      have c1 : a + n ≤ d.size := by omega
      have c2 : b + n ≤ d.size := by omega
      have hle : a + (d.extract b (b + n)).size ≤ d.size := by rw [hs]; omega
      have w1 : wrap64 ((a : Int) + (n : Int)) = ((a + n : Nat) : Int) := by rw [w64 (by omega) (by omega)]; omega
      have w2 : wrap64 ((b : Int) + (n : Int)) = ((b + n : Nat) : Int) := by rw [w64 (by omega) (by omega)]; omega
      simp only [Int.toNat_natCast]
      have x1 := stD_size d a _ hle
      have x2 := stD_mid d a _ hle
      have x3 := stD_front d a _ hle
      have x4 := stD_back d a _ hle
      rw [x1] at x4
      rw [hs] at x2 x4
      clear hin hle hs h2 h3 h4 h5 h6 h7 hk hl0 hl0' hl1 hl1' cl
      generalize stD d a (d.extract b (b + n)) = D at *
      rw [w1, w2]
      simp only [Int.toNat_natCast, x1, x2, x3, x4]
      rw [if_pos trivial, if_pos (Int.natCast_nonneg a), if_pos (Int.ofNat_le.2 (Nat.le_add_right a n)), if_pos (Int.ofNat_le.2 c1), if_pos (Int.natCast_nonneg b), if_pos (Int.ofNat_le.2 (Nat.le_add_right b n)), if_pos (Int.ofNat_le.2 c2), if_pos trivial, if_pos (Int.ofNat_le.2 (Nat.le_trans (Nat.le_add_right a n) c1)), if_pos (Int.ofNat_le.2 (Nat.le_trans (Nat.le_add_right a n) c1)), if_pos trivial, if_pos (Int.natCast_nonneg _), if_pos (Int.ofNat_le.2 c1), bne_self_eq_false]
      exact hj
    · rw [if_neg hc]
      exact hj
end Go.Proofs.Ytdjpbhmkcamkpaa.Pure
