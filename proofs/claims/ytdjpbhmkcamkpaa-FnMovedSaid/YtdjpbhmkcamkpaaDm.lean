/- Drawn memories, texts and places. -/
import Derived.Test.YtdjpbhmkcamkpaaCurW
import Derived.Test.YtdjpbhmkcamkpaaMs
import Derived.Test.YtdjpbhmkcamkpaaQx6
namespace Go.Proofs.Ytdjpbhmkcamkpaa.Cur
open Go.RowKit Go.Proofs.Ytdjpbhmkcamkpaa.Q Go.Proofs.YtdjpbhmkcamkpaaW.PrintWords Go.Proofs.YtdjpbhmkcamkpaaW.PrintLast Go.Proofs.YtdjpbhmkcamkpaaW.PrintMore Go.Proofs.Ytdjpbhmkcamkpaa.Mb Go.Proofs.Ytdjpbhmkcamkpaa.Mem
set_option linter.unusedSimpArgs false
set_option linter.unusedVariables false
theorem text_l0 {l : List Int} (hl : U8 l) (n : Nat) (hn : n ≤ 1000) (d : Nat) : ∀ (k i : Nat) (x : List Int) (a s : Int), d < k → i + d = n → x.length = n → 0 ≤ a → a + 2 * d ≤ 4611686018427386000 →
    ∃ r a' s', spec_l1Cur_text.l0 k x (n : Int) (i : Int) l a s = some (r, a', s') ∧ r.size = n ∧ a ≤ a' ∧ a' ≤ a + 2 * d := by
  induction d with
  | zero =>
    intro k i x a s hk hi hx ha hb
    obtain ⟨k, rfl⟩ : ∃ j, k = j + 1 := ⟨k - 1, by omega⟩
    simp only [spec_l1Cur_text.l0]
    rw [if_neg (by omega)]
    exact ⟨_, a, s, rfl, by rw [strOfNums_size, hx], by omega, by omega⟩
  | succ d ih =>
    intro k i x a s hk hi hx ha hb
    obtain ⟨k, rfl⟩ : ∃ j, k = j + 1 := ⟨k - 1, by omega⟩
    simp only [spec_l1Cur_text.l0]
    obtain ⟨p, a1, s1, e1, hp0, hp1, ha1, hb1⟩ := pick_ok hl ha (by omega) s 256 (by omega) (by omega)
    rw [if_pos (by omega), e1]
    simp only [Option.bind_some]
    rw [if_pos (by omega), if_pos (by omega), w64 (n := (i : Int) + 1) (by omega) (by omega)]
    obtain ⟨r, a2, s2, e2, h1, h2, h3⟩ := ih k (i + 1) (x.set (i : Int).toNat (p % 256)) a1 s1 (by omega) (by omega) (by simpa using hx) (by omega) (by omega)
    exact ⟨r, a2, s2, e2, h1, by omega, by omega⟩
theorem text_ok {l : List Int} (hl : U8 l) {a : Int} (h0 : 0 ≤ a) (h1 : a ≤ 4611686018427380000) (s n : Int) (hn0 : 0 ≤ n) (hn : n ≤ 1000) {k : Nat} (hk : 1001 ≤ k) :
    ∃ r a' s', spec_l1Cur_text.f k l a s n = some (r, a', s') ∧ (r.size : Int) = n ∧ a ≤ a' ∧ a' ≤ a + 2000 := by
  obtain ⟨n, rfl⟩ := Int.eq_ofNat_of_zero_le hn0
  unfold spec_l1Cur_text.f
  rw [if_pos (by omega), Int.toNat_natCast, if_pos (by omega)]
  simp only [Option.bind_some, List.length_replicate]
  obtain ⟨r, a', s', e, h2, h3, h4⟩ := text_l0 hl n (by omega) n k 0 (List.replicate n 0) a s (by omega) (by omega) (by simp) h0 (by omega)
  exact ⟨r, a', s', e, by omega, h3, by omega⟩
theorem place_ok {l : List Int} (hl : U8 l) {a : Int} (h0 : 0 ≤ a) (h1 : a ≤ 4611686018427386000) (s : Int) :
    ∃ r a' s', spec_l1Cur_place.f l a s = some (r, a', s') ∧ -1 ≤ r ∧ r ≤ 9223372036854775807 ∧ a ≤ a' ∧ a' ≤ a + 4 := by
  unfold spec_l1Cur_place.f
  obtain ⟨b, a1, s1, e1, ha1, hb1⟩ := one_ok hl h0 (by omega) s 8 (by omega) (by omega)
  rw [e1]
  simp only [Option.bind_some]
  by_cases c : b = true
  · rw [if_pos c]
    obtain ⟨r, a2, s2, e2, hr, ha2, hb2⟩ := among_ok hl (a := a1) (by omega) (by omega) s1 ([(-1), 0, 255, 256, 511, 512, 513, 9223372036854775807] : List Int) (by simp) (by simp)
    rw [e2]
    simp only [Option.bind_some]
    simp only [List.mem_cons, List.not_mem_nil, or_false] at hr
    exact ⟨_, _, _, rfl, by omega, by omega, by omega, by omega⟩
  · rw [if_neg c]
    obtain ⟨r, a2, s2, e2, hr0, hr1, ha2, hb2⟩ := pick_ok hl (a := a1) (by omega) (by omega) s1 520 (by omega) (by omega)
    rw [e2]
    simp only [Option.bind_some]
    exact ⟨_, _, _, rfl, by omega, by omega, by omega, by omega⟩
theorem mem_l0 {l : List Int} (hl : U8 l) (d : Nat) (hd : d ≤ 5) : ∀ (k : Nat) (a s m : Int) (D : ByteArray), 1010 + d ≤ k → 0 ≤ a → a + 3000 * d ≤ 4611686018427370000 → D.size ≤ 600 → -1 ≤ m → m ≤ 9 →
    ∃ m' D' a' s', spec_l1Cur_memory.l0 k (d : Int) l a s m D = some (m', D', a', s') ∧ D'.size ≤ 601 ∧ -1 ≤ m' ∧ m' ≤ 9 ∧ a ≤ a' ∧ a' ≤ a + 3000 * d + 10 := by
  induction d with
  | zero =>
    intro k a s m D hk ha hb hD hm0 hm1
    obtain ⟨k, rfl⟩ : ∃ j, k = j + 1 := ⟨k - 1, by omega⟩
    simp only [spec_l1Cur_memory.l0]
    obtain ⟨p, a1, s1, e1, hp0, hp1, ha1, hb1⟩ := pick_ok hl ha (by omega) s 40 (by omega) (by omega)
    rw [if_neg (by omega), e1]
    simp only [Option.bind_some]
    by_cases c0 : p = 0
    · rw [if_pos c0]
      obtain ⟨r, a2, s2, e2, hr, ha2, hb2⟩ := among_ok hl (a := a1) (by omega) (by omega) s1 ([(-1), 0, 8, 9] : List Int) (by simp) (by simp)
      rw [e2]
      simp only [Option.bind_some]
      simp only [List.mem_cons, List.not_mem_nil, or_false] at hr
      exact ⟨_, _, _, _, rfl, by omega, by omega, by omega, by omega, by omega⟩
    · rw [if_neg c0]
      by_cases c1 : p = 1
      · rw [if_pos c1, if_pos (by omega)]
        refine ⟨_, _, _, _, rfl, ?_, by omega, by omega, by omega, by omega⟩
        rw [ByteArray.size_append]
        have : (⟨#[120]⟩ : ByteArray).size = 1 := rfl
        omega
      · rw [if_neg c1]
        exact ⟨_, _, _, _, rfl, by omega, by omega, by omega, by omega, by omega⟩
  | succ d ih =>
    intro k a s m D hk ha hb hD hm0 hm1
    obtain ⟨k, rfl⟩ : ∃ j, k = j + 1 := ⟨k - 1, by omega⟩
    simp only [spec_l1Cur_memory.l0]
    obtain ⟨p, a1, s1, e1, hp0, hp1, ha1, hb1⟩ := pick_ok hl ha (by omega) s 500 (by omega) (by omega)
    rw [if_pos (by omega), e1]
    simp only [Option.bind_some]
    obtain ⟨q, a2, s2, e2, hq0, hq1, ha2, hb2⟩ := pick_ok hl (a := a1) (by omega) (by omega) s1 12 (by omega) (by omega)
    rw [e2]
    simp only [Option.bind_some]
    obtain ⟨t, a3, s3, e3, ht, ha3, hb3⟩ := text_ok hl (a := a2) (by omega) (by omega) s2 q hq0 (by omega) (k := k) (by omega)
    rw [e3]
    simp only [Option.bind_some]
    have hsz : t.size ≤ 12 := by omega
    obtain ⟨m', D', e4, hD'⟩ := spec_stB m D p t (by omega) (by omega)
    have hm' : -1 ≤ m' ∧ m' ≤ 9 := by
      unfold spec_StoreBytes.f at e4
      rw [spec_gm] at e4
      simp only [Option.bind_some] at e4
      by_cases hg : gm m D = true
      · rw [hg, if_pos rfl] at e4
        have hr := gm_size hg
        split at e4
        · simp only [Option.some.injEq, Prod.mk.injEq] at e4; omega
        · cases hi : spec_l5Inside.f m D p (t.size : Int) with
          | none => rw [hi] at e4; simp at e4
          | some b =>
            rw [hi] at e4
            simp only [Option.bind_some] at e4
            split at e4
            · cases hs : spec_l5Store.f m D p t with
              | none => rw [hs] at e4; simp at e4
              | some x =>
                rw [hs] at e4
                simp only [Option.bind_some, Option.some.injEq, Prod.mk.injEq] at e4
                have : x.1 = m := by
                  unfold spec_l5Store.f at hs
                  repeat' split at hs
                  all_goals first | (simp only [Option.some.injEq] at hs; rw [← hs]) | (simp at hs)
                omega
            · simp only [Option.some.injEq, Prod.mk.injEq] at e4; omega
      · rw [if_neg hg] at e4
        simp only [Option.some.injEq, Prod.mk.injEq] at e4; omega
    rw [e4]
    simp only [Option.bind_some]
    rw [w64 (n := ((d + 1 : Nat) : Int) - 1) (by omega) (by omega), show ((d + 1 : Nat) : Int) - 1 = (d : Int) by omega]
    obtain ⟨m2, D2, a4, s4, e5, h1, h2, h3, h4, h5⟩ := ih (by omega) k a3 s3 m' D' (by omega) (by omega) (by omega) (by omega) hm'.1 hm'.2
    exact ⟨m2, D2, a4, s4, e5, h1, h2, h3, by omega, by omega⟩
theorem memory_ok {l : List Int} (hl : U8 l) {a : Int} (h0 : 0 ≤ a) (h1 : a ≤ 4611686018427300000) (s : Int) {k : Nat} (hk : 1100 ≤ k) :
    ∃ m D a' s', spec_l1Cur_memory.f k l a s = some (m, D, a', s') ∧ D.size ≤ 601 ∧ -1 ≤ m ∧ m ≤ 9 ∧ a ≤ a' ∧ a' ≤ a + 20000 := by
  unfold spec_l1Cur_memory.f
  obtain ⟨p, a1, s1, e1, hp0, hp1, ha1, hb1⟩ := pick_ok hl h0 (by omega) s 3 (by omega) (by omega)
  rw [e1]
  simp only [Option.bind_some]
  obtain ⟨q, a2, s2, e2, hq0, hq1, ha2, hb2⟩ := pick_ok hl (a := a1) (by omega) (by omega) s1 3 (by omega) (by omega)
  rw [e2]
  simp only [Option.bind_some]
  have enew : spec_NewMemory.f p (wrap64 (2 + q)) = some (2 + q, strOfNums (List.replicate (p * 256).toNat 0), true) := by
    rw [w64 (n := 2 + q) (by omega) (by omega)]
    unfold spec_NewMemory.f spec_l1In.f
    rw [if_pos (by omega), decide_eq_true (by omega)]
    simp only [Option.bind_some, if_true]
    rw [if_pos (by omega), decide_eq_true (by omega)]
    simp only [Option.bind_some, if_true]
    rw [w64 (n := p * 256) (by omega) (by omega), if_pos (by omega), if_pos (by omega)]
  rw [enew]
  simp only [Option.bind_some]
  obtain ⟨n, a3, s3, e3, hn0, hn1, ha3, hb3⟩ := pick_ok hl (a := a2) (by omega) (by omega) s2 5 (by omega) (by omega)
  rw [e3]
  simp only [Option.bind_some]
  obtain ⟨n, rfl⟩ := Int.eq_ofNat_of_zero_le hn0
  have hsz : (strOfNums (List.replicate (p * 256).toNat 0)).size ≤ 600 := by rw [strOfNums_size, List.length_replicate]; omega
  obtain ⟨m', D', a4, s4, e4, g1, g2, g3, g4, g5⟩ := mem_l0 hl n (by omega) k a3 s3 (2 + q) _ (by omega) (by omega) (by omega) hsz (by omega) (by omega)
  exact ⟨m', D', a4, s4, e4, g1, g2, g3, by omega, by omega⟩
end Go.Proofs.Ytdjpbhmkcamkpaa.Cur
