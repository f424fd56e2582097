import Derived.Test.YtdeogandkgiggaaFy
import Derived.Test.YtdeogandkgiggaaCur
import Derived.Test.YtdeogandkgiggaaPureFnExactFToInt
import Derived.Test.YtdeogandkgiggaaQx6
namespace Go.Proofs.Ytdeogandkgiggaa.Pure
open Go.RowKit Go.Proofs.Ytdeogandkgiggaa.Q Go.Proofs.YtdeogandkgiggaaW.PrintWords Go.Proofs.YtdeogandkgiggaaW.PrintLast Go.Proofs.YtdeogandkgiggaaW.PrintMore Go.Proofs.Ytdeogandkgiggaa.Mb Go.Proofs.Ytdeogandkgiggaa.Fp Go.Proofs.Ytdeogandkgiggaa.Fl Go.Proofs.Ytdeogandkgiggaa.Fr Go.Proofs.Ytdeogandkgiggaa.Fo Go.Proofs.Ytdeogandkgiggaa.Fe Go.Proofs.Ytdeogandkgiggaa.Fc Go.Proofs.Ytdeogandkgiggaa.Fx Go.Proofs.Ytdeogandkgiggaa.Fy Go.Proofs.Ytdeogandkgiggaa.Cur
set_option linter.unusedSimpArgs false
set_option linter.unusedVariables false
/-- How much a rounded half is. -/
def rv (mode : Int) (b : Int) : Int := if opE F16 b ≥ 0 then EX b else if opS F16 b = true then -(((wh mode (opS F16 b) (opM F16 b) (-(opE F16 b)).toNat : Nat) : Int) * 16777216) else ((wh mode (opS F16 b) (opM F16 b) (-(opE F16 b)).toNat : Nat) : Int) * 16777216
theorem rnd_EX (mode b : Int) (h0 : 0 ≤ b) (hf : fnt b = true) : fnt (rnd F16 mode b) = true ∧ EX (rnd F16 mode b) = rv mode b := by
  obtain ⟨i, n⟩ := (fnt_iff b).1 hf
  unfold rnd rv
  rw [i, n, if_neg (by decide), if_neg (by decide)]
  by_cases c : opE F16 b ≥ 0
  · rw [if_pos c, if_pos c, fin_self isF16 b h0 i n]
    obtain ⟨e1, e2⟩ := EX_mod b h0
    exact ⟨by rw [← hf]; exact e2, e1⟩
  · rw [if_neg c, if_neg c]
    have hm : opM F16 b < 2 ^ 11 := (opM_lt isF16 b h0).1
    have hw : wh mode (opS F16 b) (opM F16 b) (-(opE F16 b)).toNat < 2 ^ 11 := by
      obtain ⟨d, hd⟩ : ∃ d, (-(opE F16 b)).toNat = d + 1 := ⟨(-(opE F16 b)).toNat - 1, by omega⟩
      rw [hd]
      have h1 : opM F16 b / 2 ^ (d + 1) ≤ opM F16 b / 2 := by
        rw [Nat.pow_succ, Nat.mul_comm, ← Nat.div_div_eq_div_mul]
        exact Nat.div_le_self _ _
      unfold wh
      repeat' split
      all_goals omega
    exact whole_EX _ _ hw
theorem rnd_range (mode b : Int) : 0 ≤ rnd F16 mode b ∧ rnd F16 mode b ≤ 4294967295 := by
  unfold rnd
  split
  · exact (by decide : (0 : Int) ≤ nan F16 ∧ nan F16 ≤ 4294967295)
  · split
    · cases opS F16 b <;> decide
    · split
      · exact fin_range isF16 _ _ _
      · exact fin_range isF16 _ _ _
theorem size_of (x : Int) (h0 : -9223372036854775807 ≤ x) (h1 : x ≤ 9223372036854775807) : laws_size.f x = some (x.natAbs : Int) := by
  unfold laws_size.f
  by_cases c : x < 0
  · rw [if_pos c, w64 (by omega) (by omega)]; congr 1; omega
  · rw [if_neg c]; congr 1; omega
/-- What the law asks of the four numbers. -/
structure Good (x f c t n : Int) : Prop where
  lo : f ≤ x
  hi : x ≤ c
  gap : c - f ≤ 16777216
  mf : f % 16777216 = 0
  mc : c % 16777216 = 0
  tt : t = f ∨ t = c
  ts : t.natAbs ≤ x.natAbs
  nn : n = f ∨ n = c
  near : 2 * (n - x).natAbs ≤ 16777216
theorem good_core (s : Bool) (q w u v : Nat) (hw : w < 16777216) (hu : (w = 0 ∧ u = q) ∨ (w ≠ 0 ∧ u = q + 1)) (hv : (v = q ∧ 2 * w ≤ 16777216) ∨ (v = q + 1 ∧ 2 * w ≥ 16777216)) (f c : Nat)
    (hf : f = if s = true then u else q) (hc : c = if s = true then q else u) :
    Good (if s = true then -((q * 16777216 + w : Nat) : Int) else ((q * 16777216 + w : Nat) : Int)) (if s = true then -((f : Int) * 16777216) else (f : Int) * 16777216) (if s = true then -((c : Int) * 16777216) else (c : Int) * 16777216) (if s = true then -((q : Int) * 16777216) else (q : Int) * 16777216) (if s = true then -((v : Int) * 16777216) else (v : Int) * 16777216) := by
  subst hf hc
  cases s
  · simp only [Bool.false_eq_true, if_false]
    refine ⟨?_, ?_, ?_, ?_, ?_, ?_, ?_, ?_, ?_⟩ <;> omega
  · simp only [if_true]
    refine ⟨?_, ?_, ?_, ?_, ?_, ?_, ?_, ?_, ?_⟩ <;> omega
theorem good (b : Int) (h0 : 0 ≤ b) : Good (EX b) (rv 2 b) (rv 1 b) (rv 3 b) (rv 4 b) := by
  have he := f16_E b h0
  unfold rv
  by_cases c : opE F16 b ≥ 0
  · rw [if_pos c, if_pos c, if_pos c, if_pos c]
    have hd : (EX b) % 16777216 = 0 := by
      have hM : MX b = opM F16 b * 2 ^ (opE F16 b).toNat * 16777216 := by
        unfold MX
        rw [Nat.mul_assoc]
        congr 1
        rw [show (16777216 : Nat) = 2 ^ 24 by decide, ← Nat.pow_add]
        congr 1
        omega
      unfold EX
      rw [hM]
      generalize opM F16 b * 2 ^ (opE F16 b).toNat = y
      split <;> omega
    exact ⟨by omega, by omega, by omega, hd, hd, Or.inl rfl, by omega, Or.inl rfl, by omega⟩
  · rw [if_neg c, if_neg c, if_neg c, if_neg c]
    obtain ⟨d, hd⟩ : ∃ d : Nat, -(opE F16 b) = (d : Int) := ⟨(-(opE F16 b)).toNat, by omega⟩
    have hd24 : d ≤ 24 ∧ 1 ≤ d := by omega
    have hM : MX b = opM F16 b / 2 ^ d * 16777216 + opM F16 b % 2 ^ d * 2 ^ (24 - d) := by
      unfold MX
      have e1 : (opE F16 b + 24).toNat = 24 - d := by omega
      have e2 : (16777216 : Nat) = 2 ^ d * 2 ^ (24 - d) := by rw [← Nat.pow_add, show d + (24 - d) = 24 by omega]
      rw [e1, e2, ← Nat.mul_assoc, ← Nat.add_mul, Nat.mul_comm (opM F16 b / 2 ^ d), Nat.div_add_mod]
    have hU : (16777216 : Nat) = 2 ^ d * 2 ^ (24 - d) := by rw [← Nat.pow_add, show d + (24 - d) = 24 by omega]
    have hr := Nat.mod_lt (opM F16 b) (Nat.two_pow_pos d)
    have hp := Nat.two_pow_pos (24 - d)
    have w1 : opM F16 b % 2 ^ d * 2 ^ (24 - d) < 16777216 := by rw [hU]; exact Nat.mul_lt_mul_of_pos_right hr hp
    have w2 : opM F16 b % 2 ^ d = 0 ↔ opM F16 b % 2 ^ d * 2 ^ (24 - d) = 0 := by
      constructor
      · intro h; rw [h, Nat.zero_mul]
      · intro h; rcases Nat.mul_eq_zero.1 h with h | h <;> omega
    have w3 : 2 * (opM F16 b % 2 ^ d) > 2 ^ d ↔ 2 * (opM F16 b % 2 ^ d * 2 ^ (24 - d)) > 16777216 := by
      rw [hU, ← Nat.mul_assoc]
      exact (Nat.mul_lt_mul_right hp).symm
    have w4 : 2 * (opM F16 b % 2 ^ d) = 2 ^ d ↔ 2 * (opM F16 b % 2 ^ d * 2 ^ (24 - d)) = 16777216 := by
      rw [hU, ← Nat.mul_assoc]
      exact ⟨fun h => by rw [h], fun h => Nat.eq_of_mul_eq_mul_right hp h⟩
    have ed : (-(opE F16 b)).toNat = d := by omega
    unfold EX
    rw [hM, ed]
    have g := good_core (opS F16 b) (opM F16 b / 2 ^ d) (opM F16 b % 2 ^ d * 2 ^ (24 - d)) (if opM F16 b % 2 ^ d = 0 then opM F16 b / 2 ^ d else opM F16 b / 2 ^ d + 1) (wh 4 (opS F16 b) (opM F16 b) d) w1
      (by
        by_cases z : opM F16 b % 2 ^ d = 0
        · rw [if_pos z]; exact .inl ⟨w2.1 z, rfl⟩
        · rw [if_neg z]; exact .inr ⟨fun h => z (w2.2 h), rfl⟩)
      (by
        unfold wh
        rw [if_neg (by decide), if_neg (by decide), if_pos rfl]
        by_cases z : 2 * (opM F16 b % 2 ^ d) > 2 ^ d
        · rw [if_pos z]; exact .inr ⟨rfl, by have := w3.1 z; omega⟩
        · rw [if_neg z]
          have z1 : ¬ 2 * (opM F16 b % 2 ^ d * 2 ^ (24 - d)) > 16777216 := fun h => z (w3.2 h)
          by_cases z2 : 2 * (opM F16 b % 2 ^ d) = 2 ^ d
          · rw [if_pos z2]
            have z3 := w4.1 z2
            split
            · exact .inr ⟨rfl, by omega⟩
            · exact .inl ⟨rfl, by omega⟩
          · rw [if_neg z2]; exact .inl ⟨rfl, by omega⟩)
      (wh 2 (opS F16 b) (opM F16 b) d) (wh 1 (opS F16 b) (opM F16 b) d)
      (by
        unfold wh
        rw [if_neg (by decide), if_pos rfl]
        cases opS F16 b
        · simp only [Bool.false_eq_true, if_false, ite_self]
        · simp only [if_true])
      (by
        unfold wh
        rw [if_pos rfl]
        cases opS F16 b
        · simp only [Bool.false_eq_true, if_false]
        · simp only [if_true, ite_self])
    have w5 : wh 3 (opS F16 b) (opM F16 b) d = opM F16 b / 2 ^ d := by
      unfold wh
      rw [if_neg (by decide), if_neg (by decide), if_neg (by decide)]
    rw [w5]
    exact g
theorem numberOf_ok (l : List Int) (hu : U8 l) (d : Nat) : ∀ (k : Nat) (x i : Int), d < k → 0 ≤ x → x < 1000003 → 0 ≤ i → i + d = l.length → l.length ≤ 4611686018427387904 → ∃ r, laws_numberOf.l0 k x l (l.length : Int) i = some r ∧ 0 ≤ r ∧ r < 1000003 := by
  induction d with
  | zero =>
    intro k x i hk x0 x1 h0 h1 _
    obtain ⟨k, rfl⟩ : ∃ j, k = j + 1 := ⟨k - 1, by omega⟩
    simp only [laws_numberOf.l0]
    rw [if_neg (by omega)]
    exact ⟨x, rfl, x0, x1⟩
  | succ d ih =>
    intro k x i hk x0 x1 h0 h1 h2
    obtain ⟨k, rfl⟩ : ∃ j, k = j + 1 := ⟨k - 1, by omega⟩
    simp only [laws_numberOf.l0]
    have hr := hu _ (rd_mem h0 (show i < (l.length : Int) by omega))
    rw [if_pos (by omega), if_pos h0, if_pos (by omega), w64 (n := i + 1) (by omega) (by omega), w64 (n := rd l i) (by omega) (by omega), w64 (n := 31 * x) (by omega) (by omega), w64 (n := 31 * x + rd l i) (by omega) (by omega), Int.tmod_eq_emod_of_nonneg (by omega)]
    exact ih k _ (i + 1) (by omega) (Int.emod_nonneg _ (by decide)) (Int.emod_lt_of_pos _ (by decide)) (by omega) (by omega) h2
/-- Small whole numbers come back. -/
theorem back_int {F : Fm} (h : IsF F) (k : Nat) (hk : 100 ≤ k) (a0 n : Int) (h0 : -2048 ≤ n) (h1 : n ≤ 2048) (f2 : impl_formatOf.f a0 = some (F.p, F.b, true)) :
    ∃ t, impl_FOfInt.f k a0 n = some t ∧ impl_FToInt.f k a0 t 32 true = some (nn 32 (decide (n < 0)) n.natAbs, 0) := by
  obtain ⟨k, rfl⟩ : ∃ j, k = j + 1 := ⟨k - 1, by omega⟩
  refine ⟨fin F (decide (n < 0)) n.natAbs 0, ?_, ?_⟩
  · have hj : ∀ m : Nat, m < 1152921504606846976 → impl_FOfInt.j0 (k + 1) n (m : Int) F.p F.b = some (fin F (decide (n < 0)) m 0) := by
      intro m hm
      simp only [impl_FOfInt.j0]
      rw [if_pos (by omega), impl_exact h k (by omega) _ m 0 (by omega) (by omega) (by omega)]
      rfl
    unfold impl_FOfInt.f
    rw [f2]
    simp only [Option.bind_some, if_true]
    by_cases c : n < 0
    · have e1 : IntKind.u64.wrap (-(IntKind.u64.wrap n)) = ((n.natAbs : Nat) : Int) := by rw [wrap_u64, wrap_u64]; omega
      rw [if_pos c, e1]
      exact hj _ (by omega)
    · have e1 : IntKind.u64.wrap n = ((n.natAbs : Nat) : Int) := by rw [wrap_u64]; omega
      rw [if_neg c, e1]
      exact hj _ (by omega)
  · have hr := fin_range h (decide (n < 0)) n.natAbs 0
    have hi := impl_toI h (k + 1) (by omega) a0 (fin F (decide (n < 0)) n.natAbs 0) 32 (Or.inl rfl) true hr f2
    have e32 : ((32 : Nat) : Int) = 32 := rfl
    rw [e32] at hi
    rw [hi]
    have key : opN F (fin F (decide (n < 0)) n.natAbs 0) = false ∧ opI F (fin F (decide (n < 0)) n.natAbs 0) = false ∧ opS F (fin F (decide (n < 0)) n.natAbs 0) = decide (n < 0) ∧ opE F (fin F (decide (n < 0)) n.natAbs 0) ≤ 40 ∧ tr (opM F (fin F (decide (n < 0)) n.natAbs 0)) (opE F (fin F (decide (n < 0)) n.natAbs 0)) = n.natAbs := by
      by_cases c : n.natAbs < 2 ^ (F.P + 1)
      · obtain ⟨o1, o2, o3, o4, o5, o6, o7⟩ := open_whole h (decide (n < 0)) n.natAbs c
        exact ⟨o3, o2, o1, by omega, o4⟩
      · have hF : F = F16 := by
          rcases h with rfl | rfl
          · rfl
          · exact absurd (show n.natAbs < 2 ^ (F32.P + 1) from Nat.lt_of_le_of_lt (show n.natAbs ≤ 2048 by omega) (by decide)) c
        subst hF
        have hn : n.natAbs = 2048 := by
          have : ¬ n.natAbs < 2 ^ 11 := c
          omega
        rw [hn]
        cases decide (n < 0) <;> decide +kernel
    obtain ⟨k1, k2, k3, k4, k5⟩ := key
    unfold toI
    rw [k1, k2, k3, k5, Bool.or_self, if_neg (by decide), if_neg (fun h => by omega)]
    have hfit : ¬ n.natAbs > limit 32 true (decide (n < 0)) := by
      cases decide (n < 0)
      · rw [show limit 32 true false = 2147483647 from rfl]; omega
      · rw [show limit 32 true true = 2147483648 from rfl]; omega
    rw [told_fits hfit]
theorem signed_back (n : Int) (h0 : -2048 ≤ n) (h1 : n ≤ 2048) : spec_SignedOf.f 32 (nn 32 (decide (n < 0)) n.natAbs) = some (n, true) := by
  unfold spec_SignedOf.f spec_l3Bits.f spec_l3Signed.f nn
  simp only [if_true, Option.bind_some]
  congr 2
  have e : ((2 ^ 32 : Nat) : Int) = 4294967296 := by decide
  rw [e]
  by_cases c : n < 0
  · rw [decide_eq_true c, if_pos rfl]
    have : wrap32 (-(n.natAbs : Int) % 4294967296 % 4294967296) = n := by unfold wrap32; omega
    rw [this, w64 (by omega) (by omega)]
  · rw [decide_eq_false c, if_neg (show ¬ (false = true) by decide)]
    have : wrap32 ((n.natAbs : Int) % 4294967296) = n := by unfold wrap32; omega
    rw [this, w64 (by omega) (by omega)]
theorem loop_ok (k : Nat) (hk : 110 ≤ k) (n : Int) (h0 : -2048 ≤ n) (h1 : n ≤ 2048) : laws_FnWhole.l0 k n ([16, 32] : List Int) 2 0 = some true := by
  obtain ⟨k, rfl⟩ : ∃ j, k = j + 3 := ⟨k - 3, by omega⟩
  have f16 : impl_formatOf.f 16 = some (F16.p, F16.b, true) := rfl
  have f32 : impl_formatOf.f 32 = some (F32.p, F32.b, true) := rfl
  obtain ⟨t1, a1, a2⟩ := back_int isF16 (k + 2) (by omega) 16 n h0 h1 f16
  obtain ⟨t2, b1, b2⟩ := back_int isF32 (k + 1) (by omega) 32 n h0 h1 f32
  have sb := signed_back n h0 h1
  have r0 : rd ([16, 32] : List Int) 0 = 16 := rfl
  have r1 : rd ([16, 32] : List Int) 1 = 32 := rfl
  have w1 : wrap64 (0 + 1) = 1 := w64 (by decide) (by decide)
  have w2 : wrap64 (1 + 1) = 2 := w64 (by decide) (by decide)
  have len : ((([16, 32] : List Int).length : Nat) : Int) = 2 := rfl
  simp only [laws_FnWhole.l0]
  rw [r0, w1, r1, w2, len]
  simp only [a1, a2, b1, b2, Option.bind_some, sb, if_true]
  simp
theorem j2_ok (l : List Int) (hu : U8 l) (k : Nat) (hk : 120 + l.length ≤ k) (hl : l.length ≤ 4611686018427387904) : laws_FnWhole.j2 k l = some true := by
  obtain ⟨k, rfl⟩ : ∃ j, k = j + 1 := ⟨k - 1, by omega⟩
  simp only [laws_FnWhole.j2, laws_numberOf.f]
  obtain ⟨r, e, r0, r1⟩ := numberOf_ok l hu l.length k 0 0 (by omega) (by omega) (by omega) (by omega) (by omega) hl
  rw [e]
  simp only [Option.bind_some]
  have hb : 0 ≤ Int.tmod r 4097 ∧ Int.tmod r 4097 ≤ 4096 := by
    rw [Int.tmod_eq_emod_of_nonneg r0]; omega
  rw [w64 (n := Int.tmod r 4097 - 2048) (by omega) (by omega)]
  have len : ((([16, 32] : List Int).length : Nat) : Int) = 2 := rfl
  rw [len]
  exact loop_ok k (by omega) _ (by omega) (by omega)
theorem round_same (k : Nat) (hk : 80 ≤ k) (a0 mode b : Int) (hb : 0 ≤ b ∧ b ≤ 4294967295) : ∃ r, impl_FRound.f k a0 mode b = some r ∧ spec_FRound.f k a0 mode b = some r := by
  obtain ⟨k, rfl⟩ : ∃ j, k = j + 1 := ⟨k - 1, by omega⟩
  unfold spec_FRound.f
  rcases kinds a0 with ⟨F, h, f1, f2⟩ | ⟨f1, f2⟩
  · rw [f1]
    simp only [Option.bind_some, if_true, spec_l1In.f]
    by_cases c : 1 ≤ mode ∧ mode ≤ 4
    · refine ⟨rnd F mode b, impl_rnd h (k + 1) (by omega) a0 mode b hb f2 c.1 c.2, ?_⟩
      rw [if_pos c.1, decide_eq_true c.2]
      simp only [Option.bind_some, Bool.not_true, spec_FRound.j0]
      rw [if_neg (by decide), spec_open h b hb.1 hb.2]
      simp only [Option.bind_some]
      rw [spec_whole h k (by omega) mode b hb.1]
      rfl
    · have hs : (if mode ≥ 1 then some (decide (mode ≤ 4)) else some false) = some false := by
        by_cases c1 : mode ≥ 1
        · rw [if_pos c1, decide_eq_false (fun h => c ⟨c1, h⟩)]
        · rw [if_neg c1]
      rw [hs]
      refine ⟨0, ?_, ?_⟩
      · unfold impl_FRound.f
        rw [f2]
        simp only [Option.bind_some, if_true, impl_FRound.j0]
        by_cases c1 : mode < 1
        · rw [if_pos c1]
        · rw [if_neg c1, decide_eq_true (by omega : mode > 4)]
          simp
      · simp only [Option.bind_some, Bool.not_false, spec_FRound.j0, if_true]
  · refine ⟨0, ?_, ?_⟩
    · unfold impl_FRound.f
      rw [f2]
      simp [impl_FRound.j0]
    · rw [f1]
      simp [spec_FRound.j0]
theorem tmod_zero {x : Int} (h : x % 16777216 = 0) : Int.tmod x 16777216 = 0 := Int.tmod_eq_zero_of_dvd (Int.dvd_of_emod_eq_zero h)
theorem j1_ok (l : List Int) (hu : U8 l) (k : Nat) (hk : 130 + l.length ≤ k) (hl : l.length ≤ 4611686018427387904) {x f c t n : Int} (g : Good x f c t n) (hx : -1099511627776 < x ∧ x < 1099511627776) : laws_FnWhole.j1 k l x f c t n false = some true := by
  obtain ⟨k, rfl⟩ : ∃ j, k = j + 1 := ⟨k - 1, by omega⟩
  obtain ⟨g1, g2, g3, g4, g5, g6, g7, g8, g9⟩ := g
  have q1 : -16777216 ≤ n - x ∧ n - x ≤ 16777216 := by
    clear g7 g9 g6 g4 g5
    rcases g8 with h | h <;> omega
  have q2 : -1099528404992 ≤ t ∧ t ≤ 1099528404992 := by
    clear g7 g9 g8 g4 g5 q1
    rcases g6 with h | h <;> omega
  have q3 : ¬ ((t.natAbs : Int) > (x.natAbs : Int)) := fun h => absurd (Int.ofNat_lt.1 h) (Nat.not_lt.2 g7)
  have q4 : ((n - x).natAbs : Int) ≤ 16777216 := by
    clear g9 g7 q3 g8 g6
    omega
  have hbig : ¬ (2 * ((n - x).natAbs : Int) > 16777216) := by clear q3 q4 g7 g6 g8; omega
  have s1 := size_of t (by clear q3 hbig q4 g9 g7; omega) (by clear q3 hbig q4 g9 g7; omega)
  have s2 := size_of x (by clear q3 hbig q4 g9 g7; omega) (by clear q3 hbig q4 g9 g7; omega)
  have s3 := size_of (n - x) (by clear q3 hbig q4 g9 g7; omega) (by clear q3 hbig q4 g9 g7; omega)
  have s4 : wrap64 (n - x) = n - x := w64 (by clear q3 hbig q4 g9 g7; omega) (by clear q3 hbig q4 g9 g7; omega)
  have s5 : wrap64 (2 * ((n - x).natAbs : Int)) = 2 * ((n - x).natAbs : Int) := w64 (by clear q3 hbig g9 g7; omega) (by clear q3 hbig g9 g7; omega)
  have s6 := j2_ok l hu k (by omega) hl
  simp only [laws_FnWhole.j1]
  rw [if_neg (by decide), s1, s2]
  simp only [Option.bind_some]
  rw [if_neg q3, s4, s3, Option.bind_some, s5, if_neg hbig, s6]
  clear s1 s2 s3 s4 s5 q3 q4 hbig g9 g7
  by_cases c1 : t = f
  · rw [if_pos c1]
    by_cases c2 : n = f
    · rw [if_pos c2]
    · rw [if_neg c2, if_pos (by omega)]
  · rw [if_neg c1, if_pos (by omega)]
    by_cases c2 : n = f
    · rw [if_pos c2]
    · rw [if_neg c2, if_pos (by omega)]
theorem val_of (mode x : Int) (h0 : 0 ≤ x) (fx : fnt x = true) : laws_exact.f (rnd F16 mode x) = some (rv mode x, true) := by
  have hr := rnd_range mode x
  obtain ⟨w1, w2⟩ := rnd_EX mode x h0 fx
  rw [exact_ok _ hr.1 hr.2, if_pos w1, w2]
theorem rnd_of (k : Nat) (hk : 100 ≤ k) (mode x : Int) (hx : 0 ≤ x ∧ x ≤ 4294967295) (h1 : 1 ≤ mode) (h2 : mode ≤ 4) : impl_FRound.f k 16 mode x = some (rnd F16 mode x) := impl_rnd isF16 k (by omega) 16 mode x hx rfl h1 h2
theorem fin_part (l1 : List Int) (hu1 : U8 l1) (k : Nat) (hk : 200 + l1.length ≤ k) (hlen : l1.length ≤ 4611686018427387904) (x : Int) (hx : 0 ≤ x ∧ x ≤ 4294967295) (fx : fnt x = true) (v : Int) (hv : v = EX x) : laws_FnWhole.j0 (k + 1) l1 16 x v true = some true := by
  subst hv
  have hG := good x hx.1
  have hX := EX_range x hx.1
  simp only [laws_FnWhole.j0]
  rw [if_pos trivial, rnd_of k (by omega) 2 x hx (by decide) (by decide), rnd_of k (by omega) 1 x hx (by decide) (by decide), rnd_of k (by omega) 3 x hx (by decide) (by decide), rnd_of k (by omega) 4 x hx (by decide) (by decide)]
  simp only [Option.bind_some]
  rw [val_of 2 x hx.1 fx, val_of 1 x hx.1 fx, val_of 3 x hx.1 fx, val_of 4 x hx.1 fx]
  simp only [Option.bind_some, if_true]
  have hj := j1_ok l1 hu1 k (by omega) hlen hG hX
  obtain ⟨g1, g2, g3, g4, g5, g6, g7, g8, g9⟩ := hG
  rw [if_neg (by omega), if_neg (by omega), w64 (n := rv 1 x - rv 2 x) (by omega) (by omega), if_neg (by omega), tmod_zero g4, if_pos rfl, tmod_zero g5]
  exact hj
theorem FnWhole : laws_FnWhole.Pure := by
  intro l0 l1 hl0 hl0' hu0 hl1 hl1' hu1
  have hu0 := u8_of hu0
  have hu1 := u8_of hu1
  obtain ⟨k, hk⟩ : ∃ k, 300 + l1.length ≤ k := ⟨_, Nat.le_refl _⟩
  refine ⟨k + 1, ?_⟩
  unfold laws_FnWhole.f
  rw [len_sum hl0' hl1']
  by_cases cl : (l0.length : Int) + (l1.length : Int) > 1048576
  · rw [if_pos cl]
  · rw [if_neg cl]
    unfold spec_DrawFRound.f
    obtain ⟨kd, a1, s1, e1, hkd, ha1, hb1⟩ := kind_ok hu0 (a := 0) (by omega) (by omega) 0
    rw [e1]
    simp only [Option.bind_some]
    obtain ⟨md, a2, s2, e2, hmd0, hmd1, ha2, hb2⟩ := pick_ok hu0 (a := a1) (by omega) (by omega) s1 6 (by omega) (by omega)
    rw [e2]
    simp only [Option.bind_some]
    obtain ⟨x, a3, s3, e3, hx, ha3, hb3⟩ := float_ok hu0 (a := a2) (by omega) (by omega) s2 kd (k := k + 1) (by omega)
    rw [e3]
    simp only [Option.bind_some]
    clear e1 e2 e3
    obtain ⟨r, r1, r2⟩ := round_same (k + 1) (by omega) kd md x hx
    rw [r1, r2]
    simp only [Option.bind_some, if_true]
    rw [exact_ok x hx.1 hx.2]
    simp only [Option.bind_some]
    have hlen : l1.length ≤ 4611686018427387904 := by omega
    have jf : ∀ v : Int, laws_FnWhole.j0 (k + 1) l1 kd x v false = some true := by
      intro v
      simp only [laws_FnWhole.j0]
      rw [if_neg (by decide)]
      exact j2_ok l1 hu1 k (by omega) hlen
    by_cases fx : fnt x = true
    · rw [if_pos fx]
      simp only [if_true]
      by_cases c16 : kd = 16
      · subst c16
        rw [show ((16 : Int) == 16) = true from by decide]
        exact fin_part l1 hu1 k (by omega) hlen x hx fx _ rfl
      · have : (kd == 16) = false := by simpa using c16
        rw [this]
        exact jf _
    · rw [if_neg fx]
      simp only [Bool.false_eq_true, if_false]
      exact jf _
end Go.Proofs.Ytdeogandkgiggaa.Pure
