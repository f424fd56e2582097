import Derived.Test.YtdeogandkgiggaaPureFnExactFRound
import Derived.Test.YtdeogandkgiggaaQx8
namespace Go.Proofs.Ytdeogandkgiggaa.Pure
open Go.RowKit Go.Proofs.Ytdeogandkgiggaa.Q Go.Proofs.YtdeogandkgiggaaW.PrintWords Go.Proofs.YtdeogandkgiggaaW.PrintLast Go.Proofs.YtdeogandkgiggaaW.PrintMore Go.Proofs.Ytdeogandkgiggaa.Mb Go.Proofs.Ytdeogandkgiggaa.Fp Go.Proofs.Ytdeogandkgiggaa.Fl Go.Proofs.Ytdeogandkgiggaa.Fr Go.Proofs.Ytdeogandkgiggaa.Fo Go.Proofs.Ytdeogandkgiggaa.Fe
set_option linter.unusedSimpArgs false
set_option linter.unusedVariables false
/-- The whole part of m 2^e. -/
def tr (m : Nat) (e : Int) : Nat := if e < 0 then m / 2 ^ (-e).toNat else m * 2 ^ e.toNat
/-- The greatest number that fits. -/
def limit (b : Nat) (signed neg : Bool) : Nat := if signed = true then (if neg = true then 2 ^ (b - 1) else 2 ^ (b - 1) - 1) else (if neg = true then 0 else 2 ^ b - 1)
/-- The number's bits. -/
def nn (b : Nat) (neg : Bool) (N : Nat) : Int := if neg = true then (-(N : Int)) % ((2 ^ b : Nat) : Int) else (N : Int)
/-- What is told of the number N with its sign, in b bits. -/
def told (b : Nat) (signed neg : Bool) (N : Nat) : Int × Int := if N > limit b signed neg then (0, 2) else (nn b neg N, 0)
theorem told_over {b : Nat} {signed neg : Bool} {N : Nat} (h : N > limit b signed neg) : told b signed neg N = (0, 2) := if_pos h
theorem told_fits {b : Nat} {signed neg : Bool} {N : Nat} (h : ¬ N > limit b signed neg) : told b signed neg N = (nn b neg N, 0) := if_neg h
theorem cut_of (b : Nat) (hb : b = 32 ∨ b = 64) (x : Int) (h0 : 0 ≤ x) (h1 : x ≤ 18446744073709551615) : impl_cut.f (b : Int) x = some (x % ((2 ^ b : Nat) : Int)) ∧ spec_l3Mask.f (b : Int) x = some (x % ((2 ^ b : Nat) : Int)) := by
  unfold impl_cut.f spec_l3Mask.f
  rcases hb with rfl | rfl
  · have e : ((32 : Nat) : Int) = 32 := rfl
    rw [if_pos e, u64_and32 h0 h1]
    exact ⟨rfl, rfl⟩
  · have e : ¬ ((64 : Nat) : Int) = 32 := by decide
    rw [if_neg e]
    have : x % ((2 ^ 64 : Nat) : Int) = x := by omega
    rw [this]
    exact ⟨rfl, rfl⟩
theorem cut_num (b : Nat) (hb : b = 32 ∨ b = 64) (neg : Bool) (N : Nat) (hN : N < 2 ^ 64) (hN2 : N ≤ 2 ^ b - 1 ∨ neg = true) :
    (if neg = true then (impl_cut.f (b : Int) (IntKind.u64.wrap (-(N : Int)))).bind (fun t => some (t, (0 : Int))) else (impl_cut.f (b : Int) (N : Int)).bind (fun t => some (t, (0 : Int)))) = some (nn b neg N, 0) ∧
    (if neg = true then (spec_l3Mask.f (b : Int) (IntKind.u64.wrap (-(N : Int)))).bind (fun t => some (t, (0 : Int))) else (spec_l3Mask.f (b : Int) (N : Int)).bind (fun t => some (t, (0 : Int)))) = some (nn b neg N, 0) := by
  have hw := wrap_u64_range (-(N : Int))
  obtain ⟨c1, c2⟩ := cut_of b hb _ hw.1 hw.2
  obtain ⟨d1, d2⟩ := cut_of b hb (N : Int) (by omega) (by omega)
  have hwe : IntKind.u64.wrap (-(N : Int)) % ((2 ^ b : Nat) : Int) = (-(N : Int)) % ((2 ^ b : Nat) : Int) := by
    rw [wrap_u64]
    rcases hb with rfl | rfl <;> omega
  have nf : ¬ (false = true) := by decide
  cases neg
  · rw [if_neg nf, if_neg nf, d1, d2]
    have hN3 : N ≤ 2 ^ b - 1 := by
      rcases hN2 with h | h
      · exact h
      · cases h
    have : (N : Int) % ((2 ^ b : Nat) : Int) = (N : Int) := by
      have hp := Nat.two_pow_pos b
      exact Int.emod_eq_of_lt (by omega) (by omega)
    rw [this]
    exact ⟨rfl, rfl⟩
  · rw [if_pos rfl, if_pos rfl, c1, c2, hwe]
    exact ⟨rfl, rfl⟩
theorem impl_told (k : Nat) (b : Nat) (hb : b = 32 ∨ b = 64) (signed neg x1 x2 : Bool) (y1 y2 : Int) (N : Nat) (hN : N < 2 ^ 64) : impl_FToInt.j1 (k + 3) (b : Int) signed (N : Int) neg x1 x2 y1 y2 = some (told b signed neg N) := by
  have e1 : wrap64 ((b : Int) - 1) = ((b - 1 : Nat) : Int) := by rw [w64 (by omega) (by omega)]; omega
  have hp : 2 ^ b = 2 * 2 ^ (b - 1) := by rw [← Nat.pow_succ']; congr 1; omega
  have hb64 : 2 ^ (b - 1) ≤ 2 ^ 63 := Nat.pow_le_pow_right (by decide) (by omega)
  have hpp := Nat.two_pow_pos (b - 1)
  have e2 : IntKind.u64.wrap (((2 ^ (b - 1) : Nat) : Int) - 1) = ((2 ^ (b - 1) - 1 : Nat) : Int) := by rw [wu64 (by omega) (by omega)]; omega
  have e3 : IntKind.u64.wrap (((2 ^ (b - 1) - 1 : Nat) : Int) + ((2 ^ (b - 1) : Nat) : Int)) = ((2 ^ b - 1 : Nat) : Int) := by rw [wu64 (by omega) (by omega)]; omega
  have j3 : ∀ lim : Nat, lim ≤ 2 ^ b - 1 ∨ neg = true → impl_FToInt.j3 (k + 1) (b : Int) (N : Int) (lim : Int) neg x1 x2 y1 y2 = some (if N > lim then (0, 2) else (nn b neg N, 0)) := by
    intro lim hl
    simp only [impl_FToInt.j3]
    by_cases c : N > lim
    · rw [if_pos c, if_pos (by omega)]
    · rw [if_neg c, if_neg (by omega)]
      exact (cut_num b hb neg N hN (by rcases hl with h | h; exact Or.inl (by omega); exact Or.inr h)).1
  simp only [impl_FToInt.j1, impl_FToInt.j2]
  rw [e1, if_pos (by omega), shl_one (b - 1) (by omega), e2, e3]
  have nf : ¬ (false = true) := by decide
  cases signed <;> cases neg
  · rw [if_neg nf, if_neg nf, if_neg nf, if_neg nf]
    exact (j3 (2 ^ b - 1) (Or.inl (Nat.le_refl _))).trans rfl
  · rw [if_neg nf, if_neg nf, if_neg nf, if_pos rfl]
    exact (j3 0 (Or.inr rfl)).trans rfl
  · rw [if_pos rfl, if_neg nf, if_pos rfl, if_pos (by omega)]
    exact (j3 (2 ^ (b - 1) - 1) (Or.inl (by omega))).trans rfl
  · rw [if_pos rfl, if_pos rfl, if_pos (by omega)]
    exact (j3 (2 ^ (b - 1)) (Or.inr rfl)).trans rfl
theorem spec_told (k : Nat) (b : Nat) (hb : b = 32 ∨ b = 64) (signed neg x1 x2 : Bool) (y1 y2 : Int) (N : Nat) (hN : N < 2 ^ 64) : spec_l4K_toInt.j1 (k + 3) (b : Int) signed (N : Int) neg x1 x2 y1 y2 = some (told b signed neg N) := by
  have e1 : IntKind.u64.wrap (wrap64 ((b : Int) - 1)) = ((b - 1 : Nat) : Int) := by rw [w64 (by omega) (by omega), wu64 (by omega) (by omega)]; omega
  have hp : 2 ^ b = 2 * 2 ^ (b - 1) := by rw [← Nat.pow_succ']; congr 1; omega
  have hb64 : 2 ^ (b - 1) ≤ 2 ^ 63 := Nat.pow_le_pow_right (by decide) (by omega)
  have hpp := Nat.two_pow_pos (b - 1)
  have j3f : N ≤ 2 ^ b - 1 ∨ neg = true → spec_l4K_toInt.j3 (k + 1) (b : Int) (N : Int) false neg x1 x2 y1 y2 = some (nn b neg N, 0) := by
    intro hl
    simp only [spec_l4K_toInt.j3]
    rw [if_neg (by decide)]
    exact (cut_num b hb neg N hN hl).2
  have j3t : spec_l4K_toInt.j3 (k + 1) (b : Int) (N : Int) true neg x1 x2 y1 y2 = some (0, 2) := by
    simp only [spec_l4K_toInt.j3]
    rw [if_pos trivial]
  simp only [spec_l4K_toInt.j1, spec_l4K_toInt.j2]
  rw [e1, if_pos (by omega), shl_one (b - 1) (by omega)]
  have nf : ¬ (false = true) := by decide
  have l1 : limit b false false = 2 ^ b - 1 := rfl
  have l2 : limit b false true = 0 := rfl
  have l3 : limit b true false = 2 ^ (b - 1) - 1 := rfl
  have l4 : limit b true true = 2 ^ (b - 1) := rfl
  cases signed
  · rw [if_neg nf, if_neg nf, if_neg nf]
    cases neg
    · rw [if_neg nf]
      rcases hb with rfl | rfl
      · have e : ((32 : Nat) : Int) = 32 := rfl
        rw [if_pos e]
        by_cases c : N > 2 ^ 32 - 1
        · rw [decide_eq_true (by omega : (N : Int) > 4294967295), j3t, told_over (by rw [l1]; exact c)]
        · rw [decide_eq_false (by omega : ¬ (N : Int) > 4294967295), j3f (Or.inl (by omega)), told_fits (by rw [l1]; exact c)]
      · have e : ¬ ((64 : Nat) : Int) = 32 := by decide
        rw [if_neg e, j3f (Or.inl (by omega)), told_fits (by rw [l1]; omega)]
    · rw [if_pos rfl]
      by_cases c : N = 0
      · subst c
        have e : ((0 : Nat) : Int) = 0 := rfl
        rw [if_pos e, told_fits (by rw [l2]; omega)]
        have hz : (if (b : Int) = 32 then spec_l4K_toInt.j3 (k + 1) (b : Int) ((0 : Nat) : Int) (decide (((0 : Nat) : Int) > 4294967295)) true x1 x2 y1 y2 else spec_l4K_toInt.j3 (k + 1) (b : Int) ((0 : Nat) : Int) false true x1 x2 y1 y2) = spec_l4K_toInt.j3 (k + 1) (b : Int) ((0 : Nat) : Int) false true x1 x2 y1 y2 := by
          split <;> rfl
        rw [hz, j3f (Or.inr rfl)]
      · rw [if_neg (by omega), j3t, told_over (by rw [l2]; omega)]
  · rw [if_pos rfl]
    by_cases c1 : N > 2 ^ (b - 1)
    · rw [if_pos (by omega), if_pos trivial]
      cases neg
      · rw [told_over (by rw [l3]; omega)]
      · rw [told_over (by rw [l4]; omega)]
    · rw [if_neg (by omega)]
      by_cases c2 : N = 2 ^ (b - 1)
      · rw [if_pos (by omega)]
        cases neg
        · rw [told_over (by rw [l3]; omega)]
          rfl
        · rw [told_fits (by rw [l4]; omega)]
          exact j3f (Or.inr rfl)
      · rw [if_neg (by omega), if_neg nf, if_pos rfl, j3f (Or.inl (by omega))]
        cases neg
        · rw [told_fits (by rw [l3]; omega)]
        · rw [told_fits (by rw [l4]; omega)]
/-- What is told of the float b. -/
def toI (F : Fm) (b : Int) (w : Nat) (signed : Bool) : Int × Int :=
  if (opN F b || opI F b) = true then (0, 2) else if opM F b ≠ 0 ∧ opE F b > 40 then (0, 2) else told w signed (opS F b) (tr (opM F b) (opE F b))
theorem tr_lt {m : Nat} {e : Int} (hm : m < 2 ^ 24) (he : m ≠ 0 → e ≤ 40) : tr m e < 2 ^ 64 := by
  unfold tr
  split
  · have := Nat.div_le_self m (2 ^ (-e).toNat)
    omega
  · by_cases z : m = 0
    · subst z; rw [Nat.zero_mul]; decide
    · have h1 : m * 2 ^ e.toNat ≤ (2 ^ 24 - 1) * 2 ^ 40 := Nat.mul_le_mul (by omega) (Nat.pow_le_pow_right (by decide) (by have := he z; omega))
      omega
theorem zero_E {F : Fm} (h : IsF F) (b : Int) (h0 : 0 ≤ b) (hi : opI F b = false) (hn : opN F b = false) (hm : opM F b = 0) : opE F b = F.L := by
  have hx := not_special hi hn
  obtain ⟨r1, r2, r3, r4⟩ := ranges h b h0
  have g := (facts2 h).2.2.2.2.2.1
  have hc := opM_cast h b h0
  rw [if_neg hx, hm] at hc
  unfold opE
  rw [if_neg hx]
  by_cases c : ex F b = 0
  · rw [if_pos c]
  · rw [if_neg c] at hc
    omega
theorem impl_toI {F : Fm} (h : IsF F) (k : Nat) (hk : 90 ≤ k) (a0 b : Int) (w : Nat) (hw : w = 32 ∨ w = 64) (signed : Bool) (hb : 0 ≤ b ∧ b ≤ 4294967295) (e0 : impl_formatOf.f a0 = some (F.p, F.b, true)) :
    impl_FToInt.f k a0 b (w : Int) signed = some (toI F b w signed) := by
  obtain ⟨k, rfl⟩ : ∃ j, k = j + 5 := ⟨k - 5, by omega⟩
  have hm := (opM_lt h b hb.1).2
  have he := opE_range h b hb.1
  have hz := zero_E h b hb.1
  have f4 := (facts h).2.2.2.1
  have hg : impl_goodBits.f (w : Int) = some true := by rcases hw with rfl | rfl <;> rfl
  unfold impl_FToInt.f
  rw [e0, hg]
  simp only [Option.bind_some, if_true]
  rw [impl_open h b hb.1 hb.2]
  simp only [Option.bind_some]
  unfold toI
  generalize opS F b = s, opI F b = i, opN F b = n, opM F b = m, opE F b = e at *
  have j0t : impl_FToInt.j0 (k + 5) (w : Int) signed true s n i (m : Int) e = some (0, 2) := by
    simp only [impl_FToInt.j0]
    rw [if_pos trivial]
  by_cases cn : n = true
  · subst cn
    rw [if_pos rfl, j0t, Bool.true_or, if_pos rfl]
  · rw [if_neg cn]
    by_cases ci : i = true
    · subst ci
      rw [if_pos rfl, j0t, Bool.or_true, if_pos rfl]
    · rw [if_neg ci]
      have cn' := Bool.eq_false_iff.2 cn
      have ci' := Bool.eq_false_iff.2 ci
      subst cn'
      subst ci'
      have j0f : (m ≠ 0 → e ≤ 40) → impl_FToInt.j0 (k + 5) (w : Int) signed false s false false (m : Int) e = some (told w signed s (tr m e)) := by
        intro hle
        have hlt := tr_lt hm hle
        simp only [impl_FToInt.j0]
        rw [if_neg (by decide)]
        by_cases c : e < 0
        · obtain ⟨d, hd⟩ : ∃ d : Nat, e = -(d : Int) := ⟨(-e).toNat, by omega⟩
          have ht : tr m e = m / 2 ^ d := by unfold tr; rw [if_pos c, hd, Int.neg_neg, Int.toNat_natCast]
          rw [if_pos c]
          have hwh := impl_wh (k + 3) 3 false m d hm (by omega) (by omega)
          rw [← hd] at hwh
          have hwe : wh 3 false m d = tr m e := by rw [ht]; unfold wh; rw [if_neg (by decide), if_neg (by decide), if_neg (by decide)]
          rw [hwh]
          simp only [Option.bind_some]
          rw [hwe]
          exact impl_told (k + 1) w hw signed s _ _ _ _ _ hlt
        · obtain ⟨d, hd⟩ : ∃ d : Nat, e = (d : Int) := ⟨e.toNat, by omega⟩
          have hmz : m ≠ 0 := fun z => by have := hz rfl rfl z; omega
          have ht : tr m e = m * 2 ^ d := by unfold tr; rw [if_neg c, hd, Int.toNat_natCast]
          have hd40 : d ≤ 40 := by have := hle hmz; omega
          subst hd
          rw [if_neg c, if_pos (by omega), shl_nat m d (by omega) (by omega), ← ht]
          exact impl_told (k + 1) w hw signed s false false ((m : Nat) : Int) (d : Int) _ hlt
      have nf : ¬ (false = true) := by decide
      rw [Bool.or_self, if_neg nf]
      by_cases z : m = 0
      · rw [if_pos (by omega), if_neg (fun h => h.1 z)]
        exact j0f (fun h => absurd z h)
      · rw [if_neg (by omega)]
        by_cases c40 : e > 40
        · rw [decide_eq_true c40, j0t, if_pos ⟨z, c40⟩]
        · rw [decide_eq_false c40, if_neg (fun h => c40 h.2)]
          exact j0f (fun _ => by omega)
/-- The float of a whole number, opened: that number. -/
theorem open_whole {F : Fm} (h : IsF F) (s : Bool) (q : Nat) (hq : q < 2 ^ (F.P + 1)) :
    opS F (fin F s q 0) = s ∧ opI F (fin F s q 0) = false ∧ opN F (fin F s q 0) = false ∧ tr (opM F (fin F s q 0)) (opE F (fin F s q 0)) = q ∧ opE F (fin F s q 0) ≤ 1 ∧ (q ≠ 0 → -23 ≤ opE F (fin F s q 0)) ∧ (q = 0 → opM F (fin F s q 0) = 0) := by
  obtain ⟨f1, f2, f3, f4, f5, f6, -⟩ := facts h
  by_cases z : q = 0
  · subst z
    obtain ⟨z1, z2, z3, z4, z5⟩ := open_zero h s
    rw [fin_zero, z1, z2, z3, z4, z5]
    refine ⟨rfl, rfl, rfl, ?_, by omega, fun h => absurd rfl h, fun _ => rfl⟩
    unfold tr
    rw [if_pos (by omega), Nat.zero_div]
  · have hb := bl_le hq
    have hb1 := (bl_pos z).2.2
    have hl : low F.P F.L q 0 = (bl q : Int) - F.P - 1 := by
      have : F.L ≤ -(F.P : Int) := by rcases h with rfl | rfl <;> decide
      unfold low
      omega
    have hkv := kv_left (p := F.P) (L := F.L) (m := q) (e := 0) (by omega)
    have hk := (kv_bounds (p := F.P) (L := F.L) (e := 0) z).1
    have hmag : mag F.P F.L q 0 < F.I := by
      rw [mag_kv]
      have h2 : (low F.P F.L q 0 - F.L).toNat * 2 ^ F.P ≤ (-F.L).toNat * 2 ^ F.P := Nat.mul_le_mul_right _ (by omega)
      have h3 : 2 ^ (F.P + 1) + (-F.L).toNat * 2 ^ F.P < F.I := by rcases h with rfl | rfl <;> decide
      omega
    obtain ⟨o1, o2, o3, c, hc, o4, o5⟩ := open_fin h s q 0 z hmag
    rw [hl] at o4
    rw [hkv, hl] at o5
    refine ⟨o1, o2, o3, ?_, by omega, fun _ => by omega, fun h => absurd h z⟩
    rw [o4]
    generalize opM F (fin F s q 0) = m' at *
    obtain ⟨t, ht⟩ : ∃ t : Nat, (0 : Int) - ((bl q : Int) - F.P - 1) = (t : Int) := ⟨(F.P + 1 - bl q : Nat), by omega⟩
    rw [ht, Int.toNat_natCast] at o5
    have he : (bl q : Int) - F.P - 1 + (c : Int) = (c : Int) - (t : Int) := by omega
    rw [he]
    unfold tr
    by_cases cc : (c : Int) - (t : Int) < 0
    · rw [if_pos cc]
      have e1 : (-((c : Int) - (t : Int))).toNat = t - c := by omega
      rw [e1]
      have e2 : q * 2 ^ t = q * 2 ^ (t - c) * 2 ^ c := by rw [Nat.mul_assoc, ← Nat.pow_add]; congr 2; omega
      rw [e2] at o5
      rw [Nat.eq_of_mul_eq_mul_right (Nat.two_pow_pos c) o5, Nat.mul_div_cancel _ (Nat.two_pow_pos _)]
    · rw [if_neg cc]
      have e1 : ((c : Int) - (t : Int)).toNat = c - t := by omega
      rw [e1]
      have e2 : m' * 2 ^ c = m' * 2 ^ (c - t) * 2 ^ t := by rw [Nat.mul_assoc, ← Nat.pow_add]; congr 2; omega
      rw [e2] at o5
      exact Nat.eq_of_mul_eq_mul_right (Nat.two_pow_pos t) o5
theorem spec_toI {F : Fm} (h : IsF F) (k : Nat) (hk : 90 ≤ k) (b : Int) (w : Nat) (hw : w = 32 ∨ w = 64) (signed : Bool) (hb : 0 ≤ b ∧ b ≤ 4294967295) :
    spec_l4K_toInt.f k F.x F.p b (w : Int) signed = some (toI F b w signed) := by
  obtain ⟨k, rfl⟩ : ∃ j, k = j + 4 := ⟨k - 4, by omega⟩
  obtain ⟨f1, f2, f3, f4, f5, f6, -⟩ := facts h
  have hm := (opM_lt h b hb.1).2
  have hm1 := (opM_lt h b hb.1).1
  have he := opE_range h b hb.1
  have hz := zero_E h b hb.1
  have hself := fin_self h b hb.1
  have hmod := op_mod h b hb.1
  have hwhole := spec_whole h (k + 3) (by omega) 3 b hb.1
  have hC : 0 < F.C ∧ 2 * F.C ≤ 4294967296 := by rcases h with rfl | rfl <;> decide
  have hmr : 0 ≤ b % (2 * F.C) ∧ b % (2 * F.C) ≤ 4294967295 := by
    have h1 := Int.emod_nonneg b (show 2 * F.C ≠ 0 by omega)
    have h2 := Int.emod_lt_of_pos b (show 0 < 2 * F.C by omega)
    omega
  unfold spec_l4K_toInt.f
  rw [spec_open h b hb.1 hb.2]
  simp only [Option.bind_some]
  unfold toI
  have j0t : spec_l4K_toInt.j0 (k + 4) (w : Int) signed true F.x F.p (opS F b) (opI F b) (opN F b) ((opM F b : Nat) : Int) (opE F b) = some (0, 2) := by
    simp only [spec_l4K_toInt.j0]
    rw [if_pos trivial]
  by_cases cn : opN F b = true
  · rw [if_pos cn, j0t, cn, Bool.true_or, if_pos rfl]
  · rw [if_neg cn]
    by_cases ci : opI F b = true
    · rw [ci] at j0t ⊢
      rw [j0t, Bool.or_true, if_pos rfl]
    · have cn' := Bool.eq_false_iff.2 cn
      have ci' := Bool.eq_false_iff.2 ci
      rw [cn', ci', Bool.or_self, if_neg (by decide)]
      rw [cn', ci'] at hwhole
      simp only [spec_l4K_toInt.j0]
      rw [if_neg (by decide), hwhole]
      simp only [Option.bind_some]
      unfold rnd
      rw [if_neg cn, if_neg ci]
      by_cases c : opE F b ≥ 0
      · rw [if_pos c, hself ci' cn', spec_open h _ hmr.1 hmr.2]
        simp only [Option.bind_some]
        have eS := hmod.1
        have eE : opE F (b % (2 * F.C)) = opE F b := by unfold opE; rw [hmod.2.1]
        have eM : opM F (b % (2 * F.C)) = opM F b := by unfold opM; rw [hmod.2.1, hmod.2.2]
        rw [eS, eE, eM]
        have hmz : opM F b ≠ 0 := fun z => by have := hz ci' cn' z; omega
        by_cases c40 : opE F b > 40
        · rw [if_pos c40, if_pos ⟨hmz, c40⟩]
        · rw [if_neg c40, if_pos c, if_neg (c := opM F b ≠ 0 ∧ opE F b > 40) (fun h => c40 h.2)]
          have hlt := tr_lt (m := opM F b) (e := opE F b) hm (fun _ => by omega)
          obtain ⟨d, hd⟩ : ∃ d : Nat, opE F b = (d : Int) := ⟨(opE F b).toNat, by omega⟩
          have ht : tr (opM F b) (opE F b) = opM F b * 2 ^ d := by unfold tr; rw [if_neg (by omega), hd, Int.toNat_natCast]
          rw [hd, wu64 (n := (d : Int)) (by omega) (by omega), if_pos (by omega), shl_nat (opM F b) d (by omega) (by rw [ht] at hlt; omega), ← ht, ← hd]
          exact spec_told k w hw signed _ _ _ _ _ _ hlt
      · rw [if_neg c]
        obtain ⟨d, hd⟩ : ∃ d : Nat, -(opE F b) = (d : Int) := ⟨(-(opE F b)).toNat, by omega⟩
        have hwe : wh 3 (opS F b) (opM F b) (-(opE F b)).toNat = tr (opM F b) (opE F b) := by
          unfold wh tr
          rw [if_neg (by decide), if_neg (by decide), if_neg (by decide), if_pos (by omega)]
        have hq : tr (opM F b) (opE F b) < 2 ^ (F.P + 1) := by
          unfold tr
          rw [if_pos (by omega)]
          exact Nat.lt_of_le_of_lt (Nat.div_le_self _ _) hm1
        rw [hwe]
        have hlt := tr_lt (m := opM F b) (e := opE F b) hm (fun _ => by omega)
        obtain ⟨o1, o2, o3, o4, o5, o6, o7⟩ := open_whole h (opS F b) (tr (opM F b) (opE F b)) hq
        have hfr : 0 ≤ fin F (opS F b) (tr (opM F b) (opE F b)) 0 ∧ fin F (opS F b) (tr (opM F b) (opE F b)) 0 ≤ 4294967295 := by
          have h1 : rb F.P F.L F.I (tr (opM F b) (opE F b)) 0 ≤ F.I := by unfold rb; split <;> omega
          unfold fin sg
          rcases h with rfl | rfl
          · have : F16.I = 31744 := rfl
            rw [show F16.C = 32768 from rfl]; split <;> omega
          · have : F32.I = 2139095040 := rfl
            rw [show F32.C = 2147483648 from rfl]; split <;> omega
        have hm' := (opM_lt h _ hfr.1).2
        rw [spec_open h _ hfr.1 hfr.2]
        simp only [Option.bind_some]
        rw [o1, if_neg (by omega), if_neg (c := opM F b ≠ 0 ∧ opE F b > 40) (fun h => by omega)]
        generalize fin F (opS F b) (tr (opM F b) (opE F b)) 0 = t at *
        rw [← o4] at hlt ⊢
        by_cases c0 : opE F t ≥ 0
        · obtain ⟨d', hd'⟩ : ∃ d : Nat, opE F t = (d : Int) := ⟨(opE F t).toNat, by omega⟩
          have ht : tr (opM F t) (opE F t) = opM F t * 2 ^ d' := by unfold tr; rw [if_neg (by omega), hd', Int.toNat_natCast]
          rw [if_pos c0]
          rw [hd', wu64 (n := (d' : Int)) (by omega) (by omega), if_pos (by omega), shl_nat (opM F t) d' (by omega) (by rw [ht] at hlt; omega), ← ht, ← hd']
          exact spec_told k w hw signed _ _ _ _ _ _ hlt
        · obtain ⟨d', hd'⟩ : ∃ d : Nat, -(opE F t) = (d : Int) := ⟨(-(opE F t)).toNat, by omega⟩
          have ht : tr (opM F t) (opE F t) = opM F t / 2 ^ d' := by unfold tr; rw [if_pos (by omega), hd', Int.toNat_natCast]
          have het := opE_range h t hfr.1
          rw [if_neg c0, hd', w64 (n := (d' : Int)) (by omega) (by omega)]
          by_cases c60 : (d' : Int) < 60
          · rw [if_pos c60, wu64 (n := (d' : Int)) (by omega) (by omega), if_pos (by omega), shr_nat (opM F t) d' (by omega), ← ht]
            exact spec_told k w hw signed _ _ _ _ _ _ hlt
          · rw [if_neg c60]
            have hq0 : tr (opM F b) (opE F b) = 0 := by
              refine Classical.byContradiction fun h => ?_
              have := o6 h
              omega
            have e0 : tr (opM F t) (opE F t) = 0 := by rw [o4, hq0]
            rw [e0] at hlt ⊢
            exact spec_told k w hw signed _ _ _ _ _ 0 hlt
theorem FnExactFToInt : laws_FnExactFToInt.Pure := by
  intro a0 b a2 a3 _ hb _
  refine ⟨100, ?_⟩
  have hb := wf_u32 hb
  unfold laws_FnExactFToInt.f spec_FToInt.f
  rcases kinds a0 with ⟨F, h, f1, f2⟩ | ⟨f1, f2⟩
  · rw [f1]
    simp only [Option.bind_some, if_true]
    by_cases c : a2 = 32 ∨ a2 = 64
    · obtain ⟨w, rfl, hw⟩ : ∃ w : Nat, a2 = (w : Int) ∧ (w = 32 ∨ w = 64) := by
        rcases c with rfl | rfl
        · exact ⟨32, rfl, Or.inl rfl⟩
        · exact ⟨64, rfl, Or.inr rfl⟩
      have hg : spec_l3Bits.f (w : Int) = some true := by rcases hw with rfl | rfl <;> rfl
      rw [hg]
      simp only [Option.bind_some, if_true]
      rw [spec_toI h 100 (by omega) b w hw a3 hb, impl_toI h 100 (by omega) a0 b w hw a3 hb f2]
      simp
    · have hg : spec_l3Bits.f a2 = some false := by
        unfold spec_l3Bits.f
        rw [if_neg (fun h => c (Or.inl h))]
        exact congrArg some (decide_eq_false (fun h => c (Or.inr h)))
      have hg2 : impl_goodBits.f a2 = some false := by
        unfold impl_goodBits.f
        rw [if_neg (fun h => c (Or.inl h))]
        exact congrArg some (decide_eq_false (fun h => c (Or.inr h)))
      unfold impl_FToInt.f
      rw [hg, f2]
      simp only [Option.bind_some, if_true]
      rw [hg2]
      simp
  · unfold impl_FToInt.f
    rw [f1, f2]
    simp
end Go.Proofs.Ytdeogandkgiggaa.Pure
