import Derived.Test.YtdeogandkgiggaaFe
import Derived.Test.YtdeogandkgiggaaQx7
namespace Go.Proofs.Ytdeogandkgiggaa.Pure
open Go.RowKit Go.Proofs.Ytdeogandkgiggaa.Q Go.Proofs.YtdeogandkgiggaaW.PrintWords Go.Proofs.YtdeogandkgiggaaW.PrintLast Go.Proofs.YtdeogandkgiggaaW.PrintMore Go.Proofs.Ytdeogandkgiggaa.Mb Go.Proofs.Ytdeogandkgiggaa.Fp Go.Proofs.Ytdeogandkgiggaa.Fl Go.Proofs.Ytdeogandkgiggaa.Fr Go.Proofs.Ytdeogandkgiggaa.Fo Go.Proofs.Ytdeogandkgiggaa.Fe
set_option linter.unusedSimpArgs false
set_option linter.unusedVariables false
/-- The whole number that is told of m / 2^d. -/
def wh (mode : Int) (neg : Bool) (m d : Nat) : Nat :=
  if mode = 1 then (if m % 2 ^ d = 0 then m / 2 ^ d else if neg = true then m / 2 ^ d else m / 2 ^ d + 1)
  else if mode = 2 then (if m % 2 ^ d = 0 then m / 2 ^ d else if neg = true then m / 2 ^ d + 1 else m / 2 ^ d)
  else if mode = 4 then (if 2 * (m % 2 ^ d) > 2 ^ d then m / 2 ^ d + 1 else if 2 * (m % 2 ^ d) = 2 ^ d then (if m / 2 ^ d % 2 = 1 then m / 2 ^ d + 1 else m / 2 ^ d) else m / 2 ^ d)
  else m / 2 ^ d
theorem wh_lt (mode : Int) (neg : Bool) (m d : Nat) (h : m < 2 ^ 24) : wh mode neg m d < 2 ^ 25 := by
  have h1 : m / 2 ^ d ≤ m := Nat.div_le_self _ _
  unfold wh
  repeat' split
  all_goals omega
theorem nat_one {q : Nat} (h : q < 2 ^ 24) : IntKind.u64.wrap ((q : Int) + 1) = ((q + 1 : Nat) : Int) := by rw [wu64 (by omega) (by omega)]; omega
theorem impl_wh (k : Nat) (mode : Int) (neg : Bool) (m d : Nat) (h : m < 2 ^ 24) (hd : 1 ≤ d) (hd2 : d ≤ 200) : impl_whole.f (k + 1) mode neg (m : Int) (-(d : Int)) = some ((wh mode neg m d : Nat) : Int) := by
  have hq : m / 2 ^ d ≤ m := Nat.div_le_self _ _
  have hq0 : (0 : Int) ≤ ((m / 2 ^ d : Nat) : Int) := Int.natCast_nonneg _
  have key : ∀ (x11 x12 : Bool), x11 = decide (2 * (m % 2 ^ d) = 2 ^ d) → x12 = decide (2 * (m % 2 ^ d) > 2 ^ d) → impl_whole.j0 (k + 1) mode neg ((m / 2 ^ d : Nat) : Int) ((m % 2 ^ d : Nat) : Int) x11 x12 = some ((wh mode neg m d : Nat) : Int) := by
    intro x11 x12 h11 h12
    subst h11
    subst h12
    simp only [impl_whole.j0]
    rw [nat_one (by omega), and_one_nat _ (by omega)]
    unfold wh
    have z : (((m % 2 ^ d : Nat) : Int) = 0) = (m % 2 ^ d = 0) := propext (by omega)
    have z1 : (((m / 2 ^ d % 2 : Nat) : Int) = 1) = (m / 2 ^ d % 2 = 1) := propext (by omega)
    simp only [z, z1, decide_eq_true_eq]
    repeat' split
    all_goals rfl
  unfold impl_whole.f
  rw [Int.neg_neg, w64 (n := (d : Int)) (by omega) (by omega)]
  by_cases c : -(d : Int) > -64
  · have hd1 : d ≤ 63 := by omega
    have e1 : wrap64 ((d : Int) - 1) = ((d - 1 : Nat) : Int) := by rw [w64 (by omega) (by omega)]; omega
    have hdm := Nat.div_add_mod m (2 ^ d)
    rw [Nat.mul_comm] at hdm
    have g : 2 ^ d = 2 * 2 ^ (d - 1) := by rw [← Nat.pow_succ']; congr 1; omega
    rw [if_pos c, if_pos (by omega), e1, if_pos (by omega), shr_nat m d (by omega), shl_nat (m / 2 ^ d) d (by omega) (by omega), shl_one (d - 1) (by omega)]
    have e2 : IntKind.u64.wrap ((m : Int) - ((m / 2 ^ d * 2 ^ d : Nat) : Int)) = ((m % 2 ^ d : Nat) : Int) := by rw [wu64 (by omega) (by omega)]; omega
    rw [e2]
    exact key _ _ (decide_eq_decide.2 (by omega)) (decide_eq_decide.2 (by omega))
  · have ht : 2 ^ 25 ≤ 2 ^ d := Nat.pow_le_pow_right (by decide) (by omega)
    have z1 : m / 2 ^ d = 0 := Nat.div_eq_of_lt (by omega)
    have z2 : m % 2 ^ d = m := Nat.mod_eq_of_lt (by omega)
    rw [if_neg c]
    have := key false false (decide_eq_false (by omega)).symm (decide_eq_false (by omega)).symm
    rw [z1, z2] at this
    exact this
/-- The float that is told. -/
def rnd (F : Fm) (mode b : Int) : Int := if opN F b = true then nan F else if opI F b = true then inf F (opS F b) else if opE F b ≥ 0 then fin F (opS F b) (opM F b) (opE F b) else fin F (opS F b) (wh mode (opS F b) (opM F b) (-(opE F b)).toNat) 0
theorem spec_whole {F : Fm} (h : IsF F) (k : Nat) (hk : 71 ≤ k) (mode b : Int) (hb : 0 ≤ b) :
    spec_l4K_whole.f k F.x F.p mode (opS F b) (opI F b) (opN F b) ((opM F b : Nat) : Int) (opE F b) = some (rnd F mode b) := by
  obtain ⟨k, rfl⟩ : ∃ j, k = j + 1 := ⟨k - 1, by omega⟩
  have hm := (opM_lt h b hb).2
  have he := opE_range h b hb
  unfold spec_l4K_whole.f rnd
  generalize opS F b = s, opI F b = i, opN F b = n, opM F b = m, opE F b = e at *
  rw [nan_F h, inf_F h]
  simp only [Option.bind_some]
  by_cases c1 : n = true
  · rw [if_pos c1, if_pos c1]
  · rw [if_neg c1, if_neg c1]
    by_cases c2 : i = true
    · rw [if_pos c2, if_pos c2]
    · rw [if_neg c2, if_neg c2, spec_exact h _ (by omega) _ _ _ (by omega) (by omega) (by omega)]
      simp only [Option.bind_some]
      by_cases c3 : e ≥ 0
      · rw [if_pos c3, if_pos c3]
      · rw [if_neg c3, if_neg c3]
        obtain ⟨d, hd⟩ : ∃ d : Nat, -e = (d : Int) := ⟨(-e).toNat, by omega⟩
        by_cases c4 : (m : Int) = 0
        · rw [if_pos c4]
          have c4' : m = 0 := by omega
          subst c4'
          have hw : wh mode s 0 (-e).toNat = 0 := by
            have hp := Nat.two_pow_pos (-e).toNat
            unfold wh
            rw [Nat.zero_mod, Nat.zero_div]
            repeat' split
            all_goals first | rfl | omega
          rw [hw, fin_zero, fin_zero]
        · rw [if_neg c4, hd, w64 (n := (d : Int)) (by omega) (by omega), wu64 (n := (d : Int)) (by omega) (by omega), Int.toNat_natCast]
          have hq : m / 2 ^ d ≤ m := Nat.div_le_self _ _
          have hwl := wh_lt mode s m d hm
          have hq0 : (0 : Int) ≤ ((m / 2 ^ d : Nat) : Int) := Int.natCast_nonneg _
          have key : ∀ side : Int, (2 * (m % 2 ^ d) > 2 ^ d → side = 1) → (2 * (m % 2 ^ d) = 2 ^ d → side = 0) → (2 * (m % 2 ^ d) < 2 ^ d → side = -1) →
              spec_l4K_whole.j0 (k + 1) mode ((m % 2 ^ d : Nat) : Int) ((m / 2 ^ d : Nat) : Int) side F.x F.p s i n (m : Int) e = some (fin F s (wh mode s m d) 0) := by
            intro side s1 s2 s3
            have hr : ∀ V : Nat, V < 2 ^ 25 → (spec_l4K_round.f k F.x F.p s (V : Int) 0 false).bind (fun t => some t) = some (fin F s V 0) := by
              intro V hV
              rw [spec_exact h k (by omega) s V 0 (by omega) (by omega) (by omega)]
              rfl
            simp only [spec_l4K_whole.j0]
            rw [nat_one (by omega), and_one_nat _ (by omega), hr _ (by omega), hr _ (by omega)]
            have z : (((m % 2 ^ d : Nat) : Int) = 0) = (m % 2 ^ d = 0) := propext (by omega)
            have z1 : (((m / 2 ^ d % 2 : Nat) : Int) = 1) = (m / 2 ^ d % 2 = 1) := propext (by omega)
            have y1 : (side > 0) = (2 * (m % 2 ^ d) > 2 ^ d) := propext (by omega)
            have y2 : (side = 0) = (2 * (m % 2 ^ d) = 2 ^ d) := propext (by omega)
            simp only [z, z1, y1, y2]
            unfold wh
            repeat' split
            all_goals rfl
          by_cases c5 : (d : Int) < 60
          · have hd1 : 1 ≤ d := by omega
            have g : 2 ^ d = 2 * 2 ^ (d - 1) := by rw [← Nat.pow_succ']; congr 1; omega
            have e1 : IntKind.u64.wrap ((d : Int) - 1) = ((d - 1 : Nat) : Int) := by rw [wu64 (by omega) (by omega)]; omega
            rw [if_pos c5, if_pos (by omega), e1, if_pos (by omega), mask_nat m d (by omega) (by omega), shr_nat m d (by omega), shl_one (d - 1) (by omega)]
            unfold spec_l4Side.f
            by_cases y1 : m % 2 ^ d < 2 ^ (d - 1)
            · rw [if_pos (by omega)]
              exact key (-1) (by omega) (by omega) (by omega)
            · rw [if_neg (by omega)]
              by_cases y2 : m % 2 ^ d > 2 ^ (d - 1)
              · rw [if_pos (by omega)]
                exact key 1 (by omega) (by omega) (by omega)
              · rw [if_neg (by omega)]
                exact key 0 (by omega) (by omega) (by omega)
          · have ht : 2 ^ 25 ≤ 2 ^ d := Nat.pow_le_pow_right (by decide) (by omega)
            have z1 : m / 2 ^ d = 0 := Nat.div_eq_of_lt (by omega)
            have z2 : m % 2 ^ d = m := Nat.mod_eq_of_lt (by omega)
            rw [if_neg c5]
            have := key (-1) (by omega) (by omega) (by omega)
            rw [z1, z2] at this
            exact this
theorem imask_F {F : Fm} (h : IsF F) : impl_format_mask.f F.p F.b = some (2 * F.C - 1) := by rcases h with rfl | rfl <;> decide +kernel
theorem and_mask {F : Fm} (h : IsF F) (b : Int) (h0 : 0 ≤ b) (h1 : b ≤ 4294967295) : Go.bits .and .u32 b (2 * F.C - 1) = b % (2 * F.C) := by
  rcases h with rfl | rfl
  · exact u32_mask 16 (by decide) b h0 (by omega)
  · exact u32_mask 32 (by decide) b h0 (by omega)
theorem impl_rnd {F : Fm} (h : IsF F) (k : Nat) (hk : 80 ≤ k) (a0 mode b : Int) (hb : 0 ≤ b ∧ b ≤ 4294967295) (e0 : impl_formatOf.f a0 = some (F.p, F.b, true)) (hm1 : 1 ≤ mode) (hm2 : mode ≤ 4) :
    impl_FRound.f k a0 mode b = some (rnd F mode b) := by
  obtain ⟨k, rfl⟩ : ∃ j, k = j + 3 := ⟨k - 3, by omega⟩
  have hm := (opM_lt h b hb.1).2
  have he := opE_range h b hb.1
  have hs := fin_self h b hb.1
  have hi := inf_self h b hb.1
  unfold impl_FRound.f
  rw [e0]
  simp only [Option.bind_some, if_true]
  rw [if_neg (by omega), decide_eq_false (by omega : ¬ mode > 4)]
  simp only [impl_FRound.j0]
  rw [if_neg (by decide), impl_open h b hb.1 hb.2]
  simp only [Option.bind_some]
  unfold rnd
  rw [inan_F h]
  simp only [Option.bind_some, impl_FRound.j1]
  rw [imask_F h]
  simp only [Option.bind_some]
  rw [and_mask h b hb.1 hb.2]
  generalize opS F b = s, opI F b = i, opN F b = n, opM F b = m, opE F b = e at *
  by_cases c1 : n = true
  · rw [if_pos c1, if_pos c1]
  · rw [if_neg c1, if_neg c1]
    by_cases c2 : i = true
    · rw [if_pos c2, if_pos c2, if_pos trivial, hi c2]
    · rw [if_neg c2, if_neg c2]
      by_cases c3 : e ≥ 0
      · rw [if_pos (decide_eq_true c3), if_pos c3, hs (Bool.eq_false_iff.2 c2) (Bool.eq_false_iff.2 c1)]
      · rw [if_neg (by simpa using c3), if_neg c3]
        obtain ⟨d, hd⟩ : ∃ d : Nat, e = -(d : Int) := ⟨(-e).toNat, by omega⟩
        subst hd
        have hwl := wh_lt mode s m d hm
        rw [impl_wh k mode s m d hm (by omega) (by omega), Int.neg_neg, Int.toNat_natCast]
        simp only [Option.bind_some]
        rw [impl_exact h _ (by omega) s _ 0 (by omega) (by omega) (by omega)]
        rfl
theorem FnExactFRound : laws_FnExactFRound.Pure := by
  intro a0 mode b _ _ hb
  refine ⟨80, ?_⟩
  have hb := wf_u32 hb
  unfold laws_FnExactFRound.f spec_FRound.f
  rcases kinds a0 with ⟨F, h, f1, f2⟩ | ⟨f1, f2⟩
  · rw [f1]
    simp only [Option.bind_some, if_true, spec_l1In.f]
    by_cases c : 1 ≤ mode ∧ mode ≤ 4
    · rw [if_pos c.1, decide_eq_true c.2]
      simp only [Option.bind_some, Bool.not_true, spec_FRound.j0]
      rw [if_neg (by decide), spec_open h b hb.1 hb.2]
      simp only [Option.bind_some]
      rw [spec_whole h 79 (by omega) mode b hb.1, impl_rnd h 80 (by omega) a0 mode b hb f2 c.1 c.2]
      simp
    · have hs : (if mode ≥ 1 then some (decide (mode ≤ 4)) else some false) = some false := by
        by_cases c1 : mode ≥ 1
        · rw [if_pos c1, decide_eq_false (fun h => c ⟨c1, h⟩)]
        · rw [if_neg c1]
      rw [hs]
      simp only [Option.bind_some, Bool.not_false, spec_FRound.j0, if_true]
      unfold impl_FRound.f
      rw [f2]
      simp only [Option.bind_some, if_true, impl_FRound.j0]
      by_cases c1 : mode < 1
      · rw [if_pos c1]
        simp
      · rw [if_neg c1, decide_eq_true (by omega : mode > 4)]
        simp
  · unfold impl_FRound.f
    rw [f1, f2]
    simp [spec_FRound.j0, impl_FRound.j0]
end Go.Proofs.Ytdeogandkgiggaa.Pure
