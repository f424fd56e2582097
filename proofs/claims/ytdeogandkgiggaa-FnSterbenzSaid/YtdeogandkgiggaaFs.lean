/- Sums of floats: the plain law of both texts' ways. -/
import Derived.Test.YtdeogandkgiggaaFo
import Derived.Test.YtdeogandkgiggaaQx7
import Derived.Test.YtdeogandkgiggaaQx9
namespace Go.Proofs.Ytdeogandkgiggaa.Fs
open Go.RowKit Go.Proofs.Ytdeogandkgiggaa.Q Go.Proofs.YtdeogandkgiggaaW.PrintWords Go.Proofs.YtdeogandkgiggaaW.PrintLast Go.Proofs.YtdeogandkgiggaaW.PrintMore Go.Proofs.Ytdeogandkgiggaa.Mb Go.Proofs.Ytdeogandkgiggaa.Fp Go.Proofs.Ytdeogandkgiggaa.Fl Go.Proofs.Ytdeogandkgiggaa.Fr Go.Proofs.Ytdeogandkgiggaa.Fo
set_option linter.unusedSimpArgs false
set_option linter.unusedVariables false

/-- The sum, the first one having the greater exponent. -/
def sumO (F : Fm) (s1 : Bool) (m1 : Nat) (s2 : Bool) (m2 : Nat) (d : Nat) (e2 : Int) : Int :=
  if s1 = s2 then fin F s1 (m1 * 2 ^ d + m2) e2 else if m2 > m1 * 2 ^ d then fin F s2 (m2 - m1 * 2 ^ d) e2 else if m1 * 2 ^ d = m2 then 0 else fin F s1 (m1 * 2 ^ d - m2) e2
def sumF (F : Fm) (s1 : Bool) (m1 : Nat) (e1 : Int) (s2 : Bool) (m2 : Nat) (e2 : Int) : Int :=
  if e1 < e2 then sumO F s2 m2 s1 m1 (e2 - e1).toNat e1 else sumO F s1 m1 s2 m2 (e1 - e2).toNat e2
/-- Of both texts: what is not finite first. -/
def add (F : Fm) (s1 i1 n1 : Bool) (m1 : Nat) (e1 : Int) (s2 i2 n2 : Bool) (m2 : Nat) (e2 : Int) : Int :=
  if (n1 || n2) = true then nan F else if (i1 && i2 && (s1 != s2)) = true then nan F else if i1 = true then inf F s1 else if i2 = true then inf F s2 else sumF F s1 m1 e1 s2 m2 e2

set_option maxHeartbeats 2000000 in
/-- Where the lesser one lies far behind. -/
theorem comb {F : Fm} (h : IsF F) (s1 s2 : Bool) (m1 m2 c d : Nat) (e : Int) (hm1 : 2 ^ F.P ≤ m1) (hm2 : m2 < 2 ^ 24) (hc : 30 ≤ c) :
    (m2 % 2 ^ d = 0 → (if s1 = s2 then fin F s1 (m1 * 2 ^ c + m2 / 2 ^ d) (e + d) else if m2 / 2 ^ d > m1 * 2 ^ c then fin F s2 (m2 / 2 ^ d - m1 * 2 ^ c) (e + d) else if m1 * 2 ^ c = m2 / 2 ^ d then 0 else fin F s1 (m1 * 2 ^ c - m2 / 2 ^ d) (e + d)) = sumO F s1 m1 s2 m2 (c + d) e) ∧
    (m2 % 2 ^ d ≠ 0 → (if s1 = s2 then fin F s1 (2 * (m1 * 2 ^ c + m2 / 2 ^ d) + 1) (e + d - 1) else fin F s1 (2 * (m1 * 2 ^ c - m2 / 2 ^ d - 1) + 1) (e + d - 1)) = sumO F s1 m1 s2 m2 (c + d) e) ∧
    m2 / 2 ^ d < 2 ^ 24 ∧ 2 ^ (F.P + 30) ≤ m1 * 2 ^ c ∧ F.P + 2 ≤ bl (m1 * 2 ^ c + m2 / 2 ^ d) ∧ F.P + 2 ≤ bl (m1 * 2 ^ c - m2 / 2 ^ d - 1) ∧ m2 / 2 ^ d < m1 * 2 ^ c := by
  have f5 := (facts h).2.2.2.2.1
  have g1 : 2 ^ (F.P + 30) ≤ m1 * 2 ^ c := by
    rw [Nat.pow_add]
    exact Nat.mul_le_mul hm1 (Nat.pow_le_pow_right (by decide) hc)
  have g2 : 2 ^ (F.P + 30) = 2 * 2 ^ (F.P + 29) := by rw [← Nat.pow_succ']
  have g3 : 2 ^ 39 ≤ 2 ^ (F.P + 29) := Nat.pow_le_pow_right (by decide) (by omega)
  have g4 : m2 / 2 ^ d ≤ m2 := Nat.div_le_self _ _
  have hq0 : (0 : Int) ≤ ((m2 / 2 ^ d : Nat) : Int) := Int.natCast_nonneg _
  have b1 : F.P + 2 ≤ bl (m1 * 2 ^ c + m2 / 2 ^ d) := by
    have := bl_ge (m := m1 * 2 ^ c + m2 / 2 ^ d) (n := F.P + 30) (by omega)
    omega
  have b2 : F.P + 2 ≤ bl (m1 * 2 ^ c - m2 / 2 ^ d - 1) := by
    have := bl_ge (m := m1 * 2 ^ c - m2 / 2 ^ d - 1) (n := F.P + 29) (by omega)
    omega
  have hp := Nat.two_pow_pos d
  have hdm := Nat.div_add_mod m2 (2 ^ d)
  have hr : m2 % 2 ^ d < 2 ^ d := Nat.mod_lt _ hp
  have eN : m1 * 2 ^ (c + d) = m1 * 2 ^ c * 2 ^ d := by rw [Nat.pow_add, Nat.mul_assoc]
  have hq : m2 / 2 ^ d < m1 * 2 ^ c := by omega
  have hgt : m2 < m1 * 2 ^ (c + d) := by
    rw [eN]
    exact (Nat.div_lt_iff_lt_mul hp).1 hq
  refine ⟨?_, ?_, by omega, g1, b1, b2, hq⟩
  · intro h0
    have e2 : m2 = m2 / 2 ^ d * 2 ^ d := by rw [Nat.mul_comm]; omega
    unfold sumO
    rw [eN] at hgt ⊢
    by_cases cs : s1 = s2
    · rw [if_pos cs, if_pos cs, fin_scale, Nat.add_mul, ← e2]
    · rw [if_neg cs, if_neg cs, if_neg (by omega), if_neg (by omega), if_neg (by omega), if_neg (by omega), fin_scale, Nat.sub_mul, ← e2]
  · intro h0
    unfold sumO
    by_cases cs : s1 = s2
    · rw [if_pos cs, if_pos cs]
      have q1 : (m1 * 2 ^ (c + d) + m2) / 2 ^ d = m1 * 2 ^ c + m2 / 2 ^ d := by
        rw [eN, Nat.add_comm, Nat.add_mul_div_right _ _ hp, Nat.add_comm]
      have q2 : (m1 * 2 ^ (c + d) + m2) % 2 ^ d = m2 % 2 ^ d := by
        rw [eN, Nat.add_comm, Nat.add_mul_mod_self_right]
      have := fin_stick (F := F) s1 (m1 * 2 ^ (c + d) + m2) d e (by rw [q1]; exact b1) (by rw [q2]; exact h0)
      rw [q1] at this
      exact this
    · rw [if_neg cs, if_neg cs, if_neg (by omega), if_neg (by omega)]
      have e3 : m1 * 2 ^ (c + d) - m2 = (2 ^ d - m2 % 2 ^ d) + (m1 * 2 ^ c - m2 / 2 ^ d - 1) * 2 ^ d := by
        have e4 : m1 * 2 ^ c * 2 ^ d = (m1 * 2 ^ c - m2 / 2 ^ d - 1) * 2 ^ d + (m2 / 2 ^ d + 1) * 2 ^ d := by
          have e5 : (m1 * 2 ^ c - m2 / 2 ^ d - 1) + (m2 / 2 ^ d + 1) = m1 * 2 ^ c := by omega
          rw [← Nat.add_mul, e5]
        rw [eN, e4]
        rw [Nat.mul_comm (2 ^ d) (m2 / 2 ^ d)] at hdm
        rw [Nat.add_mul (m2 / 2 ^ d) 1 (2 ^ d), Nat.one_mul]
        omega
      have q1 : (m1 * 2 ^ (c + d) - m2) / 2 ^ d = m1 * 2 ^ c - m2 / 2 ^ d - 1 := by
        rw [e3, Nat.add_mul_div_right _ _ hp, Nat.div_eq_of_lt (by omega)]
        omega
      have q2 : (m1 * 2 ^ (c + d) - m2) % 2 ^ d = 2 ^ d - m2 % 2 ^ d := by
        rw [e3, Nat.add_mul_mod_self_right, Nat.mod_eq_of_lt (by omega)]
      have := fin_stick (F := F) s1 (m1 * 2 ^ (c + d) - m2) d e (by rw [q1]; exact b2) (by rw [q2]; omega)
      rw [q1] at this
      exact this

/-! the reference's text -/
theorem sj1_exact {F : Fm} (h : IsF F) (k : Nat) (hk : 73 ≤ k) (s1 i1 n1 : Bool) (m1 : Nat) (e1 : Int) (s2 i2 n2 : Bool) (m2 : Nat) (e : Int) (h1 : m1 < 2 ^ 60) (h2 : m2 < 2 ^ 60) (he : -300 ≤ e ∧ e ≤ 300) :
    spec_l4K_sum.j1 k false F.x F.p s1 i1 n1 (m1 : Int) e1 s2 i2 n2 (m2 : Int) e = some (if s1 = s2 then fin F s1 (m1 + m2) e else if m2 > m1 then fin F s2 (m2 - m1) e else if m1 = m2 then 0 else fin F s1 (m1 - m2) e) := by
  obtain ⟨k, rfl⟩ : ∃ j, k = j + 3 := ⟨k - 3, by omega⟩
  simp only [spec_l4K_sum.j1, bneb]
  by_cases cs : s1 = s2
  · rw [if_pos cs, if_pos cs, nat_add (by omega), spec_exact h _ (by omega) _ _ _ (by omega) (by omega) (by omega)]
    rfl
  · rw [if_neg cs, if_neg cs]
    by_cases c : m2 > m1
    · rw [if_pos c, if_pos (by omega), nat_sub (by omega) (by omega), spec_exact h _ (by omega) _ _ _ (by omega) (by omega) (by omega)]
      rfl
    · rw [if_neg c, if_neg (by omega), if_neg (by decide), nat_sub (by omega) (by omega)]
      simp only [spec_l4K_sum.j2]
      by_cases c2 : m1 = m2
      · subst c2
        rw [if_pos rfl, if_pos (by omega)]
        simp only [spec_l4K_sum.j3, Bool.not_false, if_true, sign_F h]
        rfl
      · rw [if_neg c2, if_neg (by omega)]
        simp only [spec_l4K_sum.j3]
        rw [if_neg (by decide), spec_exact h _ (by omega) _ _ _ (by omega) (by omega) (by omega)]
        rfl
theorem sj1_more {F : Fm} (h : IsF F) (k : Nat) (hk : 73 ≤ k) (s1 i1 n1 : Bool) (m1 : Nat) (e1 : Int) (s2 i2 n2 : Bool) (m2 : Nat) (e : Int) (h1 : m1 < 2 ^ 60) (h2 : m2 < m1) (he : -300 ≤ e ∧ e ≤ 300) (hb1 : F.P + 2 ≤ bl (m1 + m2)) (hb2 : F.P + 2 ≤ bl (m1 - m2 - 1)) :
    spec_l4K_sum.j1 k true F.x F.p s1 i1 n1 (m1 : Int) e1 s2 i2 n2 (m2 : Int) e = some (if s1 = s2 then fin F s1 (2 * (m1 + m2) + 1) (e - 1) else fin F s1 (2 * (m1 - m2 - 1) + 1) (e - 1)) := by
  obtain ⟨k, rfl⟩ : ∃ j, k = j + 3 := ⟨k - 3, by omega⟩
  simp only [spec_l4K_sum.j1, bneb]
  by_cases cs : s1 = s2
  · rw [if_pos cs, if_pos cs, nat_add (by omega), spec_round h _ (by omega) _ _ _ true (by omega) (by omega) (by omega) (fun _ => hb1)]
    rfl
  · rw [if_neg cs, if_neg cs, if_neg (by omega), if_pos trivial, nat_sub (by omega) (by omega)]
    have e1 : IntKind.u64.wrap (((m1 - m2 : Nat) : Int) - 1) = ((m1 - m2 - 1 : Nat) : Int) := by rw [wu64 (by omega) (by omega)]; omega
    rw [e1]
    have hz : ¬ ((m1 - m2 - 1 : Nat) : Int) = 0 := by
      intro h0
      have h3 : m1 - m2 - 1 = 0 := by omega
      rw [h3, bl_zero] at hb2
      omega
    simp only [spec_l4K_sum.j2, spec_l4K_sum.j3]
    rw [if_neg hz, if_neg (by decide), spec_round h _ (by omega) _ _ _ true (by omega) (by omega) (by omega) (fun _ => hb2)]
    rfl
theorem sj0 {F : Fm} (h : IsF F) (k : Nat) (hk : 74 ≤ k) (s1 n1 : Bool) (m1 : Nat) (e1 : Int) (s2 n2 : Bool) (m2 : Nat) (e2 : Int) (h1 : m1 < 2 ^ 24) (h2 : m2 < 2 ^ 24) (he1 : e1 ≤ 104) (he2 : F.L ≤ e2) (hle : e2 ≤ e1) (hn : F.L < e1 → 2 ^ F.P ≤ m1) :
    spec_l4K_sum.j0 k false F.x F.p s1 false n1 (m1 : Int) e1 s2 false n2 (m2 : Int) e2 = some (sumO F s1 m1 s2 m2 (e1 - e2).toNat e2) := by
  obtain ⟨k, rfl⟩ : ∃ j, k = j + 1 := ⟨k - 1, by omega⟩
  have f3 := (facts h).2.2.1
  have f4 := (facts h).2.2.2.1
  simp only [spec_l4K_sum.j0]
  rw [if_neg (by decide), if_neg (by decide), if_neg (by decide), if_neg (by omega), w64 (n := e1 - e2) (by omega) (by omega), wu64 (n := e1 - e2) (by omega) (by omega)]
  obtain ⟨d, hd⟩ : ∃ d : Nat, e1 - e2 = (d : Int) := ⟨(e1 - e2).toNat, by omega⟩
  rw [hd, Int.toNat_natCast]
  have p30 : (2 : Nat) ^ 30 = 1073741824 := by decide
  by_cases c : d ≤ 30
  · have hs : m1 * 2 ^ d ≤ 2 ^ 24 * 2 ^ 30 := Nat.mul_le_mul (by omega) (Nat.pow_le_pow_right (by decide) c)
    rw [if_pos (by omega), if_pos (by omega), shl_nat m1 d (by omega) (by omega), sj1_exact h k (by omega) _ _ _ _ _ _ _ _ _ _ (by omega) (by omega) (by omega)]
    rfl
  · obtain ⟨t, rfl⟩ : ∃ t, d = 30 + t := ⟨d - 30, by omega⟩
    obtain ⟨q1, q2, q3, q4, q5, q6, q7⟩ := comb h s1 s2 m1 m2 30 t e2 (hn (by omega)) h2 (by omega)
    have em : IntKind.u64.wrap ((m1 : Int) * 1073741824) = ((m1 * 2 ^ 30 : Nat) : Int) := by rw [wu64 (by omega) (by omega)]; omega
    have ed : IntKind.u64.wrap (((30 + t : Nat) : Int) - 30) = (t : Int) := by rw [wu64 (by omega) (by omega)]; omega
    have ee : wrap64 (e1 - 30) = e2 + t := by rw [w64 (by omega) (by omega)]; omega
    rw [if_neg (by omega), em, ed, ee]
    by_cases c2 : (t : Int) > 60
    · rw [if_pos c2]
      have ht : 2 ^ 24 ≤ 2 ^ t := Nat.pow_le_pow_right (by decide) (by omega)
      have z1 : m2 / 2 ^ t = 0 := Nat.div_eq_of_lt (by omega)
      have z2 : m2 % 2 ^ t = m2 := Nat.mod_eq_of_lt (by omega)
      rw [z1] at q1 q2 q3 q5 q6 q7
      rw [z2] at q1 q2
      by_cases z : m2 = 0
      · subst z
        have := sj1_exact h k (by omega) s1 false n1 (m1 * 2 ^ 30) e1 s2 false n2 0 (e2 + t) (by omega) (by omega) (by omega)
        rw [q1 rfl] at this
        exact this
      · have := sj1_more h k (by omega) s1 false n1 (m1 * 2 ^ 30) e1 s2 false n2 0 (e2 + t) (by omega) (by omega) (by omega) q5 q6
        rw [q2 z] at this
        have eb : ((m2 : Int) != 0) = true := by rw [bne_dec]; exact decide_eq_true (by omega)
        rw [eb]
        exact this
    · rw [if_neg c2, if_pos (by omega), mask_nat m2 t (by omega) (by omega), shr_nat m2 t (by omega)]
      by_cases z : m2 % 2 ^ t = 0
      · have := sj1_exact h k (by omega) s1 false n1 (m1 * 2 ^ 30) e1 s2 false n2 (m2 / 2 ^ t) (e2 + t) (by omega) (by omega) (by omega)
        rw [q1 z] at this
        have eb : (((m2 % 2 ^ t : Nat) : Int) != 0) = false := by rw [bne_dec]; exact decide_eq_false (by omega)
        rw [eb]
        exact this
      · have := sj1_more h k (by omega) s1 false n1 (m1 * 2 ^ 30) e1 s2 false n2 (m2 / 2 ^ t) (e2 + t) (by omega) (by omega) (by omega) q5 q6
        rw [q2 z] at this
        have eb : (((m2 % 2 ^ t : Nat) : Int) != 0) = true := by rw [bne_dec]; exact decide_eq_true (by omega)
        rw [eb]
        exact this
theorem spec_sum {F : Fm} (h : IsF F) (k : Nat) (hk : 77 ≤ k) (s1 i1 n1 : Bool) (m1 : Nat) (e1 : Int) (s2 i2 n2 : Bool) (m2 : Nat) (e2 : Int) (h1 : m1 < 2 ^ 24) (h2 : m2 < 2 ^ 24) (he1 : e1 ≤ 104) (he2 : e2 ≤ 104)
    (hl1 : i1 = false → n1 = false → F.L ≤ e1) (hl2 : i2 = false → n2 = false → F.L ≤ e2) (hn1 : F.L < e1 → i1 = false → n1 = false → 2 ^ F.P ≤ m1) (hn2 : F.L < e2 → i2 = false → n2 = false → 2 ^ F.P ≤ m2) :
    spec_l4K_sum.f k F.x F.p s1 i1 n1 (m1 : Int) e1 s2 i2 n2 (m2 : Int) e2 = some (add F s1 i1 n1 m1 e1 s2 i2 n2 m2 e2) := by
  obtain ⟨k, rfl⟩ : ∃ j, k = j + 3 := ⟨k - 3, by omega⟩
  have jt : spec_l4K_sum.j0 (k + 2) true F.x F.p s1 i1 n1 (m1 : Int) e1 s2 i2 n2 (m2 : Int) e2 = some (nan F) := by
    simp only [spec_l4K_sum.j0]
    rw [if_pos trivial, nan_F h]
    rfl
  have ji1 : spec_l4K_sum.j0 (k + 2) false F.x F.p s1 true n1 (m1 : Int) e1 s2 i2 n2 (m2 : Int) e2 = some (inf F s1) := by
    simp only [spec_l4K_sum.j0]
    rw [if_neg (by decide), if_pos trivial, inf_F h]
    rfl
  have ji2 : spec_l4K_sum.j0 (k + 2) false F.x F.p s1 false n1 (m1 : Int) e1 s2 true n2 (m2 : Int) e2 = some (inf F s2) := by
    simp only [spec_l4K_sum.j0]
    rw [if_neg (by decide), if_neg (by decide), if_pos trivial, inf_F h]
    rfl
  have jf : i1 = false → n1 = false → i2 = false → n2 = false → spec_l4K_sum.j0 (k + 2) false F.x F.p s1 false false (m1 : Int) e1 s2 false false (m2 : Int) e2 = some (sumF F s1 m1 e1 s2 m2 e2) := by
    intro z1 z2 z3 z4
    unfold sumF
    by_cases c : e1 < e2
    · rw [if_pos c]
      simp only [spec_l4K_sum.j0]
      rw [if_neg (by decide), if_neg (by decide), if_neg (by decide), if_pos c]
      simp only [spec_l4K_sum.f]
      rw [if_neg (by decide), if_neg (by decide), if_neg (by decide)]
      rw [sj0 h k (by omega) s2 false m2 e2 s1 false m1 e1 h2 h1 he2 (hl1 z1 z2) (by omega) (fun g => hn2 g z3 z4)]
      rfl
    · rw [if_neg c, sj0 h (k + 2) (by omega) s1 false m1 e1 s2 false m2 e2 h1 h2 he1 (hl2 z3 z4) (by omega) (fun g => hn1 g z1 z2)]
  simp only [spec_l4K_sum.f]
  unfold add
  cases n1 <;> cases n2 <;> cases i1 <;> cases i2 <;> cases s1 <;> cases s2 <;> simp_all

/-! the program's text -/
theorem ij1_exact {F : Fm} (h : IsF F) (k : Nat) (hk : 73 ≤ k) (s1 i1 n1 : Bool) (x1 : Int) (e1 : Int) (s2 i2 n2 : Bool) (x2 : Int) (e2 : Int) (m1 m2 : Nat) (h1 : m1 < 2 ^ 60) (h2 : m2 < m1) (he : -149 ≤ e1 ∧ e1 ≤ 104) :
    impl_format_sum.j1 k (m1 : Int) (m2 : Int) false F.p F.b s1 i1 n1 x1 e1 s2 i2 n2 x2 e2 = some (if s1 = s2 then fin F s1 (m1 + m2) (e1 - 35) else fin F s1 (m1 - m2) (e1 - 35)) := by
  obtain ⟨k, rfl⟩ : ∃ j, k = j + 3 := ⟨k - 3, by omega⟩
  simp only [impl_format_sum.j1, bneb]
  rw [w64 (n := e1 - 35) (by omega) (by omega)]
  by_cases cs : s1 = s2
  · rw [if_pos cs, if_pos cs, nat_add (by omega), impl_exact h _ (by omega) _ _ _ (by omega) (by omega) (by omega)]
    rfl
  · rw [if_neg cs, if_neg cs, if_neg (by decide), nat_sub (by omega) (by omega), impl_exact h _ (by omega) _ _ _ (by omega) (by omega) (by omega)]
    rfl
theorem ij1_more {F : Fm} (h : IsF F) (k : Nat) (hk : 73 ≤ k) (s1 i1 n1 : Bool) (x1 : Int) (e1 : Int) (s2 i2 n2 : Bool) (x2 : Int) (e2 : Int) (m1 m2 : Nat) (h1 : m1 < 2 ^ 60) (h2 : m2 < m1) (he : -149 ≤ e1 ∧ e1 ≤ 104) (hb1 : F.P + 2 ≤ bl (m1 + m2)) (hb2 : F.P + 2 ≤ bl (m1 - m2 - 1)) :
    impl_format_sum.j1 k (m1 : Int) (m2 : Int) true F.p F.b s1 i1 n1 x1 e1 s2 i2 n2 x2 e2 = some (if s1 = s2 then fin F s1 (2 * (m1 + m2) + 1) (e1 - 35 - 1) else fin F s1 (2 * (m1 - m2 - 1) + 1) (e1 - 35 - 1)) := by
  obtain ⟨k, rfl⟩ : ∃ j, k = j + 3 := ⟨k - 3, by omega⟩
  simp only [impl_format_sum.j1, bneb]
  rw [w64 (n := e1 - 35) (by omega) (by omega)]
  by_cases cs : s1 = s2
  · rw [if_pos cs, if_pos cs, nat_add (by omega), impl_round h _ (by omega) _ _ _ true (by omega) (by omega) (by omega) (fun _ => hb1)]
    rfl
  · have ew : IntKind.u64.wrap (((m1 - m2 : Nat) : Int) - 1) = ((m1 - m2 - 1 : Nat) : Int) := by rw [wu64 (by omega) (by omega)]; omega
    rw [if_neg cs, if_neg cs, if_pos trivial, nat_sub (by omega) (by omega), ew, impl_round h _ (by omega) _ _ _ true (by omega) (by omega) (by omega) (fun _ => hb2)]
    rfl
theorem ij0 {F : Fm} (h : IsF F) (k : Nat) (hk : 74 ≤ k) (s1 i1 n1 : Bool) (m1 : Nat) (e1 : Int) (s2 i2 n2 : Bool) (m2 : Nat) (e2 : Int) (h1 : m1 < 2 ^ 24) (h2 : m2 < 2 ^ 24) (he1 : e1 ≤ 104) (he2 : F.L ≤ e2) (hle : e2 ≤ e1) (hn : F.L < e1 → 2 ^ F.P ≤ m1) :
    impl_format_sum.j0 k F.p F.b s1 i1 n1 (m1 : Int) e1 s2 i2 n2 (m2 : Int) e2 = some (sumO F s1 m1 s2 m2 (e1 - e2).toNat e2) := by
  obtain ⟨k, rfl⟩ : ∃ j, k = j + 1 := ⟨k - 1, by omega⟩
  have f3 := (facts h).2.2.1
  have f4 := (facts h).2.2.2.1
  simp only [impl_format_sum.j0, bneb]
  rw [w64 (n := e1 - e2) (by omega) (by omega)]
  obtain ⟨d, hd⟩ : ∃ d : Nat, e1 - e2 = (d : Int) := ⟨(e1 - e2).toNat, by omega⟩
  rw [hd, Int.toNat_natCast]
  have p35 : (2 : Nat) ^ 35 = 34359738368 := by decide
  by_cases c : d ≤ 35
  · have hs : m1 * 2 ^ d ≤ 2 ^ 24 * 2 ^ 35 := Nat.mul_le_mul (by omega) (Nat.pow_le_pow_right (by decide) c)
    rw [if_pos (by omega), if_pos (by omega), shl_nat m1 d (by omega) (by omega)]
    unfold sumO
    by_cases cs : s1 = s2
    · rw [if_pos cs, if_pos cs, nat_add (by omega), impl_exact h _ (by omega) _ _ _ (by omega) (by omega) (by omega)]
      rfl
    · rw [if_neg cs, if_neg cs]
      by_cases c1 : m1 * 2 ^ d > m2
      · rw [if_pos (by omega), if_neg (by omega), if_neg (by omega), nat_sub (by omega) (by omega), impl_exact h _ (by omega) _ _ _ (by omega) (by omega) (by omega)]
        rfl
      · rw [if_neg (by omega)]
        by_cases c2 : m1 * 2 ^ d < m2
        · rw [if_pos (by omega), if_pos (by omega), nat_sub (by omega) (by omega), impl_exact h _ (by omega) _ _ _ (by omega) (by omega) (by omega)]
          rfl
        · rw [if_neg (by omega), if_neg (by omega), if_pos (by omega)]
  · obtain ⟨t, rfl⟩ : ∃ t, d = 35 + t := ⟨d - 35, by omega⟩
    obtain ⟨q1, q2, q3, q4, q5, q6, q7⟩ := comb h s1 s2 m1 m2 35 t e2 (hn (by omega)) h2 (by omega)
    have em : IntKind.u64.wrap ((m1 : Int) * 34359738368) = ((m1 * 2 ^ 35 : Nat) : Int) := by rw [wu64 (by omega) (by omega)]; omega
    have ed : wrap64 (((35 + t : Nat) : Int) - 35) = (t : Int) := by rw [w64 (by omega) (by omega)]; omega
    have ee : e1 - 35 = e2 + t := by omega
    rw [if_neg (by omega), em, ed]
    have x1 : m2 % 2 ^ t = 0 → impl_format_sum.j1 k ((m1 * 2 ^ 35 : Nat) : Int) ((m2 / 2 ^ t : Nat) : Int) false F.p F.b s1 i1 n1 (m1 : Int) e1 s2 i2 n2 (m2 : Int) e2 = some (sumO F s1 m1 s2 m2 (35 + t) e2) := by
      intro z
      rw [ij1_exact h k (by omega) _ _ _ _ _ _ _ _ _ _ _ _ (by omega) q7 (by omega), ee, ← q1 z, if_neg (c := m2 / 2 ^ t > m1 * 2 ^ 35) (by omega), if_neg (c := m1 * 2 ^ 35 = m2 / 2 ^ t) (by omega)]
    have x2 : m2 % 2 ^ t ≠ 0 → impl_format_sum.j1 k ((m1 * 2 ^ 35 : Nat) : Int) ((m2 / 2 ^ t : Nat) : Int) true F.p F.b s1 i1 n1 (m1 : Int) e1 s2 i2 n2 (m2 : Int) e2 = some (sumO F s1 m1 s2 m2 (35 + t) e2) := by
      intro z
      rw [ij1_more h k (by omega) _ _ _ _ _ _ _ _ _ _ _ _ (by omega) q7 (by omega) q5 q6, ee, ← q2 z]
    by_cases c2 : (t : Int) < 64
    · have hdm := Nat.div_add_mod m2 (2 ^ t)
      have hle2 : m2 / 2 ^ t * 2 ^ t ≤ m2 := Nat.div_mul_le_self _ _
      rw [if_pos c2, if_pos (by omega), shr_nat m2 t (by omega), shl_nat (m2 / 2 ^ t) t (by omega) (by omega)]
      rw [Nat.mul_comm] at hdm
      by_cases z : m2 % 2 ^ t = 0
      · have eb : (((m2 / 2 ^ t * 2 ^ t : Nat) : Int) != (m2 : Int)) = false := by rw [bne_dec]; exact decide_eq_false (by omega)
        rw [eb]
        exact x1 z
      · have eb : (((m2 / 2 ^ t * 2 ^ t : Nat) : Int) != (m2 : Int)) = true := by rw [bne_dec]; exact decide_eq_true (by omega)
        rw [eb]
        exact x2 z
    · rw [if_neg c2]
      have ht : 2 ^ 24 ≤ 2 ^ t := Nat.pow_le_pow_right (by decide) (by omega)
      have z1 : m2 / 2 ^ t = 0 := Nat.div_eq_of_lt (by omega)
      have z2 : m2 % 2 ^ t = m2 := Nat.mod_eq_of_lt (by omega)
      rw [z1, z2] at x1 x2
      by_cases z : m2 = 0
      · have eb : ((m2 : Int) != 0) = false := by rw [bne_dec]; exact decide_eq_false (by omega)
        rw [eb]
        exact x1 z
      · have eb : ((m2 : Int) != 0) = true := by rw [bne_dec]; exact decide_eq_true (by omega)
        rw [eb]
        exact x2 z
theorem impl_sum {F : Fm} (h : IsF F) (k : Nat) (hk : 74 ≤ k) (s1 i1 n1 : Bool) (m1 : Nat) (e1 : Int) (s2 i2 n2 : Bool) (m2 : Nat) (e2 : Int) (h1 : m1 < 2 ^ 24) (h2 : m2 < 2 ^ 24) (he1 : F.L ≤ e1 ∧ e1 ≤ 104) (he2 : F.L ≤ e2 ∧ e2 ≤ 104) (hn1 : F.L < e1 → 2 ^ F.P ≤ m1) (hn2 : F.L < e2 → 2 ^ F.P ≤ m2) :
    impl_format_sum.f k F.p F.b s1 i1 n1 (m1 : Int) e1 s2 i2 n2 (m2 : Int) e2 = some (sumF F s1 m1 e1 s2 m2 e2) := by
  unfold impl_format_sum.f sumF
  by_cases c : e1 < e2
  · rw [if_pos c, if_pos c, ij0 h k hk _ _ _ _ _ _ _ _ _ _ h2 h1 he2.2 he1.1 (by omega) hn2]
  · rw [if_neg c, if_neg c, ij0 h k hk _ _ _ _ _ _ _ _ _ _ h1 h2 he1.2 he2.1 (by omega) hn1]
/-- What is known of an opened float. -/
theorem op_facts {F : Fm} (h : IsF F) (b : Int) (h0 : 0 ≤ b) : (opI F b = false → opN F b = false → F.L ≤ opE F b) ∧ (F.L < opE F b → opI F b = false → opN F b = false → 2 ^ F.P ≤ opM F b) := by
  obtain ⟨r1, r2, r3, r4⟩ := ranges h b h0
  have hm := opM_cast h b h0
  have hA := (facts h).2.1
  have hnot : opI F b = false → opN F b = false → ex F b ≠ F.B - 1 := by
    intro z1 z2 z3
    unfold opI at z1
    unfold opN at z2
    have z1 := of_decide_eq_false z1
    have z2 := of_decide_eq_false z2
    by_cases c : fr F b = 0
    · exact z1 ⟨z3, c⟩
    · exact z2 ⟨z3, c⟩
  constructor
  · intro z1 z2
    have := hnot z1 z2
    unfold opE
    rw [if_neg this]
    split <;> omega
  · intro g z1 z2
    have z := hnot z1 z2
    unfold opE at g
    rw [if_neg z] at g hm
    by_cases c : ex F b = 0
    · rw [if_pos c] at g; omega
    · rw [if_neg c] at hm
      apply Int.ofNat_le.1
      rw [hm, ← hA]
      omega
/-- The sum of two floats. -/
def addF (F : Fm) (a b : Int) : Int := add F (opS F a) (opI F a) (opN F a) (opM F a) (opE F a) (opS F b) (opI F b) (opN F b) (opM F b) (opE F b)
theorem impl_add {F : Fm} (h : IsF F) (k : Nat) (hk : 75 ≤ k) (a0 a b : Int) (ha : 0 ≤ a ∧ a ≤ 4294967295) (hb : 0 ≤ b ∧ b ≤ 4294967295) (e0 : impl_formatOf.f a0 = some (F.p, F.b, true)) :
    impl_FAdd.f k a0 a b = some (addF F a b) := by
  obtain ⟨k, rfl⟩ : ∃ j, k = j + 1 := ⟨k - 1, by omega⟩
  have o1 := op_facts h a ha.1
  have o2 := op_facts h b hb.1
  have m1 := (opM_lt h a ha.1).2
  have m2 := (opM_lt h b hb.1).2
  have g1 := opE_range h a ha.1
  have g2 := opE_range h b hb.1
  unfold impl_FAdd.f addF
  rw [e0]
  simp only [Option.bind_some, if_true]
  rw [impl_open h a ha.1 ha.2, impl_open h b hb.1 hb.2]
  simp only [Option.bind_some]
  have hs : opI F a = false → opN F a = false → opI F b = false → opN F b = false → impl_format_sum.f k F.p F.b (opS F a) false false ((opM F a : Nat) : Int) (opE F a) (opS F b) false false ((opM F b : Nat) : Int) (opE F b) = some (sumF F (opS F a) (opM F a) (opE F a) (opS F b) (opM F b) (opE F b)) :=
    fun z1 z2 z3 z4 => impl_sum h k (by omega) _ _ _ _ _ _ _ _ _ _ m1 m2 ⟨o1.1 z1 z2, g1.2⟩ ⟨o2.1 z3 z4, g2.2⟩ (fun g => o1.2 g z1 z2) (fun g => o2.2 g z3 z4)
  clear o1 o2 m1 m2 g1 g2
  generalize opS F a = s1, opI F a = i1, opN F a = n1, opM F a = m1, opE F a = e1, opS F b = s2, opI F b = i2, opN F b = n2, opM F b = m2, opE F b = e2 at *
  simp only [impl_FAdd.j0, inan_F h, iinf_F h, Option.bind_some]
  unfold add
  cases n1 <;> cases n2 <;> cases i1 <;> cases i2 <;> cases s1 <;> cases s2 <;> simp_all
end Go.Proofs.Ytdeogandkgiggaa.Fs
