import Derived.Test.YtdeogandkgiggaaFd
import Derived.Test.YtdeogandkgiggaaQx22
namespace Go.Proofs.Ytdeogandkgiggaa.Pure
open Go.RowKit Go.Proofs.Ytdeogandkgiggaa.Q Go.Proofs.YtdeogandkgiggaaW.PrintWords Go.Proofs.YtdeogandkgiggaaW.PrintLast Go.Proofs.YtdeogandkgiggaaW.PrintMore Go.Proofs.Ytdeogandkgiggaa.Mb Go.Proofs.Ytdeogandkgiggaa.Fp Go.Proofs.Ytdeogandkgiggaa.Fl Go.Proofs.Ytdeogandkgiggaa.Fr Go.Proofs.Ytdeogandkgiggaa.Fo Go.Proofs.Ytdeogandkgiggaa.Fd
set_option linter.unusedSimpArgs false
set_option linter.unusedVariables false
/-- The quotient with a places behind the point. -/
def quo (F : Fm) (neg : Bool) (m1 m2 a : Nat) (e : Int) : Int := fin F neg (Vm (m1 * 2 ^ a / m2) (decide (m1 * 2 ^ a % m2 ≠ 0))) (Em (e - a) (decide (m1 * 2 ^ a % m2 ≠ 0)))
/-- More places tell the same. -/
theorem quo_down {F : Fm} (neg : Bool) (m1 m2 a d : Nat) (e : Int) (h2 : m2 ≠ 0) (hb : F.P + 2 ≤ bl (m1 * 2 ^ a / m2)) : quo F neg m1 m2 a e = quo F neg m1 m2 (a + d) e := by
  have hp := Nat.two_pow_pos d
  have e1 : m1 * 2 ^ (a + d) / m2 / 2 ^ d = m1 * 2 ^ a / m2 := by
    rw [Nat.div_div_eq_div_mul, Nat.pow_add, ← Nat.mul_assoc, Nat.mul_div_mul_right _ _ hp]
  have e2 : decide (m1 * 2 ^ a % m2 ≠ 0) = (decide (m1 * 2 ^ (a + d) / m2 % 2 ^ d ≠ 0) || decide (m1 * 2 ^ (a + d) % m2 ≠ 0)) := by
    rw [← Bool.decide_or]
    apply decide_eq_decide.2
    have g1 := Nat.div_add_mod (m1 * 2 ^ (a + d)) m2
    have g2 := Nat.div_add_mod (m1 * 2 ^ (a + d) / m2) (2 ^ d)
    have g3 := Nat.div_add_mod (m1 * 2 ^ a) m2
    rw [e1] at g2
    have g4 : m1 * 2 ^ (a + d) = m1 * 2 ^ a * 2 ^ d := by rw [Nat.pow_add, Nat.mul_assoc]
    -- m2 * (2^d * q + s) + r = (m2 * q + ra) * 2^d
    have g5 : (m1 * 2 ^ a % m2) * 2 ^ d = m2 * (m1 * 2 ^ (a + d) / m2 % 2 ^ d) + m1 * 2 ^ (a + d) % m2 := by
      have g6 : m2 * (m1 * 2 ^ (a + d) / m2) = (m2 * (m1 * 2 ^ a / m2)) * 2 ^ d + m2 * (m1 * 2 ^ (a + d) / m2 % 2 ^ d) := by
        conv => lhs; rw [← g2]
        rw [Nat.mul_add, ← Nat.mul_assoc, Nat.mul_assoc m2, Nat.mul_comm (2 ^ d), ← Nat.mul_assoc]
      have g7 : m1 * 2 ^ a * 2 ^ d = (m2 * (m1 * 2 ^ a / m2)) * 2 ^ d + (m1 * 2 ^ a % m2) * 2 ^ d := by
        rw [← Nat.add_mul, g3]
      rw [g4] at g1
      rw [g4] at g6
      rw [g4]
      omega
    constructor
    · intro h0
      refine Classical.byContradiction fun h3 => h0 ?_
      have h4 : m1 * 2 ^ (a + d) / m2 % 2 ^ d = 0 := Classical.byContradiction fun h => h3 (Or.inl h)
      have h5 : m1 * 2 ^ (a + d) % m2 = 0 := Classical.byContradiction fun h => h3 (Or.inr h)
      rw [h4, h5, Nat.mul_zero] at g5
      rcases Nat.mul_eq_zero.1 g5 with h | h <;> omega
    · intro h0 h3
      rw [h3, Nat.zero_mul] at g5
      have g8 : m2 * (m1 * 2 ^ (a + d) / m2 % 2 ^ d) = 0 := by omega
      rcases Nat.mul_eq_zero.1 g8 with h | h <;> omega
  unfold quo
  have := fin_down (F := F) neg (m1 * 2 ^ (a + d) / m2) d (decide (m1 * 2 ^ (a + d) % m2 ≠ 0)) (e - ((a + d : Nat) : Int)) (by rw [e1]; exact hb)
  rw [e1, ← e2, show e - ((a + d : Nat) : Int) + (d : Int) = e - (a : Int) by omega] at this
  exact this
def div (F : Fm) (s1 i1 n1 : Bool) (m1 : Nat) (e1 : Int) (s2 i2 n2 : Bool) (m2 : Nat) (e2 : Int) : Int :=
  if (n1 || n2 || (i1 && i2)) = true then nan F else if i1 = true then inf F (s1 != s2) else if i2 = true then sg F (s1 != s2) else if m2 = 0 then (if m1 = 0 then nan F else inf F (s1 != s2)) else if m1 = 0 then sg F (s1 != s2)
  else quo F (s1 != s2) m1 m2 (60 - bl m1) (e1 - e2)
/-- The quotient has bits enough. -/
theorem quo_bits {m1 m2 a n t : Nat} (h1 : m1 ≠ 0) (h2 : m2 ≠ 0) (hm2 : m2 < 2 ^ t) (hn : 1 ≤ n) (ha : bl m1 + a = n + t) : n ≤ bl (m1 * 2 ^ a / m2) := by
  obtain ⟨b1, b2, b3⟩ := bl_pos h1
  have key : 2 ^ (n - 1) ≤ m1 * 2 ^ a / m2 := by
    rw [Nat.le_div_iff_mul_le (by omega)]
    have h3 : 2 ^ (bl m1 - 1) * 2 ^ a ≤ m1 * 2 ^ a := Nat.mul_le_mul_right _ b1
    have h4 : 2 ^ (n - 1) * m2 ≤ 2 ^ (n - 1) * 2 ^ t := Nat.mul_le_mul_left _ (by omega)
    rw [← Nat.pow_add] at h3 h4
    rw [show bl m1 - 1 + a = n - 1 + t by omega] at h3
    omega
  have := bl_ge key
  omega
theorem tdiv_nat (a b : Nat) : Int.tdiv (a : Int) (b : Int) = ((a / b : Nat) : Int) := rfl
theorem tmod_nat (a b : Nat) : Int.tmod (a : Int) (b : Int) = ((a % b : Nat) : Int) := rfl
theorem ne_dec (a : Nat) : (((a : Nat) : Int) != 0) = decide (a ≠ 0) := by rw [bne_dec]; exact decide_eq_decide.2 (by omega)
/-- The reference's way: both numbers are made full first. -/
theorem spec_quo {F : Fm} (h : IsF F) (neg : Bool) (m1 m2 : Nat) (e1 e2 : Int) (h1 : m1 ≠ 0) (h2 : m2 ≠ 0) (l1 : m1 < 2 ^ (F.P + 1)) (l2 : m2 < 2 ^ (F.P + 1)) :
    fin F neg (Vm (m1 * 2 ^ (F.P + 1 - bl m1) * 1073741824 / (m2 * 2 ^ (F.P + 1 - bl m2))) (decide (m1 * 2 ^ (F.P + 1 - bl m1) * 1073741824 % (m2 * 2 ^ (F.P + 1 - bl m2)) ≠ 0)))
      (Em (e1 - ((F.P + 1 - bl m1 : Nat) : Int) - 30 - (e2 - ((F.P + 1 - bl m2 : Nat) : Int))) (decide (m1 * 2 ^ (F.P + 1 - bl m1) * 1073741824 % (m2 * 2 ^ (F.P + 1 - bl m2)) ≠ 0))) = quo F neg m1 m2 (60 - bl m1) (e1 - e2) ∧
    F.P + 2 ≤ bl (m1 * 2 ^ (F.P + 1 - bl m1) * 1073741824 / (m2 * 2 ^ (F.P + 1 - bl m2))) := by
  obtain ⟨f1, f2, f3, f4, f5, f6, -⟩ := facts h
  have c1 := bl_le l1
  have c2 := bl_le l2
  have p1 := (bl_pos h1).2.2
  have p2 := (bl_pos h2).2.2
  obtain ⟨j1, hj1⟩ : ∃ j, F.P + 1 - bl m1 = j := ⟨_, rfl⟩
  obtain ⟨j2, hj2⟩ : ∃ j, F.P + 1 - bl m2 = j := ⟨_, rfl⟩
  rw [hj1, hj2]
  have p30 : (1073741824 : Nat) = 2 ^ 30 := by decide
  have hp := Nat.two_pow_pos j2
  have eN : m1 * 2 ^ j1 * 1073741824 = m1 * 2 ^ (j1 + 30 - j2) * 2 ^ j2 := by
    rw [p30, Nat.mul_assoc, Nat.mul_assoc, ← Nat.pow_add, ← Nat.pow_add]
    congr 2
    omega
  rw [eN, Nat.mul_div_mul_right _ _ hp, Nat.mul_mod_mul_right]
  have hb : 30 ≤ bl (m1 * 2 ^ (j1 + 30 - j2) / m2) := quo_bits (n := 30) (t := bl m2) h1 h2 (bl_lt m2) (by decide) (by omega)
  refine ⟨?_, by omega⟩
  have hz : (m1 * 2 ^ (j1 + 30 - j2) % m2 * 2 ^ j2 ≠ 0) = (m1 * 2 ^ (j1 + 30 - j2) % m2 ≠ 0) := by
    apply propext
    constructor
    · intro g g2; rw [g2, Nat.zero_mul] at g; exact g rfl
    · intro g g2
      rcases Nat.mul_eq_zero.1 g2 with g3 | g3 <;> omega
  simp only [hz]
  have := quo_down (F := F) neg m1 m2 (j1 + 30 - j2) (60 - bl m1 - (j1 + 30 - j2)) (e1 - e2) h2 (by omega)
  rw [show j1 + 30 - j2 + (60 - bl m1 - (j1 + 30 - j2)) = 60 - bl m1 by omega] at this
  rw [← this]
  unfold quo
  rw [show e1 - (j1 : Int) - 30 - (e2 - (j2 : Int)) = e1 - e2 - ((j1 + 30 - j2 : Nat) : Int) by omega]
theorem spec_div {F : Fm} (h : IsF F) (k : Nat) (hk : 80 ≤ k) (s1 i1 n1 : Bool) (m1 : Nat) (e1 : Int) (s2 i2 n2 : Bool) (m2 : Nat) (e2 : Int)
    (l1 : m1 < 2 ^ (F.P + 1)) (l2 : m2 < 2 ^ (F.P + 1)) (he1 : -149 ≤ e1 ∧ e1 ≤ 104) (he2 : -149 ≤ e2 ∧ e2 ≤ 104) :
    spec_l4K_quotient.f k F.x F.p s1 i1 n1 (m1 : Int) e1 s2 i2 n2 (m2 : Int) e2 = some (div F s1 i1 n1 m1 e1 s2 i2 n2 m2 e2) := by
  obtain ⟨k, rfl⟩ : ∃ j, k = j + 3 := ⟨k - 3, by omega⟩
  obtain ⟨f1, f2, f3, f4, f5, f6, -⟩ := facts h
  have j2f : ∀ b : Bool, b = false → m1 ≠ 0 → m2 ≠ 0 → spec_l4K_quotient.j2 (k + 1) (s1 != s2) b F.x F.p s1 i1 n1 (m1 : Int) e1 s2 i2 n2 (m2 : Int) e2 = some (quo F (s1 != s2) m1 m2 (60 - bl m1) (e1 - e2)) := by
    intro b hb h1 h2
    subst hb
    have g24 : 2 ^ (F.P + 1) ≤ 2 ^ 24 := Nat.pow_le_pow_right (by decide) (by omega)
    obtain ⟨q1, q2⟩ := spec_quo h (s1 != s2) m1 m2 e1 e2 h1 h2 l1 l2
    obtain ⟨u1, u2, -⟩ := bl_pos h1
    have n1 : m1 * 2 ^ (F.P + 1 - bl m1) < 2 ^ 24 := by
      have : m1 * 2 ^ (F.P + 1 - bl m1) < 2 ^ bl m1 * 2 ^ (F.P + 1 - bl m1) := Nat.mul_lt_mul_of_pos_right u2 (Nat.two_pow_pos _)
      rw [← Nat.pow_add, show bl m1 + (F.P + 1 - bl m1) = F.P + 1 by have := bl_le l1; omega] at this
      omega
    have z2 : m2 * 2 ^ (F.P + 1 - bl m2) ≠ 0 := Nat.mul_ne_zero h2 (by have := Nat.two_pow_pos (F.P + 1 - bl m2); omega)
    have b1 := bl_le l1
    have b2 := bl_le l2
    simp only [spec_l4K_quotient.j2]
    rw [if_neg (by decide), spec_full h k (by omega) _ _ _ m1 e1 h1 l1 (by omega), spec_full h k (by omega) _ _ _ m2 e2 h2 l2 (by omega)]
    simp only [Option.bind_some]
    have hw : IntKind.u64.wrap (((m1 * 2 ^ (F.P + 1 - bl m1) : Nat) : Int) * 1073741824) = ((m1 * 2 ^ (F.P + 1 - bl m1) * 1073741824 : Nat) : Int) := by rw [wu64 (by omega) (by omega)]; omega
    rw [if_neg (by omega), hw, tdiv_nat, tmod_nat, ne_dec]
    have hq : m1 * 2 ^ (F.P + 1 - bl m1) * 1073741824 / (m2 * 2 ^ (F.P + 1 - bl m2)) ≤ m1 * 2 ^ (F.P + 1 - bl m1) * 1073741824 := Nat.div_le_self _ _
    have hq0 : (0 : Int) ≤ ((m1 * 2 ^ (F.P + 1 - bl m1) * 1073741824 / (m2 * 2 ^ (F.P + 1 - bl m2)) : Nat) : Int) := Int.natCast_nonneg _
    generalize m1 * 2 ^ (F.P + 1 - bl m1) * 1073741824 / (m2 * 2 ^ (F.P + 1 - bl m2)) = Qq at *
    rw [wu64 (n := (Qq : Int)) (by omega) (by omega), w64 (n := e1 - ((F.P + 1 - bl m1 : Nat) : Int) - 30) (by omega) (by omega), w64 (by omega) (by omega), spec_round h k (by omega) _ _ _ _ (by omega) (by omega) (by omega) (fun _ => q2), q1]
    rfl
  unfold spec_l4K_quotient.f
  simp only [spec_l4K_quotient.j0, spec_l4K_quotient.j1]
  have jt : ∀ b : Bool, b = true → spec_l4K_quotient.j2 (k + 1) (s1 != s2) b F.x F.p s1 i1 n1 (m1 : Int) e1 s2 i2 n2 (m2 : Int) e2 = some (sg F (s1 != s2)) := by
    intro b hb
    subst hb
    simp only [spec_l4K_quotient.j2]
    rw [if_pos trivial, sign_F h]
    rfl
  rw [nan_F h, inf_F h]
  simp only [Option.bind_some]
  unfold div
  have c1 : ((m1 : Int) = 0) = (m1 = 0) := propext (by omega)
  have d1 : ((m1 : Int) == 0) = decide (m1 = 0) := decide_eq_decide.2 (by omega)
  have d2 : ((m2 : Int) == 0) = decide (m2 = 0) := decide_eq_decide.2 (by omega)
  rw [d1, d2]
  simp only [c1]
  generalize (s1 != s2) = sn at *
  by_cases z1 : m1 = 0 <;> by_cases z2 : m2 = 0 <;> cases n1 <;> cases n2 <;> cases i1 <;> cases i2 <;> simp [z1, z2] at j2f jt ⊢ <;> first | exact j2f | exact jt | skip
/-- The program's way. -/
theorem impl_quo {F : Fm} (h : IsF F) (k : Nat) (hk : 80 ≤ k) (sn : Bool) (s1 i1 n1 : Bool) (m1 : Nat) (e1 : Int) (s2 i2 n2 : Bool) (m2 : Nat) (e2 : Int)
    (h1 : m1 ≠ 0) (h2 : m2 ≠ 0) (l1 : m1 < 2 ^ (F.P + 1)) (l2 : m2 < 2 ^ (F.P + 1)) (he1 : -149 ≤ e1 ∧ e1 ≤ 104) (he2 : -149 ≤ e2 ∧ e2 ≤ 104) :
    impl_FDiv.j3 k sn false F.p F.b s1 i1 n1 (m1 : Int) e1 s2 i2 n2 (m2 : Int) e2 = some (quo F sn m1 m2 (60 - bl m1) (e1 - e2)) := by
  obtain ⟨k, rfl⟩ : ∃ j, k = j + 1 := ⟨k - 1, by omega⟩
  obtain ⟨f1, f2, f3, f4, f5, f6, -⟩ := facts h
  have g24 : 2 ^ (F.P + 1) ≤ 2 ^ 24 := Nat.pow_le_pow_right (by decide) (by omega)
  have b1 := bl_le l1
  obtain ⟨u1, u2, u3⟩ := bl_pos h1
  have e0 : wrap64 (60 - (bl m1 : Int)) = ((60 - bl m1 : Nat) : Int) := by rw [w64 (by omega) (by omega)]; omega
  have n1' : m1 * 2 ^ (60 - bl m1) < 2 ^ 60 := by
    have : m1 * 2 ^ (60 - bl m1) < 2 ^ bl m1 * 2 ^ (60 - bl m1) := Nat.mul_lt_mul_of_pos_right u2 (Nat.two_pow_pos _)
    rw [← Nat.pow_add, show bl m1 + (60 - bl m1) = 60 by omega] at this
    exact this
  simp only [impl_FDiv.j3]
  rw [if_neg (by decide), impl_len m1 (by omega)]
  simp only [Option.bind_some]
  rw [e0, if_pos (by omega), if_neg (by omega), shl_nat m1 _ (by omega) (by omega), tdiv_nat, tmod_nat, ne_dec]
  have hq : m1 * 2 ^ (60 - bl m1) / m2 ≤ m1 * 2 ^ (60 - bl m1) := Nat.div_le_self _ _
  have hb : 36 ≤ bl (m1 * 2 ^ (60 - bl m1) / m2) := quo_bits (n := 36) (t := 24) h1 h2 (by omega) (by decide) (by omega)
  have hq0 : (0 : Int) ≤ ((m1 * 2 ^ (60 - bl m1) / m2 : Nat) : Int) := Int.natCast_nonneg _
  unfold quo
  generalize m1 * 2 ^ (60 - bl m1) / m2 = Qq at *
  rw [wu64 (n := (Qq : Int)) (by omega) (by omega), w64 (n := e1 - ((60 - bl m1 : Nat) : Int)) (by omega) (by omega), w64 (by omega) (by omega), impl_round h k (by omega) _ _ _ _ (by omega) (by omega) (by omega) (fun _ => by omega)]
  simp only [Option.bind_some]
  rw [show e1 - ((60 - bl m1 : Nat) : Int) - e2 = e1 - e2 - ((60 - bl m1 : Nat) : Int) by omega]
theorem impl_div {F : Fm} (h : IsF F) (k : Nat) (hk : 90 ≤ k) (a0 a b : Int) (ha : 0 ≤ a ∧ a ≤ 4294967295) (hb : 0 ≤ b ∧ b ≤ 4294967295) (e0 : impl_formatOf.f a0 = some (F.p, F.b, true)) :
    impl_FDiv.f k a0 a b = some (div F (opS F a) (opI F a) (opN F a) (opM F a) (opE F a) (opS F b) (opI F b) (opN F b) (opM F b) (opE F b)) := by
  obtain ⟨k, rfl⟩ : ∃ j, k = j + 3 := ⟨k - 3, by omega⟩
  have hm1 := (opM_lt h a ha.1).1
  have hm2 := (opM_lt h b hb.1).1
  have he1 := opE_range h a ha.1
  have he2 := opE_range h b hb.1
  unfold impl_FDiv.f
  rw [e0]
  simp only [Option.bind_some, if_true]
  rw [impl_open h a ha.1 ha.2, impl_open h b hb.1 hb.2]
  simp only [Option.bind_some]
  generalize opS F a = s1, opI F a = i1, opN F a = n1, opM F a = m1, opE F a = e1, opS F b = s2, opI F b = i2, opN F b = n2, opM F b = m2, opE F b = e2 at *
  have j3f : m1 ≠ 0 → m2 ≠ 0 → impl_FDiv.j3 k (s1 != s2) false F.p F.b s1 n1 i1 (m1 : Int) e1 s2 n2 i2 (m2 : Int) e2 = some (quo F (s1 != s2) m1 m2 (60 - bl m1) (e1 - e2)) :=
    fun h1 h2 => impl_quo h k (by omega) _ _ _ _ _ _ _ _ _ _ _ h1 h2 hm1 hm2 he1 he2
  have g' := (facts2 h).2.2.2.1
  have g := (facts2 h).2.2.1
  have jt : impl_FDiv.j3 k (s1 != s2) true F.p F.b s1 n1 i1 (m1 : Int) e1 s2 n2 i2 (m2 : Int) e2 = some (sg F (s1 != s2)) := by
    obtain ⟨k', rfl⟩ : ∃ j, k = j + 1 := ⟨k - 1, by omega⟩
    simp only [impl_FDiv.j3]
    rw [if_pos trivial, isigned_F h _ (Int.le_refl 0) (by omega)]
    simp
  simp only [impl_FDiv.j0, impl_FDiv.j1, impl_FDiv.j2, inan_F h, iinf_F h, Option.bind_some]
  unfold div
  have c1 : ((m1 : Int) = 0) = (m1 = 0) := propext (by omega)
  have d1 : ((m1 : Int) == 0) = decide (m1 = 0) := decide_eq_decide.2 (by omega)
  have d2 : ((m2 : Int) == 0) = decide (m2 = 0) := decide_eq_decide.2 (by omega)
  rw [d1, d2]
  clear g g' hm1 hm2 he1 he2
  generalize (s1 != s2) = sn at *
  by_cases z1 : m1 = 0 <;> by_cases z2 : m2 = 0 <;> cases n1 <;> cases n2 <;> cases i1 <;> cases i2 <;> simp [z1, z2] at j3f jt ⊢ <;> first | exact j3f | exact jt | skip
theorem FnExactFDiv : laws_FnExactFDiv.Pure := by
  intro a0 a b _ ha hb
  refine ⟨90, ?_⟩
  have ha := wf_u32 ha
  have hb := wf_u32 hb
  unfold laws_FnExactFDiv.f spec_FDiv.f
  rcases kinds a0 with ⟨F, h, f1, f2⟩ | ⟨f1, f2⟩
  · rw [f1]
    simp only [Option.bind_some, if_true]
    rw [spec_open h a ha.1 ha.2, spec_open h b hb.1 hb.2]
    simp only [Option.bind_some]
    rw [spec_div h 90 (by omega) _ _ _ _ _ _ _ _ _ _ (opM_lt h a ha.1).1 (opM_lt h b hb.1).1 (opE_range h a ha.1) (opE_range h b hb.1), impl_div h 90 (by omega) a0 a b ha hb f2]
    simp
  · unfold impl_FDiv.f
    rw [f1, f2]
    simp
end Go.Proofs.Ytdeogandkgiggaa.Pure
