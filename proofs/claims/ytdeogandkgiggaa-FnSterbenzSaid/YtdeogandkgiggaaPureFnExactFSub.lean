import Derived.Test.YtdeogandkgiggaaFs
import Derived.Test.YtdeogandkgiggaaQx15
namespace Go.Proofs.Ytdeogandkgiggaa.Pure
open Go.RowKit Go.Proofs.Ytdeogandkgiggaa.Q Go.Proofs.YtdeogandkgiggaaW.PrintWords Go.Proofs.YtdeogandkgiggaaW.PrintLast Go.Proofs.YtdeogandkgiggaaW.PrintMore Go.Proofs.Ytdeogandkgiggaa.Mb Go.Proofs.Ytdeogandkgiggaa.Fp Go.Proofs.Ytdeogandkgiggaa.Fl Go.Proofs.Ytdeogandkgiggaa.Fr Go.Proofs.Ytdeogandkgiggaa.Fo Go.Proofs.Ytdeogandkgiggaa.Fs
set_option linter.unusedSimpArgs false
set_option linter.unusedVariables false
/-- The other sign. -/
def flip (F : Fm) (b : Int) : Int := if b / F.C % 2 = 1 then b - F.C else b + F.C
theorem flip_range {F : Fm} (h : IsF F) (b : Int) (h0 : 0 ≤ b) (h1 : b ≤ 4294967295) : 0 ≤ flip F b ∧ flip F b ≤ 4294967295 := by
  unfold flip
  rcases h with rfl | rfl
  · rw [show F16.C = 32768 from rfl]; split <;> omega
  · rw [show F32.C = 2147483648 from rfl]; split <;> omega
theorem flip_op {F : Fm} (h : IsF F) (b : Int) (h0 : 0 ≤ b) (h1 : b ≤ 4294967295) : opS F (flip F b) = (!opS F b) ∧ opI F (flip F b) = opI F b ∧ opN F (flip F b) = opN F b ∧ opM F (flip F b) = opM F b ∧ opE F (flip F b) = opE F b := by
  have he : ex F (flip F b) = ex F b := by
    unfold flip ex
    rcases h with rfl | rfl
    · rw [show F16.C = 32768 from rfl, show F16.A = 1024 from rfl, show F16.B = 32 from rfl]; split <;> omega
    · rw [show F32.C = 2147483648 from rfl, show F32.A = 8388608 from rfl, show F32.B = 256 from rfl]; split <;> omega
  have hf : fr F (flip F b) = fr F b := by
    unfold flip fr
    rcases h with rfl | rfl
    · rw [show F16.C = 32768 from rfl, show F16.A = 1024 from rfl]; split <;> omega
    · rw [show F32.C = 2147483648 from rfl, show F32.A = 8388608 from rfl]; split <;> omega
  refine ⟨?_, ?_, ?_, ?_, ?_⟩
  · unfold opS flip
    rw [← decide_not]
    apply decide_eq_decide.2
    rcases h with rfl | rfl
    · rw [show F16.C = 32768 from rfl]; split <;> omega
    · rw [show F32.C = 2147483648 from rfl]; split <;> omega
  · unfold opI; rw [he, hf]
  · unfold opN; rw [he, hf]
  · unfold opM; rw [he, hf]
  · unfold opE; rw [he]
theorem xor_flip {F : Fm} (h : IsF F) (b : Int) (h0 : 0 ≤ b) (h1 : b ≤ 4294967295) : Go.bits .xor .u32 b F.C = flip F b := by
  obtain ⟨n, rfl⟩ : ∃ n : Nat, b = n := ⟨b.toNat, by omega⟩
  obtain ⟨i, hi, hC⟩ : ∃ i, i < 32 ∧ F.C = ((2 ^ i : Nat) : Int) := by
    rcases h with rfl | rfl
    · exact ⟨15, by decide, rfl⟩
    · exact ⟨31, by decide, rfl⟩
  have hp : (2 : Nat) ^ i < 2 ^ 32 := Nat.pow_lt_pow_right (by decide) hi
  unfold flip
  rw [hC, Mb.u32_xor n (2 ^ i) (by omega) hp]
  have ed : (n : Int) / ((2 ^ i : Nat) : Int) = ((n / 2 ^ i : Nat) : Int) := (Int.natCast_ediv _ _).symm
  rw [ed]
  have hd := Nat.div_add_mod n (2 ^ i)
  have hpos := Nat.two_pow_pos i
  have hnn : (0 : Int) ≤ ((n / 2 ^ i : Nat) : Int) := Int.natCast_nonneg _
  have ht : n.testBit i = decide (n / 2 ^ i % 2 = 1) := Nat.testBit_eq_decide_div_mod_eq
  have hx : n ^^^ 2 ^ i = if n / 2 ^ i % 2 = 1 then n - 2 ^ i else n + 2 ^ i := by
    have key : ∀ m : Nat, m.testBit i = false → m ^^^ 2 ^ i = m + 2 ^ i := by
      intro m hm
      have hm2 : m / 2 ^ i % 2 = 0 := by
        have := Nat.testBit_eq_decide_div_mod_eq (x := m) (i := i)
        rw [hm] at this
        have := of_decide_eq_false this.symm
        omega
      have e1 : m + 2 ^ i = 2 ^ i * (m / 2 ^ i + 1) + m % 2 ^ i := by
        have := Nat.div_add_mod m (2 ^ i)
        rw [Nat.mul_add, Nat.mul_one]
        omega
      apply Nat.eq_of_testBit_eq
      intro j
      rw [Nat.testBit_xor, Nat.testBit_two_pow, e1, Nat.testBit_two_pow_mul_add _ (Nat.mod_lt _ hpos)]
      by_cases c : j < i
      · rw [if_pos c, Nat.testBit_mod_two_pow]
        have : ¬ i = j := by omega
        simp [c, this]
      · rw [if_neg c]
        obtain ⟨t, rfl⟩ : ∃ t, j = i + t := ⟨j - i, by omega⟩
        rw [show i + t - i = t by omega]
        have e2 : m.testBit (i + t) = (m / 2 ^ i).testBit t := by
          rw [Nat.testBit_eq_decide_div_mod_eq, Nat.testBit_eq_decide_div_mod_eq, Nat.pow_add, Nat.div_div_eq_div_mul]
        rw [e2]
        cases t with
        | zero =>
          rw [Nat.testBit_eq_decide_div_mod_eq, Nat.testBit_eq_decide_div_mod_eq]
          simp only [Nat.pow_zero, Nat.div_one]
          rw [decide_eq_false (by omega), decide_eq_true (by omega), decide_eq_true (by omega)]
          rfl
        | succ t =>
          have : ¬ i = i + (t + 1) := by omega
          rw [decide_eq_false this, Bool.xor_false]
          rw [Nat.testBit_succ, Nat.testBit_succ]
          congr 1
          omega
    by_cases c : n / 2 ^ i % 2 = 1
    · rw [if_pos c]
      have hle : 2 ^ i ≤ n := by
        have h1 : 1 ≤ n / 2 ^ i := by omega
        have h2 : 2 ^ i * 1 ≤ 2 ^ i * (n / 2 ^ i) := Nat.mul_le_mul_left _ h1
        omega
      have hm : (n - 2 ^ i).testBit i = false := by
        rw [Nat.testBit_eq_decide_div_mod_eq]
        apply decide_eq_false
        have : (n - 2 ^ i) / 2 ^ i = n / 2 ^ i - 1 := by
          have := Nat.sub_mul_div n (2 ^ i) 1
          rw [Nat.mul_one] at this
          exact this
        omega
      have := key (n - 2 ^ i) hm
      rw [show n - 2 ^ i + 2 ^ i = n by omega] at this
      rw [← this, Nat.xor_assoc, Nat.xor_self, Nat.xor_zero]
      omega
    · rw [if_neg c]
      exact key n (by rw [ht]; exact decide_eq_false c)
  rw [hx]
  by_cases c : n / 2 ^ i % 2 = 1
  · have hle : 2 ^ i ≤ n := by
      have h1 : 1 ≤ n / 2 ^ i := by omega
      have h2 : 2 ^ i * 1 ≤ 2 ^ i * (n / 2 ^ i) := Nat.mul_le_mul_left _ h1
      omega
    rw [if_pos c, if_pos (by omega)]
    omega
  · rw [if_neg c, if_neg (by omega)]
    omega
theorem spec_sub {F : Fm} (h : IsF F) (k : Nat) (hk : 77 ≤ k) (a0 a b : Int) (ha : 0 ≤ a ∧ a ≤ 4294967295) (hb : 0 ≤ b ∧ b ≤ 4294967295) (e0 : spec_l4Kind.f a0 = some (F.x, F.p, true)) :
    spec_FSub.f k a0 a b = some (addF F a (flip F b)) := by
  have o1 := op_facts h a ha.1
  have o2 := op_facts h b hb.1
  obtain ⟨g1, g2, g3, g4, g5⟩ := flip_op h b hb.1 hb.2
  unfold spec_FSub.f addF
  rw [e0]
  simp only [Option.bind_some, if_true]
  rw [spec_open h a ha.1 ha.2, spec_open h b hb.1 hb.2]
  simp only [Option.bind_some]
  rw [spec_sum h k hk _ _ _ _ _ _ _ _ _ _ (opM_lt h a ha.1).2 (opM_lt h b hb.1).2 (opE_range h a ha.1).2 (opE_range h b hb.1).2 o1.1 o2.1 o1.2 o2.2, g1, g2, g3, g4, g5]
  rfl
theorem impl_sub {F : Fm} (h : IsF F) (k : Nat) (hk : 77 ≤ k) (a0 a b : Int) (ha : 0 ≤ a ∧ a ≤ 4294967295) (hb : 0 ≤ b ∧ b ≤ 4294967295) (e0 : impl_formatOf.f a0 = some (F.p, F.b, true)) :
    impl_FSub.f k a0 a b = some (addF F a (flip F b)) := by
  unfold impl_FSub.f
  rw [e0]
  simp only [Option.bind_some, if_true]
  rw [isign_F h]
  simp only [Option.bind_some]
  rw [xor_flip h b hb.1 hb.2, impl_add h k (by omega) a0 a _ ha (flip_range h b hb.1 hb.2) e0]
  rfl
theorem FnExactFSub : laws_FnExactFSub.Pure := by
  intro a0 a b _ ha hb
  refine ⟨77, ?_⟩
  have ha := wf_u32 ha
  have hb := wf_u32 hb
  unfold laws_FnExactFSub.f
  rcases kinds a0 with ⟨F, h, f1, f2⟩ | ⟨f1, f2⟩
  · rw [spec_sub h 77 (by omega) a0 a b ha hb f1, impl_sub h 77 (by omega) a0 a b ha hb f2]
    simp
  · unfold impl_FSub.f spec_FSub.f
    rw [f1, f2]
    simp
end Go.Proofs.Ytdeogandkgiggaa.Pure
