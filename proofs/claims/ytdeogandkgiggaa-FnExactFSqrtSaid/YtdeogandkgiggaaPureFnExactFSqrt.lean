import Derived.Test.YtdeogandkgiggaaFd
import Derived.Test.YtdeogandkgiggaaQx27
namespace Go.Proofs.Ytdeogandkgiggaa.Pure
open Go.RowKit Go.Proofs.Ytdeogandkgiggaa.Q Go.Proofs.YtdeogandkgiggaaW.PrintWords Go.Proofs.YtdeogandkgiggaaW.PrintLast Go.Proofs.YtdeogandkgiggaaW.PrintMore Go.Proofs.Ytdeogandkgiggaa.Mb Go.Proofs.Ytdeogandkgiggaa.Fp Go.Proofs.Ytdeogandkgiggaa.Fl Go.Proofs.Ytdeogandkgiggaa.Fr Go.Proofs.Ytdeogandkgiggaa.Fo Go.Proofs.Ytdeogandkgiggaa.Fd
set_option linter.unusedSimpArgs false
set_option linter.unusedVariables false
/-- The bit that is tried. -/
def bit (t : Nat) : Nat := if t = 0 then 0 else 2 ^ (t - 1)
theorem bit_half (t : Nat) : ((2 ^ t : Nat) : Int) / 2 = ((bit t : Nat) : Int) := by
  unfold bit
  cases t with
  | zero => rfl
  | succ t => rw [if_neg (by omega), Nat.pow_succ]; simp only [Nat.add_sub_cancel]; omega
theorem sq_lt {a b : Nat} (h : a < b) : a * a < b * b := Nat.mul_lt_mul'' h h
theorem sq_le {a b : Nat} (h : a ≤ b) : a * a ≤ b * b := Nat.mul_le_mul h h
theorem impl_root_l (t : Nat) : ∀ (n r k : Nat), t < k → r * r ≤ n → n < (r + 2 ^ t) * (r + 2 ^ t) → r + 2 ^ t ≤ 2 ^ 31 →
    ∃ R : Nat, impl_root.l0 k (n : Int) (r : Int) (bit t : Nat) = some (R : Int) ∧ R * R ≤ n ∧ n < (R + 1) * (R + 1) ∧ R < 2 ^ 31 := by
  induction t with
  | zero =>
    intro n r k hk h1 h2 h3
    obtain ⟨k, rfl⟩ : ∃ j, k = j + 1 := ⟨k - 1, by omega⟩
    refine ⟨r, ?_, h1, h2, by rw [Nat.pow_zero] at h3; omega⟩
    simp only [impl_root.l0]
    rw [if_neg (by decide)]
  | succ t ih =>
    intro n r k hk h1 h2 h3
    obtain ⟨k, rfl⟩ : ∃ j, k = j + 1 := ⟨k - 1, by omega⟩
    have hb : bit (t + 1) = 2 ^ t := by unfold bit; rw [if_neg (by omega)]; rfl
    have hp := Nat.two_pow_pos t
    have e2 : 2 ^ (t + 1) = 2 ^ t + 2 ^ t := by rw [Nat.pow_succ]; omega
    simp only [impl_root.l0]
    rw [hb, if_pos (by omega), bit_half t]
    have hr : r + 2 ^ t < 2 ^ 31 := by omega
    have ew : IntKind.u64.wrap ((r : Int) + ((2 ^ t : Nat) : Int)) = ((r + 2 ^ t : Nat) : Int) := nat_add (by omega)
    have hsq : (r + 2 ^ t) * (r + 2 ^ t) < 2 ^ 31 * 2 ^ 31 := sq_lt hr
    have em : IntKind.u64.wrap (((r + 2 ^ t : Nat) : Int) * ((r + 2 ^ t : Nat) : Int)) = (((r + 2 ^ t) * (r + 2 ^ t) : Nat) : Int) := by
      rw [← Int.natCast_mul]
      exact wu64 (by omega) (by omega)
    rw [ew, em]
    by_cases c : (r + 2 ^ t) * (r + 2 ^ t) ≤ n
    · rw [if_pos (Int.ofNat_le.2 c)]
      exact ih n (r + 2 ^ t) k (by omega) c (by rw [Nat.add_assoc, ← e2]; exact h2) (by omega)
    · rw [if_neg (fun h => c (Int.ofNat_le.1 h))]
      exact ih n r k (by omega) h1 (by omega) (by omega)
theorem spec_root_l (t : Nat) : ∀ (n r k : Nat), t < k → r % 2 ^ t = 0 → r * r ≤ n → n < (r + 2 ^ t) * (r + 2 ^ t) → r + 2 ^ t ≤ 2 ^ 31 →
    ∃ R : Nat, spec_l4Root.l0 k (n : Int) (r : Int) (bit t : Nat) = some (R : Int) ∧ R * R ≤ n ∧ n < (R + 1) * (R + 1) ∧ R < 2 ^ 31 := by
  induction t with
  | zero =>
    intro n r k hk _ h1 h2 h3
    obtain ⟨k, rfl⟩ : ∃ j, k = j + 1 := ⟨k - 1, by omega⟩
    refine ⟨r, ?_, h1, h2, by rw [Nat.pow_zero] at h3; omega⟩
    simp only [spec_l4Root.l0]
    rw [if_neg (by decide)]
  | succ t ih =>
    intro n r k hk hm h1 h2 h3
    obtain ⟨k, rfl⟩ : ∃ j, k = j + 1 := ⟨k - 1, by omega⟩
    have hb : bit (t + 1) = 2 ^ t := by unfold bit; rw [if_neg (by omega)]; rfl
    have hp := Nat.two_pow_pos t
    have e2 : 2 ^ (t + 1) = 2 ^ t + 2 ^ t := by rw [Nat.pow_succ]; omega
    simp only [spec_l4Root.l0]
    rw [hb, if_pos (by omega), bit_half t]
    have hr : r + 2 ^ t < 2 ^ 31 := by omega
    have hm1 : r % 2 ^ t = 0 := by
      have : 2 ^ t ∣ r := Nat.dvd_trans ⟨2, by rw [Nat.pow_succ]⟩ (Nat.dvd_of_mod_eq_zero hm)
      exact Nat.mod_eq_zero_of_dvd this
    have ew : Go.bits .or .u64 (r : Int) ((2 ^ t : Nat) : Int) = ((r + 2 ^ t : Nat) : Int) := by
      have hx : (r : Int) % 2 ^ (t + 1) = 0 := by
        have : ((r % 2 ^ (t + 1) : Nat) : Int) = 0 := by rw [hm]; rfl
        rw [Int.natCast_emod, Int.natCast_pow] at this
        exact this
      have hy : ((2 ^ t : Nat) : Int) < 2 ^ (t + 1) := by
        have : ((2 ^ t : Nat) : Int) < ((2 ^ (t + 1) : Nat) : Int) := by omega
        rw [Int.natCast_pow 2 (t + 1)] at this
        exact this
      rw [u64_join (t + 1) (r : Int) ((2 ^ t : Nat) : Int) (by omega) hx (by omega) (by omega) hy (by omega)]
      omega
    have hsq : (r + 2 ^ t) * (r + 2 ^ t) < 2 ^ 31 * 2 ^ 31 := sq_lt hr
    have em : IntKind.u64.wrap (((r + 2 ^ t : Nat) : Int) * ((r + 2 ^ t : Nat) : Int)) = (((r + 2 ^ t) * (r + 2 ^ t) : Nat) : Int) := by
      rw [← Int.natCast_mul]
      exact wu64 (by omega) (by omega)
    rw [ew, em]
    by_cases c : (r + 2 ^ t) * (r + 2 ^ t) ≤ n
    · rw [if_pos (Int.ofNat_le.2 c)]
      exact ih n (r + 2 ^ t) k (by omega) (by rw [Nat.add_mod_right]; exact hm1) c (by rw [Nat.add_assoc, ← e2]; exact h2) (by omega)
    · rw [if_neg (fun h => c (Int.ofNat_le.1 h))]
      exact ih n r k (by omega) hm1 h1 (by omega) (by omega)
/-- The whole root. -/
def IsRoot (n R : Nat) : Prop := R * R ≤ n ∧ n < (R + 1) * (R + 1)
theorem root_eq {n R S : Nat} (h : IsRoot n R) (g : IsRoot n S) : R = S := by
  have h1 : ¬ R < S := fun c => by have := sq_le (show R + 1 ≤ S from c); have := h.2; have := g.1; omega
  have h2 : ¬ S < R := fun c => by have := sq_le (show S + 1 ≤ R from c); have := g.2; have := h.1; omega
  omega
theorem impl_isroot (n k : Nat) (hn : n < 2 ^ 60) (hk : 40 ≤ k) : ∃ R : Nat, impl_root.f k (n : Int) = some (R : Int) ∧ IsRoot n R ∧ R < 2 ^ 31 := by
  obtain ⟨R, a, b, c, d⟩ := impl_root_l 30 n 0 k (by omega) (by omega) (by rw [Nat.zero_add]; exact Nat.lt_of_lt_of_le hn (by decide)) (by decide)
  exact ⟨R, a, ⟨b, c⟩, d⟩
theorem spec_isroot (n k : Nat) (hn : n < 2 ^ 62) (hk : 40 ≤ k) : ∃ R : Nat, spec_l4Root.f k (n : Int) = some (R : Int) ∧ IsRoot n R ∧ R < 2 ^ 31 := by
  obtain ⟨R, a, b, c, d⟩ := spec_root_l 31 n 0 k (by omega) (by decide) (by omega) (by rw [Nat.zero_add]; exact Nat.lt_of_lt_of_le hn (by decide)) (by decide)
  exact ⟨R, a, ⟨b, c⟩, d⟩
theorem root_four {n R S : Nat} (h : IsRoot n R) (g : IsRoot (4 * n) S) : S / 2 = R ∧ decide (R * R ≠ n) = (decide (S % 2 ≠ 0) || decide (S * S ≠ 4 * n)) := by
  have h1 : ¬ S < 2 * R := fun c => by
    have h2 := sq_le (show S + 1 ≤ 2 * R from c)
    have e : 2 * R * (2 * R) = 4 * (R * R) := by rw [Nat.mul_mul_mul_comm]
    have := g.2; have := h.1; omega
  have h2 : ¬ 2 * (R + 1) ≤ S := fun c => by
    have h2 := sq_le c
    have e : 2 * (R + 1) * (2 * (R + 1)) = 4 * ((R + 1) * (R + 1)) := by rw [Nat.mul_mul_mul_comm]
    have := g.1; have := h.2; omega
  have hS : S / 2 = R := by omega
  refine ⟨hS, ?_⟩
  rw [← Bool.decide_or]
  apply decide_eq_decide.2
  constructor
  · intro c
    by_cases o : S % 2 ≠ 0
    · exact Or.inl o
    · refine Or.inr fun c2 => c ?_
      have e : S = 2 * R := by omega
      rw [e, show 2 * R * (2 * R) = 4 * (R * R) by rw [Nat.mul_mul_mul_comm]] at c2
      omega
  · intro c c2
    have e : S = 2 * R := by
      refine root_eq g ⟨?_, ?_⟩
      · rw [show 2 * R * (2 * R) = 4 * (R * R) by rw [Nat.mul_mul_mul_comm]]; omega
      · have : 2 * R * (2 * R) < (2 * R + 1) * (2 * R + 1) := sq_lt (by omega)
        rw [show 2 * R * (2 * R) = 4 * (R * R) by rw [Nat.mul_mul_mul_comm]] at this
        omega
    rcases c with c | c
    · omega
    · rw [e, show 2 * R * (2 * R) = 4 * (R * R) by rw [Nat.mul_mul_mul_comm]] at c
      omega
/-- How far the number is moved. -/
def ro (b m : Nat) (e : Int) : Nat := if (e - ((b - bl m : Nat) : Int)) % 2 = 0 then b - bl m else b - bl m - 1
theorem tmod2 (x : Int) : Int.tmod x 2 = 0 ↔ x % 2 = 0 := ⟨fun h => Int.emod_eq_zero_of_dvd (Int.dvd_of_tmod_eq_zero h), fun h => Int.tmod_eq_zero_of_dvd (Int.dvd_of_emod_eq_zero h)⟩
theorem tdiv2 {x : Int} (h : x % 2 = 0) : Int.tdiv x 2 = x / 2 := by
  have e : x = 2 * (x / 2) := by omega
  conv => lhs; rw [e]
  exact Int.mul_tdiv_cancel_left _ (by decide)
theorem root_low {n R : Nat} (h : IsRoot n R) (hn : 2 ^ 56 ≤ n) : 29 ≤ bl R := by
  have : 2 ^ 28 ≤ R := by
    refine Classical.byContradiction fun c => ?_
    have h1 := sq_le (show R + 1 ≤ 2 ^ 28 by omega)
    have := h.2
    omega
  exact bl_ge this
def rt (F : Fm) (m : Nat) (e : Int) (R : Nat) : Int :=
  fin F false (Vm R (decide (R * R ≠ m * 2 ^ ro 58 m e))) (Em ((e - ((ro 58 m e : Nat) : Int)) / 2) (decide (R * R ≠ m * 2 ^ ro 58 m e)))
theorem ro_facts {b m : Nat} {e : Int} (hm : m ≠ 0) (hb : bl m + 1 ≤ b) (hb2 : 57 ≤ b) : (e - ((ro b m e : Nat) : Int)) % 2 = 0 ∧ ro b m e ≤ b - bl m ∧ b - bl m ≤ ro b m e + 1 ∧ m * 2 ^ ro b m e < 2 ^ b ∧ 2 ^ (b - 2) ≤ m * 2 ^ ro b m e := by
  obtain ⟨u1, u2, u3⟩ := bl_pos hm
  have h1 : (e - ((ro b m e : Nat) : Int)) % 2 = 0 ∧ ro b m e ≤ b - bl m ∧ b - bl m ≤ ro b m e + 1 := by unfold ro; split <;> omega
  refine ⟨h1.1, h1.2.1, h1.2.2, ?_, ?_⟩
  · have : m * 2 ^ ro b m e < 2 ^ bl m * 2 ^ ro b m e := Nat.mul_lt_mul_of_pos_right u2 (Nat.two_pow_pos _)
    rw [← Nat.pow_add] at this
    exact Nat.lt_of_lt_of_le this (Nat.pow_le_pow_right (by decide) (by omega))
  · have : 2 ^ (bl m - 1) * 2 ^ ro b m e ≤ m * 2 ^ ro b m e := Nat.mul_le_mul_right _ u1
    rw [← Nat.pow_add] at this
    exact Nat.le_trans (Nat.pow_le_pow_right (by decide) (by omega)) this
/-- Both ways tell the same root. -/
theorem rt_eq {F : Fm} (h : IsF F) {m R S : Nat} {e : Int} (hm : m ≠ 0) (hb : bl m ≤ 24) (hR : IsRoot (m * 2 ^ ro 58 m e) R) (hS : IsRoot (m * 2 ^ ro 60 m e) S) :
    fin F false (Vm S (decide (S * S ≠ m * 2 ^ ro 60 m e))) (Em ((e - ((ro 60 m e : Nat) : Int)) / 2) (decide (S * S ≠ m * 2 ^ ro 60 m e))) = rt F m e R := by
  obtain ⟨a1, a2, a3, a4, a5⟩ := ro_facts (b := 58) (e := e) hm (by omega) (by decide)
  obtain ⟨b1, b2, b3, b4, b5⟩ := ro_facts (b := 60) (e := e) hm (by omega) (by decide)
  have e60 : ro 60 m e = ro 58 m e + 2 := by omega
  have f6 := (facts h).2.2.2.2.2.1
  have e4 : m * 2 ^ ro 60 m e = 4 * (m * 2 ^ ro 58 m e) := by rw [e60, Nat.pow_add, ← Nat.mul_assoc, Nat.mul_comm]
  rw [e4] at hS ⊢
  obtain ⟨q1, q2⟩ := root_four hR hS
  have hlow := root_low hR a5
  have := fin_down (F := F) false S 1 (decide (S * S ≠ 4 * (m * 2 ^ ro 58 m e))) ((e - ((ro 60 m e : Nat) : Int)) / 2) (by rw [Nat.pow_one, q1]; omega)
  rw [Nat.pow_one, q1, ← q2] at this
  rw [← this]
  unfold rt
  rw [show (e - ((ro 60 m e : Nat) : Int)) / 2 + ((1 : Nat) : Int) = (e - ((ro 58 m e : Nat) : Int)) / 2 by omega]
theorem ne_dec2 (a b : Nat) : ((a : Int) != (b : Int)) = decide (a ≠ b) := by rw [bne_dec]; exact decide_eq_decide.2 (by omega)
def sqrt (F : Fm) (s i n : Bool) (m : Nat) (e : Int) (R : Nat) : Int :=
  if n = true then nan F else if s = true then (if i = true then nan F else if m = 0 then sg F true else nan F) else if i = true then inf F false else if m = 0 then sg F false else rt F m e R
theorem impl_sqrt {F : Fm} (h : IsF F) (k : Nat) (hk : 80 ≤ k) (a0 b : Int) (hb : 0 ≤ b ∧ b ≤ 4294967295) (e0 : impl_formatOf.f a0 = some (F.p, F.b, true)) (R : Nat) (hR : opM F b ≠ 0 → IsRoot (opM F b * 2 ^ ro 58 (opM F b) (opE F b)) R)
    (hi0 : opI F b = true → opM F b = 0) :
    impl_FSqrt.f k a0 b = some (sqrt F (opS F b) (opI F b) (opN F b) (opM F b) (opE F b) R) := by
  obtain ⟨k, rfl⟩ : ∃ j, k = j + 1 := ⟨k - 1, by omega⟩
  have hm1 := (opM_lt h b hb.1).2
  have he := opE_range h b hb.1
  unfold impl_FSqrt.f
  rw [e0]
  simp only [Option.bind_some, if_true]
  rw [impl_open h b hb.1 hb.2]
  simp only [Option.bind_some]
  generalize opS F b = s, opI F b = i, opN F b = n, opM F b = m, opE F b = e at *
  have g' := (facts2 h).2.2.2.1
  have g := (facts2 h).2.2.1
  rw [inan_F h]
  simp only [Option.bind_some, impl_FSqrt.j0]
  rw [isigned_F h _ (Int.le_refl 0) (by omega), inan_F h, iinf_F h]
  simp only [Option.bind_some]
  have d1 : ((m : Int) == 0) = decide (m = 0) := decide_eq_decide.2 (by omega)
  rw [d1]
  unfold sqrt
  by_cases z : m = 0
  · subst z
    cases n <;> cases i <;> cases s <;> simp
  · have hi : i = false := by
      cases i
      · rfl
      · exact absurd (hi0 rfl) z
    subst hi
    have hbl := bl_le hm1
    obtain ⟨u1, u2, u3⟩ := bl_pos z
    obtain ⟨b1, b2, b3, b4, b5⟩ := ro_facts (b := 60) (e := e) z (by omega) (by decide)
    have key : ((impl_root.f k (shl .u64 (m : Int) ((ro 60 m e : Nat) : Int))).bind fun t => ((impl_format_round.f k F.p F.b false t (wrap64 (Int.tdiv (wrap64 (e - ((ro 60 m e : Nat) : Int))) 2)) ((IntKind.u64.wrap (t * t)) != (shl .u64 (m : Int) ((ro 60 m e : Nat) : Int)))).bind fun t2 => (some t2))) = some (rt F m e R) := by
      rw [shl_nat m _ (by omega) (by omega)]
      obtain ⟨S, q1, q2, q3⟩ := impl_isroot (m * 2 ^ ro 60 m e) k b4 (by omega)
      rw [q1, w64 (n := e - ((ro 60 m e : Nat) : Int)) (by omega) (by omega), tdiv2 b1]
      simp only [Option.bind_some]
      have hsq : S * S < 2 ^ 31 * 2 ^ 31 := sq_lt q3
      rw [← Int.natCast_mul, wu64 (n := ((S * S : Nat) : Int)) (by omega) (by omega), ne_dec2, w64 (by omega) (by omega)]
      have hS : 2 ^ 56 ≤ m * 2 ^ ro 60 m e := by omega
      have f6 := (facts h).2.2.2.2.2.1
      have hlow := root_low q2 hS
      rw [impl_round h k (by omega) _ _ _ _ (by omega) (by omega) (by omega) (fun _ => by omega)]
      simp only [Option.bind_some]
      rw [rt_eq h z hbl (hR z) q2]
    have e1 : wrap64 (60 - (bl m : Int)) = ((60 - bl m : Nat) : Int) := by rw [w64 (by omega) (by omega)]; omega
    rw [impl_len m (by omega)]
    simp only [Option.bind_some]
    rw [e1, w64 (n := e - ((60 - bl m : Nat) : Int)) (by omega) (by omega)]
    have hinner : (if Int.tmod (e - ((60 - bl m : Nat) : Int)) 2 = 0 then (if 0 ≤ ((60 - bl m : Nat) : Int) then ((impl_root.f k (shl .u64 (m : Int) ((60 - bl m : Nat) : Int))).bind fun t323 => ((impl_format_round.f k F.p F.b false t323 (wrap64 (Int.tdiv (e - ((60 - bl m : Nat) : Int)) 2)) ((IntKind.u64.wrap (t323 * t323)) != (shl .u64 (m : Int) ((60 - bl m : Nat) : Int)))).bind fun t324 => (some t324))) else (none)) else (if 0 ≤ (wrap64 (((60 - bl m : Nat) : Int) - 1)) then ((impl_root.f k (shl .u64 (m : Int) (wrap64 (((60 - bl m : Nat) : Int) - 1)))).bind fun t325 => ((impl_format_round.f k F.p F.b false t325 (wrap64 (Int.tdiv (wrap64 (e - (wrap64 (((60 - bl m : Nat) : Int) - 1)))) 2)) ((IntKind.u64.wrap (t325 * t325)) != (shl .u64 (m : Int) (wrap64 (((60 - bl m : Nat) : Int) - 1))))).bind fun t326 => (some t326))) else (none))) = some (rt F m e R) := by
      by_cases c : (e - ((60 - bl m : Nat) : Int)) % 2 = 0
      · have er : ro 60 m e = 60 - bl m := by unfold ro; rw [if_pos c]
        rw [er, w64 (n := e - ((60 - bl m : Nat) : Int)) (by omega) (by omega)] at key
        rw [if_pos ((tmod2 _).2 c), if_pos (by omega)]
        exact key
      · have er : ro 60 m e = 60 - bl m - 1 := by unfold ro; rw [if_neg c]
        have e2 : wrap64 (((60 - bl m : Nat) : Int) - 1) = ((60 - bl m - 1 : Nat) : Int) := by rw [w64 (by omega) (by omega)]; omega
        rw [er] at key
        rw [if_neg (fun h => c ((tmod2 _).1 h)), e2, if_pos (by omega)]
        exact key
    rw [hinner]
    have d2 : decide (m = 0) = false := decide_eq_false z
    rw [d2]
    cases n <;> cases s <;> simp [z]
theorem spec_sqrt {F : Fm} (h : IsF F) (k : Nat) (hk : 100 ≤ k) (a0 b : Int) (hb : 0 ≤ b ∧ b ≤ 4294967295) (e0 : spec_l4Kind.f a0 = some (F.x, F.p, true)) 
    (hi0 : opI F b = true → opM F b = 0) :
    ∃ R : Nat, (opM F b ≠ 0 → IsRoot (opM F b * 2 ^ ro 58 (opM F b) (opE F b)) R) ∧ spec_FSqrt.f k a0 b = some (sqrt F (opS F b) (opI F b) (opN F b) (opM F b) (opE F b) R) := by
  obtain ⟨k, rfl⟩ : ∃ j, k = j + 1 := ⟨k - 1, by omega⟩
  have hm1 := opM_lt h b hb.1
  have he := opE_range h b hb.1
  unfold spec_FSqrt.f
  rw [e0]
  simp only [Option.bind_some, if_true]
  rw [spec_open h b hb.1 hb.2]
  simp only [Option.bind_some]
  generalize opS F b = s, opI F b = i, opN F b = n, opM F b = m, opE F b = e at *
  unfold spec_l4K_root.f
  simp only [spec_l4K_root.j0]
  rw [nan_F h, inf_F h, sign_F h]
  simp only [Option.bind_some]
  have d1 : ((m : Int) != 0) = decide (m ≠ 0) := by rw [bne_dec]; exact decide_eq_decide.2 (by omega)
  rw [d1]
  unfold sqrt
  by_cases z : m = 0
  · subst z
    refine ⟨0, fun h => absurd rfl h, ?_⟩
    cases n <;> cases i <;> cases s <;> simp
  · have hi : i = false := by
      cases i
      · rfl
      · exact absurd (hi0 rfl) z
    subst hi
    have hbl := bl_le hm1.1
    obtain ⟨f1, f2, f3, f4, f5, f6, -⟩ := facts h
    obtain ⟨u1, u2, u3⟩ := bl_pos z
    obtain ⟨b1, b2, b3, b4, b5⟩ := ro_facts (b := 58) (e := e) z (by omega) (by decide)
    obtain ⟨R, q1, q2, q3⟩ := spec_isroot (m * 2 ^ ro 58 m e) k (by omega) (by omega)
    refine ⟨R, fun _ => q2, ?_⟩
    -- full first
    obtain ⟨j, hj⟩ : ∃ j, F.P + 1 - bl m = j := ⟨_, rfl⟩
    have hfull := spec_full h k (by omega) s false n m e z hm1.1 (by omega)
    rw [hj] at hfull
    have hbm : bl (m * 2 ^ j) = F.P + 1 := by rw [bl_shift z]; omega
    have hml : m * 2 ^ j < 2 ^ (F.P + 1) := by have := bl_lt (m * 2 ^ j); rw [hbm] at this; exact this
    have g24 : 2 ^ (F.P + 1) ≤ 2 ^ 24 := Nat.pow_le_pow_right (by decide) (by omega)
    rw [hfull]
    simp only [Option.bind_some]
    rw [spec_len (m * 2 ^ j) k (by omega) (by omega), hbm]
    simp only [Option.bind_some]
    have e1 : wrap64 (58 - ((F.P + 1 : Nat) : Int)) = ((58 - bl m - j : Nat) : Int) := by rw [w64 (by omega) (by omega)]; omega
    rw [e1, w64 (n := e - (j : Int) - ((58 - bl m - j : Nat) : Int)) (by omega) (by omega)]
    have hmul : ∀ a : Nat, j ≤ a → a ≤ 58 → m * 2 ^ a < 2 ^ 58 → shl .u64 ((m * 2 ^ j : Nat) : Int) ((a - j : Nat) : Int) = ((m * 2 ^ a : Nat) : Int) := by
      intro a ha ha2 hlt
      have e3 : m * 2 ^ j * 2 ^ (a - j) = m * 2 ^ a := by rw [Nat.mul_assoc, ← Nat.pow_add]; congr 2; omega
      rw [shl_nat _ _ (by omega) (by rw [e3]; omega), e3]
    have hsq : R * R < 2 ^ 31 * 2 ^ 31 := sq_lt q3
    have hlow := root_low q2 b5
    have key : ((spec_l4Root.f k ((m * 2 ^ ro 58 m e : Nat) : Int)).bind fun t => ((spec_l4K_round.f k F.x F.p false t (wrap64 (Int.tdiv (e - ((ro 58 m e : Nat) : Int)) 2)) ((IntKind.u64.wrap (t * t)) != ((m * 2 ^ ro 58 m e : Nat) : Int))).bind fun t2 => (some t2))) = some (rt F m e R) := by
      rw [q1, tdiv2 b1]
      simp only [Option.bind_some]
      rw [← Int.natCast_mul, wu64 (n := ((R * R : Nat) : Int)) (by omega) (by omega), ne_dec2, w64 (by omega) (by omega)]
      rw [spec_round h k (by omega) _ _ _ _ (by omega) (by omega) (by omega) (fun _ => by omega)]
      rfl
    have hinner : (if Int.tmod (e - (j : Int) - ((58 - bl m - j : Nat) : Int)) 2 = 0 then (if 0 ≤ (IntKind.u64.wrap ((58 - bl m - j : Nat) : Int)) then ((spec_l4Root.f k (shl .u64 ((m * 2 ^ j : Nat) : Int) (IntKind.u64.wrap ((58 - bl m - j : Nat) : Int)))).bind fun t294 => ((spec_l4K_round.f k F.x F.p false t294 (wrap64 (Int.tdiv (e - (j : Int) - ((58 - bl m - j : Nat) : Int)) 2)) ((IntKind.u64.wrap (t294 * t294)) != (shl .u64 ((m * 2 ^ j : Nat) : Int) (IntKind.u64.wrap ((58 - bl m - j : Nat) : Int))))).bind fun t295 => (some t295))) else (none)) else (if 0 ≤ (IntKind.u64.wrap (wrap64 (((58 - bl m - j : Nat) : Int) - 1))) then ((spec_l4Root.f k (shl .u64 ((m * 2 ^ j : Nat) : Int) (IntKind.u64.wrap (wrap64 (((58 - bl m - j : Nat) : Int) - 1))))).bind fun t296 => ((spec_l4K_round.f k F.x F.p false t296 (wrap64 (Int.tdiv (wrap64 (e - (j : Int) - (wrap64 (((58 - bl m - j : Nat) : Int) - 1)))) 2)) ((IntKind.u64.wrap (t296 * t296)) != (shl .u64 ((m * 2 ^ j : Nat) : Int) (IntKind.u64.wrap (wrap64 (((58 - bl m - j : Nat) : Int) - 1)))))).bind fun t297 => (some t297))) else (none))) = some (rt F m e R) := by
      rw [wu64 (n := ((58 - bl m - j : Nat) : Int)) (by omega) (by omega)]
      by_cases c : (e - ((58 - bl m : Nat) : Int)) % 2 = 0
      · have er : ro 58 m e = 58 - bl m := by unfold ro; rw [if_pos c]
        rw [er] at key b4
        have hx : e - (j : Int) - ((58 - bl m - j : Nat) : Int) = e - ((58 - bl m : Nat) : Int) := by omega
        rw [hx, if_pos ((tmod2 _).2 c), if_pos (by omega), hmul (58 - bl m) (by omega) (by omega) b4]
        exact key
      · have er : ro 58 m e = 58 - bl m - 1 := by unfold ro; rw [if_neg c]
        rw [er] at key b4
        have e2 : wrap64 (((58 - bl m - j : Nat) : Int) - 1) = ((58 - bl m - 1 - j : Nat) : Int) := by rw [w64 (by omega) (by omega)]; omega
        have hx : wrap64 (e - (j : Int) - ((58 - bl m - 1 - j : Nat) : Int)) = e - ((58 - bl m - 1 : Nat) : Int) := by rw [w64 (by omega) (by omega)]; omega
        rw [if_neg (fun h => by have := (tmod2 _).1 h; omega), e2, wu64 (n := ((58 - bl m - 1 - j : Nat) : Int)) (by omega) (by omega), if_pos (by omega), hx, hmul (58 - bl m - 1) (by omega) (by omega) b4]
        exact key
    rw [hinner]
    have d2 : decide (m ≠ 0) = true := decide_eq_true z
    rw [d2]
    cases n <;> cases s <;> simp [z]
theorem inf_zero (F : Fm) (b : Int) : opI F b = true → opM F b = 0 := by
  intro h
  unfold opI at h
  have h := of_decide_eq_true h
  unfold opM
  rw [if_pos h.1]
  rfl
theorem FnExactFSqrt : laws_FnExactFSqrt.Pure := by
  intro a0 b _ hb
  refine ⟨100, ?_⟩
  have hb := wf_u32 hb
  unfold laws_FnExactFSqrt.f
  rcases kinds a0 with ⟨F, h, f1, f2⟩ | ⟨f1, f2⟩
  · obtain ⟨R, r1, r2⟩ := spec_sqrt h 100 (by omega) a0 b hb f1 (inf_zero F b)
    rw [r2, impl_sqrt h 100 (by omega) a0 b hb f2 R r1 (inf_zero F b)]
    simp
  · unfold spec_FSqrt.f impl_FSqrt.f
    rw [f1, f2]
    simp
end Go.Proofs.Ytdeogandkgiggaa.Pure
