import Derived.Test.YtdeogandkgiggaaFx
import Derived.Test.YtdeogandkgiggaaFk
import Derived.Test.YtdeogandkgiggaaFb
import Derived.Test.YtdeogandkgiggaaQx59
namespace Go.Proofs.Ytdeogandkgiggaa.Pure
open Go.RowKit Go.Proofs.Ytdeogandkgiggaa.Q Go.Proofs.YtdeogandkgiggaaW.PrintWords Go.Proofs.YtdeogandkgiggaaW.PrintLast Go.Proofs.YtdeogandkgiggaaW.PrintMore Go.Proofs.Ytdeogandkgiggaa.Mb Go.Proofs.Ytdeogandkgiggaa.Fp Go.Proofs.Ytdeogandkgiggaa.Fl Go.Proofs.Ytdeogandkgiggaa.Fr Go.Proofs.Ytdeogandkgiggaa.Fo Go.Proofs.Ytdeogandkgiggaa.Fe Go.Proofs.Ytdeogandkgiggaa.Fc Go.Proofs.Ytdeogandkgiggaa.Fk Go.Proofs.Ytdeogandkgiggaa.Fx Go.Proofs.Ytdeogandkgiggaa.Fb Go.Proofs.Ytdeogandkgiggaa.Cur
set_option linter.unusedSimpArgs false
set_option linter.unusedVariables false
theorem cmp_swap (F : Fm) (a b : Int) : (cmp F a b = 2 ∧ cmp F b a = 2) ∨ (cmp F a b ≠ 2 ∧ cmp F b a = -(cmp F a b)) := by
  unfold cmp
  rw [Bool.or_comm (opN F b)]
  by_cases cn : (opN F a || opN F b) = true
  · rw [if_pos cn, if_pos cn]; exact Or.inl ⟨rfl, rfl⟩
  · rw [if_neg cn, if_neg cn]
    right
    (repeat' split) <;> first | omega | exact ⟨by decide, by decide⟩
theorem mn_swap {F : Fm} (h : IsF F) (a b : Int) (ha : 0 ≤ a) (hb : 0 ≤ b) : mn F a b = mn F b a := by
  have c1 := (C_facts h).1
  have hva := Int.emod_nonneg a (show F.C ≠ 0 by omega)
  have hvb := Int.emod_nonneg b (show F.C ≠ 0 by omega)
  have wa := whole_bits h a ha
  have wb := whole_bits h b hb
  rw [← low_bits h a ha] at wa
  rw [← low_bits h b hb] at wb
  unfold mn
  rw [Bool.or_comm (opN F b)]
  by_cases cn : (opN F a || opN F b) = true
  · rw [if_pos cn, if_pos cn]
  · rw [if_neg cn, if_neg cn]
    by_cases l : ordI F b < ordI F a
    · rw [if_pos l, if_neg (by omega)]
    · rw [if_neg l]
      by_cases l2 : ordI F a < ordI F b
      · rw [if_pos l2]
      · rw [if_neg l2, wa, wb]
        have e : ordI F a = ordI F b := by omega
        unfold ordI at e
        unfold sg
        generalize opS F a = sa, opS F b = sb at *
        cases sa <;> cases sb <;> simp only [if_true, if_false, Bool.false_eq_true] at e ⊢ <;> omega
/-- Halves are ordered as what they are. -/
theorem ord_EX (a b : Int) (ha : 0 ≤ a) (hb : 0 ≤ b) (fa : fnt a = true) (fb : fnt b = true) : (ordS F16 a < ordS F16 b ↔ EX a < EX b) ∧ (ordS F16 a > ordS F16 b ↔ EX a > EX b) := by
  have ma := MX_v a ha fa
  have mb := MX_v b hb fb
  have k1 := Mv_lt_iff (a % 32768).toNat (b % 32768).toNat
  have k2 := Mv_lt_iff (b % 32768).toNat (a % 32768).toNat
  have z : Mv 0 = 0 := rfl
  have k3 := Mv_lt_iff 0 (a % 32768).toNat
  have k4 := Mv_lt_iff 0 (b % 32768).toNat
  rw [← ma, ← mb] at k1 k2
  rw [← ma, z] at k3
  rw [← mb, z] at k4
  have hva : ((a % 32768).toNat : Int) = a % 32768 := by omega
  have hvb : ((b % 32768).toNat : Int) = b % 32768 := by omega
  unfold ordS EX
  rw [show F16.C = 32768 from rfl, ← hva, ← hvb]
  generalize (a % 32768).toNat = va, (b % 32768).toNat = vb, MX a = xa, MX b = xb at *
  cases opS F16 a <;> cases opS F16 b <;> simp only [if_true, if_false, Bool.false_eq_true] <;> constructor <;> constructor <;> intro _ <;> omega
theorem mn_half (a b : Int) (ha : 0 ≤ a) (hb : 0 ≤ b) (fa : fnt a = true) (fb : fnt b = true) : fnt (mn F16 a b) = true ∧ 0 ≤ mn F16 a b ∧ mn F16 a b ≤ 4294967295 ∧ ((EX (mn F16 a b) = EX a ∧ EX a ≤ EX b) ∨ (EX (mn F16 a b) = EX b ∧ EX b ≤ EX a)) := by
  obtain ⟨i1, n1⟩ := (fnt_iff a).1 fa
  obtain ⟨i2, n2⟩ := (fnt_iff b).1 fb
  obtain ⟨x1, x2⟩ := EX_mod a ha
  obtain ⟨y1, y2⟩ := EX_mod b hb
  have o := ord_EX a b ha hb fa fb
  have e : mn F16 a b = if ordI F16 b < ordI F16 a then b % 65536 else a % 65536 := by
    unfold mn
    rw [n1, n2, Bool.or_self, if_neg (by decide)]
    rfl
  have hle : (ordI F16 b < ordI F16 a → EX b ≤ EX a) ∧ (¬ ordI F16 b < ordI F16 a → EX a ≤ EX b) := by
    have c : ordS F16 b < ordS F16 a → ordI F16 b < ordI F16 a := by
      unfold ordS ordI
      have := Int.emod_nonneg a (show F16.C ≠ 0 by decide)
      have := Int.emod_nonneg b (show F16.C ≠ 0 by decide)
      cases opS F16 a <;> cases opS F16 b <;> simp only [if_true, if_false, Bool.false_eq_true] <;> intro _ <;> omega
    have c2 : ordI F16 b < ordI F16 a → ordS F16 b ≤ ordS F16 a := by
      unfold ordS ordI
      have := Int.emod_nonneg a (show F16.C ≠ 0 by decide)
      have := Int.emod_nonneg b (show F16.C ≠ 0 by decide)
      cases opS F16 a <;> cases opS F16 b <;> simp only [if_true, if_false, Bool.false_eq_true] <;> intro _ <;> omega
    constructor
    · intro h
      have := c2 h
      have g := o.1
      omega
    · intro h
      have g := o.2
      have : ¬ ordS F16 a > ordS F16 b := fun g2 => h (c g2)
      omega
  rw [e]
  by_cases c : ordI F16 b < ordI F16 a
  · rw [if_pos c, y1, y2]
    exact ⟨fb, by omega, by omega, Or.inr ⟨rfl, hle.1 c⟩⟩
  · rw [if_neg c, x1, x2]
    exact ⟨fa, by omega, by omega, Or.inl ⟨rfl, hle.2 c⟩⟩
theorem FnCompared : laws_FnCompared.Pure := by
  intro l0 hl hl2 hu
  have hu := u8_of hu
  refine ⟨100, ?_⟩
  unfold laws_FnCompared.f
  by_cases cl : (l0.length : Int) > 1048576
  · rw [if_pos cl]
  · rw [if_neg cl]
    obtain ⟨kd, a, b, e1, hkd, ha, hb⟩ := draw_ok hu 100 (by omega)
    unfold spec_DrawFCompare.f
    rw [e1]
    simp only [Option.bind_some]
    clear e1
    rcases kinds kd with ⟨F, h, f1, f2⟩ | ⟨f1, f2⟩
    · rw [impl_cmp h 100 (by omega) kd a b ha hb f2, impl_min h 100 (by omega) kd a b ha hb f2, spec_cmp h 100 (by omega) kd a b ha hb f1, spec_min h 100 (by omega) kd a b ha hb f1, impl_min h 100 (by omega) kd b a hb ha f2]
      simp only [Option.bind_some, if_true]
      rw [mn_swap h b a hb.1 ha.1]
      have hbne : (mn F a b != mn F a b) = false := by simp
      rw [hbne]
      simp only [laws_FnCompared.j0]
      rw [if_neg (by decide), impl_cmp h 99 (by omega) kd b a hb ha f2]
      simp only [Option.bind_some]
      have j1 : laws_FnCompared.j1 99 kd a b (cmp F a b) (mn F a b) false = some true := by
        simp only [laws_FnCompared.j1]
        rw [if_neg (by decide), exact_ok a ha.1 ha.2, exact_ok b hb.1 hb.2]
        simp only [Option.bind_some]
        by_cases c16 : kd = 16
        · have hF : F = F16 := by
            rcases h with rfl | rfl
            · rfl
            · subst c16
              have : spec_l4Kind.f 16 = some (5, 10, true) := rfl
              rw [this] at f1
              cases f1
          subst hF
          rw [if_pos c16]
          by_cases fa : fnt a = true
          · by_cases fb : fnt b = true
            · rw [if_pos fa, if_pos fb]
              obtain ⟨m1, m2, m3, m4⟩ := mn_half a b ha.1 hb.1 fa fb
              obtain ⟨o1, o2⟩ := ord_EX a b ha.1 hb.1 fa fb
              simp only [if_true]
              rw [exact_ok _ m2 m3]
              simp only [Option.bind_some]
              rw [if_pos m1]
              simp only [if_true]
              have hc : cmp F16 a b = if EX a < EX b then -1 else if EX a > EX b then 1 else 0 := by
                unfold cmp
                rw [((fnt_iff a).1 fa).2, ((fnt_iff b).1 fb).2, Bool.or_self, if_neg (by decide)]
                simp only [o1, o2]
              have d1 : (decide (cmp F16 a b < 0) == decide (EX a < EX b)) = true := by
                rw [hc, beq_iff_eq]
                apply decide_eq_decide.2
                (repeat' split) <;> omega
              have d2 : (decide (cmp F16 a b > 0) == decide (EX a > EX b)) = true := by
                rw [hc, beq_iff_eq]
                apply decide_eq_decide.2
                (repeat' split) <;> omega
              rw [d1, d2, if_pos rfl, if_pos rfl]
              rcases m4 with ⟨m4, m5⟩ | ⟨m4, m5⟩
              · rw [if_pos m4, if_pos (by omega), decide_eq_true (by omega)]
              · by_cases c : EX (mn F16 a b) = EX a
                · rw [if_pos c, if_pos (by omega), decide_eq_true (by omega)]
                · rw [if_neg c, if_pos m4, if_pos (by omega), decide_eq_true (by omega)]
            · rw [if_pos fa, if_neg fb]
              simp
          · rw [if_neg fa]
            simp
        · rw [if_neg c16]
      rcases cmp_swap F a b with ⟨s1, s2⟩ | ⟨s1, s2⟩
      · rw [if_pos s1]; exact j1
      · have hw : wrap64 (-(cmp F a b)) = -(cmp F a b) := by
          have : -2 ≤ cmp F a b ∧ cmp F a b ≤ 2 := by unfold cmp; (repeat' split) <;> omega
          exact w64 (by omega) (by omega)
        have hne : (cmp F b a != wrap64 (-(cmp F a b))) = false := by rw [hw, s2]; simp
        rw [if_neg s1, hne]
        exact j1
    · have g1 : impl_FCompare.f 100 kd a b = some 0 := by unfold impl_FCompare.f; rw [f2]; rfl
      have g2 : impl_FMin.f 100 kd a b = some 0 := by unfold impl_FMin.f; rw [f2]; rfl
      have g3 : spec_FCompare.f 100 kd a b = some 0 := by unfold spec_FCompare.f; rw [f1]; rfl
      have g4 : spec_FMin.f 100 kd a b = some 0 := by unfold spec_FMin.f; rw [f1]; rfl
      have g5 : impl_FMin.f 100 kd b a = some 0 := by unfold impl_FMin.f; rw [f2]; rfl
      have g6 : impl_FCompare.f 99 kd b a = some 0 := by unfold impl_FCompare.f; rw [f2]; rfl
      have c16 : kd ≠ 16 := by
        rintro rfl
        have : spec_l4Kind.f 16 = some (5, 10, true) := rfl
        rw [this] at f1
        cases f1
      rw [g1, g2, g3, g4, g5]
      simp only [Option.bind_some, if_true, laws_FnCompared.j0]
      rw [show ((0 : Int) != 0) = false from rfl, if_neg (by decide), if_neg (by decide), g6]
      simp only [Option.bind_some]
      rw [show ((0 : Int) != wrap64 (-0)) = false by decide +kernel]
      simp only [laws_FnCompared.j1]
      rw [if_neg (by decide), exact_ok a ha.1 ha.2, exact_ok b hb.1 hb.2]
      simp only [Option.bind_some]
      rw [if_neg c16]
end Go.Proofs.Ytdeogandkgiggaa.Pure
