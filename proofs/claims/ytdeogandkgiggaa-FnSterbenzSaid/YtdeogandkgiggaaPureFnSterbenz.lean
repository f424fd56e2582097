import Derived.Test.YtdeogandkgiggaaFw
import Derived.Test.YtdeogandkgiggaaQx19
namespace Go.Proofs.Ytdeogandkgiggaa.Pure
open Go.RowKit Go.Proofs.Ytdeogandkgiggaa.Q Go.Proofs.YtdeogandkgiggaaW.PrintWords Go.Proofs.YtdeogandkgiggaaW.PrintLast Go.Proofs.YtdeogandkgiggaaW.PrintMore Go.Proofs.Ytdeogandkgiggaa.Mb Go.Proofs.Ytdeogandkgiggaa.Fp Go.Proofs.Ytdeogandkgiggaa.Fl Go.Proofs.Ytdeogandkgiggaa.Fr Go.Proofs.Ytdeogandkgiggaa.Fo Go.Proofs.Ytdeogandkgiggaa.Fe Go.Proofs.Ytdeogandkgiggaa.Fc Go.Proofs.Ytdeogandkgiggaa.Fx Go.Proofs.Ytdeogandkgiggaa.Fs Go.Proofs.Ytdeogandkgiggaa.Fz Go.Proofs.Ytdeogandkgiggaa.Fw Go.Proofs.Ytdeogandkgiggaa.Fb Go.Proofs.Ytdeogandkgiggaa.Cur
set_option linter.unusedSimpArgs false
set_option linter.unusedVariables false
/-- What has its bits is no overflow. -/
theorem rep_mag (S : Int) (hr : Rep S) (hS : S ≠ 0) (hl : S.natAbs < 2 ^ 40) : mag F16.P F16.L S.natAbs (-24) < F16.I := by
  have hlow : low F16.P F16.L S.natAbs (-24) = -24 + (G S : Int) := by
    unfold low G
    rw [show F16.P = 10 from rfl, show F16.L = -24 from rfl]
    omega
  have hk : kv F16.P F16.L S.natAbs (-24) = rne S.natAbs (G S) := by
    unfold kv
    rw [hlow]
    by_cases g : G S = 0
    · rw [g, if_pos (by omega), rne_zero]
      simp
    · rw [if_neg (by omega)]
      congr 1
      omega
  have hR := R_rep hr
  have hRn : Rn S.natAbs (G S) = S.natAbs := by
    unfold R at hR
    split at hR <;> omega
  have hb : bl S.natAbs ≤ 40 := bl_le hl
  have hg : G S ≤ 29 := by unfold G; omega
  have hlt : S.natAbs < 2 ^ (11 + G S) := by
    by_cases c : 1 ≤ G S
    · exact (G_low c).2
    · have hb : bl S.natAbs ≤ 11 := by unfold G at c; omega
      have h0 : G S = 0 := by omega
      rw [h0]
      exact Nat.lt_of_lt_of_le (bl_lt _) (Nat.pow_le_pow_right (by decide) hb)
  have hk2 : rne S.natAbs (G S) < 2 ^ 11 := by
    unfold Rn at hRn
    rw [← hRn, Nat.pow_add] at hlt
    refine Nat.lt_of_mul_lt_mul_right (a := 2 ^ G S) ?_
    rw [hRn, ← Nat.pow_add]
    rw [hRn, ← Nat.pow_add] at hlt
    exact hlt
  rw [mag_kv, hk, hlow, show F16.L = -24 from rfl, show F16.P = 10 from rfl, show F16.I = 31744 from rfl]
  rw [show (-24 + (G S : Int) - -24).toNat = G S by omega]
  omega
theorem FnSterbenz : laws_FnSterbenz.Pure := by
  intro l0 hl hl2 hu
  have hu := u8_of hu
  refine ⟨100, ?_⟩
  unfold laws_FnSterbenz.f
  by_cases cl : (l0.length : Int) > 1048576
  · rw [if_pos cl]
  · rw [if_neg cl]
    obtain ⟨kd, a, b, e1, hkd, ha, hb⟩ := draw_ok hu 100 (by omega)
    unfold spec_DrawFSub.f
    rw [e1]
    simp only [Option.bind_some]
    clear e1
    by_cases c16 : kd = 16
    · subst c16
      have f1 : spec_l4Kind.f 16 = some (F16.x, F16.p, true) := rfl
      have f2 : impl_formatOf.f 16 = some (F16.p, F16.b, true) := rfl
      rw [impl_sub isF16 100 (by omega) 16 a b ha hb f2, spec_sub isF16 100 (by omega) 16 a b ha hb f1]
      simp only [Option.bind_some, if_true]
      rw [exact_ok a ha.1 ha.2, exact_ok b hb.1 hb.2]
      simp only [Option.bind_some]
      have rx := EX_range a ha.1
      have ry := EX_range b hb.1
      by_cases fa : fnt a = true
      · by_cases fb : fnt b = true
        · rw [if_pos fa, if_pos fb]
          simp only [if_true]
          rw [w64 (n := 2 * EX b) (by omega) (by omega), w64 (n := 2 * EX a) (by omega) (by omega), w64 (n := EX a - EX b) (by omega) (by omega)]
          by_cases c1 : EX a ≤ 0
          · rw [if_pos c1]
          · rw [if_neg c1]
            by_cases c2 : EX b ≤ 0
            · rw [if_pos c2]
            · rw [if_neg c2]
              by_cases c3 : EX a > 2 * EX b
              · rw [if_pos c3]
              · rw [if_neg c3]
                by_cases c4 : EX b > 2 * EX a
                · rw [if_pos c4]
                · rw [if_neg c4]
                  have ra := EX_rep a ha.1
                  have rb := EX_rep b hb.1
                  have hrep : Rep (EX a - EX b) := by
                    by_cases c5 : EX b ≤ EX a
                    · exact sterbenz rb ra (by omega) c5 (by omega)
                    · have := rep_neg (sterbenz ra rb (by omega) (by omega) (by omega))
                      rw [show -(EX b - EX a) = EX a - EX b by omega] at this
                      exact this
                  have vb := flip_val b hb.1 hb.2
                  have gb := flip_range isF16 b hb.1 hb.2
                  have rr := add_range isF16 a (flip F16 b)
                  have hsum : EX a + EX (flip F16 b) = EX a - EX b := by rw [vb.1]; omega
                  have fin : fnt (addF F16 a (flip F16 b)) = true := by
                    rcases add_val a (flip F16 b) ha.1 gb.1 fa (by rw [vb.2]; exact fb) with ⟨z, s, e⟩ | ⟨z, e⟩
                    · rw [e]; exact (sg_val s).1
                    · rw [hsum] at z e
                      rw [e]
                      exact (fin_val _ z (rep_mag _ hrep z (by omega))).1
                  have hval := add_R a (flip F16 b) ha.1 gb.1 fa (by rw [vb.2]; exact fb) fin
                  rw [hsum, R_rep hrep] at hval
                  rw [exact_ok _ rr.1 rr.2]
                  simp only [Option.bind_some]
                  rw [if_pos fin]
                  simp only [if_true]
                  rw [hval]
                  simp
        · rw [if_neg fb]
          simp
      · rw [if_neg fa]
        simp
    · have hx : ∀ x, impl_FSub.f 100 kd a b = some x → spec_FSub.f 100 kd a b = some x → (impl_FSub.f 100 kd a b).bind (fun t724 => (spec_FSub.f 100 kd a b).bind fun t725 => (if t724 = t725 then ((laws_exact.f a).bind fun bt726 => ((laws_exact.f b).bind fun bt728 => (if kd = 16 then some false else (some true)))) else (some false))) = some true := by
        intro x h1 h2
        rw [h1, h2, exact_ok a ha.1 ha.2, exact_ok b hb.1 hb.2]
        simp only [Option.bind_some, if_true]
        rw [if_neg c16]
      rcases kinds kd with ⟨F, h, f1, f2⟩ | ⟨f1, f2⟩
      · rw [impl_sub h 100 (by omega) kd a b ha hb f2, spec_sub h 100 (by omega) kd a b ha hb f1, exact_ok a ha.1 ha.2, exact_ok b hb.1 hb.2]
        simp only [Option.bind_some, if_true]
        rw [if_neg c16]
      · have g1 : impl_FSub.f 100 kd a b = some 0 := by unfold impl_FSub.f; rw [f2]; rfl
        have g2 : spec_FSub.f 100 kd a b = some 0 := by unfold spec_FSub.f; rw [f1]; rfl
        rw [g1, g2, exact_ok a ha.1 ha.2, exact_ok b hb.1 hb.2]
        simp only [Option.bind_some, if_true]
        rw [if_neg c16]
end Go.Proofs.Ytdeogandkgiggaa.Pure
