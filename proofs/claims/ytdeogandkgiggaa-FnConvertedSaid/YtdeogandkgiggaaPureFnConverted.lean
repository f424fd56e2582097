import Derived.Test.YtdeogandkgiggaaFc
import Derived.Test.YtdeogandkgiggaaPureFnExactFConvert
import Derived.Test.YtdeogandkgiggaaQx51
namespace Go.Proofs.Ytdeogandkgiggaa.Pure
open Go.RowKit Go.Proofs.Ytdeogandkgiggaa.Q Go.Proofs.YtdeogandkgiggaaW.PrintWords Go.Proofs.YtdeogandkgiggaaW.PrintLast Go.Proofs.YtdeogandkgiggaaW.PrintMore Go.Proofs.Ytdeogandkgiggaa.Mb Go.Proofs.Ytdeogandkgiggaa.Fp Go.Proofs.Ytdeogandkgiggaa.Fl Go.Proofs.Ytdeogandkgiggaa.Fr Go.Proofs.Ytdeogandkgiggaa.Fo Go.Proofs.Ytdeogandkgiggaa.Fe Go.Proofs.Ytdeogandkgiggaa.Fc Go.Proofs.Ytdeogandkgiggaa.Cur
set_option linter.unusedSimpArgs false
set_option linter.unusedVariables false
theorem f16_E (b : Int) (h0 : 0 ≤ b) : -24 ≤ opE F16 b ∧ opE F16 b ≤ 5 ∨ opE F16 b = 0 := by
  obtain ⟨r1, r2, r3, r4⟩ := ranges isF16 b h0
  unfold opE
  simp only [F16] at *
  (repeat' split) <;> omega
/-- A half told as a single and back. -/
theorem back (b : Int) (h0 : 0 ≤ b) (h1 : b ≤ 4294967295) : conv F32 F16 (conv F16 F32 b) = conv F16 F16 b := by
  unfold conv
  by_cases cn : opN F16 b = true
  · rw [if_pos cn, if_pos cn, open_nan isF32, if_pos rfl]
  · rw [if_neg cn, if_neg cn]
    by_cases ci : opI F16 b = true
    · rw [if_pos ci, if_pos ci]
      obtain ⟨i1, i2, i3⟩ := open_inf isF32 (opS F16 b)
      rw [i1, i2, i3, if_neg (by decide), if_pos rfl]
    · rw [if_neg ci, if_neg ci]
      have hm := (opM_lt isF16 b h0).1
      have he := f16_E b h0
      generalize opS F16 b = s, opM F16 b = m, opE F16 b = e at *
      by_cases z : m = 0
      · subst z
        obtain ⟨z1, z2, z3, z4, z5⟩ := open_zero isF32 s
        rw [fin_zero, fin_zero, z1, z2, z3, z4, z5, if_neg (by decide), if_neg (by decide), fin_zero]
      · have hb := bl_le hm
        have hb' : bl m ≤ 11 := hb
        have hl : low F32.P F32.L m e ≤ e ∧ F32.L ≤ low F32.P F32.L m e := by
          unfold low
          simp only [F32]
          omega
        have hkv := kv_left hl.1
        have hk := (kv_bounds (p := F32.P) (L := F32.L) (e := e) z).1
        have hmag : mag F32.P F32.L m e < F32.I := by
          rw [mag_kv]
          have h2 : (low F32.P F32.L m e - F32.L).toNat ≤ 154 := by
            have : F32.L = -149 := rfl
            omega
          have h3 : (low F32.P F32.L m e - F32.L).toNat * 2 ^ F32.P ≤ 154 * 2 ^ F32.P := Nat.mul_le_mul_right _ h2
          have h4 : (2 : Nat) ^ F32.P = 8388608 := by decide
          have h5 : (2 : Nat) ^ (F32.P + 1) = 16777216 := by decide
          have h6 : F32.I = 2139095040 := rfl
          omega
        obtain ⟨o1, o2, o3, c, hc, o4, o5⟩ := open_fin isF32 s m e z hmag
        rw [o1, o2, o3, o4, if_neg (by decide), if_neg (by decide)]
        generalize opM F32 (fin F32 s m e) = m' at *
        rw [hkv] at o5
        -- m' 2^(low + c) = m 2^e
        have s1 := rb_scale F16.P F16.L F16.I m' (low F32.P F32.L m e + c) c
        have s2 := rb_scale F16.P F16.L F16.I m e (e - low F32.P F32.L m e).toNat
        rw [o5] at s1
        rw [show e - (((e - low F32.P F32.L m e).toNat : Nat) : Int) = low F32.P F32.L m e by omega] at s2
        rw [show low F32.P F32.L m e + (c : Int) - (c : Int) = low F32.P F32.L m e by omega] at s1
        unfold fin
        rw [← s1, ← s2]
theorem FnConverted : laws_FnConverted.Pure := by
  intro l0 hl hl2 hu
  have hu := u8_of hu
  refine ⟨100, ?_⟩
  unfold laws_FnConverted.f
  by_cases cl : (l0.length : Int) > 1048576
  · rw [if_pos cl]
  · rw [if_neg cl]
    unfold spec_DrawFConvert.f
    obtain ⟨p, a1, s1, e1, hp, ha1, hb1⟩ := kind_ok hu (a := 0) (by omega) (by omega) 0
    rw [e1]
    simp only [Option.bind_some]
    obtain ⟨q, a2, s2, e2, hq, ha2, hb2⟩ := kind_ok hu (a := a1) (by omega) (by omega) s1
    rw [e2]
    simp only [Option.bind_some]
    obtain ⟨x, a3, s3, e3, hx, ha3, hb3⟩ := float_ok hu (a := a2) (by omega) (by omega) s2 p (k := 100) (by omega)
    rw [e3]
    simp only [Option.bind_some]
    clear e1 e2 e3
    have h64 : spec_l4Kind.f 64 = some (0, 0, false) ∧ impl_formatOf.f 64 = some (0, 0, false) := by constructor <;> rfl
    have h16 : spec_l4Kind.f 16 = some (F16.x, F16.p, true) ∧ impl_formatOf.f 16 = some (F16.p, F16.b, true) := by constructor <;> rfl
    have h32 : spec_l4Kind.f 32 = some (F32.x, F32.p, true) ∧ impl_formatOf.f 32 = some (F32.p, F32.b, true) := by constructor <;> rfl
    rcases hp with rfl | rfl | rfl
    · rcases hq with rfl | rfl | rfl
      · rw [impl_conv isF16 isF16 100 (by omega) 16 16 x hx.1 hx.2 h16.2 h16.2, spec_conv isF16 isF16 100 (by omega) 16 16 x hx.1 hx.2 h16.1 h16.1]
        simp [laws_FnConverted.j0]
      · rw [impl_conv isF16 isF32 100 (by omega) 16 32 x hx.1 hx.2 h16.2 h32.2, spec_conv isF16 isF32 100 (by omega) 16 32 x hx.1 hx.2 h16.1 h32.1]
        simp only [Option.bind_some, if_true]
        rw [show ((32 : Int) != 32) = false from rfl]
        simp only [laws_FnConverted.j0]
        have hr : 0 ≤ conv F16 F32 x ∧ conv F16 F32 x ≤ 4294967295 := by
          unfold conv
          split
          · rw [show nan F32 = 2143289344 from rfl]; omega
          · split
            · unfold inf sg
              rw [show F32.C = 2147483648 from rfl, show F32.I = 2139095040 from rfl]
              split <;> omega
            · exact fin_range isF32 _ _ _
        rw [if_neg (by decide), impl_conv isF16 isF16 99 (by omega) 16 16 x hx.1 hx.2 h16.2 h16.2, impl_conv isF32 isF16 99 (by omega) 32 16 _ hr.1 hr.2 h32.2 h16.2]
        simp only [Option.bind_some]
        unfold impl_FloatParts.f
        rw [h16.2]
        simp only [Option.bind_some, if_true]
        have hio : impl_format_open.f F16.p F16.b x = _ := impl_open isF16 x hx.1 hx.2
        rw [hio]
        simp only [Option.bind_some]
        by_cases cn : opN F16 x = true
        · rw [if_pos cn]
          simp only [Option.bind_some]
          rw [if_pos (back x hx.1 hx.2), if_neg (by decide)]
        · rw [if_neg cn]
          by_cases ci : opI F16 x = true
          · rw [if_pos ci]
            simp only [Option.bind_some]
            rw [if_pos (back x hx.1 hx.2), if_neg (by decide)]
          · rw [if_neg ci]
            simp only [Option.bind_some]
            rw [if_pos (back x hx.1 hx.2), if_pos trivial]
            have e16 : conv F16 F16 x = x % 65536 := by
              unfold conv
              rw [if_neg cn, if_neg ci]
              exact fin_self isF16 x hx.1 (Bool.eq_false_iff.2 ci) (Bool.eq_false_iff.2 cn)
            have m16 : Go.bits .and .u32 x 65535 = x % 65536 := u32_mask 16 (by decide) x hx.1 (by omega)
            rw [e16, m16]
            simp
      · rw [impl_conv_bad 99 _ _ _ (Or.inr h64.2), spec_conv_bad 99 _ _ _ (Or.inr h64.1)]
        simp [laws_FnConverted.j0]
    · rcases hq with rfl | rfl | rfl
      · rw [impl_conv isF32 isF16 100 (by omega) 32 16 x hx.1 hx.2 h32.2 h16.2, spec_conv isF32 isF16 100 (by omega) 32 16 x hx.1 hx.2 h32.1 h16.1]
        simp [laws_FnConverted.j0]
      · rw [impl_conv isF32 isF32 100 (by omega) 32 32 x hx.1 hx.2 h32.2 h32.2, spec_conv isF32 isF32 100 (by omega) 32 32 x hx.1 hx.2 h32.1 h32.1]
        simp [laws_FnConverted.j0]
      · rw [impl_conv_bad 99 _ _ _ (Or.inr h64.2), spec_conv_bad 99 _ _ _ (Or.inr h64.1)]
        simp [laws_FnConverted.j0]
    · rw [impl_conv_bad 99 _ _ _ (Or.inl h64.2), spec_conv_bad 99 _ _ _ (Or.inl h64.1)]
      simp [laws_FnConverted.j0]
end Go.Proofs.Ytdeogandkgiggaa.Pure
