import Derived.Test.YtdeogandkgiggaaFo
import Derived.Test.YtdeogandkgiggaaQx13
namespace Go.Proofs.Ytdeogandkgiggaa.Pure
open Go.RowKit Go.Proofs.Ytdeogandkgiggaa.Q Go.Proofs.YtdeogandkgiggaaW.PrintWords Go.Proofs.YtdeogandkgiggaaW.PrintLast Go.Proofs.YtdeogandkgiggaaW.PrintMore Go.Proofs.Ytdeogandkgiggaa.Mb Go.Proofs.Ytdeogandkgiggaa.Fp Go.Proofs.Ytdeogandkgiggaa.Fl Go.Proofs.Ytdeogandkgiggaa.Fr Go.Proofs.Ytdeogandkgiggaa.Fo
set_option linter.unusedSimpArgs false
/-- What is told of a float of kind F in kind G. -/
def conv (F G : Fm) (b : Int) : Int := if opN F b = true then nan G else if opI F b = true then inf G (opS F b) else fin G (opS F b) (opM F b) (opE F b)
theorem spec_conv {F G : Fm} (hF : IsF F) (hG : IsF G) (k : Nat) (hk : 71 ≤ k) (a0 a1 b : Int) (h0 : 0 ≤ b) (h1 : b ≤ 4294967295) (e0 : spec_l4Kind.f a0 = some (F.x, F.p, true)) (e1 : spec_l4Kind.f a1 = some (G.x, G.p, true)) : spec_FConvert.f k a0 a1 b = some (conv F G b) := by
  obtain ⟨k, rfl⟩ : ∃ j, k = j + 1 := ⟨k - 1, by omega⟩
  have m := (opM_lt hF b h0).2
  have e := opE_range hF b h0
  unfold spec_FConvert.f
  rw [e0, e1]
  simp only [Option.bind_some, if_true, Bool.not_true, spec_FConvert.j0]
  rw [if_neg (by decide), spec_open hF b h0 h1]
  simp only [Option.bind_some]
  rw [nan_F hG, inf_F hG, spec_exact hG k (by omega) _ _ _ (by omega) (by omega) (by omega)]
  unfold conv
  simp only [Option.bind_some]
  split
  · rfl
  · split <;> rfl
theorem impl_conv {F G : Fm} (hF : IsF F) (hG : IsF G) (k : Nat) (hk : 71 ≤ k) (a0 a1 b : Int) (h0 : 0 ≤ b) (h1 : b ≤ 4294967295) (e0 : impl_formatOf.f a0 = some (F.p, F.b, true)) (e1 : impl_formatOf.f a1 = some (G.p, G.b, true)) : impl_FConvert.f k a0 a1 b = some (conv F G b) := by
  obtain ⟨k, rfl⟩ : ∃ j, k = j + 1 := ⟨k - 1, by omega⟩
  have m := (opM_lt hF b h0).2
  have e := opE_range hF b h0
  unfold impl_FConvert.f
  rw [e0, e1]
  simp only [Option.bind_some, if_true, Bool.not_true, impl_FConvert.j0]
  rw [if_neg (by decide), impl_open hF b h0 h1]
  simp only [Option.bind_some]
  rw [inan_F hG, iinf_F hG, impl_exact hG k (by omega) _ _ _ (by omega) (by omega) (by omega)]
  unfold conv
  simp only [Option.bind_some]
  split
  · rfl
  · split <;> rfl
theorem spec_conv_bad (k : Nat) (a0 a1 b : Int) (e : spec_l4Kind.f a0 = some (0, 0, false) ∨ spec_l4Kind.f a1 = some (0, 0, false)) : spec_FConvert.f (k + 1) a0 a1 b = some 0 := by
  unfold spec_FConvert.f
  rcases kinds a0 with ⟨F, hF, f1, f2⟩ | ⟨f1, f2⟩ <;> rcases kinds a1 with ⟨G, hG, g1, g2⟩ | ⟨g1, g2⟩
  · rw [f1, g1] at e
    rcases e with e | e <;> simp at e
  all_goals (rw [f1, g1]; simp [spec_FConvert.j0])
theorem impl_conv_bad (k : Nat) (a0 a1 b : Int) (e : impl_formatOf.f a0 = some (0, 0, false) ∨ impl_formatOf.f a1 = some (0, 0, false)) : impl_FConvert.f (k + 1) a0 a1 b = some 0 := by
  unfold impl_FConvert.f
  rcases kinds a0 with ⟨F, hF, f1, f2⟩ | ⟨f1, f2⟩ <;> rcases kinds a1 with ⟨G, hG, g1, g2⟩ | ⟨g1, g2⟩
  · rw [f2, g2] at e
    rcases e with e | e <;> simp at e
  all_goals (rw [f2, g2]; simp [impl_FConvert.j0])
theorem FnExactFConvert : laws_FnExactFConvert.Pure := by
  intro a0 a1 a2 h0 h1 h2
  refine ⟨71, ?_⟩
  have h := wf_u32 h2
  unfold laws_FnExactFConvert.f
  rcases kinds a0 with ⟨F, hF, f1, f2⟩ | ⟨f1, f2⟩
  · rcases kinds a1 with ⟨G, hG, g1, g2⟩ | ⟨g1, g2⟩
    · rw [spec_conv hF hG 71 (by omega) a0 a1 a2 h.1 h.2 f1 g1, impl_conv hF hG 71 (by omega) a0 a1 a2 h.1 h.2 f2 g2]
      simp
    · rw [spec_conv_bad 70 _ _ _ (Or.inr g1), impl_conv_bad 70 _ _ _ (Or.inr g2)]
      simp
  · rw [spec_conv_bad 70 _ _ _ (Or.inl f1), impl_conv_bad 70 _ _ _ (Or.inl f2)]
    simp
end Go.Proofs.Ytdeogandkgiggaa.Pure
