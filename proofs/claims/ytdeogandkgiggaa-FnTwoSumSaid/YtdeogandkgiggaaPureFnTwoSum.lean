import Derived.Test.YtdeogandkgiggaaFw
import Derived.Test.YtdeogandkgiggaaQx18
namespace Go.Proofs.Ytdeogandkgiggaa.Pure
open Go.RowKit Go.Proofs.Ytdeogandkgiggaa.Q Go.Proofs.YtdeogandkgiggaaW.PrintWords Go.Proofs.YtdeogandkgiggaaW.PrintLast Go.Proofs.YtdeogandkgiggaaW.PrintMore Go.Proofs.Ytdeogandkgiggaa.Mb Go.Proofs.Ytdeogandkgiggaa.Fp Go.Proofs.Ytdeogandkgiggaa.Fl Go.Proofs.Ytdeogandkgiggaa.Fr Go.Proofs.Ytdeogandkgiggaa.Fo Go.Proofs.Ytdeogandkgiggaa.Fe Go.Proofs.Ytdeogandkgiggaa.Fc Go.Proofs.Ytdeogandkgiggaa.Fx Go.Proofs.Ytdeogandkgiggaa.Fs Go.Proofs.Ytdeogandkgiggaa.Fz Go.Proofs.Ytdeogandkgiggaa.Fw Go.Proofs.Ytdeogandkgiggaa.Fb Go.Proofs.Ytdeogandkgiggaa.Cur
set_option linter.unusedSimpArgs false
set_option linter.unusedVariables false
theorem two_sum_halves (a b : Int) (ha : 0 ≤ a ∧ a ≤ 4294967295) (hb : 0 ≤ b ∧ b ≤ 4294967295) (fa : fnt a = true) (fb : fnt b = true) (s b1 a1 da db e : Int) (hs : s = addF F16 a b) (hb1 : b1 = addF F16 s (flip F16 a)) (ha1 : a1 = addF F16 s (flip F16 b1)) (hda : da = addF F16 a (flip F16 a1)) (hdb : db = addF F16 b (flip F16 b1)) (he : e = addF F16 da db)
    (fs : fnt s = true) (fe : fnt e = true) : EX a + EX b = EX s + EX e := by
  have rs : 0 ≤ s ∧ s ≤ 4294967295 := by rw [hs]; exact add_range isF16 _ _
  have rb1 : 0 ≤ b1 ∧ b1 ≤ 4294967295 := by rw [hb1]; exact add_range isF16 _ _
  have ra1 : 0 ≤ a1 ∧ a1 ≤ 4294967295 := by rw [ha1]; exact add_range isF16 _ _
  have rda : 0 ≤ da ∧ da ≤ 4294967295 := by rw [hda]; exact add_range isF16 _ _
  have rdb : 0 ≤ db ∧ db ≤ 4294967295 := by rw [hdb]; exact add_range isF16 _ _
  have f1 := add_fnt da db (by rw [← he]; exact fe)
  have f2 := add_fnt a (flip F16 a1) (by rw [← hda]; exact f1.1)
  have fa1 : fnt a1 = true := by rw [← (flip_val a1 ra1.1 ra1.2).2]; exact f2.2
  have f3 := add_fnt s (flip F16 b1) (by rw [← ha1]; exact fa1)
  have fb1 : fnt b1 = true := by rw [← (flip_val b1 rb1.1 rb1.2).2]; exact f3.2
  have va := flip_val a ha.1 ha.2
  have va1 := flip_val a1 ra1.1 ra1.2
  have vb1 := flip_val b1 rb1.1 rb1.2
  have ga := flip_range isF16 a ha.1 ha.2
  have ga1 := flip_range isF16 a1 ra1.1 ra1.2
  have gb1 := flip_range isF16 b1 rb1.1 rb1.2
  have x1 : EX s = R (EX a + EX b) := by rw [hs]; exact add_R a b ha.1 hb.1 fa fb (by rw [← hs]; exact fs)
  have x2 : EX b1 = R (EX s - EX a) := by
    rw [hb1, add_R s (flip F16 a) rs.1 ga.1 fs (by rw [va.2]; exact fa) (by rw [← hb1]; exact fb1), va.1]
    rfl
  have x3 : EX a1 = R (EX s - EX b1) := by
    rw [ha1, add_R s (flip F16 b1) rs.1 gb1.1 fs (by rw [vb1.2]; exact fb1) (by rw [← ha1]; exact fa1), vb1.1]
    rfl
  have x4 : EX da = R (EX a - EX a1) := by
    rw [hda, add_R a (flip F16 a1) ha.1 ga1.1 fa (by rw [va1.2]; exact fa1) (by rw [← hda]; exact f1.1), va1.1]
    rfl
  have x5 : EX db = R (EX b - EX b1) := by
    rw [hdb, add_R b (flip F16 b1) hb.1 gb1.1 fb (by rw [vb1.2]; exact fb1) (by rw [← hdb]; exact f1.2), vb1.1]
    rfl
  have x6 : EX e = R (EX da + EX db) := by rw [he]; exact add_R da db rda.1 rdb.1 f1.1 f1.2 (by rw [← he]; exact fe)
  have := two_sum (EX_rep a ha.1) (EX_rep b hb.1) x1 x2 x3 x4 x5
  rw [x6, this]
  omega
theorem add_bad (k : Nat) (a0 a b : Int) (f1 : spec_l4Kind.f a0 = some (0, 0, false)) (f2 : impl_formatOf.f a0 = some (0, 0, false)) : impl_FAdd.f k a0 a b = some 0 ∧ spec_FAdd.f k a0 a b = some 0 := by
  unfold impl_FAdd.f spec_FAdd.f
  rw [f1, f2]
  exact ⟨rfl, rfl⟩
theorem FnTwoSum : laws_FnTwoSum.Pure := by
  intro l0 hl hl2 hu
  have hu := u8_of hu
  refine ⟨100, ?_⟩
  unfold laws_FnTwoSum.f
  by_cases cl : (l0.length : Int) > 1048576
  · rw [if_pos cl]
  · rw [if_neg cl]
    obtain ⟨kd, a, b, e1, hkd, ha, hb⟩ := draw_ok hu 100 (by omega)
    unfold spec_DrawFSub.f
    rw [e1]
    simp only [Option.bind_some]
    clear e1
    by_cases c16 : kd = 16
    · subst c16
      have f1 : spec_l4Kind.f 16 = some (F16.x, F16.p, true) := rfl
      have f2 : impl_formatOf.f 16 = some (F16.p, F16.b, true) := rfl
      have add : ∀ x y : Int, 0 ≤ x ∧ x ≤ 4294967295 → 0 ≤ y ∧ y ≤ 4294967295 → impl_FAdd.f 100 16 x y = some (addF F16 x y) := fun x y hx hy => impl_add isF16 100 (by omega) 16 x y hx hy f2
      have sub : ∀ x y : Int, 0 ≤ x ∧ x ≤ 4294967295 → 0 ≤ y ∧ y ≤ 4294967295 → impl_FSub.f 100 16 x y = some (addF F16 x (flip F16 y)) := fun x y hx hy => impl_sub isF16 100 (by omega) 16 x y hx hy f2
      rw [add a b ha hb, spec_add isF16 100 (by omega) 16 a b ha hb f1]
      simp only [Option.bind_some, if_true]
      have rs := add_range isF16 a b
      obtain ⟨s, hs⟩ : ∃ s, addF F16 a b = s := ⟨_, rfl⟩
      rw [hs] at rs ⊢
      rw [sub s a rs ha]
      simp only [Option.bind_some]
      have rb1 := add_range isF16 s (flip F16 a)
      obtain ⟨b1, hb1⟩ : ∃ x, addF F16 s (flip F16 a) = x := ⟨_, rfl⟩
      rw [hb1] at rb1 ⊢
      rw [sub s b1 rs rb1]
      simp only [Option.bind_some]
      have ra1 := add_range isF16 s (flip F16 b1)
      obtain ⟨a1, ha1⟩ : ∃ x, addF F16 s (flip F16 b1) = x := ⟨_, rfl⟩
      rw [ha1] at ra1 ⊢
      rw [sub a a1 ha ra1]
      simp only [Option.bind_some]
      have rda := add_range isF16 a (flip F16 a1)
      obtain ⟨da, hda⟩ : ∃ x, addF F16 a (flip F16 a1) = x := ⟨_, rfl⟩
      rw [hda] at rda ⊢
      rw [sub b b1 hb rb1]
      simp only [Option.bind_some]
      have rdb := add_range isF16 b (flip F16 b1)
      obtain ⟨db, hdb⟩ : ∃ x, addF F16 b (flip F16 b1) = x := ⟨_, rfl⟩
      rw [hdb] at rdb ⊢
      rw [add da db rda rdb]
      simp only [Option.bind_some]
      have re := add_range isF16 da db
      obtain ⟨e, he⟩ : ∃ x, addF F16 da db = x := ⟨_, rfl⟩
      rw [he] at re ⊢
      rw [exact_ok a ha.1 ha.2, exact_ok b hb.1 hb.2, exact_ok s rs.1 rs.2, exact_ok e re.1 re.2]
      simp only [Option.bind_some]
      by_cases fa : fnt a = true
      · by_cases fb : fnt b = true
        · by_cases fs : fnt s = true
          · by_cases fe : fnt e = true
            · have key := two_sum_halves a b ha hb fa fb s b1 a1 da db e hs.symm hb1.symm ha1.symm hda.symm hdb.symm he.symm fs fe
              rw [if_pos fa, if_pos fb, if_pos fs, if_pos fe]
              simp only [if_true]
              rw [key]
              simp
            · rw [if_neg fe]
              simp
          · rw [if_neg fs]
            simp
        · rw [if_neg fb]
          simp
      · rw [if_neg fa]
        simp
    · rcases kinds kd with ⟨F, h, f1, f2⟩ | ⟨f1, f2⟩
      · rw [impl_add h 100 (by omega) kd a b ha hb f2, spec_add h 100 (by omega) kd a b ha hb f1]
        simp only [Option.bind_some, if_true]
        rw [if_neg c16]
      · rw [(add_bad 100 kd a b f1 f2).1, (add_bad 100 kd a b f1 f2).2]
        simp only [Option.bind_some, if_true]
        rw [if_neg c16]
end Go.Proofs.Ytdeogandkgiggaa.Pure
