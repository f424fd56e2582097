/- OffsetsOf of the program and of the reference tell the same, whatever the nodes. -/
import Derived.Test.YtlgegdgilkaldaaTp
import Derived.Test.YtlgegdgilkaldaaTi
import Derived.Test.YtlgegdgilkaldaaQx13
namespace Go.Proofs.Ytlgegdgilkaldaa.Pure
open Go.RowKit Go.Proofs.Ytlgegdgilkaldaa.Q Go.Proofs.YtlgegdgilkaldaaW.PrintWords Go.Proofs.YtlgegdgilkaldaaW.PrintLast Go.Proofs.YtlgegdgilkaldaaW.PrintMore Go.Proofs.Ytlgegdgilkaldaa.Mb Go.Proofs.Ytlgegdgilkaldaa.Ty
set_option linter.unusedSimpArgs false
set_option linter.unusedVariables false
/-- What OffsetsOf tells. -/
def offs (l : List S46) : List Int × Bool := if good l = true ∧ ((tree l).f0 = 14 ∨ chosenB (tree l).f0 = true) then (placesT 8 (tree l), true) else ([], false)
theorem tree_f0 (l : List S46) : (tree l).f0 = (rd_T46 l 0).f0 := tr_kind l 8 0
theorem spec_OffsetsOf (l : List S46) : Ev (fun k => spec_OffsetsOf.f k l) (offs l) := by
  refine Ev.bind (good_spec l) ?_
  have no : Ev (fun k => spec_OffsetsOf.j0 k l true) (([] : List Int), false) := Ev.step (f := fun _ => some ([], false)) (fun k => by simp only [spec_OffsetsOf.j0, if_true]) (Ev.now _)
  unfold offs
  cases hg : good l with
  | false =>
    rw [if_neg (show ¬ (false = true ∧ ((tree l).f0 = 14 ∨ chosenB (tree l).f0 = true)) from fun h => by cases h.1)]
    exact no
  | true =>
    have hl := good_len l hg
    have yes : ((tree l).f0 = 14 ∨ chosenB (tree l).f0 = true) → Ev (fun k => spec_OffsetsOf.j0 k l false) (placesT 8 (tree l), true) := by
      intro hc
      refine Ev.step (f := fun k => (spec_l11Tree.f k l 0).bind fun bt471 => ((spec_l11Places.f k bt471.1 bt471.2.1 bt471.2.2).bind fun t476 => (some (t476, true)))) (fun k => by simp only [spec_OffsetsOf.j0]; rw [if_neg (by decide)]) ?_
      refine Ev.bind (spec_tree l hg) (Ev.bind (places_spec 7 (tree l) (tree_nz l hg) hc) ?_)
      exact Ev.now _
    simp only [if_true, true_and]
    refine Ev.congr (fun k => if_pos (show (0 : Int) < (l.length : Int) by omega)) ?_
    by_cases c : (tree l).f0 = 14
    · rw [if_pos (.inl c)]
      exact Ev.congr (fun k => if_pos (by rw [← tree_f0]; exact c)) (yes (.inl c))
    · refine Ev.congr (fun k => if_neg (by rw [← tree_f0]; exact c)) ?_
      rw [← tree_f0]
      have hn : ∀ x : Int, spec_l11Numbered.f x = some (chosenB x) := by
        intro x
        unfold spec_l11Numbered.f chosenB
        by_cases c1 : x = 15
        · subst c1; rfl
        · rw [if_neg c1]
          by_cases c2 : x = 17
          · subst c2; rfl
          · rw [if_neg c2, beq_eq_false_iff_ne.2 c1, beq_eq_false_iff_ne.2 c2]; rfl
      rw [hn]
      cases hc : chosenB (tree l).f0 with
      | true =>
        rw [if_pos (.inr rfl)]
        exact yes (.inr hc)
      | false =>
        rw [if_neg (fun h => h.elim c (fun h => by cases h))]
        exact no
theorem impl_OffsetsOf (l : List S46) : Ev (fun k => impl_OffsetsOf.f k l) (offs l) := by
  unfold impl_OffsetsOf.f offs
  refine Ev.bind (shape_tree l) ?_
  cases hg : good l with
  | false =>
    rw [if_neg (show ¬ (false = true ∧ ((tree l).f0 = 14 ∨ chosenB (tree l).f0 = true)) from fun h => by cases h.1)]
    exact Ev.now _
  | true =>
    simp only [if_true, true_and]
    by_cases hc : (tree l).f0 = 14 ∨ chosenB (tree l).f0 = true
    · simp only [if_pos hc]
      exact Ev.now _
    · simp only [if_neg hc]
      exact Ev.now _
theorem offs_len (l : List S46) : (offs l).1.length ≤ 1048576 := by
  unfold offs
  split
  · rename_i h
    have := (tree_nz l h.1).2.1
    show (placesT 8 (tree l)).length ≤ 1048576
    rw [places_len]
    omega
  · simp
theorem FnExactOffsetsOf : laws_FnExactOffsetsOf.Pure := by
  intro l0 h0
  refine Ev.rounds ?_
  rcases sz_ok l0 h0.1 with h | ⟨hl, x, h, hx⟩
  · refine Ev.congr (fun k => ?_) (Ev.now true)
    unfold laws_FnExactOffsetsOf.f
    rw [h, Option.bind_some, if_pos (by decide)]
  · have hlm : (l0.map cv).length ≤ 1048576 := by simpa using hl
    refine Ev.congr (fun k => by unfold laws_FnExactOffsetsOf.f; rw [h, Option.bind_some, if_neg (by omega)]) ?_
    refine Ev.bind (to_ok l0 hl) (Ev.bind (spec_OffsetsOf (l0.map cv)) (Ev.bind (to_ok l0 hl) (Ev.bind (impl_OffsetsOf (l0.map cv)) ?_)))
    have hlen := offs_len (l0.map cv)
    have him := impl_OffsetsOf (l0.map cv)
    generalize offs (l0.map cv) = r at hlen him ⊢
    obtain ⟨p, b⟩ := r
    simp only at hlen him ⊢
    have j2 : Ev (fun k => laws_FnExactOffsetsOf.j2 k (cnt p.length) ((p.length + 1 : Nat) : Int) false) true := by
      refine Ev.step (f := fun k => (laws_heldIntS.f k (cnt p.length) 1).bind fun t513 => (if t513 < 0 then (some false) else (if t513 = ((p.length + 1 : Nat) : Int) then (some true) else (some false)))) (fun k => by simp only [laws_FnExactOffsetsOf.j2]; rw [if_neg (by decide)]) ?_
      refine Ev.bind (heldI_ok p.length hlen) ?_
      exact Ev.congr (fun k => by rw [if_neg (by omega), if_pos rfl]) (Ev.now true)
    have j1 : Ev (fun k => laws_FnExactOffsetsOf.j1 k l0 p b p false) true := by
      refine Ev.step (fun k => by simp only [laws_FnExactOffsetsOf.j1]; rw [if_neg (by decide)]) ?_
      refine Ev.bind (markI_ok p hlen) (Ev.bind (heldI_ok p.length hlen) ?_)
      refine Ev.congr (fun k => by rw [if_neg (by omega), if_pos rfl]) ?_
      refine Ev.bind (to_ok l0 hl) (Ev.bind him (Ev.bind (eqI_ok p hlen) ?_))
      refine Ev.congr (fun k => ?_) j2
      simp
    have j0 : Ev (fun k => laws_FnExactOffsetsOf.j0 k l0 p b (l0.map cv) p b false) true := by
      refine Ev.step (fun k => by simp only [laws_FnExactOffsetsOf.j0]; rw [if_neg (by decide)]) ?_
      obtain ⟨q, hq, hq0⟩ := markT_ok (l0.map cv) hlm
      refine Ev.bind (to_ok l0 hl) (Ev.bind (eqT_ok _ hlm) ?_)
      refine Ev.congr (fun k => if_pos rfl) (Ev.bind hq ?_)
      refine Ev.congr (fun k => if_neg (by omega)) (Ev.bind (eqI_ok p hlen) ?_)
      refine Ev.congr (fun k => ?_) j1
      simp
    refine Ev.bind (eqI_ok p hlen) ?_
    refine Ev.congr (fun k => ?_) j0
    simp
end Go.Proofs.Ytlgegdgilkaldaa.Pure
