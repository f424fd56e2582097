/- What the readers of a type tell, of the program and of the reference. -/
import Derived.Test.YtlgegdgilkaldaaTm
import Derived.Test.YtlgegdgilkaldaaTp
import Derived.Test.YtlgegdgilkaldaaTf
import Derived.Test.YtlgegdgilkaldaaQx12
import Derived.Test.YtlgegdgilkaldaaQx10
import Derived.Test.YtlgegdgilkaldaaQx17
import Derived.Test.YtlgegdgilkaldaaQx15
namespace Go.Proofs.Ytlgegdgilkaldaa.Ty
open Go.RowKit Go.Proofs.Ytlgegdgilkaldaa.Q Go.Proofs.YtlgegdgilkaldaaW.PrintWords Go.Proofs.YtlgegdgilkaldaaW.PrintLast Go.Proofs.YtlgegdgilkaldaaW.PrintMore Go.Proofs.Ytlgegdgilkaldaa.Mb
set_option linter.unusedSimpArgs false
set_option linter.unusedVariables false
theorem spec_SizeOf (l : List S46) : Ev (fun k => spec_SizeOf.f k l) (if good l = true then ((roomT 9 (tree l)).1, true) else (0, false)) := by
  refine Ev.bind (good_spec l) ?_
  cases hg : good l with
  | false => exact Ev.now _
  | true =>
    simp only [if_true]
    refine Ev.bind (spec_tree l hg) ?_
    refine Ev.bind (room_spec 8 _ (tree_nz l hg)) ?_
    exact Ev.now _
theorem impl_SizeOf (l : List S46) : Ev (fun k => impl_SizeOf.f k l) (if good l = true then ((roomT 9 (tree l)).1, true) else (0, false)) := by
  unfold impl_SizeOf.f
  refine Ev.bind (shape_tree l) ?_
  cases hg : good l with
  | false => exact Ev.now _
  | true => exact Ev.now _
theorem spec_AlignOf (l : List S46) : Ev (fun k => spec_AlignOf.f k l) (if good l = true then ((roomT 9 (tree l)).2, true) else (0, false)) := by
  refine Ev.bind (good_spec l) ?_
  cases hg : good l with
  | false => exact Ev.now _
  | true =>
    simp only [if_true]
    refine Ev.bind (spec_tree l hg) ?_
    refine Ev.bind (room_spec 8 _ (tree_nz l hg)) ?_
    exact Ev.now _
theorem impl_AlignOf (l : List S46) : Ev (fun k => impl_AlignOf.f k l) (if good l = true then ((roomT 9 (tree l)).2, true) else (0, false)) := by
  unfold impl_AlignOf.f
  refine Ev.bind (shape_tree l) ?_
  cases hg : good l with
  | false => exact Ev.now _
  | true => exact Ev.now _
/-- What OffsetsOf tells. -/
def offs (l : List S46) : List Int × Bool := if good l = true ∧ ((tree l).f0 = 14 ∨ chosenB (tree l).f0 = true) then (placesT 8 (tree l), true) else ([], false)
theorem tree_f0 (l : List S46) : (tree l).f0 = (rd_T46 l 0).f0 := tr_kind l 8 0
theorem spec_OffsetsOf (l : List S46) : Ev (fun k => spec_OffsetsOf.f k l) (offs l) := by
  refine Ev.bind (good_spec l) ?_
  have no : Ev (fun k => spec_OffsetsOf.j0 k l true) (([] : List Int), false) := Ev.step (f := fun _ => some ([], false)) (fun k => by simp only [spec_OffsetsOf.j0, if_true]) (Ev.now _)
  unfold offs
  cases hg : good l with
  | false =>
    rw [if_neg (show ¬ (false = true ∧ ((tree l).f0 = 14 ∨ chosenB (tree l).f0 = true)) from fun h => by cases h.1)]
    exact no
  | true =>
    have hl := good_len l hg
    have yes : ((tree l).f0 = 14 ∨ chosenB (tree l).f0 = true) → Ev (fun k => spec_OffsetsOf.j0 k l false) (placesT 8 (tree l), true) := by
      intro hc
      refine Ev.step (f := fun k => (spec_l11Tree.f k l 0).bind fun bt471 => ((spec_l11Places.f k bt471.1 bt471.2.1 bt471.2.2).bind fun t476 => (some (t476, true)))) (fun k => by simp only [spec_OffsetsOf.j0]; rw [if_neg (by decide)]) ?_
      refine Ev.bind (spec_tree l hg) (Ev.bind (places_spec 7 (tree l) (tree_nz l hg) hc) ?_)
      exact Ev.now _
    simp only [if_true, true_and]
    refine Ev.congr (fun k => if_pos (show (0 : Int) < (l.length : Int) by omega)) ?_
    by_cases c : (tree l).f0 = 14
    · rw [if_pos (.inl c)]
      exact Ev.congr (fun k => if_pos (by rw [← tree_f0]; exact c)) (yes (.inl c))
    · refine Ev.congr (fun k => if_neg (by rw [← tree_f0]; exact c)) ?_
      rw [← tree_f0]
      have hn : ∀ x : Int, spec_l11Numbered.f x = some (chosenB x) := by
        intro x
        unfold spec_l11Numbered.f chosenB
        by_cases c1 : x = 15
        · subst c1; rfl
        · rw [if_neg c1]
          by_cases c2 : x = 17
          · subst c2; rfl
          · rw [if_neg c2, beq_eq_false_iff_ne.2 c1, beq_eq_false_iff_ne.2 c2]; rfl
      rw [hn]
      cases hc : chosenB (tree l).f0 with
      | true =>
        rw [if_pos (.inr rfl)]
        exact yes (.inr hc)
      | false =>
        rw [if_neg (fun h => h.elim c (fun h => by cases h))]
        exact no
theorem impl_OffsetsOf (l : List S46) : Ev (fun k => impl_OffsetsOf.f k l) (offs l) := by
  unfold impl_OffsetsOf.f offs
  refine Ev.bind (shape_tree l) ?_
  cases hg : good l with
  | false =>
    rw [if_neg (show ¬ (false = true ∧ ((tree l).f0 = 14 ∨ chosenB (tree l).f0 = true)) from fun h => by cases h.1)]
    exact Ev.now _
  | true =>
    simp only [if_true, true_and]
    by_cases hc : (tree l).f0 = 14 ∨ chosenB (tree l).f0 = true
    · simp only [if_pos hc]
      exact Ev.now _
    · simp only [if_neg hc]
      exact Ev.now _
theorem offs_len (l : List S46) : (offs l).1.length ≤ 1048576 := by
  unfold offs
  split
  · rename_i h
    have := (tree_nz l h.1).2.1
    show (placesT 8 (tree l)).length ≤ 1048576
    rw [places_len]
    omega
  · simp
/-- What FlatOf tells. -/
def fl (l : List S46) : List Int × Bool := if good l = true ∧ ¬ 40 < (flatT 9 (tree l)).length then (flatT 9 (tree l), true) else ([], false)
theorem spec_FlatOf (l : List S46) : Ev (fun k => spec_FlatOf.f k l) (fl l) := by
  refine Ev.bind (good_spec l) ?_
  unfold fl
  cases hg : good l with
  | false =>
    rw [if_neg (show ¬ (false = true ∧ ¬ 40 < (flatT 9 (tree l)).length) from fun h => by cases h.1)]
    exact Ev.now _
  | true =>
    simp only [if_true, true_and]
    refine Ev.bind (spec_tree l hg) ?_
    refine Ev.congr (fun k => ?_) (Ev.now _)
    rw [core_spec _ (tree_nz l hg), Option.bind_some]
    by_cases c : 40 < (flatT 9 (tree l)).length
    · rw [if_pos (show ((flatT 9 (tree l)).length : Int) > 40 by omega), if_neg (fun h => h c)]
    · rw [if_neg (show ¬ ((flatT 9 (tree l)).length : Int) > 40 by omega), if_pos c]
theorem impl_FlatOf (l : List S46) : Ev (fun k => impl_FlatOf.f k l) (fl l) := by
  unfold impl_FlatOf.f fl
  refine Ev.bind (shape_tree l) ?_
  cases hg : good l with
  | false =>
    rw [if_neg (show ¬ (false = true ∧ ¬ 40 < (flatT 9 (tree l)).length) from fun h => by cases h.1)]
    exact Ev.now _
  | true =>
    simp only [if_true, true_and]
    refine Ev.congr (fun k => ?_) (Ev.now _)
    by_cases c : 40 < (flatT 9 (tree l)).length
    · rw [if_pos c, if_neg (fun h => h c)]
    · rw [if_neg c, if_pos c]
theorem fl_len (l : List S46) : (fl l).1.length ≤ 1048576 := by
  unfold fl
  split
  · rename_i h
    have := h.2
    show (flatT 9 (tree l)).length ≤ 1048576
    omega
  · simp
end Go.Proofs.Ytlgegdgilkaldaa.Ty
