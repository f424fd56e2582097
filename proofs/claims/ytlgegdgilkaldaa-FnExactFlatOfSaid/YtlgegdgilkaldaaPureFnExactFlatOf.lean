/- FlatOf of the program and of the reference tell the same, whatever the nodes. -/
import Derived.Test.YtlgegdgilkaldaaTf
import Derived.Test.YtlgegdgilkaldaaTl
import Derived.Test.YtlgegdgilkaldaaTi
import Derived.Test.YtlgegdgilkaldaaQx12
namespace Go.Proofs.Ytlgegdgilkaldaa.Pure
open Go.RowKit Go.Proofs.Ytlgegdgilkaldaa.Q Go.Proofs.YtlgegdgilkaldaaW.PrintWords Go.Proofs.YtlgegdgilkaldaaW.PrintLast Go.Proofs.YtlgegdgilkaldaaW.PrintMore Go.Proofs.Ytlgegdgilkaldaa.Mb Go.Proofs.Ytlgegdgilkaldaa.Ty
set_option linter.unusedSimpArgs false
set_option linter.unusedVariables false
/-- What FlatOf tells. -/
def fl (l : List S46) : List Int × Bool := if good l = true ∧ ¬ 40 < (flatT 9 (tree l)).length then (flatT 9 (tree l), true) else ([], false)
theorem spec_FlatOf (l : List S46) : Ev (fun k => spec_FlatOf.f k l) (fl l) := by
  refine Ev.bind (good_spec l) ?_
  unfold fl
  cases hg : good l with
  | false =>
    rw [if_neg (show ¬ (false = true ∧ ¬ 40 < (flatT 9 (tree l)).length) from fun h => by cases h.1)]
    exact Ev.now _
  | true =>
    simp only [if_true, true_and]
    refine Ev.bind (spec_tree l hg) ?_
    refine Ev.congr (fun k => ?_) (Ev.now _)
    rw [core_spec _ (tree_nz l hg), Option.bind_some]
    by_cases c : 40 < (flatT 9 (tree l)).length
    · rw [if_pos (show ((flatT 9 (tree l)).length : Int) > 40 by omega), if_neg (fun h => h c)]
    · rw [if_neg (show ¬ ((flatT 9 (tree l)).length : Int) > 40 by omega), if_pos c]
theorem impl_FlatOf (l : List S46) : Ev (fun k => impl_FlatOf.f k l) (fl l) := by
  unfold impl_FlatOf.f fl
  refine Ev.bind (shape_tree l) ?_
  cases hg : good l with
  | false =>
    rw [if_neg (show ¬ (false = true ∧ ¬ 40 < (flatT 9 (tree l)).length) from fun h => by cases h.1)]
    exact Ev.now _
  | true =>
    simp only [if_true, true_and]
    refine Ev.congr (fun k => ?_) (Ev.now _)
    by_cases c : 40 < (flatT 9 (tree l)).length
    · rw [if_pos c, if_neg (fun h => h c)]
    · rw [if_neg c, if_pos c]
theorem fl_len (l : List S46) : (fl l).1.length ≤ 1048576 := by
  unfold fl
  split
  · rename_i h
    have := h.2
    show (flatT 9 (tree l)).length ≤ 1048576
    omega
  · simp
theorem FnExactFlatOf : laws_FnExactFlatOf.Pure := by
  intro l0 h0
  refine Ev.rounds ?_
  rcases sz_ok l0 h0.1 with h | ⟨hl, x, h, hx⟩
  · refine Ev.congr (fun k => ?_) (Ev.now true)
    unfold laws_FnExactFlatOf.f
    rw [h, Option.bind_some, if_pos (by decide)]
  · have hlm : (l0.map cv).length ≤ 1048576 := by simpa using hl
    refine Ev.congr (fun k => by unfold laws_FnExactFlatOf.f; rw [h, Option.bind_some, if_neg (by omega)]) ?_
    refine Ev.bind (to_ok l0 hl) (Ev.bind (spec_FlatOf (l0.map cv)) (Ev.bind (to_ok l0 hl) (Ev.bind (impl_FlatOf (l0.map cv)) ?_)))
    have hlen := fl_len (l0.map cv)
    have him := impl_FlatOf (l0.map cv)
    generalize fl (l0.map cv) = r at hlen him ⊢
    obtain ⟨p, b⟩ := r
    simp only at hlen him ⊢
    have j2 : Ev (fun k => laws_FnExactFlatOf.j2 k (cnt p.length) ((p.length + 1 : Nat) : Int) false) true := by
      refine Ev.step (f := fun k => (laws_heldIntS.f k (cnt p.length) 1).bind fun t513 => (if t513 < 0 then (some false) else (if t513 = ((p.length + 1 : Nat) : Int) then (some true) else (some false)))) (fun k => by simp only [laws_FnExactFlatOf.j2]; rw [if_neg (by decide)]) ?_
      refine Ev.bind (heldI_ok p.length hlen) ?_
      exact Ev.congr (fun k => by rw [if_neg (by omega), if_pos rfl]) (Ev.now true)
    have j1 : Ev (fun k => laws_FnExactFlatOf.j1 k l0 p b p false) true := by
      refine Ev.step (fun k => by simp only [laws_FnExactFlatOf.j1]; rw [if_neg (by decide)]) ?_
      refine Ev.bind (markI_ok p hlen) (Ev.bind (heldI_ok p.length hlen) ?_)
      refine Ev.congr (fun k => by rw [if_neg (by omega), if_pos rfl]) ?_
      refine Ev.bind (to_ok l0 hl) (Ev.bind him (Ev.bind (eqI_ok p hlen) ?_))
      refine Ev.congr (fun k => ?_) j2
      simp
    have j0 : Ev (fun k => laws_FnExactFlatOf.j0 k l0 p b (l0.map cv) p b false) true := by
      refine Ev.step (fun k => by simp only [laws_FnExactFlatOf.j0]; rw [if_neg (by decide)]) ?_
      obtain ⟨q, hq, hq0⟩ := markT_ok (l0.map cv) hlm
      refine Ev.bind (to_ok l0 hl) (Ev.bind (eqT_ok _ hlm) ?_)
      refine Ev.congr (fun k => if_pos rfl) (Ev.bind hq ?_)
      refine Ev.congr (fun k => if_neg (by omega)) (Ev.bind (eqI_ok p hlen) ?_)
      refine Ev.congr (fun k => ?_) j1
      simp
    refine Ev.bind (eqI_ok p hlen) ?_
    refine Ev.congr (fun k => ?_) j0
    simp
end Go.Proofs.Ytlgegdgilkaldaa.Pure
