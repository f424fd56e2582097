/- TypeText of the program and of the reference tell the same, whatever the nodes. -/
import Derived.Test.YthaakpofdcaekaaDoorTx
import Derived.Test.YthaakpofdcaekaaDoorTl
import Derived.Test.YthaakpofdcaekaaDoorQx6
import Derived.Test.YthaakpofdcaekaaDoorQx5
namespace Go.Proofs.YthaakpofdcaekaaDoor.Pure
open Go.RowKit Go.Proofs.YthaakpofdcaekaaDoor.Q Go.Proofs.YthaakpofdcaekaaDoorW.PrintWords Go.Proofs.YthaakpofdcaekaaDoorW.PrintLast Go.Proofs.YthaakpofdcaekaaDoorW.PrintMore Go.Proofs.YthaakpofdcaekaaDoor.Mb Go.Proofs.YthaakpofdcaekaaDoor.Ty
set_option linter.unusedSimpArgs false
set_option linter.unusedVariables false
theorem both (l : List S37) : ∃ r : ByteArray × Bool, Ev (fun k => spec_TypeText.f k l) r ∧ Ev (fun k => impl_TypeText.f k l) r := by
  cases hg : good l with
  | false =>
    refine ⟨(nos, false), ?_, ?_⟩
    · refine Ev.bind (good_spec l) ?_
      rw [hg]
      exact Ev.now _
    · refine Ev.bind (shape_tree l) ?_
      rw [hg]
      exact Ev.now _
  | true =>
    obtain ⟨r, hr, _, he⟩ := text_spec 8 (by omega) (tree l) (tree_gt l hg)
    refine ⟨(r, true), ?_, ?_⟩
    · refine Ev.bind (good_spec l) ?_
      rw [hg]
      simp only [if_true]
      refine Ev.bind (spec_tree l hg) ?_
      exact Ev.bind he (Ev.now _)
    · refine Ev.bind (shape_tree l) ?_
      rw [hg]
      refine Ev.congr (fun k => ?_) (Ev.now _)
      show (textT 9 (tree l)).bind _ = _
      rw [hr]
      rfl
theorem FnExactTypeText : laws_FnExactTypeText.Pure := by
  intro l0 h0
  refine Ev.rounds ?_
  rcases sz_ok l0 h0.1 with h | ⟨hl, x, h, hx⟩
  · refine Ev.congr (fun k => ?_) (Ev.now true)
    unfold laws_FnExactTypeText.f
    rw [h, Option.bind_some, if_pos (by decide)]
  · have hlm : (l0.map cv).length ≤ 1048576 := by simpa using hl
    obtain ⟨r, hs, hi⟩ := both (l0.map cv)
    refine Ev.congr (fun k => by unfold laws_FnExactTypeText.f; rw [h, Option.bind_some, if_neg (by omega)]) ?_
    refine Ev.bind (to_ok l0 hl) ?_
    refine Ev.bind hs ?_
    refine Ev.bind (to_ok l0 hl) ?_
    refine Ev.bind hi ?_
    have fin : Ev (fun k => laws_FnExactTypeText.j0 k l0 (l0.map cv) false) true := by
      refine Ev.step (f := fun k => (laws_toTypeNodeS.f k l0).bind fun t => (laws_eqTypeNodeS.f k (l0.map cv) t).bind fun t2 => if t2 = true then some true else some false) (fun k => by simp only [laws_FnExactTypeText.j0]; rw [if_neg (by decide)]) ?_
      refine Ev.bind (to_ok l0 hl) (Ev.bind (eqT_ok _ hlm) ?_)
      exact Ev.congr (fun k => if_pos rfl) (Ev.now true)
    refine Ev.congr (fun k => ?_) fin
    simp
end Go.Proofs.YthaakpofdcaekaaDoor.Pure
