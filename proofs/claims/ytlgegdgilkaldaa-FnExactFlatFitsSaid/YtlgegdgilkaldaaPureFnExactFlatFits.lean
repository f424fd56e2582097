/- FlatFits of the program and of the reference tell the same, whatever the nodes. -/
import Derived.Test.YtlgegdgilkaldaaTf
import Derived.Test.YtlgegdgilkaldaaTl
import Derived.Test.YtlgegdgilkaldaaQx7
namespace Go.Proofs.Ytlgegdgilkaldaa.Pure
open Go.RowKit Go.Proofs.Ytlgegdgilkaldaa.Q Go.Proofs.YtlgegdgilkaldaaW.PrintWords Go.Proofs.YtlgegdgilkaldaaW.PrintLast Go.Proofs.YtlgegdgilkaldaaW.PrintMore Go.Proofs.Ytlgegdgilkaldaa.Mb Go.Proofs.Ytlgegdgilkaldaa.Ty
set_option linter.unusedSimpArgs false
set_option linter.unusedVariables false
theorem spec_FlatFits (l : List S46) : Ev (fun k => spec_FlatFits.f k l) (if good l = true then (decide (((flatT 9 (tree l)).length : Int) ≤ 16), true) else (false, false)) := by
  refine Ev.bind (good_spec l) ?_
  cases hg : good l with
  | false => exact Ev.now _
  | true =>
    simp only [if_true]
    refine Ev.bind (spec_tree l hg) ?_
    refine Ev.congr (fun k => ?_) (Ev.now _)
    unfold spec_l14Fits.f
    rw [core_spec _ (tree_nz l hg)]
    rfl
theorem impl_FlatFits (l : List S46) : Ev (fun k => impl_FlatFits.f k l) (if good l = true then (decide (((flatT 9 (tree l)).length : Int) ≤ 16), true) else (false, false)) := by
  unfold impl_FlatFits.f
  refine Ev.bind (shape_tree l) ?_
  cases hg : good l with
  | false => exact Ev.now _
  | true => exact Ev.now _
theorem FnExactFlatFits : laws_FnExactFlatFits.Pure := by
  intro l0 h0
  refine Ev.rounds ?_
  rcases sz_ok l0 h0.1 with h | ⟨hl, x, h, hx⟩
  · refine Ev.congr (fun k => ?_) (Ev.now true)
    unfold laws_FnExactFlatFits.f
    rw [h, Option.bind_some, if_pos (by decide)]
  · have hlm : (l0.map cv).length ≤ 1048576 := by simpa using hl
    refine Ev.congr (fun k => by unfold laws_FnExactFlatFits.f; rw [h, Option.bind_some, if_neg (by omega)]) ?_
    refine Ev.bind (to_ok l0 hl) ?_
    refine Ev.bind (spec_FlatFits (l0.map cv)) ?_
    refine Ev.bind (to_ok l0 hl) ?_
    refine Ev.bind (impl_FlatFits (l0.map cv)) ?_
    have fin : Ev (fun k => laws_FnExactFlatFits.j0 k l0 (l0.map cv) false) true := by
      refine Ev.step (f := fun k => (laws_toTypeNodeS.f k l0).bind fun t => (laws_eqTypeNodeS.f k (l0.map cv) t).bind fun t2 => if t2 = true then some true else some false) (fun k => by simp only [laws_FnExactFlatFits.j0]; rw [if_neg (by decide)]) ?_
      refine Ev.bind (to_ok l0 hl) (Ev.bind (eqT_ok _ hlm) ?_)
      exact Ev.congr (fun k => if_pos rfl) (Ev.now true)
    generalize (if good (l0.map cv) = true then (decide (((flatT 9 (tree (l0.map cv))).length : Int) ≤ 16), true) else (false, false)) = r
    refine Ev.congr (fun k => ?_) fin
    simp
end Go.Proofs.Ytlgegdgilkaldaa.Pure
