/- GoodTable of the program and of the reference tell the same, whatever the table. -/
import Derived.Test.YtdklegalfcmboaaHt
import Derived.Test.YtdklegalfcmboaaQx3
namespace Go.Proofs.Ytdklegalfcmboaa.Pure
open Go.RowKit Go.Proofs.Ytdklegalfcmboaa.Q Go.Proofs.YtdklegalfcmboaaW.PrintWords Go.Proofs.YtdklegalfcmboaaW.PrintLast Go.Proofs.YtdklegalfcmboaaW.PrintMore Go.Proofs.Ytdklegalfcmboaa.Mb Go.Proofs.Ytdklegalfcmboaa.Ht
set_option linter.unusedSimpArgs false
set_option linter.unusedVariables false
theorem FnExactGoodTable : laws_FnExactGoodTable.Pure := by
  intro l0 l1 h0 h1
  refine Ev.rounds ?_
  rcases sz_ok l0 l1 h0.1 h1.1 with ⟨x, h, hx⟩ | ⟨hl, hm, x, h, hx⟩
  · refine Ev.congr (fun k => ?_) (Ev.now true)
    unfold laws_FnExactGoodTable.f
    rw [h, Option.bind_some, if_pos hx]
  · have hlm : (l0.map cv).length ≤ 1048576 := by simpa using hl
    refine Ev.congr (fun k => by unfold laws_FnExactGoodTable.f; rw [h, Option.bind_some, if_neg (by omega)]) ?_
    refine Ev.bind (to_ok l0 l1 hl hm) ?_
    refine Ev.bind (spec_good _ _ hlm hm) ?_
    refine Ev.bind (to_ok l0 l1 hl hm) ?_
    refine Ev.bind (impl_good _ _) ?_
    refine Ev.congr (fun k => if_neg (by simp)) ?_
    refine Ev.bind (to_ok l0 l1 hl hm) ?_
    refine Ev.bind (eq_ok _ _ hlm hm) ?_
    exact Ev.congr (fun k => if_pos rfl) (Ev.now true)
end Go.Proofs.Ytdklegalfcmboaa.Pure
