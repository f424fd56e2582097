/- TakeFunc of the program and of the reference tell the same, at any bytes. -/
import Derived.Test.YtmmlgkepnjelnaaFu
import Derived.Test.YtmmlgkepnjelnaaMi
import Derived.Test.YtmmlgkepnjelnaaQx6
namespace Go.Proofs.Ytmmlgkepnjelnaa.Pure
open Go.RowKit Go.Proofs.Ytmmlgkepnjelnaa.Q Go.Proofs.YtmmlgkepnjelnaaW.PrintWords Go.Proofs.YtmmlgkepnjelnaaW.PrintLast Go.Proofs.YtmmlgkepnjelnaaW.PrintMore Go.Proofs.Ytmmlgkepnjelnaa.Mb Go.Proofs.Ytmmlgkepnjelnaa.Mi Go.Proofs.Ytmmlgkepnjelnaa.Fu
set_option linter.unusedSimpArgs false
set_option linter.unusedVariables false
theorem FnExactTakeFunc : laws_FnExactTakeFunc.Pure := by
  intro s hs
  refine Ev.rounds ?_
  unfold laws_FnExactTakeFunc.f
  by_cases c : (s.size : Int) > 1048576
  · exact Ev.congr (fun k => if_pos c) (Ev.now true)
  · refine Ev.congr (fun k => if_neg c) ?_
    obtain ⟨P, res, L, B, t, hP, hL, hB, hS, hI⟩ := take_same s (by omega)
    have heq := eqF_ok P res L B (by omega) (by omega) (by omega)
    have hmark := markF_ok P res L B (by omega) (by omega) (by omega)
    have hheld := heldF_ok P.length L.length B.length res (by omega) (by omega) (by omega)
    have j1 : Ev (fun k => laws_FnExactTakeFunc.j1 k ((2 * B.length + (L.length + (P.length + 1)) : Nat) : Int) false (cnt 1 P.length) res (cnt (P.length + 1) L.length) (mk (L.length + (P.length + 1)) B.length)) true := by
      refine Ev.step (f := fun k => (laws_heldFunc.f k (cnt 1 P.length) res (cnt (P.length + 1) L.length) (mk (L.length + (P.length + 1)) B.length) 1).bind fun t412 => (if t412 < 0 then (some false) else (if t412 = ((2 * B.length + (L.length + (P.length + 1)) : Nat) : Int) then (some true) else (some false)))) (fun k => by rw [laws_FnExactTakeFunc.j1, if_neg (by decide)]) ?_
      exact Ev.bind hheld (Ev.congr (fun k => by rw [if_neg (by omega), if_pos rfl]) (Ev.now true))
    have j0 : Ev (fun k => laws_FnExactTakeFunc.j0 k s t false P res L B P res L B) true := by
      refine Ev.step (fun k => by rw [laws_FnExactTakeFunc.j0, if_neg (by decide)]) (Ev.bind hmark (Ev.bind hheld ?_))
      refine Ev.congr (fun k => by rw [if_neg (by omega), if_pos rfl]) (Ev.bind hI (Ev.bind heq ?_))
      refine Ev.congr (fun k => ?_) j1
      rw [if_pos rfl, bne_self_eq_false]
    refine Ev.bind hS (Ev.bind hI (Ev.bind heq ?_))
    refine Ev.congr (fun k => ?_) j0
    rw [if_pos rfl, bne_self_eq_false]
end Go.Proofs.Ytmmlgkepnjelnaa.Pure
