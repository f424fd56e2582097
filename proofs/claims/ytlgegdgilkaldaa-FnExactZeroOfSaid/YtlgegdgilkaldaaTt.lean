/- A row of nodes that a statement marks. -/
import Derived.Test.YtlgegdgilkaldaaTl
import Derived.Test.YtlgegdgilkaldaaQx15
namespace Go.Proofs.Ytlgegdgilkaldaa.Ty
open Go.RowKit Go.Proofs.Ytlgegdgilkaldaa.Q Go.Proofs.YtlgegdgilkaldaaW.PrintWords Go.Proofs.YtlgegdgilkaldaaW.PrintLast Go.Proofs.YtlgegdgilkaldaaW.PrintMore Go.Proofs.Ytlgegdgilkaldaa.Mb
set_option linter.unusedSimpArgs false
set_option linter.unusedVariables false
theorem markT_l0 (d : Nat) : ∀ (l : List S46) (x : Int) (j : Nat), l.length ≤ 1048576 → j + d = l.length → 0 ≤ x → x + 3 * d ≤ 1000000000 → ∃ r, Ev (fun k => laws_markTypeNodeS.l0 k l x (j : Int)) r ∧ 0 ≤ r.1 := by
  induction d with
  | zero =>
    intro l x j hl hj h0 h1
    refine ⟨(x, l), Ev.step (f := fun _ => some (x, l)) (fun k => ?_) (Ev.now _), h0⟩
    simp only [laws_markTypeNodeS.l0]
    rw [if_neg (by omega)]
  | succ d ih =>
    intro l x j hl hj h0 h1
    have step : ∃ l2 : List S46, l2.length = l.length ∧ ∀ k, laws_markTypeNodeS.l0 (k + 1) l x (j : Int) = laws_markTypeNodeS.l0 k l2 (x + 3) ((j + 1 : Nat) : Int) := by
      refine ⟨_, ?_, fun k => by
        simp only [laws_markTypeNodeS.l0, Option.bind_some]
        rw [if_pos (show (j : Int) < (l.length : Int) by omega), if_pos (show (0 : Int) ≤ (j : Int) by omega), w64 (n := (j : Int) + 1) (by omega) (by omega), w64 (n := x + 1) (by omega) (by omega), w64 (n := x + 1 + 1) (by omega) (by omega), w64 (n := x + 1 + 1 + 1) (by omega) (by omega), show x + 1 + 1 + 1 = x + 3 by omega]
        rfl⟩
      simp
    obtain ⟨l2, hl2, hs⟩ := step
    obtain ⟨r, hr, hr0⟩ := ih l2 (x + 3) (j + 1) (by omega) (by omega) (by omega) (by omega)
    exact ⟨r, Ev.step hs hr, hr0⟩
theorem markT_ok (l : List S46) (hl : l.length ≤ 1048576) : ∃ r, Ev (fun k => laws_markTypeNodeS.f k l 1) r ∧ 0 ≤ r.1 := markT_l0 l.length l 1 0 hl (by omega) (by omega) (by omega)
end Go.Proofs.Ytlgegdgilkaldaa.Ty
