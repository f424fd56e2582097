/- Trees of types: both texts see the same handles. -/
import Derived.Test.YtlgegdgilkaldaaTk
import Derived.Test.YtlgegdgilkaldaaQx2
namespace Go.Proofs.Ytlgegdgilkaldaa.Ty
open Go.RowKit Go.Proofs.Ytlgegdgilkaldaa.Q Go.Proofs.YtlgegdgilkaldaaW.PrintWords Go.Proofs.YtlgegdgilkaldaaW.PrintLast Go.Proofs.YtlgegdgilkaldaaW.PrintMore Go.Proofs.Ytlgegdgilkaldaa.Mb
set_option linter.unusedSimpArgs false
set_option linter.unusedVariables false
theorem rdh_at (xs : List S52) (j : Nat) (h : j < xs.length) : rd_T52 xs (j : Int) = xs[j] := by
  unfold rd_T52
  rw [Int.toNat_natCast, List.getD_eq_getElem?_getD, List.getElem?_eq_getElem h]
  rfl
theorem hand_l0 (kids : List S52) (hk : kids.length ≤ 100) (r : S52 → Bool) (hr : ∀ x ∈ kids, Ev (fun k => spec_l11Handles.f k x.f0 x.f1 x.f2) (r x)) (d : Nat) : ∀ (j : Nat), j + d = kids.length →
    Ev (fun k => spec_l11Handles.l0 k kids (kids.length : Int) (j : Int)) ((kids.drop j).any r) := by
  induction d with
  | zero =>
    intro j hj
    obtain rfl : j = kids.length := by omega
    rw [List.drop_length]
    refine Ev.step (f := fun _ => some false) (fun k => ?_) (Ev.now _)
    simp only [spec_l11Handles.l0]
    rw [if_neg (by omega)]
  | succ d ih =>
    intro j hj
    have hlt : j < kids.length := by omega
    have he := hr kids[j] (List.getElem_mem hlt)
    rw [List.drop_eq_getElem_cons hlt, List.any_cons]
    refine Ev.step (f := fun k => (spec_l11Handles.f k kids[j].f0 kids[j].f1 kids[j].f2).bind fun t124 => (if t124 = true then (some true) else (spec_l11Handles.l0 k kids (kids.length : Int) ((j + 1 : Nat) : Int)))) (fun k => ?_) (Ev.bind he ?_)
    · simp only [spec_l11Handles.l0]
      rw [if_pos (show (j : Int) < (kids.length : Int) by omega), if_pos (show (0 : Int) ≤ (j : Int) by omega), if_pos (show (j : Int) < (kids.length : Int) by omega), rdh_at kids j hlt, w64 (n := (j : Int) + 1) (by omega) (by omega)]
      rfl
    · cases r kids[j] with
      | true => exact Ev.now _
      | false => exact ih (j + 1) (by omega)
theorem hand_spec (m : Nat) : ∀ t : S52, NZ m t → Ev (fun k => spec_l11Handles.f k t.f0 t.f1 t.f2) (handlesT (m + 1) t) := by
  have main : ∀ (m : Nat) (t : S52), t.f2.length ≤ 8 → (∀ x ∈ t.f2, Ev (fun k => spec_l11Handles.f k x.f0 x.f1 x.f2) (handlesT m x)) → Ev (fun k => spec_l11Handles.f k t.f0 t.f1 t.f2) (handlesT (m + 1) t) := by
    intro m t hl hx
    have h0 := hand_l0 t.f2 (by omega) (handlesT m) hx t.f2.length 0 (by omega)
    rw [List.drop_zero] at h0
    refine Ev.step (f := fun k => spec_l11Handles.j0 k (t.f0 == 20 || t.f0 == 21) t.f0 t.f1 t.f2) (fun k => ?_) ?_
    · simp only [spec_l11Handles.f]
      by_cases c : t.f0 = 20
      · rw [if_pos c, beq_iff_eq.2 c, Bool.true_or]
      · rw [if_neg c, beq_eq_false_iff_ne.2 c, Bool.false_or]
    · rw [handlesT]
      cases (t.f0 == 20 || t.f0 == 21) with
      | true => exact Ev.step (f := fun _ => some true) (fun k => by simp only [spec_l11Handles.j0, if_true]) (Ev.now _)
      | false =>
        rw [Bool.false_or]
        refine Ev.step (fun k => ?_) h0
        simp only [spec_l11Handles.j0]
        rw [if_neg (by decide)]
        rfl
  induction m with
  | zero => intro t h; exact main 0 t (by rw [h.2]; simp) (fun x hx => by rw [h.2] at hx; cases hx)
  | succ m ih => intro t h; exact main (m + 1) t h.2.1 (fun x hx => ih x (h.2.2 x hx))
end Go.Proofs.Ytlgegdgilkaldaa.Ty
