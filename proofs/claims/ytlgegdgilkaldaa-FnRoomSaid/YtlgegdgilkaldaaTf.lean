/- Trees of types: the reference's core types are the program's. -/
import Derived.Test.YtlgegdgilkaldaaTk
import Derived.Test.YtlgegdgilkaldaaQx7
namespace Go.Proofs.Ytlgegdgilkaldaa.Ty
open Go.RowKit Go.Proofs.Ytlgegdgilkaldaa.Q Go.Proofs.YtlgegdgilkaldaaW.PrintWords Go.Proofs.YtlgegdgilkaldaaW.PrintLast Go.Proofs.YtlgegdgilkaldaaW.PrintMore Go.Proofs.Ytlgegdgilkaldaa.Mb
set_option linter.unusedSimpArgs false
set_option linter.unusedVariables false
set_option linter.unusedSectionVars false

theorem few_nz (m : Nat) : ∀ t : S52, NZ m t → fewB (m + 1) t = true := by
  induction m with
  | zero =>
    intro t h
    rw [fewB, h.2]
    rfl
  | succ m ih =>
    intro t h
    rw [fewB, Bool.and_eq_true]
    exact ⟨decide_eq_true h.2.1, List.all_eq_true.2 fun x hx => ih x (h.2.2 x hx)⟩
theorem mergeN_same (s l : List Int) : ∀ j, cmergeN s l j = mergeN s l j
  | 0 => rfl
  | j + 1 => by
    rw [cmergeN, mergeN, mergeN_same s l j]
    rfl
theorem mergeA_same (s l : List Int) : cmergeA s l = mergeA s l := mergeN_same s l l.length
theorem fold_same {α β : Type} (f g : β → α → β) : ∀ (xs : List α) (s : β), (∀ x ∈ xs, ∀ s, f s x = g s x) → xs.foldl f s = xs.foldl g s
  | [], _, _ => rfl
  | x :: xs, s, h => by
    rw [List.foldl_cons, List.foldl_cons, h x List.mem_cons_self]
    exact fold_same f g xs _ (fun y hy => h y (List.mem_cons_of_mem _ hy))
theorem coreE_no (n : Nat) : coreT n coreE = [] := by
  cases n with
  | zero => rfl
  | succ n => rw [coreT, if_pos (show coreE.f0 = 0 from rfl)]
theorem coreC_fold (n : Nat) (t : S52) (s : List Int) : (coreC t).foldl (fun s p => cmergeA s (coreT n p)) s = t.f2.foldl (fun s p => cmergeA s (coreT n p)) s := by
  unfold coreC
  split
  · rw [List.foldl_cons, coreE_no]
    rfl
  · rfl
theorem core_flat (m : Nat) : ∀ t : S52, NZ m t → coreT (m + 1) t = flatT (m + 1) t := by
  have main : ∀ (m : Nat) (t : S52), t.f0 ≠ 0 → (∀ x ∈ t.f2, coreT m x = flatT m x) → coreT (m + 1) t = flatT (m + 1) t := by
    intro m t h0 hx
    have e1 : t.f2.foldl (fun s p => s ++ coreT m p) [] = t.f2.foldl (fun s p => s ++ flatT m p) [] := fold_same _ _ _ _ (fun x h s => by rw [hx x h])
    have e2 : (coreC t).foldl (fun s p => cmergeA s (coreT m p)) [127] = t.f2.foldl (fun s p => mergeA s (flatT m p)) [127] := by
      rw [coreC_fold]
      exact fold_same _ _ _ _ (fun x h s => by rw [hx x h, mergeA_same])
    rw [coreT, flatT, if_neg h0, e1, e2]
    unfold chosenB
    generalize t.f2.foldl (fun s p => s ++ flatT m p) [] = A
    generalize t.f2.foldl (fun s p => mergeA s (flatT m p)) [127] = B
    generalize t.f0 = x at *
    by_cases c8 : x = 8
    · subst c8; rfl
    by_cases c9 : x = 9
    · subst c9; rfl
    by_cases c10 : x = 10
    · subst c10; rfl
    by_cases c12 : x = 12
    · subst c12; rfl
    by_cases c13 : x = 13
    · subst c13; rfl
    rw [if_neg c8, if_neg c9, if_neg c10, if_neg c12, if_neg c13, if_neg c8, if_neg c9, if_neg c10, if_neg c12, if_neg c13]
  induction m with
  | zero => intro t h; exact main 0 t h.1 (fun x hx => by rw [h.2] at hx; cases hx)
  | succ m ih => intro t h; exact main (m + 1) t h.1 (fun x hx => ih x (h.2.2 x hx))
theorem core_spec (t : S52) (h : NZ 8 t) : spec_l11Core.f t.f0 t.f1 t.f2 = some (flatT 9 t) := by
  unfold spec_l11Core.f
  rw [if_pos (show fewB 9 ⟨t.f0, t.f1, t.f2⟩ = true by cases t; exact few_nz 8 _ h)]
  refine congrArg some ?_
  cases t
  exact core_flat 8 _ h
end Go.Proofs.Ytlgegdgilkaldaa.Ty
