/- Trees of good types: every node is good. -/
import Derived.Test.YtlgegdgilkaldaaTk
import Derived.Test.YtlgegdgilkaldaaQx6
namespace Go.Proofs.Ytlgegdgilkaldaa.Ty
open Go.RowKit Go.Proofs.Ytlgegdgilkaldaa.Q Go.Proofs.YtlgegdgilkaldaaW.PrintWords Go.Proofs.YtlgegdgilkaldaaW.PrintLast Go.Proofs.YtlgegdgilkaldaaW.PrintMore Go.Proofs.Ytlgegdgilkaldaa.Mb
set_option linter.unusedSimpArgs false
set_option linter.unusedVariables false
set_option linter.unusedSectionVars false

/-- A tree of good nodes. -/
def GT : Nat → S52 → Prop
  | 0, t => ok t.f0 t.f1 (t.f2.length : Int) = true ∧ t.f2 = []
  | m + 1, t => ok t.f0 t.f1 (t.f2.length : Int) = true ∧ ∀ x ∈ t.f2, GT m x
theorem GT.ok {m : Nat} {t : S52} (h : GT m t) : ok t.f0 t.f1 (t.f2.length : Int) = true := by cases m <;> exact h.1
theorem tr_gt (l : List S46) (hg : good l = true) (m : Nat) : ∀ i : Nat, i < l.length → 8 ≤ deep l i + m → GT m (tr l m (i : Int)) := by
  induction m with
  | zero =>
    intro i hi hd
    have h := (good_node l hg i hi).2
    rw [no_parts l hg i hi (by omega)] at h
    rw [tr, Int.toNat_natCast]
    exact ⟨h, rfl⟩
  | succ m ih =>
    intro i hi hd
    have h := (good_node l hg i hi).2
    rw [tr, Int.toNat_natCast]
    refine ⟨by show Ty.ok (K l i) (Nn l i) (((pre l l.length i).map (tr l m)).length : Int) = true; rw [List.length_map]; exact h, fun x hx => ?_⟩
    obtain ⟨y, hy, rfl⟩ := List.mem_map.1 hx
    obtain ⟨j, rfl, h1, h2, h3⟩ := part_at l hg i y hy
    exact ih j h2 (by omega)
theorem tree_gt (l : List S46) (hg : good l = true) : GT 8 (tree l) := tr_gt l hg 8 0 (by have := good_len l hg; omega) (by omega)

/-- How many parts a kind may have. -/
theorem sh_parts : ∀ x : Fin 22, (x.val = 14 ∨ x.val = 15 ∨ x.val = 17 ∨ x.val = 18 → 1 ≤ (sh ((x.val : Nat) : Int)).1) := by decide +kernel
theorem ok_parts {x n c : Int} (h : ok x n c = true) (hx : x = 14 ∨ chosenB x = true) : 1 ≤ c := by
  have h2 := of_decide_eq_true h
  obtain ⟨y, rfl⟩ := Int.eq_ofNat_of_zero_le (show 0 ≤ x by omega)
  have := sh_parts ⟨y, by omega⟩
  simp only at this
  unfold chosenB at hx
  simp only [Bool.or_eq_true, beq_iff_eq] at hx
  have := this (by omega)
  omega
end Go.Proofs.Ytlgegdgilkaldaa.Ty
