/- Rows that a statement copies, compares and marks. -/
import Derived.Test.YthaakpofdcaekaaDoorMb
import Derived.Test.YthaakpofdcaekaaDoorQx1
import Derived.Test.YthaakpofdcaekaaDoorQx2
import Derived.Test.YthaakpofdcaekaaDoorQx6
namespace Go.Proofs.YthaakpofdcaekaaDoor.Ty
open Go.RowKit Go.Proofs.YthaakpofdcaekaaDoor.Q Go.Proofs.YthaakpofdcaekaaDoorW.PrintWords Go.Proofs.YthaakpofdcaekaaDoorW.PrintLast Go.Proofs.YthaakpofdcaekaaDoorW.PrintMore Go.Proofs.YthaakpofdcaekaaDoor.Mb
set_option linter.unusedSimpArgs false
set_option linter.unusedVariables false

def cv (x : S39) : S37 := ⟨x.f0, x.f1, x.f2⟩
theorem sz_ok (l : List S39) (h : l.length ≤ maxLen) : laws_szTypeNodeS.f l 1048576 = some (-1) ∨ (l.length ≤ 1048576 ∧ ∃ x, laws_szTypeNodeS.f l 1048576 = some x ∧ 0 ≤ x) := by
  have hm : l.length ≤ 9223372036854775807 := h
  unfold laws_szTypeNodeS.f
  rw [w64 (n := 1048576 - (l.length : Int)) (by omega) (by omega)]
  by_cases c : (1048576 : Int) - (l.length : Int) < 0
  · rw [if_pos c]; exact .inl rfl
  · rw [if_neg c]; exact .inr ⟨by omega, _, rfl, by omega⟩
theorem to_l0 (l : List S39) (hl : l.length ≤ 1048576) (d : Nat) : ∀ j : Nat, j + d = l.length → Ev (fun k => laws_toTypeNodeS.l0 k l ((l.map cv).take j ++ List.replicate (l.length - j) z37) (j : Int)) (l.map cv) := by
  induction d with
  | zero =>
    intro j hj
    obtain rfl : j = l.length := by omega
    have e : (l.map cv).take l.length ++ List.replicate (l.length - l.length) z37 = l.map cv := by
      rw [Nat.sub_self, List.replicate_zero, List.append_nil, List.take_of_length_le (by simp)]
    rw [e]
    refine Ev.step (f := fun _ => some (l.map cv)) (fun k => ?_) (Ev.now _)
    simp only [laws_toTypeNodeS.l0]
    rw [if_neg (by omega)]
  | succ d ih =>
    intro j hj
    have hlt : j < l.length := by omega
    refine Ev.step (fun k => ?_) (ih (j + 1) (by omega))
    simp only [laws_toTypeNodeS.l0, laws_toTypeNode.f, Option.bind_some]
    have e : ((l.map cv).take j ++ List.replicate (l.length - j) z37).set j ⟨(rd_T39 l (j : Int)).f0, (rd_T39 l (j : Int)).f1, (rd_T39 l (j : Int)).f2⟩ = (l.map cv).take (j + 1) ++ List.replicate (l.length - (j + 1)) z37 := by
      have hr : rd_T39 l (j : Int) = l[j] := by
        unfold rd_T39
        rw [Int.toNat_natCast, List.getD_eq_getElem?_getD, List.getElem?_eq_getElem hlt]
        rfl
      have hj2 : j < (l.map cv).length := by simpa using hlt
      have ht : ((l.map cv).take j).length = j := by rw [List.length_take]; omega
      rw [hr, List.set_append, ht, if_neg (by omega), Nat.sub_self, show l.length - j = (l.length - (j + 1)) + 1 by omega, List.replicate_succ, List.set_cons_zero, List.take_succ_eq_append_getElem hj2]
      simp [cv]
    rw [if_pos (show (j : Int) < (l.length : Int) by omega), if_pos (show (0 : Int) ≤ (j : Int) by omega), if_pos (by simp; omega), Int.toNat_natCast, e, w64 (n := (j : Int) + 1) (by omega) (by omega)]
    rfl
theorem to_ok (l : List S39) (hl : l.length ≤ 1048576) : Ev (fun k => laws_toTypeNodeS.f k l) (l.map cv) := by
  refine Ev.congr (fun k => ?_) (to_l0 l hl l.length 0 (by omega))
  unfold laws_toTypeNodeS.f
  rw [if_pos (by omega), if_pos (by simp; omega), Int.toNat_natCast]
  simp
theorem eqT_l0 (l : List S37) (hl : l.length ≤ 1048576) (d : Nat) : ∀ j : Nat, j + d = l.length → Ev (fun k => laws_eqTypeNodeS.l0 k l l (j : Int)) true := by
  induction d with
  | zero =>
    intro j hj
    refine Ev.step (f := fun _ => some true) (fun k => ?_) (Ev.now _)
    simp only [laws_eqTypeNodeS.l0]
    rw [if_neg (by omega)]
  | succ d ih =>
    intro j hj
    refine Ev.step (fun k => ?_) (ih (j + 1) (by omega))
    simp only [laws_eqTypeNodeS.l0, laws_eqTypeNode.f, if_true, Option.bind_some]
    rw [if_pos (show (j : Int) < (l.length : Int) by omega), if_pos (show (0 : Int) ≤ (j : Int) by omega), if_pos (show (j : Int) < (l.length : Int) by omega), w64 (n := (j : Int) + 1) (by omega) (by omega)]
    rfl
theorem eqT_ok (l : List S37) (hl : l.length ≤ 1048576) : Ev (fun k => laws_eqTypeNodeS.f k l l) true := by
  refine Ev.congr (fun k => ?_) (eqT_l0 l hl l.length 0 (by omega))
  unfold laws_eqTypeNodeS.f
  rw [if_pos rfl]
  rfl
end Go.Proofs.YthaakpofdcaekaaDoor.Ty
