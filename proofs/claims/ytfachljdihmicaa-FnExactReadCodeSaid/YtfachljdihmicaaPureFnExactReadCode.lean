/- ReadCode of the program and of the reference tell the same, at any bytes. -/
import Derived.Test.YtfachljdihmicaaRe
import Derived.Test.YtfachljdihmicaaQx1
import Derived.Test.YtfachljdihmicaaQx3
namespace Go.Proofs.Ytfachljdihmicaa.Pure
open Go.RowKit Go.Proofs.Ytfachljdihmicaa.Q Go.Proofs.YtfachljdihmicaaW.PrintWords Go.Proofs.YtfachljdihmicaaW.PrintLast Go.Proofs.YtfachljdihmicaaW.PrintMore Go.Proofs.Ytfachljdihmicaa.Mb Go.Proofs.Ytfachljdihmicaa.Ins
set_option linter.unusedSimpArgs false
set_option linter.unusedVariables false
/-- A row marked from 1 on. -/
def mk (n : Nat) : List S45 := (List.range n).map (fun (i : Nat) => (⟨(2 * i + 1 : Nat), (2 * i + 2 : Nat)⟩ : S45))
theorem mk_len (n : Nat) : (mk n).length = n := by simp [mk]
theorem mk_at (n i : Nat) (h : i < n) : rd_T45 (mk n) (i : Int) = ⟨((2 * i + 1 : Nat) : Int), ((2 * i + 2 : Nat) : Int)⟩ := by
  unfold rd_T45 mk
  rw [Int.toNat_natCast, List.getD_eq_getElem?_getD, List.getElem?_map, List.getElem?_range h]
  rfl
theorem mark_l0 (l : List S45) (hl : l.length ≤ 1048576) (d : Nat) : ∀ j : Nat, j + d = l.length → Ev (fun k => laws_markInsS.l0 k (mk j ++ l.drop j) ((2 * j + 1 : Nat) : Int) (j : Int)) (((2 * l.length + 1 : Nat) : Int), mk l.length) := by
  induction d with
  | zero =>
    intro j hj
    obtain rfl : j = l.length := by omega
    rw [List.drop_length, List.append_nil]
    refine Ev.step (f := fun _ => some (((2 * l.length + 1 : Nat) : Int), mk l.length)) (fun k => ?_) (Ev.now _)
    simp only [laws_markInsS.l0]
    rw [mk_len, if_neg (by omega)]
  | succ d ih =>
    intro j hj
    have hlt : j < l.length := by omega
    refine Ev.step (fun k => ?_) (ih (j + 1) (by omega))
    simp only [laws_markInsS.l0, Option.bind_some]
    have hlen : (mk j ++ l.drop j).length = l.length := by rw [List.length_append, mk_len, List.length_drop]; omega
    have hset : ∀ v : S45, (mk j ++ l.drop j).set j v = mk j ++ (v :: l.drop (j + 1)) := by
      intro v
      rw [List.set_append, mk_len, if_neg (by omega), Nat.sub_self, List.drop_eq_getElem_cons hlt, List.set_cons_zero]
    have hset2 : ∀ u v : S45, (mk j ++ (u :: l.drop (j + 1))).set j v = mk j ++ (v :: l.drop (j + 1)) := by
      intro u v
      rw [List.set_append, mk_len, if_neg (by omega), Nat.sub_self, List.set_cons_zero]
    have hrd : ∀ u : S45, rd_T45 (mk j ++ (u :: l.drop (j + 1))) (j : Int) = u := by
      intro u
      unfold rd_T45
      rw [Int.toNat_natCast, List.getD_eq_getElem?_getD, List.getElem?_append_right (by rw [mk_len]; omega), mk_len, Nat.sub_self]
      rfl
    have hmk : mk (j + 1) = mk j ++ [⟨((2 * j + 1 : Nat) : Int), ((2 * j + 2 : Nat) : Int)⟩] := by
      unfold mk
      rw [List.range_succ, List.map_append]
      rfl
    rw [hlen, if_pos (show (j : Int) < (l.length : Int) by omega), if_pos (show (0 : Int) ≤ (j : Int) by omega), Int.toNat_natCast, hset, hset2, hrd, hmk, List.append_assoc, w64 (n := (j : Int) + 1) (by omega) (by omega), w64 (n := ((2 * j + 1 : Nat) : Int) + 1) (by omega) (by omega), w64 (n := ((2 * j + 1 : Nat) : Int) + 1 + 1) (by omega) (by omega), show ((2 * j + 1 : Nat) : Int) + 1 + 1 = ((2 * (j + 1) + 1 : Nat) : Int) by omega, show ((2 * j + 1 : Nat) : Int) + 1 = ((2 * j + 2 : Nat) : Int) by omega, show ((j : Int) + 1) = ((j + 1 : Nat) : Int) by omega]
    rfl
theorem mark_ok (l : List S45) (hl : l.length ≤ 1048576) : Ev (fun k => laws_markInsS.f k l 1) (((2 * l.length + 1 : Nat) : Int), mk l.length) := by
  have := mark_l0 l hl l.length 0 (by omega)
  exact Ev.congr (fun k => by unfold laws_markInsS.f; rfl) this
theorem held_l0 (n : Nat) (hn : n ≤ 1048576) (d : Nat) : ∀ j : Nat, j + d = n → Ev (fun k => laws_heldInsS.l0 k (mk n) ((2 * j + 1 : Nat) : Int) (j : Int)) ((2 * n + 1 : Nat) : Int) := by
  induction d with
  | zero =>
    intro j hj
    obtain rfl : j = n := by omega
    refine Ev.step (f := fun _ => some ((2 * j + 1 : Nat) : Int)) (fun k => ?_) (Ev.now _)
    simp only [laws_heldInsS.l0]
    rw [mk_len, if_neg (by omega)]
  | succ d ih =>
    intro j hj
    refine Ev.step (fun k => ?_) (ih (j + 1) (by omega))
    simp only [laws_heldInsS.l0]
    rw [mk_len, if_pos (show (j : Int) < (n : Int) by omega), if_pos (show (0 : Int) ≤ (j : Int) by omega), mk_at n j (by omega), w64 (n := (j : Int) + 1) (by omega) (by omega), w64 (n := ((2 * j + 1 : Nat) : Int) + 1) (by omega) (by omega), w64 (n := ((2 * j + 1 : Nat) : Int) + 1 + 1) (by omega) (by omega), show ((2 * j + 1 : Nat) : Int) + 1 + 1 = ((2 * (j + 1) + 1 : Nat) : Int) by omega, show ((2 * j + 1 : Nat) : Int) + 1 = ((2 * j + 2 : Nat) : Int) by omega, show ((j : Int) + 1) = ((j + 1 : Nat) : Int) by omega]
    rw [if_pos rfl, if_pos rfl]
theorem held_ok (n : Nat) (hn : n ≤ 1048576) : Ev (fun k => laws_heldInsS.f k (mk n) 1) ((2 * n + 1 : Nat) : Int) := by
  have := held_l0 n hn n 0 (by omega)
  exact Ev.congr (fun k => by unfold laws_heldInsS.f; rfl) this
theorem FnExactReadCode : laws_FnExactReadCode.Pure := by
  intro s hs
  refine Ev.rounds ?_
  unfold laws_FnExactReadCode.f
  by_cases c : (s.size : Int) > 1048576
  · exact Ev.congr (fun k => if_pos c) (Ev.now true)
  · refine Ev.congr (fun k => if_neg c) ?_
    obtain ⟨R, hI, hS, hlen⟩ := read_same s (by omega) s.size 0 [] (by omega) (by simp)
    have e0 : s.extract 0 s.size = s := by
      apply ba_same
      rw [tl_ext, List.drop_zero, List.take_of_length_le (by rw [Array.length_toList]; exact Nat.le_refl _)]
    rw [e0] at hI
    have hIm : Ev (fun k => impl_ReadCode.f k s) R := Ev.congr (fun k => rfl) hI
    have hSp : Ev (fun k => spec_ReadCode.f k s) R := Ev.bind (g := fun k => spec_l6Read.f k s) (Ev.congr (fun k => rfl) hS) (Ev.now _)
    have heq : Ev (fun k => laws_eqInsS.f k R.1 R.1) true := ⟨R.1.length + 1, fun k hk => eq_self R.1 (by omega) (by omega)⟩
    have hheld := held_ok R.1.length (by omega)
    have j1 : Ev (fun k => laws_FnExactReadCode.j1 k (mk R.1.length) ((2 * R.1.length + 1 : Nat) : Int) false) true := by
      refine Ev.step (f := fun k => (laws_heldInsS.f k (mk R.1.length) 1).bind fun t182 => (if t182 < 0 then (some false) else (if t182 = ((2 * R.1.length + 1 : Nat) : Int) then (some true) else (some false)))) (fun k => by simp only [laws_FnExactReadCode.j1, Bool.false_eq_true, if_false]) ?_
      exact Ev.bind hheld (Ev.congr (fun k => by rw [if_neg (by omega), if_pos rfl]) (Ev.now true))
    have j0 : Ev (fun k => laws_FnExactReadCode.j0 k s R.1 R.2 R.1 false) true := by
      refine Ev.step (fun k => by simp only [laws_FnExactReadCode.j0, Bool.false_eq_true, if_false]; rfl) (Ev.bind (mark_ok R.1 (by omega)) (Ev.bind hheld ?_))
      refine Ev.congr (fun k => by rw [if_neg (by omega), if_pos rfl]) (Ev.bind hIm (Ev.bind heq ?_))
      refine Ev.congr (fun k => ?_) j1
      simp
    refine Ev.bind hSp (Ev.bind hIm (Ev.bind heq ?_))
    refine Ev.congr (fun k => ?_) j0
    simp
end Go.Proofs.Ytfachljdihmicaa.Pure
