/- Rows of whole numbers that a statement compares and marks. -/
import Derived.Test.YtlgegdgilkaldaaTl
import Derived.Test.YtlgegdgilkaldaaQx11
namespace Go.Proofs.Ytlgegdgilkaldaa.Ty
open Go.RowKit Go.Proofs.Ytlgegdgilkaldaa.Q Go.Proofs.YtlgegdgilkaldaaW.PrintWords Go.Proofs.YtlgegdgilkaldaaW.PrintLast Go.Proofs.YtlgegdgilkaldaaW.PrintMore Go.Proofs.Ytlgegdgilkaldaa.Mb
set_option linter.unusedSimpArgs false
set_option linter.unusedVariables false
theorem eqI_l0 (l : List Int) (hl : l.length ≤ 1048576) (d : Nat) : ∀ j : Nat, j + d = l.length → Ev (fun k => laws_eqIntS.l0 k l l (j : Int)) true := by
  induction d with
  | zero =>
    intro j hj
    refine Ev.step (f := fun _ => some true) (fun k => ?_) (Ev.now _)
    simp only [laws_eqIntS.l0]
    rw [if_neg (by omega)]
  | succ d ih =>
    intro j hj
    refine Ev.step (fun k => ?_) (ih (j + 1) (by omega))
    simp only [laws_eqIntS.l0, if_true]
    rw [if_pos (show (j : Int) < (l.length : Int) by omega), if_pos (show (0 : Int) ≤ (j : Int) by omega), if_pos (show (j : Int) < (l.length : Int) by omega), w64 (n := (j : Int) + 1) (by omega) (by omega)]
    rfl
theorem eqI_ok (l : List Int) (hl : l.length ≤ 1048576) : Ev (fun k => laws_eqIntS.f k l l) true := by
  refine Ev.congr (fun k => ?_) (eqI_l0 l hl l.length 0 (by omega))
  unfold laws_eqIntS.f
  rw [if_pos rfl]
  rfl
/-- 1, 2, .. -/
def cnt (n : Nat) : List Int := (List.range n).map (fun i => ((i + 1 : Nat) : Int))
theorem cnt_len (n : Nat) : (cnt n).length = n := by unfold cnt; simp
theorem cnt_at (n j : Nat) (h : j < n) : rd (cnt n) (j : Int) = ((j + 1 : Nat) : Int) := by
  unfold rd cnt
  rw [Int.toNat_natCast, List.getD_eq_getElem?_getD, List.getElem?_map, List.getElem?_range h]
  rfl
theorem markI_l0 (l : List Int) (hl : l.length ≤ 1048576) (d : Nat) : ∀ j : Nat, j + d = l.length → Ev (fun k => laws_markIntS.l0 k (cnt j ++ l.drop j) ((j + 1 : Nat) : Int) (j : Int)) (((l.length + 1 : Nat) : Int), cnt l.length) := by
  induction d with
  | zero =>
    intro j hj
    obtain rfl : j = l.length := by omega
    rw [List.drop_length, List.append_nil]
    refine Ev.step (f := fun _ => some (((l.length + 1 : Nat) : Int), cnt l.length)) (fun k => ?_) (Ev.now _)
    simp only [laws_markIntS.l0]
    rw [cnt_len, if_neg (by omega)]
  | succ d ih =>
    intro j hj
    have hlt : j < l.length := by omega
    refine Ev.step (fun k => ?_) (ih (j + 1) (by omega))
    simp only [laws_markIntS.l0]
    have e : (cnt j ++ l.drop j).set j ((j + 1 : Nat) : Int) = cnt (j + 1) ++ l.drop (j + 1) := by
      rw [List.set_append, cnt_len, if_neg (by omega), Nat.sub_self, List.drop_eq_getElem_cons hlt, List.set_cons_zero]
      unfold cnt
      rw [List.range_succ, List.map_append]
      simp
    have hlen : (cnt j ++ l.drop j).length = l.length := by rw [List.length_append, cnt_len, List.length_drop]; omega
    rw [hlen, if_pos (show (j : Int) < (l.length : Int) by omega), if_pos (show (0 : Int) ≤ (j : Int) by omega), Int.toNat_natCast, e, w64 (n := (j : Int) + 1) (by omega) (by omega), w64 (n := ((j + 1 : Nat) : Int) + 1) (by omega) (by omega)]
    rfl
theorem markI_ok (l : List Int) (hl : l.length ≤ 1048576) : Ev (fun k => laws_markIntS.f k l 1) (((l.length + 1 : Nat) : Int), cnt l.length) := by
  have := markI_l0 l hl l.length 0 (by omega)
  exact Ev.congr (fun k => by unfold laws_markIntS.f; rfl) this
theorem heldI_l0 (n : Nat) (hn : n ≤ 1048576) (d : Nat) : ∀ j : Nat, j + d = n → Ev (fun k => laws_heldIntS.l0 k (cnt n) ((j + 1 : Nat) : Int) (j : Int)) ((n + 1 : Nat) : Int) := by
  induction d with
  | zero =>
    intro j hj
    obtain rfl : j = n := by omega
    refine Ev.step (f := fun _ => some ((j + 1 : Nat) : Int)) (fun k => ?_) (Ev.now _)
    simp only [laws_heldIntS.l0]
    rw [cnt_len, if_neg (by omega)]
  | succ d ih =>
    intro j hj
    refine Ev.step (fun k => ?_) (ih (j + 1) (by omega))
    simp only [laws_heldIntS.l0]
    rw [cnt_len, if_pos (show (j : Int) < (n : Int) by omega), if_pos (show (0 : Int) ≤ (j : Int) by omega), cnt_at n j (by omega), if_pos rfl, w64 (n := (j : Int) + 1) (by omega) (by omega), w64 (n := ((j + 1 : Nat) : Int) + 1) (by omega) (by omega)]
    rfl
theorem heldI_ok (n : Nat) (hn : n ≤ 1048576) : Ev (fun k => laws_heldIntS.f k (cnt n) 1) ((n + 1 : Nat) : Int) := by
  have := heldI_l0 n hn n 0 (by omega)
  exact Ev.congr (fun k => by unfold laws_heldIntS.f; rfl) this
theorem markT_l0 (d : Nat) : ∀ (l : List S46) (x : Int) (j : Nat), l.length ≤ 1048576 → j + d = l.length → 0 ≤ x → x + 3 * d ≤ 1000000000 → ∃ r, Ev (fun k => laws_markTypeNodeS.l0 k l x (j : Int)) r ∧ 0 ≤ r.1 := by
  induction d with
  | zero =>
    intro l x j hl hj h0 h1
    refine ⟨(x, l), Ev.step (f := fun _ => some (x, l)) (fun k => ?_) (Ev.now _), h0⟩
    simp only [laws_markTypeNodeS.l0]
    rw [if_neg (by omega)]
  | succ d ih =>
    intro l x j hl hj h0 h1
    have step : ∃ l2 : List S46, l2.length = l.length ∧ ∀ k, laws_markTypeNodeS.l0 (k + 1) l x (j : Int) = laws_markTypeNodeS.l0 k l2 (x + 3) ((j + 1 : Nat) : Int) := by
      refine ⟨_, ?_, fun k => by
        simp only [laws_markTypeNodeS.l0, Option.bind_some]
        rw [if_pos (show (j : Int) < (l.length : Int) by omega), if_pos (show (0 : Int) ≤ (j : Int) by omega), w64 (n := (j : Int) + 1) (by omega) (by omega), w64 (n := x + 1) (by omega) (by omega), w64 (n := x + 1 + 1) (by omega) (by omega), w64 (n := x + 1 + 1 + 1) (by omega) (by omega), show x + 1 + 1 + 1 = x + 3 by omega]
        rfl⟩
      simp
    obtain ⟨l2, hl2, hs⟩ := step
    obtain ⟨r, hr, hr0⟩ := ih l2 (x + 3) (j + 1) (by omega) (by omega) (by omega) (by omega)
    exact ⟨r, Ev.step hs hr, hr0⟩
theorem markT_ok (l : List S46) (hl : l.length ≤ 1048576) : ∃ r, Ev (fun k => laws_markTypeNodeS.f k l 1) r ∧ 0 ≤ r.1 := markT_l0 l.length l 1 0 hl (by omega) (by omega) (by omega)
end Go.Proofs.Ytlgegdgilkaldaa.Ty
