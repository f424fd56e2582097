/- A drawn type's room, side, places and core types are as they should be. -/
import Derived.Test.YtlgegdgilkaldaaTe
import Derived.Test.YtlgegdgilkaldaaTg
import Derived.Test.YtlgegdgilkaldaaTd
import Derived.Test.YtlgegdgilkaldaaQx20
namespace Go.Proofs.Ytlgegdgilkaldaa.Pure
open Go.RowKit Go.Proofs.Ytlgegdgilkaldaa.Q Go.Proofs.YtlgegdgilkaldaaW.PrintWords Go.Proofs.YtlgegdgilkaldaaW.PrintLast Go.Proofs.YtlgegdgilkaldaaW.PrintMore Go.Proofs.Ytlgegdgilkaldaa.Mb Go.Proofs.Ytlgegdgilkaldaa.Ty Go.Proofs.Ytlgegdgilkaldaa.Cur
set_option linter.unusedSimpArgs false
set_option linter.unusedVariables false
theorem same_l0 (l : List Int) (hl : l.length ≤ 1048576) (d : Nat) : ∀ j : Nat, j + d = l.length → Ev (fun k => laws_sameInts.l0 k l l (l.length : Int) (j : Int)) true := by
  induction d with
  | zero =>
    intro j hj
    refine Ev.step (f := fun _ => some true) (fun k => ?_) (Ev.now _)
    simp only [laws_sameInts.l0]
    rw [if_neg (by omega)]
  | succ d ih =>
    intro j hj
    refine Ev.step (fun k => ?_) (ih (j + 1) (by omega))
    simp only [laws_sameInts.l0]
    rw [if_pos (show (j : Int) < (l.length : Int) by omega), if_pos (show (0 : Int) ≤ (j : Int) by omega), if_pos (show (j : Int) < (l.length : Int) by omega), if_pos (show (j : Int) < (l.length : Int) by omega), if_pos trivial, w64 (n := (j : Int) + 1) (by omega) (by omega)]
    rfl
theorem same_ok (l : List Int) (hl : l.length ≤ 1048576) : Ev (fun k => laws_sameInts.f k l l) true := by
  refine Ev.congr (fun k => ?_) (same_l0 l hl l.length 0 (by omega))
  unfold laws_sameInts.f
  rw [if_pos rfl]
  rfl
theorem fl_some (l : List S46) (hg : good l = true) (h : (fl l).2 = true) : 0 < (fl l).1.length := by
  unfold fl at h ⊢
  split
  · exact flat_some 8 (tree l) (tree_gt l hg)
  · rename_i h2
    rw [if_neg h2] at h
    cases h
/-- Every place lies where it should. -/
theorem room_l0 (l : List S46) (hg : good l = true) (n : Int) (hn : n ≤ 100000000000) (ps : List Int) (hl : ps.length ≤ 1048576) (d : Nat) : ∀ (j : Nat) (a : Int), j + d = ps.length → Line n ((tree l).f0 == 14) a (ps.drop j) →
    Ev (fun k => laws_FnRoom.l0 k l n a ps (ps.length : Int) (j : Int)) true := by
  have hl1 := good_len l hg
  induction d with
  | zero =>
    intro j a hj _
    refine Ev.step (fun k => by simp only [laws_FnRoom.l0]; rw [if_neg (show ¬ (j : Int) < (ps.length : Int) by omega)]) (Ev.bind (impl_FlatOf l) (Ev.bind (spec_FlatOf l) ?_))
    have hlen := fl_len l
    have hs := fl_some l hg
    generalize fl l = r at hlen hs
    obtain ⟨p, b⟩ := r
    refine Ev.congr (fun k => if_pos (by simp)) (Ev.bind (same_ok p hlen) ?_)
    refine Ev.congr (fun k => ?_) (Ev.now true)
    cases b with
    | true =>
      have := hs rfl
      simp only [if_true]
      rw [decide_eq_true (show ((p.length : Nat) : Int) > 0 by have : 0 < p.length := this; omega)]
    | false => rfl
  | succ d ih =>
    intro j a hj hL
    have hlt : j < ps.length := by omega
    have hrd : rd ps (j : Int) = ps[j] := by
      unfold rd
      rw [Int.toNat_natCast, List.getD_eq_getElem?_getD, List.getElem?_eq_getElem hlt]
      rfl
    rw [List.drop_eq_getElem_cons hlt] at hL
    obtain ⟨h1, h2, h3, h4⟩ := hL
    have hf := tree_f0 l
    refine Ev.step (fun k => ?_) (ih (j + 1) (ps[j] + 1) (by omega) h4)
    simp only [laws_FnRoom.l0]
    rw [hrd, if_pos (show (j : Int) < (ps.length : Int) by omega), if_pos (show (0 : Int) ≤ (j : Int) by omega), if_pos (show (j : Int) < (ps.length : Int) by omega), if_neg (by omega), if_neg (by omega), if_pos (show (0 : Int) < (l.length : Int) by omega), w64 (n := (j : Int) + 1) (by omega) (by omega), w64 (n := ps[j] + 1) (by omega) (by omega), ← hf]
    by_cases c : (tree l).f0 = 14
    · have := h3 (beq_iff_eq.2 c)
      rw [if_pos c, if_neg (by omega)]
      rfl
    · rw [if_neg c]
      rfl
theorem FnRoom : laws_FnRoom.Pure := by
  intro l0 h0 h1 h2
  refine Ev.rounds ?_
  unfold laws_FnRoom.f
  by_cases c : (l0.length : Int) > 1048576
  · exact Ev.congr (fun k => if_pos c) (Ev.now true)
  · refine Ev.congr (fun k => if_neg c) ?_
    obtain ⟨l, hl⟩ := draw_type (u8_of h2)
    have hd : Ev (fun k => spec_DrawOffsetsOf.f k l0) l := Ev.bind hl (Ev.now l)
    refine Ev.bind hd (Ev.bind (impl_SizeOf l) (Ev.bind (impl_AlignOf l) (Ev.bind (impl_OffsetsOf l) (Ev.bind (spec_SizeOf l) (Ev.bind (spec_AlignOf l) (Ev.bind (spec_OffsetsOf l) ?_))))))
    have hlen := offs_len l
    have key : Ev (fun k => laws_FnRoom.j0 k l (if good l = true then ((roomT 9 (tree l)).1, true) else (0, false)).1 (if good l = true then ((roomT 9 (tree l)).1, true) else (0, false)).2 (if good l = true then ((roomT 9 (tree l)).2, true) else (0, false)).1 (offs l).1 false) true := by
      cases hg : good l with
      | false =>
        simp only [Bool.false_eq_true, if_false]
        refine Ev.step (f := fun _ => some true) (fun k => ?_) (Ev.now true)
        simp only [laws_FnRoom.j0, Bool.false_eq_true, if_false]
        rfl
      | true =>
        simp only [if_true]
        have ks : Sane (bnd 8) (roomT 9 (tree l)) := room_sane 8 (by decide) (tree l) (tree_gt l hg)
        obtain ⟨k1, k2, k3, k4⟩ := ks
        have hb := bnd_le 8 (by decide)
        have hL : Line (roomT 9 (tree l)).1 ((tree l).f0 == 14) 0 (offs l).1 := by
          unfold offs
          split
          · rename_i h
            exact places_line 7 (by decide) (tree l) (tree_gt l hg) h.2
          · exact trivial
        have loop := room_l0 l hg (roomT 9 (tree l)).1 (by omega) (offs l).1 hlen (offs l).1.length 0 0 (by omega) hL
        generalize roomT 9 (tree l) = p at k1 k2 k3 k4 loop
        have j1 : Ev (fun k => laws_FnRoom.j1 k l p.1 (offs l).1 false) true := Ev.step (fun k => by simp only [laws_FnRoom.j1, Bool.false_eq_true, if_false]; rfl) loop
        have hdec : decide (p.1 < p.2) = false := decide_eq_false (by rcases k1 with h | h | h | h <;> rw [h] at k2 <;> omega)
        have ht : Int.tmod p.1 p.2 = 0 := by rw [Int.tmod_eq_emod_of_nonneg (by omega)]; exact k2
        refine Ev.step (fun k => ?_) j1
        simp only [laws_FnRoom.j0, Bool.false_eq_true, if_false, if_true, ht, hdec]
        rcases k1 with h | h | h | h <;> rw [h] <;> rfl
    refine Ev.congr (fun k => ?_) (Ev.bind (same_ok (offs l).1 hlen) (f := fun k t => laws_FnRoom.j0 k l (if good l = true then ((roomT 9 (tree l)).1, true) else (0, false)).1 (if good l = true then ((roomT 9 (tree l)).1, true) else (0, false)).2 (if good l = true then ((roomT 9 (tree l)).2, true) else (0, false)).1 (offs l).1 (!t)) key)
    have e2 : (if good l = true then ((roomT 9 (tree l)).2, true) else ((0 : Int), false)).2 = (if good l = true then ((roomT 9 (tree l)).1, true) else ((0 : Int), false)).2 := by
      cases good l <;> rfl
    simp only [e2, bne_self_eq_false, Bool.false_eq_true, if_false, if_true]
end Go.Proofs.Ytlgegdgilkaldaa.Pure
