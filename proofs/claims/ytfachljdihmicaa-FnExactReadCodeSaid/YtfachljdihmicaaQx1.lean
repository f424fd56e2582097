-- Written by a program of this session; it walks the functions that the law reaches.
import Derived.Test.YtfachljdihmicaaQx0
namespace Go.Proofs.Ytfachljdihmicaa.Q
open Go.RowKit Go.Proofs.YtfachljdihmicaaW.PrintWords Go.Proofs.YtfachljdihmicaaW.PrintLast Go.Proofs.YtfachljdihmicaaW.PrintMore
attribute [local go_sem] max2_int min2_int max_two min_two max_three min_three max_four min_four   -- for this text's walks alone
set_option linter.unusedVariables false
set_option linter.unusedSimpArgs false

/-! ### spec_l1In: function 85 -/
def spec_l1In.f (a0 : Int) (a1 : Int) (a2 : Int) : Option (Bool) := if a0 ≥ a1 then (some (decide (a0 ≤ a2))) else (some false)
set_option maxHeartbeats 8000000 in
set_option maxRecDepth 100000 in
theorem spec_l1In.calls (a0 : Int) (a1 : Int) (a2 : Int) (r : Bool) (w : World) (h : spec_l1In.f a0 a1 a2 = some r) :
  Calls Try.prog 85 #[.int .i64 a0, .int .i64 a1, .int .i64 a2] w fun e w' => e = .returned (.bool r) ∧ Drawn0 w w' := by
 have H : (if a0 ≥ a1 then (some (decide (a0 ≤ a2))) else (some false)) = some r := h
 clear h
 by_cases c4 : a0 ≥ a1
 ·
  rw [if_pos c4] at H
  have c4b0 : decide (a1 ≤ a0) = true := decide_eq_true c4
  clear c4
  obtain rfl := Option.some.inj H
  simp only [Option.some.injEq, Prod.mk.injEq] at H
  obtain ⟨rfl⟩ := H
  go_enter Try.func85, Try.ntmps85
  go_wp2
  go_ret
  exact ⟨by first | rfl | (simp; done) | (simp [*]; done), by repeat (first | exact Drawn0.refl _ | apply Drawn0.step)⟩
 ·
  rw [if_neg c4] at H
  have c4b0 : decide (a1 ≤ a0) = false := decide_eq_false c4
  clear c4
  obtain rfl := Option.some.inj H
  simp only [Option.some.injEq, Prod.mk.injEq] at H
  obtain ⟨rfl⟩ := H
  go_enter Try.func85, Try.ntmps85
  go_wp2
  go_ret
  exact ⟨by first | rfl | (simp; done) | (simp [*]; done), by repeat (first | exact Drawn0.refl _ | apply Drawn0.step)⟩

end Go.Proofs.Ytfachljdihmicaa.Q

namespace Go.Proofs.Ytfachljdihmicaa.Q
open Go.RowKit Go.Proofs.YtfachljdihmicaaW.PrintWords Go.Proofs.YtfachljdihmicaaW.PrintLast Go.Proofs.YtfachljdihmicaaW.PrintMore
attribute [local go_sem] max2_int min2_int max_two min_two max_three min_three max_four min_four   -- for this text's walks alone
set_option linter.unusedVariables false
set_option linter.unusedSimpArgs false

/-! ### spec_l6Shape: function 100 -/
mutual
def spec_l6Shape.j0 : Nat → Int → Int → Bool → Option (Int)
 | 0, _, _, _ => none
 | k + 1, x0, x3, x4 => if x4 = true then (some 0) else (if x3 = 2 then (spec_l6Shape.j1 k x0 x3 (x3 == 2)) else (if x3 = 3 then (spec_l6Shape.j1 k x0 x3 (x3 == 3)) else (spec_l6Shape.j1 k x0 x3 (x3 == 4))))
def spec_l6Shape.j1 : Nat → Int → Int → Bool → Option (Int)
 | 0, _, _, _ => none
 | k + 1, x0, x3, x19 => if x19 = true then (some 1) else (if x3 = 12 then (spec_l6Shape.j2 k x0 x3 (x3 == 12)) else (if x3 = 13 then (spec_l6Shape.j2 k x0 x3 (x3 == 13)) else (if x3 = 16 then (spec_l6Shape.j2 k x0 x3 (x3 == 16)) else (if x3 = 32 then (spec_l6Shape.j2 k x0 x3 (x3 == 32)) else (if x3 = 33 then (spec_l6Shape.j2 k x0 x3 (x3 == 33)) else (if x3 = 34 then (spec_l6Shape.j2 k x0 x3 (x3 == 34)) else (if x3 = 35 then (spec_l6Shape.j2 k x0 x3 (x3 == 35)) else (spec_l6Shape.j2 k x0 x3 (x3 == 36)))))))))
def spec_l6Shape.j2 : Nat → Int → Int → Bool → Option (Int)
 | 0, _, _, _ => none
 | k + 1, x0, x3, x23 => if x23 = true then (some 2) else (if x3 = 40 then (spec_l6Shape.j3 k x0 x3 (x3 == 40)) else (if x3 = 41 then (spec_l6Shape.j3 k x0 x3 (x3 == 41)) else (if x3 = 54 then (spec_l6Shape.j3 k x0 x3 (x3 == 54)) else (spec_l6Shape.j3 k x0 x3 (x3 == 55)))))
def spec_l6Shape.j3 : Nat → Int → Int → Bool → Option (Int)
 | 0, _, _, _ => none
 | k + 1, x0, x3, x32 => if x32 = true then (some 3) else (if x3 = 65 then (some 4) else (if x3 = 66 then (some 5) else (if x3 = 67 then (some 6) else ((spec_l1In.f x0 97 123).bind fun t101 => (if t101 = true then (some 0) else ((spec_l1In.f x0 129 155).bind fun t102 => (if t102 = true then (some 0) else ((spec_l1In.f x0 161 169).bind fun t103 => (if t103 = true then (some 0) else (some (-1)))))))))))
end
def spec_l6Shape.f (k : Nat) (a0 : Int) : Option (Int) := if a0 = 0 then (spec_l6Shape.j0 k a0 a0 (a0 == 0)) else (if a0 = 1 then (spec_l6Shape.j0 k a0 a0 (a0 == 1)) else (if a0 = 5 then (spec_l6Shape.j0 k a0 a0 (a0 == 5)) else (if a0 = 11 then (spec_l6Shape.j0 k a0 a0 (a0 == 11)) else (if a0 = 15 then (spec_l6Shape.j0 k a0 a0 (a0 == 15)) else (if a0 = 26 then (spec_l6Shape.j0 k a0 a0 (a0 == 26)) else (if a0 = 27 then (spec_l6Shape.j0 k a0 a0 (a0 == 27)) else (if a0 = 63 then (spec_l6Shape.j0 k a0 a0 (a0 == 63)) else (if a0 = 64 then (spec_l6Shape.j0 k a0 a0 (a0 == 64)) else (if a0 = 176 then (spec_l6Shape.j0 k a0 a0 (a0 == 176)) else (if a0 = 177 then (spec_l6Shape.j0 k a0 a0 (a0 == 177)) else (if a0 = 178 then (spec_l6Shape.j0 k a0 a0 (a0 == 178)) else (if a0 = 179 then (spec_l6Shape.j0 k a0 a0 (a0 == 179)) else (spec_l6Shape.j0 k a0 a0 (a0 == 180))))))))))))))
theorem spec_l6Shape.mono_l : ∀ k, (∀ y0 y1 y2, LeO (spec_l6Shape.j0 k y0 y1 y2) (spec_l6Shape.j0 (k + 1) y0 y1 y2)) ∧ (∀ y0 y1 y2, LeO (spec_l6Shape.j1 k y0 y1 y2) (spec_l6Shape.j1 (k + 1) y0 y1 y2)) ∧ (∀ y0 y1 y2, LeO (spec_l6Shape.j2 k y0 y1 y2) (spec_l6Shape.j2 (k + 1) y0 y1 y2)) ∧ (∀ y0 y1 y2, LeO (spec_l6Shape.j3 k y0 y1 y2) (spec_l6Shape.j3 (k + 1) y0 y1 y2))
 | 0 => ⟨fun _ _ _ r h => by simp [spec_l6Shape.j0] at h, fun _ _ _ r h => by simp [spec_l6Shape.j1] at h, fun _ _ _ r h => by simp [spec_l6Shape.j2] at h, fun _ _ _ r h => by simp [spec_l6Shape.j3] at h⟩
 | k + 1 => by
  obtain ⟨ih0, ih1, ih2, ih3⟩ := spec_l6Shape.mono_l k
  refine ⟨?_, ?_, ?_, ?_⟩
  ·
   intro y0 y1 y2
   unfold spec_l6Shape.j0
   repeat' first
   | (with_reducible exact ih0 _ _ _)
   | (with_reducible exact ih1 _ _ _)
   | (with_reducible exact ih2 _ _ _)
   | (with_reducible exact ih3 _ _ _)
   | (with_reducible exact LeO.refl _)
   | (with_reducible exact LeO.none _)
   | (with_reducible refine LeO.ite ?_ ?_)
   | (with_reducible refine LeO.bind ?_ (fun _ => ?_))
   | exact ih0 _ _ _
   | exact ih1 _ _ _
   | exact ih2 _ _ _
   | exact ih3 _ _ _
   | exact LeO.none _
   | refine LeO.ite ?_ ?_
   | refine LeO.bind ?_ (fun _ => ?_)
  ·
   intro y0 y1 y2
   unfold spec_l6Shape.j1
   repeat' first
   | (with_reducible exact ih0 _ _ _)
   | (with_reducible exact ih1 _ _ _)
   | (with_reducible exact ih2 _ _ _)
   | (with_reducible exact ih3 _ _ _)
   | (with_reducible exact LeO.refl _)
   | (with_reducible exact LeO.none _)
   | (with_reducible refine LeO.ite ?_ ?_)
   | (with_reducible refine LeO.bind ?_ (fun _ => ?_))
   | exact ih0 _ _ _
   | exact ih1 _ _ _
   | exact ih2 _ _ _
   | exact ih3 _ _ _
   | exact LeO.none _
   | refine LeO.ite ?_ ?_
   | refine LeO.bind ?_ (fun _ => ?_)
  ·
   intro y0 y1 y2
   unfold spec_l6Shape.j2
   repeat' first
   | (with_reducible exact ih0 _ _ _)
   | (with_reducible exact ih1 _ _ _)
   | (with_reducible exact ih2 _ _ _)
   | (with_reducible exact ih3 _ _ _)
   | (with_reducible exact LeO.refl _)
   | (with_reducible exact LeO.none _)
   | (with_reducible refine LeO.ite ?_ ?_)
   | (with_reducible refine LeO.bind ?_ (fun _ => ?_))
   | exact ih0 _ _ _
   | exact ih1 _ _ _
   | exact ih2 _ _ _
   | exact ih3 _ _ _
   | exact LeO.none _
   | refine LeO.ite ?_ ?_
   | refine LeO.bind ?_ (fun _ => ?_)
  ·
   intro y0 y1 y2
   unfold spec_l6Shape.j3
   repeat' first
   | (with_reducible exact ih0 _ _ _)
   | (with_reducible exact ih1 _ _ _)
   | (with_reducible exact ih2 _ _ _)
   | (with_reducible exact ih3 _ _ _)
   | (with_reducible exact LeO.refl _)
   | (with_reducible exact LeO.none _)
   | (with_reducible refine LeO.ite ?_ ?_)
   | (with_reducible refine LeO.bind ?_ (fun _ => ?_))
   | exact ih0 _ _ _
   | exact ih1 _ _ _
   | exact ih2 _ _ _
   | exact ih3 _ _ _
   | exact LeO.none _
   | refine LeO.ite ?_ ?_
   | refine LeO.bind ?_ (fun _ => ?_)
theorem spec_l6Shape.mono : ∀ a0 k, LeO (spec_l6Shape.f k a0) (spec_l6Shape.f (k + 1) a0) := by
 intro a0 k
 obtain ⟨ih0, ih1, ih2, ih3⟩ := spec_l6Shape.mono_l k
 unfold spec_l6Shape.f
 repeat' first
   | (with_reducible exact ih0 _ _ _)
   | (with_reducible exact ih1 _ _ _)
   | (with_reducible exact ih2 _ _ _)
   | (with_reducible exact ih3 _ _ _)
   | (with_reducible exact LeO.refl _)
   | (with_reducible exact LeO.none _)
   | (with_reducible refine LeO.ite ?_ ?_)
   | (with_reducible refine LeO.bind ?_ (fun _ => ?_))
   | exact ih0 _ _ _
   | exact ih1 _ _ _
   | exact ih2 _ _ _
   | exact ih3 _ _ _
   | exact LeO.none _
   | refine LeO.ite ?_ ?_
   | refine LeO.bind ?_ (fun _ => ?_)
set_option maxHeartbeats 8000000 in
set_option maxRecDepth 100000 in
theorem spec_l6Shape.calls (k : Nat) (a0 : Int) (r : Int) (w : World) (h : spec_l6Shape.f k a0 = some r) :
  Calls Try.prog 100 #[.int .i64 a0] w fun e w' => e = .returned (.int .i64 r) ∧ Drawn0 w w' := by
 have H : (if a0 = 0 then (spec_l6Shape.j0 k a0 a0 (a0 == 0)) else (if a0 = 1 then (spec_l6Shape.j0 k a0 a0 (a0 == 1)) else (if a0 = 5 then (spec_l6Shape.j0 k a0 a0 (a0 == 5)) else (if a0 = 11 then (spec_l6Shape.j0 k a0 a0 (a0 == 11)) else (if a0 = 15 then (spec_l6Shape.j0 k a0 a0 (a0 == 15)) else (if a0 = 26 then (spec_l6Shape.j0 k a0 a0 (a0 == 26)) else (if a0 = 27 then (spec_l6Shape.j0 k a0 a0 (a0 == 27)) else (if a0 = 63 then (spec_l6Shape.j0 k a0 a0 (a0 == 63)) else (if a0 = 64 then (spec_l6Shape.j0 k a0 a0 (a0 == 64)) else (if a0 = 176 then (spec_l6Shape.j0 k a0 a0 (a0 == 176)) else (if a0 = 177 then (spec_l6Shape.j0 k a0 a0 (a0 == 177)) else (if a0 = 178 then (spec_l6Shape.j0 k a0 a0 (a0 == 178)) else (if a0 = 179 then (spec_l6Shape.j0 k a0 a0 (a0 == 179)) else (spec_l6Shape.j0 k a0 a0 (a0 == 180))))))))))))))) = some r := h
 clear h
 have HC2 := Aside0.mk H
 clear H
 go_enter Try.func100, Try.ntmps100
 go_upto_if 4 with (fail)
 go_cut [4] (fun v4 wc => ∃ (kq : Nat) (x4_1 : Bool), v4 = .bool x4_1 ∧ Aside0 (spec_l6Shape.j0 kq a0 a0 x4_1 = some r) ∧ Aside0 (kq ≤ k) ∧ Drawn0 w wc)
 case first =>
  have H := HC2.out
  clear HC2
  by_cases c3 : a0 = 0
  ·
   rw [if_pos c3] at H
   have c3b0 : (a0 == 0) = true := beq_iff_eq.mpr c3
   have c3b1 : (a0 != 0) = false := bne_eq_false_iff_eq.mpr c3
   clear c3
   (first | rw [c3b0] | (simp only [i64_w, i32_w]; rw [c3b0]) | skip)
   have H' := Aside0.mk H
   clear H
   go_wp2
   go_meet
   case rel => exact ⟨_, ((a0 == 0)), (by first | rfl | (simp; done) | (simp [*]; done)), H', ⟨by first | omega | exact Nat.le_refl _⟩, by repeat (first | exact Drawn0.refl _ | apply Drawn0.step)⟩
  ·
   rw [if_neg c3] at H
   have c3b0 : (a0 == 0) = false := beq_eq_false_iff_ne.mpr c3
   have c3b1 : (a0 != 0) = true := bne_iff_ne.mpr c3
   (first | rw [c3b0] | (simp only [i64_w, i32_w]; rw [c3b0]) | skip)
   by_cases c4 : a0 = 1
   ·
    rw [if_pos c4] at H
    have c4b0 : (a0 == 1) = true := beq_iff_eq.mpr c4
    have c4b1 : (a0 != 1) = false := bne_eq_false_iff_eq.mpr c4
    clear c4
    have H' := Aside0.mk H
    clear H
    go_wp2
    go_meet
    case rel => exact ⟨_, ((a0 == 1)), (by first | rfl | (simp; done) | (simp [*]; done)), H', ⟨by first | omega | exact Nat.le_refl _⟩, by repeat (first | exact Drawn0.refl _ | apply Drawn0.step)⟩
   ·
    rw [if_neg c4] at H
    have c4b0 : (a0 == 1) = false := beq_eq_false_iff_ne.mpr c4
    have c4b1 : (a0 != 1) = true := bne_iff_ne.mpr c4
    by_cases c5 : a0 = 5
    ·
     rw [if_pos c5] at H
     have c5b0 : (a0 == 5) = true := beq_iff_eq.mpr c5
     have c5b1 : (a0 != 5) = false := bne_eq_false_iff_eq.mpr c5
     clear c5
     have H' := Aside0.mk H
     clear H
     go_wp2
     go_meet
     case rel => exact ⟨_, ((a0 == 5)), (by first | rfl | (simp; done) | (simp [*]; done)), H', ⟨by first | omega | exact Nat.le_refl _⟩, by repeat (first | exact Drawn0.refl _ | apply Drawn0.step)⟩
    ·
     rw [if_neg c5] at H
     have c5b0 : (a0 == 5) = false := beq_eq_false_iff_ne.mpr c5
     have c5b1 : (a0 != 5) = true := bne_iff_ne.mpr c5
     by_cases c6 : a0 = 11
     ·
      rw [if_pos c6] at H
      have c6b0 : (a0 == 11) = true := beq_iff_eq.mpr c6
      have c6b1 : (a0 != 11) = false := bne_eq_false_iff_eq.mpr c6
      clear c6
      have H' := Aside0.mk H
      clear H
      go_wp2
      go_meet
      case rel => exact ⟨_, ((a0 == 11)), (by first | rfl | (simp; done) | (simp [*]; done)), H', ⟨by first | omega | exact Nat.le_refl _⟩, by repeat (first | exact Drawn0.refl _ | apply Drawn0.step)⟩
     ·
      rw [if_neg c6] at H
      have c6b0 : (a0 == 11) = false := beq_eq_false_iff_ne.mpr c6
      have c6b1 : (a0 != 11) = true := bne_iff_ne.mpr c6
      by_cases c7 : a0 = 15
      ·
       rw [if_pos c7] at H
       have c7b0 : (a0 == 15) = true := beq_iff_eq.mpr c7
       have c7b1 : (a0 != 15) = false := bne_eq_false_iff_eq.mpr c7
       clear c7
       have H' := Aside0.mk H
       clear H
       go_wp2
       go_meet
       case rel => exact ⟨_, ((a0 == 15)), (by first | rfl | (simp; done) | (simp [*]; done)), H', ⟨by first | omega | exact Nat.le_refl _⟩, by repeat (first | exact Drawn0.refl _ | apply Drawn0.step)⟩
      ·
       rw [if_neg c7] at H
       have c7b0 : (a0 == 15) = false := beq_eq_false_iff_ne.mpr c7
       have c7b1 : (a0 != 15) = true := bne_iff_ne.mpr c7
       by_cases c8 : a0 = 26
       ·
        rw [if_pos c8] at H
        have c8b0 : (a0 == 26) = true := beq_iff_eq.mpr c8
        have c8b1 : (a0 != 26) = false := bne_eq_false_iff_eq.mpr c8
        clear c8
        have H' := Aside0.mk H
        clear H
        go_wp2
        go_meet
        case rel => exact ⟨_, ((a0 == 26)), (by first | rfl | (simp; done) | (simp [*]; done)), H', ⟨by first | omega | exact Nat.le_refl _⟩, by repeat (first | exact Drawn0.refl _ | apply Drawn0.step)⟩
       ·
        rw [if_neg c8] at H
        have c8b0 : (a0 == 26) = false := beq_eq_false_iff_ne.mpr c8
        have c8b1 : (a0 != 26) = true := bne_iff_ne.mpr c8
        by_cases c9 : a0 = 27
        ·
         rw [if_pos c9] at H
         have c9b0 : (a0 == 27) = true := beq_iff_eq.mpr c9
         have c9b1 : (a0 != 27) = false := bne_eq_false_iff_eq.mpr c9
         clear c9
         have H' := Aside0.mk H
         clear H
         go_wp2
         go_meet
         case rel => exact ⟨_, ((a0 == 27)), (by first | rfl | (simp; done) | (simp [*]; done)), H', ⟨by first | omega | exact Nat.le_refl _⟩, by repeat (first | exact Drawn0.refl _ | apply Drawn0.step)⟩
        ·
         rw [if_neg c9] at H
         have c9b0 : (a0 == 27) = false := beq_eq_false_iff_ne.mpr c9
         have c9b1 : (a0 != 27) = true := bne_iff_ne.mpr c9
         by_cases c10 : a0 = 63
         ·
          rw [if_pos c10] at H
          have c10b0 : (a0 == 63) = true := beq_iff_eq.mpr c10
          have c10b1 : (a0 != 63) = false := bne_eq_false_iff_eq.mpr c10
          clear c10
          have H' := Aside0.mk H
          clear H
          go_wp2
          go_meet
          case rel => exact ⟨_, ((a0 == 63)), (by first | rfl | (simp; done) | (simp [*]; done)), H', ⟨by first | omega | exact Nat.le_refl _⟩, by repeat (first | exact Drawn0.refl _ | apply Drawn0.step)⟩
         ·
          rw [if_neg c10] at H
          have c10b0 : (a0 == 63) = false := beq_eq_false_iff_ne.mpr c10
          have c10b1 : (a0 != 63) = true := bne_iff_ne.mpr c10
          by_cases c11 : a0 = 64
          ·
           rw [if_pos c11] at H
           have c11b0 : (a0 == 64) = true := beq_iff_eq.mpr c11
           have c11b1 : (a0 != 64) = false := bne_eq_false_iff_eq.mpr c11
           clear c11
           have H' := Aside0.mk H
           clear H
           go_wp2
           go_meet
           case rel => exact ⟨_, ((a0 == 64)), (by first | rfl | (simp; done) | (simp [*]; done)), H', ⟨by first | omega | exact Nat.le_refl _⟩, by repeat (first | exact Drawn0.refl _ | apply Drawn0.step)⟩
          ·
           rw [if_neg c11] at H
           have c11b0 : (a0 == 64) = false := beq_eq_false_iff_ne.mpr c11
           have c11b1 : (a0 != 64) = true := bne_iff_ne.mpr c11
           by_cases c12 : a0 = 176
           ·
            rw [if_pos c12] at H
            have c12b0 : (a0 == 176) = true := beq_iff_eq.mpr c12
            have c12b1 : (a0 != 176) = false := bne_eq_false_iff_eq.mpr c12
            clear c12
            have H' := Aside0.mk H
            clear H
            go_wp2
            go_meet
            case rel => exact ⟨_, ((a0 == 176)), (by first | rfl | (simp; done) | (simp [*]; done)), H', ⟨by first | omega | exact Nat.le_refl _⟩, by repeat (first | exact Drawn0.refl _ | apply Drawn0.step)⟩
           ·
            rw [if_neg c12] at H
            have c12b0 : (a0 == 176) = false := beq_eq_false_iff_ne.mpr c12
            have c12b1 : (a0 != 176) = true := bne_iff_ne.mpr c12
            by_cases c13 : a0 = 177
            ·
             rw [if_pos c13] at H
             have c13b0 : (a0 == 177) = true := beq_iff_eq.mpr c13
             have c13b1 : (a0 != 177) = false := bne_eq_false_iff_eq.mpr c13
             clear c13
             have H' := Aside0.mk H
             clear H
             go_wp2
             go_meet
             case rel => exact ⟨_, ((a0 == 177)), (by first | rfl | (simp; done) | (simp [*]; done)), H', ⟨by first | omega | exact Nat.le_refl _⟩, by repeat (first | exact Drawn0.refl _ | apply Drawn0.step)⟩
            ·
             rw [if_neg c13] at H
             have c13b0 : (a0 == 177) = false := beq_eq_false_iff_ne.mpr c13
             have c13b1 : (a0 != 177) = true := bne_iff_ne.mpr c13
             by_cases c14 : a0 = 178
             ·
              rw [if_pos c14] at H
              have c14b0 : (a0 == 178) = true := beq_iff_eq.mpr c14
              have c14b1 : (a0 != 178) = false := bne_eq_false_iff_eq.mpr c14
              clear c14
              have H' := Aside0.mk H
              clear H
              go_wp2
              go_meet
              case rel => exact ⟨_, ((a0 == 178)), (by first | rfl | (simp; done) | (simp [*]; done)), H', ⟨by first | omega | exact Nat.le_refl _⟩, by repeat (first | exact Drawn0.refl _ | apply Drawn0.step)⟩
             ·
              rw [if_neg c14] at H
              have c14b0 : (a0 == 178) = false := beq_eq_false_iff_ne.mpr c14
              have c14b1 : (a0 != 178) = true := bne_iff_ne.mpr c14
              by_cases c15 : a0 = 179
              ·
               rw [if_pos c15] at H
               have c15b0 : (a0 == 179) = true := beq_iff_eq.mpr c15
               have c15b1 : (a0 != 179) = false := bne_eq_false_iff_eq.mpr c15
               clear c15
               have H' := Aside0.mk H
               clear H
               go_wp2
               go_meet
               case rel => exact ⟨_, ((a0 == 179)), (by first | rfl | (simp; done) | (simp [*]; done)), H', ⟨by first | omega | exact Nat.le_refl _⟩, by repeat (first | exact Drawn0.refl _ | apply Drawn0.step)⟩
              ·
               rw [if_neg c15] at H
               have c15b0 : (a0 == 179) = false := beq_eq_false_iff_ne.mpr c15
               have c15b1 : (a0 != 179) = true := bne_iff_ne.mpr c15
               have H' := Aside0.mk H
               clear H
               go_wp2
               go_meet
               case rel => exact ⟨_, ((a0 == 180)), (by first | rfl | (simp; done) | (simp [*]; done)), H', ⟨by first | omega | exact Nat.le_refl _⟩, by repeat (first | exact Drawn0.refl _ | apply Drawn0.step)⟩
 case rest =>
  clear HC2
  try clear c1
  try clear p2
  try clear c3
  try clear c3b0
  try clear c3b1
  try clear c4
  try clear c4b0
  try clear c4b1
  try clear c5
  try clear c5b0
  try clear c5b1
  try clear c6
  try clear c6b0
  try clear c6b1
  try clear c7
  try clear c7b0
  try clear c7b1
  try clear c8
  try clear c8b0
  try clear c8b1
  try clear c9
  try clear c9b0
  try clear c9b1
  try clear c10
  try clear c10b0
  try clear c10b1
  try clear c11
  try clear c11b0
  try clear c11b1
  try clear c12
  try clear c12b0
  try clear c12b1
  try clear c13
  try clear c13b0
  try clear c13b1
  try clear c14
  try clear c14b0
  try clear c14b1
  try clear c15
  try clear c15b0
  try clear c15b1
  obtain ⟨kq, x4_1, rfl, HA, HJ1, ⟨mc1, rfl⟩⟩ := hcut
  cases kq with
  | zero => exact absurd HA.out (by simp [spec_l6Shape.j0])
  | succ kj1 =>
   have H := HA.out
   clear HA
   simp only [spec_l6Shape.j0] at H
   by_cases c16 : x4_1 = true
   ·
    subst c16
    have H1 : (some 0) = some r := by rw [if_pos rfl] at H; exact H
    clear H
    have H := H1
    clear H1
    obtain rfl := Option.some.inj H
    simp only [Option.some.injEq, Prod.mk.injEq] at H
    obtain ⟨rfl⟩ := H
    go_wp2
    go_ret
    exact ⟨by first | rfl | (simp; done) | (simp [*]; done), by repeat (first | exact Drawn0.refl _ | apply Drawn0.step)⟩
   ·
    replace c16 := Bool.eq_false_iff.mpr c16
    subst c16
    have H1 : (if a0 = 2 then (spec_l6Shape.j1 kj1 a0 a0 (a0 == 2)) else (if a0 = 3 then (spec_l6Shape.j1 kj1 a0 a0 (a0 == 3)) else (spec_l6Shape.j1 kj1 a0 a0 (a0 == 4)))) = some r := by rw [if_neg (show ¬ (false = true) by decide)] at H; exact H
    clear H
    have H := H1
    clear H1
    have HC17 := Aside0.mk H
    clear H
    go_upto_if 19 with (fail)
    go_cut [19] (fun v19 wc => ∃ (kq : Nat) (x19_16 : Bool), v19 = .bool x19_16 ∧ Aside0 (spec_l6Shape.j1 kq a0 a0 x19_16 = some r) ∧ Aside0 (kq ≤ kj1) ∧ Drawn0 w wc)
    case first =>
     have H := HC17.out
     clear HC17
     by_cases c18 : a0 = 2
     ·
      rw [if_pos c18] at H
      have c18b0 : (a0 == 2) = true := beq_iff_eq.mpr c18
      have c18b1 : (a0 != 2) = false := bne_eq_false_iff_eq.mpr c18
      clear c18
      (first | rw [c18b0] | (simp only [i64_w, i32_w]; rw [c18b0]) | skip)
      have H' := Aside0.mk H
      clear H
      go_wp2
      go_meet
      case rel => exact ⟨_, ((a0 == 2)), (by first | rfl | (simp; done) | (simp [*]; done)), H', ⟨by have := HJ1.out; first | omega | exact Nat.le_refl _⟩, by repeat (first | exact Drawn0.refl _ | apply Drawn0.step)⟩
     ·
      rw [if_neg c18] at H
      have c18b0 : (a0 == 2) = false := beq_eq_false_iff_ne.mpr c18
      have c18b1 : (a0 != 2) = true := bne_iff_ne.mpr c18
      (first | rw [c18b0] | (simp only [i64_w, i32_w]; rw [c18b0]) | skip)
      by_cases c19 : a0 = 3
      ·
       rw [if_pos c19] at H
       have c19b0 : (a0 == 3) = true := beq_iff_eq.mpr c19
       have c19b1 : (a0 != 3) = false := bne_eq_false_iff_eq.mpr c19
       clear c19
       have H' := Aside0.mk H
       clear H
       go_wp2
       go_meet
       case rel => exact ⟨_, ((a0 == 3)), (by first | rfl | (simp; done) | (simp [*]; done)), H', ⟨by have := HJ1.out; first | omega | exact Nat.le_refl _⟩, by repeat (first | exact Drawn0.refl _ | apply Drawn0.step)⟩
      ·
       rw [if_neg c19] at H
       have c19b0 : (a0 == 3) = false := beq_eq_false_iff_ne.mpr c19
       have c19b1 : (a0 != 3) = true := bne_iff_ne.mpr c19
       have H' := Aside0.mk H
       clear H
       go_wp2
       go_meet
       case rel => exact ⟨_, ((a0 == 4)), (by first | rfl | (simp; done) | (simp [*]; done)), H', ⟨by have := HJ1.out; first | omega | exact Nat.le_refl _⟩, by repeat (first | exact Drawn0.refl _ | apply Drawn0.step)⟩
    case rest =>
     clear HC17
     try clear c1
     try clear p2
     try clear c3
     try clear c3b0
     try clear c3b1
     try clear c4
     try clear c4b0
     try clear c4b1
     try clear c5
     try clear c5b0
     try clear c5b1
     try clear c6
     try clear c6b0
     try clear c6b1
     try clear c7
     try clear c7b0
     try clear c7b1
     try clear c8
     try clear c8b0
     try clear c8b1
     try clear c9
     try clear c9b0
     try clear c9b1
     try clear c10
     try clear c10b0
     try clear c10b1
     try clear c11
     try clear c11b0
     try clear c11b1
     try clear c12
     try clear c12b0
     try clear c12b1
     try clear c13
     try clear c13b0
     try clear c13b1
     try clear c14
     try clear c14b0
     try clear c14b1
     try clear c15
     try clear c15b0
     try clear c15b1
     try clear c16
     try clear c18
     try clear c18b0
     try clear c18b1
     try clear c19
     try clear c19b0
     try clear c19b1
     try clear p2
     obtain ⟨kq, x19_16, rfl, HA, HJ16, ⟨mc16, rfl⟩⟩ := hcut
     cases kq with
     | zero => exact absurd HA.out (by simp [spec_l6Shape.j1])
     | succ kj16 =>
      have H := HA.out
      clear HA
      simp only [spec_l6Shape.j1] at H
      by_cases c20 : x19_16 = true
      ·
       subst c20
       have H1 : (some 1) = some r := by rw [if_pos rfl] at H; exact H
       clear H
       have H := H1
       clear H1
       obtain rfl := Option.some.inj H
       simp only [Option.some.injEq, Prod.mk.injEq] at H
       obtain ⟨rfl⟩ := H
       go_wp2
       go_ret
       exact ⟨by first | rfl | (simp; done) | (simp [*]; done), by repeat (first | exact Drawn0.refl _ | apply Drawn0.step)⟩
      ·
       replace c20 := Bool.eq_false_iff.mpr c20
       subst c20
       have H1 : (if a0 = 12 then (spec_l6Shape.j2 kj16 a0 a0 (a0 == 12)) else (if a0 = 13 then (spec_l6Shape.j2 kj16 a0 a0 (a0 == 13)) else (if a0 = 16 then (spec_l6Shape.j2 kj16 a0 a0 (a0 == 16)) else (if a0 = 32 then (spec_l6Shape.j2 kj16 a0 a0 (a0 == 32)) else (if a0 = 33 then (spec_l6Shape.j2 kj16 a0 a0 (a0 == 33)) else (if a0 = 34 then (spec_l6Shape.j2 kj16 a0 a0 (a0 == 34)) else (if a0 = 35 then (spec_l6Shape.j2 kj16 a0 a0 (a0 == 35)) else (spec_l6Shape.j2 kj16 a0 a0 (a0 == 36))))))))) = some r := by rw [if_neg (show ¬ (false = true) by decide)] at H; exact H
       clear H
       have H := H1
       clear H1
       have HC21 := Aside0.mk H
       clear H
       go_upto_if 23 with (fail)
       go_cut [23] (fun v23 wc => ∃ (kq : Nat) (x23_20 : Bool), v23 = .bool x23_20 ∧ Aside0 (spec_l6Shape.j2 kq a0 a0 x23_20 = some r) ∧ Aside0 (kq ≤ kj16) ∧ Drawn0 w wc)
       case first =>
        have H := HC21.out
        clear HC21
        by_cases c22 : a0 = 12
        ·
         rw [if_pos c22] at H
         have c22b0 : (a0 == 12) = true := beq_iff_eq.mpr c22
         have c22b1 : (a0 != 12) = false := bne_eq_false_iff_eq.mpr c22
         clear c22
         (first | rw [c22b0] | (simp only [i64_w, i32_w]; rw [c22b0]) | skip)
         have H' := Aside0.mk H
         clear H
         go_wp2
         go_meet
         case rel => exact ⟨_, ((a0 == 12)), (by first | rfl | (simp; done) | (simp [*]; done)), H', ⟨by have := HJ1.out; have := HJ16.out; first | omega | exact Nat.le_refl _⟩, by repeat (first | exact Drawn0.refl _ | apply Drawn0.step)⟩
        ·
         rw [if_neg c22] at H
         have c22b0 : (a0 == 12) = false := beq_eq_false_iff_ne.mpr c22
         have c22b1 : (a0 != 12) = true := bne_iff_ne.mpr c22
         (first | rw [c22b0] | (simp only [i64_w, i32_w]; rw [c22b0]) | skip)
         by_cases c23 : a0 = 13
         ·
          rw [if_pos c23] at H
          have c23b0 : (a0 == 13) = true := beq_iff_eq.mpr c23
          have c23b1 : (a0 != 13) = false := bne_eq_false_iff_eq.mpr c23
          clear c23
          have H' := Aside0.mk H
          clear H
          go_wp2
          go_meet
          case rel => exact ⟨_, ((a0 == 13)), (by first | rfl | (simp; done) | (simp [*]; done)), H', ⟨by have := HJ1.out; have := HJ16.out; first | omega | exact Nat.le_refl _⟩, by repeat (first | exact Drawn0.refl _ | apply Drawn0.step)⟩
         ·
          rw [if_neg c23] at H
          have c23b0 : (a0 == 13) = false := beq_eq_false_iff_ne.mpr c23
          have c23b1 : (a0 != 13) = true := bne_iff_ne.mpr c23
          by_cases c24 : a0 = 16
          ·
           rw [if_pos c24] at H
           have c24b0 : (a0 == 16) = true := beq_iff_eq.mpr c24
           have c24b1 : (a0 != 16) = false := bne_eq_false_iff_eq.mpr c24
           clear c24
           have H' := Aside0.mk H
           clear H
           go_wp2
           go_meet
           case rel => exact ⟨_, ((a0 == 16)), (by first | rfl | (simp; done) | (simp [*]; done)), H', ⟨by have := HJ1.out; have := HJ16.out; first | omega | exact Nat.le_refl _⟩, by repeat (first | exact Drawn0.refl _ | apply Drawn0.step)⟩
          ·
           rw [if_neg c24] at H
           have c24b0 : (a0 == 16) = false := beq_eq_false_iff_ne.mpr c24
           have c24b1 : (a0 != 16) = true := bne_iff_ne.mpr c24
           by_cases c25 : a0 = 32
           ·
            rw [if_pos c25] at H
            have c25b0 : (a0 == 32) = true := beq_iff_eq.mpr c25
            have c25b1 : (a0 != 32) = false := bne_eq_false_iff_eq.mpr c25
            clear c25
            have H' := Aside0.mk H
            clear H
            go_wp2
            go_meet
            case rel => exact ⟨_, ((a0 == 32)), (by first | rfl | (simp; done) | (simp [*]; done)), H', ⟨by have := HJ1.out; have := HJ16.out; first | omega | exact Nat.le_refl _⟩, by repeat (first | exact Drawn0.refl _ | apply Drawn0.step)⟩
           ·
            rw [if_neg c25] at H
            have c25b0 : (a0 == 32) = false := beq_eq_false_iff_ne.mpr c25
            have c25b1 : (a0 != 32) = true := bne_iff_ne.mpr c25
            by_cases c26 : a0 = 33
            ·
             rw [if_pos c26] at H
             have c26b0 : (a0 == 33) = true := beq_iff_eq.mpr c26
             have c26b1 : (a0 != 33) = false := bne_eq_false_iff_eq.mpr c26
             clear c26
             have H' := Aside0.mk H
             clear H
             go_wp2
             go_meet
             case rel => exact ⟨_, ((a0 == 33)), (by first | rfl | (simp; done) | (simp [*]; done)), H', ⟨by have := HJ1.out; have := HJ16.out; first | omega | exact Nat.le_refl _⟩, by repeat (first | exact Drawn0.refl _ | apply Drawn0.step)⟩
            ·
             rw [if_neg c26] at H
             have c26b0 : (a0 == 33) = false := beq_eq_false_iff_ne.mpr c26
             have c26b1 : (a0 != 33) = true := bne_iff_ne.mpr c26
             by_cases c27 : a0 = 34
             ·
              rw [if_pos c27] at H
              have c27b0 : (a0 == 34) = true := beq_iff_eq.mpr c27
              have c27b1 : (a0 != 34) = false := bne_eq_false_iff_eq.mpr c27
              clear c27
              have H' := Aside0.mk H
              clear H
              go_wp2
              go_meet
              case rel => exact ⟨_, ((a0 == 34)), (by first | rfl | (simp; done) | (simp [*]; done)), H', ⟨by have := HJ1.out; have := HJ16.out; first | omega | exact Nat.le_refl _⟩, by repeat (first | exact Drawn0.refl _ | apply Drawn0.step)⟩
             ·
              rw [if_neg c27] at H
              have c27b0 : (a0 == 34) = false := beq_eq_false_iff_ne.mpr c27
              have c27b1 : (a0 != 34) = true := bne_iff_ne.mpr c27
              by_cases c28 : a0 = 35
              ·
               rw [if_pos c28] at H
               have c28b0 : (a0 == 35) = true := beq_iff_eq.mpr c28
               have c28b1 : (a0 != 35) = false := bne_eq_false_iff_eq.mpr c28
               clear c28
               have H' := Aside0.mk H
               clear H
               go_wp2
               go_meet
               case rel => exact ⟨_, ((a0 == 35)), (by first | rfl | (simp; done) | (simp [*]; done)), H', ⟨by have := HJ1.out; have := HJ16.out; first | omega | exact Nat.le_refl _⟩, by repeat (first | exact Drawn0.refl _ | apply Drawn0.step)⟩
              ·
               rw [if_neg c28] at H
               have c28b0 : (a0 == 35) = false := beq_eq_false_iff_ne.mpr c28
               have c28b1 : (a0 != 35) = true := bne_iff_ne.mpr c28
               have H' := Aside0.mk H
               clear H
               go_wp2
               go_meet
               case rel => exact ⟨_, ((a0 == 36)), (by first | rfl | (simp; done) | (simp [*]; done)), H', ⟨by have := HJ1.out; have := HJ16.out; first | omega | exact Nat.le_refl _⟩, by repeat (first | exact Drawn0.refl _ | apply Drawn0.step)⟩
       case rest =>
        clear HC21
        try clear c1
        try clear c2
        try clear p2
        try clear c3
        try clear c3b0
        try clear c3b1
        try clear c4
        try clear c4b0
        try clear c4b1
        try clear c5
        try clear c5b0
        try clear c5b1
        try clear c6
        try clear c6b0
        try clear c6b1
        try clear c7
        try clear c7b0
        try clear c7b1
        try clear c8
        try clear c8b0
        try clear c8b1
        try clear c9
        try clear c9b0
        try clear c9b1
        try clear c10
        try clear c10b0
        try clear c10b1
        try clear c11
        try clear c11b0
        try clear c11b1
        try clear c12
        try clear c12b0
        try clear c12b1
        try clear c13
        try clear c13b0
        try clear c13b1
        try clear c14
        try clear c14b0
        try clear c14b1
        try clear c15
        try clear c15b0
        try clear c15b1
        try clear c16
        try clear c18
        try clear c18b0
        try clear c18b1
        try clear c19
        try clear c19b0
        try clear c19b1
        try clear c20
        try clear c22
        try clear c22b0
        try clear c22b1
        try clear c23
        try clear c23b0
        try clear c23b1
        try clear c24
        try clear c24b0
        try clear c24b1
        try clear c25
        try clear c25b0
        try clear c25b1
        try clear c26
        try clear c26b0
        try clear c26b1
        try clear c27
        try clear c27b0
        try clear c27b1
        try clear c28
        try clear c28b0
        try clear c28b1
        try clear p2
        obtain ⟨kq, x23_20, rfl, HA, HJ20, ⟨mc20, rfl⟩⟩ := hcut
        cases kq with
        | zero => exact absurd HA.out (by simp [spec_l6Shape.j2])
        | succ kj20 =>
         have H := HA.out
         clear HA
         simp only [spec_l6Shape.j2] at H
         by_cases c29 : x23_20 = true
         ·
          subst c29
          have H1 : (some 2) = some r := by rw [if_pos rfl] at H; exact H
          clear H
          have H := H1
          clear H1
          obtain rfl := Option.some.inj H
          simp only [Option.some.injEq, Prod.mk.injEq] at H
          obtain ⟨rfl⟩ := H
          go_wp2
          go_ret
          exact ⟨by first | rfl | (simp; done) | (simp [*]; done), by repeat (first | exact Drawn0.refl _ | apply Drawn0.step)⟩
         ·
          replace c29 := Bool.eq_false_iff.mpr c29
          subst c29
          have H1 : (if a0 = 40 then (spec_l6Shape.j3 kj20 a0 a0 (a0 == 40)) else (if a0 = 41 then (spec_l6Shape.j3 kj20 a0 a0 (a0 == 41)) else (if a0 = 54 then (spec_l6Shape.j3 kj20 a0 a0 (a0 == 54)) else (spec_l6Shape.j3 kj20 a0 a0 (a0 == 55))))) = some r := by rw [if_neg (show ¬ (false = true) by decide)] at H; exact H
          clear H
          have H := H1
          clear H1
          have HC30 := Aside0.mk H
          clear H
          go_upto_if 32 with (fail)
          go_cut [32] (fun v32 wc => ∃ (kq : Nat) (x32_29 : Bool), v32 = .bool x32_29 ∧ Aside0 (spec_l6Shape.j3 kq a0 a0 x32_29 = some r) ∧ Aside0 (kq ≤ kj20) ∧ Drawn0 w wc)
          case first =>
           have H := HC30.out
           clear HC30
           by_cases c31 : a0 = 40
           ·
            rw [if_pos c31] at H
            have c31b0 : (a0 == 40) = true := beq_iff_eq.mpr c31
            have c31b1 : (a0 != 40) = false := bne_eq_false_iff_eq.mpr c31
            clear c31
            (first | rw [c31b0] | (simp only [i64_w, i32_w]; rw [c31b0]) | skip)
            have H' := Aside0.mk H
            clear H
            go_wp2
            go_meet
            case rel => exact ⟨_, ((a0 == 40)), (by first | rfl | (simp; done) | (simp [*]; done)), H', ⟨by have := HJ1.out; have := HJ16.out; have := HJ20.out; first | omega | exact Nat.le_refl _⟩, by repeat (first | exact Drawn0.refl _ | apply Drawn0.step)⟩
           ·
            rw [if_neg c31] at H
            have c31b0 : (a0 == 40) = false := beq_eq_false_iff_ne.mpr c31
            have c31b1 : (a0 != 40) = true := bne_iff_ne.mpr c31
            (first | rw [c31b0] | (simp only [i64_w, i32_w]; rw [c31b0]) | skip)
            by_cases c32 : a0 = 41
            ·
             rw [if_pos c32] at H
             have c32b0 : (a0 == 41) = true := beq_iff_eq.mpr c32
             have c32b1 : (a0 != 41) = false := bne_eq_false_iff_eq.mpr c32
             clear c32
             have H' := Aside0.mk H
             clear H
             go_wp2
             go_meet
             case rel => exact ⟨_, ((a0 == 41)), (by first | rfl | (simp; done) | (simp [*]; done)), H', ⟨by have := HJ1.out; have := HJ16.out; have := HJ20.out; first | omega | exact Nat.le_refl _⟩, by repeat (first | exact Drawn0.refl _ | apply Drawn0.step)⟩
            ·
             rw [if_neg c32] at H
             have c32b0 : (a0 == 41) = false := beq_eq_false_iff_ne.mpr c32
             have c32b1 : (a0 != 41) = true := bne_iff_ne.mpr c32
             by_cases c33 : a0 = 54
             ·
              rw [if_pos c33] at H
              have c33b0 : (a0 == 54) = true := beq_iff_eq.mpr c33
              have c33b1 : (a0 != 54) = false := bne_eq_false_iff_eq.mpr c33
              clear c33
              have H' := Aside0.mk H
              clear H
              go_wp2
              go_meet
              case rel => exact ⟨_, ((a0 == 54)), (by first | rfl | (simp; done) | (simp [*]; done)), H', ⟨by have := HJ1.out; have := HJ16.out; have := HJ20.out; first | omega | exact Nat.le_refl _⟩, by repeat (first | exact Drawn0.refl _ | apply Drawn0.step)⟩
             ·
              rw [if_neg c33] at H
              have c33b0 : (a0 == 54) = false := beq_eq_false_iff_ne.mpr c33
              have c33b1 : (a0 != 54) = true := bne_iff_ne.mpr c33
              have H' := Aside0.mk H
              clear H
              go_wp2
              go_meet
              case rel => exact ⟨_, ((a0 == 55)), (by first | rfl | (simp; done) | (simp [*]; done)), H', ⟨by have := HJ1.out; have := HJ16.out; have := HJ20.out; first | omega | exact Nat.le_refl _⟩, by repeat (first | exact Drawn0.refl _ | apply Drawn0.step)⟩
          case rest =>
           clear HC30
           try clear c1
           try clear c2
           try clear p2
           try clear c3
           try clear c3b0
           try clear c3b1
           try clear c4
           try clear c4b0
           try clear c4b1
           try clear c5
           try clear c5b0
           try clear c5b1
           try clear c6
           try clear c6b0
           try clear c6b1
           try clear c7
           try clear c7b0
           try clear c7b1
           try clear c8
           try clear c8b0
           try clear c8b1
           try clear c9
           try clear c9b0
           try clear c9b1
           try clear c10
           try clear c10b0
           try clear c10b1
           try clear c11
           try clear c11b0
           try clear c11b1
           try clear c12
           try clear c12b0
           try clear c12b1
           try clear c13
           try clear c13b0
           try clear c13b1
           try clear c14
           try clear c14b0
           try clear c14b1
           try clear c15
           try clear c15b0
           try clear c15b1
           try clear c16
           try clear c18
           try clear c18b0
           try clear c18b1
           try clear c19
           try clear c19b0
           try clear c19b1
           try clear c20
           try clear c22
           try clear c22b0
           try clear c22b1
           try clear c23
           try clear c23b0
           try clear c23b1
           try clear c24
           try clear c24b0
           try clear c24b1
           try clear c25
           try clear c25b0
           try clear c25b1
           try clear c26
           try clear c26b0
           try clear c26b1
           try clear c27
           try clear c27b0
           try clear c27b1
           try clear c28
           try clear c28b0
           try clear c28b1
           try clear c29
           try clear c31
           try clear c31b0
           try clear c31b1
           try clear c32
           try clear c32b0
           try clear c32b1
           try clear c33
           try clear c33b0
           try clear c33b1
           try clear p2
           obtain ⟨kq, x32_29, rfl, HA, HJ29, ⟨mc29, rfl⟩⟩ := hcut
           cases kq with
           | zero => exact absurd HA.out (by simp [spec_l6Shape.j3])
           | succ kj29 =>
            have H := HA.out
            clear HA
            simp only [spec_l6Shape.j3] at H
            by_cases c34 : x32_29 = true
            ·
             subst c34
             have H1 : (some 3) = some r := by rw [if_pos rfl] at H; exact H
             clear H
             have H := H1
             clear H1
             obtain rfl := Option.some.inj H
             simp only [Option.some.injEq, Prod.mk.injEq] at H
             obtain ⟨rfl⟩ := H
             go_wp2
             go_ret
             exact ⟨by first | rfl | (simp; done) | (simp [*]; done), by repeat (first | exact Drawn0.refl _ | apply Drawn0.step)⟩
            ·
             replace c34 := Bool.eq_false_iff.mpr c34
             subst c34
             have H1 : (if a0 = 65 then (some 4) else (if a0 = 66 then (some 5) else (if a0 = 67 then (some 6) else ((spec_l1In.f a0 97 123).bind fun t101 => (if t101 = true then (some 0) else ((spec_l1In.f a0 129 155).bind fun t102 => (if t102 = true then (some 0) else ((spec_l1In.f a0 161 169).bind fun t103 => (if t103 = true then (some 0) else (some (-1))))))))))) = some r := by rw [if_neg (show ¬ (false = true) by decide)] at H; exact H
             clear H
             have H := H1
             clear H1
             by_cases c35 : a0 = 65
             ·
              rw [if_pos c35] at H
              have c35b0 : (a0 == 65) = true := beq_iff_eq.mpr c35
              have c35b1 : (a0 != 65) = false := bne_eq_false_iff_eq.mpr c35
              clear c35
              obtain rfl := Option.some.inj H
              simp only [Option.some.injEq, Prod.mk.injEq] at H
              obtain ⟨rfl⟩ := H
              go_wp2
              go_ret
              exact ⟨by first | rfl | (simp; done) | (simp [*]; done), by repeat (first | exact Drawn0.refl _ | apply Drawn0.step)⟩
             ·
              rw [if_neg c35] at H
              have c35b0 : (a0 == 65) = false := beq_eq_false_iff_ne.mpr c35
              have c35b1 : (a0 != 65) = true := bne_iff_ne.mpr c35
              by_cases c36 : a0 = 66
              ·
               rw [if_pos c36] at H
               have c36b0 : (a0 == 66) = true := beq_iff_eq.mpr c36
               have c36b1 : (a0 != 66) = false := bne_eq_false_iff_eq.mpr c36
               clear c36
               obtain rfl := Option.some.inj H
               simp only [Option.some.injEq, Prod.mk.injEq] at H
               obtain ⟨rfl⟩ := H
               go_wp2
               go_ret
               exact ⟨by first | rfl | (simp; done) | (simp [*]; done), by repeat (first | exact Drawn0.refl _ | apply Drawn0.step)⟩
              ·
               rw [if_neg c36] at H
               have c36b0 : (a0 == 66) = false := beq_eq_false_iff_ne.mpr c36
               have c36b1 : (a0 != 66) = true := bne_iff_ne.mpr c36
               by_cases c37 : a0 = 67
               ·
                rw [if_pos c37] at H
                have c37b0 : (a0 == 67) = true := beq_iff_eq.mpr c37
                have c37b1 : (a0 != 67) = false := bne_eq_false_iff_eq.mpr c37
                clear c37
                obtain rfl := Option.some.inj H
                simp only [Option.some.injEq, Prod.mk.injEq] at H
                obtain ⟨rfl⟩ := H
                go_wp2
                go_ret
                exact ⟨by first | rfl | (simp; done) | (simp [*]; done), by repeat (first | exact Drawn0.refl _ | apply Drawn0.step)⟩
               ·
                rw [if_neg c37] at H
                have c37b0 : (a0 == 67) = false := beq_eq_false_iff_ne.mpr c37
                have c37b1 : (a0 != 67) = true := bne_iff_ne.mpr c37
                replace H := Option.bind_eq_some_iff.mp H
                obtain ⟨t101, A380, H⟩ := H
                replace H : (if t101 = true then (some 0) else ((spec_l1In.f a0 129 155).bind fun t102 => (if t102 = true then (some 0) else ((spec_l1In.f a0 161 169).bind fun t103 => (if t103 = true then (some 0) else (some (-1))))))) = some r := H
                have A38 := Aside0.mk A380
                clear A380
                by_cases c39 : t101 = true
                ·
                 subst c39
                 have H1 : (some 0) = some r := by rw [if_pos rfl] at H; exact H
                 clear H
                 have H := H1
                 clear H1
                 obtain rfl := Option.some.inj H
                 simp only [Option.some.injEq, Prod.mk.injEq] at H
                 obtain ⟨rfl⟩ := H
                 go_wp2_with (first | ((with_reducible refine gate_callee (f := 85) rfl ?_); refine goesL_ (some 44) rfl rfl Try.func85 (by kernel_rfl) rfl #[.int .i64 a0, .int .i64 97, .int .i64 123] rfl ar ?_; (with_reducible refine (spec_l1In.calls a0 97 123 true _ A38.out).mono ?_); rintro e w' ⟨rfl, ⟨nd, rfl⟩⟩; refine ⟨_, rfl, ?_⟩))
                 go_ret
                 exact ⟨by first | rfl | (simp; done) | (simp [*]; done), by repeat (first | exact Drawn0.refl _ | apply Drawn0.step)⟩
                ·
                 replace c39 := Bool.eq_false_iff.mpr c39
                 subst c39
                 have H1 : ((spec_l1In.f a0 129 155).bind fun t102 => (if t102 = true then (some 0) else ((spec_l1In.f a0 161 169).bind fun t103 => (if t103 = true then (some 0) else (some (-1)))))) = some r := by rw [if_neg (show ¬ (false = true) by decide)] at H; exact H
                 clear H
                 have H := H1
                 clear H1
                 replace H := Option.bind_eq_some_iff.mp H
                 obtain ⟨t102, A400, H⟩ := H
                 replace H : (if t102 = true then (some 0) else ((spec_l1In.f a0 161 169).bind fun t103 => (if t103 = true then (some 0) else (some (-1))))) = some r := H
                 have A40 := Aside0.mk A400
                 clear A400
                 by_cases c41 : t102 = true
                 ·
                  subst c41
                  have H1 : (some 0) = some r := by rw [if_pos rfl] at H; exact H
                  clear H
                  have H := H1
                  clear H1
                  obtain rfl := Option.some.inj H
                  simp only [Option.some.injEq, Prod.mk.injEq] at H
                  obtain ⟨rfl⟩ := H
                  go_wp2_with (first | ((with_reducible refine gate_callee (f := 85) rfl ?_); refine goesL_ (some 44) rfl rfl Try.func85 (by kernel_rfl) rfl #[.int .i64 a0, .int .i64 97, .int .i64 123] rfl ar ?_; (with_reducible refine (spec_l1In.calls a0 97 123 false _ A38.out).mono ?_); rintro e w' ⟨rfl, ⟨nd, rfl⟩⟩; refine ⟨_, rfl, ?_⟩) | (go_at_call 85; (with_reducible refine (spec_l1In.calls a0 129 155 true _ A40.out).mono ?_); rintro e w' ⟨rfl, ⟨nd, rfl⟩⟩))
                  go_ret
                  exact ⟨by first | rfl | (simp; done) | (simp [*]; done), by repeat (first | exact Drawn0.refl _ | apply Drawn0.step)⟩
                 ·
                  replace c41 := Bool.eq_false_iff.mpr c41
                  subst c41
                  have H1 : ((spec_l1In.f a0 161 169).bind fun t103 => (if t103 = true then (some 0) else (some (-1)))) = some r := by rw [if_neg (show ¬ (false = true) by decide)] at H; exact H
                  clear H
                  have H := H1
                  clear H1
                  replace H := Option.bind_eq_some_iff.mp H
                  obtain ⟨t103, A420, H⟩ := H
                  replace H : (if t103 = true then (some 0) else (some (-1))) = some r := H
                  have A42 := Aside0.mk A420
                  clear A420
                  by_cases c43 : t103 = true
                  ·
                   subst c43
                   have H1 : (some 0) = some r := by rw [if_pos rfl] at H; exact H
                   clear H
                   have H := H1
                   clear H1
                   obtain rfl := Option.some.inj H
                   simp only [Option.some.injEq, Prod.mk.injEq] at H
                   obtain ⟨rfl⟩ := H
                   go_wp2_with (first | ((with_reducible refine gate_callee (f := 85) rfl ?_); refine goesL_ (some 44) rfl rfl Try.func85 (by kernel_rfl) rfl #[.int .i64 a0, .int .i64 97, .int .i64 123] rfl ar ?_; (with_reducible refine (spec_l1In.calls a0 97 123 false _ A38.out).mono ?_); rintro e w' ⟨rfl, ⟨nd, rfl⟩⟩; refine ⟨_, rfl, ?_⟩) | (go_at_call 85; (with_reducible refine (spec_l1In.calls a0 129 155 false _ A40.out).mono ?_); rintro e w' ⟨rfl, ⟨nd, rfl⟩⟩) | (go_at_call 85; (with_reducible refine (spec_l1In.calls a0 161 169 true _ A42.out).mono ?_); rintro e w' ⟨rfl, ⟨nd, rfl⟩⟩))
                   go_ret
                   exact ⟨by first | rfl | (simp; done) | (simp [*]; done), by repeat (first | exact Drawn0.refl _ | apply Drawn0.step)⟩
                  ·
                   replace c43 := Bool.eq_false_iff.mpr c43
                   subst c43
                   have H1 : (some (-1)) = some r := by rw [if_neg (show ¬ (false = true) by decide)] at H; exact H
                   clear H
                   have H := H1
                   clear H1
                   obtain rfl := Option.some.inj H
                   simp only [Option.some.injEq, Prod.mk.injEq] at H
                   obtain ⟨rfl⟩ := H
                   go_wp2_with (first | ((with_reducible refine gate_callee (f := 85) rfl ?_); refine goesL_ (some 44) rfl rfl Try.func85 (by kernel_rfl) rfl #[.int .i64 a0, .int .i64 97, .int .i64 123] rfl ar ?_; (with_reducible refine (spec_l1In.calls a0 97 123 false _ A38.out).mono ?_); rintro e w' ⟨rfl, ⟨nd, rfl⟩⟩; refine ⟨_, rfl, ?_⟩) | (go_at_call 85; (with_reducible refine (spec_l1In.calls a0 129 155 false _ A40.out).mono ?_); rintro e w' ⟨rfl, ⟨nd, rfl⟩⟩) | (go_at_call 85; (with_reducible refine (spec_l1In.calls a0 161 169 false _ A42.out).mono ?_); rintro e w' ⟨rfl, ⟨nd, rfl⟩⟩))
                   go_ret
                   exact ⟨by first | rfl | (simp; done) | (simp [*]; done), by repeat (first | exact Drawn0.refl _ | apply Drawn0.step)⟩

end Go.Proofs.Ytfachljdihmicaa.Q

namespace Go.Proofs.Ytfachljdihmicaa.Q
open Go.RowKit Go.Proofs.YtfachljdihmicaaW.PrintWords Go.Proofs.YtfachljdihmicaaW.PrintLast Go.Proofs.YtfachljdihmicaaW.PrintMore
attribute [local go_sem] max2_int min2_int max_two min_two max_three min_three max_four min_four   -- for this text's walks alone
set_option linter.unusedVariables false
set_option linter.unusedSimpArgs false

/-! ### spec_l1TakeU: function 101 -/
mutual
def spec_l1TakeU.l0 : Nat → ByteArray → Int → Int → Int → Int → Option (Int × Int)
 | 0, _, _, _, _, _ => none
 | k + 1, x0, x1, x6, x7, x8 => if x8 < x6 then (spec_l1TakeU.j1 k x0 x1 x6 x7 x8 (decide (x8 < (x0.size : Int)))) else (spec_l1TakeU.j1 k x0 x1 x6 x7 x8 false)
def spec_l1TakeU.j1 : Nat → ByteArray → Int → Int → Int → Int → Bool → Option (Int × Int)
 | 0, _, _, _, _, _, _ => none
 | k + 1, x0, x1, x6, x7, x8, x22 => if x22 = true then (if 0 ≤ x8 then (if x8 < (x0.size : Int) then (if (wrap64 (x1 - (wrap64 (7 * x8)))) < 7 then (if 0 ≤ (IntKind.u64.wrap (wrap64 (x1 - (wrap64 (7 * x8))))) then (spec_l1TakeU.j2 k x0 x1 x6 x7 x8 (IntKind.u64.wrap (Go.bits .and .u8 (bt x0 x8) 127)) ((shr .u64 (IntKind.u64.wrap (Go.bits .and .u8 (bt x0 x8) 127)) (IntKind.u64.wrap (wrap64 (x1 - (wrap64 (7 * x8)))))) != 0)) else (none)) else (spec_l1TakeU.j2 k x0 x1 x6 x7 x8 (IntKind.u64.wrap (Go.bits .and .u8 (bt x0 x8) 127)) false)) else (none)) else (none)) else (some (0, 0))
def spec_l1TakeU.j2 : Nat → ByteArray → Int → Int → Int → Int → Int → Bool → Option (Int × Int)
 | 0, _, _, _, _, _, _, _ => none
 | k + 1, x0, x1, x6, x7, x8, x9, x42 => if x42 = true then (some (0, 0)) else (if 0 ≤ (IntKind.u64.wrap (wrap64 (7 * x8))) then (if 0 ≤ x8 then (if x8 < (x0.size : Int) then (if (bt x0 x8) < 128 then (some (Go.bits .or .u64 x7 (shl .u64 x9 (IntKind.u64.wrap (wrap64 (7 * x8)))), wrap64 (x8 + 1))) else (spec_l1TakeU.l0 k x0 x1 x6 (Go.bits .or .u64 x7 (shl .u64 x9 (IntKind.u64.wrap (wrap64 (7 * x8))))) (wrap64 (x8 + 1)))) else (none)) else (none)) else (none))
end
def spec_l1TakeU.f (k : Nat) (a0 : ByteArray) (a1 : Int) : Option (Int × Int) := spec_l1TakeU.l0 k a0 a1 (wrap64 (Int.tdiv (wrap64 (a1 + 6)) 7)) 0 0
theorem spec_l1TakeU.mono_l : ∀ k, (∀ y0 y1 y2 y3 y4, LeO (spec_l1TakeU.l0 k y0 y1 y2 y3 y4) (spec_l1TakeU.l0 (k + 1) y0 y1 y2 y3 y4)) ∧ (∀ y0 y1 y2 y3 y4 y5, LeO (spec_l1TakeU.j1 k y0 y1 y2 y3 y4 y5) (spec_l1TakeU.j1 (k + 1) y0 y1 y2 y3 y4 y5)) ∧ (∀ y0 y1 y2 y3 y4 y5 y6, LeO (spec_l1TakeU.j2 k y0 y1 y2 y3 y4 y5 y6) (spec_l1TakeU.j2 (k + 1) y0 y1 y2 y3 y4 y5 y6))
 | 0 => ⟨fun _ _ _ _ _ r h => by simp [spec_l1TakeU.l0] at h, fun _ _ _ _ _ _ r h => by simp [spec_l1TakeU.j1] at h, fun _ _ _ _ _ _ _ r h => by simp [spec_l1TakeU.j2] at h⟩
 | k + 1 => by
  obtain ⟨ih0, ih1, ih2⟩ := spec_l1TakeU.mono_l k
  refine ⟨?_, ?_, ?_⟩
  ·
   intro y0 y1 y2 y3 y4
   unfold spec_l1TakeU.l0
   repeat' first
   | (with_reducible exact ih0 _ _ _ _ _)
   | (with_reducible exact ih1 _ _ _ _ _ _)
   | (with_reducible exact ih2 _ _ _ _ _ _ _)
   | (with_reducible exact LeO.refl _)
   | (with_reducible exact LeO.none _)
   | (with_reducible refine LeO.ite ?_ ?_)
   | (with_reducible refine LeO.bind ?_ (fun _ => ?_))
   | exact ih0 _ _ _ _ _
   | exact ih1 _ _ _ _ _ _
   | exact ih2 _ _ _ _ _ _ _
   | exact LeO.none _
   | refine LeO.ite ?_ ?_
   | refine LeO.bind ?_ (fun _ => ?_)
  ·
   intro y0 y1 y2 y3 y4 y5
   unfold spec_l1TakeU.j1
   repeat' first
   | (with_reducible exact ih0 _ _ _ _ _)
   | (with_reducible exact ih1 _ _ _ _ _ _)
   | (with_reducible exact ih2 _ _ _ _ _ _ _)
   | (with_reducible exact LeO.refl _)
   | (with_reducible exact LeO.none _)
   | (with_reducible refine LeO.ite ?_ ?_)
   | (with_reducible refine LeO.bind ?_ (fun _ => ?_))
   | exact ih0 _ _ _ _ _
   | exact ih1 _ _ _ _ _ _
   | exact ih2 _ _ _ _ _ _ _
   | exact LeO.none _
   | refine LeO.ite ?_ ?_
   | refine LeO.bind ?_ (fun _ => ?_)
  ·
   intro y0 y1 y2 y3 y4 y5 y6
   unfold spec_l1TakeU.j2
   repeat' first
   | (with_reducible exact ih0 _ _ _ _ _)
   | (with_reducible exact ih1 _ _ _ _ _ _)
   | (with_reducible exact ih2 _ _ _ _ _ _ _)
   | (with_reducible exact LeO.refl _)
   | (with_reducible exact LeO.none _)
   | (with_reducible refine LeO.ite ?_ ?_)
   | (with_reducible refine LeO.bind ?_ (fun _ => ?_))
   | exact ih0 _ _ _ _ _
   | exact ih1 _ _ _ _ _ _
   | exact ih2 _ _ _ _ _ _ _
   | exact LeO.none _
   | refine LeO.ite ?_ ?_
   | refine LeO.bind ?_ (fun _ => ?_)
theorem spec_l1TakeU.mono : ∀ a0 a1 k, LeO (spec_l1TakeU.f k a0 a1) (spec_l1TakeU.f (k + 1) a0 a1) := by
 intro a0 a1 k
 obtain ⟨ih0, ih1, ih2⟩ := spec_l1TakeU.mono_l k
 unfold spec_l1TakeU.f
 repeat' first
   | (with_reducible exact ih0 _ _ _ _ _)
   | (with_reducible exact ih1 _ _ _ _ _ _)
   | (with_reducible exact ih2 _ _ _ _ _ _ _)
   | (with_reducible exact LeO.refl _)
   | (with_reducible exact LeO.none _)
   | (with_reducible refine LeO.ite ?_ ?_)
   | (with_reducible refine LeO.bind ?_ (fun _ => ?_))
   | exact ih0 _ _ _ _ _
   | exact ih1 _ _ _ _ _ _
   | exact ih2 _ _ _ _ _ _ _
   | exact LeO.none _
   | refine LeO.ite ?_ ?_
   | refine LeO.bind ?_ (fun _ => ?_)
set_option maxHeartbeats 8000000 in
set_option maxRecDepth 100000 in
theorem spec_l1TakeU.calls (k : Nat) (a0 : ByteArray) (a1 : Int) (r1 : Int) (r2 : Int) (w : World) (h : spec_l1TakeU.f k a0 a1 = some (r1, r2)) :
  Calls Try.prog 101 #[.string a0, .int .i64 a1] w fun e w' => e = .returned (.tuple #[.int .u64 r1, .int .i64 r2]) ∧ Drawn0 w w' := by
 have H : (spec_l1TakeU.l0 k a0 a1 (wrap64 (Int.tdiv (wrap64 (a1 + 6)) 7)) 0 0) = some (r1, r2) := h
 clear h
 have H' := Aside0.mk H
 clear H
 go_enter Try.func101, Try.ntmps101
 go_wp2
 (try simp only [Act.put, List.setIfInBounds_toArray, List.set_cons_zero, List.set_cons_succ])
 go_loopg [7, 8] k (fun kq v7 v8 w' => ∃ (x7_1 : Int) (x8_1 : Int), v7 = .int .u64 x7_1 ∧ v8 = .int .i64 x8_1 ∧ Aside0 (spec_l1TakeU.l0 kq a0 a1 (wrap64 (Int.tdiv (wrap64 (a1 + 6)) 7)) x7_1 x8_1 = some (r1, r2)) ∧ Aside0 (kq ≤ k) ∧ Drawn0 w w')
 case atStart => exact ⟨(0), (0), (by first | rfl | (simp; done) | (simp [*]; done)), (by first | rfl | (simp; done) | (simp [*]; done)), H', ⟨Nat.le_refl _⟩, by repeat (first | exact Drawn0.refl _ | apply Drawn0.step)⟩
 case round =>
  clear H'
  try clear c1
  try clear p2
  obtain ⟨x7_1, x8_1, rfl, rfl, HA, HK1, ⟨m1, rfl⟩⟩ := hrel
  cases gk with
  | zero => exact absurd HA.out (by simp [spec_l1TakeU.l0])
  | succ k1 =>
   have H := HA.out
   clear HA
   simp only [spec_l1TakeU.l0] at H
   have HC3 := Aside0.mk H
   clear H
   go_upto_region 4 with (fail)
   go_cut [22] (fun v22 wc => ∃ (kq : Nat) (x22_2 : Bool), v22 = .bool x22_2 ∧ Aside0 (spec_l1TakeU.j1 kq a0 a1 (wrap64 (Int.tdiv (wrap64 (a1 + 6)) 7)) x7_1 x8_1 x22_2 = some (r1, r2)) ∧ Aside0 (kq ≤ k1) ∧ Drawn0 w wc)
   case first =>
    have H := HC3.out
    clear HC3
    by_cases c4 : x8_1 < (wrap64 (Int.tdiv (wrap64 (a1 + 6)) 7))
    ·
     rw [if_pos c4] at H
     have c4b0 : decide (x8_1 < (wrap64 (Int.tdiv (wrap64 (a1 + 6)) 7))) = true := decide_eq_true c4
     clear c4
     (first | rw [c4b0] | (simp only [i64_w, i32_w]; rw [c4b0]) | skip)
     have H' := Aside0.mk H
     clear H
     go_wp2
     go_meet
     case rel => exact ⟨_, (decide (x8_1 < (a0.size : Int))), (by first | rfl | (simp; done) | (simp [*]; done)), H', ⟨by have := HK1.out; first | omega | exact Nat.le_refl _⟩, by repeat (first | exact Drawn0.refl _ | apply Drawn0.step)⟩
    ·
     rw [if_neg c4] at H
     have c4b0 : decide (x8_1 < (wrap64 (Int.tdiv (wrap64 (a1 + 6)) 7))) = false := decide_eq_false c4
     clear c4
     (first | rw [c4b0] | (simp only [i64_w, i32_w]; rw [c4b0]) | skip)
     have H' := Aside0.mk H
     clear H
     go_wp2
     go_meet
     case rel => exact ⟨_, (false), (by first | rfl | (simp; done) | (simp [*]; done)), H', ⟨by have := HK1.out; first | omega | exact Nat.le_refl _⟩, by repeat (first | exact Drawn0.refl _ | apply Drawn0.step)⟩
   case rest =>
    clear HC3
    try clear c1
    try clear p2
    try clear c4
    try clear c4b0
    try clear p2
    obtain ⟨kq, x22_2, rfl, HA, HJ2, ⟨mc2, rfl⟩⟩ := hcut
    cases kq with
    | zero => exact absurd HA.out (by simp [spec_l1TakeU.j1])
    | succ kj2 =>
     have H := HA.out
     clear HA
     simp only [spec_l1TakeU.j1] at H
     by_cases c5 : x22_2 = true
     ·
      subst c5
      have H1 : (if 0 ≤ x8_1 then (if x8_1 < (a0.size : Int) then (if (wrap64 (a1 - (wrap64 (7 * x8_1)))) < 7 then (if 0 ≤ (IntKind.u64.wrap (wrap64 (a1 - (wrap64 (7 * x8_1))))) then (spec_l1TakeU.j2 kj2 a0 a1 (wrap64 (Int.tdiv (wrap64 (a1 + 6)) 7)) x7_1 x8_1 (IntKind.u64.wrap (Go.bits .and .u8 (bt a0 x8_1) 127)) ((shr .u64 (IntKind.u64.wrap (Go.bits .and .u8 (bt a0 x8_1) 127)) (IntKind.u64.wrap (wrap64 (a1 - (wrap64 (7 * x8_1)))))) != 0)) else (none)) else (spec_l1TakeU.j2 kj2 a0 a1 (wrap64 (Int.tdiv (wrap64 (a1 + 6)) 7)) x7_1 x8_1 (IntKind.u64.wrap (Go.bits .and .u8 (bt a0 x8_1) 127)) false)) else (none)) else (none)) = some (r1, r2) := by rw [if_pos rfl] at H; exact H
      clear H
      have H := H1
      clear H1
      by_cases c6 : 0 ≤ x8_1
      ·
       rw [if_pos c6] at H
       have c6b0 : decide (0 ≤ x8_1) = true := decide_eq_true c6
       clear c6
       by_cases c7 : x8_1 < (a0.size : Int)
       ·
        rw [if_pos c7] at H
        have c7b0 : decide (x8_1 < (a0.size : Int)) = true := decide_eq_true c7
        clear c7
        have HC9 := Aside0.mk H
        clear H
        have p8 : 0 ≤ (x8_1 : Int) := of_decide_eq_true (by first | (with_reducible assumption) | assumption)
        have q8 : x8_1 < (a0.size : Int) := of_decide_eq_true (by first | (with_reducible assumption) | assumption)
        have hx8 := bt_at a0 x8_1
        replace p8 := eq_true p8
        replace q8 := eq_true q8
        go_upto_region 8 with (fail)
        go_cut [42] (fun v42 wc => ∃ (kq : Nat) (x42_8 : Bool), v42 = .bool x42_8 ∧ Aside0 (spec_l1TakeU.j2 kq a0 a1 (wrap64 (Int.tdiv (wrap64 (a1 + 6)) 7)) x7_1 x8_1 (IntKind.u64.wrap (Go.bits .and .u8 (bt a0 x8_1) 127)) x42_8 = some (r1, r2)) ∧ Aside0 (kq ≤ kj2) ∧ Drawn0 w wc)
        case first =>
         have H := HC9.out
         clear HC9
         by_cases c10 : (wrap64 (a1 - (wrap64 (7 * x8_1)))) < 7
         ·
          rw [if_pos c10] at H
          have c10b0 : decide ((wrap64 (a1 - (wrap64 (7 * x8_1)))) < 7) = true := decide_eq_true c10
          clear c10
          (first | rw [c10b0] | (simp only [i64_w, i32_w]; rw [c10b0]) | skip)
          obtain ⟨ji11, hji11⟩ : ∃ j_ : Int, (IntKind.u64.wrap (wrap64 (a1 - (wrap64 (7 * x8_1))))) = j_ := ⟨_, rfl⟩
          replace H : (if 0 ≤ (ji11) then (spec_l1TakeU.j2 kj2 a0 a1 (wrap64 (Int.tdiv (wrap64 (a1 + 6)) 7)) x7_1 x8_1 (IntKind.u64.wrap (Go.bits .and .u8 (bt a0 x8_1) 127)) ((shr .u64 (IntKind.u64.wrap (Go.bits .and .u8 (bt a0 x8_1) 127)) (ji11)) != 0)) else (none)) = some (r1, r2) := by first | (rw [hji11] at H; exact H) | (simp only [hji11] at H ⊢; exact H)
          by_cases c12 : 0 ≤ (ji11)
          ·
           rw [if_pos c12] at H
           have c12b0 := eq_true c12
           have c12b1 : decide (0 ≤ (ji11)) = true := decide_eq_true c12
           clear c12
           obtain ⟨ji13, hji13⟩ : ∃ j_ : Int, (shr .u64 (IntKind.u64.wrap (Go.bits .and .u8 (bt a0 x8_1) 127)) (ji11)) = j_ := ⟨_, rfl⟩
           replace H : (spec_l1TakeU.j2 kj2 a0 a1 (wrap64 (Int.tdiv (wrap64 (a1 + 6)) 7)) x7_1 x8_1 (IntKind.u64.wrap (Go.bits .and .u8 (bt a0 x8_1) 127)) ((ji13) != 0)) = some (r1, r2) := by first | (rw [hji13] at H; exact H) | (simp only [hji13] at H ⊢; exact H)
           have hji13_ : ((IntKind.u64.wrap (Go.bits .and .u8 (bt a0 x8_1) 127)) / 2 ^ min (ji11).toNat 64) = ji13 := hji13
           have hji13z : (ji11) ≤ 64 → ((IntKind.u64.wrap (Go.bits .and .u8 (bt a0 x8_1) 127)) / 2 ^ (ji11).toNat) = ji13 := shr_small hji13
           have H' := Aside0.mk H
           clear H
           go_wp2
           first | go_meet | ((simp only [← hji13]); go_meet) | ((simp only [← hji11]); go_meet) | ((simp only [← hji13, ← hji11]); go_meet)
           case rel => exact ⟨_, (((ji13) != 0)), (by first | rfl | (simp; done) | (simp only [← hji13] <;> (first | rfl | simp)) | (simp [*]; done)), H', ⟨by have := HK1.out; have := HJ2.out; first | omega | exact Nat.le_refl _⟩, by repeat (first | exact Drawn0.refl _ | apply Drawn0.step)⟩
          ·
           rw [if_neg c12] at H
           exact absurd H (by simp)
         ·
          rw [if_neg c10] at H
          have c10b0 : decide ((wrap64 (a1 - (wrap64 (7 * x8_1)))) < 7) = false := decide_eq_false c10
          clear c10
          (first | rw [c10b0] | (simp only [i64_w, i32_w]; rw [c10b0]) | skip)
          have H' := Aside0.mk H
          clear H
          go_wp2
          go_meet
          case rel => exact ⟨_, (false), (by first | rfl | (simp; done) | (simp [*]; done)), H', ⟨by have := HK1.out; have := HJ2.out; first | omega | exact Nat.le_refl _⟩, by repeat (first | exact Drawn0.refl _ | apply Drawn0.step)⟩
        case rest =>
         clear HC9
         try clear c1
         try clear c2
         try clear p2
         try clear c4
         try clear c4b0
         try clear c5
         try clear c6
         try clear c6b0
         try clear p6
         try clear c7
         try clear c7b0
         try clear p8
         try clear q8
         try clear hx8
         try clear c10
         try clear c10b0
         try clear c12
         try clear c12b0
         try clear c12b1
         try clear p2
         try clear p8
         try clear q8
         obtain ⟨kq, x42_8, rfl, HA, HJ8, ⟨mc8, rfl⟩⟩ := hcut
         cases kq with
         | zero => exact absurd HA.out (by simp [spec_l1TakeU.j2])
         | succ kj8 =>
          have H := HA.out
          clear HA
          simp only [spec_l1TakeU.j2] at H
          by_cases c14 : x42_8 = true
          ·
           subst c14
           have H1 : (some (0, 0)) = some (r1, r2) := by rw [if_pos rfl] at H; exact H
           clear H
           have H := H1
           clear H1
           simp only [Option.some.injEq, Prod.mk.injEq] at H
           obtain ⟨rfl, rfl⟩ := H
           go_wp2
           go_ret2
           exact ⟨by first | rfl | (simp; done) | (simp [*]; done), by repeat (first | exact Drawn0.refl _ | apply Drawn0.step)⟩
          ·
           replace c14 := Bool.eq_false_iff.mpr c14
           subst c14
           have H1 : (if 0 ≤ (IntKind.u64.wrap (wrap64 (7 * x8_1))) then (if 0 ≤ x8_1 then (if x8_1 < (a0.size : Int) then (if (bt a0 x8_1) < 128 then (some (Go.bits .or .u64 x7_1 (shl .u64 (IntKind.u64.wrap (Go.bits .and .u8 (bt a0 x8_1) 127)) (IntKind.u64.wrap (wrap64 (7 * x8_1)))), wrap64 (x8_1 + 1))) else (spec_l1TakeU.l0 kj8 a0 a1 (wrap64 (Int.tdiv (wrap64 (a1 + 6)) 7)) (Go.bits .or .u64 x7_1 (shl .u64 (IntKind.u64.wrap (Go.bits .and .u8 (bt a0 x8_1) 127)) (IntKind.u64.wrap (wrap64 (7 * x8_1))))) (wrap64 (x8_1 + 1)))) else (none)) else (none)) else (none)) = some (r1, r2) := by rw [if_neg (show ¬ (false = true) by decide)] at H; exact H
           clear H
           have H := H1
           clear H1
           obtain ⟨ji15, hji15⟩ : ∃ j_ : Int, (IntKind.u64.wrap (wrap64 (7 * x8_1))) = j_ := ⟨_, rfl⟩
           replace H : (if 0 ≤ (ji15) then (if 0 ≤ x8_1 then (if x8_1 < (a0.size : Int) then (if (bt a0 x8_1) < 128 then (some (Go.bits .or .u64 x7_1 (shl .u64 (IntKind.u64.wrap (Go.bits .and .u8 (bt a0 x8_1) 127)) (ji15)), wrap64 (x8_1 + 1))) else (spec_l1TakeU.l0 kj8 a0 a1 (wrap64 (Int.tdiv (wrap64 (a1 + 6)) 7)) (Go.bits .or .u64 x7_1 (shl .u64 (IntKind.u64.wrap (Go.bits .and .u8 (bt a0 x8_1) 127)) (ji15))) (wrap64 (x8_1 + 1)))) else (none)) else (none)) else (none)) = some (r1, r2) := by first | (rw [hji15] at H; exact H) | (simp only [hji15] at H ⊢; exact H)
           by_cases c16 : 0 ≤ (ji15)
           ·
            rw [if_pos c16] at H
            have c16b0 := eq_true c16
            have c16b1 : decide (0 ≤ (ji15)) = true := decide_eq_true c16
            clear c16
            obtain ⟨ji17, hji17⟩ : ∃ j_ : Int, (shl .u64 (IntKind.u64.wrap (Go.bits .and .u8 (bt a0 x8_1) 127)) (ji15)) = j_ := ⟨_, rfl⟩
            replace H : (if 0 ≤ x8_1 then (if x8_1 < (a0.size : Int) then (if (bt a0 x8_1) < 128 then (some (Go.bits .or .u64 x7_1 (ji17), wrap64 (x8_1 + 1))) else (spec_l1TakeU.l0 kj8 a0 a1 (wrap64 (Int.tdiv (wrap64 (a1 + 6)) 7)) (Go.bits .or .u64 x7_1 (ji17)) (wrap64 (x8_1 + 1)))) else (none)) else (none)) = some (r1, r2) := by first | (rw [hji17] at H; exact H) | (simp only [hji17] at H ⊢; exact H)
            have hji17_ : (IntKind.u64.wrap ((IntKind.u64.wrap (Go.bits .and .u8 (bt a0 x8_1) 127)) * 2 ^ min (ji15).toNat 64)) = ji17 := hji17
            have hji17z : (ji15) ≤ 64 → (IntKind.u64.wrap ((IntKind.u64.wrap (Go.bits .and .u8 (bt a0 x8_1) 127)) * 2 ^ (ji15).toNat)) = ji17 := shl_small hji17
            by_cases c18 : 0 ≤ x8_1
            ·
             rw [if_pos c18] at H
             have c18b0 : decide (0 ≤ x8_1) = true := decide_eq_true c18
             clear c18
             by_cases c19 : x8_1 < (a0.size : Int)
             ·
              rw [if_pos c19] at H
              have c19b0 : decide (x8_1 < (a0.size : Int)) = true := decide_eq_true c19
              clear c19
              by_cases c21 : (bt a0 x8_1) < 128
              ·
               rw [if_pos c21] at H
               have c21b0 : decide ((bt a0 x8_1) < 128) = true := decide_eq_true c21
               clear c21
               simp only [Option.some.injEq, Prod.mk.injEq] at H
               obtain ⟨rfl, rfl⟩ := H
               have p20 : 0 ≤ (x8_1 : Int) := of_decide_eq_true (by first | (with_reducible assumption) | assumption)
               have q20 : x8_1 < (a0.size : Int) := of_decide_eq_true (by first | (with_reducible assumption) | assumption)
               have hx20 := bt_at a0 x8_1
               replace p20 := eq_true p20
               replace q20 := eq_true q20
               go_wp2
               go_ret2
               exact ⟨by first | rfl | (simp; done) | (simp only [← hji15, ← hji17] <;> (first | rfl | simp)) | (simp [*]; done), by repeat (first | exact Drawn0.refl _ | apply Drawn0.step)⟩
              ·
               rw [if_neg c21] at H
               have c21b0 : decide ((bt a0 x8_1) < 128) = false := decide_eq_false c21
               clear c21
               have H' := Aside0.mk H
               clear H
               have p20 : 0 ≤ (x8_1 : Int) := of_decide_eq_true (by first | (with_reducible assumption) | assumption)
               have q20 : x8_1 < (a0.size : Int) := of_decide_eq_true (by first | (with_reducible assumption) | assumption)
               have hx20 := bt_at a0 x8_1
               replace p20 := eq_true p20
               replace q20 := eq_true q20
               go_wp2
               go_roundg kj8
               case measure => have := HK1.out; have := HJ2.out; have := HJ8.out; omega
               case rel => exact ⟨(Go.bits .or .u64 x7_1 (ji17)), (wrap64 (x8_1 + 1)), (by first | rfl | (simp; done) | (simp only [← hji17] <;> (first | rfl | simp)) | (simp [*]; done)), (by first | rfl | (simp; done) | (simp [*]; done)), H', ⟨by have := HK1.out; have := HJ2.out; have := HJ8.out; omega⟩, by repeat (first | exact Drawn0.refl _ | apply Drawn0.step)⟩
             ·
              rw [if_neg c19] at H
              exact absurd H (by simp)
            ·
             rw [if_neg c18] at H
             exact absurd H (by simp)
           ·
            rw [if_neg c16] at H
            exact absurd H (by simp)
       ·
        rw [if_neg c7] at H
        exact absurd H (by simp)
      ·
       rw [if_neg c6] at H
       exact absurd H (by simp)
     ·
      replace c5 := Bool.eq_false_iff.mpr c5
      subst c5
      have H1 : (some (0, 0)) = some (r1, r2) := by rw [if_neg (show ¬ (false = true) by decide)] at H; exact H
      clear H
      have H := H1
      clear H1
      simp only [Option.some.injEq, Prod.mk.injEq] at H
      obtain ⟨rfl, rfl⟩ := H
      go_wp2
      go_ret2
      exact ⟨by first | rfl | (simp; done) | (simp [*]; done), by repeat (first | exact Drawn0.refl _ | apply Drawn0.step)⟩

end Go.Proofs.Ytfachljdihmicaa.Q

namespace Go.Proofs.Ytfachljdihmicaa.Q
open Go.RowKit Go.Proofs.YtfachljdihmicaaW.PrintWords Go.Proofs.YtfachljdihmicaaW.PrintLast Go.Proofs.YtfachljdihmicaaW.PrintMore
attribute [local go_sem] max2_int min2_int max_two min_two max_three min_three max_four min_four   -- for this text's walks alone
set_option linter.unusedVariables false
set_option linter.unusedSimpArgs false

/-! ### spec_l1TakeS: function 102 -/
mutual
def spec_l1TakeS.l0 : Nat → ByteArray → Int → Int → Int → Int → Option (Int × Int)
 | 0, _, _, _, _, _ => none
 | k + 1, x0, x1, x6, x7, x8 => if x8 < x6 then (spec_l1TakeS.j1 k x0 x1 x6 x7 x8 (decide (x8 < (x0.size : Int)))) else (spec_l1TakeS.j1 k x0 x1 x6 x7 x8 false)
def spec_l1TakeS.j1 : Nat → ByteArray → Int → Int → Int → Int → Bool → Option (Int × Int)
 | 0, _, _, _, _, _, _ => none
 | k + 1, x0, x1, x6, x7, x8, x24 => if x24 = true then (if 0 ≤ x8 then (if x8 < (x0.size : Int) then (if 0 ≤ (IntKind.u64.wrap (wrap64 (7 * x8))) then (if (bt x0 x8) ≥ 128 then (spec_l1TakeS.l0 k x0 x1 x6 (Go.bits .or .u64 x7 (shl .u64 (IntKind.u64.wrap (Go.bits .and .u8 (bt x0 x8) 127)) (IntKind.u64.wrap (wrap64 (7 * x8))))) (wrap64 (x8 + 1))) else (if (wrap64 (x1 - (wrap64 (7 * x8)))) < 7 then (if 0 ≤ (IntKind.u64.wrap (wrap64 ((wrap64 (x1 - (wrap64 (7 * x8)))) - 1))) then (if (shr .u64 (IntKind.u64.wrap (Go.bits .and .u8 (bt x0 x8) 127)) (IntKind.u64.wrap (wrap64 ((wrap64 (x1 - (wrap64 (7 * x8)))) - 1)))) = 0 then (spec_l1TakeS.j2 k (Go.bits .or .u64 x7 (shl .u64 (IntKind.u64.wrap (Go.bits .and .u8 (bt x0 x8) 127)) (IntKind.u64.wrap (wrap64 (7 * x8))))) x8 (IntKind.u64.wrap (Go.bits .and .u8 (bt x0 x8) 127)) false) else (spec_l1TakeS.j2 k (Go.bits .or .u64 x7 (shl .u64 (IntKind.u64.wrap (Go.bits .and .u8 (bt x0 x8) 127)) (IntKind.u64.wrap (wrap64 (7 * x8))))) x8 (IntKind.u64.wrap (Go.bits .and .u8 (bt x0 x8) 127)) ((shr .u64 (IntKind.u64.wrap (Go.bits .and .u8 (bt x0 x8) 127)) (IntKind.u64.wrap (wrap64 ((wrap64 (x1 - (wrap64 (7 * x8)))) - 1)))) != (shr .u64 127 (IntKind.u64.wrap (wrap64 ((wrap64 (x1 - (wrap64 (7 * x8)))) - 1))))))) else (none)) else (if (wrap64 (7 * (wrap64 (x8 + 1)))) < 64 then (if (Go.bits .and .u64 (IntKind.u64.wrap (Go.bits .and .u8 (bt x0 x8) 127)) 64) = 0 then (some (wrap64 (Go.bits .or .u64 x7 (shl .u64 (IntKind.u64.wrap (Go.bits .and .u8 (bt x0 x8) 127)) (IntKind.u64.wrap (wrap64 (7 * x8))))), wrap64 (x8 + 1))) else (if 0 ≤ (IntKind.u64.wrap (wrap64 (7 * (wrap64 (x8 + 1))))) then (some (wrap64 (Go.bits .or .u64 (Go.bits .or .u64 x7 (shl .u64 (IntKind.u64.wrap (Go.bits .and .u8 (bt x0 x8) 127)) (IntKind.u64.wrap (wrap64 (7 * x8))))) (shl .u64 18446744073709551615 (IntKind.u64.wrap (wrap64 (7 * (wrap64 (x8 + 1))))))), wrap64 (x8 + 1))) else (none))) else (some (wrap64 (Go.bits .or .u64 x7 (shl .u64 (IntKind.u64.wrap (Go.bits .and .u8 (bt x0 x8) 127)) (IntKind.u64.wrap (wrap64 (7 * x8))))), wrap64 (x8 + 1)))))) else (none)) else (none)) else (none)) else (some (0, 0))
def spec_l1TakeS.j2 : Nat → Int → Int → Int → Bool → Option (Int × Int)
 | 0, _, _, _, _ => none
 | k + 1, x7, x8, x9, x63 => if x63 = true then (some (0, 0)) else (if (wrap64 (7 * (wrap64 (x8 + 1)))) < 64 then (if (Go.bits .and .u64 x9 64) = 0 then (some (wrap64 (x7), wrap64 (x8 + 1))) else (if 0 ≤ (IntKind.u64.wrap (wrap64 (7 * (wrap64 (x8 + 1))))) then (some (wrap64 (Go.bits .or .u64 x7 (shl .u64 18446744073709551615 (IntKind.u64.wrap (wrap64 (7 * (wrap64 (x8 + 1))))))), wrap64 (x8 + 1))) else (none))) else (some (wrap64 (x7), wrap64 (x8 + 1))))
end
def spec_l1TakeS.f (k : Nat) (a0 : ByteArray) (a1 : Int) : Option (Int × Int) := spec_l1TakeS.l0 k a0 a1 (wrap64 (Int.tdiv (wrap64 (a1 + 6)) 7)) 0 0
theorem spec_l1TakeS.mono_l : ∀ k, (∀ y0 y1 y2 y3 y4, LeO (spec_l1TakeS.l0 k y0 y1 y2 y3 y4) (spec_l1TakeS.l0 (k + 1) y0 y1 y2 y3 y4)) ∧ (∀ y0 y1 y2 y3 y4 y5, LeO (spec_l1TakeS.j1 k y0 y1 y2 y3 y4 y5) (spec_l1TakeS.j1 (k + 1) y0 y1 y2 y3 y4 y5)) ∧ (∀ y0 y1 y2 y3, LeO (spec_l1TakeS.j2 k y0 y1 y2 y3) (spec_l1TakeS.j2 (k + 1) y0 y1 y2 y3))
 | 0 => ⟨fun _ _ _ _ _ r h => by simp [spec_l1TakeS.l0] at h, fun _ _ _ _ _ _ r h => by simp [spec_l1TakeS.j1] at h, fun _ _ _ _ r h => by simp [spec_l1TakeS.j2] at h⟩
 | k + 1 => by
  obtain ⟨ih0, ih1, ih2⟩ := spec_l1TakeS.mono_l k
  refine ⟨?_, ?_, ?_⟩
  ·
   intro y0 y1 y2 y3 y4
   unfold spec_l1TakeS.l0
   repeat' first
   | (with_reducible exact ih0 _ _ _ _ _)
   | (with_reducible exact ih1 _ _ _ _ _ _)
   | (with_reducible exact ih2 _ _ _ _)
   | (with_reducible exact LeO.refl _)
   | (with_reducible exact LeO.none _)
   | (with_reducible refine LeO.ite ?_ ?_)
   | (with_reducible refine LeO.bind ?_ (fun _ => ?_))
   | exact ih0 _ _ _ _ _
   | exact ih1 _ _ _ _ _ _
   | exact ih2 _ _ _ _
   | exact LeO.none _
   | refine LeO.ite ?_ ?_
   | refine LeO.bind ?_ (fun _ => ?_)
  ·
   intro y0 y1 y2 y3 y4 y5
   unfold spec_l1TakeS.j1
   repeat' first
   | (with_reducible exact ih0 _ _ _ _ _)
   | (with_reducible exact ih1 _ _ _ _ _ _)
   | (with_reducible exact ih2 _ _ _ _)
   | (with_reducible exact LeO.refl _)
   | (with_reducible exact LeO.none _)
   | (with_reducible refine LeO.ite ?_ ?_)
   | (with_reducible refine LeO.bind ?_ (fun _ => ?_))
   | exact ih0 _ _ _ _ _
   | exact ih1 _ _ _ _ _ _
   | exact ih2 _ _ _ _
   | exact LeO.none _
   | refine LeO.ite ?_ ?_
   | refine LeO.bind ?_ (fun _ => ?_)
  ·
   intro y0 y1 y2 y3
   unfold spec_l1TakeS.j2
   repeat' first
   | (with_reducible exact ih0 _ _ _ _ _)
   | (with_reducible exact ih1 _ _ _ _ _ _)
   | (with_reducible exact ih2 _ _ _ _)
   | (with_reducible exact LeO.refl _)
   | (with_reducible exact LeO.none _)
   | (with_reducible refine LeO.ite ?_ ?_)
   | (with_reducible refine LeO.bind ?_ (fun _ => ?_))
   | exact ih0 _ _ _ _ _
   | exact ih1 _ _ _ _ _ _
   | exact ih2 _ _ _ _
   | exact LeO.none _
   | refine LeO.ite ?_ ?_
   | refine LeO.bind ?_ (fun _ => ?_)
theorem spec_l1TakeS.mono : ∀ a0 a1 k, LeO (spec_l1TakeS.f k a0 a1) (spec_l1TakeS.f (k + 1) a0 a1) := by
 intro a0 a1 k
 obtain ⟨ih0, ih1, ih2⟩ := spec_l1TakeS.mono_l k
 unfold spec_l1TakeS.f
 repeat' first
   | (with_reducible exact ih0 _ _ _ _ _)
   | (with_reducible exact ih1 _ _ _ _ _ _)
   | (with_reducible exact ih2 _ _ _ _)
   | (with_reducible exact LeO.refl _)
   | (with_reducible exact LeO.none _)
   | (with_reducible refine LeO.ite ?_ ?_)
   | (with_reducible refine LeO.bind ?_ (fun _ => ?_))
   | exact ih0 _ _ _ _ _
   | exact ih1 _ _ _ _ _ _
   | exact ih2 _ _ _ _
   | exact LeO.none _
   | refine LeO.ite ?_ ?_
   | refine LeO.bind ?_ (fun _ => ?_)
set_option maxHeartbeats 8000000 in
set_option maxRecDepth 100000 in
theorem spec_l1TakeS.calls (k : Nat) (a0 : ByteArray) (a1 : Int) (r1 : Int) (r2 : Int) (w : World) (h : spec_l1TakeS.f k a0 a1 = some (r1, r2)) :
  Calls Try.prog 102 #[.string a0, .int .i64 a1] w fun e w' => e = .returned (.tuple #[.int .i64 r1, .int .i64 r2]) ∧ Drawn0 w w' := by
 have H : (spec_l1TakeS.l0 k a0 a1 (wrap64 (Int.tdiv (wrap64 (a1 + 6)) 7)) 0 0) = some (r1, r2) := h
 clear h
 have H' := Aside0.mk H
 clear H
 go_enter Try.func102, Try.ntmps102
 go_wp2
 (try simp only [Act.put, List.setIfInBounds_toArray, List.set_cons_zero, List.set_cons_succ])
 go_loopg [7, 8] k (fun kq v7 v8 w' => ∃ (x7_1 : Int) (x8_1 : Int), v7 = .int .u64 x7_1 ∧ v8 = .int .i64 x8_1 ∧ Aside0 (spec_l1TakeS.l0 kq a0 a1 (wrap64 (Int.tdiv (wrap64 (a1 + 6)) 7)) x7_1 x8_1 = some (r1, r2)) ∧ Aside0 (kq ≤ k) ∧ Drawn0 w w')
 case atStart => exact ⟨(0), (0), (by first | rfl | (simp; done) | (simp [*]; done)), (by first | rfl | (simp; done) | (simp [*]; done)), H', ⟨Nat.le_refl _⟩, by repeat (first | exact Drawn0.refl _ | apply Drawn0.step)⟩
 case round =>
  clear H'
  try clear c1
  try clear p2
  obtain ⟨x7_1, x8_1, rfl, rfl, HA, HK1, ⟨m1, rfl⟩⟩ := hrel
  cases gk with
  | zero => exact absurd HA.out (by simp [spec_l1TakeS.l0])
  | succ k1 =>
   have H := HA.out
   clear HA
   simp only [spec_l1TakeS.l0] at H
   have HC3 := Aside0.mk H
   clear H
   go_upto_region 4 with (fail)
   go_cut [24] (fun v24 wc => ∃ (kq : Nat) (x24_2 : Bool), v24 = .bool x24_2 ∧ Aside0 (spec_l1TakeS.j1 kq a0 a1 (wrap64 (Int.tdiv (wrap64 (a1 + 6)) 7)) x7_1 x8_1 x24_2 = some (r1, r2)) ∧ Aside0 (kq ≤ k1) ∧ Drawn0 w wc)
   case first =>
    have H := HC3.out
    clear HC3
    by_cases c4 : x8_1 < (wrap64 (Int.tdiv (wrap64 (a1 + 6)) 7))
    ·
     rw [if_pos c4] at H
     have c4b0 : decide (x8_1 < (wrap64 (Int.tdiv (wrap64 (a1 + 6)) 7))) = true := decide_eq_true c4
     clear c4
     (first | rw [c4b0] | (simp only [i64_w, i32_w]; rw [c4b0]) | skip)
     have H' := Aside0.mk H
     clear H
     go_wp2
     go_meet
     case rel => exact ⟨_, (decide (x8_1 < (a0.size : Int))), (by first | rfl | (simp; done) | (simp [*]; done)), H', ⟨by have := HK1.out; first | omega | exact Nat.le_refl _⟩, by repeat (first | exact Drawn0.refl _ | apply Drawn0.step)⟩
    ·
     rw [if_neg c4] at H
     have c4b0 : decide (x8_1 < (wrap64 (Int.tdiv (wrap64 (a1 + 6)) 7))) = false := decide_eq_false c4
     clear c4
     (first | rw [c4b0] | (simp only [i64_w, i32_w]; rw [c4b0]) | skip)
     have H' := Aside0.mk H
     clear H
     go_wp2
     go_meet
     case rel => exact ⟨_, (false), (by first | rfl | (simp; done) | (simp [*]; done)), H', ⟨by have := HK1.out; first | omega | exact Nat.le_refl _⟩, by repeat (first | exact Drawn0.refl _ | apply Drawn0.step)⟩
   case rest =>
    clear HC3
    try clear c1
    try clear p2
    try clear c4
    try clear c4b0
    try clear p2
    obtain ⟨kq, x24_2, rfl, HA, HJ2, ⟨mc2, rfl⟩⟩ := hcut
    cases kq with
    | zero => exact absurd HA.out (by simp [spec_l1TakeS.j1])
    | succ kj2 =>
     have H := HA.out
     clear HA
     simp only [spec_l1TakeS.j1] at H
     by_cases c5 : x24_2 = true
     ·
      subst c5
      have H1 : (if 0 ≤ x8_1 then (if x8_1 < (a0.size : Int) then (if 0 ≤ (IntKind.u64.wrap (wrap64 (7 * x8_1))) then (if (bt a0 x8_1) ≥ 128 then (spec_l1TakeS.l0 kj2 a0 a1 (wrap64 (Int.tdiv (wrap64 (a1 + 6)) 7)) (Go.bits .or .u64 x7_1 (shl .u64 (IntKind.u64.wrap (Go.bits .and .u8 (bt a0 x8_1) 127)) (IntKind.u64.wrap (wrap64 (7 * x8_1))))) (wrap64 (x8_1 + 1))) else (if (wrap64 (a1 - (wrap64 (7 * x8_1)))) < 7 then (if 0 ≤ (IntKind.u64.wrap (wrap64 ((wrap64 (a1 - (wrap64 (7 * x8_1)))) - 1))) then (if (shr .u64 (IntKind.u64.wrap (Go.bits .and .u8 (bt a0 x8_1) 127)) (IntKind.u64.wrap (wrap64 ((wrap64 (a1 - (wrap64 (7 * x8_1)))) - 1)))) = 0 then (spec_l1TakeS.j2 kj2 (Go.bits .or .u64 x7_1 (shl .u64 (IntKind.u64.wrap (Go.bits .and .u8 (bt a0 x8_1) 127)) (IntKind.u64.wrap (wrap64 (7 * x8_1))))) x8_1 (IntKind.u64.wrap (Go.bits .and .u8 (bt a0 x8_1) 127)) false) else (spec_l1TakeS.j2 kj2 (Go.bits .or .u64 x7_1 (shl .u64 (IntKind.u64.wrap (Go.bits .and .u8 (bt a0 x8_1) 127)) (IntKind.u64.wrap (wrap64 (7 * x8_1))))) x8_1 (IntKind.u64.wrap (Go.bits .and .u8 (bt a0 x8_1) 127)) ((shr .u64 (IntKind.u64.wrap (Go.bits .and .u8 (bt a0 x8_1) 127)) (IntKind.u64.wrap (wrap64 ((wrap64 (a1 - (wrap64 (7 * x8_1)))) - 1)))) != (shr .u64 127 (IntKind.u64.wrap (wrap64 ((wrap64 (a1 - (wrap64 (7 * x8_1)))) - 1))))))) else (none)) else (if (wrap64 (7 * (wrap64 (x8_1 + 1)))) < 64 then (if (Go.bits .and .u64 (IntKind.u64.wrap (Go.bits .and .u8 (bt a0 x8_1) 127)) 64) = 0 then (some (wrap64 (Go.bits .or .u64 x7_1 (shl .u64 (IntKind.u64.wrap (Go.bits .and .u8 (bt a0 x8_1) 127)) (IntKind.u64.wrap (wrap64 (7 * x8_1))))), wrap64 (x8_1 + 1))) else (if 0 ≤ (IntKind.u64.wrap (wrap64 (7 * (wrap64 (x8_1 + 1))))) then (some (wrap64 (Go.bits .or .u64 (Go.bits .or .u64 x7_1 (shl .u64 (IntKind.u64.wrap (Go.bits .and .u8 (bt a0 x8_1) 127)) (IntKind.u64.wrap (wrap64 (7 * x8_1))))) (shl .u64 18446744073709551615 (IntKind.u64.wrap (wrap64 (7 * (wrap64 (x8_1 + 1))))))), wrap64 (x8_1 + 1))) else (none))) else (some (wrap64 (Go.bits .or .u64 x7_1 (shl .u64 (IntKind.u64.wrap (Go.bits .and .u8 (bt a0 x8_1) 127)) (IntKind.u64.wrap (wrap64 (7 * x8_1))))), wrap64 (x8_1 + 1)))))) else (none)) else (none)) else (none)) = some (r1, r2) := by rw [if_pos rfl] at H; exact H
      clear H
      have H := H1
      clear H1
      by_cases c6 : 0 ≤ x8_1
      ·
       rw [if_pos c6] at H
       have c6b0 : decide (0 ≤ x8_1) = true := decide_eq_true c6
       clear c6
       by_cases c7 : x8_1 < (a0.size : Int)
       ·
        rw [if_pos c7] at H
        have c7b0 : decide (x8_1 < (a0.size : Int)) = true := decide_eq_true c7
        clear c7
        obtain ⟨ji9, hji9⟩ : ∃ j_ : Int, (IntKind.u64.wrap (wrap64 (7 * x8_1))) = j_ := ⟨_, rfl⟩
        replace H : (if 0 ≤ (ji9) then (if (bt a0 x8_1) ≥ 128 then (spec_l1TakeS.l0 kj2 a0 a1 (wrap64 (Int.tdiv (wrap64 (a1 + 6)) 7)) (Go.bits .or .u64 x7_1 (shl .u64 (IntKind.u64.wrap (Go.bits .and .u8 (bt a0 x8_1) 127)) (ji9))) (wrap64 (x8_1 + 1))) else (if (wrap64 (a1 - (wrap64 (7 * x8_1)))) < 7 then (if 0 ≤ (IntKind.u64.wrap (wrap64 ((wrap64 (a1 - (wrap64 (7 * x8_1)))) - 1))) then (if (shr .u64 (IntKind.u64.wrap (Go.bits .and .u8 (bt a0 x8_1) 127)) (IntKind.u64.wrap (wrap64 ((wrap64 (a1 - (wrap64 (7 * x8_1)))) - 1)))) = 0 then (spec_l1TakeS.j2 kj2 (Go.bits .or .u64 x7_1 (shl .u64 (IntKind.u64.wrap (Go.bits .and .u8 (bt a0 x8_1) 127)) (ji9))) x8_1 (IntKind.u64.wrap (Go.bits .and .u8 (bt a0 x8_1) 127)) false) else (spec_l1TakeS.j2 kj2 (Go.bits .or .u64 x7_1 (shl .u64 (IntKind.u64.wrap (Go.bits .and .u8 (bt a0 x8_1) 127)) (ji9))) x8_1 (IntKind.u64.wrap (Go.bits .and .u8 (bt a0 x8_1) 127)) ((shr .u64 (IntKind.u64.wrap (Go.bits .and .u8 (bt a0 x8_1) 127)) (IntKind.u64.wrap (wrap64 ((wrap64 (a1 - (wrap64 (7 * x8_1)))) - 1)))) != (shr .u64 127 (IntKind.u64.wrap (wrap64 ((wrap64 (a1 - (wrap64 (7 * x8_1)))) - 1))))))) else (none)) else (if (wrap64 (7 * (wrap64 (x8_1 + 1)))) < 64 then (if (Go.bits .and .u64 (IntKind.u64.wrap (Go.bits .and .u8 (bt a0 x8_1) 127)) 64) = 0 then (some (wrap64 (Go.bits .or .u64 x7_1 (shl .u64 (IntKind.u64.wrap (Go.bits .and .u8 (bt a0 x8_1) 127)) (ji9))), wrap64 (x8_1 + 1))) else (if 0 ≤ (IntKind.u64.wrap (wrap64 (7 * (wrap64 (x8_1 + 1))))) then (some (wrap64 (Go.bits .or .u64 (Go.bits .or .u64 x7_1 (shl .u64 (IntKind.u64.wrap (Go.bits .and .u8 (bt a0 x8_1) 127)) (ji9))) (shl .u64 18446744073709551615 (IntKind.u64.wrap (wrap64 (7 * (wrap64 (x8_1 + 1))))))), wrap64 (x8_1 + 1))) else (none))) else (some (wrap64 (Go.bits .or .u64 x7_1 (shl .u64 (IntKind.u64.wrap (Go.bits .and .u8 (bt a0 x8_1) 127)) (ji9))), wrap64 (x8_1 + 1)))))) else (none)) = some (r1, r2) := by first | (rw [hji9] at H; exact H) | (simp only [hji9] at H ⊢; exact H)
        by_cases c10 : 0 ≤ (ji9)
        ·
         rw [if_pos c10] at H
         have c10b0 := eq_true c10
         have c10b1 : decide (0 ≤ (ji9)) = true := decide_eq_true c10
         clear c10
         obtain ⟨ji11, hji11⟩ : ∃ j_ : Int, (shl .u64 (IntKind.u64.wrap (Go.bits .and .u8 (bt a0 x8_1) 127)) (ji9)) = j_ := ⟨_, rfl⟩
         replace H : (if (bt a0 x8_1) ≥ 128 then (spec_l1TakeS.l0 kj2 a0 a1 (wrap64 (Int.tdiv (wrap64 (a1 + 6)) 7)) (Go.bits .or .u64 x7_1 (ji11)) (wrap64 (x8_1 + 1))) else (if (wrap64 (a1 - (wrap64 (7 * x8_1)))) < 7 then (if 0 ≤ (IntKind.u64.wrap (wrap64 ((wrap64 (a1 - (wrap64 (7 * x8_1)))) - 1))) then (if (shr .u64 (IntKind.u64.wrap (Go.bits .and .u8 (bt a0 x8_1) 127)) (IntKind.u64.wrap (wrap64 ((wrap64 (a1 - (wrap64 (7 * x8_1)))) - 1)))) = 0 then (spec_l1TakeS.j2 kj2 (Go.bits .or .u64 x7_1 (ji11)) x8_1 (IntKind.u64.wrap (Go.bits .and .u8 (bt a0 x8_1) 127)) false) else (spec_l1TakeS.j2 kj2 (Go.bits .or .u64 x7_1 (ji11)) x8_1 (IntKind.u64.wrap (Go.bits .and .u8 (bt a0 x8_1) 127)) ((shr .u64 (IntKind.u64.wrap (Go.bits .and .u8 (bt a0 x8_1) 127)) (IntKind.u64.wrap (wrap64 ((wrap64 (a1 - (wrap64 (7 * x8_1)))) - 1)))) != (shr .u64 127 (IntKind.u64.wrap (wrap64 ((wrap64 (a1 - (wrap64 (7 * x8_1)))) - 1))))))) else (none)) else (if (wrap64 (7 * (wrap64 (x8_1 + 1)))) < 64 then (if (Go.bits .and .u64 (IntKind.u64.wrap (Go.bits .and .u8 (bt a0 x8_1) 127)) 64) = 0 then (some (wrap64 (Go.bits .or .u64 x7_1 (ji11)), wrap64 (x8_1 + 1))) else (if 0 ≤ (IntKind.u64.wrap (wrap64 (7 * (wrap64 (x8_1 + 1))))) then (some (wrap64 (Go.bits .or .u64 (Go.bits .or .u64 x7_1 (ji11)) (shl .u64 18446744073709551615 (IntKind.u64.wrap (wrap64 (7 * (wrap64 (x8_1 + 1))))))), wrap64 (x8_1 + 1))) else (none))) else (some (wrap64 (Go.bits .or .u64 x7_1 (ji11)), wrap64 (x8_1 + 1)))))) = some (r1, r2) := by first | (rw [hji11] at H; exact H) | (simp only [hji11] at H ⊢; exact H)
         have hji11_ : (IntKind.u64.wrap ((IntKind.u64.wrap (Go.bits .and .u8 (bt a0 x8_1) 127)) * 2 ^ min (ji9).toNat 64)) = ji11 := hji11
         have hji11z : (ji9) ≤ 64 → (IntKind.u64.wrap ((IntKind.u64.wrap (Go.bits .and .u8 (bt a0 x8_1) 127)) * 2 ^ (ji9).toNat)) = ji11 := shl_small hji11
         by_cases c13 : (bt a0 x8_1) ≥ 128
         ·
          rw [if_pos c13] at H
          have c13b0 : decide (128 ≤ (bt a0 x8_1)) = true := decide_eq_true c13
          clear c13
          have H' := Aside0.mk H
          clear H
          have p8 : 0 ≤ (x8_1 : Int) := of_decide_eq_true (by first | (with_reducible assumption) | assumption)
          have q8 : x8_1 < (a0.size : Int) := of_decide_eq_true (by first | (with_reducible assumption) | assumption)
          have hx8 := bt_at a0 x8_1
          replace p8 := eq_true p8
          replace q8 := eq_true q8
          have p12 : 0 ≤ (x8_1 : Int) := of_decide_eq_true (by first | (with_reducible assumption) | assumption)
          have q12 : x8_1 < (a0.size : Int) := of_decide_eq_true (by first | (with_reducible assumption) | assumption)
          have hx12 := bt_at a0 x8_1
          replace p12 := eq_true p12
          replace q12 := eq_true q12
          go_wp2
          go_roundg kj2
          case measure => have := HK1.out; have := HJ2.out; omega
          case rel => exact ⟨(Go.bits .or .u64 x7_1 (ji11)), (wrap64 (x8_1 + 1)), (by first | rfl | (simp; done) | (simp only [← hji11] <;> (first | rfl | simp)) | (simp [*]; done)), (by first | rfl | (simp; done) | (simp [*]; done)), H', ⟨by have := HK1.out; have := HJ2.out; omega⟩, by repeat (first | exact Drawn0.refl _ | apply Drawn0.step)⟩
         ·
          rw [if_neg c13] at H
          have c13b0 : decide (128 ≤ (bt a0 x8_1)) = false := decide_eq_false c13
          clear c13
          by_cases c14 : (wrap64 (a1 - (wrap64 (7 * x8_1)))) < 7
          ·
           rw [if_pos c14] at H
           have c14b0 : decide ((wrap64 (a1 - (wrap64 (7 * x8_1)))) < 7) = true := decide_eq_true c14
           clear c14
           obtain ⟨ji15, hji15⟩ : ∃ j_ : Int, (IntKind.u64.wrap (wrap64 ((wrap64 (a1 - (wrap64 (7 * x8_1)))) - 1))) = j_ := ⟨_, rfl⟩
           replace H : (if 0 ≤ (ji15) then (if (shr .u64 (IntKind.u64.wrap (Go.bits .and .u8 (bt a0 x8_1) 127)) (ji15)) = 0 then (spec_l1TakeS.j2 kj2 (Go.bits .or .u64 x7_1 (ji11)) x8_1 (IntKind.u64.wrap (Go.bits .and .u8 (bt a0 x8_1) 127)) false) else (spec_l1TakeS.j2 kj2 (Go.bits .or .u64 x7_1 (ji11)) x8_1 (IntKind.u64.wrap (Go.bits .and .u8 (bt a0 x8_1) 127)) ((shr .u64 (IntKind.u64.wrap (Go.bits .and .u8 (bt a0 x8_1) 127)) (ji15)) != (shr .u64 127 (ji15))))) else (none)) = some (r1, r2) := by first | (rw [hji15] at H; exact H) | (simp only [hji15] at H ⊢; exact H)
           by_cases c16 : 0 ≤ (ji15)
           ·
            rw [if_pos c16] at H
            have c16b0 := eq_true c16
            have c16b1 : decide (0 ≤ (ji15)) = true := decide_eq_true c16
            clear c16
            obtain ⟨ji17, hji17⟩ : ∃ j_ : Int, (shr .u64 (IntKind.u64.wrap (Go.bits .and .u8 (bt a0 x8_1) 127)) (ji15)) = j_ := ⟨_, rfl⟩
            replace H : (if (ji17) = 0 then (spec_l1TakeS.j2 kj2 (Go.bits .or .u64 x7_1 (ji11)) x8_1 (IntKind.u64.wrap (Go.bits .and .u8 (bt a0 x8_1) 127)) false) else (spec_l1TakeS.j2 kj2 (Go.bits .or .u64 x7_1 (ji11)) x8_1 (IntKind.u64.wrap (Go.bits .and .u8 (bt a0 x8_1) 127)) ((ji17) != (shr .u64 127 (ji15))))) = some (r1, r2) := by first | (rw [hji17] at H; exact H) | (simp only [hji17] at H ⊢; exact H)
            have hji17_ : ((IntKind.u64.wrap (Go.bits .and .u8 (bt a0 x8_1) 127)) / 2 ^ min (ji15).toNat 64) = ji17 := hji17
            have hji17z : (ji15) ≤ 64 → ((IntKind.u64.wrap (Go.bits .and .u8 (bt a0 x8_1) 127)) / 2 ^ (ji15).toNat) = ji17 := shr_small hji17
            have HC18 := Aside0.mk H
            clear H
            have p8 : 0 ≤ (x8_1 : Int) := of_decide_eq_true (by first | (with_reducible assumption) | assumption)
            have q8 : x8_1 < (a0.size : Int) := of_decide_eq_true (by first | (with_reducible assumption) | assumption)
            have hx8 := bt_at a0 x8_1
            replace p8 := eq_true p8
            replace q8 := eq_true q8
            have p12 : 0 ≤ (x8_1 : Int) := of_decide_eq_true (by first | (with_reducible assumption) | assumption)
            have q12 : x8_1 < (a0.size : Int) := of_decide_eq_true (by first | (with_reducible assumption) | assumption)
            have hx12 := bt_at a0 x8_1
            replace p12 := eq_true p12
            replace q12 := eq_true q12
            go_upto_region 12 with (fail)
            go_cut [63] (fun v63 wc => ∃ (kq : Nat) (x63_17 : Bool), v63 = .bool x63_17 ∧ Aside0 (spec_l1TakeS.j2 kq (Go.bits .or .u64 x7_1 (ji11)) x8_1 (IntKind.u64.wrap (Go.bits .and .u8 (bt a0 x8_1) 127)) x63_17 = some (r1, r2)) ∧ Aside0 (kq ≤ kj2) ∧ Drawn0 w wc)
            case first =>
             have H := HC18.out
             clear HC18
             by_cases c19 : (ji17) = 0
             ·
              rw [if_pos c19] at H
              have c19b0 : ((ji17) == 0) = true := beq_iff_eq.mpr c19
              have c19b1 : ((ji17) != 0) = false := bne_eq_false_iff_eq.mpr c19
              clear c19
              (first | rw [c19b0] | (simp only [i64_w, i32_w]; rw [c19b0]) | skip)
              have H' := Aside0.mk H
              clear H
              go_wp2
              first | go_meet | ((simp only [← hji17]); go_meet) | ((simp only [← hji15]); go_meet) | ((simp only [← hji11]); go_meet) | ((simp only [← hji9]); go_meet) | ((simp only [← hji17, ← hji15, ← hji11, ← hji9]); go_meet)
              case rel => exact ⟨_, (false), (by first | rfl | (simp; done) | (simp [*]; done)), H', ⟨by have := HK1.out; have := HJ2.out; first | omega | exact Nat.le_refl _⟩, by repeat (first | exact Drawn0.refl _ | apply Drawn0.step)⟩
             ·
              rw [if_neg c19] at H
              have c19b0 : ((ji17) == 0) = false := beq_eq_false_iff_ne.mpr c19
              have c19b1 : ((ji17) != 0) = true := bne_iff_ne.mpr c19
              (first | rw [c19b0] | (simp only [i64_w, i32_w]; rw [c19b0]) | skip)
              have c20b0 := eq_true (of_decide_eq_true (by first | (with_reducible assumption) | assumption) : 0 ≤ (ji15))
              obtain ⟨ji21, hji21⟩ : ∃ j_ : Int, (shr .u64 127 (ji15)) = j_ := ⟨_, rfl⟩
              replace H : (spec_l1TakeS.j2 kj2 (Go.bits .or .u64 x7_1 (ji11)) x8_1 (IntKind.u64.wrap (Go.bits .and .u8 (bt a0 x8_1) 127)) ((ji17) != (ji21))) = some (r1, r2) := by first | (rw [hji21] at H; exact H) | (simp only [hji21] at H ⊢; exact H)
              have hji21_ : (127 / 2 ^ min (ji15).toNat 64) = ji21 := hji21
              have hji21z : (ji15) ≤ 64 → (127 / 2 ^ (ji15).toNat) = ji21 := shr_small hji21
              have H' := Aside0.mk H
              clear H
              go_wp2
              first | go_meet | ((simp only [← hji21]); go_meet) | ((simp only [← hji17]); go_meet) | ((simp only [← hji15]); go_meet) | ((simp only [← hji11]); go_meet) | ((simp only [← hji9]); go_meet) | ((simp only [← hji21, ← hji17, ← hji15, ← hji11, ← hji9]); go_meet)
              case rel => exact ⟨_, (((ji17) != (ji21))), (by first | rfl | (simp; done) | (simp only [← hji17, ← hji21] <;> (first | rfl | simp)) | (simp [*]; done)), H', ⟨by have := HK1.out; have := HJ2.out; first | omega | exact Nat.le_refl _⟩, by repeat (first | exact Drawn0.refl _ | apply Drawn0.step)⟩
            case rest =>
             clear HC18
             try clear c1
             try clear p1
             try clear q1
             try clear hx1
             try clear c2
             try clear p2
             try clear c4
             try clear c4b0
             try clear c5
             try clear c6
             try clear c6b0
             try clear p6
             try clear c7
             try clear c7b0
             try clear p8
             try clear q8
             try clear hx8
             try clear c10
             try clear c10b0
             try clear c10b1
             try clear p12
             try clear q12
             try clear hx12
             try clear c13
             try clear c13b0
             try clear c14
             try clear c14b0
             try clear c16
             try clear c16b0
             try clear c16b1
             try clear c19
             try clear c19b0
             try clear c19b1
             try clear c20
             try clear c20b0
             try clear p12
             try clear p2
             try clear p8
             try clear q12
             try clear q8
             obtain ⟨kq, x63_17, rfl, HA, HJ17, ⟨mc17, rfl⟩⟩ := hcut
             cases kq with
             | zero => exact absurd HA.out (by simp [spec_l1TakeS.j2])
             | succ kj17 =>
              have H := HA.out
              clear HA
              simp only [spec_l1TakeS.j2] at H
              by_cases c22 : x63_17 = true
              ·
               subst c22
               have H1 : (some (0, 0)) = some (r1, r2) := by rw [if_pos rfl] at H; exact H
               clear H
               have H := H1
               clear H1
               simp only [Option.some.injEq, Prod.mk.injEq] at H
               obtain ⟨rfl, rfl⟩ := H
               go_wp2
               go_ret2
               exact ⟨by first | rfl | (simp; done) | (simp only [← hji9, ← hji11, ← hji15, ← hji17] <;> (first | rfl | simp)) | (simp [*]; done), by repeat (first | exact Drawn0.refl _ | apply Drawn0.step)⟩
              ·
               replace c22 := Bool.eq_false_iff.mpr c22
               subst c22
               have H1 : (if (wrap64 (7 * (wrap64 (x8_1 + 1)))) < 64 then (if (Go.bits .and .u64 (IntKind.u64.wrap (Go.bits .and .u8 (bt a0 x8_1) 127)) 64) = 0 then (some (wrap64 ((Go.bits .or .u64 x7_1 (ji11))), wrap64 (x8_1 + 1))) else (if 0 ≤ (IntKind.u64.wrap (wrap64 (7 * (wrap64 (x8_1 + 1))))) then (some (wrap64 (Go.bits .or .u64 (Go.bits .or .u64 x7_1 (ji11)) (shl .u64 18446744073709551615 (IntKind.u64.wrap (wrap64 (7 * (wrap64 (x8_1 + 1))))))), wrap64 (x8_1 + 1))) else (none))) else (some (wrap64 ((Go.bits .or .u64 x7_1 (ji11))), wrap64 (x8_1 + 1)))) = some (r1, r2) := by rw [if_neg (show ¬ (false = true) by decide)] at H; exact H
               clear H
               have H := H1
               clear H1
               by_cases c23 : (wrap64 (7 * (wrap64 (x8_1 + 1)))) < 64
               ·
                rw [if_pos c23] at H
                have c23b0 : decide ((wrap64 (7 * (wrap64 (x8_1 + 1)))) < 64) = true := decide_eq_true c23
                clear c23
                by_cases c24 : (Go.bits .and .u64 (IntKind.u64.wrap (Go.bits .and .u8 (bt a0 x8_1) 127)) 64) = 0
                ·
                 rw [if_pos c24] at H
                 have c24b0 : ((Go.bits .and .u64 (IntKind.u64.wrap (Go.bits .and .u8 (bt a0 x8_1) 127)) 64) == 0) = true := beq_iff_eq.mpr c24
                 have c24b1 : ((Go.bits .and .u64 (IntKind.u64.wrap (Go.bits .and .u8 (bt a0 x8_1) 127)) 64) != 0) = false := bne_eq_false_iff_eq.mpr c24
                 clear c24
                 simp only [Option.some.injEq, Prod.mk.injEq] at H
                 obtain ⟨rfl, rfl⟩ := H
                 go_wp2
                 go_ret2
                 exact ⟨by first | rfl | (simp; done) | (simp only [← hji9, ← hji11, ← hji15, ← hji17] <;> (first | rfl | simp)) | (simp [*]; done), by repeat (first | exact Drawn0.refl _ | apply Drawn0.step)⟩
                ·
                 rw [if_neg c24] at H
                 have c24b0 : ((Go.bits .and .u64 (IntKind.u64.wrap (Go.bits .and .u8 (bt a0 x8_1) 127)) 64) == 0) = false := beq_eq_false_iff_ne.mpr c24
                 have c24b1 : ((Go.bits .and .u64 (IntKind.u64.wrap (Go.bits .and .u8 (bt a0 x8_1) 127)) 64) != 0) = true := bne_iff_ne.mpr c24
                 obtain ⟨ji25, hji25⟩ : ∃ j_ : Int, (IntKind.u64.wrap (wrap64 (7 * (wrap64 (x8_1 + 1))))) = j_ := ⟨_, rfl⟩
                 replace H : (if 0 ≤ (ji25) then (some (wrap64 (Go.bits .or .u64 (Go.bits .or .u64 x7_1 (ji11)) (shl .u64 18446744073709551615 (ji25))), wrap64 (x8_1 + 1))) else (none)) = some (r1, r2) := by first | (rw [hji25] at H; exact H) | (simp only [hji25] at H ⊢; exact H)
                 by_cases c26 : 0 ≤ (ji25)
                 ·
                  rw [if_pos c26] at H
                  have c26b0 := eq_true c26
                  have c26b1 : decide (0 ≤ (ji25)) = true := decide_eq_true c26
                  clear c26
                  obtain ⟨ji27, hji27⟩ : ∃ j_ : Int, (shl .u64 18446744073709551615 (ji25)) = j_ := ⟨_, rfl⟩
                  replace H : (some (wrap64 (Go.bits .or .u64 (Go.bits .or .u64 x7_1 (ji11)) (ji27)), wrap64 (x8_1 + 1))) = some (r1, r2) := by first | (rw [hji27] at H; exact H) | (simp only [hji27] at H ⊢; exact H)
                  have hji27_ : (IntKind.u64.wrap (18446744073709551615 * 2 ^ min (ji25).toNat 64)) = ji27 := hji27
                  have hji27z : (ji25) ≤ 64 → (IntKind.u64.wrap (18446744073709551615 * 2 ^ (ji25).toNat)) = ji27 := shl_small hji27
                  simp only [Option.some.injEq, Prod.mk.injEq] at H
                  obtain ⟨rfl, rfl⟩ := H
                  go_wp2
                  go_ret2
                  exact ⟨by first | rfl | (simp; done) | (simp only [← hji9, ← hji11, ← hji15, ← hji17, ← hji25, ← hji27] <;> (first | rfl | simp)) | (simp [*]; done), by repeat (first | exact Drawn0.refl _ | apply Drawn0.step)⟩
                 ·
                  rw [if_neg c26] at H
                  exact absurd H (by simp)
               ·
                rw [if_neg c23] at H
                have c23b0 : decide ((wrap64 (7 * (wrap64 (x8_1 + 1)))) < 64) = false := decide_eq_false c23
                clear c23
                simp only [Option.some.injEq, Prod.mk.injEq] at H
                obtain ⟨rfl, rfl⟩ := H
                go_wp2
                go_ret2
                exact ⟨by first | rfl | (simp; done) | (simp only [← hji9, ← hji11, ← hji15, ← hji17] <;> (first | rfl | simp)) | (simp [*]; done), by repeat (first | exact Drawn0.refl _ | apply Drawn0.step)⟩
           ·
            rw [if_neg c16] at H
            exact absurd H (by simp)
          ·
           rw [if_neg c14] at H
           have c14b0 : decide ((wrap64 (a1 - (wrap64 (7 * x8_1)))) < 7) = false := decide_eq_false c14
           clear c14
           by_cases c28 : (wrap64 (7 * (wrap64 (x8_1 + 1)))) < 64
           ·
            rw [if_pos c28] at H
            have c28b0 : decide ((wrap64 (7 * (wrap64 (x8_1 + 1)))) < 64) = true := decide_eq_true c28
            clear c28
            by_cases c29 : (Go.bits .and .u64 (IntKind.u64.wrap (Go.bits .and .u8 (bt a0 x8_1) 127)) 64) = 0
            ·
             rw [if_pos c29] at H
             have c29b0 : ((Go.bits .and .u64 (IntKind.u64.wrap (Go.bits .and .u8 (bt a0 x8_1) 127)) 64) == 0) = true := beq_iff_eq.mpr c29
             have c29b1 : ((Go.bits .and .u64 (IntKind.u64.wrap (Go.bits .and .u8 (bt a0 x8_1) 127)) 64) != 0) = false := bne_eq_false_iff_eq.mpr c29
             clear c29
             simp only [Option.some.injEq, Prod.mk.injEq] at H
             obtain ⟨rfl, rfl⟩ := H
             have p8 : 0 ≤ (x8_1 : Int) := of_decide_eq_true (by first | (with_reducible assumption) | assumption)
             have q8 : x8_1 < (a0.size : Int) := of_decide_eq_true (by first | (with_reducible assumption) | assumption)
             have hx8 := bt_at a0 x8_1
             replace p8 := eq_true p8
             replace q8 := eq_true q8
             have p12 : 0 ≤ (x8_1 : Int) := of_decide_eq_true (by first | (with_reducible assumption) | assumption)
             have q12 : x8_1 < (a0.size : Int) := of_decide_eq_true (by first | (with_reducible assumption) | assumption)
             have hx12 := bt_at a0 x8_1
             replace p12 := eq_true p12
             replace q12 := eq_true q12
             go_wp2
             go_ret2
             exact ⟨by first | rfl | (simp; done) | (simp only [← hji9, ← hji11] <;> (first | rfl | simp)) | (simp [*]; done), by repeat (first | exact Drawn0.refl _ | apply Drawn0.step)⟩
            ·
             rw [if_neg c29] at H
             have c29b0 : ((Go.bits .and .u64 (IntKind.u64.wrap (Go.bits .and .u8 (bt a0 x8_1) 127)) 64) == 0) = false := beq_eq_false_iff_ne.mpr c29
             have c29b1 : ((Go.bits .and .u64 (IntKind.u64.wrap (Go.bits .and .u8 (bt a0 x8_1) 127)) 64) != 0) = true := bne_iff_ne.mpr c29
             obtain ⟨ji30, hji30⟩ : ∃ j_ : Int, (IntKind.u64.wrap (wrap64 (7 * (wrap64 (x8_1 + 1))))) = j_ := ⟨_, rfl⟩
             replace H : (if 0 ≤ (ji30) then (some (wrap64 (Go.bits .or .u64 (Go.bits .or .u64 x7_1 (ji11)) (shl .u64 18446744073709551615 (ji30))), wrap64 (x8_1 + 1))) else (none)) = some (r1, r2) := by first | (rw [hji30] at H; exact H) | (simp only [hji30] at H ⊢; exact H)
             by_cases c31 : 0 ≤ (ji30)
             ·
              rw [if_pos c31] at H
              have c31b0 := eq_true c31
              have c31b1 : decide (0 ≤ (ji30)) = true := decide_eq_true c31
              clear c31
              obtain ⟨ji32, hji32⟩ : ∃ j_ : Int, (shl .u64 18446744073709551615 (ji30)) = j_ := ⟨_, rfl⟩
              replace H : (some (wrap64 (Go.bits .or .u64 (Go.bits .or .u64 x7_1 (ji11)) (ji32)), wrap64 (x8_1 + 1))) = some (r1, r2) := by first | (rw [hji32] at H; exact H) | (simp only [hji32] at H ⊢; exact H)
              have hji32_ : (IntKind.u64.wrap (18446744073709551615 * 2 ^ min (ji30).toNat 64)) = ji32 := hji32
              have hji32z : (ji30) ≤ 64 → (IntKind.u64.wrap (18446744073709551615 * 2 ^ (ji30).toNat)) = ji32 := shl_small hji32
              simp only [Option.some.injEq, Prod.mk.injEq] at H
              obtain ⟨rfl, rfl⟩ := H
              have p8 : 0 ≤ (x8_1 : Int) := of_decide_eq_true (by first | (with_reducible assumption) | assumption)
              have q8 : x8_1 < (a0.size : Int) := of_decide_eq_true (by first | (with_reducible assumption) | assumption)
              have hx8 := bt_at a0 x8_1
              replace p8 := eq_true p8
              replace q8 := eq_true q8
              have p12 : 0 ≤ (x8_1 : Int) := of_decide_eq_true (by first | (with_reducible assumption) | assumption)
              have q12 : x8_1 < (a0.size : Int) := of_decide_eq_true (by first | (with_reducible assumption) | assumption)
              have hx12 := bt_at a0 x8_1
              replace p12 := eq_true p12
              replace q12 := eq_true q12
              go_wp2
              go_ret2
              exact ⟨by first | rfl | (simp; done) | (simp only [← hji9, ← hji11, ← hji30, ← hji32] <;> (first | rfl | simp)) | (simp [*]; done), by repeat (first | exact Drawn0.refl _ | apply Drawn0.step)⟩
             ·
              rw [if_neg c31] at H
              exact absurd H (by simp)
           ·
            rw [if_neg c28] at H
            have c28b0 : decide ((wrap64 (7 * (wrap64 (x8_1 + 1)))) < 64) = false := decide_eq_false c28
            clear c28
            simp only [Option.some.injEq, Prod.mk.injEq] at H
            obtain ⟨rfl, rfl⟩ := H
            have p8 : 0 ≤ (x8_1 : Int) := of_decide_eq_true (by first | (with_reducible assumption) | assumption)
            have q8 : x8_1 < (a0.size : Int) := of_decide_eq_true (by first | (with_reducible assumption) | assumption)
            have hx8 := bt_at a0 x8_1
            replace p8 := eq_true p8
            replace q8 := eq_true q8
            have p12 : 0 ≤ (x8_1 : Int) := of_decide_eq_true (by first | (with_reducible assumption) | assumption)
            have q12 : x8_1 < (a0.size : Int) := of_decide_eq_true (by first | (with_reducible assumption) | assumption)
            have hx12 := bt_at a0 x8_1
            replace p12 := eq_true p12
            replace q12 := eq_true q12
            go_wp2
            go_ret2
            exact ⟨by first | rfl | (simp; done) | (simp only [← hji9, ← hji11] <;> (first | rfl | simp)) | (simp [*]; done), by repeat (first | exact Drawn0.refl _ | apply Drawn0.step)⟩
        ·
         rw [if_neg c10] at H
         exact absurd H (by simp)
       ·
        rw [if_neg c7] at H
        exact absurd H (by simp)
      ·
       rw [if_neg c6] at H
       exact absurd H (by simp)
     ·
      replace c5 := Bool.eq_false_iff.mpr c5
      subst c5
      have H1 : (some (0, 0)) = some (r1, r2) := by rw [if_neg (show ¬ (false = true) by decide)] at H; exact H
      clear H
      have H := H1
      clear H1
      simp only [Option.some.injEq, Prod.mk.injEq] at H
      obtain ⟨rfl, rfl⟩ := H
      go_wp2
      go_ret2
      exact ⟨by first | rfl | (simp; done) | (simp [*]; done), by repeat (first | exact Drawn0.refl _ | apply Drawn0.step)⟩

end Go.Proofs.Ytfachljdihmicaa.Q

namespace Go.Proofs.Ytfachljdihmicaa.Q
open Go.RowKit Go.Proofs.YtfachljdihmicaaW.PrintWords Go.Proofs.YtfachljdihmicaaW.PrintLast Go.Proofs.YtfachljdihmicaaW.PrintMore
attribute [local go_sem] max2_int min2_int max_two min_two max_three min_three max_four min_four   -- for this text's walks alone
set_option linter.unusedVariables false
set_option linter.unusedSimpArgs false

/-! ### spec_l5Number: function 103 -/
def spec_l5Number.l0 : Nat → ByteArray → Int → Int → Option (Int)
 | 0, _, _, _ => none
 | k + 1, x0, x3, x4 => if x4 ≥ 0 then (if 0 ≤ x4 then (if x4 < (x0.size : Int) then (spec_l5Number.l0 k x0 (Go.bits .or .u64 (IntKind.u64.wrap (x3 * 256)) (IntKind.u64.wrap (bt x0 x4))) (wrap64 (x4 - 1))) else (none)) else (none)) else (some x3)
def spec_l5Number.f (k : Nat) (a0 : ByteArray) : Option (Int) := spec_l5Number.l0 k a0 0 (wrap64 ((a0.size : Int) - 1))
theorem spec_l5Number.mono_l : ∀ k, (∀ y0 y1 y2, LeO (spec_l5Number.l0 k y0 y1 y2) (spec_l5Number.l0 (k + 1) y0 y1 y2))
 | 0 => fun _ _ _ r h => by simp [spec_l5Number.l0] at h
 | k + 1 => by
  have ih0 := spec_l5Number.mono_l k
  ·
   intro y0 y1 y2
   unfold spec_l5Number.l0
   repeat' first
   | (with_reducible exact ih0 _ _ _)
   | (with_reducible exact LeO.refl _)
   | (with_reducible exact LeO.none _)
   | (with_reducible refine LeO.ite ?_ ?_)
   | (with_reducible refine LeO.bind ?_ (fun _ => ?_))
   | exact ih0 _ _ _
   | exact LeO.none _
   | refine LeO.ite ?_ ?_
   | refine LeO.bind ?_ (fun _ => ?_)
theorem spec_l5Number.mono : ∀ a0 k, LeO (spec_l5Number.f k a0) (spec_l5Number.f (k + 1) a0) := by
 intro a0 k
 have ih0 := spec_l5Number.mono_l k
 unfold spec_l5Number.f
 repeat' first
   | (with_reducible exact ih0 _ _ _)
   | (with_reducible exact LeO.refl _)
   | (with_reducible exact LeO.none _)
   | (with_reducible refine LeO.ite ?_ ?_)
   | (with_reducible refine LeO.bind ?_ (fun _ => ?_))
   | exact ih0 _ _ _
   | exact LeO.none _
   | refine LeO.ite ?_ ?_
   | refine LeO.bind ?_ (fun _ => ?_)
set_option maxHeartbeats 8000000 in
set_option maxRecDepth 100000 in
theorem spec_l5Number.calls (k : Nat) (a0 : ByteArray) (r : Int) (w : World) (h : spec_l5Number.f k a0 = some r) :
  Calls Try.prog 103 #[.string a0] w fun e w' => e = .returned (.int .u64 r) ∧ Drawn0 w w' := by
 have H : (spec_l5Number.l0 k a0 0 (wrap64 ((a0.size : Int) - 1))) = some r := h
 clear h
 have H' := Aside0.mk H
 clear H
 go_enter Try.func103, Try.ntmps103
 go_wp2
 (try simp only [Act.put, List.setIfInBounds_toArray, List.set_cons_zero, List.set_cons_succ])
 go_loopg [3, 4] k (fun kq v3 v4 w' => ∃ (x3_1 : Int) (x4_1 : Int), v3 = .int .u64 x3_1 ∧ v4 = .int .i64 x4_1 ∧ Aside0 (spec_l5Number.l0 kq a0 x3_1 x4_1 = some r) ∧ Aside0 (kq ≤ k) ∧ Drawn0 w w')
 case atStart => exact ⟨(0), (wrap64 ((a0.size : Int) - 1)), (by first | rfl | (simp; done) | (simp [*]; done)), (by first | rfl | (simp; done) | (simp [*]; done)), H', ⟨Nat.le_refl _⟩, by repeat (first | exact Drawn0.refl _ | apply Drawn0.step)⟩
 case round =>
  clear H'
  try clear c1
  obtain ⟨x3_1, x4_1, rfl, rfl, HA, HK1, ⟨m1, rfl⟩⟩ := hrel
  cases gk with
  | zero => exact absurd HA.out (by simp [spec_l5Number.l0])
  | succ k1 =>
   have H := HA.out
   clear HA
   simp only [spec_l5Number.l0] at H
   by_cases c2 : x4_1 ≥ 0
   ·
    rw [if_pos c2] at H
    have c2b0 : decide (0 ≤ x4_1) = true := decide_eq_true c2
    clear c2
    by_cases c3 : 0 ≤ x4_1
    ·
     rw [if_pos c3] at H
     have c3b0 : decide (0 ≤ x4_1) = true := decide_eq_true c3
     clear c3
     by_cases c4 : x4_1 < (a0.size : Int)
     ·
      rw [if_pos c4] at H
      have c4b0 : decide (x4_1 < (a0.size : Int)) = true := decide_eq_true c4
      clear c4
      have H' := Aside0.mk H
      clear H
      have p5 : 0 ≤ (x4_1 : Int) := of_decide_eq_true (by first | (with_reducible assumption) | assumption)
      have q5 : x4_1 < (a0.size : Int) := of_decide_eq_true (by first | (with_reducible assumption) | assumption)
      have hx5 := bt_at a0 x4_1
      replace p5 := eq_true p5
      replace q5 := eq_true q5
      go_wp2
      go_roundg k1
      case measure => have := HK1.out; omega
      case rel => exact ⟨(Go.bits .or .u64 (IntKind.u64.wrap (x3_1 * 256)) (IntKind.u64.wrap (bt a0 x4_1))), (wrap64 (x4_1 - 1)), (by first | rfl | (simp; done) | (simp [*]; done)), (by first | rfl | (simp; done) | (simp [*]; done)), H', ⟨by have := HK1.out; omega⟩, by repeat (first | exact Drawn0.refl _ | apply Drawn0.step)⟩
     ·
      rw [if_neg c4] at H
      exact absurd H (by simp)
    ·
     rw [if_neg c3] at H
     exact absurd H (by simp)
   ·
    rw [if_neg c2] at H
    have c2b0 : decide (0 ≤ x4_1) = false := decide_eq_false c2
    clear c2
    obtain rfl := Option.some.inj H
    simp only [Option.some.injEq, Prod.mk.injEq] at H
    obtain ⟨rfl⟩ := H
    go_wp2
    go_ret
    exact ⟨by first | rfl | (simp; done) | (simp [*]; done), by repeat (first | exact Drawn0.refl _ | apply Drawn0.step)⟩

end Go.Proofs.Ytfachljdihmicaa.Q

namespace Go.Proofs.Ytfachljdihmicaa.Q
open Go.RowKit Go.Proofs.YtfachljdihmicaaW.PrintWords Go.Proofs.YtfachljdihmicaaW.PrintLast Go.Proofs.YtfachljdihmicaaW.PrintMore
attribute [local go_sem] max2_int min2_int max_two min_two max_three min_three max_four min_four   -- for this text's walks alone
set_option linter.unusedVariables false
set_option linter.unusedSimpArgs false

/-! ### spec_l6Type: function 92 -/
def spec_l6Type.f (a0 : Int) : Option (Bool) := (spec_l1In.f a0 125 127).bind fun t104 => (some t104)
set_option maxHeartbeats 8000000 in
set_option maxRecDepth 100000 in
theorem spec_l6Type.calls (a0 : Int) (r : Bool) (w : World) (h : spec_l6Type.f a0 = some r) :
  Calls Try.prog 92 #[.int .i64 a0] w fun e w' => e = .returned (.bool r) ∧ Drawn0 w w' := by
 have H : ((spec_l1In.f a0 125 127).bind fun t104 => (some t104)) = some r := h
 clear h
 replace H := Option.bind_eq_some_iff.mp H
 obtain ⟨t104, A20, H⟩ := H
 replace H : (some t104) = some r := H
 have A2 := Aside0.mk A20
 clear A20
 obtain rfl := Option.some.inj H
 simp only [Option.some.injEq, Prod.mk.injEq] at H
 obtain ⟨rfl⟩ := H
 go_enter Try.func92, Try.ntmps92
 go_wp2_with (first | ((with_reducible refine gate_callee (f := 85) rfl ?_); refine goesL_ (some 4) rfl rfl Try.func85 (by kernel_rfl) rfl #[.int .i64 a0, .int .i64 125, .int .i64 127] rfl ar ?_; (with_reducible refine (spec_l1In.calls a0 125 127 t104 _ A2.out).mono ?_); rintro e w' ⟨rfl, ⟨nd, rfl⟩⟩; refine ⟨_, rfl, ?_⟩))
 go_ret
 exact ⟨by first | rfl | (simp; done) | (simp [*]; done), by repeat (first | exact Drawn0.refl _ | apply Drawn0.step)⟩

end Go.Proofs.Ytfachljdihmicaa.Q

namespace Go.Proofs.Ytfachljdihmicaa.Q
open Go.RowKit Go.Proofs.YtfachljdihmicaaW.PrintWords Go.Proofs.YtfachljdihmicaaW.PrintLast Go.Proofs.YtfachljdihmicaaW.PrintMore
attribute [local go_sem] max2_int min2_int max_two min_two max_three min_three max_four min_four   -- for this text's walks alone
set_option linter.unusedVariables false
set_option linter.unusedSimpArgs false

/-! ### spec_GoodIns: function 104 -/
def spec_GoodIns.f (k : Nat) (a0_0 : Int) (a0_1 : Int) : Option (Bool) := (spec_l6Shape.f k a0_0).bind fun t106 => (if t106 = 0 then (some (a0_1 == 0)) else (if t106 = 1 then ((spec_l6Type.f a0_1).bind fun t107 => (if t107 = true then (some true) else (some (a0_1 == 64)))) else (if t106 = 2 then ((spec_l1In.f a0_1 0 1000).bind fun t108 => (some t108)) else (if t106 = 3 then ((spec_l1In.f a0_1 0 10000).bind fun t109 => (some t109)) else (if t106 = 4 then ((spec_l1In.f a0_1 (-2147483648) 2147483647).bind fun t110 => (some t110)) else (if t106 = 5 then (some true) else (if t106 = 6 then ((spec_l1In.f a0_1 0 4294967295).bind fun t111 => (some t111)) else (some false))))))))
theorem spec_GoodIns.mono : ∀ a0 a1 k, LeO (spec_GoodIns.f k a0 a1) (spec_GoodIns.f (k + 1) a0 a1) := by
 intro a0 a1 k
 unfold spec_GoodIns.f
 repeat' first
   | (with_reducible exact spec_l6Shape.mono _ _)
   | (with_reducible exact LeO.refl _)
   | (with_reducible exact LeO.none _)
   | (with_reducible refine LeO.ite ?_ ?_)
   | (with_reducible refine LeO.bind ?_ (fun _ => ?_))
   | exact spec_l6Shape.mono _ _
   | exact LeO.none _
   | refine LeO.ite ?_ ?_
   | refine LeO.bind ?_ (fun _ => ?_)
set_option maxHeartbeats 8000000 in
set_option maxRecDepth 100000 in
theorem spec_GoodIns.calls (k : Nat) (a0_0 : Int) (a0_1 : Int) (r : Bool) (w : World) (h : spec_GoodIns.f k a0_0 a0_1 = some r) :
  Calls Try.prog 104 #[.agg #[.int .i64 a0_0, .int .i64 a0_1]] w fun e w' => e = .returned (.bool r) ∧ Below w.heap.size w w' := by
 have hu45 := Try.underlying45
 have HB := Aside0.mk (Below.refl w.heap.size w)
 have H : ((spec_l6Shape.f k a0_0).bind fun t106 => (if t106 = 0 then (some (a0_1 == 0)) else (if t106 = 1 then ((spec_l6Type.f a0_1).bind fun t107 => (if t107 = true then (some true) else (some (a0_1 == 64)))) else (if t106 = 2 then ((spec_l1In.f a0_1 0 1000).bind fun t108 => (some t108)) else (if t106 = 3 then ((spec_l1In.f a0_1 0 10000).bind fun t109 => (some t109)) else (if t106 = 4 then ((spec_l1In.f a0_1 (-2147483648) 2147483647).bind fun t110 => (some t110)) else (if t106 = 5 then (some true) else (if t106 = 6 then ((spec_l1In.f a0_1 0 4294967295).bind fun t111 => (some t111)) else (some false))))))))) = some r := h
 clear h
 replace H := Option.bind_eq_some_iff.mp H
 obtain ⟨t106, A20, H⟩ := H
 replace H : (if t106 = 0 then (some (a0_1 == 0)) else (if t106 = 1 then ((spec_l6Type.f a0_1).bind fun t107 => (if t107 = true then (some true) else (some (a0_1 == 64)))) else (if t106 = 2 then ((spec_l1In.f a0_1 0 1000).bind fun t108 => (some t108)) else (if t106 = 3 then ((spec_l1In.f a0_1 0 10000).bind fun t109 => (some t109)) else (if t106 = 4 then ((spec_l1In.f a0_1 (-2147483648) 2147483647).bind fun t110 => (some t110)) else (if t106 = 5 then (some true) else (if t106 = 6 then ((spec_l1In.f a0_1 0 4294967295).bind fun t111 => (some t111)) else (some false)))))))) = some r := H
 have A2 := Aside0.mk A20
 clear A20
 by_cases c3 : t106 = 0
 ·
  rw [if_pos c3] at H
  have c3b0 : (t106 == 0) = true := beq_iff_eq.mpr c3
  have c3b1 : (t106 != 0) = false := bne_eq_false_iff_eq.mpr c3
  clear c3
  obtain rfl := Option.some.inj H
  simp only [Option.some.injEq, Prod.mk.injEq] at H
  obtain ⟨rfl⟩ := H
  go_enter Try.func104, Try.ntmps104
  go_wp2_with (first | ((with_reducible refine gate_dst (N := 1) rfl ?_); refine box_event ?hg (N := 1) ?hd (cs := #[.int .i64 a0_0, .int .i64 a0_1]) (t := 45) ?hr ?_; (case hd => rfl); (case hg => rfl); (case hr => first | (go_simp; done) | (go_simp; rfl)); intro gb105 hg w4 hbox hb; have n0_ := Aside0.mk (below_step (bw HB.out) hb); have n1_ := Aside0.mk (hbox); have n2_ := Aside0.mk ((by rw [hg]; exact (below_size (bw HB.out)) : w.heap.size ≤ gb105)); have n3_ := Aside0.mk ((by rw [hg]; exact (below_size (bw HB.out)) : w.heap.size ≤ gb105)); clear HB; have HB := n0_; have BK105 := n1_; have GW105 := n2_; have GE105 := n3_; clear n0_ n1_ n2_ n3_; clear hb hbox hg; have hcz5_0 : w4.cell? ⟨gb105, 0, none⟩ = some (.int .i64 a0_0) := (blk_cell BK105.out 0).trans rfl; have hcz5_1 : w4.cell? ⟨gb105, 1, none⟩ = some (.int .i64 a0_1) := (blk_cell BK105.out 1).trans rfl; have hfz5_0 := blk_frozen BK105.out 0; have hfz5_1 := blk_frozen BK105.out 1) | ((with_reducible refine gate_callee (f := 100) rfl ?_); refine goesL_ (some 5) rfl rfl Try.func100 (by kernel_rfl) rfl #[.int .i64 a0_0] rfl ar ?_; (with_reducible refine (spec_l6Shape.calls k a0_0 t106 _ A2.out).mono ?_); rintro e w' ⟨rfl, ⟨nd, rfl⟩⟩; refine ⟨_, rfl, ?_⟩))
  go_ret
  exact ⟨by first | rfl | (simp [errW_none, errW_some] <;> rfl) | (simp [*, errW_none, errW_some] <;> rfl), bw HB.out⟩
 ·
  rw [if_neg c3] at H
  have c3b0 : (t106 == 0) = false := beq_eq_false_iff_ne.mpr c3
  have c3b1 : (t106 != 0) = true := bne_iff_ne.mpr c3
  by_cases c6 : t106 = 1
  ·
   rw [if_pos c6] at H
   have c6b0 : (t106 == 1) = true := beq_iff_eq.mpr c6
   have c6b1 : (t106 != 1) = false := bne_eq_false_iff_eq.mpr c6
   clear c6
   replace H := Option.bind_eq_some_iff.mp H
   obtain ⟨t107, A70, H⟩ := H
   replace H : (if t107 = true then (some true) else (some (a0_1 == 64))) = some r := H
   have A7 := Aside0.mk A70
   clear A70
   by_cases c8 : t107 = true
   ·
    subst c8
    have H1 : (some true) = some r := by rw [if_pos rfl] at H; exact H
    clear H
    have H := H1
    clear H1
    obtain rfl := Option.some.inj H
    simp only [Option.some.injEq, Prod.mk.injEq] at H
    obtain ⟨rfl⟩ := H
    go_enter Try.func104, Try.ntmps104
    go_wp2_with (first | ((with_reducible refine gate_dst (N := 1) rfl ?_); refine box_event ?hg (N := 1) ?hd (cs := #[.int .i64 a0_0, .int .i64 a0_1]) (t := 45) ?hr ?_; (case hd => rfl); (case hg => rfl); (case hr => first | (go_simp; done) | (go_simp; rfl)); intro gb105 hg w9 hbox hb; have n0_ := Aside0.mk (below_step (bw HB.out) hb); have n1_ := Aside0.mk (hbox); have n2_ := Aside0.mk ((by rw [hg]; exact (below_size (bw HB.out)) : w.heap.size ≤ gb105)); have n3_ := Aside0.mk ((by rw [hg]; exact (below_size (bw HB.out)) : w.heap.size ≤ gb105)); clear HB; have HB := n0_; have BK105 := n1_; have GW105 := n2_; have GE105 := n3_; clear n0_ n1_ n2_ n3_; clear hb hbox hg; have hcz10_0 : w9.cell? ⟨gb105, 0, none⟩ = some (.int .i64 a0_0) := (blk_cell BK105.out 0).trans rfl; have hcz10_1 : w9.cell? ⟨gb105, 1, none⟩ = some (.int .i64 a0_1) := (blk_cell BK105.out 1).trans rfl; have hfz10_0 := blk_frozen BK105.out 0; have hfz10_1 := blk_frozen BK105.out 1) | ((with_reducible refine gate_callee (f := 100) rfl ?_); refine goesL_ (some 5) rfl rfl Try.func100 (by kernel_rfl) rfl #[.int .i64 a0_0] rfl ar ?_; (with_reducible refine (spec_l6Shape.calls k a0_0 t106 _ A2.out).mono ?_); rintro e w' ⟨rfl, ⟨nd, rfl⟩⟩; refine ⟨_, rfl, ?_⟩) | ((with_reducible refine gate_callee (f := 92) rfl ?_); refine goesL_ (some 15) rfl rfl Try.func92 (by kernel_rfl) rfl #[.int .i64 a0_1] rfl ar ?_; (with_reducible refine (spec_l6Type.calls a0_1 true _ A7.out).mono ?_); rintro e w' ⟨rfl, ⟨nd, rfl⟩⟩; refine ⟨_, rfl, ?_⟩))
    go_ret
    exact ⟨by first | rfl | (simp [errW_none, errW_some] <;> rfl) | (simp [*, errW_none, errW_some] <;> rfl), bw HB.out⟩
   ·
    replace c8 := Bool.eq_false_iff.mpr c8
    subst c8
    have H1 : (some (a0_1 == 64)) = some r := by rw [if_neg (show ¬ (false = true) by decide)] at H; exact H
    clear H
    have H := H1
    clear H1
    obtain rfl := Option.some.inj H
    simp only [Option.some.injEq, Prod.mk.injEq] at H
    obtain ⟨rfl⟩ := H
    go_enter Try.func104, Try.ntmps104
    go_wp2_with (first | ((with_reducible refine gate_dst (N := 1) rfl ?_); refine box_event ?hg (N := 1) ?hd (cs := #[.int .i64 a0_0, .int .i64 a0_1]) (t := 45) ?hr ?_; (case hd => rfl); (case hg => rfl); (case hr => first | (go_simp; done) | (go_simp; rfl)); intro gb105 hg w11 hbox hb; have n0_ := Aside0.mk (below_step (bw HB.out) hb); have n1_ := Aside0.mk (hbox); have n2_ := Aside0.mk ((by rw [hg]; exact (below_size (bw HB.out)) : w.heap.size ≤ gb105)); have n3_ := Aside0.mk ((by rw [hg]; exact (below_size (bw HB.out)) : w.heap.size ≤ gb105)); clear HB; have HB := n0_; have BK105 := n1_; have GW105 := n2_; have GE105 := n3_; clear n0_ n1_ n2_ n3_; clear hb hbox hg; have hcz12_0 : w11.cell? ⟨gb105, 0, none⟩ = some (.int .i64 a0_0) := (blk_cell BK105.out 0).trans rfl; have hcz12_1 : w11.cell? ⟨gb105, 1, none⟩ = some (.int .i64 a0_1) := (blk_cell BK105.out 1).trans rfl; have hfz12_0 := blk_frozen BK105.out 0; have hfz12_1 := blk_frozen BK105.out 1) | ((with_reducible refine gate_callee (f := 100) rfl ?_); refine goesL_ (some 5) rfl rfl Try.func100 (by kernel_rfl) rfl #[.int .i64 a0_0] rfl ar ?_; (with_reducible refine (spec_l6Shape.calls k a0_0 t106 _ A2.out).mono ?_); rintro e w' ⟨rfl, ⟨nd, rfl⟩⟩; refine ⟨_, rfl, ?_⟩) | ((with_reducible refine gate_callee (f := 92) rfl ?_); refine goesL_ (some 15) rfl rfl Try.func92 (by kernel_rfl) rfl #[.int .i64 a0_1] rfl ar ?_; (with_reducible refine (spec_l6Type.calls a0_1 false _ A7.out).mono ?_); rintro e w' ⟨rfl, ⟨nd, rfl⟩⟩; refine ⟨_, rfl, ?_⟩))
    go_ret
    exact ⟨by first | rfl | (simp [errW_none, errW_some] <;> rfl) | (simp [*, errW_none, errW_some] <;> rfl), bw HB.out⟩
  ·
   rw [if_neg c6] at H
   have c6b0 : (t106 == 1) = false := beq_eq_false_iff_ne.mpr c6
   have c6b1 : (t106 != 1) = true := bne_iff_ne.mpr c6
   by_cases c13 : t106 = 2
   ·
    rw [if_pos c13] at H
    have c13b0 : (t106 == 2) = true := beq_iff_eq.mpr c13
    have c13b1 : (t106 != 2) = false := bne_eq_false_iff_eq.mpr c13
    clear c13
    replace H := Option.bind_eq_some_iff.mp H
    obtain ⟨t108, A140, H⟩ := H
    replace H : (some t108) = some r := H
    have A14 := Aside0.mk A140
    clear A140
    obtain rfl := Option.some.inj H
    simp only [Option.some.injEq, Prod.mk.injEq] at H
    obtain ⟨rfl⟩ := H
    go_enter Try.func104, Try.ntmps104
    go_wp2_with (first | ((with_reducible refine gate_dst (N := 1) rfl ?_); refine box_event ?hg (N := 1) ?hd (cs := #[.int .i64 a0_0, .int .i64 a0_1]) (t := 45) ?hr ?_; (case hd => rfl); (case hg => rfl); (case hr => first | (go_simp; done) | (go_simp; rfl)); intro gb105 hg w15 hbox hb; have n0_ := Aside0.mk (below_step (bw HB.out) hb); have n1_ := Aside0.mk (hbox); have n2_ := Aside0.mk ((by rw [hg]; exact (below_size (bw HB.out)) : w.heap.size ≤ gb105)); have n3_ := Aside0.mk ((by rw [hg]; exact (below_size (bw HB.out)) : w.heap.size ≤ gb105)); clear HB; have HB := n0_; have BK105 := n1_; have GW105 := n2_; have GE105 := n3_; clear n0_ n1_ n2_ n3_; clear hb hbox hg; have hcz16_0 : w15.cell? ⟨gb105, 0, none⟩ = some (.int .i64 a0_0) := (blk_cell BK105.out 0).trans rfl; have hcz16_1 : w15.cell? ⟨gb105, 1, none⟩ = some (.int .i64 a0_1) := (blk_cell BK105.out 1).trans rfl; have hfz16_0 := blk_frozen BK105.out 0; have hfz16_1 := blk_frozen BK105.out 1) | ((with_reducible refine gate_callee (f := 100) rfl ?_); refine goesL_ (some 5) rfl rfl Try.func100 (by kernel_rfl) rfl #[.int .i64 a0_0] rfl ar ?_; (with_reducible refine (spec_l6Shape.calls k a0_0 t106 _ A2.out).mono ?_); rintro e w' ⟨rfl, ⟨nd, rfl⟩⟩; refine ⟨_, rfl, ?_⟩) | ((with_reducible refine gate_callee (f := 85) rfl ?_); refine goesL_ (some 25) rfl rfl Try.func85 (by kernel_rfl) rfl #[.int .i64 a0_1, .int .i64 0, .int .i64 1000] rfl ar ?_; (with_reducible refine (spec_l1In.calls a0_1 0 1000 t108 _ A14.out).mono ?_); rintro e w' ⟨rfl, ⟨nd, rfl⟩⟩; refine ⟨_, rfl, ?_⟩))
    go_ret
    exact ⟨by first | rfl | (simp [errW_none, errW_some] <;> rfl) | (simp [*, errW_none, errW_some] <;> rfl), bw HB.out⟩
   ·
    rw [if_neg c13] at H
    have c13b0 : (t106 == 2) = false := beq_eq_false_iff_ne.mpr c13
    have c13b1 : (t106 != 2) = true := bne_iff_ne.mpr c13
    by_cases c17 : t106 = 3
    ·
     rw [if_pos c17] at H
     have c17b0 : (t106 == 3) = true := beq_iff_eq.mpr c17
     have c17b1 : (t106 != 3) = false := bne_eq_false_iff_eq.mpr c17
     clear c17
     replace H := Option.bind_eq_some_iff.mp H
     obtain ⟨t109, A180, H⟩ := H
     replace H : (some t109) = some r := H
     have A18 := Aside0.mk A180
     clear A180
     obtain rfl := Option.some.inj H
     simp only [Option.some.injEq, Prod.mk.injEq] at H
     obtain ⟨rfl⟩ := H
     go_enter Try.func104, Try.ntmps104
     go_wp2_with (first | ((with_reducible refine gate_dst (N := 1) rfl ?_); refine box_event ?hg (N := 1) ?hd (cs := #[.int .i64 a0_0, .int .i64 a0_1]) (t := 45) ?hr ?_; (case hd => rfl); (case hg => rfl); (case hr => first | (go_simp; done) | (go_simp; rfl)); intro gb105 hg w19 hbox hb; have n0_ := Aside0.mk (below_step (bw HB.out) hb); have n1_ := Aside0.mk (hbox); have n2_ := Aside0.mk ((by rw [hg]; exact (below_size (bw HB.out)) : w.heap.size ≤ gb105)); have n3_ := Aside0.mk ((by rw [hg]; exact (below_size (bw HB.out)) : w.heap.size ≤ gb105)); clear HB; have HB := n0_; have BK105 := n1_; have GW105 := n2_; have GE105 := n3_; clear n0_ n1_ n2_ n3_; clear hb hbox hg; have hcz20_0 : w19.cell? ⟨gb105, 0, none⟩ = some (.int .i64 a0_0) := (blk_cell BK105.out 0).trans rfl; have hcz20_1 : w19.cell? ⟨gb105, 1, none⟩ = some (.int .i64 a0_1) := (blk_cell BK105.out 1).trans rfl; have hfz20_0 := blk_frozen BK105.out 0; have hfz20_1 := blk_frozen BK105.out 1) | ((with_reducible refine gate_callee (f := 100) rfl ?_); refine goesL_ (some 5) rfl rfl Try.func100 (by kernel_rfl) rfl #[.int .i64 a0_0] rfl ar ?_; (with_reducible refine (spec_l6Shape.calls k a0_0 t106 _ A2.out).mono ?_); rintro e w' ⟨rfl, ⟨nd, rfl⟩⟩; refine ⟨_, rfl, ?_⟩) | ((with_reducible refine gate_callee (f := 85) rfl ?_); refine goesL_ (some 30) rfl rfl Try.func85 (by kernel_rfl) rfl #[.int .i64 a0_1, .int .i64 0, .int .i64 10000] rfl ar ?_; (with_reducible refine (spec_l1In.calls a0_1 0 10000 t109 _ A18.out).mono ?_); rintro e w' ⟨rfl, ⟨nd, rfl⟩⟩; refine ⟨_, rfl, ?_⟩))
     go_ret
     exact ⟨by first | rfl | (simp [errW_none, errW_some] <;> rfl) | (simp [*, errW_none, errW_some] <;> rfl), bw HB.out⟩
    ·
     rw [if_neg c17] at H
     have c17b0 : (t106 == 3) = false := beq_eq_false_iff_ne.mpr c17
     have c17b1 : (t106 != 3) = true := bne_iff_ne.mpr c17
     by_cases c21 : t106 = 4
     ·
      rw [if_pos c21] at H
      have c21b0 : (t106 == 4) = true := beq_iff_eq.mpr c21
      have c21b1 : (t106 != 4) = false := bne_eq_false_iff_eq.mpr c21
      clear c21
      replace H := Option.bind_eq_some_iff.mp H
      obtain ⟨t110, A220, H⟩ := H
      replace H : (some t110) = some r := H
      have A22 := Aside0.mk A220
      clear A220
      obtain rfl := Option.some.inj H
      simp only [Option.some.injEq, Prod.mk.injEq] at H
      obtain ⟨rfl⟩ := H
      go_enter Try.func104, Try.ntmps104
      go_wp2_with (first | ((with_reducible refine gate_dst (N := 1) rfl ?_); refine box_event ?hg (N := 1) ?hd (cs := #[.int .i64 a0_0, .int .i64 a0_1]) (t := 45) ?hr ?_; (case hd => rfl); (case hg => rfl); (case hr => first | (go_simp; done) | (go_simp; rfl)); intro gb105 hg w23 hbox hb; have n0_ := Aside0.mk (below_step (bw HB.out) hb); have n1_ := Aside0.mk (hbox); have n2_ := Aside0.mk ((by rw [hg]; exact (below_size (bw HB.out)) : w.heap.size ≤ gb105)); have n3_ := Aside0.mk ((by rw [hg]; exact (below_size (bw HB.out)) : w.heap.size ≤ gb105)); clear HB; have HB := n0_; have BK105 := n1_; have GW105 := n2_; have GE105 := n3_; clear n0_ n1_ n2_ n3_; clear hb hbox hg; have hcz24_0 : w23.cell? ⟨gb105, 0, none⟩ = some (.int .i64 a0_0) := (blk_cell BK105.out 0).trans rfl; have hcz24_1 : w23.cell? ⟨gb105, 1, none⟩ = some (.int .i64 a0_1) := (blk_cell BK105.out 1).trans rfl; have hfz24_0 := blk_frozen BK105.out 0; have hfz24_1 := blk_frozen BK105.out 1) | ((with_reducible refine gate_callee (f := 100) rfl ?_); refine goesL_ (some 5) rfl rfl Try.func100 (by kernel_rfl) rfl #[.int .i64 a0_0] rfl ar ?_; (with_reducible refine (spec_l6Shape.calls k a0_0 t106 _ A2.out).mono ?_); rintro e w' ⟨rfl, ⟨nd, rfl⟩⟩; refine ⟨_, rfl, ?_⟩) | ((with_reducible refine gate_callee (f := 85) rfl ?_); refine goesL_ (some 35) rfl rfl Try.func85 (by kernel_rfl) rfl #[.int .i64 a0_1, .int .i64 (-2147483648), .int .i64 2147483647] rfl ar ?_; (with_reducible refine (spec_l1In.calls a0_1 (-2147483648) 2147483647 t110 _ A22.out).mono ?_); rintro e w' ⟨rfl, ⟨nd, rfl⟩⟩; refine ⟨_, rfl, ?_⟩))
      go_ret
      exact ⟨by first | rfl | (simp [errW_none, errW_some] <;> rfl) | (simp [*, errW_none, errW_some] <;> rfl), bw HB.out⟩
     ·
      rw [if_neg c21] at H
      have c21b0 : (t106 == 4) = false := beq_eq_false_iff_ne.mpr c21
      have c21b1 : (t106 != 4) = true := bne_iff_ne.mpr c21
      by_cases c25 : t106 = 5
      ·
       rw [if_pos c25] at H
       have c25b0 : (t106 == 5) = true := beq_iff_eq.mpr c25
       have c25b1 : (t106 != 5) = false := bne_eq_false_iff_eq.mpr c25
       clear c25
       obtain rfl := Option.some.inj H
       simp only [Option.some.injEq, Prod.mk.injEq] at H
       obtain ⟨rfl⟩ := H
       go_enter Try.func104, Try.ntmps104
       go_wp2_with (first | ((with_reducible refine gate_dst (N := 1) rfl ?_); refine box_event ?hg (N := 1) ?hd (cs := #[.int .i64 a0_0, .int .i64 a0_1]) (t := 45) ?hr ?_; (case hd => rfl); (case hg => rfl); (case hr => first | (go_simp; done) | (go_simp; rfl)); intro gb105 hg w26 hbox hb; have n0_ := Aside0.mk (below_step (bw HB.out) hb); have n1_ := Aside0.mk (hbox); have n2_ := Aside0.mk ((by rw [hg]; exact (below_size (bw HB.out)) : w.heap.size ≤ gb105)); have n3_ := Aside0.mk ((by rw [hg]; exact (below_size (bw HB.out)) : w.heap.size ≤ gb105)); clear HB; have HB := n0_; have BK105 := n1_; have GW105 := n2_; have GE105 := n3_; clear n0_ n1_ n2_ n3_; clear hb hbox hg; have hcz27_0 : w26.cell? ⟨gb105, 0, none⟩ = some (.int .i64 a0_0) := (blk_cell BK105.out 0).trans rfl; have hcz27_1 : w26.cell? ⟨gb105, 1, none⟩ = some (.int .i64 a0_1) := (blk_cell BK105.out 1).trans rfl; have hfz27_0 := blk_frozen BK105.out 0; have hfz27_1 := blk_frozen BK105.out 1) | ((with_reducible refine gate_callee (f := 100) rfl ?_); refine goesL_ (some 5) rfl rfl Try.func100 (by kernel_rfl) rfl #[.int .i64 a0_0] rfl ar ?_; (with_reducible refine (spec_l6Shape.calls k a0_0 t106 _ A2.out).mono ?_); rintro e w' ⟨rfl, ⟨nd, rfl⟩⟩; refine ⟨_, rfl, ?_⟩))
       go_ret
       exact ⟨by first | rfl | (simp [errW_none, errW_some] <;> rfl) | (simp [*, errW_none, errW_some] <;> rfl), bw HB.out⟩
      ·
       rw [if_neg c25] at H
       have c25b0 : (t106 == 5) = false := beq_eq_false_iff_ne.mpr c25
       have c25b1 : (t106 != 5) = true := bne_iff_ne.mpr c25
       by_cases c28 : t106 = 6
       ·
        rw [if_pos c28] at H
        have c28b0 : (t106 == 6) = true := beq_iff_eq.mpr c28
        have c28b1 : (t106 != 6) = false := bne_eq_false_iff_eq.mpr c28
        clear c28
        replace H := Option.bind_eq_some_iff.mp H
        obtain ⟨t111, A290, H⟩ := H
        replace H : (some t111) = some r := H
        have A29 := Aside0.mk A290
        clear A290
        obtain rfl := Option.some.inj H
        simp only [Option.some.injEq, Prod.mk.injEq] at H
        obtain ⟨rfl⟩ := H
        go_enter Try.func104, Try.ntmps104
        go_wp2_with (first | ((with_reducible refine gate_dst (N := 1) rfl ?_); refine box_event ?hg (N := 1) ?hd (cs := #[.int .i64 a0_0, .int .i64 a0_1]) (t := 45) ?hr ?_; (case hd => rfl); (case hg => rfl); (case hr => first | (go_simp; done) | (go_simp; rfl)); intro gb105 hg w30 hbox hb; have n0_ := Aside0.mk (below_step (bw HB.out) hb); have n1_ := Aside0.mk (hbox); have n2_ := Aside0.mk ((by rw [hg]; exact (below_size (bw HB.out)) : w.heap.size ≤ gb105)); have n3_ := Aside0.mk ((by rw [hg]; exact (below_size (bw HB.out)) : w.heap.size ≤ gb105)); clear HB; have HB := n0_; have BK105 := n1_; have GW105 := n2_; have GE105 := n3_; clear n0_ n1_ n2_ n3_; clear hb hbox hg; have hcz31_0 : w30.cell? ⟨gb105, 0, none⟩ = some (.int .i64 a0_0) := (blk_cell BK105.out 0).trans rfl; have hcz31_1 : w30.cell? ⟨gb105, 1, none⟩ = some (.int .i64 a0_1) := (blk_cell BK105.out 1).trans rfl; have hfz31_0 := blk_frozen BK105.out 0; have hfz31_1 := blk_frozen BK105.out 1) | ((with_reducible refine gate_callee (f := 100) rfl ?_); refine goesL_ (some 5) rfl rfl Try.func100 (by kernel_rfl) rfl #[.int .i64 a0_0] rfl ar ?_; (with_reducible refine (spec_l6Shape.calls k a0_0 t106 _ A2.out).mono ?_); rintro e w' ⟨rfl, ⟨nd, rfl⟩⟩; refine ⟨_, rfl, ?_⟩) | ((with_reducible refine gate_callee (f := 85) rfl ?_); refine goesL_ (some 42) rfl rfl Try.func85 (by kernel_rfl) rfl #[.int .i64 a0_1, .int .i64 0, .int .i64 4294967295] rfl ar ?_; (with_reducible refine (spec_l1In.calls a0_1 0 4294967295 t111 _ A29.out).mono ?_); rintro e w' ⟨rfl, ⟨nd, rfl⟩⟩; refine ⟨_, rfl, ?_⟩))
        go_ret
        exact ⟨by first | rfl | (simp [errW_none, errW_some] <;> rfl) | (simp [*, errW_none, errW_some] <;> rfl), bw HB.out⟩
       ·
        rw [if_neg c28] at H
        have c28b0 : (t106 == 6) = false := beq_eq_false_iff_ne.mpr c28
        have c28b1 : (t106 != 6) = true := bne_iff_ne.mpr c28
        obtain rfl := Option.some.inj H
        simp only [Option.some.injEq, Prod.mk.injEq] at H
        obtain ⟨rfl⟩ := H
        go_enter Try.func104, Try.ntmps104
        go_wp2_with (first | ((with_reducible refine gate_dst (N := 1) rfl ?_); refine box_event ?hg (N := 1) ?hd (cs := #[.int .i64 a0_0, .int .i64 a0_1]) (t := 45) ?hr ?_; (case hd => rfl); (case hg => rfl); (case hr => first | (go_simp; done) | (go_simp; rfl)); intro gb105 hg w32 hbox hb; have n0_ := Aside0.mk (below_step (bw HB.out) hb); have n1_ := Aside0.mk (hbox); have n2_ := Aside0.mk ((by rw [hg]; exact (below_size (bw HB.out)) : w.heap.size ≤ gb105)); have n3_ := Aside0.mk ((by rw [hg]; exact (below_size (bw HB.out)) : w.heap.size ≤ gb105)); clear HB; have HB := n0_; have BK105 := n1_; have GW105 := n2_; have GE105 := n3_; clear n0_ n1_ n2_ n3_; clear hb hbox hg; have hcz33_0 : w32.cell? ⟨gb105, 0, none⟩ = some (.int .i64 a0_0) := (blk_cell BK105.out 0).trans rfl; have hcz33_1 : w32.cell? ⟨gb105, 1, none⟩ = some (.int .i64 a0_1) := (blk_cell BK105.out 1).trans rfl; have hfz33_0 := blk_frozen BK105.out 0; have hfz33_1 := blk_frozen BK105.out 1) | ((with_reducible refine gate_callee (f := 100) rfl ?_); refine goesL_ (some 5) rfl rfl Try.func100 (by kernel_rfl) rfl #[.int .i64 a0_0] rfl ar ?_; (with_reducible refine (spec_l6Shape.calls k a0_0 t106 _ A2.out).mono ?_); rintro e w' ⟨rfl, ⟨nd, rfl⟩⟩; refine ⟨_, rfl, ?_⟩))
        go_ret
        exact ⟨by first | rfl | (simp [errW_none, errW_some] <;> rfl) | (simp [*, errW_none, errW_some] <;> rfl), bw HB.out⟩

end Go.Proofs.Ytfachljdihmicaa.Q

namespace Go.Proofs.Ytfachljdihmicaa.Q
open Go.RowKit Go.Proofs.YtfachljdihmicaaW.PrintWords Go.Proofs.YtfachljdihmicaaW.PrintLast Go.Proofs.YtfachljdihmicaaW.PrintMore
attribute [local go_sem] max2_int min2_int max_two min_two max_three min_three max_four min_four   -- for this text's walks alone
set_option linter.unusedVariables false
set_option linter.unusedSimpArgs false

/-! ### spec_l6Read: function 51 -/
mutual
def spec_l6Read.l0 : Nat → ByteArray → List (S45) → Int → Option ((List (S45)) × Bool)
 | 0, _, _, _ => none
 | k + 1, x0, x4, x5 => if x5 < (x0.size : Int) then (if 0 ≤ x5 then (if 0 ≤ (wrap64 (x5 + 1)) then (if (wrap64 (x5 + 1)) ≤ (x0.size : Int) then ((spec_l6Shape.f k (wrap64 (bt x0 x5))).bind fun t113 => (if t113 = (-1) then (some (([] : List (S45)), false)) else (if t113 = 1 then (if (x0.extract ((wrap64 (x5 + 1)) : Int).toNat x0.size).toList = ([] : List UInt8) then (some (([] : List (S45)), false)) else (if 0 < ((x0.extract ((wrap64 (x5 + 1)) : Int).toNat x0.size).size : Int) then (spec_l6Read.j2 k x0 x4 (wrap64 (x5 + 1)) 1 (wrap64 (bt x0 x5)) (wrap64 (bt (x0.extract ((wrap64 (x5 + 1)) : Int).toNat x0.size) 0))) else (none))) else (if t113 = 2 then (spec_l6Read.j1 k x0 x4 (wrap64 (x5 + 1)) 0 (x0.extract ((wrap64 (x5 + 1)) : Int).toNat x0.size) t113 (t113 == 2) (wrap64 (bt x0 x5)) 0) else (spec_l6Read.j1 k x0 x4 (wrap64 (x5 + 1)) 0 (x0.extract ((wrap64 (x5 + 1)) : Int).toNat x0.size) t113 (t113 == 3) (wrap64 (bt x0 x5)) 0))))) else (none)) else (none)) else (none)) else (some (x4, true))
def spec_l6Read.j2 : Nat → ByteArray → List (S45) → Int → Int → Int → Int → Option ((List (S45)) × Bool)
 | 0, _, _, _, _, _, _ => none
 | k + 1, x0, x4, x5, x7, x113000, x113001 => if x7 = 0 then ((spec_l6Shape.f k x113000).bind fun t121 => (if t121 = 0 then ((spec_GoodIns.f k x113000 x113001).bind fun t122 => (if t122 = true then (if (x4.length : Int) = 200 then (some (([] : List (S45)), false)) else (if x4.length < 8796093022208 then (spec_l6Read.l0 k x0 (x4 ++ [(⟨x113000, x113001⟩ : S45)]) (wrap64 (x5 + x7))) else (none))) else (some (([] : List (S45)), false)))) else (some (([] : List (S45)), false)))) else ((spec_GoodIns.f k x113000 x113001).bind fun t126 => (if t126 = true then (if (x4.length : Int) = 200 then (some (([] : List (S45)), false)) else (if x4.length < 8796093022208 then (spec_l6Read.l0 k x0 (x4 ++ [(⟨x113000, x113001⟩ : S45)]) (wrap64 (x5 + x7))) else (none))) else (some (([] : List (S45)), false))))
def spec_l6Read.j1 : Nat → ByteArray → List (S45) → Int → Int → ByteArray → Int → Bool → Int → Int → Option ((List (S45)) × Bool)
 | 0, _, _, _, _, _, _, _, _, _ => none
 | k + 1, x0, x4, x5, x7, x8, x27, x38, x113000, x113001 => if x38 = true then ((spec_l1TakeU.f k x8 32).bind fun bt114 => (spec_l6Read.j2 k x0 x4 x5 bt114.2 x113000 (wrap64 (bt114.1)))) else (if x27 = 4 then ((spec_l1TakeS.f k x8 32).bind fun bt116 => (spec_l6Read.j2 k x0 x4 x5 bt116.2 x113000 bt116.1)) else (if x27 = 5 then ((spec_l1TakeS.f k x8 64).bind fun bt118 => (spec_l6Read.j2 k x0 x4 x5 bt118.2 x113000 bt118.1)) else (if x27 = 6 then (if (x8.size : Int) < 4 then (some (([] : List (S45)), false)) else (if 0 ≤ 4 then (if 4 ≤ (x8.size : Int) then ((spec_l5Number.f k (x8.extract 0 4)).bind fun t120 => (spec_l6Read.j2 k x0 x4 x5 4 x113000 (wrap64 (t120)))) else (none)) else (none))) else (spec_l6Read.j2 k x0 x4 x5 x7 x113000 x113001))))
end
def spec_l6Read.f (k : Nat) (a0 : ByteArray) : Option ((List (S45)) × Bool) := spec_l6Read.l0 k a0 ([] : List (S45)) 0
theorem spec_l6Read.mono_l : ∀ k, (∀ y0 y1 y2, LeO (spec_l6Read.l0 k y0 y1 y2) (spec_l6Read.l0 (k + 1) y0 y1 y2)) ∧ (∀ y0 y1 y2 y3 y4 y5, LeO (spec_l6Read.j2 k y0 y1 y2 y3 y4 y5) (spec_l6Read.j2 (k + 1) y0 y1 y2 y3 y4 y5)) ∧ (∀ y0 y1 y2 y3 y4 y5 y6 y7 y8, LeO (spec_l6Read.j1 k y0 y1 y2 y3 y4 y5 y6 y7 y8) (spec_l6Read.j1 (k + 1) y0 y1 y2 y3 y4 y5 y6 y7 y8))
 | 0 => ⟨fun _ _ _ r h => by simp [spec_l6Read.l0] at h, fun _ _ _ _ _ _ r h => by simp [spec_l6Read.j2] at h, fun _ _ _ _ _ _ _ _ _ r h => by simp [spec_l6Read.j1] at h⟩
 | k + 1 => by
  obtain ⟨ih0, ih1, ih2⟩ := spec_l6Read.mono_l k
  refine ⟨?_, ?_, ?_⟩
  ·
   intro y0 y1 y2
   unfold spec_l6Read.l0
   repeat' first
   | (with_reducible exact ih0 _ _ _)
   | (with_reducible exact ih1 _ _ _ _ _ _)
   | (with_reducible exact ih2 _ _ _ _ _ _ _ _ _)
   | (with_reducible exact spec_GoodIns.mono _ _ _)
   | (with_reducible exact spec_l1TakeS.mono _ _ _)
   | (with_reducible exact spec_l1TakeU.mono _ _ _)
   | (with_reducible exact spec_l5Number.mono _ _)
   | (with_reducible exact spec_l6Shape.mono _ _)
   | (with_reducible exact LeO.refl _)
   | (with_reducible exact LeO.none _)
   | (with_reducible refine LeO.ite ?_ ?_)
   | (with_reducible refine LeO.bind ?_ (fun _ => ?_))
   | exact ih0 _ _ _
   | exact ih1 _ _ _ _ _ _
   | exact ih2 _ _ _ _ _ _ _ _ _
   | exact spec_GoodIns.mono _ _ _
   | exact spec_l1TakeS.mono _ _ _
   | exact spec_l1TakeU.mono _ _ _
   | exact spec_l5Number.mono _ _
   | exact spec_l6Shape.mono _ _
   | exact LeO.none _
   | refine LeO.ite ?_ ?_
   | refine LeO.bind ?_ (fun _ => ?_)
  ·
   intro y0 y1 y2 y3 y4 y5
   unfold spec_l6Read.j2
   repeat' first
   | (with_reducible exact ih0 _ _ _)
   | (with_reducible exact ih1 _ _ _ _ _ _)
   | (with_reducible exact ih2 _ _ _ _ _ _ _ _ _)
   | (with_reducible exact spec_GoodIns.mono _ _ _)
   | (with_reducible exact spec_l1TakeS.mono _ _ _)
   | (with_reducible exact spec_l1TakeU.mono _ _ _)
   | (with_reducible exact spec_l5Number.mono _ _)
   | (with_reducible exact spec_l6Shape.mono _ _)
   | (with_reducible exact LeO.refl _)
   | (with_reducible exact LeO.none _)
   | (with_reducible refine LeO.ite ?_ ?_)
   | (with_reducible refine LeO.bind ?_ (fun _ => ?_))
   | exact ih0 _ _ _
   | exact ih1 _ _ _ _ _ _
   | exact ih2 _ _ _ _ _ _ _ _ _
   | exact spec_GoodIns.mono _ _ _
   | exact spec_l1TakeS.mono _ _ _
   | exact spec_l1TakeU.mono _ _ _
   | exact spec_l5Number.mono _ _
   | exact spec_l6Shape.mono _ _
   | exact LeO.none _
   | refine LeO.ite ?_ ?_
   | refine LeO.bind ?_ (fun _ => ?_)
  ·
   intro y0 y1 y2 y3 y4 y5 y6 y7 y8
   unfold spec_l6Read.j1
   repeat' first
   | (with_reducible exact ih0 _ _ _)
   | (with_reducible exact ih1 _ _ _ _ _ _)
   | (with_reducible exact ih2 _ _ _ _ _ _ _ _ _)
   | (with_reducible exact spec_GoodIns.mono _ _ _)
   | (with_reducible exact spec_l1TakeS.mono _ _ _)
   | (with_reducible exact spec_l1TakeU.mono _ _ _)
   | (with_reducible exact spec_l5Number.mono _ _)
   | (with_reducible exact spec_l6Shape.mono _ _)
   | (with_reducible exact LeO.refl _)
   | (with_reducible exact LeO.none _)
   | (with_reducible refine LeO.ite ?_ ?_)
   | (with_reducible refine LeO.bind ?_ (fun _ => ?_))
   | exact ih0 _ _ _
   | exact ih1 _ _ _ _ _ _
   | exact ih2 _ _ _ _ _ _ _ _ _
   | exact spec_GoodIns.mono _ _ _
   | exact spec_l1TakeS.mono _ _ _
   | exact spec_l1TakeU.mono _ _ _
   | exact spec_l5Number.mono _ _
   | exact spec_l6Shape.mono _ _
   | exact LeO.none _
   | refine LeO.ite ?_ ?_
   | refine LeO.bind ?_ (fun _ => ?_)
theorem spec_l6Read.mono : ∀ a0 k, LeO (spec_l6Read.f k a0) (spec_l6Read.f (k + 1) a0) := by
 intro a0 k
 obtain ⟨ih0, ih1, ih2⟩ := spec_l6Read.mono_l k
 unfold spec_l6Read.f
 repeat' first
   | (with_reducible exact ih0 _ _ _)
   | (with_reducible exact ih1 _ _ _ _ _ _)
   | (with_reducible exact ih2 _ _ _ _ _ _ _ _ _)
   | (with_reducible exact spec_GoodIns.mono _ _ _)
   | (with_reducible exact spec_l1TakeS.mono _ _ _)
   | (with_reducible exact spec_l1TakeU.mono _ _ _)
   | (with_reducible exact spec_l5Number.mono _ _)
   | (with_reducible exact spec_l6Shape.mono _ _)
   | (with_reducible exact LeO.refl _)
   | (with_reducible exact LeO.none _)
   | (with_reducible refine LeO.ite ?_ ?_)
   | (with_reducible refine LeO.bind ?_ (fun _ => ?_))
   | exact ih0 _ _ _
   | exact ih1 _ _ _ _ _ _
   | exact ih2 _ _ _ _ _ _ _ _ _
   | exact spec_GoodIns.mono _ _ _
   | exact spec_l1TakeS.mono _ _ _
   | exact spec_l1TakeU.mono _ _ _
   | exact spec_l5Number.mono _ _
   | exact spec_l6Shape.mono _ _
   | exact LeO.none _
   | refine LeO.ite ?_ ?_
   | refine LeO.bind ?_ (fun _ => ?_)
set_option maxHeartbeats 8000000 in
set_option maxRecDepth 100000 in
theorem spec_l6Read.calls (k : Nat) (a0 : ByteArray) (r1 : List (S45)) (r2 : Bool) (w : World) (h : spec_l6Read.f k a0 = some (r1, r2)) :
  Calls Try.prog 51 #[.string a0] w fun e w' => ∃ v0_ : Value, e = .returned (.tuple #[v0_, .bool r2]) ∧ Kd.R k45 45 w' w.heap.size (fun _ => True) v0_ r1 ∧ Below w.heap.size w w' := by
 have hu45 := Try.underlying45
 have HB := Aside0.mk (Below.refl w.heap.size w)
 have H : (spec_l6Read.l0 k a0 ([] : List (S45)) 0) = some (r1, r2) := h
 clear h
 have H' := Aside0.mk H
 clear H
 go_enter Try.func51, Try.ntmps51
 go_wp2
 (try simp only [Act.put, List.setIfInBounds_toArray, List.set_cons_zero, List.set_cons_succ])
 go_loopg [4, 5] k (fun kq v4 v5 w' => ∃ (x4_1 : List (S45)) (x5_1 : Int), v5 = .int .i64 x5_1 ∧ Aside0 (spec_l6Read.l0 kq a0 x4_1 x5_1 = some (r1, r2)) ∧ Aside0 (kq ≤ k) ∧ Aside0 (Kd.R k45 45 w' w.heap.size (fun _ => True) v4 x4_1) ∧ Aside0 (Below w.heap.size w w'))
 case atStart => exact ⟨(([] : List (S45))), (0), (by first | rfl | (simp; done) | (simp [*]; done)), H', ⟨Nat.le_refl _⟩, ⟨by first | exact Kd.R_nil _ _ _ _ _ | exact Kd.N_nil _ _ _ _ _ | exact Kd.V_nil _ _ _ _ _ | exact Kd.Q_nil _ _ _ _ _ | exact Kd.S_nil _ _ _ _ _⟩, ⟨bw HB.out⟩⟩
 case round =>
  clear H'
  obtain ⟨x4_1, x5_1, rfl, HA, HK1, HO_4, HB⟩ := hrel
  cases gk with
  | zero => exact absurd HA.out (by simp [spec_l6Read.l0])
  | succ k1 =>
   have H := HA.out
   clear HA
   simp only [spec_l6Read.l0] at H
   by_cases c2 : x5_1 < (a0.size : Int)
   ·
    rw [if_pos c2] at H
    have c2b0 : decide (x5_1 < (a0.size : Int)) = true := decide_eq_true c2
    clear c2
    by_cases c3 : 0 ≤ x5_1
    ·
     rw [if_pos c3] at H
     have c3b0 : decide (0 ≤ x5_1) = true := decide_eq_true c3
     clear c3
     obtain ⟨ji5, hji5⟩ : ∃ j_ : Int, (wrap64 (x5_1 + 1)) = j_ := ⟨_, rfl⟩
     replace H : (if 0 ≤ (ji5) then (if (ji5) ≤ (a0.size : Int) then ((spec_l6Shape.f k1 (wrap64 (bt a0 x5_1))).bind fun t113 => (if t113 = (-1) then (some (([] : List (S45)), false)) else (if t113 = 1 then (if (a0.extract ((ji5) : Int).toNat a0.size).toList = ([] : List UInt8) then (some (([] : List (S45)), false)) else (if 0 < ((a0.extract ((ji5) : Int).toNat a0.size).size : Int) then (spec_l6Read.j2 k1 a0 x4_1 ji5 1 (wrap64 (bt a0 x5_1)) (wrap64 (bt (a0.extract ((ji5) : Int).toNat a0.size) 0))) else (none))) else (if t113 = 2 then (spec_l6Read.j1 k1 a0 x4_1 ji5 0 (a0.extract ((ji5) : Int).toNat a0.size) t113 (t113 == 2) (wrap64 (bt a0 x5_1)) 0) else (spec_l6Read.j1 k1 a0 x4_1 ji5 0 (a0.extract ((ji5) : Int).toNat a0.size) t113 (t113 == 3) (wrap64 (bt a0 x5_1)) 0))))) else (none)) else (none)) = some (r1, r2) := by first | (rw [hji5] at H; exact H) | (simp only [hji5] at H ⊢; exact H)
     have hji5w : (IntKind.i64.wrap (x5_1 + 1)) = ji5 := (i64_w _).trans hji5
     by_cases c6 : 0 ≤ (ji5)
     ·
      rw [if_pos c6] at H
      have c6b0 := eq_true c6
      have c6b1 : decide (0 ≤ (ji5)) = true := decide_eq_true c6
      clear c6
      by_cases c7 : (ji5) ≤ (a0.size : Int)
      ·
       rw [if_pos c7] at H
       have c7b0 := eq_true c7
       have c7b1 : decide ((ji5) ≤ (a0.size : Int)) = true := decide_eq_true c7
       clear c7
       replace H := Option.bind_eq_some_iff.mp H
       obtain ⟨t113, A80, H⟩ := H
       replace H : (if t113 = (-1) then (some (([] : List (S45)), false)) else (if t113 = 1 then (if (a0.extract ((ji5) : Int).toNat a0.size).toList = ([] : List UInt8) then (some (([] : List (S45)), false)) else (if 0 < ((a0.extract ((ji5) : Int).toNat a0.size).size : Int) then (spec_l6Read.j2 k1 a0 x4_1 ji5 1 (wrap64 (bt a0 x5_1)) (wrap64 (bt (a0.extract ((ji5) : Int).toNat a0.size) 0))) else (none))) else (if t113 = 2 then (spec_l6Read.j1 k1 a0 x4_1 ji5 0 (a0.extract ((ji5) : Int).toNat a0.size) t113 (t113 == 2) (wrap64 (bt a0 x5_1)) 0) else (spec_l6Read.j1 k1 a0 x4_1 ji5 0 (a0.extract ((ji5) : Int).toNat a0.size) t113 (t113 == 3) (wrap64 (bt a0 x5_1)) 0)))) = some (r1, r2) := H
       have A8 := Aside0.mk A80
       clear A80
       have HC9 := Aside0.mk H
       clear H
       have p4 : 0 ≤ (x5_1 : Int) := of_decide_eq_true (by first | (with_reducible assumption) | assumption)
       have q4 : x5_1 < (a0.size : Int) := of_decide_eq_true (by first | (with_reducible assumption) | assumption)
       have hx4 := bt_at a0 x5_1
       replace p4 := eq_true p4
       replace q4 := eq_true q4
       go_upto_block 2 with (first | ((with_reducible refine gate_dst (N := 6) rfl ?_); (try (refine gate_guard (by rfl) ?_; dsimp only)); refine box_event ?hg (N := 6) ?hd (cs := #[.int .i64 0, .int .i64 0]) (t := 45) ?hr ?_; (case hd => rfl); (case hg => rfl); (case hr => first | (go_simp; done) | (go_simp; rfl)); intro gb112 hg w10 hbox hb; have n0_ := Aside0.mk (Kd.R_below (Kd.R_elderB (by (with_reducible repeat (first | apply Kd.R_alloc | apply Kd.R_drewN | apply Kd.R_drew)); exact HO_4.out) gb112 (Nat.le_of_eq hg.symm)) hb); have n1_ := Aside0.mk (below_step (bw HB.out) hb); have n2_ := Aside0.mk (hbox); have n3_ := Aside0.mk ((by rw [hg]; exact (below_size (bw HB.out)) : w.heap.size ≤ gb112)); have n4_ := Aside0.mk ((by rw [hg]; exact (below_size (bw HB.out)) : w.heap.size ≤ gb112)); clear HO_4; clear HB; have HO_4 := n0_; have HB := n1_; have BK112 := n2_; have GW112 := n3_; have GE112 := n4_; clear n0_ n1_ n2_ n3_ n4_; clear hb hbox hg; have hcz11_0 : w10.cell? ⟨gb112, 0, none⟩ = some (.int .i64 0) := (blk_cell BK112.out 0).trans rfl; have hcz11_1 : w10.cell? ⟨gb112, 1, none⟩ = some (.int .i64 0) := (blk_cell BK112.out 1).trans rfl; have hfz11_0 := blk_frozen BK112.out 0; have hfz11_1 := blk_frozen BK112.out 1) | ((with_reducible refine gate_callee (f := 100) rfl ?_); refine goesL_ (some 27) rfl rfl Try.func100 (by kernel_rfl) rfl #[.int .i64 (wrap64 (bt a0 x5_1))] rfl ar ?_; (with_reducible refine (spec_l6Shape.calls k1 (wrap64 (bt a0 x5_1)) t113 _ A8.out).mono ?_); rintro e w' ⟨rfl, ⟨nd, rfl⟩⟩; refine ⟨_, rfl, ?_⟩))
       (try simp only [Act.put, List.setIfInBounds_toArray, List.set_cons_zero, List.set_cons_succ])
       go_cut [7] (fun v7 wc => ∃ (kq : Nat) (x7_8 : Int) (x113001_8 : Int), v7 = .int .i64 x7_8 ∧ Aside0 (spec_l6Read.j2 kq a0 x4_1 ji5 x7_8 (wrap64 (bt a0 x5_1)) x113001_8 = some (r1, r2)) ∧ Aside0 (kq ≤ k1) ∧ Aside0 (Kd.R k45 45 wc w.heap.size (fun k_ => k_ ≠ gb112) u4 x4_1) ∧ Aside0 (wc.heap[gb112]? = some (.cells #[.int .i64 (wrap64 (bt a0 x5_1)), .int .i64 x113001_8] 45 (0, 0))) ∧ Aside0 (Below w.heap.size w wc))
       case first =>
        have H := HC9.out
        clear HC9
        generalize hrs_ : a0.extract ((ji5) : Int).toNat a0.size = rs_ at H ⊢
        by_cases c12 : t113 = (-1)
        ·
         rw [if_pos c12] at H
         have c12b0 : (t113 == (-1)) = true := beq_iff_eq.mpr c12
         have c12b1 : (t113 != (-1)) = false := bne_eq_false_iff_eq.mpr c12
         clear c12
         (first | rw [c12b0] | (simp only [i64_w, i32_w]; rw [c12b0]) | skip)
         simp only [Option.some.injEq, Prod.mk.injEq] at H
         obtain ⟨rfl, rfl⟩ := H
         go_wp2
         go_ret2
         exact ⟨_, by first | rfl | (simp [errW_none, errW_some] <;> rfl) | (simp only [← hji5]; first | rfl | (simp [errW_none, errW_some] <;> rfl)) | (simp [*, errW_none, errW_some] <;> rfl), by first | exact Kd.R_nil _ _ _ _ _ | exact Kd.N_nil _ _ _ _ _ | exact Kd.V_nil _ _ _ _ _ | exact Kd.Q_nil _ _ _ _ _ | exact Kd.S_nil _ _ _ _ _, bw HB.out⟩
        ·
         rw [if_neg c12] at H
         have c12b0 : (t113 == (-1)) = false := beq_eq_false_iff_ne.mpr c12
         have c12b1 : (t113 != (-1)) = true := bne_iff_ne.mpr c12
         (first | rw [c12b0] | (simp only [i64_w, i32_w]; rw [c12b0]) | skip)
         by_cases c13 : t113 = 1
         ·
          rw [if_pos c13] at H
          have c13b0 : (t113 == 1) = true := beq_iff_eq.mpr c13
          have c13b1 : (t113 != 1) = false := bne_eq_false_iff_eq.mpr c13
          clear c13
          by_cases c14 : rs_.toList = ([] : List UInt8)
          ·
           rw [if_pos c14] at H
           have c14b0 : (rs_.toList == ([] : List UInt8)) = true := beq_iff_eq.mpr c14
           have c14b1 : (rs_.toList != ([] : List UInt8)) = false := bne_eq_false_iff_eq.mpr c14
           clear c14
           simp only [Option.some.injEq, Prod.mk.injEq] at H
           obtain ⟨rfl, rfl⟩ := H
           go_wp2
           go_ret2
           exact ⟨_, by first | rfl | (simp [errW_none, errW_some] <;> rfl) | (simp only [← hji5]; first | rfl | (simp [errW_none, errW_some] <;> rfl)) | (simp [*, errW_none, errW_some] <;> rfl), by first | exact Kd.R_nil _ _ _ _ _ | exact Kd.N_nil _ _ _ _ _ | exact Kd.V_nil _ _ _ _ _ | exact Kd.Q_nil _ _ _ _ _ | exact Kd.S_nil _ _ _ _ _, bw HB.out⟩
          ·
           rw [if_neg c14] at H
           have c14b0 : (rs_.toList == ([] : List UInt8)) = false := beq_eq_false_iff_ne.mpr c14
           have c14b1 : (rs_.toList != ([] : List UInt8)) = true := bne_iff_ne.mpr c14
           by_cases c15 : 0 < (rs_.size : Int)
           ·
            rw [if_pos c15] at H
            have c15b0 : decide (0 < (rs_.size : Int)) = true := decide_eq_true c15
            have c15b1 : decide (0 < rs_.size) = true := decide_eq_true (by omega)
            clear c15
            have H' := Aside0.mk H
            clear H
            have p16 : 0 ≤ (0 : Int) := (by omega)
            have q16 : 0 < rs_.size := (by have : (0 : Int) < (rs_.size : Int) := of_decide_eq_true (by first | (with_reducible assumption) | assumption); omega)
            have hx16 : ∀ h : 0 < rs_.size, ((rs_[0]'h).toNat : Int) = bt rs_ 0 := bt_at rs_ 0
            clear p16
            have qi16 : (0 < (rs_.size : Int)) = True := eq_true (of_decide_eq_true (by first | (with_reducible assumption) | assumption))
            replace q16 := eq_true q16
            have hcz17_0 : w10.cell? ⟨gb112, 0, none⟩ = some (.int .i64 0) := (blk_cell BK112.out 0).trans rfl
            have hcz17_1 : w10.cell? ⟨gb112, 1, none⟩ = some (.int .i64 0) := (blk_cell BK112.out 1).trans rfl
            have hfz17_0 := blk_frozen BK112.out 0
            have hfz17_1 := blk_frozen BK112.out 1
            go_wp2
            subst hrs_; first | go_meet | ((simp only [← hji5]); go_meet)
            case rel => exact ⟨_, (1), (wrap64 (bt (a0.extract ((ji5) : Int).toNat a0.size) 0)), (by first | rfl | (simp; done) | (simp [*]; done)), H', ⟨by have := HK1.out; first | omega | exact Nat.le_refl _⟩, ⟨by (with_reducible repeat (first | apply Kd.R_alloc | apply Kd.R_drewN | apply Kd.R_drew)); exact Kd.R_mono (Kd.R_far (p := ⟨gb112, 1, none⟩) (Kd.R_far (p := ⟨gb112, 1, none⟩) (Kd.R_far (p := ⟨gb112, 0, none⟩) (Kd.R_mono HO_4.out (fun k_ hk => (⟨hk, hk.2⟩ : _ ∧ k_ ≠ gb112))) (fun _ hk => hk.2) (.int .i64 (wrap64 (bt a0 x5_1)))) (fun _ hk => hk.2) (.int .i64 0)) (fun _ hk => hk.2) (.int .i64 (wrap64 (bt (a0.extract ((ji5) : Int).toNat a0.size) 0)))) (fun _ hk => hk.1.2)⟩, ⟨by (with_reducible repeat (first | refine blk_drewN ?_ _ | refine blk_drew ?_ | refine blk_alloc ?_ _)); refine blk_put (cs := #[.int .i64 (wrap64 (bt a0 x5_1)), .int .i64 0]) ?_ 1 _ rfl; (with_reducible repeat (first | refine blk_drewN ?_ _ | refine blk_drew ?_ | refine blk_alloc ?_ _)); refine blk_put (cs := #[.int .i64 (wrap64 (bt a0 x5_1)), .int .i64 0]) ?_ 1 _ rfl; (with_reducible repeat (first | refine blk_drewN ?_ _ | refine blk_drew ?_ | refine blk_alloc ?_ _)); refine blk_put (cs := #[.int .i64 0, .int .i64 0]) ?_ 0 _ rfl; (with_reducible repeat (first | refine blk_drewN ?_ _ | refine blk_drew ?_ | refine blk_alloc ?_ _)); exact BK112.out⟩, ⟨bw HB.out⟩⟩
           ·
            rw [if_neg c15] at H
            exact absurd H (by simp)
         ·
          rw [if_neg c13] at H
          have c13b0 : (t113 == 1) = false := beq_eq_false_iff_ne.mpr c13
          have c13b1 : (t113 != 1) = true := bne_iff_ne.mpr c13
          have HC18 := Aside0.mk H
          clear H
          go_upto_if 38 with (fail)
          go_cut [38] (fun v38 wc => ∃ (kq : Nat) (x38_17 : Bool), v38 = .bool x38_17 ∧ Aside0 (spec_l6Read.j1 kq a0 x4_1 ji5 0 rs_ t113 x38_17 (wrap64 (bt a0 x5_1)) 0 = some (r1, r2)) ∧ Aside0 (kq ≤ k1) ∧ Aside0 (Kd.R k45 45 wc w.heap.size (fun k_ => k_ ≠ gb112) u4 x4_1) ∧ Aside0 (wc.heap[gb112]? = some (.cells #[.int .i64 (wrap64 (bt a0 x5_1)), .int .i64 0] 45 (0, 0))) ∧ Aside0 (Below w.heap.size w wc))
          case first =>
           have H := HC18.out
           clear HC18
           by_cases c19 : t113 = 2
           ·
            rw [if_pos c19] at H
            have c19b0 : (t113 == 2) = true := beq_iff_eq.mpr c19
            have c19b1 : (t113 != 2) = false := bne_eq_false_iff_eq.mpr c19
            clear c19
            (first | rw [c19b0] | (simp only [i64_w, i32_w]; rw [c19b0]) | skip)
            have H' := Aside0.mk H
            clear H
            go_wp2
            first | go_meet | ((simp only [← hji5]); go_meet)
            case rel => exact ⟨_, ((t113 == 2)), (by first | rfl | (simp; done) | (simp [*]; done)), H', ⟨by have := HK1.out; first | omega | exact Nat.le_refl _⟩, ⟨by (with_reducible repeat (first | apply Kd.R_alloc | apply Kd.R_drewN | apply Kd.R_drew)); exact Kd.R_mono (Kd.R_far (p := ⟨gb112, 1, none⟩) (Kd.R_far (p := ⟨gb112, 0, none⟩) (Kd.R_mono HO_4.out (fun k_ hk => (⟨hk, hk.2⟩ : _ ∧ k_ ≠ gb112))) (fun _ hk => hk.2) (.int .i64 (wrap64 (bt a0 x5_1)))) (fun _ hk => hk.2) (.int .i64 0)) (fun _ hk => hk.1.2)⟩, ⟨by (with_reducible repeat (first | refine blk_drewN ?_ _ | refine blk_drew ?_ | refine blk_alloc ?_ _)); refine blk_put (cs := #[.int .i64 (wrap64 (bt a0 x5_1)), .int .i64 0]) ?_ 1 _ rfl; (with_reducible repeat (first | refine blk_drewN ?_ _ | refine blk_drew ?_ | refine blk_alloc ?_ _)); refine blk_put (cs := #[.int .i64 0, .int .i64 0]) ?_ 0 _ rfl; (with_reducible repeat (first | refine blk_drewN ?_ _ | refine blk_drew ?_ | refine blk_alloc ?_ _)); exact BK112.out⟩, ⟨bw HB.out⟩⟩
           ·
            rw [if_neg c19] at H
            have c19b0 : (t113 == 2) = false := beq_eq_false_iff_ne.mpr c19
            have c19b1 : (t113 != 2) = true := bne_iff_ne.mpr c19
            (first | rw [c19b0] | (simp only [i64_w, i32_w]; rw [c19b0]) | skip)
            have H' := Aside0.mk H
            clear H
            go_wp2
            first | go_meet | ((simp only [← hji5]); go_meet)
            case rel => exact ⟨_, ((t113 == 3)), (by first | rfl | (simp; done) | (simp [*]; done)), H', ⟨by have := HK1.out; first | omega | exact Nat.le_refl _⟩, ⟨by (with_reducible repeat (first | apply Kd.R_alloc | apply Kd.R_drewN | apply Kd.R_drew)); exact Kd.R_mono (Kd.R_far (p := ⟨gb112, 1, none⟩) (Kd.R_far (p := ⟨gb112, 0, none⟩) (Kd.R_mono HO_4.out (fun k_ hk => (⟨hk, hk.2⟩ : _ ∧ k_ ≠ gb112))) (fun _ hk => hk.2) (.int .i64 (wrap64 (bt a0 x5_1)))) (fun _ hk => hk.2) (.int .i64 0)) (fun _ hk => hk.1.2)⟩, ⟨by (with_reducible repeat (first | refine blk_drewN ?_ _ | refine blk_drew ?_ | refine blk_alloc ?_ _)); refine blk_put (cs := #[.int .i64 (wrap64 (bt a0 x5_1)), .int .i64 0]) ?_ 1 _ rfl; (with_reducible repeat (first | refine blk_drewN ?_ _ | refine blk_drew ?_ | refine blk_alloc ?_ _)); refine blk_put (cs := #[.int .i64 0, .int .i64 0]) ?_ 0 _ rfl; (with_reducible repeat (first | refine blk_drewN ?_ _ | refine blk_drew ?_ | refine blk_alloc ?_ _)); exact BK112.out⟩, ⟨bw HB.out⟩⟩
          case rest =>
           clear HC18
           try clear c1
           try clear p1
           try clear q1
           try clear hx1
           try clear qi1
           try clear c2
           try clear c2b0
           try clear p2
           try clear c3
           try clear c3b0
           try clear p4
           try clear q4
           try clear hx4
           try clear c5
           try clear c6
           try clear c6b0
           try clear c6b1
           try clear p6
           try clear c7
           try clear c7b0
           try clear c7b1
           try clear c10
           try clear c12
           try clear c12b0
           try clear c12b1
           try clear c13
           try clear c13b0
           try clear c13b1
           try clear c14
           try clear c14b0
           try clear c14b1
           try clear c15
           try clear c15b0
           try clear c15b1
           try clear p16
           try clear q16
           try clear hx16
           try clear qi16
           try clear c19
           try clear c19b0
           try clear c19b1
           try clear hcz11_0 hcz11_1
           try clear hcz17_0 hcz17_1
           try clear hfz11_0 hfz11_1
           try clear hfz17_0 hfz17_1
           try clear p16
           try clear p4
           try clear q16
           try clear q4
           obtain ⟨kq, x38_17, rfl, HA, HJ17, HO_4, BK112, HB⟩ := hcut
           cases kq with
           | zero => exact absurd HA.out (by simp [spec_l6Read.j1])
           | succ kj17 =>
            have H := HA.out
            clear HA
            simp only [spec_l6Read.j1] at H
            by_cases c20 : x38_17 = true
            ·
             subst c20
             have H1 : ((spec_l1TakeU.f kj17 rs_ 32).bind fun bt114 => (spec_l6Read.j2 kj17 a0 x4_1 ji5 bt114.2 (wrap64 (bt a0 x5_1)) (wrap64 (bt114.1)))) = some (r1, r2) := by rw [if_pos rfl] at H; exact H
             clear H
             have H := H1
             clear H1
             replace H := Option.bind_eq_some_iff.mp H
             obtain ⟨⟨t114, t115⟩, A210, H⟩ := H
             replace H : (spec_l6Read.j2 kj17 a0 x4_1 ji5 t115 (wrap64 (bt a0 x5_1)) (wrap64 (t114))) = some (r1, r2) := H
             have A21 := Aside0.mk A210
             clear A210
             have H' := Aside0.mk H
             clear H
             go_wp2_with (first | ((with_reducible refine gate_callee (f := 101) rfl ?_); refine goesL_ (some 43) rfl rfl Try.func101 (by kernel_rfl) rfl #[.string rs_, .int .i64 32] rfl (by (try simp only [List.map_toArray, List.map_cons, List.map_nil]); first | done | (simp only [hji5]; rfl) | rfl | (simp only [List.length_drop, List.length_take]; rfl)) ?_; (with_reducible refine (spec_l1TakeU.calls kj17 rs_ 32 t114 t115 _ A21.out).mono ?_); rintro e w' ⟨rfl, ⟨nd, rfl⟩⟩; refine ⟨_, rfl, ?_⟩; (try (rw [drewN_self wc]; generalize hq_ : World.drewN wc _ = wc; have n0_ : Aside0 (Kd.R k45 45 wc w.heap.size (fun k_ => k_ ≠ gb112) u4 x4_1) := ⟨by rw [← hq_]; exact (by (with_reducible repeat (first | apply Kd.R_alloc | apply Kd.R_drewN | apply Kd.R_drew)); exact HO_4.out)⟩; have n1_ : Aside0 (wc.heap[gb112]? = some (.cells #[.int .i64 (wrap64 (bt a0 x5_1)), .int .i64 0] 45 (0, 0))) := ⟨by rw [← hq_]; exact (bk BK112.out)⟩; have n2_ : Aside0 (Below w.heap.size w wc) := ⟨by rw [← hq_]; exact (bw HB.out)⟩; clear HO_4 BK112 HB hq_; have HO_4 := n0_; have BK112 := n1_; have HB := n2_; clear n0_ n1_ n2_)); have hcz22_0 : wc.cell? ⟨gb112, 0, none⟩ = some (.int .i64 (wrap64 (bt a0 x5_1))) := (blk_cell BK112.out 0).trans rfl; have hcz22_1 : wc.cell? ⟨gb112, 1, none⟩ = some (.int .i64 0) := (blk_cell BK112.out 1).trans rfl; have hfz22_0 := blk_frozen BK112.out 0; have hfz22_1 := blk_frozen BK112.out 1))
             subst hrs_; first | go_meet | ((simp only [← hji5]); go_meet)
             case rel => exact ⟨_, (t115), (wrap64 (t114)), (by first | rfl | (simp; done) | (simp [*]; done)), H', ⟨by have := HK1.out; have := HJ17.out; first | omega | exact Nat.le_refl _⟩, ⟨by (with_reducible repeat (first | apply Kd.R_alloc | apply Kd.R_drewN | apply Kd.R_drew)); exact Kd.R_mono (Kd.R_far (p := ⟨gb112, 1, none⟩) (Kd.R_mono HO_4.out (fun k_ hk => (⟨hk, hk⟩ : _ ∧ k_ ≠ gb112))) (fun _ hk => hk.2) (.int .i64 (wrap64 (t114)))) (fun _ hk => hk.1)⟩, ⟨by (with_reducible repeat (first | refine blk_drewN ?_ _ | refine blk_drew ?_ | refine blk_alloc ?_ _)); refine blk_put (cs := #[.int .i64 (wrap64 (bt a0 x5_1)), .int .i64 0]) ?_ 1 _ rfl; (with_reducible repeat (first | refine blk_drewN ?_ _ | refine blk_drew ?_ | refine blk_alloc ?_ _)); exact BK112.out⟩, ⟨bw HB.out⟩⟩
            ·
             replace c20 := Bool.eq_false_iff.mpr c20
             subst c20
             have H1 : (if t113 = 4 then ((spec_l1TakeS.f kj17 rs_ 32).bind fun bt116 => (spec_l6Read.j2 kj17 a0 x4_1 ji5 bt116.2 (wrap64 (bt a0 x5_1)) bt116.1)) else (if t113 = 5 then ((spec_l1TakeS.f kj17 rs_ 64).bind fun bt118 => (spec_l6Read.j2 kj17 a0 x4_1 ji5 bt118.2 (wrap64 (bt a0 x5_1)) bt118.1)) else (if t113 = 6 then (if (rs_.size : Int) < 4 then (some (([] : List (S45)), false)) else (if 0 ≤ 4 then (if 4 ≤ (rs_.size : Int) then ((spec_l5Number.f kj17 (rs_.extract 0 4)).bind fun t120 => (spec_l6Read.j2 kj17 a0 x4_1 ji5 4 (wrap64 (bt a0 x5_1)) (wrap64 (t120)))) else (none)) else (none))) else (spec_l6Read.j2 kj17 a0 x4_1 ji5 0 (wrap64 (bt a0 x5_1)) 0)))) = some (r1, r2) := by rw [if_neg (show ¬ (false = true) by decide)] at H; exact H
             clear H
             have H := H1
             clear H1
             by_cases c23 : t113 = 4
             ·
              rw [if_pos c23] at H
              have c23b0 : (t113 == 4) = true := beq_iff_eq.mpr c23
              have c23b1 : (t113 != 4) = false := bne_eq_false_iff_eq.mpr c23
              clear c23
              replace H := Option.bind_eq_some_iff.mp H
              obtain ⟨⟨t116, t117⟩, A240, H⟩ := H
              replace H : (spec_l6Read.j2 kj17 a0 x4_1 ji5 t117 (wrap64 (bt a0 x5_1)) t116) = some (r1, r2) := H
              have A24 := Aside0.mk A240
              clear A240
              have H' := Aside0.mk H
              clear H
              go_wp2_with (first | ((with_reducible refine gate_callee (f := 102) rfl ?_); refine goesL_ (some 54) rfl rfl Try.func102 (by kernel_rfl) rfl #[.string rs_, .int .i64 32] rfl (by (try simp only [List.map_toArray, List.map_cons, List.map_nil]); first | done | (simp only [hji5]; rfl) | rfl | (simp only [List.length_drop, List.length_take]; rfl)) ?_; (with_reducible refine (spec_l1TakeS.calls kj17 rs_ 32 t116 t117 _ A24.out).mono ?_); rintro e w' ⟨rfl, ⟨nd, rfl⟩⟩; refine ⟨_, rfl, ?_⟩; (try (rw [drewN_self wc]; generalize hq_ : World.drewN wc _ = wc; have n0_ : Aside0 (Kd.R k45 45 wc w.heap.size (fun k_ => k_ ≠ gb112) u4 x4_1) := ⟨by rw [← hq_]; exact (by (with_reducible repeat (first | apply Kd.R_alloc | apply Kd.R_drewN | apply Kd.R_drew)); exact HO_4.out)⟩; have n1_ : Aside0 (wc.heap[gb112]? = some (.cells #[.int .i64 (wrap64 (bt a0 x5_1)), .int .i64 0] 45 (0, 0))) := ⟨by rw [← hq_]; exact (bk BK112.out)⟩; have n2_ : Aside0 (Below w.heap.size w wc) := ⟨by rw [← hq_]; exact (bw HB.out)⟩; clear HO_4 BK112 HB hq_; have HO_4 := n0_; have BK112 := n1_; have HB := n2_; clear n0_ n1_ n2_)); have hcz25_0 : wc.cell? ⟨gb112, 0, none⟩ = some (.int .i64 (wrap64 (bt a0 x5_1))) := (blk_cell BK112.out 0).trans rfl; have hcz25_1 : wc.cell? ⟨gb112, 1, none⟩ = some (.int .i64 0) := (blk_cell BK112.out 1).trans rfl; have hfz25_0 := blk_frozen BK112.out 0; have hfz25_1 := blk_frozen BK112.out 1))
              subst hrs_; first | go_meet | ((simp only [← hji5]); go_meet)
              case rel => exact ⟨_, (t117), (t116), (by first | rfl | (simp; done) | (simp [*]; done)), H', ⟨by have := HK1.out; have := HJ17.out; first | omega | exact Nat.le_refl _⟩, ⟨by (with_reducible repeat (first | apply Kd.R_alloc | apply Kd.R_drewN | apply Kd.R_drew)); exact Kd.R_mono (Kd.R_far (p := ⟨gb112, 1, none⟩) (Kd.R_mono HO_4.out (fun k_ hk => (⟨hk, hk⟩ : _ ∧ k_ ≠ gb112))) (fun _ hk => hk.2) (.int .i64 t116)) (fun _ hk => hk.1)⟩, ⟨by (with_reducible repeat (first | refine blk_drewN ?_ _ | refine blk_drew ?_ | refine blk_alloc ?_ _)); refine blk_put (cs := #[.int .i64 (wrap64 (bt a0 x5_1)), .int .i64 0]) ?_ 1 _ rfl; (with_reducible repeat (first | refine blk_drewN ?_ _ | refine blk_drew ?_ | refine blk_alloc ?_ _)); exact BK112.out⟩, ⟨bw HB.out⟩⟩
             ·
              rw [if_neg c23] at H
              have c23b0 : (t113 == 4) = false := beq_eq_false_iff_ne.mpr c23
              have c23b1 : (t113 != 4) = true := bne_iff_ne.mpr c23
              by_cases c26 : t113 = 5
              ·
               rw [if_pos c26] at H
               have c26b0 : (t113 == 5) = true := beq_iff_eq.mpr c26
               have c26b1 : (t113 != 5) = false := bne_eq_false_iff_eq.mpr c26
               clear c26
               replace H := Option.bind_eq_some_iff.mp H
               obtain ⟨⟨t118, t119⟩, A270, H⟩ := H
               replace H : (spec_l6Read.j2 kj17 a0 x4_1 ji5 t119 (wrap64 (bt a0 x5_1)) t118) = some (r1, r2) := H
               have A27 := Aside0.mk A270
               clear A270
               have H' := Aside0.mk H
               clear H
               go_wp2_with (first | ((with_reducible refine gate_callee (f := 102) rfl ?_); refine goesL_ (some 62) rfl rfl Try.func102 (by kernel_rfl) rfl #[.string rs_, .int .i64 64] rfl (by (try simp only [List.map_toArray, List.map_cons, List.map_nil]); first | done | (simp only [hji5]; rfl) | rfl | (simp only [List.length_drop, List.length_take]; rfl)) ?_; (with_reducible refine (spec_l1TakeS.calls kj17 rs_ 64 t118 t119 _ A27.out).mono ?_); rintro e w' ⟨rfl, ⟨nd, rfl⟩⟩; refine ⟨_, rfl, ?_⟩; (try (rw [drewN_self wc]; generalize hq_ : World.drewN wc _ = wc; have n0_ : Aside0 (Kd.R k45 45 wc w.heap.size (fun k_ => k_ ≠ gb112) u4 x4_1) := ⟨by rw [← hq_]; exact (by (with_reducible repeat (first | apply Kd.R_alloc | apply Kd.R_drewN | apply Kd.R_drew)); exact HO_4.out)⟩; have n1_ : Aside0 (wc.heap[gb112]? = some (.cells #[.int .i64 (wrap64 (bt a0 x5_1)), .int .i64 0] 45 (0, 0))) := ⟨by rw [← hq_]; exact (bk BK112.out)⟩; have n2_ : Aside0 (Below w.heap.size w wc) := ⟨by rw [← hq_]; exact (bw HB.out)⟩; clear HO_4 BK112 HB hq_; have HO_4 := n0_; have BK112 := n1_; have HB := n2_; clear n0_ n1_ n2_)); have hcz28_0 : wc.cell? ⟨gb112, 0, none⟩ = some (.int .i64 (wrap64 (bt a0 x5_1))) := (blk_cell BK112.out 0).trans rfl; have hcz28_1 : wc.cell? ⟨gb112, 1, none⟩ = some (.int .i64 0) := (blk_cell BK112.out 1).trans rfl; have hfz28_0 := blk_frozen BK112.out 0; have hfz28_1 := blk_frozen BK112.out 1))
               subst hrs_; first | go_meet | ((simp only [← hji5]); go_meet)
               case rel => exact ⟨_, (t119), (t118), (by first | rfl | (simp; done) | (simp [*]; done)), H', ⟨by have := HK1.out; have := HJ17.out; first | omega | exact Nat.le_refl _⟩, ⟨by (with_reducible repeat (first | apply Kd.R_alloc | apply Kd.R_drewN | apply Kd.R_drew)); exact Kd.R_mono (Kd.R_far (p := ⟨gb112, 1, none⟩) (Kd.R_mono HO_4.out (fun k_ hk => (⟨hk, hk⟩ : _ ∧ k_ ≠ gb112))) (fun _ hk => hk.2) (.int .i64 t118)) (fun _ hk => hk.1)⟩, ⟨by (with_reducible repeat (first | refine blk_drewN ?_ _ | refine blk_drew ?_ | refine blk_alloc ?_ _)); refine blk_put (cs := #[.int .i64 (wrap64 (bt a0 x5_1)), .int .i64 0]) ?_ 1 _ rfl; (with_reducible repeat (first | refine blk_drewN ?_ _ | refine blk_drew ?_ | refine blk_alloc ?_ _)); exact BK112.out⟩, ⟨bw HB.out⟩⟩
              ·
               rw [if_neg c26] at H
               have c26b0 : (t113 == 5) = false := beq_eq_false_iff_ne.mpr c26
               have c26b1 : (t113 != 5) = true := bne_iff_ne.mpr c26
               by_cases c29 : t113 = 6
               ·
                rw [if_pos c29] at H
                have c29b0 : (t113 == 6) = true := beq_iff_eq.mpr c29
                have c29b1 : (t113 != 6) = false := bne_eq_false_iff_eq.mpr c29
                clear c29
                by_cases c30 : (rs_.size : Int) < 4
                ·
                 rw [if_pos c30] at H
                 have c30b0 : decide ((rs_.size : Int) < 4) = true := decide_eq_true c30
                 have c30b1 : decide (rs_.size < 4) = true := decide_eq_true (by omega)
                 clear c30
                 simp only [Option.some.injEq, Prod.mk.injEq] at H
                 obtain ⟨rfl, rfl⟩ := H
                 go_wp2
                 go_ret2
                 exact ⟨_, by first | rfl | (simp [errW_none, errW_some] <;> rfl) | (simp only [← hji5]; first | rfl | (simp [errW_none, errW_some] <;> rfl)) | (simp [*, errW_none, errW_some] <;> rfl), by first | exact Kd.R_nil _ _ _ _ _ | exact Kd.N_nil _ _ _ _ _ | exact Kd.V_nil _ _ _ _ _ | exact Kd.Q_nil _ _ _ _ _ | exact Kd.S_nil _ _ _ _ _, bw HB.out⟩
                ·
                 rw [if_neg c30] at H
                 have c30b0 : decide ((rs_.size : Int) < 4) = false := decide_eq_false c30
                 have c30b1 : decide (rs_.size < 4) = false := decide_eq_false (by omega)
                 clear c30
                 by_cases c31 : 0 ≤ 4
                 ·
                  rw [if_pos c31] at H
                  have c31b0 := eq_true c31
                  have c31b1 : decide (0 ≤ 4) = true := decide_eq_true c31
                  clear c31
                  by_cases c32 : 4 ≤ (rs_.size : Int)
                  ·
                   rw [if_pos c32] at H
                   have c32b0 := eq_true c32
                   have c32b1 : decide (4 ≤ (rs_.size : Int)) = true := decide_eq_true c32
                   clear c32
                   replace H := Option.bind_eq_some_iff.mp H
                   obtain ⟨t120, A330, H⟩ := H
                   replace H : (spec_l6Read.j2 kj17 a0 x4_1 ji5 4 (wrap64 (bt a0 x5_1)) (wrap64 (t120))) = some (r1, r2) := H
                   have A33 := Aside0.mk A330
                   clear A330
                   have H' := Aside0.mk H
                   clear H
                   go_wp2_with (first | ((with_reducible refine gate_callee (f := 103) rfl ?_); refine goesL_ (some 73) rfl rfl Try.func103 (by kernel_rfl) rfl #[.string (rs_.extract 0 4)] rfl (by (try simp only [List.map_toArray, List.map_cons, List.map_nil]); first | done | (simp only [hji5]; rfl) | rfl | (simp only [List.length_drop, List.length_take]; rfl)) ?_; (with_reducible refine (spec_l5Number.calls kj17 (rs_.extract 0 4) t120 _ A33.out).mono ?_); rintro e w' ⟨rfl, ⟨nd, rfl⟩⟩; refine ⟨_, rfl, ?_⟩; (try (rw [drewN_self wc]; generalize hq_ : World.drewN wc _ = wc; have n0_ : Aside0 (Kd.R k45 45 wc w.heap.size (fun k_ => k_ ≠ gb112) u4 x4_1) := ⟨by rw [← hq_]; exact (by (with_reducible repeat (first | apply Kd.R_alloc | apply Kd.R_drewN | apply Kd.R_drew)); exact HO_4.out)⟩; have n1_ : Aside0 (wc.heap[gb112]? = some (.cells #[.int .i64 (wrap64 (bt a0 x5_1)), .int .i64 0] 45 (0, 0))) := ⟨by rw [← hq_]; exact (bk BK112.out)⟩; have n2_ : Aside0 (Below w.heap.size w wc) := ⟨by rw [← hq_]; exact (bw HB.out)⟩; clear HO_4 BK112 HB hq_; have HO_4 := n0_; have BK112 := n1_; have HB := n2_; clear n0_ n1_ n2_)); have hcz34_0 : wc.cell? ⟨gb112, 0, none⟩ = some (.int .i64 (wrap64 (bt a0 x5_1))) := (blk_cell BK112.out 0).trans rfl; have hcz34_1 : wc.cell? ⟨gb112, 1, none⟩ = some (.int .i64 0) := (blk_cell BK112.out 1).trans rfl; have hfz34_0 := blk_frozen BK112.out 0; have hfz34_1 := blk_frozen BK112.out 1))
                   subst hrs_; first | go_meet | ((simp only [← hji5]); go_meet)
                   case rel => exact ⟨_, (4), (wrap64 (t120)), (by first | rfl | (simp; done) | (simp [*]; done)), H', ⟨by have := HK1.out; have := HJ17.out; first | omega | exact Nat.le_refl _⟩, ⟨by (with_reducible repeat (first | apply Kd.R_alloc | apply Kd.R_drewN | apply Kd.R_drew)); exact Kd.R_mono (Kd.R_far (p := ⟨gb112, 1, none⟩) (Kd.R_mono HO_4.out (fun k_ hk => (⟨hk, hk⟩ : _ ∧ k_ ≠ gb112))) (fun _ hk => hk.2) (.int .i64 (wrap64 (t120)))) (fun _ hk => hk.1)⟩, ⟨by (with_reducible repeat (first | refine blk_drewN ?_ _ | refine blk_drew ?_ | refine blk_alloc ?_ _)); refine blk_put (cs := #[.int .i64 (wrap64 (bt a0 x5_1)), .int .i64 0]) ?_ 1 _ rfl; (with_reducible repeat (first | refine blk_drewN ?_ _ | refine blk_drew ?_ | refine blk_alloc ?_ _)); exact BK112.out⟩, ⟨bw HB.out⟩⟩
                  ·
                   rw [if_neg c32] at H
                   exact absurd H (by simp)
                 ·
                  exact absurd c31 (by decide)
               ·
                rw [if_neg c29] at H
                have c29b0 : (t113 == 6) = false := beq_eq_false_iff_ne.mpr c29
                have c29b1 : (t113 != 6) = true := bne_iff_ne.mpr c29
                have H' := Aside0.mk H
                clear H
                go_wp2
                subst hrs_; first | go_meet | ((simp only [← hji5]); go_meet)
                case rel => exact ⟨_, (0), (0), (by first | rfl | (simp; done) | (simp [*]; done)), H', ⟨by have := HK1.out; have := HJ17.out; first | omega | exact Nat.le_refl _⟩, ⟨by (with_reducible repeat (first | apply Kd.R_alloc | apply Kd.R_drewN | apply Kd.R_drew)); exact HO_4.out⟩, ⟨bk BK112.out⟩, ⟨bw HB.out⟩⟩
       case rest =>
        clear HC9
        try clear c1
        try clear p1
        try clear q1
        try clear hx1
        try clear qi1
        try clear c2
        try clear c2b0
        try clear p2
        try clear c3
        try clear c3b0
        try clear p4
        try clear q4
        try clear hx4
        try clear c5
        try clear c6
        try clear c6b0
        try clear c6b1
        try clear p6
        try clear c7
        try clear c7b0
        try clear c7b1
        try clear c10
        try clear c12
        try clear c12b0
        try clear c12b1
        try clear c13
        try clear c13b0
        try clear c13b1
        try clear c14
        try clear c14b0
        try clear c14b1
        try clear c15
        try clear c15b0
        try clear c15b1
        try clear p16
        try clear q16
        try clear hx16
        try clear qi16
        try clear c19
        try clear c19b0
        try clear c19b1
        try clear c20
        try clear c23
        try clear c23b0
        try clear c23b1
        try clear c26
        try clear c26b0
        try clear c26b1
        try clear c29
        try clear c29b0
        try clear c29b1
        try clear c30
        try clear c30b0
        try clear c30b1
        try clear c31
        try clear c31b0
        try clear c31b1
        try clear c32
        try clear c32b0
        try clear c32b1
        try clear hcz11_0 hcz11_1
        try clear hcz17_0 hcz17_1
        try clear hcz22_0 hcz22_1
        try clear hcz25_0 hcz25_1
        try clear hcz28_0 hcz28_1
        try clear hcz34_0 hcz34_1
        try clear hfz11_0 hfz11_1
        try clear hfz17_0 hfz17_1
        try clear hfz22_0 hfz22_1
        try clear hfz25_0 hfz25_1
        try clear hfz28_0 hfz28_1
        try clear hfz34_0 hfz34_1
        try clear p1
        try clear p16
        try clear p2
        try clear p4
        try clear p6
        try clear q1
        try clear q16
        try clear q4
        obtain ⟨kq, x7_8, x113001_8, rfl, HA, HJ8, HO_4, BK112, HB⟩ := hcut
        cases kq with
        | zero => exact absurd HA.out (by simp [spec_l6Read.j2])
        | succ kj8 =>
         have H := HA.out
         clear HA
         simp only [spec_l6Read.j2] at H
         by_cases c35 : x7_8 = 0
         ·
          rw [if_pos c35] at H
          have c35b0 : (x7_8 == 0) = true := beq_iff_eq.mpr c35
          have c35b1 : (x7_8 != 0) = false := bne_eq_false_iff_eq.mpr c35
          clear c35
          replace H := Option.bind_eq_some_iff.mp H
          obtain ⟨t121, A360, H⟩ := H
          replace H : (if t121 = 0 then ((spec_GoodIns.f kj8 (wrap64 (bt a0 x5_1)) x113001_8).bind fun t122 => (if t122 = true then (if (x4_1.length : Int) = 200 then (some (([] : List (S45)), false)) else (if x4_1.length < 8796093022208 then (spec_l6Read.l0 kj8 a0 (x4_1 ++ [(⟨(wrap64 (bt a0 x5_1)), x113001_8⟩ : S45)]) (wrap64 (ji5 + x7_8))) else (none))) else (some (([] : List (S45)), false)))) else (some (([] : List (S45)), false))) = some (r1, r2) := H
          have A36 := Aside0.mk A360
          clear A360
          by_cases c37 : t121 = 0
          ·
           rw [if_pos c37] at H
           have c37b0 : (t121 == 0) = true := beq_iff_eq.mpr c37
           have c37b1 : (t121 != 0) = false := bne_eq_false_iff_eq.mpr c37
           clear c37
           replace H := Option.bind_eq_some_iff.mp H
           obtain ⟨t122, A380, H⟩ := H
           replace H : (if t122 = true then (if (x4_1.length : Int) = 200 then (some (([] : List (S45)), false)) else (if x4_1.length < 8796093022208 then (spec_l6Read.l0 kj8 a0 (x4_1 ++ [(⟨(wrap64 (bt a0 x5_1)), x113001_8⟩ : S45)]) (wrap64 (ji5 + x7_8))) else (none))) else (some (([] : List (S45)), false))) = some (r1, r2) := H
           have A38 := Aside0.mk A380
           clear A380
           by_cases c39 : t122 = true
           ·
            subst c39
            have H1 : (if (x4_1.length : Int) = 200 then (some (([] : List (S45)), false)) else (if x4_1.length < 8796093022208 then (spec_l6Read.l0 kj8 a0 (x4_1 ++ [(⟨(wrap64 (bt a0 x5_1)), x113001_8⟩ : S45)]) (wrap64 (ji5 + x7_8))) else (none))) = some (r1, r2) := by rw [if_pos rfl] at H; exact H
            clear H
            have H := H1
            clear H1
            by_cases c40 : (x4_1.length : Int) = 200
            ·
             rw [if_pos c40] at H
             have c40b0 : ((x4_1.length : Int) == 200) = true := beq_iff_eq.mpr c40
             have c40b1 : ((x4_1.length : Int) != 200) = false := bne_eq_false_iff_eq.mpr c40
             clear c40
             simp only [Option.some.injEq, Prod.mk.injEq] at H
             obtain ⟨rfl, rfl⟩ := H
             have hcz41_0 : wc.cell? ⟨gb112, 0, none⟩ = some (.int .i64 (wrap64 (bt a0 x5_1))) := (blk_cell BK112.out 0).trans rfl
             have hcz41_1 : wc.cell? ⟨gb112, 1, none⟩ = some (.int .i64 x113001_8) := (blk_cell BK112.out 1).trans rfl
             have hfz41_0 := blk_frozen BK112.out 0
             have hfz41_1 := blk_frozen BK112.out 1
             go_wp2_with (first | (go_at_call 100; (with_reducible refine (spec_l6Shape.calls kj8 (wrap64 (bt a0 x5_1)) t121 _ A36.out).mono ?_); rintro e w' ⟨rfl, ⟨nd, rfl⟩⟩) | (go_at_call 104; (with_reducible refine (spec_GoodIns.calls kj8 (wrap64 (bt a0 x5_1)) x113001_8 true _ A38.out).mono ?_); rintro e w42 ⟨rfl, hb⟩; have n0_ := Aside0.mk (Kd.R_below (by (with_reducible repeat (first | apply Kd.R_alloc | apply Kd.R_drewN | apply Kd.R_drew)); exact HO_4.out) hb); have n1_ := Aside0.mk (blk_below (g := gb112) (o := .cells #[.int .i64 (wrap64 (bt a0 x5_1)), .int .i64 x113001_8] 45 (0, 0)) (bk BK112.out) hb); have n2_ := Aside0.mk (below_step (bw HB.out) hb); clear HO_4; clear BK112; clear HB; have HO_4 := n0_; have BK112 := n1_; have HB := n2_; clear n0_ n1_ n2_; (try clear hb); (try clear hb2); (try clear hk); (try clear hi); obtain ⟨Ao43, co43, eo43⟩ := Kd.R_slice HO_4.out; subst eo43))
             go_ret2
             exact ⟨_, by first | rfl | (simp [errW_none, errW_some] <;> rfl) | (simp only [← hji5]; first | rfl | (simp [errW_none, errW_some] <;> rfl)) | (simp [*, errW_none, errW_some] <;> rfl), by first | exact Kd.R_nil _ _ _ _ _ | exact Kd.N_nil _ _ _ _ _ | exact Kd.V_nil _ _ _ _ _ | exact Kd.Q_nil _ _ _ _ _ | exact Kd.S_nil _ _ _ _ _, bw HB.out⟩
            ·
             rw [if_neg c40] at H
             have c40b0 : ((x4_1.length : Int) == 200) = false := beq_eq_false_iff_ne.mpr c40
             have c40b1 : ((x4_1.length : Int) != 200) = true := bne_iff_ne.mpr c40
             by_cases c44 : x4_1.length < 8796093022208
             ·
              rw [if_pos c44] at H
              have LMc44 := Aside0.mk c44
              clear c44
              obtain ⟨y123, hy123⟩ : ∃ y_ : List (S45), y_ = (x4_1 ++ [(⟨(wrap64 (bt a0 x5_1)), x113001_8⟩ : S45)]) := ⟨_, rfl⟩
              replace H : (spec_l6Read.l0 kj8 a0 y123 (wrap64 (ji5 + x7_8))) = some (r1, r2) := by first | (rw [hy123]; with_reducible exact H) | (have H2_ := (Option.bind_some _ _).symm.trans H; rw [hy123]; with_reducible exact H2_) | (have H2_ := (Option.bind_some _ _).symm.trans H; with_reducible exact H2_) | with_reducible exact H | (rw [hy123]; exact H) | exact H
              have Ny123 := Aside0.mk hy123
              clear hy123
              have H' := Aside0.mk H
              clear H
              have hcz45_0 : wc.cell? ⟨gb112, 0, none⟩ = some (.int .i64 (wrap64 (bt a0 x5_1))) := (blk_cell BK112.out 0).trans rfl
              have hcz45_1 : wc.cell? ⟨gb112, 1, none⟩ = some (.int .i64 x113001_8) := (blk_cell BK112.out 1).trans rfl
              have hfz45_0 := blk_frozen BK112.out 0
              have hfz45_1 := blk_frozen BK112.out 1
              go_wp2_with (first | (go_at_call 100; (with_reducible refine (spec_l6Shape.calls kj8 (wrap64 (bt a0 x5_1)) t121 _ A36.out).mono ?_); rintro e w' ⟨rfl, ⟨nd, rfl⟩⟩) | (go_at_call 104; (with_reducible refine (spec_GoodIns.calls kj8 (wrap64 (bt a0 x5_1)) x113001_8 true _ A38.out).mono ?_); rintro e w46 ⟨rfl, hb⟩; have n0_ := Aside0.mk (Kd.R_below (by (with_reducible repeat (first | apply Kd.R_alloc | apply Kd.R_drewN | apply Kd.R_drew)); exact HO_4.out) hb); have n1_ := Aside0.mk (blk_below (g := gb112) (o := .cells #[.int .i64 (wrap64 (bt a0 x5_1)), .int .i64 x113001_8] 45 (0, 0)) (bk BK112.out) hb); have n2_ := Aside0.mk (below_step (bw HB.out) hb); clear HO_4; clear BK112; clear HB; have HO_4 := n0_; have BK112 := n1_; have HB := n2_; clear n0_ n1_ n2_; (try clear hb); (try clear hb2); (try clear hk); (try clear hi); obtain ⟨Ao47, co47, eo47⟩ := Kd.R_slice HO_4.out; subst eo47; have hcz48_0 : w46.cell? ⟨gb112, 0, none⟩ = some (.int .i64 (wrap64 (bt a0 x5_1))) := (blk_cell BK112.out 0).trans rfl; have hcz48_1 : w46.cell? ⟨gb112, 1, none⟩ = some (.int .i64 x113001_8) := (blk_cell BK112.out 1).trans rfl; have hfz48_0 := blk_frozen BK112.out 0; have hfz48_1 := blk_frozen BK112.out 1) | ((with_reducible refine gate_builtin (b := .append) (xs := #[.tmp 97, .tmp 99]) rfl ?_); (try (refine gate_guard (by rfl) ?_; dsimp only)); at_builtin; refine Kd.R_append k45 (w0 := w) w.heap.size rfl (.tmp 97) (.tmp 99) 22 45 (.agg #[(.int .i64 0), (.int .i64 0)]) 16 rfl Try.underlying22 info45 rfl (by decide) (by omega) (.slice Ao47 x4_1.length co47) x4_1 (⟨(wrap64 (bt a0 x5_1)), x113001_8⟩ : S45) [.int .i64 (wrap64 (bt a0 x5_1)), .int .i64 x113001_8] (fun k_ => k_ ≠ gb112) (fun _ => False) rfl rfl ?aP (fun _ hk => hk.elim) ?aF ?aO ?aB ?aS ?aL ?_; (case aP => exact k45_mkM _ _ _ (⟨(wrap64 (bt a0 x5_1)), x113001_8⟩ : S45)); (case aB => exact (bw HB.out)); (case aF => exact (fun k_ hk => Kd.freshB (g := gb112) (o := .cells #[.int .i64 (wrap64 (bt a0 x5_1)), .int .i64 x113001_8] 45 (0, 0)) (bk BK112.out) k_ hk)); (case aO => exact (by (with_reducible repeat (first | apply Kd.R_alloc | apply Kd.R_drewN | apply Kd.R_drew)); exact HO_4.out)); (case aS => exact (below_size (bw HB.out))); (case aL => have := LMc44.out; omega); intro v124 w49 ho hb hg hat; rw [← Ny123.out] at ho; have n0_ := Aside0.mk (blk_grown (g := gb112) (o := .cells #[.int .i64 (wrap64 (bt a0 x5_1)), .int .i64 x113001_8] 45 (0, 0)) (bk BK112.out) hg (Kd.R_away HO_4.out (fun _ hk => hk))); have n1_ := Aside0.mk (hb); have n2_ := Aside0.mk (ho); clear BK112; clear HB; clear HO_4; have BK112 := n0_; have HB := n1_; have HO125 := n2_; clear n0_ n1_ n2_; clear ho hb hg hat))
              go_roundg kj8
              case measure => have := HK1.out; have := HJ8.out; omega
              case rel => exact ⟨(y123), (wrap64 (ji5 + x7_8)), (by first | rfl | (simp; done) | (simp only [← hji5] <;> (first | rfl | simp)) | (simp [*]; done)), H', ⟨by have := HK1.out; have := HJ8.out; omega⟩, ⟨by (with_reducible repeat (first | apply Kd.R_alloc | apply Kd.R_drewN | apply Kd.R_drew)); exact Kd.R_mono HO125.out (fun _ hk => trivial)⟩, ⟨bw HB.out⟩⟩
             ·
              rw [if_neg c44] at H
              exact absurd H (by simp)
           ·
            replace c39 := Bool.eq_false_iff.mpr c39
            subst c39
            have H1 : (some (([] : List (S45)), false)) = some (r1, r2) := by rw [if_neg (show ¬ (false = true) by decide)] at H; exact H
            clear H
            have H := H1
            clear H1
            simp only [Option.some.injEq, Prod.mk.injEq] at H
            obtain ⟨rfl, rfl⟩ := H
            have hcz50_0 : wc.cell? ⟨gb112, 0, none⟩ = some (.int .i64 (wrap64 (bt a0 x5_1))) := (blk_cell BK112.out 0).trans rfl
            have hcz50_1 : wc.cell? ⟨gb112, 1, none⟩ = some (.int .i64 x113001_8) := (blk_cell BK112.out 1).trans rfl
            have hfz50_0 := blk_frozen BK112.out 0
            have hfz50_1 := blk_frozen BK112.out 1
            go_wp2_with (first | (go_at_call 100; (with_reducible refine (spec_l6Shape.calls kj8 (wrap64 (bt a0 x5_1)) t121 _ A36.out).mono ?_); rintro e w' ⟨rfl, ⟨nd, rfl⟩⟩) | (go_at_call 104; (with_reducible refine (spec_GoodIns.calls kj8 (wrap64 (bt a0 x5_1)) x113001_8 false _ A38.out).mono ?_); rintro e w51 ⟨rfl, hb⟩; have n0_ := Aside0.mk (Kd.R_below (by (with_reducible repeat (first | apply Kd.R_alloc | apply Kd.R_drewN | apply Kd.R_drew)); exact HO_4.out) hb); have n1_ := Aside0.mk (blk_below (g := gb112) (o := .cells #[.int .i64 (wrap64 (bt a0 x5_1)), .int .i64 x113001_8] 45 (0, 0)) (bk BK112.out) hb); have n2_ := Aside0.mk (below_step (bw HB.out) hb); clear HO_4; clear BK112; clear HB; have HO_4 := n0_; have BK112 := n1_; have HB := n2_; clear n0_ n1_ n2_; (try clear hb); (try clear hb2); (try clear hk); (try clear hi)))
            go_ret2
            exact ⟨_, by first | rfl | (simp [errW_none, errW_some] <;> rfl) | (simp only [← hji5]; first | rfl | (simp [errW_none, errW_some] <;> rfl)) | (simp [*, errW_none, errW_some] <;> rfl), by first | exact Kd.R_nil _ _ _ _ _ | exact Kd.N_nil _ _ _ _ _ | exact Kd.V_nil _ _ _ _ _ | exact Kd.Q_nil _ _ _ _ _ | exact Kd.S_nil _ _ _ _ _, bw HB.out⟩
          ·
           rw [if_neg c37] at H
           have c37b0 : (t121 == 0) = false := beq_eq_false_iff_ne.mpr c37
           have c37b1 : (t121 != 0) = true := bne_iff_ne.mpr c37
           simp only [Option.some.injEq, Prod.mk.injEq] at H
           obtain ⟨rfl, rfl⟩ := H
           have hcz52_0 : wc.cell? ⟨gb112, 0, none⟩ = some (.int .i64 (wrap64 (bt a0 x5_1))) := (blk_cell BK112.out 0).trans rfl
           have hcz52_1 : wc.cell? ⟨gb112, 1, none⟩ = some (.int .i64 x113001_8) := (blk_cell BK112.out 1).trans rfl
           have hfz52_0 := blk_frozen BK112.out 0
           have hfz52_1 := blk_frozen BK112.out 1
           go_wp2_with (first | (go_at_call 100; (with_reducible refine (spec_l6Shape.calls kj8 (wrap64 (bt a0 x5_1)) t121 _ A36.out).mono ?_); rintro e w' ⟨rfl, ⟨nd, rfl⟩⟩))
           go_ret2
           exact ⟨_, by first | rfl | (simp [errW_none, errW_some] <;> rfl) | (simp only [← hji5]; first | rfl | (simp [errW_none, errW_some] <;> rfl)) | (simp [*, errW_none, errW_some] <;> rfl), by first | exact Kd.R_nil _ _ _ _ _ | exact Kd.N_nil _ _ _ _ _ | exact Kd.V_nil _ _ _ _ _ | exact Kd.Q_nil _ _ _ _ _ | exact Kd.S_nil _ _ _ _ _, bw HB.out⟩
         ·
          rw [if_neg c35] at H
          have c35b0 : (x7_8 == 0) = false := beq_eq_false_iff_ne.mpr c35
          have c35b1 : (x7_8 != 0) = true := bne_iff_ne.mpr c35
          replace H := Option.bind_eq_some_iff.mp H
          obtain ⟨t126, A530, H⟩ := H
          replace H : (if t126 = true then (if (x4_1.length : Int) = 200 then (some (([] : List (S45)), false)) else (if x4_1.length < 8796093022208 then (spec_l6Read.l0 kj8 a0 (x4_1 ++ [(⟨(wrap64 (bt a0 x5_1)), x113001_8⟩ : S45)]) (wrap64 (ji5 + x7_8))) else (none))) else (some (([] : List (S45)), false))) = some (r1, r2) := H
          have A53 := Aside0.mk A530
          clear A530
          by_cases c54 : t126 = true
          ·
           subst c54
           have H1 : (if (x4_1.length : Int) = 200 then (some (([] : List (S45)), false)) else (if x4_1.length < 8796093022208 then (spec_l6Read.l0 kj8 a0 (x4_1 ++ [(⟨(wrap64 (bt a0 x5_1)), x113001_8⟩ : S45)]) (wrap64 (ji5 + x7_8))) else (none))) = some (r1, r2) := by rw [if_pos rfl] at H; exact H
           clear H
           have H := H1
           clear H1
           by_cases c55 : (x4_1.length : Int) = 200
           ·
            rw [if_pos c55] at H
            have c55b0 : ((x4_1.length : Int) == 200) = true := beq_iff_eq.mpr c55
            have c55b1 : ((x4_1.length : Int) != 200) = false := bne_eq_false_iff_eq.mpr c55
            clear c55
            simp only [Option.some.injEq, Prod.mk.injEq] at H
            obtain ⟨rfl, rfl⟩ := H
            have hcz56_0 : wc.cell? ⟨gb112, 0, none⟩ = some (.int .i64 (wrap64 (bt a0 x5_1))) := (blk_cell BK112.out 0).trans rfl
            have hcz56_1 : wc.cell? ⟨gb112, 1, none⟩ = some (.int .i64 x113001_8) := (blk_cell BK112.out 1).trans rfl
            have hfz56_0 := blk_frozen BK112.out 0
            have hfz56_1 := blk_frozen BK112.out 1
            go_wp2_with (first | (go_at_call 104; (with_reducible refine (spec_GoodIns.calls kj8 (wrap64 (bt a0 x5_1)) x113001_8 true _ A53.out).mono ?_); rintro e w57 ⟨rfl, hb⟩; have n0_ := Aside0.mk (Kd.R_below (by (with_reducible repeat (first | apply Kd.R_alloc | apply Kd.R_drewN | apply Kd.R_drew)); exact HO_4.out) hb); have n1_ := Aside0.mk (blk_below (g := gb112) (o := .cells #[.int .i64 (wrap64 (bt a0 x5_1)), .int .i64 x113001_8] 45 (0, 0)) (bk BK112.out) hb); have n2_ := Aside0.mk (below_step (bw HB.out) hb); clear HO_4; clear BK112; clear HB; have HO_4 := n0_; have BK112 := n1_; have HB := n2_; clear n0_ n1_ n2_; (try clear hb); (try clear hb2); (try clear hk); (try clear hi); obtain ⟨Ao58, co58, eo58⟩ := Kd.R_slice HO_4.out; subst eo58))
            go_ret2
            exact ⟨_, by first | rfl | (simp [errW_none, errW_some] <;> rfl) | (simp only [← hji5]; first | rfl | (simp [errW_none, errW_some] <;> rfl)) | (simp [*, errW_none, errW_some] <;> rfl), by first | exact Kd.R_nil _ _ _ _ _ | exact Kd.N_nil _ _ _ _ _ | exact Kd.V_nil _ _ _ _ _ | exact Kd.Q_nil _ _ _ _ _ | exact Kd.S_nil _ _ _ _ _, bw HB.out⟩
           ·
            rw [if_neg c55] at H
            have c55b0 : ((x4_1.length : Int) == 200) = false := beq_eq_false_iff_ne.mpr c55
            have c55b1 : ((x4_1.length : Int) != 200) = true := bne_iff_ne.mpr c55
            by_cases c59 : x4_1.length < 8796093022208
            ·
             rw [if_pos c59] at H
             have LMc59 := Aside0.mk c59
             clear c59
             obtain ⟨y127, hy127⟩ : ∃ y_ : List (S45), y_ = (x4_1 ++ [(⟨(wrap64 (bt a0 x5_1)), x113001_8⟩ : S45)]) := ⟨_, rfl⟩
             replace H : (spec_l6Read.l0 kj8 a0 y127 (wrap64 (ji5 + x7_8))) = some (r1, r2) := by first | (rw [hy127]; with_reducible exact H) | (have H2_ := (Option.bind_some _ _).symm.trans H; rw [hy127]; with_reducible exact H2_) | (have H2_ := (Option.bind_some _ _).symm.trans H; with_reducible exact H2_) | with_reducible exact H | (rw [hy127]; exact H) | exact H
             have Ny127 := Aside0.mk hy127
             clear hy127
             have H' := Aside0.mk H
             clear H
             have hcz60_0 : wc.cell? ⟨gb112, 0, none⟩ = some (.int .i64 (wrap64 (bt a0 x5_1))) := (blk_cell BK112.out 0).trans rfl
             have hcz60_1 : wc.cell? ⟨gb112, 1, none⟩ = some (.int .i64 x113001_8) := (blk_cell BK112.out 1).trans rfl
             have hfz60_0 := blk_frozen BK112.out 0
             have hfz60_1 := blk_frozen BK112.out 1
             go_wp2_with (first | (go_at_call 104; (with_reducible refine (spec_GoodIns.calls kj8 (wrap64 (bt a0 x5_1)) x113001_8 true _ A53.out).mono ?_); rintro e w61 ⟨rfl, hb⟩; have n0_ := Aside0.mk (Kd.R_below (by (with_reducible repeat (first | apply Kd.R_alloc | apply Kd.R_drewN | apply Kd.R_drew)); exact HO_4.out) hb); have n1_ := Aside0.mk (blk_below (g := gb112) (o := .cells #[.int .i64 (wrap64 (bt a0 x5_1)), .int .i64 x113001_8] 45 (0, 0)) (bk BK112.out) hb); have n2_ := Aside0.mk (below_step (bw HB.out) hb); clear HO_4; clear BK112; clear HB; have HO_4 := n0_; have BK112 := n1_; have HB := n2_; clear n0_ n1_ n2_; (try clear hb); (try clear hb2); (try clear hk); (try clear hi); obtain ⟨Ao62, co62, eo62⟩ := Kd.R_slice HO_4.out; subst eo62; have hcz63_0 : w61.cell? ⟨gb112, 0, none⟩ = some (.int .i64 (wrap64 (bt a0 x5_1))) := (blk_cell BK112.out 0).trans rfl; have hcz63_1 : w61.cell? ⟨gb112, 1, none⟩ = some (.int .i64 x113001_8) := (blk_cell BK112.out 1).trans rfl; have hfz63_0 := blk_frozen BK112.out 0; have hfz63_1 := blk_frozen BK112.out 1) | ((with_reducible refine gate_builtin (b := .append) (xs := #[.tmp 97, .tmp 99]) rfl ?_); (try (refine gate_guard (by rfl) ?_; dsimp only)); at_builtin; refine Kd.R_append k45 (w0 := w) w.heap.size rfl (.tmp 97) (.tmp 99) 22 45 (.agg #[(.int .i64 0), (.int .i64 0)]) 16 rfl Try.underlying22 info45 rfl (by decide) (by omega) (.slice Ao62 x4_1.length co62) x4_1 (⟨(wrap64 (bt a0 x5_1)), x113001_8⟩ : S45) [.int .i64 (wrap64 (bt a0 x5_1)), .int .i64 x113001_8] (fun k_ => k_ ≠ gb112) (fun _ => False) rfl rfl ?aP (fun _ hk => hk.elim) ?aF ?aO ?aB ?aS ?aL ?_; (case aP => exact k45_mkM _ _ _ (⟨(wrap64 (bt a0 x5_1)), x113001_8⟩ : S45)); (case aB => exact (bw HB.out)); (case aF => exact (fun k_ hk => Kd.freshB (g := gb112) (o := .cells #[.int .i64 (wrap64 (bt a0 x5_1)), .int .i64 x113001_8] 45 (0, 0)) (bk BK112.out) k_ hk)); (case aO => exact (by (with_reducible repeat (first | apply Kd.R_alloc | apply Kd.R_drewN | apply Kd.R_drew)); exact HO_4.out)); (case aS => exact (below_size (bw HB.out))); (case aL => have := LMc59.out; omega); intro v128 w64 ho hb hg hat; rw [← Ny127.out] at ho; have n0_ := Aside0.mk (blk_grown (g := gb112) (o := .cells #[.int .i64 (wrap64 (bt a0 x5_1)), .int .i64 x113001_8] 45 (0, 0)) (bk BK112.out) hg (Kd.R_away HO_4.out (fun _ hk => hk))); have n1_ := Aside0.mk (hb); have n2_ := Aside0.mk (ho); clear BK112; clear HB; clear HO_4; have BK112 := n0_; have HB := n1_; have HO129 := n2_; clear n0_ n1_ n2_; clear ho hb hg hat))
             go_roundg kj8
             case measure => have := HK1.out; have := HJ8.out; omega
             case rel => exact ⟨(y127), (wrap64 (ji5 + x7_8)), (by first | rfl | (simp; done) | (simp only [← hji5] <;> (first | rfl | simp)) | (simp [*]; done)), H', ⟨by have := HK1.out; have := HJ8.out; omega⟩, ⟨by (with_reducible repeat (first | apply Kd.R_alloc | apply Kd.R_drewN | apply Kd.R_drew)); exact Kd.R_mono HO129.out (fun _ hk => trivial)⟩, ⟨bw HB.out⟩⟩
            ·
             rw [if_neg c59] at H
             exact absurd H (by simp)
          ·
           replace c54 := Bool.eq_false_iff.mpr c54
           subst c54
           have H1 : (some (([] : List (S45)), false)) = some (r1, r2) := by rw [if_neg (show ¬ (false = true) by decide)] at H; exact H
           clear H
           have H := H1
           clear H1
           simp only [Option.some.injEq, Prod.mk.injEq] at H
           obtain ⟨rfl, rfl⟩ := H
           have hcz65_0 : wc.cell? ⟨gb112, 0, none⟩ = some (.int .i64 (wrap64 (bt a0 x5_1))) := (blk_cell BK112.out 0).trans rfl
           have hcz65_1 : wc.cell? ⟨gb112, 1, none⟩ = some (.int .i64 x113001_8) := (blk_cell BK112.out 1).trans rfl
           have hfz65_0 := blk_frozen BK112.out 0
           have hfz65_1 := blk_frozen BK112.out 1
           go_wp2_with (first | (go_at_call 104; (with_reducible refine (spec_GoodIns.calls kj8 (wrap64 (bt a0 x5_1)) x113001_8 false _ A53.out).mono ?_); rintro e w66 ⟨rfl, hb⟩; have n0_ := Aside0.mk (Kd.R_below (by (with_reducible repeat (first | apply Kd.R_alloc | apply Kd.R_drewN | apply Kd.R_drew)); exact HO_4.out) hb); have n1_ := Aside0.mk (blk_below (g := gb112) (o := .cells #[.int .i64 (wrap64 (bt a0 x5_1)), .int .i64 x113001_8] 45 (0, 0)) (bk BK112.out) hb); have n2_ := Aside0.mk (below_step (bw HB.out) hb); clear HO_4; clear BK112; clear HB; have HO_4 := n0_; have BK112 := n1_; have HB := n2_; clear n0_ n1_ n2_; (try clear hb); (try clear hb2); (try clear hk); (try clear hi)))
           go_ret2
           exact ⟨_, by first | rfl | (simp [errW_none, errW_some] <;> rfl) | (simp only [← hji5]; first | rfl | (simp [errW_none, errW_some] <;> rfl)) | (simp [*, errW_none, errW_some] <;> rfl), by first | exact Kd.R_nil _ _ _ _ _ | exact Kd.N_nil _ _ _ _ _ | exact Kd.V_nil _ _ _ _ _ | exact Kd.Q_nil _ _ _ _ _ | exact Kd.S_nil _ _ _ _ _, bw HB.out⟩
      ·
       rw [if_neg c7] at H
       exact absurd H (by simp)
     ·
      rw [if_neg c6] at H
      exact absurd H (by simp)
    ·
     rw [if_neg c3] at H
     exact absurd H (by simp)
   ·
    rw [if_neg c2] at H
    have c2b0 : decide (x5_1 < (a0.size : Int)) = false := decide_eq_false c2
    clear c2
    simp only [Option.some.injEq, Prod.mk.injEq] at H
    obtain ⟨rfl, rfl⟩ := H
    go_wp2
    go_ret2
    exact ⟨_, by first | rfl | (simp [errW_none, errW_some] <;> rfl) | (simp [*, errW_none, errW_some] <;> rfl), by (with_reducible repeat (first | apply Kd.R_alloc | apply Kd.R_drewN | apply Kd.R_drew)); exact HO_4.out, bw HB.out⟩

end Go.Proofs.Ytfachljdihmicaa.Q

namespace Go.Proofs.Ytfachljdihmicaa.Q
open Go.RowKit Go.Proofs.YtfachljdihmicaaW.PrintWords Go.Proofs.YtfachljdihmicaaW.PrintLast Go.Proofs.YtfachljdihmicaaW.PrintMore
attribute [local go_sem] max2_int min2_int max_two min_two max_three min_three max_four min_four   -- for this text's walks alone
set_option linter.unusedVariables false
set_option linter.unusedSimpArgs false

/-! ### spec_ReadCode: function 12 -/
def spec_ReadCode.f (k : Nat) (a0 : ByteArray) : Option ((List (S45)) × Bool) := (spec_l6Read.f k a0).bind fun bt130 => (some (bt130.1, bt130.2))
theorem spec_ReadCode.mono : ∀ a0 k, LeO (spec_ReadCode.f k a0) (spec_ReadCode.f (k + 1) a0) := by
 intro a0 k
 unfold spec_ReadCode.f
 repeat' first
   | (with_reducible exact spec_l6Read.mono _ _)
   | (with_reducible exact LeO.refl _)
   | (with_reducible exact LeO.none _)
   | (with_reducible refine LeO.ite ?_ ?_)
   | (with_reducible refine LeO.bind ?_ (fun _ => ?_))
   | exact spec_l6Read.mono _ _
   | exact LeO.none _
   | refine LeO.ite ?_ ?_
   | refine LeO.bind ?_ (fun _ => ?_)
set_option maxHeartbeats 8000000 in
set_option maxRecDepth 100000 in
theorem spec_ReadCode.calls (k : Nat) (a0 : ByteArray) (r1 : List (S45)) (r2 : Bool) (w : World) (h : spec_ReadCode.f k a0 = some (r1, r2)) :
  Calls Try.prog 12 #[.string a0] w fun e w' => ∃ v0_ : Value, e = .returned (.tuple #[v0_, .bool r2]) ∧ Kd.R k45 45 w' w.heap.size (fun _ => True) v0_ r1 ∧ Below w.heap.size w w' := by
 have HB := Aside0.mk (Below.refl w.heap.size w)
 have H : ((spec_l6Read.f k a0).bind fun bt130 => (some (bt130.1, bt130.2))) = some (r1, r2) := h
 clear h
 replace H := Option.bind_eq_some_iff.mp H
 obtain ⟨⟨t130, t131⟩, A20, H⟩ := H
 replace H : (some (t130, t131)) = some (r1, r2) := H
 have A2 := Aside0.mk A20
 clear A20
 simp only [Option.some.injEq, Prod.mk.injEq] at H
 obtain ⟨rfl, rfl⟩ := H
 go_enter Try.func12, Try.ntmps12
 go_wp2_with (first | ((with_reducible refine gate_callee (f := 51) rfl ?_); refine goesL_ (some 5) rfl rfl Try.func51 (by kernel_rfl) rfl #[.string a0] rfl ar ?_; (with_reducible refine (spec_l6Read.calls k a0 t130 t131 _ A2.out).mono ?_); rintro e w3 ⟨v132, rfl, ho0, hb⟩; refine ⟨_, rfl, ?_⟩; have n0_ := Aside0.mk (Kd.R_lower ho0 (below_size (bw HB.out))); have n1_ := Aside0.mk (below_step (bw HB.out) hb); clear HB; have HO133 := n0_; have HB := n1_; clear n0_ n1_; (try clear hb); (try clear hb2); (try clear hk); (try clear hi); (try clear ho0)))
 go_ret2
 exact ⟨_, by first | rfl | (simp [errW_none, errW_some] <;> rfl) | (simp [*, errW_none, errW_some] <;> rfl), by (with_reducible repeat (first | apply Kd.R_alloc | apply Kd.R_drewN | apply Kd.R_drew)); exact HO133.out, bw HB.out⟩

end Go.Proofs.Ytfachljdihmicaa.Q

namespace Go.Proofs.Ytfachljdihmicaa.Q
open Go.RowKit Go.Proofs.YtfachljdihmicaaW.PrintWords Go.Proofs.YtfachljdihmicaaW.PrintLast Go.Proofs.YtfachljdihmicaaW.PrintMore
attribute [local go_sem] max2_int min2_int max_two min_two max_three min_three max_four min_four   -- for this text's walks alone
set_option linter.unusedVariables false
set_option linter.unusedSimpArgs false

/-! ### impl_TakeUleb: function 105 -/
mutual
def impl_TakeUleb.j0 : Nat → ByteArray → Int → Bool → Option (Int × Int)
 | 0, _, _, _ => none
 | k + 1, x0, x1, x15 => if x15 = true then (some (0, 0)) else (impl_TakeUleb.l0 k x0 x1 0 0)
def impl_TakeUleb.l0 : Nat → ByteArray → Int → Int → Int → Option (Int × Int)
 | 0, _, _, _, _ => none
 | k + 1, x0, x1, x6, x7 => if x7 < (x0.size : Int) then (impl_TakeUleb.j2 k x0 x1 x6 x7 (decide (x7 < (wrap64 (Int.tdiv (wrap64 (x1 + 6)) 7))))) else (impl_TakeUleb.j2 k x0 x1 x6 x7 false)
def impl_TakeUleb.j2 : Nat → ByteArray → Int → Int → Int → Bool → Option (Int × Int)
 | 0, _, _, _, _, _ => none
 | k + 1, x0, x1, x6, x7, x26 => if x26 = true then (if 0 ≤ x7 then (if x7 < (x0.size : Int) then (if (wrap64 (x1 - (wrap64 (7 * x7)))) < 7 then (if 0 ≤ (wrap64 (x1 - (wrap64 (7 * x7)))) then (impl_TakeUleb.j3 k x0 x1 x6 x7 (IntKind.u64.wrap (Go.bits .and .u8 (bt x0 x7) 127)) ((shr .u64 (IntKind.u64.wrap (Go.bits .and .u8 (bt x0 x7) 127)) (wrap64 (x1 - (wrap64 (7 * x7))))) != 0)) else (none)) else (impl_TakeUleb.j3 k x0 x1 x6 x7 (IntKind.u64.wrap (Go.bits .and .u8 (bt x0 x7) 127)) false)) else (none)) else (none)) else (some (0, 0))
def impl_TakeUleb.j3 : Nat → ByteArray → Int → Int → Int → Int → Bool → Option (Int × Int)
 | 0, _, _, _, _, _, _ => none
 | k + 1, x0, x1, x6, x7, x8, x45 => if x45 = true then (some (0, 0)) else (if 0 ≤ (wrap64 (7 * x7)) then (if 0 ≤ x7 then (if x7 < (x0.size : Int) then (if (bt x0 x7) < 128 then (some (Go.bits .or .u64 x6 (shl .u64 x8 (wrap64 (7 * x7))), wrap64 (x7 + 1))) else (impl_TakeUleb.l0 k x0 x1 (Go.bits .or .u64 x6 (shl .u64 x8 (wrap64 (7 * x7)))) (wrap64 (x7 + 1)))) else (none)) else (none)) else (none))
end
def impl_TakeUleb.f (k : Nat) (a0 : ByteArray) (a1 : Int) : Option (Int × Int) := if a1 < 1 then (impl_TakeUleb.j0 k a0 a1 true) else (impl_TakeUleb.j0 k a0 a1 (decide (a1 > 64)))
theorem impl_TakeUleb.mono_l : ∀ k, (∀ y0 y1 y2, LeO (impl_TakeUleb.j0 k y0 y1 y2) (impl_TakeUleb.j0 (k + 1) y0 y1 y2)) ∧ (∀ y0 y1 y2 y3, LeO (impl_TakeUleb.l0 k y0 y1 y2 y3) (impl_TakeUleb.l0 (k + 1) y0 y1 y2 y3)) ∧ (∀ y0 y1 y2 y3 y4, LeO (impl_TakeUleb.j2 k y0 y1 y2 y3 y4) (impl_TakeUleb.j2 (k + 1) y0 y1 y2 y3 y4)) ∧ (∀ y0 y1 y2 y3 y4 y5, LeO (impl_TakeUleb.j3 k y0 y1 y2 y3 y4 y5) (impl_TakeUleb.j3 (k + 1) y0 y1 y2 y3 y4 y5))
 | 0 => ⟨fun _ _ _ r h => by simp [impl_TakeUleb.j0] at h, fun _ _ _ _ r h => by simp [impl_TakeUleb.l0] at h, fun _ _ _ _ _ r h => by simp [impl_TakeUleb.j2] at h, fun _ _ _ _ _ _ r h => by simp [impl_TakeUleb.j3] at h⟩
 | k + 1 => by
  obtain ⟨ih0, ih1, ih2, ih3⟩ := impl_TakeUleb.mono_l k
  refine ⟨?_, ?_, ?_, ?_⟩
  ·
   intro y0 y1 y2
   unfold impl_TakeUleb.j0
   repeat' first
   | (with_reducible exact ih0 _ _ _)
   | (with_reducible exact ih1 _ _ _ _)
   | (with_reducible exact ih2 _ _ _ _ _)
   | (with_reducible exact ih3 _ _ _ _ _ _)
   | (with_reducible exact LeO.refl _)
   | (with_reducible exact LeO.none _)
   | (with_reducible refine LeO.ite ?_ ?_)
   | (with_reducible refine LeO.bind ?_ (fun _ => ?_))
   | exact ih0 _ _ _
   | exact ih1 _ _ _ _
   | exact ih2 _ _ _ _ _
   | exact ih3 _ _ _ _ _ _
   | exact LeO.none _
   | refine LeO.ite ?_ ?_
   | refine LeO.bind ?_ (fun _ => ?_)
  ·
   intro y0 y1 y2 y3
   unfold impl_TakeUleb.l0
   repeat' first
   | (with_reducible exact ih0 _ _ _)
   | (with_reducible exact ih1 _ _ _ _)
   | (with_reducible exact ih2 _ _ _ _ _)
   | (with_reducible exact ih3 _ _ _ _ _ _)
   | (with_reducible exact LeO.refl _)
   | (with_reducible exact LeO.none _)
   | (with_reducible refine LeO.ite ?_ ?_)
   | (with_reducible refine LeO.bind ?_ (fun _ => ?_))
   | exact ih0 _ _ _
   | exact ih1 _ _ _ _
   | exact ih2 _ _ _ _ _
   | exact ih3 _ _ _ _ _ _
   | exact LeO.none _
   | refine LeO.ite ?_ ?_
   | refine LeO.bind ?_ (fun _ => ?_)
  ·
   intro y0 y1 y2 y3 y4
   unfold impl_TakeUleb.j2
   repeat' first
   | (with_reducible exact ih0 _ _ _)
   | (with_reducible exact ih1 _ _ _ _)
   | (with_reducible exact ih2 _ _ _ _ _)
   | (with_reducible exact ih3 _ _ _ _ _ _)
   | (with_reducible exact LeO.refl _)
   | (with_reducible exact LeO.none _)
   | (with_reducible refine LeO.ite ?_ ?_)
   | (with_reducible refine LeO.bind ?_ (fun _ => ?_))
   | exact ih0 _ _ _
   | exact ih1 _ _ _ _
   | exact ih2 _ _ _ _ _
   | exact ih3 _ _ _ _ _ _
   | exact LeO.none _
   | refine LeO.ite ?_ ?_
   | refine LeO.bind ?_ (fun _ => ?_)
  ·
   intro y0 y1 y2 y3 y4 y5
   unfold impl_TakeUleb.j3
   repeat' first
   | (with_reducible exact ih0 _ _ _)
   | (with_reducible exact ih1 _ _ _ _)
   | (with_reducible exact ih2 _ _ _ _ _)
   | (with_reducible exact ih3 _ _ _ _ _ _)
   | (with_reducible exact LeO.refl _)
   | (with_reducible exact LeO.none _)
   | (with_reducible refine LeO.ite ?_ ?_)
   | (with_reducible refine LeO.bind ?_ (fun _ => ?_))
   | exact ih0 _ _ _
   | exact ih1 _ _ _ _
   | exact ih2 _ _ _ _ _
   | exact ih3 _ _ _ _ _ _
   | exact LeO.none _
   | refine LeO.ite ?_ ?_
   | refine LeO.bind ?_ (fun _ => ?_)
theorem impl_TakeUleb.mono : ∀ a0 a1 k, LeO (impl_TakeUleb.f k a0 a1) (impl_TakeUleb.f (k + 1) a0 a1) := by
 intro a0 a1 k
 obtain ⟨ih0, ih1, ih2, ih3⟩ := impl_TakeUleb.mono_l k
 unfold impl_TakeUleb.f
 repeat' first
   | (with_reducible exact ih0 _ _ _)
   | (with_reducible exact ih1 _ _ _ _)
   | (with_reducible exact ih2 _ _ _ _ _)
   | (with_reducible exact ih3 _ _ _ _ _ _)
   | (with_reducible exact LeO.refl _)
   | (with_reducible exact LeO.none _)
   | (with_reducible refine LeO.ite ?_ ?_)
   | (with_reducible refine LeO.bind ?_ (fun _ => ?_))
   | exact ih0 _ _ _
   | exact ih1 _ _ _ _
   | exact ih2 _ _ _ _ _
   | exact ih3 _ _ _ _ _ _
   | exact LeO.none _
   | refine LeO.ite ?_ ?_
   | refine LeO.bind ?_ (fun _ => ?_)
set_option maxHeartbeats 8000000 in
set_option maxRecDepth 100000 in
theorem impl_TakeUleb.calls (k : Nat) (a0 : ByteArray) (a1 : Int) (r1 : Int) (r2 : Int) (w : World) (h : impl_TakeUleb.f k a0 a1 = some (r1, r2)) :
  Calls Try.prog 105 #[.string a0, .int .i64 a1] w fun e w' => e = .returned (.tuple #[.int .u64 r1, .int .i64 r2]) ∧ Drawn0 w w' := by
 have H : (if a1 < 1 then (impl_TakeUleb.j0 k a0 a1 true) else (impl_TakeUleb.j0 k a0 a1 (decide (a1 > 64)))) = some (r1, r2) := h
 clear h
 have HC3 := Aside0.mk H
 clear H
 go_enter Try.func105, Try.ntmps105
 go_upto_region 1 with (fail)
 go_cut [15] (fun v15 wc => ∃ (kq : Nat) (x15_2 : Bool), v15 = .bool x15_2 ∧ Aside0 (impl_TakeUleb.j0 kq a0 a1 x15_2 = some (r1, r2)) ∧ Aside0 (kq ≤ k) ∧ Drawn0 w wc)
 case first =>
  have H := HC3.out
  clear HC3
  by_cases c4 : a1 < 1
  ·
   rw [if_pos c4] at H
   have c4b0 : decide (a1 < 1) = true := decide_eq_true c4
   clear c4
   (first | rw [c4b0] | (simp only [i64_w, i32_w]; rw [c4b0]) | skip)
   have H' := Aside0.mk H
   clear H
   go_wp2
   go_meet
   case rel => exact ⟨_, (true), (by first | rfl | (simp; done) | (simp [*]; done)), H', ⟨by first | omega | exact Nat.le_refl _⟩, by repeat (first | exact Drawn0.refl _ | apply Drawn0.step)⟩
  ·
   rw [if_neg c4] at H
   have c4b0 : decide (a1 < 1) = false := decide_eq_false c4
   clear c4
   (first | rw [c4b0] | (simp only [i64_w, i32_w]; rw [c4b0]) | skip)
   have H' := Aside0.mk H
   clear H
   go_wp2
   go_meet
   case rel => exact ⟨_, (decide (a1 > 64)), (by first | rfl | (simp; done) | (simp [*]; done)), H', ⟨by first | omega | exact Nat.le_refl _⟩, by repeat (first | exact Drawn0.refl _ | apply Drawn0.step)⟩
 case rest =>
  clear HC3
  try clear c1
  try clear p2
  try clear c4
  try clear c4b0
  obtain ⟨kq, x15_2, rfl, HA, HJ2, ⟨mc2, rfl⟩⟩ := hcut
  cases kq with
  | zero => exact absurd HA.out (by simp [impl_TakeUleb.j0])
  | succ kj2 =>
   have H := HA.out
   clear HA
   simp only [impl_TakeUleb.j0] at H
   by_cases c5 : x15_2 = true
   ·
    subst c5
    have H1 : (some (0, 0)) = some (r1, r2) := by rw [if_pos rfl] at H; exact H
    clear H
    have H := H1
    clear H1
    simp only [Option.some.injEq, Prod.mk.injEq] at H
    obtain ⟨rfl, rfl⟩ := H
    go_wp2
    go_ret2
    exact ⟨by first | rfl | (simp; done) | (simp [*]; done), by repeat (first | exact Drawn0.refl _ | apply Drawn0.step)⟩
   ·
    replace c5 := Bool.eq_false_iff.mpr c5
    subst c5
    have H1 : (impl_TakeUleb.l0 kj2 a0 a1 0 0) = some (r1, r2) := by rw [if_neg (show ¬ (false = true) by decide)] at H; exact H
    clear H
    have H := H1
    clear H1
    have H' := Aside0.mk H
    clear H
    go_wp2
    (try simp only [Act.put, List.setIfInBounds_toArray, List.set_cons_zero, List.set_cons_succ])
    go_loopg [6, 7] kj2 (fun kq v6 v7 w' => ∃ (x6_2 : Int) (x7_2 : Int), v6 = .int .u64 x6_2 ∧ v7 = .int .i64 x7_2 ∧ Aside0 (impl_TakeUleb.l0 kq a0 a1 x6_2 x7_2 = some (r1, r2)) ∧ Aside0 (kq ≤ kj2) ∧ Drawn0 w w')
    case atStart => exact ⟨(0), (0), (by first | rfl | (simp; done) | (simp [*]; done)), (by first | rfl | (simp; done) | (simp [*]; done)), H', ⟨Nat.le_refl _⟩, by repeat (first | exact Drawn0.refl _ | apply Drawn0.step)⟩
    case round =>
     clear H'
     try clear c1
     try clear c2
     try clear p2
     try clear c4
     try clear c4b0
     try clear c5
     try clear p2
     obtain ⟨x6_2, x7_2, rfl, rfl, HA, HK2, ⟨m2, rfl⟩⟩ := hrel
     cases gk with
     | zero => exact absurd HA.out (by simp [impl_TakeUleb.l0])
     | succ k2 =>
      have H := HA.out
      clear HA
      simp only [impl_TakeUleb.l0] at H
      have HC6 := Aside0.mk H
      clear H
      go_upto_region 5 with (fail)
      go_cut [26] (fun v26 wc => ∃ (kq : Nat) (x26_5 : Bool), v26 = .bool x26_5 ∧ Aside0 (impl_TakeUleb.j2 kq a0 a1 x6_2 x7_2 x26_5 = some (r1, r2)) ∧ Aside0 (kq ≤ k2) ∧ Drawn0 w wc)
      case first =>
       have H := HC6.out
       clear HC6
       by_cases c7 : x7_2 < (a0.size : Int)
       ·
        rw [if_pos c7] at H
        have c7b0 : decide (x7_2 < (a0.size : Int)) = true := decide_eq_true c7
        clear c7
        (first | rw [c7b0] | (simp only [i64_w, i32_w]; rw [c7b0]) | skip)
        have H' := Aside0.mk H
        clear H
        go_wp2
        go_meet
        case rel => exact ⟨_, (decide (x7_2 < (wrap64 (Int.tdiv (wrap64 (a1 + 6)) 7)))), (by first | rfl | (simp; done) | (simp [*]; done)), H', ⟨by have := HJ2.out; have := HK2.out; first | omega | exact Nat.le_refl _⟩, by repeat (first | exact Drawn0.refl _ | apply Drawn0.step)⟩
       ·
        rw [if_neg c7] at H
        have c7b0 : decide (x7_2 < (a0.size : Int)) = false := decide_eq_false c7
        clear c7
        (first | rw [c7b0] | (simp only [i64_w, i32_w]; rw [c7b0]) | skip)
        have H' := Aside0.mk H
        clear H
        go_wp2
        go_meet
        case rel => exact ⟨_, (false), (by first | rfl | (simp; done) | (simp [*]; done)), H', ⟨by have := HJ2.out; have := HK2.out; first | omega | exact Nat.le_refl _⟩, by repeat (first | exact Drawn0.refl _ | apply Drawn0.step)⟩
      case rest =>
       clear HC6
       try clear c1
       try clear c2
       try clear p2
       try clear c4
       try clear c4b0
       try clear c5
       try clear p6
       try clear c7
       try clear c7b0
       try clear p2
       obtain ⟨kq, x26_5, rfl, HA, HJ5, ⟨mc5, rfl⟩⟩ := hcut
       cases kq with
       | zero => exact absurd HA.out (by simp [impl_TakeUleb.j2])
       | succ kj5 =>
        have H := HA.out
        clear HA
        simp only [impl_TakeUleb.j2] at H
        by_cases c8 : x26_5 = true
        ·
         subst c8
         have H1 : (if 0 ≤ x7_2 then (if x7_2 < (a0.size : Int) then (if (wrap64 (a1 - (wrap64 (7 * x7_2)))) < 7 then (if 0 ≤ (wrap64 (a1 - (wrap64 (7 * x7_2)))) then (impl_TakeUleb.j3 kj5 a0 a1 x6_2 x7_2 (IntKind.u64.wrap (Go.bits .and .u8 (bt a0 x7_2) 127)) ((shr .u64 (IntKind.u64.wrap (Go.bits .and .u8 (bt a0 x7_2) 127)) (wrap64 (a1 - (wrap64 (7 * x7_2))))) != 0)) else (none)) else (impl_TakeUleb.j3 kj5 a0 a1 x6_2 x7_2 (IntKind.u64.wrap (Go.bits .and .u8 (bt a0 x7_2) 127)) false)) else (none)) else (none)) = some (r1, r2) := by rw [if_pos rfl] at H; exact H
         clear H
         have H := H1
         clear H1
         by_cases c9 : 0 ≤ x7_2
         ·
          rw [if_pos c9] at H
          have c9b0 : decide (0 ≤ x7_2) = true := decide_eq_true c9
          clear c9
          by_cases c10 : x7_2 < (a0.size : Int)
          ·
           rw [if_pos c10] at H
           have c10b0 : decide (x7_2 < (a0.size : Int)) = true := decide_eq_true c10
           clear c10
           have HC12 := Aside0.mk H
           clear H
           have p11 : 0 ≤ (x7_2 : Int) := of_decide_eq_true (by first | (with_reducible assumption) | assumption)
           have q11 : x7_2 < (a0.size : Int) := of_decide_eq_true (by first | (with_reducible assumption) | assumption)
           have hx11 := bt_at a0 x7_2
           replace p11 := eq_true p11
           replace q11 := eq_true q11
           go_upto_region 9 with (fail)
           go_cut [45] (fun v45 wc => ∃ (kq : Nat) (x45_11 : Bool), v45 = .bool x45_11 ∧ Aside0 (impl_TakeUleb.j3 kq a0 a1 x6_2 x7_2 (IntKind.u64.wrap (Go.bits .and .u8 (bt a0 x7_2) 127)) x45_11 = some (r1, r2)) ∧ Aside0 (kq ≤ kj5) ∧ Drawn0 w wc)
           case first =>
            have H := HC12.out
            clear HC12
            by_cases c13 : (wrap64 (a1 - (wrap64 (7 * x7_2)))) < 7
            ·
             rw [if_pos c13] at H
             have c13b0 : decide ((wrap64 (a1 - (wrap64 (7 * x7_2)))) < 7) = true := decide_eq_true c13
             clear c13
             (first | rw [c13b0] | (simp only [i64_w, i32_w]; rw [c13b0]) | skip)
             obtain ⟨ji14, hji14⟩ : ∃ j_ : Int, (wrap64 (a1 - (wrap64 (7 * x7_2)))) = j_ := ⟨_, rfl⟩
             replace H : (if 0 ≤ (ji14) then (impl_TakeUleb.j3 kj5 a0 a1 x6_2 x7_2 (IntKind.u64.wrap (Go.bits .and .u8 (bt a0 x7_2) 127)) ((shr .u64 (IntKind.u64.wrap (Go.bits .and .u8 (bt a0 x7_2) 127)) (ji14)) != 0)) else (none)) = some (r1, r2) := by first | (rw [hji14] at H; exact H) | (simp only [hji14] at H ⊢; exact H)
             (try rw [hji14] at c13b0)
             have hji14w : (IntKind.i64.wrap (a1 - (wrap64 (7 * x7_2)))) = ji14 := (i64_w _).trans hji14
             by_cases c15 : 0 ≤ (ji14)
             ·
              rw [if_pos c15] at H
              have c15b0 := eq_true c15
              have c15b1 : decide (0 ≤ (ji14)) = true := decide_eq_true c15
              clear c15
              obtain ⟨ji16, hji16⟩ : ∃ j_ : Int, (shr .u64 (IntKind.u64.wrap (Go.bits .and .u8 (bt a0 x7_2) 127)) (ji14)) = j_ := ⟨_, rfl⟩
              replace H : (impl_TakeUleb.j3 kj5 a0 a1 x6_2 x7_2 (IntKind.u64.wrap (Go.bits .and .u8 (bt a0 x7_2) 127)) ((ji16) != 0)) = some (r1, r2) := by first | (rw [hji16] at H; exact H) | (simp only [hji16] at H ⊢; exact H)
              have hji16_ : ((IntKind.u64.wrap (Go.bits .and .u8 (bt a0 x7_2) 127)) / 2 ^ min (ji14).toNat 64) = ji16 := hji16
              have hji16z : (ji14) ≤ 64 → ((IntKind.u64.wrap (Go.bits .and .u8 (bt a0 x7_2) 127)) / 2 ^ (ji14).toNat) = ji16 := shr_small hji16
              have H' := Aside0.mk H
              clear H
              go_wp2
              first | go_meet | ((simp only [← hji16]); go_meet) | ((simp only [← hji14]); go_meet) | ((simp only [← hji16, ← hji14]); go_meet)
              case rel => exact ⟨_, (((ji16) != 0)), (by first | rfl | (simp; done) | (simp only [← hji16] <;> (first | rfl | simp)) | (simp [*]; done)), H', ⟨by have := HJ2.out; have := HK2.out; have := HJ5.out; first | omega | exact Nat.le_refl _⟩, by repeat (first | exact Drawn0.refl _ | apply Drawn0.step)⟩
             ·
              rw [if_neg c15] at H
              exact absurd H (by simp)
            ·
             rw [if_neg c13] at H
             have c13b0 : decide ((wrap64 (a1 - (wrap64 (7 * x7_2)))) < 7) = false := decide_eq_false c13
             clear c13
             (first | rw [c13b0] | (simp only [i64_w, i32_w]; rw [c13b0]) | skip)
             have H' := Aside0.mk H
             clear H
             go_wp2
             go_meet
             case rel => exact ⟨_, (false), (by first | rfl | (simp; done) | (simp [*]; done)), H', ⟨by have := HJ2.out; have := HK2.out; have := HJ5.out; first | omega | exact Nat.le_refl _⟩, by repeat (first | exact Drawn0.refl _ | apply Drawn0.step)⟩
           case rest =>
            clear HC12
            try clear c1
            try clear p1
            try clear q1
            try clear hx1
            try clear c2
            try clear p2
            try clear c4
            try clear c4b0
            try clear c5
            try clear p6
            try clear c7
            try clear c7b0
            try clear c8
            try clear c9
            try clear c9b0
            try clear c10
            try clear c10b0
            try clear p11
            try clear q11
            try clear hx11
            try clear c13
            try clear c13b0
            try clear c15
            try clear c15b0
            try clear c15b1
            try clear p11
            try clear p2
            try clear p6
            try clear q11
            obtain ⟨kq, x45_11, rfl, HA, HJ11, ⟨mc11, rfl⟩⟩ := hcut
            cases kq with
            | zero => exact absurd HA.out (by simp [impl_TakeUleb.j3])
            | succ kj11 =>
             have H := HA.out
             clear HA
             simp only [impl_TakeUleb.j3] at H
             by_cases c17 : x45_11 = true
             ·
              subst c17
              have H1 : (some (0, 0)) = some (r1, r2) := by rw [if_pos rfl] at H; exact H
              clear H
              have H := H1
              clear H1
              simp only [Option.some.injEq, Prod.mk.injEq] at H
              obtain ⟨rfl, rfl⟩ := H
              go_wp2
              go_ret2
              exact ⟨by first | rfl | (simp; done) | (simp [*]; done), by repeat (first | exact Drawn0.refl _ | apply Drawn0.step)⟩
             ·
              replace c17 := Bool.eq_false_iff.mpr c17
              subst c17
              have H1 : (if 0 ≤ (wrap64 (7 * x7_2)) then (if 0 ≤ x7_2 then (if x7_2 < (a0.size : Int) then (if (bt a0 x7_2) < 128 then (some (Go.bits .or .u64 x6_2 (shl .u64 (IntKind.u64.wrap (Go.bits .and .u8 (bt a0 x7_2) 127)) (wrap64 (7 * x7_2))), wrap64 (x7_2 + 1))) else (impl_TakeUleb.l0 kj11 a0 a1 (Go.bits .or .u64 x6_2 (shl .u64 (IntKind.u64.wrap (Go.bits .and .u8 (bt a0 x7_2) 127)) (wrap64 (7 * x7_2)))) (wrap64 (x7_2 + 1)))) else (none)) else (none)) else (none)) = some (r1, r2) := by rw [if_neg (show ¬ (false = true) by decide)] at H; exact H
              clear H
              have H := H1
              clear H1
              obtain ⟨ji18, hji18⟩ : ∃ j_ : Int, (wrap64 (7 * x7_2)) = j_ := ⟨_, rfl⟩
              replace H : (if 0 ≤ (ji18) then (if 0 ≤ x7_2 then (if x7_2 < (a0.size : Int) then (if (bt a0 x7_2) < 128 then (some (Go.bits .or .u64 x6_2 (shl .u64 (IntKind.u64.wrap (Go.bits .and .u8 (bt a0 x7_2) 127)) (ji18)), wrap64 (x7_2 + 1))) else (impl_TakeUleb.l0 kj11 a0 a1 (Go.bits .or .u64 x6_2 (shl .u64 (IntKind.u64.wrap (Go.bits .and .u8 (bt a0 x7_2) 127)) (ji18))) (wrap64 (x7_2 + 1)))) else (none)) else (none)) else (none)) = some (r1, r2) := by first | (rw [hji18] at H; exact H) | (simp only [hji18] at H ⊢; exact H)
              have hji18w : (IntKind.i64.wrap (7 * x7_2)) = ji18 := (i64_w _).trans hji18
              by_cases c19 : 0 ≤ (ji18)
              ·
               rw [if_pos c19] at H
               have c19b0 := eq_true c19
               have c19b1 : decide (0 ≤ (ji18)) = true := decide_eq_true c19
               clear c19
               obtain ⟨ji20, hji20⟩ : ∃ j_ : Int, (shl .u64 (IntKind.u64.wrap (Go.bits .and .u8 (bt a0 x7_2) 127)) (ji18)) = j_ := ⟨_, rfl⟩
               replace H : (if 0 ≤ x7_2 then (if x7_2 < (a0.size : Int) then (if (bt a0 x7_2) < 128 then (some (Go.bits .or .u64 x6_2 (ji20), wrap64 (x7_2 + 1))) else (impl_TakeUleb.l0 kj11 a0 a1 (Go.bits .or .u64 x6_2 (ji20)) (wrap64 (x7_2 + 1)))) else (none)) else (none)) = some (r1, r2) := by first | (rw [hji20] at H; exact H) | (simp only [hji20] at H ⊢; exact H)
               have hji20_ : (IntKind.u64.wrap ((IntKind.u64.wrap (Go.bits .and .u8 (bt a0 x7_2) 127)) * 2 ^ min (ji18).toNat 64)) = ji20 := hji20
               have hji20z : (ji18) ≤ 64 → (IntKind.u64.wrap ((IntKind.u64.wrap (Go.bits .and .u8 (bt a0 x7_2) 127)) * 2 ^ (ji18).toNat)) = ji20 := shl_small hji20
               by_cases c21 : 0 ≤ x7_2
               ·
                rw [if_pos c21] at H
                have c21b0 : decide (0 ≤ x7_2) = true := decide_eq_true c21
                clear c21
                by_cases c22 : x7_2 < (a0.size : Int)
                ·
                 rw [if_pos c22] at H
                 have c22b0 : decide (x7_2 < (a0.size : Int)) = true := decide_eq_true c22
                 clear c22
                 by_cases c24 : (bt a0 x7_2) < 128
                 ·
                  rw [if_pos c24] at H
                  have c24b0 : decide ((bt a0 x7_2) < 128) = true := decide_eq_true c24
                  clear c24
                  simp only [Option.some.injEq, Prod.mk.injEq] at H
                  obtain ⟨rfl, rfl⟩ := H
                  have p23 : 0 ≤ (x7_2 : Int) := of_decide_eq_true (by first | (with_reducible assumption) | assumption)
                  have q23 : x7_2 < (a0.size : Int) := of_decide_eq_true (by first | (with_reducible assumption) | assumption)
                  have hx23 := bt_at a0 x7_2
                  replace p23 := eq_true p23
                  replace q23 := eq_true q23
                  go_wp2
                  go_ret2
                  exact ⟨by first | rfl | (simp; done) | (simp only [← hji18, ← hji20] <;> (first | rfl | simp)) | (simp [*]; done), by repeat (first | exact Drawn0.refl _ | apply Drawn0.step)⟩
                 ·
                  rw [if_neg c24] at H
                  have c24b0 : decide ((bt a0 x7_2) < 128) = false := decide_eq_false c24
                  clear c24
                  have H' := Aside0.mk H
                  clear H
                  have p23 : 0 ≤ (x7_2 : Int) := of_decide_eq_true (by first | (with_reducible assumption) | assumption)
                  have q23 : x7_2 < (a0.size : Int) := of_decide_eq_true (by first | (with_reducible assumption) | assumption)
                  have hx23 := bt_at a0 x7_2
                  replace p23 := eq_true p23
                  replace q23 := eq_true q23
                  go_wp2
                  go_roundg kj11
                  case measure => have := HJ2.out; have := HK2.out; have := HJ5.out; have := HJ11.out; omega
                  case rel => exact ⟨(Go.bits .or .u64 x6_2 (ji20)), (wrap64 (x7_2 + 1)), (by first | rfl | (simp; done) | (simp only [← hji20] <;> (first | rfl | simp)) | (simp [*]; done)), (by first | rfl | (simp; done) | (simp [*]; done)), H', ⟨by have := HJ2.out; have := HK2.out; have := HJ5.out; have := HJ11.out; omega⟩, by repeat (first | exact Drawn0.refl _ | apply Drawn0.step)⟩
                ·
                 rw [if_neg c22] at H
                 exact absurd H (by simp)
               ·
                rw [if_neg c21] at H
                exact absurd H (by simp)
              ·
               rw [if_neg c19] at H
               exact absurd H (by simp)
          ·
           rw [if_neg c10] at H
           exact absurd H (by simp)
         ·
          rw [if_neg c9] at H
          exact absurd H (by simp)
        ·
         replace c8 := Bool.eq_false_iff.mpr c8
         subst c8
         have H1 : (some (0, 0)) = some (r1, r2) := by rw [if_neg (show ¬ (false = true) by decide)] at H; exact H
         clear H
         have H := H1
         clear H1
         simp only [Option.some.injEq, Prod.mk.injEq] at H
         obtain ⟨rfl, rfl⟩ := H
         go_wp2
         go_ret2
         exact ⟨by first | rfl | (simp; done) | (simp [*]; done), by repeat (first | exact Drawn0.refl _ | apply Drawn0.step)⟩

end Go.Proofs.Ytfachljdihmicaa.Q

