-- Written by a program of this session; it walks the functions that the law reaches.
import Derived.Test.YtmmlgkepnjelnaaQx0
import Derived.Test.YtmmlgkepnjelnaaQx3
namespace Go.Proofs.Ytmmlgkepnjelnaa.Q
open Go.RowKit Go.Proofs.YtmmlgkepnjelnaaW.PrintWords Go.Proofs.YtmmlgkepnjelnaaW.PrintLast Go.Proofs.YtmmlgkepnjelnaaW.PrintMore
attribute [local go_sem] max2_int min2_int max_two min_two max_three min_three max_four min_four   -- for this text's walks alone
set_option linter.unusedVariables false
set_option linter.unusedSimpArgs false

/-! ### impl_TakeSleb: function 63 -/
mutual
def impl_TakeSleb.j0 : Nat → ByteArray → Int → Bool → Option (Int × Int)
 | 0, _, _, _ => none
 | k + 1, x0, x1, x16 => if x16 = true then (some (0, 0)) else (impl_TakeSleb.l0 k x0 x1 0 0)
def impl_TakeSleb.l0 : Nat → ByteArray → Int → Int → Int → Option (Int × Int)
 | 0, _, _, _, _ => none
 | k + 1, x0, x1, x6, x7 => if x7 < (x0.size : Int) then (impl_TakeSleb.j2 k x0 x1 x6 x7 (decide (x7 < (wrap64 (Int.tdiv (wrap64 (x1 + 6)) 7))))) else (impl_TakeSleb.j2 k x0 x1 x6 x7 false)
def impl_TakeSleb.j2 : Nat → ByteArray → Int → Int → Int → Bool → Option (Int × Int)
 | 0, _, _, _, _, _ => none
 | k + 1, x0, x1, x6, x7, x27 => if x27 = true then (if 0 ≤ x7 then (if x7 < (x0.size : Int) then (if (wrap64 (Go.bits .and .u8 (bt x0 x7) 127)) ≥ 64 then (impl_TakeSleb.j3 k x0 x1 x6 x7 (wrap64 (Go.bits .and .u8 (bt x0 x7) 127)) (wrap64 ((wrap64 (Go.bits .and .u8 (bt x0 x7) 127)) - 128))) else (impl_TakeSleb.j3 k x0 x1 x6 x7 (wrap64 (Go.bits .and .u8 (bt x0 x7) 127)) (wrap64 (Go.bits .and .u8 (bt x0 x7) 127)))) else (none)) else (none)) else (some (0, 0))
def impl_TakeSleb.j3 : Nat → ByteArray → Int → Int → Int → Int → Int → Option (Int × Int)
 | 0, _, _, _, _, _, _ => none
 | k + 1, x0, x1, x6, x7, x8, x9 => if (wrap64 (x1 - (wrap64 (7 * x7)))) < 7 then (if 0 ≤ (wrap64 ((wrap64 (x1 - (wrap64 (7 * x7)))) - 1)) then (if (shr .i64 x9 (wrap64 ((wrap64 (x1 - (wrap64 (7 * x7)))) - 1))) = 0 then (impl_TakeSleb.j4 k x0 x1 x6 x7 x8 x9 false) else (impl_TakeSleb.j4 k x0 x1 x6 x7 x8 x9 ((shr .i64 x9 (wrap64 ((wrap64 (x1 - (wrap64 (7 * x7)))) - 1))) != (-1)))) else (none)) else (impl_TakeSleb.j4 k x0 x1 x6 x7 x8 x9 false)
def impl_TakeSleb.j4 : Nat → ByteArray → Int → Int → Int → Int → Int → Bool → Option (Int × Int)
 | 0, _, _, _, _, _, _, _ => none
 | k + 1, x0, x1, x6, x7, x8, x9, x59 => if x59 = true then (some (0, 0)) else (if 0 ≤ x7 then (if x7 < (x0.size : Int) then (if (bt x0 x7) < 128 then (if 0 ≤ (wrap64 (7 * x7)) then (some (Go.bits .or .i64 x6 (shl .i64 x9 (wrap64 (7 * x7))), wrap64 (x7 + 1))) else (none)) else (if 0 ≤ (wrap64 (7 * x7)) then (impl_TakeSleb.l0 k x0 x1 (Go.bits .or .i64 x6 (shl .i64 x8 (wrap64 (7 * x7)))) (wrap64 (x7 + 1))) else (none))) else (none)) else (none))
end
def impl_TakeSleb.f (k : Nat) (a0 : ByteArray) (a1 : Int) : Option (Int × Int) := if a1 < 1 then (impl_TakeSleb.j0 k a0 a1 true) else (impl_TakeSleb.j0 k a0 a1 (decide (a1 > 64)))
theorem impl_TakeSleb.mono_l : ∀ k, (∀ y0 y1 y2, LeO (impl_TakeSleb.j0 k y0 y1 y2) (impl_TakeSleb.j0 (k + 1) y0 y1 y2)) ∧ (∀ y0 y1 y2 y3, LeO (impl_TakeSleb.l0 k y0 y1 y2 y3) (impl_TakeSleb.l0 (k + 1) y0 y1 y2 y3)) ∧ (∀ y0 y1 y2 y3 y4, LeO (impl_TakeSleb.j2 k y0 y1 y2 y3 y4) (impl_TakeSleb.j2 (k + 1) y0 y1 y2 y3 y4)) ∧ (∀ y0 y1 y2 y3 y4 y5, LeO (impl_TakeSleb.j3 k y0 y1 y2 y3 y4 y5) (impl_TakeSleb.j3 (k + 1) y0 y1 y2 y3 y4 y5)) ∧ (∀ y0 y1 y2 y3 y4 y5 y6, LeO (impl_TakeSleb.j4 k y0 y1 y2 y3 y4 y5 y6) (impl_TakeSleb.j4 (k + 1) y0 y1 y2 y3 y4 y5 y6))
 | 0 => ⟨fun _ _ _ r h => by simp [impl_TakeSleb.j0] at h, fun _ _ _ _ r h => by simp [impl_TakeSleb.l0] at h, fun _ _ _ _ _ r h => by simp [impl_TakeSleb.j2] at h, fun _ _ _ _ _ _ r h => by simp [impl_TakeSleb.j3] at h, fun _ _ _ _ _ _ _ r h => by simp [impl_TakeSleb.j4] at h⟩
 | k + 1 => by
  obtain ⟨ih0, ih1, ih2, ih3, ih4⟩ := impl_TakeSleb.mono_l k
  refine ⟨?_, ?_, ?_, ?_, ?_⟩
  ·
   intro y0 y1 y2
   unfold impl_TakeSleb.j0
   repeat' first
   | (with_reducible exact ih0 _ _ _)
   | (with_reducible exact ih1 _ _ _ _)
   | (with_reducible exact ih2 _ _ _ _ _)
   | (with_reducible exact ih3 _ _ _ _ _ _)
   | (with_reducible exact ih4 _ _ _ _ _ _ _)
   | (with_reducible exact LeO.refl _)
   | (with_reducible exact LeO.none _)
   | (with_reducible refine LeO.ite ?_ ?_)
   | (with_reducible refine LeO.bind ?_ (fun _ => ?_))
   | exact ih0 _ _ _
   | exact ih1 _ _ _ _
   | exact ih2 _ _ _ _ _
   | exact ih3 _ _ _ _ _ _
   | exact ih4 _ _ _ _ _ _ _
   | exact LeO.none _
   | refine LeO.ite ?_ ?_
   | refine LeO.bind ?_ (fun _ => ?_)
  ·
   intro y0 y1 y2 y3
   unfold impl_TakeSleb.l0
   repeat' first
   | (with_reducible exact ih0 _ _ _)
   | (with_reducible exact ih1 _ _ _ _)
   | (with_reducible exact ih2 _ _ _ _ _)
   | (with_reducible exact ih3 _ _ _ _ _ _)
   | (with_reducible exact ih4 _ _ _ _ _ _ _)
   | (with_reducible exact LeO.refl _)
   | (with_reducible exact LeO.none _)
   | (with_reducible refine LeO.ite ?_ ?_)
   | (with_reducible refine LeO.bind ?_ (fun _ => ?_))
   | exact ih0 _ _ _
   | exact ih1 _ _ _ _
   | exact ih2 _ _ _ _ _
   | exact ih3 _ _ _ _ _ _
   | exact ih4 _ _ _ _ _ _ _
   | exact LeO.none _
   | refine LeO.ite ?_ ?_
   | refine LeO.bind ?_ (fun _ => ?_)
  ·
   intro y0 y1 y2 y3 y4
   unfold impl_TakeSleb.j2
   repeat' first
   | (with_reducible exact ih0 _ _ _)
   | (with_reducible exact ih1 _ _ _ _)
   | (with_reducible exact ih2 _ _ _ _ _)
   | (with_reducible exact ih3 _ _ _ _ _ _)
   | (with_reducible exact ih4 _ _ _ _ _ _ _)
   | (with_reducible exact LeO.refl _)
   | (with_reducible exact LeO.none _)
   | (with_reducible refine LeO.ite ?_ ?_)
   | (with_reducible refine LeO.bind ?_ (fun _ => ?_))
   | exact ih0 _ _ _
   | exact ih1 _ _ _ _
   | exact ih2 _ _ _ _ _
   | exact ih3 _ _ _ _ _ _
   | exact ih4 _ _ _ _ _ _ _
   | exact LeO.none _
   | refine LeO.ite ?_ ?_
   | refine LeO.bind ?_ (fun _ => ?_)
  ·
   intro y0 y1 y2 y3 y4 y5
   unfold impl_TakeSleb.j3
   repeat' first
   | (with_reducible exact ih0 _ _ _)
   | (with_reducible exact ih1 _ _ _ _)
   | (with_reducible exact ih2 _ _ _ _ _)
   | (with_reducible exact ih3 _ _ _ _ _ _)
   | (with_reducible exact ih4 _ _ _ _ _ _ _)
   | (with_reducible exact LeO.refl _)
   | (with_reducible exact LeO.none _)
   | (with_reducible refine LeO.ite ?_ ?_)
   | (with_reducible refine LeO.bind ?_ (fun _ => ?_))
   | exact ih0 _ _ _
   | exact ih1 _ _ _ _
   | exact ih2 _ _ _ _ _
   | exact ih3 _ _ _ _ _ _
   | exact ih4 _ _ _ _ _ _ _
   | exact LeO.none _
   | refine LeO.ite ?_ ?_
   | refine LeO.bind ?_ (fun _ => ?_)
  ·
   intro y0 y1 y2 y3 y4 y5 y6
   unfold impl_TakeSleb.j4
   repeat' first
   | (with_reducible exact ih0 _ _ _)
   | (with_reducible exact ih1 _ _ _ _)
   | (with_reducible exact ih2 _ _ _ _ _)
   | (with_reducible exact ih3 _ _ _ _ _ _)
   | (with_reducible exact ih4 _ _ _ _ _ _ _)
   | (with_reducible exact LeO.refl _)
   | (with_reducible exact LeO.none _)
   | (with_reducible refine LeO.ite ?_ ?_)
   | (with_reducible refine LeO.bind ?_ (fun _ => ?_))
   | exact ih0 _ _ _
   | exact ih1 _ _ _ _
   | exact ih2 _ _ _ _ _
   | exact ih3 _ _ _ _ _ _
   | exact ih4 _ _ _ _ _ _ _
   | exact LeO.none _
   | refine LeO.ite ?_ ?_
   | refine LeO.bind ?_ (fun _ => ?_)
set_option maxHeartbeats 8000000 in
set_option maxRecDepth 100000 in
theorem impl_TakeSleb.calls (k : Nat) (a0 : ByteArray) (a1 : Int) (r1 : Int) (r2 : Int) (w : World) (h : impl_TakeSleb.f k a0 a1 = some (r1, r2)) :
  Calls Try.prog 63 #[.string a0, .int .i64 a1] w fun e w' => e = .returned (.tuple #[.int .i64 r1, .int .i64 r2]) ∧ Drawn0 w w' := by
 have H : (if a1 < 1 then (impl_TakeSleb.j0 k a0 a1 true) else (impl_TakeSleb.j0 k a0 a1 (decide (a1 > 64)))) = some (r1, r2) := h
 clear h
 have HC3 := Aside0.mk H
 clear H
 go_enter Try.func63, Try.ntmps63
 go_upto_region 1 with (fail)
 go_cut [16] (fun v16 wc => ∃ (kq : Nat) (x16_2 : Bool), v16 = .bool x16_2 ∧ Aside0 (impl_TakeSleb.j0 kq a0 a1 x16_2 = some (r1, r2)) ∧ Aside0 (kq ≤ k) ∧ Drawn0 w wc)
 case first =>
  have H := HC3.out
  clear HC3
  by_cases c4 : a1 < 1
  ·
   rw [if_pos c4] at H
   have c4b0 : decide (a1 < 1) = true := decide_eq_true c4
   clear c4
   (first | rw [c4b0] | (simp only [i64_w, i32_w]; rw [c4b0]) | skip)
   have H' := Aside0.mk H
   clear H
   go_wp2
   go_meet
   case rel => exact ⟨_, (true), (by first | rfl | (simp; done) | (simp [*]; done)), H', ⟨by first | omega | exact Nat.le_refl _⟩, dr_⟩
  ·
   rw [if_neg c4] at H
   have c4b0 : decide (a1 < 1) = false := decide_eq_false c4
   clear c4
   (first | rw [c4b0] | (simp only [i64_w, i32_w]; rw [c4b0]) | skip)
   have H' := Aside0.mk H
   clear H
   go_wp2
   go_meet
   case rel => exact ⟨_, (decide (a1 > 64)), (by first | rfl | (simp; done) | (simp [*]; done)), H', ⟨by first | omega | exact Nat.le_refl _⟩, dr_⟩
 case rest =>
  clear HC3
  obtain ⟨kq, x16_2, rfl, HA, HJ2, ⟨mc2, rfl⟩⟩ := hcut
  cases kq with
  | zero => exact absurd HA.out (by simp [impl_TakeSleb.j0])
  | succ kj2 =>
   have H := HA.out
   clear HA
   simp only [impl_TakeSleb.j0] at H
   by_cases c5 : x16_2 = true
   ·
    subst c5
    have H1 : (some (0, 0)) = some (r1, r2) := by rw [if_pos rfl] at H; exact H
    clear H
    have H := H1
    clear H1
    simp only [Option.some.injEq, Prod.mk.injEq] at H
    obtain ⟨rfl, rfl⟩ := H
    go_wp2
    go_ret2
    exact ⟨by first | rfl | (simp; done) | (simp [*]; done), dr_⟩
   ·
    replace c5 := Bool.eq_false_iff.mpr c5
    subst c5
    have H1 : (impl_TakeSleb.l0 kj2 a0 a1 0 0) = some (r1, r2) := by rw [if_neg (show ¬ (false = true) by decide)] at H; exact H
    clear H
    have H := H1
    clear H1
    have H' := Aside0.mk H
    clear H
    go_wp2
    (try simp only [Act.put, List.setIfInBounds_toArray, List.set_cons_zero, List.set_cons_succ])
    go_loopg [6, 7] kj2 (fun kq v6 v7 w' => ∃ (x6_2 : Int) (x7_2 : Int), v6 = .int .i64 x6_2 ∧ v7 = .int .i64 x7_2 ∧ Aside0 (impl_TakeSleb.l0 kq a0 a1 x6_2 x7_2 = some (r1, r2)) ∧ Aside0 (kq ≤ kj2) ∧ Drawn0 w w')
    case atStart => exact ⟨(0), (0), (by first | rfl | (simp; done) | (simp [*]; done)), (by first | rfl | (simp; done) | (simp [*]; done)), H', ⟨Nat.le_refl _⟩, dr_⟩
    case round =>
     clear H'
     try clear c5
     obtain ⟨x6_2, x7_2, rfl, rfl, HA, HK2, ⟨m2, rfl⟩⟩ := hrel
     cases gk with
     | zero => exact absurd HA.out (by simp [impl_TakeSleb.l0])
     | succ k2 =>
      have H := HA.out
      clear HA
      simp only [impl_TakeSleb.l0] at H
      have HC6 := Aside0.mk H
      clear H
      go_upto_region 5 with (fail)
      go_cut [27] (fun v27 wc => ∃ (kq : Nat) (x27_5 : Bool), v27 = .bool x27_5 ∧ Aside0 (impl_TakeSleb.j2 kq a0 a1 x6_2 x7_2 x27_5 = some (r1, r2)) ∧ Aside0 (kq ≤ k2) ∧ Drawn0 w wc)
      case first =>
       have H := HC6.out
       clear HC6
       by_cases c7 : x7_2 < (a0.size : Int)
       ·
        rw [if_pos c7] at H
        have c7b0 : decide (x7_2 < (a0.size : Int)) = true := decide_eq_true c7
        clear c7
        (first | rw [c7b0] | (simp only [i64_w, i32_w]; rw [c7b0]) | skip)
        have H' := Aside0.mk H
        clear H
        go_wp2
        go_meet
        case rel => exact ⟨_, (decide (x7_2 < (wrap64 (Int.tdiv (wrap64 (a1 + 6)) 7)))), (by first | rfl | (simp; done) | (simp [*]; done)), H', ⟨by have := HJ2.out; have := HK2.out; first | omega | exact Nat.le_refl _⟩, dr_⟩
       ·
        rw [if_neg c7] at H
        have c7b0 : decide (x7_2 < (a0.size : Int)) = false := decide_eq_false c7
        clear c7
        (first | rw [c7b0] | (simp only [i64_w, i32_w]; rw [c7b0]) | skip)
        have H' := Aside0.mk H
        clear H
        go_wp2
        go_meet
        case rel => exact ⟨_, (false), (by first | rfl | (simp; done) | (simp [*]; done)), H', ⟨by have := HJ2.out; have := HK2.out; first | omega | exact Nat.le_refl _⟩, dr_⟩
      case rest =>
       clear HC6
       try clear c5
       obtain ⟨kq, x27_5, rfl, HA, HJ5, ⟨mc5, rfl⟩⟩ := hcut
       cases kq with
       | zero => exact absurd HA.out (by simp [impl_TakeSleb.j2])
       | succ kj5 =>
        have H := HA.out
        clear HA
        simp only [impl_TakeSleb.j2] at H
        by_cases c8 : x27_5 = true
        ·
         subst c8
         have H1 : (if 0 ≤ x7_2 then (if x7_2 < (a0.size : Int) then (if (wrap64 (Go.bits .and .u8 (bt a0 x7_2) 127)) ≥ 64 then (impl_TakeSleb.j3 kj5 a0 a1 x6_2 x7_2 (wrap64 (Go.bits .and .u8 (bt a0 x7_2) 127)) (wrap64 ((wrap64 (Go.bits .and .u8 (bt a0 x7_2) 127)) - 128))) else (impl_TakeSleb.j3 kj5 a0 a1 x6_2 x7_2 (wrap64 (Go.bits .and .u8 (bt a0 x7_2) 127)) (wrap64 (Go.bits .and .u8 (bt a0 x7_2) 127)))) else (none)) else (none)) = some (r1, r2) := by rw [if_pos rfl] at H; exact H
         clear H
         have H := H1
         clear H1
         by_cases c9 : 0 ≤ x7_2
         ·
          rw [if_pos c9] at H
          have c9b0 : decide (0 ≤ x7_2) = true := decide_eq_true c9
          clear c9
          by_cases c10 : x7_2 < (a0.size : Int)
          ·
           rw [if_pos c10] at H
           have c10b0 : decide (x7_2 < (a0.size : Int)) = true := decide_eq_true c10
           clear c10
           have HC12 := Aside0.mk H
           clear H
           have p11 : 0 ≤ (x7_2 : Int) := od_
           have q11 : x7_2 < (a0.size : Int) := od_
           have hx11 := bt_at a0 x7_2
           replace p11 := eq_true p11
           replace q11 := eq_true q11
           go_upto_if 37 with (fail)
           go_cut [9] (fun v9 wc => ∃ (kq : Nat) (x9_11 : Int), v9 = .int .i64 x9_11 ∧ Aside0 (impl_TakeSleb.j3 kq a0 a1 x6_2 x7_2 (wrap64 (Go.bits .and .u8 (bt a0 x7_2) 127)) x9_11 = some (r1, r2)) ∧ Aside0 (kq ≤ kj5) ∧ Drawn0 w wc)
           case first =>
            have H := HC12.out
            clear HC12
            by_cases c13 : (wrap64 (Go.bits .and .u8 (bt a0 x7_2) 127)) ≥ 64
            ·
             rw [if_pos c13] at H
             have c13b0 : decide (64 ≤ (wrap64 (Go.bits .and .u8 (bt a0 x7_2) 127))) = true := decide_eq_true c13
             clear c13
             (first | rw [c13b0] | (simp only [i64_w, i32_w]; rw [c13b0]) | skip)
             have H' := Aside0.mk H
             clear H
             go_wp2
             go_meet
             case rel => exact ⟨_, (wrap64 ((wrap64 (Go.bits .and .u8 (bt a0 x7_2) 127)) - 128)), (by first | rfl | (simp; done) | (simp [*]; done)), H', ⟨by have := HJ2.out; have := HK2.out; have := HJ5.out; first | omega | exact Nat.le_refl _⟩, dr_⟩
            ·
             rw [if_neg c13] at H
             have c13b0 : decide (64 ≤ (wrap64 (Go.bits .and .u8 (bt a0 x7_2) 127))) = false := decide_eq_false c13
             clear c13
             (first | rw [c13b0] | (simp only [i64_w, i32_w]; rw [c13b0]) | skip)
             have H' := Aside0.mk H
             clear H
             go_wp2
             go_meet
             case rel => exact ⟨_, (wrap64 (Go.bits .and .u8 (bt a0 x7_2) 127)), (by first | rfl | (simp; done) | (simp [*]; done)), H', ⟨by have := HJ2.out; have := HK2.out; have := HJ5.out; first | omega | exact Nat.le_refl _⟩, dr_⟩
           case rest =>
            clear HC12
            try clear c5
            try clear c8
            try clear c9
            try clear c9b0
            try clear c10
            try clear c10b0
            try clear p11
            try clear q11
            try clear hx11
            try clear p11
            try clear q11
            obtain ⟨kq, x9_11, rfl, HA, HJ11, ⟨mc11, rfl⟩⟩ := hcut
            cases kq with
            | zero => exact absurd HA.out (by simp [impl_TakeSleb.j3])
            | succ kj11 =>
             have H := HA.out
             clear HA
             simp only [impl_TakeSleb.j3] at H
             have HC14 := Aside0.mk H
             clear H
             go_upto_region 12 with (fail)
             go_cut [59] (fun v59 wc => ∃ (kq : Nat) (x59_13 : Bool), v59 = .bool x59_13 ∧ Aside0 (impl_TakeSleb.j4 kq a0 a1 x6_2 x7_2 (wrap64 (Go.bits .and .u8 (bt a0 x7_2) 127)) x9_11 x59_13 = some (r1, r2)) ∧ Aside0 (kq ≤ kj11) ∧ Drawn0 w wc)
             case first =>
              have H := HC14.out
              clear HC14
              by_cases c15 : (wrap64 (a1 - (wrap64 (7 * x7_2)))) < 7
              ·
               rw [if_pos c15] at H
               have c15b0 : decide ((wrap64 (a1 - (wrap64 (7 * x7_2)))) < 7) = true := decide_eq_true c15
               clear c15
               (first | rw [c15b0] | (simp only [i64_w, i32_w]; rw [c15b0]) | skip)
               obtain ⟨ji16, hji16⟩ : ∃ j_ : Int, (wrap64 ((wrap64 (a1 - (wrap64 (7 * x7_2)))) - 1)) = j_ := ⟨_, rfl⟩
               replace H : (if 0 ≤ (ji16) then (if (shr .i64 x9_11 (ji16)) = 0 then (impl_TakeSleb.j4 kj11 a0 a1 x6_2 x7_2 (wrap64 (Go.bits .and .u8 (bt a0 x7_2) 127)) x9_11 false) else (impl_TakeSleb.j4 kj11 a0 a1 x6_2 x7_2 (wrap64 (Go.bits .and .u8 (bt a0 x7_2) 127)) x9_11 ((shr .i64 x9_11 (ji16)) != (-1)))) else (none)) = some (r1, r2) := by first | (rw [hji16] at H; exact H) | (simp only [hji16] at H ⊢; exact H)
               have hji16w : (IntKind.i64.wrap ((wrap64 (a1 - (wrap64 (7 * x7_2)))) - 1)) = ji16 := (i64_w _).trans hji16
               by_cases c17 : 0 ≤ (ji16)
               ·
                rw [if_pos c17] at H
                have c17b0 := eq_true c17
                have c17b1 : decide (0 ≤ (ji16)) = true := decide_eq_true c17
                clear c17
                obtain ⟨ji18, hji18⟩ : ∃ j_ : Int, (shr .i64 x9_11 (ji16)) = j_ := ⟨_, rfl⟩
                replace H : (if (ji18) = 0 then (impl_TakeSleb.j4 kj11 a0 a1 x6_2 x7_2 (wrap64 (Go.bits .and .u8 (bt a0 x7_2) 127)) x9_11 false) else (impl_TakeSleb.j4 kj11 a0 a1 x6_2 x7_2 (wrap64 (Go.bits .and .u8 (bt a0 x7_2) 127)) x9_11 ((ji18) != (-1)))) = some (r1, r2) := by first | (rw [hji18] at H; exact H) | (simp only [hji18] at H ⊢; exact H)
                have hji18_ : (x9_11 / 2 ^ min (ji16).toNat 64) = ji18 := hji18
                have hji18z : (ji16) ≤ 64 → (x9_11 / 2 ^ (ji16).toNat) = ji18 := shr_small hji18
                by_cases c19 : (ji18) = 0
                ·
                 rw [if_pos c19] at H
                 have c19b0 : ((ji18) == 0) = true := beq_iff_eq.mpr c19
                 have c19b1 : ((ji18) != 0) = false := bne_eq_false_iff_eq.mpr c19
                 clear c19
                 have H' := Aside0.mk H
                 clear H
                 go_wp2
                 first | go_meet | ((simp only [← hji18]); go_meet) | ((simp only [← hji16]); go_meet) | ((simp only [← hji18, ← hji16]); go_meet)
                 case rel => exact ⟨_, (false), (by first | rfl | (simp; done) | (simp [*]; done)), H', ⟨by have := HJ2.out; have := HK2.out; have := HJ5.out; have := HJ11.out; first | omega | exact Nat.le_refl _⟩, dr_⟩
                ·
                 rw [if_neg c19] at H
                 have c19b0 : ((ji18) == 0) = false := beq_eq_false_iff_ne.mpr c19
                 have c19b1 : ((ji18) != 0) = true := bne_iff_ne.mpr c19
                 have c20b0 := eq_true (od_ : 0 ≤ (ji16))
                 have H' := Aside0.mk H
                 clear H
                 go_wp2
                 first | go_meet | ((simp only [← hji18]); go_meet) | ((simp only [← hji16]); go_meet) | ((simp only [← hji18, ← hji16]); go_meet)
                 case rel => exact ⟨_, (((ji18) != (-1))), (by first | rfl | (simp; done) | (simp only [← hji18] <;> (first | rfl | simp)) | (simp [*]; done)), H', ⟨by have := HJ2.out; have := HK2.out; have := HJ5.out; have := HJ11.out; first | omega | exact Nat.le_refl _⟩, dr_⟩
               ·
                rw [if_neg c17] at H
                exact absurd H (by simp)
              ·
               rw [if_neg c15] at H
               have c15b0 : decide ((wrap64 (a1 - (wrap64 (7 * x7_2)))) < 7) = false := decide_eq_false c15
               clear c15
               (first | rw [c15b0] | (simp only [i64_w, i32_w]; rw [c15b0]) | skip)
               have H' := Aside0.mk H
               clear H
               go_wp2
               go_meet
               case rel => exact ⟨_, (false), (by first | rfl | (simp; done) | (simp [*]; done)), H', ⟨by have := HJ2.out; have := HK2.out; have := HJ5.out; have := HJ11.out; first | omega | exact Nat.le_refl _⟩, dr_⟩
             case rest =>
              clear HC14
              try clear c5
              try clear c8
              try clear c9
              try clear c9b0
              try clear c10
              try clear c10b0
              try clear p11
              try clear q11
              try clear hx11
              try clear p11
              try clear q11
              obtain ⟨kq, x59_13, rfl, HA, HJ13, ⟨mc13, rfl⟩⟩ := hcut
              cases kq with
              | zero => exact absurd HA.out (by simp [impl_TakeSleb.j4])
              | succ kj13 =>
               have H := HA.out
               clear HA
               simp only [impl_TakeSleb.j4] at H
               by_cases c21 : x59_13 = true
               ·
                subst c21
                have H1 : (some (0, 0)) = some (r1, r2) := by rw [if_pos rfl] at H; exact H
                clear H
                have H := H1
                clear H1
                simp only [Option.some.injEq, Prod.mk.injEq] at H
                obtain ⟨rfl, rfl⟩ := H
                go_wp2
                go_ret2
                exact ⟨by first | rfl | (simp; done) | (simp [*]; done), dr_⟩
               ·
                replace c21 := Bool.eq_false_iff.mpr c21
                subst c21
                have H1 : (if 0 ≤ x7_2 then (if x7_2 < (a0.size : Int) then (if (bt a0 x7_2) < 128 then (if 0 ≤ (wrap64 (7 * x7_2)) then (some (Go.bits .or .i64 x6_2 (shl .i64 x9_11 (wrap64 (7 * x7_2))), wrap64 (x7_2 + 1))) else (none)) else (if 0 ≤ (wrap64 (7 * x7_2)) then (impl_TakeSleb.l0 kj13 a0 a1 (Go.bits .or .i64 x6_2 (shl .i64 (wrap64 (Go.bits .and .u8 (bt a0 x7_2) 127)) (wrap64 (7 * x7_2)))) (wrap64 (x7_2 + 1))) else (none))) else (none)) else (none)) = some (r1, r2) := by rw [if_neg (show ¬ (false = true) by decide)] at H; exact H
                clear H
                have H := H1
                clear H1
                by_cases c22 : 0 ≤ x7_2
                ·
                 rw [if_pos c22] at H
                 have c22b0 : decide (0 ≤ x7_2) = true := decide_eq_true c22
                 clear c22
                 by_cases c23 : x7_2 < (a0.size : Int)
                 ·
                  rw [if_pos c23] at H
                  have c23b0 : decide (x7_2 < (a0.size : Int)) = true := decide_eq_true c23
                  clear c23
                  by_cases c25 : (bt a0 x7_2) < 128
                  ·
                   rw [if_pos c25] at H
                   have c25b0 : decide ((bt a0 x7_2) < 128) = true := decide_eq_true c25
                   clear c25
                   obtain ⟨ji26, hji26⟩ : ∃ j_ : Int, (wrap64 (7 * x7_2)) = j_ := ⟨_, rfl⟩
                   replace H : (if 0 ≤ (ji26) then (some (Go.bits .or .i64 x6_2 (shl .i64 x9_11 (ji26)), wrap64 (x7_2 + 1))) else (none)) = some (r1, r2) := by first | (rw [hji26] at H; exact H) | (simp only [hji26] at H ⊢; exact H)
                   have hji26w : (IntKind.i64.wrap (7 * x7_2)) = ji26 := (i64_w _).trans hji26
                   by_cases c27 : 0 ≤ (ji26)
                   ·
                    rw [if_pos c27] at H
                    have c27b0 := eq_true c27
                    have c27b1 : decide (0 ≤ (ji26)) = true := decide_eq_true c27
                    clear c27
                    obtain ⟨ji28, hji28⟩ : ∃ j_ : Int, (shl .i64 x9_11 (ji26)) = j_ := ⟨_, rfl⟩
                    replace H : (some (Go.bits .or .i64 x6_2 (ji28), wrap64 (x7_2 + 1))) = some (r1, r2) := by first | (rw [hji28] at H; exact H) | (simp only [hji28] at H ⊢; exact H)
                    have hji28_ : (IntKind.i64.wrap (x9_11 * 2 ^ min (ji26).toNat 64)) = ji28 := hji28
                    have hji28z : (ji26) ≤ 64 → (IntKind.i64.wrap (x9_11 * 2 ^ (ji26).toNat)) = ji28 := shl_small hji28
                    have hji28y : (wrap64 (x9_11 * 2 ^ min (ji26).toNat 64)) = ji28 := (i64_w _).symm.trans hji28_
                    have hji28x : (ji26) ≤ 64 → (wrap64 (x9_11 * 2 ^ (ji26).toNat)) = ji28 := fun h_ => (i64_w _).symm.trans (hji28z h_)
                    simp only [Option.some.injEq, Prod.mk.injEq] at H
                    obtain ⟨rfl, rfl⟩ := H
                    have p24 : 0 ≤ (x7_2 : Int) := od_
                    have q24 : x7_2 < (a0.size : Int) := od_
                    have hx24 := bt_at a0 x7_2
                    replace p24 := eq_true p24
                    replace q24 := eq_true q24
                    go_wp2
                    go_ret2
                    exact ⟨by first | rfl | (simp; done) | (simp only [← hji26, ← hji28] <;> (first | rfl | simp)) | (simp [*]; done), dr_⟩
                   ·
                    rw [if_neg c27] at H
                    exact absurd H (by simp)
                  ·
                   rw [if_neg c25] at H
                   have c25b0 : decide ((bt a0 x7_2) < 128) = false := decide_eq_false c25
                   clear c25
                   obtain ⟨ji29, hji29⟩ : ∃ j_ : Int, (wrap64 (7 * x7_2)) = j_ := ⟨_, rfl⟩
                   replace H : (if 0 ≤ (ji29) then (impl_TakeSleb.l0 kj13 a0 a1 (Go.bits .or .i64 x6_2 (shl .i64 (wrap64 (Go.bits .and .u8 (bt a0 x7_2) 127)) (ji29))) (wrap64 (x7_2 + 1))) else (none)) = some (r1, r2) := by first | (rw [hji29] at H; exact H) | (simp only [hji29] at H ⊢; exact H)
                   have hji29w : (IntKind.i64.wrap (7 * x7_2)) = ji29 := (i64_w _).trans hji29
                   by_cases c30 : 0 ≤ (ji29)
                   ·
                    rw [if_pos c30] at H
                    have c30b0 := eq_true c30
                    have c30b1 : decide (0 ≤ (ji29)) = true := decide_eq_true c30
                    clear c30
                    obtain ⟨ji31, hji31⟩ : ∃ j_ : Int, (shl .i64 (wrap64 (Go.bits .and .u8 (bt a0 x7_2) 127)) (ji29)) = j_ := ⟨_, rfl⟩
                    replace H : (impl_TakeSleb.l0 kj13 a0 a1 (Go.bits .or .i64 x6_2 (ji31)) (wrap64 (x7_2 + 1))) = some (r1, r2) := by first | (rw [hji31] at H; exact H) | (simp only [hji31] at H ⊢; exact H)
                    have hji31_ : (IntKind.i64.wrap ((wrap64 (Go.bits .and .u8 (bt a0 x7_2) 127)) * 2 ^ min (ji29).toNat 64)) = ji31 := hji31
                    have hji31z : (ji29) ≤ 64 → (IntKind.i64.wrap ((wrap64 (Go.bits .and .u8 (bt a0 x7_2) 127)) * 2 ^ (ji29).toNat)) = ji31 := shl_small hji31
                    have hji31y : (wrap64 ((wrap64 (Go.bits .and .u8 (bt a0 x7_2) 127)) * 2 ^ min (ji29).toNat 64)) = ji31 := (i64_w _).symm.trans hji31_
                    have hji31x : (ji29) ≤ 64 → (wrap64 ((wrap64 (Go.bits .and .u8 (bt a0 x7_2) 127)) * 2 ^ (ji29).toNat)) = ji31 := fun h_ => (i64_w _).symm.trans (hji31z h_)
                    have H' := Aside0.mk H
                    clear H
                    have p24 : 0 ≤ (x7_2 : Int) := od_
                    have q24 : x7_2 < (a0.size : Int) := od_
                    have hx24 := bt_at a0 x7_2
                    replace p24 := eq_true p24
                    replace q24 := eq_true q24
                    go_wp2
                    go_roundg kj13
                    case measure => have := HJ2.out; have := HK2.out; have := HJ5.out; have := HJ11.out; have := HJ13.out; omega
                    case rel => exact ⟨(Go.bits .or .i64 x6_2 (ji31)), (wrap64 (x7_2 + 1)), (by first | rfl | (simp; done) | (simp only [← hji31] <;> (first | rfl | simp)) | (simp [*]; done)), (by first | rfl | (simp; done) | (simp [*]; done)), H', ⟨by have := HJ2.out; have := HK2.out; have := HJ5.out; have := HJ11.out; have := HJ13.out; omega⟩, dr_⟩
                   ·
                    rw [if_neg c30] at H
                    exact absurd H (by simp)
                 ·
                  rw [if_neg c23] at H
                  exact absurd H (by simp)
                ·
                 rw [if_neg c22] at H
                 exact absurd H (by simp)
          ·
           rw [if_neg c10] at H
           exact absurd H (by simp)
         ·
          rw [if_neg c9] at H
          exact absurd H (by simp)
        ·
         replace c8 := Bool.eq_false_iff.mpr c8
         subst c8
         have H1 : (some (0, 0)) = some (r1, r2) := by rw [if_neg (show ¬ (false = true) by decide)] at H; exact H
         clear H
         have H := H1
         clear H1
         simp only [Option.some.injEq, Prod.mk.injEq] at H
         obtain ⟨rfl, rfl⟩ := H
         go_wp2
         go_ret2
         exact ⟨by first | rfl | (simp; done) | (simp [*]; done), dr_⟩


/-! ### impl_number: function 64 -/
def impl_number.l0 : Nat → ByteArray → Int → Int → Option (Int)
 | 0, _, _, _ => none
 | k + 1, x0, x3, x4 => if x4 ≥ 0 then (if 0 ≤ x4 then (if x4 < (x0.size : Int) then (impl_number.l0 k x0 (Go.bits .or .u64 (IntKind.u64.wrap (x3 * 256)) (IntKind.u64.wrap (bt x0 x4))) (wrap64 (x4 - 1))) else (none)) else (none)) else (some x3)
def impl_number.f (k : Nat) (a0 : ByteArray) : Option (Int) := impl_number.l0 k a0 0 (wrap64 ((a0.size : Int) - 1))
set_option maxHeartbeats 8000000 in
set_option maxRecDepth 100000 in
theorem impl_number.calls (k : Nat) (a0 : ByteArray) (r : Int) (w : World) (h : impl_number.f k a0 = some r) :
  Calls Try.prog 64 #[.string a0] w fun e w' => e = .returned (.int .u64 r) ∧ Drawn0 w w' := by
 have H : (impl_number.l0 k a0 0 (wrap64 ((a0.size : Int) - 1))) = some r := h
 clear h
 have H' := Aside0.mk H
 clear H
 go_enter Try.func64, Try.ntmps64
 go_wp2
 (try simp only [Act.put, List.setIfInBounds_toArray, List.set_cons_zero, List.set_cons_succ])
 go_loopg [3, 4] k (fun kq v3 v4 w' => ∃ (x3_1 : Int) (x4_1 : Int), v3 = .int .u64 x3_1 ∧ v4 = .int .i64 x4_1 ∧ Aside0 (impl_number.l0 kq a0 x3_1 x4_1 = some r) ∧ Aside0 (kq ≤ k) ∧ Drawn0 w w')
 case atStart => exact ⟨(0), (wrap64 ((a0.size : Int) - 1)), (by first | rfl | (simp; done) | (simp [*]; done)), (by first | rfl | (simp; done) | (simp [*]; done)), H', ⟨Nat.le_refl _⟩, dr_⟩
 case round =>
  clear H'
  obtain ⟨x3_1, x4_1, rfl, rfl, HA, HK1, ⟨m1, rfl⟩⟩ := hrel
  cases gk with
  | zero => exact absurd HA.out (by simp [impl_number.l0])
  | succ k1 =>
   have H := HA.out
   clear HA
   simp only [impl_number.l0] at H
   by_cases c2 : x4_1 ≥ 0
   ·
    rw [if_pos c2] at H
    have c2b0 : decide (0 ≤ x4_1) = true := decide_eq_true c2
    clear c2
    by_cases c3 : 0 ≤ x4_1
    ·
     rw [if_pos c3] at H
     have c3b0 : decide (0 ≤ x4_1) = true := decide_eq_true c3
     clear c3
     by_cases c4 : x4_1 < (a0.size : Int)
     ·
      rw [if_pos c4] at H
      have c4b0 : decide (x4_1 < (a0.size : Int)) = true := decide_eq_true c4
      clear c4
      have H' := Aside0.mk H
      clear H
      have p5 : 0 ≤ (x4_1 : Int) := od_
      have q5 : x4_1 < (a0.size : Int) := od_
      have hx5 := bt_at a0 x4_1
      replace p5 := eq_true p5
      replace q5 := eq_true q5
      go_wp2
      go_roundg k1
      case measure => have := HK1.out; omega
      case rel => exact ⟨(Go.bits .or .u64 (IntKind.u64.wrap (x3_1 * 256)) (IntKind.u64.wrap (bt a0 x4_1))), (wrap64 (x4_1 - 1)), (by first | rfl | (simp; done) | (simp [*]; done)), (by first | rfl | (simp; done) | (simp [*]; done)), H', ⟨by have := HK1.out; omega⟩, dr_⟩
     ·
      rw [if_neg c4] at H
      exact absurd H (by simp)
    ·
     rw [if_neg c3] at H
     exact absurd H (by simp)
   ·
    rw [if_neg c2] at H
    have c2b0 : decide (0 ≤ x4_1) = false := decide_eq_false c2
    clear c2
    obtain rfl := Option.some.inj H
    simp only [Option.some.injEq, Prod.mk.injEq] at H
    obtain ⟨rfl⟩ := H
    go_wp2
    go_ret
    exact ⟨by first | rfl | (simp; done) | (simp [*]; done), dr_⟩


/-! ### impl_takeA: function 37 -/
def impl_takeA.j0 : Nat → ByteArray → Int → Bool → Option (Int × Int × Bool)
 | 0, _, _, _ => none
 | k + 1, x0, x13, x23 => if x23 = true then ((impl_TakeUleb.f k x0 32).bind fun bt246 => (some (wrap64 (bt246.1), bt246.2, decide (bt246.2 > 0)))) else (if x13 = 5 then ((impl_TakeSleb.f k x0 32).bind fun bt248 => (some (bt248.1, bt248.2, decide (bt248.2 > 0)))) else (if x13 = 6 then ((impl_TakeSleb.f k x0 64).bind fun bt250 => (some (bt250.1, bt250.2, decide (bt250.2 > 0)))) else (if x13 = 7 then (if (x0.size : Int) < 4 then (some (0, 0, false)) else (if 0 ≤ 4 then (if 4 ≤ (x0.size : Int) then ((impl_number.f k (x0.extract 0 4)).bind fun t252 => (some (wrap64 (t252), 4, true))) else (none)) else (none))) else (some (0, 0, false)))))
def impl_takeA.f (k : Nat) (a0 : ByteArray) (a1 : Int) : Option (Int × Int × Bool) := if a1 = 1 then (some (0, 0, true)) else (if a1 = 2 then (if a0.toList = ([] : List UInt8) then (some (0, 0, false)) else (if 0 < (a0.size : Int) then (some (wrap64 (bt a0 0), 1, true)) else (none))) else (if a1 = 3 then (impl_takeA.j0 k a0 a1 (a1 == 3)) else (impl_takeA.j0 k a0 a1 (a1 == 4))))
set_option maxHeartbeats 8000000 in
set_option maxRecDepth 100000 in
theorem impl_takeA.calls (k : Nat) (a0 : ByteArray) (a1 : Int) (r1 : Int) (r2 : Int) (r3 : Bool) (w : World) (h : impl_takeA.f k a0 a1 = some (r1, r2, r3)) :
  Calls Try.prog 37 #[.string a0, .int .i64 a1] w fun e w' => e = .returned (.tuple #[.int .i64 r1, .int .i64 r2, .bool r3]) ∧ Drawn0 w w' := by
 have H : (if a1 = 1 then (some (0, 0, true)) else (if a1 = 2 then (if a0.toList = ([] : List UInt8) then (some (0, 0, false)) else (if 0 < (a0.size : Int) then (some (wrap64 (bt a0 0), 1, true)) else (none))) else (if a1 = 3 then (impl_takeA.j0 k a0 a1 (a1 == 3)) else (impl_takeA.j0 k a0 a1 (a1 == 4))))) = some (r1, r2, r3) := h
 clear h
 by_cases c3 : a1 = 1
 ·
  rw [if_pos c3] at H
  have c3b0 : (a1 == 1) = true := beq_iff_eq.mpr c3
  have c3b1 : (a1 != 1) = false := bne_eq_false_iff_eq.mpr c3
  clear c3
  simp only [Option.some.injEq, Prod.mk.injEq] at H
  obtain ⟨rfl, rfl, rfl⟩ := H
  go_enter Try.func37, Try.ntmps37
  go_wp2
  go_ret3
  exact ⟨by first | rfl | (simp; done) | (simp [*]; done), dr_⟩
 ·
  rw [if_neg c3] at H
  have c3b0 : (a1 == 1) = false := beq_eq_false_iff_ne.mpr c3
  have c3b1 : (a1 != 1) = true := bne_iff_ne.mpr c3
  by_cases c4 : a1 = 2
  ·
   rw [if_pos c4] at H
   have c4b0 : (a1 == 2) = true := beq_iff_eq.mpr c4
   have c4b1 : (a1 != 2) = false := bne_eq_false_iff_eq.mpr c4
   clear c4
   by_cases c5 : a0.toList = ([] : List UInt8)
   ·
    rw [if_pos c5] at H
    have c5b0 : (a0.toList == ([] : List UInt8)) = true := beq_iff_eq.mpr c5
    have c5b1 : (a0.toList != ([] : List UInt8)) = false := bne_eq_false_iff_eq.mpr c5
    clear c5
    simp only [Option.some.injEq, Prod.mk.injEq] at H
    obtain ⟨rfl, rfl, rfl⟩ := H
    go_enter Try.func37, Try.ntmps37
    go_wp2
    go_ret3
    exact ⟨by first | rfl | (simp; done) | (simp [*]; done), dr_⟩
   ·
    rw [if_neg c5] at H
    have c5b0 : (a0.toList == ([] : List UInt8)) = false := beq_eq_false_iff_ne.mpr c5
    have c5b1 : (a0.toList != ([] : List UInt8)) = true := bne_iff_ne.mpr c5
    by_cases c6 : 0 < (a0.size : Int)
    ·
     rw [if_pos c6] at H
     have c6b0 : decide (0 < (a0.size : Int)) = true := decide_eq_true c6
     have c6b1 : decide (0 < a0.size) = true := decide_eq_true (by omega)
     clear c6
     simp only [Option.some.injEq, Prod.mk.injEq] at H
     obtain ⟨rfl, rfl, rfl⟩ := H
     have p7 : 0 ≤ (0 : Int) := (by omega)
     have q7 : 0 < a0.size := (by have : (0 : Int) < (a0.size : Int) := od_; omega)
     have hx7 : ∀ h : 0 < a0.size, ((a0[0]'h).toNat : Int) = bt a0 0 := bt_at a0 0
     clear p7
     have qi7 : (0 < (a0.size : Int)) = True := eq_true (od_)
     replace q7 := eq_true q7
     go_enter Try.func37, Try.ntmps37
     go_wp2
     go_ret3
     exact ⟨by first | rfl | (simp; done) | (simp [*]; done), dr_⟩
    ·
     rw [if_neg c6] at H
     exact absurd H (by simp)
  ·
   rw [if_neg c4] at H
   have c4b0 : (a1 == 2) = false := beq_eq_false_iff_ne.mpr c4
   have c4b1 : (a1 != 2) = true := bne_iff_ne.mpr c4
   have HC8 := Aside0.mk H
   clear H
   go_enter Try.func37, Try.ntmps37
   go_upto_if 23 with (fail)
   go_cut [23] (fun v23 wc => ∃ (kq : Nat) (x23_7 : Bool), v23 = .bool x23_7 ∧ Aside0 (impl_takeA.j0 kq a0 a1 x23_7 = some (r1, r2, r3)) ∧ Aside0 (kq ≤ k) ∧ Drawn0 w wc)
   case first =>
    have H := HC8.out
    clear HC8
    by_cases c9 : a1 = 3
    ·
     rw [if_pos c9] at H
     have c9b0 : (a1 == 3) = true := beq_iff_eq.mpr c9
     have c9b1 : (a1 != 3) = false := bne_eq_false_iff_eq.mpr c9
     clear c9
     (first | rw [c9b0] | (simp only [i64_w, i32_w]; rw [c9b0]) | skip)
     have H' := Aside0.mk H
     clear H
     go_wp2
     go_meet
     case rel => exact ⟨_, ((a1 == 3)), (by first | rfl | (simp; done) | (simp [*]; done)), H', ⟨by first | omega | exact Nat.le_refl _⟩, dr_⟩
    ·
     rw [if_neg c9] at H
     have c9b0 : (a1 == 3) = false := beq_eq_false_iff_ne.mpr c9
     have c9b1 : (a1 != 3) = true := bne_iff_ne.mpr c9
     (first | rw [c9b0] | (simp only [i64_w, i32_w]; rw [c9b0]) | skip)
     have H' := Aside0.mk H
     clear H
     go_wp2
     go_meet
     case rel => exact ⟨_, ((a1 == 4)), (by first | rfl | (simp; done) | (simp [*]; done)), H', ⟨by first | omega | exact Nat.le_refl _⟩, dr_⟩
   case rest =>
    clear HC8
    try clear c3
    try clear c3b0
    try clear c3b1
    try clear c4
    try clear c4b0
    try clear c4b1
    obtain ⟨kq, x23_7, rfl, HA, HJ7, ⟨mc7, rfl⟩⟩ := hcut
    cases kq with
    | zero => exact absurd HA.out (by simp [impl_takeA.j0])
    | succ kj7 =>
     have H := HA.out
     clear HA
     simp only [impl_takeA.j0] at H
     by_cases c10 : x23_7 = true
     ·
      subst c10
      have H1 : ((impl_TakeUleb.f kj7 a0 32).bind fun bt246 => (some (wrap64 (bt246.1), bt246.2, decide (bt246.2 > 0)))) = some (r1, r2, r3) := by rw [if_pos rfl] at H; exact H
      clear H
      have H := H1
      clear H1
      replace H := Option.bind_eq_some_iff.mp H
      obtain ⟨⟨t246, t247⟩, A110, H⟩ := H
      replace H : (some (wrap64 (t246), t247, decide (t247 > 0))) = some (r1, r2, r3) := H
      have A11 := Aside0.mk A110
      clear A110
      simp only [Option.some.injEq, Prod.mk.injEq] at H
      obtain ⟨rfl, rfl, rfl⟩ := H
      go_wp2_with (first | ((with_reducible refine gate_callee (f := 62) rfl ?_); refine goesL_ (some 28) rfl rfl Try.func62 (by kernel_rfl) rfl #[.string a0, .int .i64 32] rfl ar ?_; (with_reducible refine (impl_TakeUleb.calls kj7 a0 32 t246 t247 _ A11.out).mono ?_); rintro e w' ⟨rfl, ⟨nd, rfl⟩⟩; refine ⟨_, rfl, ?_⟩))
      go_ret3
      exact ⟨by first | rfl | (simp; done) | (simp [*]; done), dr_⟩
     ·
      replace c10 := Bool.eq_false_iff.mpr c10
      subst c10
      have H1 : (if a1 = 5 then ((impl_TakeSleb.f kj7 a0 32).bind fun bt248 => (some (bt248.1, bt248.2, decide (bt248.2 > 0)))) else (if a1 = 6 then ((impl_TakeSleb.f kj7 a0 64).bind fun bt250 => (some (bt250.1, bt250.2, decide (bt250.2 > 0)))) else (if a1 = 7 then (if (a0.size : Int) < 4 then (some (0, 0, false)) else (if 0 ≤ 4 then (if 4 ≤ (a0.size : Int) then ((impl_number.f kj7 (a0.extract 0 4)).bind fun t252 => (some (wrap64 (t252), 4, true))) else (none)) else (none))) else (some (0, 0, false))))) = some (r1, r2, r3) := by rw [if_neg (show ¬ (false = true) by decide)] at H; exact H
      clear H
      have H := H1
      clear H1
      by_cases c12 : a1 = 5
      ·
       rw [if_pos c12] at H
       have c12b0 : (a1 == 5) = true := beq_iff_eq.mpr c12
       have c12b1 : (a1 != 5) = false := bne_eq_false_iff_eq.mpr c12
       clear c12
       replace H := Option.bind_eq_some_iff.mp H
       obtain ⟨⟨t248, t249⟩, A130, H⟩ := H
       replace H : (some (t248, t249, decide (t249 > 0))) = some (r1, r2, r3) := H
       have A13 := Aside0.mk A130
       clear A130
       simp only [Option.some.injEq, Prod.mk.injEq] at H
       obtain ⟨rfl, rfl, rfl⟩ := H
       go_wp2_with (first | ((with_reducible refine gate_callee (f := 63) rfl ?_); refine goesL_ (some 40) rfl rfl Try.func63 (by kernel_rfl) rfl #[.string a0, .int .i64 32] rfl ar ?_; (with_reducible refine (impl_TakeSleb.calls kj7 a0 32 t248 t249 _ A13.out).mono ?_); rintro e w' ⟨rfl, ⟨nd, rfl⟩⟩; refine ⟨_, rfl, ?_⟩))
       go_ret3
       exact ⟨by first | rfl | (simp; done) | (simp [*]; done), dr_⟩
      ·
       rw [if_neg c12] at H
       have c12b0 : (a1 == 5) = false := beq_eq_false_iff_ne.mpr c12
       have c12b1 : (a1 != 5) = true := bne_iff_ne.mpr c12
       by_cases c14 : a1 = 6
       ·
        rw [if_pos c14] at H
        have c14b0 : (a1 == 6) = true := beq_iff_eq.mpr c14
        have c14b1 : (a1 != 6) = false := bne_eq_false_iff_eq.mpr c14
        clear c14
        replace H := Option.bind_eq_some_iff.mp H
        obtain ⟨⟨t250, t251⟩, A150, H⟩ := H
        replace H : (some (t250, t251, decide (t251 > 0))) = some (r1, r2, r3) := H
        have A15 := Aside0.mk A150
        clear A150
        simp only [Option.some.injEq, Prod.mk.injEq] at H
        obtain ⟨rfl, rfl, rfl⟩ := H
        go_wp2_with (first | ((with_reducible refine gate_callee (f := 63) rfl ?_); refine goesL_ (some 51) rfl rfl Try.func63 (by kernel_rfl) rfl #[.string a0, .int .i64 64] rfl ar ?_; (with_reducible refine (impl_TakeSleb.calls kj7 a0 64 t250 t251 _ A15.out).mono ?_); rintro e w' ⟨rfl, ⟨nd, rfl⟩⟩; refine ⟨_, rfl, ?_⟩))
        go_ret3
        exact ⟨by first | rfl | (simp; done) | (simp [*]; done), dr_⟩
       ·
        rw [if_neg c14] at H
        have c14b0 : (a1 == 6) = false := beq_eq_false_iff_ne.mpr c14
        have c14b1 : (a1 != 6) = true := bne_iff_ne.mpr c14
        by_cases c16 : a1 = 7
        ·
         rw [if_pos c16] at H
         have c16b0 : (a1 == 7) = true := beq_iff_eq.mpr c16
         have c16b1 : (a1 != 7) = false := bne_eq_false_iff_eq.mpr c16
         clear c16
         by_cases c17 : (a0.size : Int) < 4
         ·
          rw [if_pos c17] at H
          have c17b0 : decide ((a0.size : Int) < 4) = true := decide_eq_true c17
          have c17b1 : decide (a0.size < 4) = true := decide_eq_true (by omega)
          clear c17
          simp only [Option.some.injEq, Prod.mk.injEq] at H
          obtain ⟨rfl, rfl, rfl⟩ := H
          go_wp2
          go_ret3
          exact ⟨by first | rfl | (simp; done) | (simp [*]; done), dr_⟩
         ·
          rw [if_neg c17] at H
          have c17b0 : decide ((a0.size : Int) < 4) = false := decide_eq_false c17
          have c17b1 : decide (a0.size < 4) = false := decide_eq_false (by omega)
          clear c17
          by_cases c18 : 0 ≤ 4
          ·
           rw [if_pos c18] at H
           have c18b0 := eq_true c18
           have c18b1 : decide (0 ≤ 4) = true := decide_eq_true c18
           clear c18
           by_cases c19 : 4 ≤ (a0.size : Int)
           ·
            rw [if_pos c19] at H
            have c19b0 := eq_true c19
            have c19b1 : decide (4 ≤ (a0.size : Int)) = true := decide_eq_true c19
            clear c19
            replace H := Option.bind_eq_some_iff.mp H
            obtain ⟨t252, A200, H⟩ := H
            replace H : (some (wrap64 (t252), 4, true)) = some (r1, r2, r3) := H
            have A20 := Aside0.mk A200
            clear A200
            simp only [Option.some.injEq, Prod.mk.injEq] at H
            obtain ⟨rfl, rfl, rfl⟩ := H
            go_wp2_with (first | ((with_reducible refine gate_callee (f := 64) rfl ?_); refine goesL_ (some 65) rfl rfl Try.func64 (by kernel_rfl) rfl #[.string (a0.extract 0 4)] rfl ar ?_; (with_reducible refine (impl_number.calls kj7 (a0.extract 0 4) t252 _ A20.out).mono ?_); rintro e w' ⟨rfl, ⟨nd, rfl⟩⟩; refine ⟨_, rfl, ?_⟩))
            go_ret3
            exact ⟨by first | rfl | (simp; done) | (simp [*]; done), dr_⟩
           ·
            rw [if_neg c19] at H
            exact absurd H (by simp)
          ·
           exact absurd c18 (by decide)
        ·
         rw [if_neg c16] at H
         have c16b0 : (a1 == 7) = false := beq_eq_false_iff_ne.mpr c16
         have c16b1 : (a1 != 7) = true := bne_iff_ne.mpr c16
         simp only [Option.some.injEq, Prod.mk.injEq] at H
         obtain ⟨rfl, rfl, rfl⟩ := H
         go_wp2
         go_ret3
         exact ⟨by first | rfl | (simp; done) | (simp [*]; done), dr_⟩


/-! ### impl_goodType: function 65 -/
def impl_goodType.f (a0 : Int) : Option (Bool) := if a0 = 127 then (some true) else (if a0 = 126 then (some true) else (some (a0 == 125)))
set_option maxHeartbeats 8000000 in
set_option maxRecDepth 100000 in
theorem impl_goodType.calls (a0 : Int) (r : Bool) (w : World) (h : impl_goodType.f a0 = some r) :
  Calls Try.prog 65 #[.int .i64 a0] w fun e w' => e = .returned (.bool r) ∧ Drawn0 w w' := by
 have H : (if a0 = 127 then (some true) else (if a0 = 126 then (some true) else (some (a0 == 125)))) = some r := h
 clear h
 by_cases c2 : a0 = 127
 ·
  rw [if_pos c2] at H
  have c2b0 : (a0 == 127) = true := beq_iff_eq.mpr c2
  have c2b1 : (a0 != 127) = false := bne_eq_false_iff_eq.mpr c2
  clear c2
  obtain rfl := Option.some.inj H
  simp only [Option.some.injEq, Prod.mk.injEq] at H
  obtain ⟨rfl⟩ := H
  go_enter Try.func65, Try.ntmps65
  go_wp2
  go_ret
  exact ⟨by first | rfl | (simp; done) | (simp [*]; done), dr_⟩
 ·
  rw [if_neg c2] at H
  have c2b0 : (a0 == 127) = false := beq_eq_false_iff_ne.mpr c2
  have c2b1 : (a0 != 127) = true := bne_iff_ne.mpr c2
  by_cases c3 : a0 = 126
  ·
   rw [if_pos c3] at H
   have c3b0 : (a0 == 126) = true := beq_iff_eq.mpr c3
   have c3b1 : (a0 != 126) = false := bne_eq_false_iff_eq.mpr c3
   clear c3
   obtain rfl := Option.some.inj H
   simp only [Option.some.injEq, Prod.mk.injEq] at H
   obtain ⟨rfl⟩ := H
   go_enter Try.func65, Try.ntmps65
   go_wp2
   go_ret
   exact ⟨by first | rfl | (simp; done) | (simp [*]; done), dr_⟩
  ·
   rw [if_neg c3] at H
   have c3b0 : (a0 == 126) = false := beq_eq_false_iff_ne.mpr c3
   have c3b1 : (a0 != 126) = true := bne_iff_ne.mpr c3
   obtain rfl := Option.some.inj H
   simp only [Option.some.injEq, Prod.mk.injEq] at H
   obtain ⟨rfl⟩ := H
   go_enter Try.func65, Try.ntmps65
   go_wp2
   go_ret
   exact ⟨by first | rfl | (simp; done) | (simp [*]; done), dr_⟩


/-! ### impl_GoodIns: function 38 -/
def impl_GoodIns.f (k : Nat) (a0_0 : Int) (a0_1 : Int) : Option (Bool) := (impl_formOf.f k a0_0).bind fun t254 => (if t254 = 1 then (some (a0_1 == 0)) else (if t254 = 2 then ((impl_goodType.f a0_1).bind fun t255 => (if t255 = true then (some true) else (some (a0_1 == 64)))) else (if t254 = 3 then (if a0_1 ≥ 0 then (some (decide (a0_1 ≤ 1000))) else (some false)) else (if t254 = 4 then (if a0_1 ≥ 0 then (some (decide (a0_1 ≤ 10000))) else (some false)) else (if t254 = 5 then (if a0_1 ≥ (-2147483648) then (some (decide (a0_1 < 2147483648))) else (some false)) else (if t254 = 6 then (some true) else (if t254 = 7 then (if a0_1 ≥ 0 then (some (decide (a0_1 < 4294967296))) else (some false)) else (some false))))))))
set_option maxHeartbeats 8000000 in
set_option maxRecDepth 100000 in
theorem impl_GoodIns.calls (k : Nat) (a0_0 : Int) (a0_1 : Int) (r : Bool) (w : World) (h : impl_GoodIns.f k a0_0 a0_1 = some r) :
  Calls Try.prog 38 #[.agg #[.int .i64 a0_0, .int .i64 a0_1]] w fun e w' => e = .returned (.bool r) ∧ Below w.heap.size w w' := by
 have hu44 := Try.underlying44
 have HB := Aside0.mk (Below.refl w.heap.size w)
 have H : ((impl_formOf.f k a0_0).bind fun t254 => (if t254 = 1 then (some (a0_1 == 0)) else (if t254 = 2 then ((impl_goodType.f a0_1).bind fun t255 => (if t255 = true then (some true) else (some (a0_1 == 64)))) else (if t254 = 3 then (if a0_1 ≥ 0 then (some (decide (a0_1 ≤ 1000))) else (some false)) else (if t254 = 4 then (if a0_1 ≥ 0 then (some (decide (a0_1 ≤ 10000))) else (some false)) else (if t254 = 5 then (if a0_1 ≥ (-2147483648) then (some (decide (a0_1 < 2147483648))) else (some false)) else (if t254 = 6 then (some true) else (if t254 = 7 then (if a0_1 ≥ 0 then (some (decide (a0_1 < 4294967296))) else (some false)) else (some false))))))))) = some r := h
 clear h
 replace H := Option.bind_eq_some_iff.mp H
 obtain ⟨t254, A20, H⟩ := H
 replace H : (if t254 = 1 then (some (a0_1 == 0)) else (if t254 = 2 then ((impl_goodType.f a0_1).bind fun t255 => (if t255 = true then (some true) else (some (a0_1 == 64)))) else (if t254 = 3 then (if a0_1 ≥ 0 then (some (decide (a0_1 ≤ 1000))) else (some false)) else (if t254 = 4 then (if a0_1 ≥ 0 then (some (decide (a0_1 ≤ 10000))) else (some false)) else (if t254 = 5 then (if a0_1 ≥ (-2147483648) then (some (decide (a0_1 < 2147483648))) else (some false)) else (if t254 = 6 then (some true) else (if t254 = 7 then (if a0_1 ≥ 0 then (some (decide (a0_1 < 4294967296))) else (some false)) else (some false)))))))) = some r := H
 have A2 := Aside0.mk A20
 clear A20
 by_cases c3 : t254 = 1
 ·
  rw [if_pos c3] at H
  have c3b0 : (t254 == 1) = true := beq_iff_eq.mpr c3
  have c3b1 : (t254 != 1) = false := bne_eq_false_iff_eq.mpr c3
  clear c3
  obtain rfl := Option.some.inj H
  simp only [Option.some.injEq, Prod.mk.injEq] at H
  obtain ⟨rfl⟩ := H
  go_enter Try.func38, Try.ntmps38
  go_wp2_with (first | ((with_reducible refine gate_dst (N := 1) rfl ?_); refine box_event ?hg (N := 1) ?hd (cs := #[.int .i64 a0_0, .int .i64 a0_1]) (t := 44) ?hr ?_; (case hd => rfl); (case hg => rfl); (case hr => first | (go_simp; done) | (go_simp; rfl)); intro gb253 hg w4 hbox hb; have n0_ := Aside0.mk (below_step (bw HB.out) hb); have n1_ := Aside0.mk (hbox); have n2_ := Aside0.mk ((sz_ hg (bw HB.out) : w.heap.size ≤ gb253)); have n3_ := Aside0.mk ((sz_ hg (bw HB.out) : w.heap.size ≤ gb253)); clear HB; have HB := n0_; have BK253 := n1_; have GW253 := n2_; have GE253 := n3_; clear n0_ n1_ n2_ n3_; clear hb hbox hg; obtain ⟨hcz5_0, hcz5_1⟩ := cs2_ BK253.out; obtain ⟨hfz5_0, hfz5_1⟩ := fz2_ BK253.out) | ((with_reducible refine gate_callee (f := 31) rfl ?_); refine goesL_ (some 5) rfl rfl Try.func31 (by kernel_rfl) rfl #[.int .i64 a0_0] rfl ar ?_; (with_reducible refine (impl_formOf.calls k a0_0 t254 _ A2.out).mono ?_); rintro e w' ⟨rfl, ⟨nd, rfl⟩⟩; refine ⟨_, rfl, ?_⟩))
  go_ret
  exact ⟨rr_, bw HB.out⟩
 ·
  rw [if_neg c3] at H
  have c3b0 : (t254 == 1) = false := beq_eq_false_iff_ne.mpr c3
  have c3b1 : (t254 != 1) = true := bne_iff_ne.mpr c3
  by_cases c6 : t254 = 2
  ·
   rw [if_pos c6] at H
   have c6b0 : (t254 == 2) = true := beq_iff_eq.mpr c6
   have c6b1 : (t254 != 2) = false := bne_eq_false_iff_eq.mpr c6
   clear c6
   replace H := Option.bind_eq_some_iff.mp H
   obtain ⟨t255, A70, H⟩ := H
   replace H : (if t255 = true then (some true) else (some (a0_1 == 64))) = some r := H
   have A7 := Aside0.mk A70
   clear A70
   by_cases c8 : t255 = true
   ·
    subst c8
    have H1 : (some true) = some r := by rw [if_pos rfl] at H; exact H
    clear H
    have H := H1
    clear H1
    obtain rfl := Option.some.inj H
    simp only [Option.some.injEq, Prod.mk.injEq] at H
    obtain ⟨rfl⟩ := H
    go_enter Try.func38, Try.ntmps38
    go_wp2_with (first | ((with_reducible refine gate_dst (N := 1) rfl ?_); refine box_event ?hg (N := 1) ?hd (cs := #[.int .i64 a0_0, .int .i64 a0_1]) (t := 44) ?hr ?_; (case hd => rfl); (case hg => rfl); (case hr => first | (go_simp; done) | (go_simp; rfl)); intro gb253 hg w9 hbox hb; have n0_ := Aside0.mk (below_step (bw HB.out) hb); have n1_ := Aside0.mk (hbox); have n2_ := Aside0.mk ((sz_ hg (bw HB.out) : w.heap.size ≤ gb253)); have n3_ := Aside0.mk ((sz_ hg (bw HB.out) : w.heap.size ≤ gb253)); clear HB; have HB := n0_; have BK253 := n1_; have GW253 := n2_; have GE253 := n3_; clear n0_ n1_ n2_ n3_; clear hb hbox hg; obtain ⟨hcz10_0, hcz10_1⟩ := cs2_ BK253.out; obtain ⟨hfz10_0, hfz10_1⟩ := fz2_ BK253.out) | ((with_reducible refine gate_callee (f := 31) rfl ?_); refine goesL_ (some 5) rfl rfl Try.func31 (by kernel_rfl) rfl #[.int .i64 a0_0] rfl ar ?_; (with_reducible refine (impl_formOf.calls k a0_0 t254 _ A2.out).mono ?_); rintro e w' ⟨rfl, ⟨nd, rfl⟩⟩; refine ⟨_, rfl, ?_⟩) | ((with_reducible refine gate_callee (f := 65) rfl ?_); refine goesL_ (some 15) rfl rfl Try.func65 (by kernel_rfl) rfl #[.int .i64 a0_1] rfl ar ?_; (with_reducible refine (impl_goodType.calls a0_1 true _ A7.out).mono ?_); rintro e w' ⟨rfl, ⟨nd, rfl⟩⟩; refine ⟨_, rfl, ?_⟩))
    go_ret
    exact ⟨rr_, bw HB.out⟩
   ·
    replace c8 := Bool.eq_false_iff.mpr c8
    subst c8
    have H1 : (some (a0_1 == 64)) = some r := by rw [if_neg (show ¬ (false = true) by decide)] at H; exact H
    clear H
    have H := H1
    clear H1
    obtain rfl := Option.some.inj H
    simp only [Option.some.injEq, Prod.mk.injEq] at H
    obtain ⟨rfl⟩ := H
    go_enter Try.func38, Try.ntmps38
    go_wp2_with (first | ((with_reducible refine gate_dst (N := 1) rfl ?_); refine box_event ?hg (N := 1) ?hd (cs := #[.int .i64 a0_0, .int .i64 a0_1]) (t := 44) ?hr ?_; (case hd => rfl); (case hg => rfl); (case hr => first | (go_simp; done) | (go_simp; rfl)); intro gb253 hg w11 hbox hb; have n0_ := Aside0.mk (below_step (bw HB.out) hb); have n1_ := Aside0.mk (hbox); have n2_ := Aside0.mk ((sz_ hg (bw HB.out) : w.heap.size ≤ gb253)); have n3_ := Aside0.mk ((sz_ hg (bw HB.out) : w.heap.size ≤ gb253)); clear HB; have HB := n0_; have BK253 := n1_; have GW253 := n2_; have GE253 := n3_; clear n0_ n1_ n2_ n3_; clear hb hbox hg; obtain ⟨hcz12_0, hcz12_1⟩ := cs2_ BK253.out; obtain ⟨hfz12_0, hfz12_1⟩ := fz2_ BK253.out) | ((with_reducible refine gate_callee (f := 31) rfl ?_); refine goesL_ (some 5) rfl rfl Try.func31 (by kernel_rfl) rfl #[.int .i64 a0_0] rfl ar ?_; (with_reducible refine (impl_formOf.calls k a0_0 t254 _ A2.out).mono ?_); rintro e w' ⟨rfl, ⟨nd, rfl⟩⟩; refine ⟨_, rfl, ?_⟩) | ((with_reducible refine gate_callee (f := 65) rfl ?_); refine goesL_ (some 15) rfl rfl Try.func65 (by kernel_rfl) rfl #[.int .i64 a0_1] rfl ar ?_; (with_reducible refine (impl_goodType.calls a0_1 false _ A7.out).mono ?_); rintro e w' ⟨rfl, ⟨nd, rfl⟩⟩; refine ⟨_, rfl, ?_⟩))
    go_ret
    exact ⟨rr_, bw HB.out⟩
  ·
   rw [if_neg c6] at H
   have c6b0 : (t254 == 2) = false := beq_eq_false_iff_ne.mpr c6
   have c6b1 : (t254 != 2) = true := bne_iff_ne.mpr c6
   by_cases c13 : t254 = 3
   ·
    rw [if_pos c13] at H
    have c13b0 : (t254 == 3) = true := beq_iff_eq.mpr c13
    have c13b1 : (t254 != 3) = false := bne_eq_false_iff_eq.mpr c13
    clear c13
    by_cases c14 : a0_1 ≥ 0
    ·
     rw [if_pos c14] at H
     have c14b0 : decide (0 ≤ a0_1) = true := decide_eq_true c14
     clear c14
     obtain rfl := Option.some.inj H
     simp only [Option.some.injEq, Prod.mk.injEq] at H
     obtain ⟨rfl⟩ := H
     go_enter Try.func38, Try.ntmps38
     go_wp2_with (first | ((with_reducible refine gate_dst (N := 1) rfl ?_); refine box_event ?hg (N := 1) ?hd (cs := #[.int .i64 a0_0, .int .i64 a0_1]) (t := 44) ?hr ?_; (case hd => rfl); (case hg => rfl); (case hr => first | (go_simp; done) | (go_simp; rfl)); intro gb253 hg w15 hbox hb; have n0_ := Aside0.mk (below_step (bw HB.out) hb); have n1_ := Aside0.mk (hbox); have n2_ := Aside0.mk ((sz_ hg (bw HB.out) : w.heap.size ≤ gb253)); have n3_ := Aside0.mk ((sz_ hg (bw HB.out) : w.heap.size ≤ gb253)); clear HB; have HB := n0_; have BK253 := n1_; have GW253 := n2_; have GE253 := n3_; clear n0_ n1_ n2_ n3_; clear hb hbox hg; obtain ⟨hcz16_0, hcz16_1⟩ := cs2_ BK253.out; obtain ⟨hfz16_0, hfz16_1⟩ := fz2_ BK253.out) | ((with_reducible refine gate_callee (f := 31) rfl ?_); refine goesL_ (some 5) rfl rfl Try.func31 (by kernel_rfl) rfl #[.int .i64 a0_0] rfl ar ?_; (with_reducible refine (impl_formOf.calls k a0_0 t254 _ A2.out).mono ?_); rintro e w' ⟨rfl, ⟨nd, rfl⟩⟩; refine ⟨_, rfl, ?_⟩))
     go_ret
     exact ⟨rr_, bw HB.out⟩
    ·
     rw [if_neg c14] at H
     have c14b0 : decide (0 ≤ a0_1) = false := decide_eq_false c14
     clear c14
     obtain rfl := Option.some.inj H
     simp only [Option.some.injEq, Prod.mk.injEq] at H
     obtain ⟨rfl⟩ := H
     go_enter Try.func38, Try.ntmps38
     go_wp2_with (first | ((with_reducible refine gate_dst (N := 1) rfl ?_); refine box_event ?hg (N := 1) ?hd (cs := #[.int .i64 a0_0, .int .i64 a0_1]) (t := 44) ?hr ?_; (case hd => rfl); (case hg => rfl); (case hr => first | (go_simp; done) | (go_simp; rfl)); intro gb253 hg w17 hbox hb; have n0_ := Aside0.mk (below_step (bw HB.out) hb); have n1_ := Aside0.mk (hbox); have n2_ := Aside0.mk ((sz_ hg (bw HB.out) : w.heap.size ≤ gb253)); have n3_ := Aside0.mk ((sz_ hg (bw HB.out) : w.heap.size ≤ gb253)); clear HB; have HB := n0_; have BK253 := n1_; have GW253 := n2_; have GE253 := n3_; clear n0_ n1_ n2_ n3_; clear hb hbox hg; obtain ⟨hcz18_0, hcz18_1⟩ := cs2_ BK253.out; obtain ⟨hfz18_0, hfz18_1⟩ := fz2_ BK253.out) | ((with_reducible refine gate_callee (f := 31) rfl ?_); refine goesL_ (some 5) rfl rfl Try.func31 (by kernel_rfl) rfl #[.int .i64 a0_0] rfl ar ?_; (with_reducible refine (impl_formOf.calls k a0_0 t254 _ A2.out).mono ?_); rintro e w' ⟨rfl, ⟨nd, rfl⟩⟩; refine ⟨_, rfl, ?_⟩))
     go_ret
     exact ⟨rr_, bw HB.out⟩
   ·
    rw [if_neg c13] at H
    have c13b0 : (t254 == 3) = false := beq_eq_false_iff_ne.mpr c13
    have c13b1 : (t254 != 3) = true := bne_iff_ne.mpr c13
    by_cases c19 : t254 = 4
    ·
     rw [if_pos c19] at H
     have c19b0 : (t254 == 4) = true := beq_iff_eq.mpr c19
     have c19b1 : (t254 != 4) = false := bne_eq_false_iff_eq.mpr c19
     clear c19
     by_cases c20 : a0_1 ≥ 0
     ·
      rw [if_pos c20] at H
      have c20b0 : decide (0 ≤ a0_1) = true := decide_eq_true c20
      clear c20
      obtain rfl := Option.some.inj H
      simp only [Option.some.injEq, Prod.mk.injEq] at H
      obtain ⟨rfl⟩ := H
      go_enter Try.func38, Try.ntmps38
      go_wp2_with (first | ((with_reducible refine gate_dst (N := 1) rfl ?_); refine box_event ?hg (N := 1) ?hd (cs := #[.int .i64 a0_0, .int .i64 a0_1]) (t := 44) ?hr ?_; (case hd => rfl); (case hg => rfl); (case hr => first | (go_simp; done) | (go_simp; rfl)); intro gb253 hg w21 hbox hb; have n0_ := Aside0.mk (below_step (bw HB.out) hb); have n1_ := Aside0.mk (hbox); have n2_ := Aside0.mk ((sz_ hg (bw HB.out) : w.heap.size ≤ gb253)); have n3_ := Aside0.mk ((sz_ hg (bw HB.out) : w.heap.size ≤ gb253)); clear HB; have HB := n0_; have BK253 := n1_; have GW253 := n2_; have GE253 := n3_; clear n0_ n1_ n2_ n3_; clear hb hbox hg; obtain ⟨hcz22_0, hcz22_1⟩ := cs2_ BK253.out; obtain ⟨hfz22_0, hfz22_1⟩ := fz2_ BK253.out) | ((with_reducible refine gate_callee (f := 31) rfl ?_); refine goesL_ (some 5) rfl rfl Try.func31 (by kernel_rfl) rfl #[.int .i64 a0_0] rfl ar ?_; (with_reducible refine (impl_formOf.calls k a0_0 t254 _ A2.out).mono ?_); rintro e w' ⟨rfl, ⟨nd, rfl⟩⟩; refine ⟨_, rfl, ?_⟩))
      go_ret
      exact ⟨rr_, bw HB.out⟩
     ·
      rw [if_neg c20] at H
      have c20b0 : decide (0 ≤ a0_1) = false := decide_eq_false c20
      clear c20
      obtain rfl := Option.some.inj H
      simp only [Option.some.injEq, Prod.mk.injEq] at H
      obtain ⟨rfl⟩ := H
      go_enter Try.func38, Try.ntmps38
      go_wp2_with (first | ((with_reducible refine gate_dst (N := 1) rfl ?_); refine box_event ?hg (N := 1) ?hd (cs := #[.int .i64 a0_0, .int .i64 a0_1]) (t := 44) ?hr ?_; (case hd => rfl); (case hg => rfl); (case hr => first | (go_simp; done) | (go_simp; rfl)); intro gb253 hg w23 hbox hb; have n0_ := Aside0.mk (below_step (bw HB.out) hb); have n1_ := Aside0.mk (hbox); have n2_ := Aside0.mk ((sz_ hg (bw HB.out) : w.heap.size ≤ gb253)); have n3_ := Aside0.mk ((sz_ hg (bw HB.out) : w.heap.size ≤ gb253)); clear HB; have HB := n0_; have BK253 := n1_; have GW253 := n2_; have GE253 := n3_; clear n0_ n1_ n2_ n3_; clear hb hbox hg; obtain ⟨hcz24_0, hcz24_1⟩ := cs2_ BK253.out; obtain ⟨hfz24_0, hfz24_1⟩ := fz2_ BK253.out) | ((with_reducible refine gate_callee (f := 31) rfl ?_); refine goesL_ (some 5) rfl rfl Try.func31 (by kernel_rfl) rfl #[.int .i64 a0_0] rfl ar ?_; (with_reducible refine (impl_formOf.calls k a0_0 t254 _ A2.out).mono ?_); rintro e w' ⟨rfl, ⟨nd, rfl⟩⟩; refine ⟨_, rfl, ?_⟩))
      go_ret
      exact ⟨rr_, bw HB.out⟩
    ·
     rw [if_neg c19] at H
     have c19b0 : (t254 == 4) = false := beq_eq_false_iff_ne.mpr c19
     have c19b1 : (t254 != 4) = true := bne_iff_ne.mpr c19
     by_cases c25 : t254 = 5
     ·
      rw [if_pos c25] at H
      have c25b0 : (t254 == 5) = true := beq_iff_eq.mpr c25
      have c25b1 : (t254 != 5) = false := bne_eq_false_iff_eq.mpr c25
      clear c25
      by_cases c26 : a0_1 ≥ (-2147483648)
      ·
       rw [if_pos c26] at H
       have c26b0 : decide ((-2147483648) ≤ a0_1) = true := decide_eq_true c26
       clear c26
       obtain rfl := Option.some.inj H
       simp only [Option.some.injEq, Prod.mk.injEq] at H
       obtain ⟨rfl⟩ := H
       go_enter Try.func38, Try.ntmps38
       go_wp2_with (first | ((with_reducible refine gate_dst (N := 1) rfl ?_); refine box_event ?hg (N := 1) ?hd (cs := #[.int .i64 a0_0, .int .i64 a0_1]) (t := 44) ?hr ?_; (case hd => rfl); (case hg => rfl); (case hr => first | (go_simp; done) | (go_simp; rfl)); intro gb253 hg w27 hbox hb; have n0_ := Aside0.mk (below_step (bw HB.out) hb); have n1_ := Aside0.mk (hbox); have n2_ := Aside0.mk ((sz_ hg (bw HB.out) : w.heap.size ≤ gb253)); have n3_ := Aside0.mk ((sz_ hg (bw HB.out) : w.heap.size ≤ gb253)); clear HB; have HB := n0_; have BK253 := n1_; have GW253 := n2_; have GE253 := n3_; clear n0_ n1_ n2_ n3_; clear hb hbox hg; obtain ⟨hcz28_0, hcz28_1⟩ := cs2_ BK253.out; obtain ⟨hfz28_0, hfz28_1⟩ := fz2_ BK253.out) | ((with_reducible refine gate_callee (f := 31) rfl ?_); refine goesL_ (some 5) rfl rfl Try.func31 (by kernel_rfl) rfl #[.int .i64 a0_0] rfl ar ?_; (with_reducible refine (impl_formOf.calls k a0_0 t254 _ A2.out).mono ?_); rintro e w' ⟨rfl, ⟨nd, rfl⟩⟩; refine ⟨_, rfl, ?_⟩))
       go_ret
       exact ⟨rr_, bw HB.out⟩
      ·
       rw [if_neg c26] at H
       have c26b0 : decide ((-2147483648) ≤ a0_1) = false := decide_eq_false c26
       clear c26
       obtain rfl := Option.some.inj H
       simp only [Option.some.injEq, Prod.mk.injEq] at H
       obtain ⟨rfl⟩ := H
       go_enter Try.func38, Try.ntmps38
       go_wp2_with (first | ((with_reducible refine gate_dst (N := 1) rfl ?_); refine box_event ?hg (N := 1) ?hd (cs := #[.int .i64 a0_0, .int .i64 a0_1]) (t := 44) ?hr ?_; (case hd => rfl); (case hg => rfl); (case hr => first | (go_simp; done) | (go_simp; rfl)); intro gb253 hg w29 hbox hb; have n0_ := Aside0.mk (below_step (bw HB.out) hb); have n1_ := Aside0.mk (hbox); have n2_ := Aside0.mk ((sz_ hg (bw HB.out) : w.heap.size ≤ gb253)); have n3_ := Aside0.mk ((sz_ hg (bw HB.out) : w.heap.size ≤ gb253)); clear HB; have HB := n0_; have BK253 := n1_; have GW253 := n2_; have GE253 := n3_; clear n0_ n1_ n2_ n3_; clear hb hbox hg; obtain ⟨hcz30_0, hcz30_1⟩ := cs2_ BK253.out; obtain ⟨hfz30_0, hfz30_1⟩ := fz2_ BK253.out) | ((with_reducible refine gate_callee (f := 31) rfl ?_); refine goesL_ (some 5) rfl rfl Try.func31 (by kernel_rfl) rfl #[.int .i64 a0_0] rfl ar ?_; (with_reducible refine (impl_formOf.calls k a0_0 t254 _ A2.out).mono ?_); rintro e w' ⟨rfl, ⟨nd, rfl⟩⟩; refine ⟨_, rfl, ?_⟩))
       go_ret
       exact ⟨rr_, bw HB.out⟩
     ·
      rw [if_neg c25] at H
      have c25b0 : (t254 == 5) = false := beq_eq_false_iff_ne.mpr c25
      have c25b1 : (t254 != 5) = true := bne_iff_ne.mpr c25
      by_cases c31 : t254 = 6
      ·
       rw [if_pos c31] at H
       have c31b0 : (t254 == 6) = true := beq_iff_eq.mpr c31
       have c31b1 : (t254 != 6) = false := bne_eq_false_iff_eq.mpr c31
       clear c31
       obtain rfl := Option.some.inj H
       simp only [Option.some.injEq, Prod.mk.injEq] at H
       obtain ⟨rfl⟩ := H
       go_enter Try.func38, Try.ntmps38
       go_wp2_with (first | ((with_reducible refine gate_dst (N := 1) rfl ?_); refine box_event ?hg (N := 1) ?hd (cs := #[.int .i64 a0_0, .int .i64 a0_1]) (t := 44) ?hr ?_; (case hd => rfl); (case hg => rfl); (case hr => first | (go_simp; done) | (go_simp; rfl)); intro gb253 hg w32 hbox hb; have n0_ := Aside0.mk (below_step (bw HB.out) hb); have n1_ := Aside0.mk (hbox); have n2_ := Aside0.mk ((sz_ hg (bw HB.out) : w.heap.size ≤ gb253)); have n3_ := Aside0.mk ((sz_ hg (bw HB.out) : w.heap.size ≤ gb253)); clear HB; have HB := n0_; have BK253 := n1_; have GW253 := n2_; have GE253 := n3_; clear n0_ n1_ n2_ n3_; clear hb hbox hg; obtain ⟨hcz33_0, hcz33_1⟩ := cs2_ BK253.out; obtain ⟨hfz33_0, hfz33_1⟩ := fz2_ BK253.out) | ((with_reducible refine gate_callee (f := 31) rfl ?_); refine goesL_ (some 5) rfl rfl Try.func31 (by kernel_rfl) rfl #[.int .i64 a0_0] rfl ar ?_; (with_reducible refine (impl_formOf.calls k a0_0 t254 _ A2.out).mono ?_); rintro e w' ⟨rfl, ⟨nd, rfl⟩⟩; refine ⟨_, rfl, ?_⟩))
       go_ret
       exact ⟨rr_, bw HB.out⟩
      ·
       rw [if_neg c31] at H
       have c31b0 : (t254 == 6) = false := beq_eq_false_iff_ne.mpr c31
       have c31b1 : (t254 != 6) = true := bne_iff_ne.mpr c31
       by_cases c34 : t254 = 7
       ·
        rw [if_pos c34] at H
        have c34b0 : (t254 == 7) = true := beq_iff_eq.mpr c34
        have c34b1 : (t254 != 7) = false := bne_eq_false_iff_eq.mpr c34
        clear c34
        by_cases c35 : a0_1 ≥ 0
        ·
         rw [if_pos c35] at H
         have c35b0 : decide (0 ≤ a0_1) = true := decide_eq_true c35
         clear c35
         obtain rfl := Option.some.inj H
         simp only [Option.some.injEq, Prod.mk.injEq] at H
         obtain ⟨rfl⟩ := H
         go_enter Try.func38, Try.ntmps38
         go_wp2_with (first | ((with_reducible refine gate_dst (N := 1) rfl ?_); refine box_event ?hg (N := 1) ?hd (cs := #[.int .i64 a0_0, .int .i64 a0_1]) (t := 44) ?hr ?_; (case hd => rfl); (case hg => rfl); (case hr => first | (go_simp; done) | (go_simp; rfl)); intro gb253 hg w36 hbox hb; have n0_ := Aside0.mk (below_step (bw HB.out) hb); have n1_ := Aside0.mk (hbox); have n2_ := Aside0.mk ((sz_ hg (bw HB.out) : w.heap.size ≤ gb253)); have n3_ := Aside0.mk ((sz_ hg (bw HB.out) : w.heap.size ≤ gb253)); clear HB; have HB := n0_; have BK253 := n1_; have GW253 := n2_; have GE253 := n3_; clear n0_ n1_ n2_ n3_; clear hb hbox hg; obtain ⟨hcz37_0, hcz37_1⟩ := cs2_ BK253.out; obtain ⟨hfz37_0, hfz37_1⟩ := fz2_ BK253.out) | ((with_reducible refine gate_callee (f := 31) rfl ?_); refine goesL_ (some 5) rfl rfl Try.func31 (by kernel_rfl) rfl #[.int .i64 a0_0] rfl ar ?_; (with_reducible refine (impl_formOf.calls k a0_0 t254 _ A2.out).mono ?_); rintro e w' ⟨rfl, ⟨nd, rfl⟩⟩; refine ⟨_, rfl, ?_⟩))
         go_ret
         exact ⟨rr_, bw HB.out⟩
        ·
         rw [if_neg c35] at H
         have c35b0 : decide (0 ≤ a0_1) = false := decide_eq_false c35
         clear c35
         obtain rfl := Option.some.inj H
         simp only [Option.some.injEq, Prod.mk.injEq] at H
         obtain ⟨rfl⟩ := H
         go_enter Try.func38, Try.ntmps38
         go_wp2_with (first | ((with_reducible refine gate_dst (N := 1) rfl ?_); refine box_event ?hg (N := 1) ?hd (cs := #[.int .i64 a0_0, .int .i64 a0_1]) (t := 44) ?hr ?_; (case hd => rfl); (case hg => rfl); (case hr => first | (go_simp; done) | (go_simp; rfl)); intro gb253 hg w38 hbox hb; have n0_ := Aside0.mk (below_step (bw HB.out) hb); have n1_ := Aside0.mk (hbox); have n2_ := Aside0.mk ((sz_ hg (bw HB.out) : w.heap.size ≤ gb253)); have n3_ := Aside0.mk ((sz_ hg (bw HB.out) : w.heap.size ≤ gb253)); clear HB; have HB := n0_; have BK253 := n1_; have GW253 := n2_; have GE253 := n3_; clear n0_ n1_ n2_ n3_; clear hb hbox hg; obtain ⟨hcz39_0, hcz39_1⟩ := cs2_ BK253.out; obtain ⟨hfz39_0, hfz39_1⟩ := fz2_ BK253.out) | ((with_reducible refine gate_callee (f := 31) rfl ?_); refine goesL_ (some 5) rfl rfl Try.func31 (by kernel_rfl) rfl #[.int .i64 a0_0] rfl ar ?_; (with_reducible refine (impl_formOf.calls k a0_0 t254 _ A2.out).mono ?_); rintro e w' ⟨rfl, ⟨nd, rfl⟩⟩; refine ⟨_, rfl, ?_⟩))
         go_ret
         exact ⟨rr_, bw HB.out⟩
       ·
        rw [if_neg c34] at H
        have c34b0 : (t254 == 7) = false := beq_eq_false_iff_ne.mpr c34
        have c34b1 : (t254 != 7) = true := bne_iff_ne.mpr c34
        obtain rfl := Option.some.inj H
        simp only [Option.some.injEq, Prod.mk.injEq] at H
        obtain ⟨rfl⟩ := H
        go_enter Try.func38, Try.ntmps38
        go_wp2_with (first | ((with_reducible refine gate_dst (N := 1) rfl ?_); refine box_event ?hg (N := 1) ?hd (cs := #[.int .i64 a0_0, .int .i64 a0_1]) (t := 44) ?hr ?_; (case hd => rfl); (case hg => rfl); (case hr => first | (go_simp; done) | (go_simp; rfl)); intro gb253 hg w40 hbox hb; have n0_ := Aside0.mk (below_step (bw HB.out) hb); have n1_ := Aside0.mk (hbox); have n2_ := Aside0.mk ((sz_ hg (bw HB.out) : w.heap.size ≤ gb253)); have n3_ := Aside0.mk ((sz_ hg (bw HB.out) : w.heap.size ≤ gb253)); clear HB; have HB := n0_; have BK253 := n1_; have GW253 := n2_; have GE253 := n3_; clear n0_ n1_ n2_ n3_; clear hb hbox hg; obtain ⟨hcz41_0, hcz41_1⟩ := cs2_ BK253.out; obtain ⟨hfz41_0, hfz41_1⟩ := fz2_ BK253.out) | ((with_reducible refine gate_callee (f := 31) rfl ?_); refine goesL_ (some 5) rfl rfl Try.func31 (by kernel_rfl) rfl #[.int .i64 a0_0] rfl ar ?_; (with_reducible refine (impl_formOf.calls k a0_0 t254 _ A2.out).mono ?_); rintro e w' ⟨rfl, ⟨nd, rfl⟩⟩; refine ⟨_, rfl, ?_⟩))
        go_ret
        exact ⟨rr_, bw HB.out⟩


/-! ### impl_ReadCode: function 13 -/
theorem twice1 {w : World} {g : Nat} {v : Value} (h : w.cell? ⟨g, 1, none⟩ = some v) (u x : Value) : ((w.setCell ⟨g, 0, none⟩ u).setCell ⟨g, 1, none⟩ x).cell? ⟨g, 1, none⟩ = some x := by
 refine World.cell?_setCell_same (u := v) _ _ _ ?_
 rw [World.cell?_setCell_other _ _ _ _ (fun e_ => by have := congrArg Addr.off e_; simp at this)]
 exact h
theorem twice2 {w : World} {g : Nat} {v : Value} (h : w.cell? ⟨g, 1, none⟩ = some v) (u x y : Value) (n : Nat) : ((((w.setCell ⟨g, 0, none⟩ u).setCell ⟨g, 1, none⟩ x).drewN n).setCell ⟨g, 1, none⟩ y).cell? ⟨g, 1, none⟩ = some y := World.cell?_setCell_same (u := x) _ _ _ (twice1 h u x)
def impl_ReadCode.l0 : Nat → ByteArray → List (S44) → Option ((List (S44)) × Bool)
 | 0, _, _ => none
 | k + 1, x0, x4 => if x0.toList = ([] : List UInt8) then (some (x4, true)) else (if 0 < (x0.size : Int) then (if 1 ≤ (x0.size : Int) then ((impl_formOf.f k (wrap64 (bt x0 0))).bind fun t260 => ((impl_takeA.f k (x0.extract 1 x0.size) t260).bind fun bt261 => (if bt261.2.2 = true then ((impl_GoodIns.f k (wrap64 (bt x0 0)) bt261.1).bind fun t264 => (if t264 = true then (if (x4.length : Int) = 200 then (some (([] : List (S44)), false)) else (if x4.length < 8796093022208 then (if 0 ≤ (wrap64 (1 + bt261.2.1)) then (if (wrap64 (1 + bt261.2.1)) ≤ (x0.size : Int) then (impl_ReadCode.l0 k (x0.extract ((wrap64 (1 + bt261.2.1)) : Int).toNat x0.size) (x4 ++ [(⟨wrap64 (bt x0 0), bt261.1⟩ : S44)])) else (none)) else (none)) else (none))) else (some (([] : List (S44)), false)))) else (some (([] : List (S44)), false))))) else (none)) else (none))
def impl_ReadCode.f (k : Nat) (a0 : ByteArray) : Option ((List (S44)) × Bool) := impl_ReadCode.l0 k a0 (([] : List (S44)))
set_option maxHeartbeats 8000000 in
set_option maxRecDepth 100000 in
theorem impl_ReadCode.calls (k : Nat) (a0 : ByteArray) (r1 : List (S44)) (r2 : Bool) (w : World) (h : impl_ReadCode.f k a0 = some (r1, r2)) :
  Calls Try.prog 13 #[.string a0] w fun e w' => ∃ v0_ : Value, e = .returned (.tuple #[v0_, .bool r2]) ∧ Kd.R k44 44 w' w.heap.size (fun _ => True) v0_ r1 ∧ Below w.heap.size w w' := by
 have hu44 := Try.underlying44
 have HB := Aside0.mk (Below.refl w.heap.size w)
 have H : (impl_ReadCode.l0 k a0 (([] : List (S44)))) = some (r1, r2) := h
 clear h
 obtain ⟨y256, hy256⟩ : ∃ y_ : List (S44), y_ = (([] : List (S44))) := ⟨_, rfl⟩
 replace H : (impl_ReadCode.l0 k a0 y256) = some (r1, r2) := by first | (rw [hy256]; with_reducible exact H) | (have H2_ := (Option.bind_some _ _).symm.trans H; rw [hy256]; with_reducible exact H2_) | (have H2_ := (Option.bind_some _ _).symm.trans H; with_reducible exact H2_) | with_reducible exact H | (rw [hy256]; exact H) | exact H
 have Ny256 := Aside0.mk hy256
 clear hy256
 have H' := Aside0.mk H
 clear H
 go_enter Try.func13, Try.ntmps13
 go_wp2_with (first | ((with_reducible refine gate_dst (N := 9) rfl ?_); (try (refine gate_guard (by rfl) ?_; dsimp only)); refine Kd.R_lit k44 _ 44 ?hg (N := 9) ?hd (xs := ([] : List (S44))) (inner := []) (ok := fun _ => True) (okp := fun _ => True) ?hr ?hp (fun _ hk => hk) trivial (Below.refl _ _) (Nat.le_refl _) (by simp) ?_; (case hd => rfl); (case hg => rfl); (case hr => first | (go_simp; done) | (go_simp; rfl)); (case hp => exact (Reps.none _ _)); intro v257 w2 ho3 hb hg_ hnew_; clear hg_ hnew_; (first | rw [← Ny256.out] at ho3 | (simp only [Int.reduceToNat] at ho3; rw [← Ny256.out] at ho3)); have n0_ := Aside0.mk (Kd.R_lower ho3 (below_size (bw HB.out))); have n1_ := Aside0.mk (below_step (bw HB.out) hb); clear HB; have HO258 := n0_; have HB := n1_; clear n0_ n1_; clear hb ho3))
 repeat (go_quiet (first | ((with_reducible refine gate_dst (N := 9) rfl ?_); (try (refine gate_guard (by rfl) ?_; dsimp only)); refine Kd.R_lit k44 _ 44 ?hg (N := 9) ?hd (xs := ([] : List (S44))) (inner := []) (ok := fun _ => True) (okp := fun _ => True) ?hr ?hp (fun _ hk => hk) trivial (Below.refl _ _) (Nat.le_refl _) (by simp) ?_; (case hd => rfl); (case hg => rfl); (case hr => first | (go_simp; done) | (go_simp; rfl)); (case hp => exact (Reps.none _ _)); intro v257 w2 ho3 hb hg_ hnew_; clear hg_ hnew_; (first | rw [← Ny256.out] at ho3 | (simp only [Int.reduceToNat] at ho3; rw [← Ny256.out] at ho3)); have n0_ := Aside0.mk (Kd.R_lower ho3 (below_size (bw HB.out))); have n1_ := Aside0.mk (below_step (bw HB.out) hb); clear HB; have HO258 := n0_; have HB := n1_; clear n0_ n1_; clear hb ho3)); try go_wp2_with (first | ((with_reducible refine gate_dst (N := 9) rfl ?_); (try (refine gate_guard (by rfl) ?_; dsimp only)); refine Kd.R_lit k44 _ 44 ?hg (N := 9) ?hd (xs := ([] : List (S44))) (inner := []) (ok := fun _ => True) (okp := fun _ => True) ?hr ?hp (fun _ hk => hk) trivial (Below.refl _ _) (Nat.le_refl _) (by simp) ?_; (case hd => rfl); (case hg => rfl); (case hr => first | (go_simp; done) | (go_simp; rfl)); (case hp => exact (Reps.none _ _)); intro v257 w2 ho3 hb hg_ hnew_; clear hg_ hnew_; (first | rw [← Ny256.out] at ho3 | (simp only [Int.reduceToNat] at ho3; rw [← Ny256.out] at ho3)); have n0_ := Aside0.mk (Kd.R_lower ho3 (below_size (bw HB.out))); have n1_ := Aside0.mk (below_step (bw HB.out) hb); clear HB; have HO258 := n0_; have HB := n1_; clear n0_ n1_; clear hb ho3)))
 (try simp only [Act.put, List.setIfInBounds_toArray, List.set_cons_zero, List.set_cons_succ])
 go_loopg [0, 4] k (fun kq v0 v4 w' => ∃ (x0_1 : ByteArray) (x4_1 : List (S44)), v0 = .string x0_1 ∧ Aside0 (impl_ReadCode.l0 kq x0_1 x4_1 = some (r1, r2)) ∧ Aside0 (kq ≤ k) ∧ Aside0 (Kd.R k44 44 w' w.heap.size (fun _ => True) v4 x4_1) ∧ Aside0 (Below w.heap.size w w'))
 case atStart => exact ⟨(a0), (y256), (by first | rfl | (simp; done) | (simp [*]; done)), H', ⟨Nat.le_refl _⟩, ⟨kr_ HO258.out⟩, ⟨bw HB.out⟩⟩
 case round =>
  clear H'
  obtain ⟨x0_1, x4_1, rfl, HA, HK1, HO_4, HB⟩ := hrel
  cases gk with
  | zero => exact absurd HA.out (by simp [impl_ReadCode.l0])
  | succ k1 =>
   have H := HA.out
   clear HA
   simp only [impl_ReadCode.l0] at H
   by_cases c4 : x0_1.toList = ([] : List UInt8)
   ·
    rw [if_pos c4] at H
    have c4b0 : (x0_1.toList == ([] : List UInt8)) = true := beq_iff_eq.mpr c4
    have c4b1 : (x0_1.toList != ([] : List UInt8)) = false := bne_eq_false_iff_eq.mpr c4
    clear c4
    simp only [Option.some.injEq, Prod.mk.injEq] at H
    obtain ⟨rfl, rfl⟩ := H
    go_wp2
    repeat (go_quiet (fail); try go_wp2)
    go_ret2
    exact ⟨_, rr_, kr_ HO_4.out, bw HB.out⟩
   ·
    rw [if_neg c4] at H
    have c4b0 : (x0_1.toList == ([] : List UInt8)) = false := beq_eq_false_iff_ne.mpr c4
    have c4b1 : (x0_1.toList != ([] : List UInt8)) = true := bne_iff_ne.mpr c4
    by_cases c5 : 0 < (x0_1.size : Int)
    ·
     rw [if_pos c5] at H
     have c5b0 : decide (0 < (x0_1.size : Int)) = true := decide_eq_true c5
     have c5b1 : decide (0 < x0_1.size) = true := decide_eq_true (by omega)
     clear c5
     by_cases c7 : 1 ≤ (x0_1.size : Int)
     ·
      rw [if_pos c7] at H
      have c7b0 := eq_true c7
      have c7b1 : decide (1 ≤ (x0_1.size : Int)) = true := decide_eq_true c7
      clear c7
      replace H := Option.bind_eq_some_iff.mp H
      obtain ⟨t260, A80, H⟩ := H
      replace H : ((impl_takeA.f k1 (x0_1.extract 1 x0_1.size) t260).bind fun bt261 => (if bt261.2.2 = true then ((impl_GoodIns.f k1 (wrap64 (bt x0_1 0)) bt261.1).bind fun t264 => (if t264 = true then (if (x4_1.length : Int) = 200 then (some (([] : List (S44)), false)) else (if x4_1.length < 8796093022208 then (if 0 ≤ (wrap64 (1 + bt261.2.1)) then (if (wrap64 (1 + bt261.2.1)) ≤ (x0_1.size : Int) then (impl_ReadCode.l0 k1 (x0_1.extract ((wrap64 (1 + bt261.2.1)) : Int).toNat x0_1.size) (x4_1 ++ [(⟨wrap64 (bt x0_1 0), bt261.1⟩ : S44)])) else (none)) else (none)) else (none))) else (some (([] : List (S44)), false)))) else (some (([] : List (S44)), false)))) = some (r1, r2) := H
      have A8 := Aside0.mk A80
      clear A80
      replace H := Option.bind_eq_some_iff.mp H
      obtain ⟨⟨t261, t262, t263⟩, A90, H⟩ := H
      replace H : (if t263 = true then ((impl_GoodIns.f k1 (wrap64 (bt x0_1 0)) t261).bind fun t264 => (if t264 = true then (if (x4_1.length : Int) = 200 then (some (([] : List (S44)), false)) else (if x4_1.length < 8796093022208 then (if 0 ≤ (wrap64 (1 + t262)) then (if (wrap64 (1 + t262)) ≤ (x0_1.size : Int) then (impl_ReadCode.l0 k1 (x0_1.extract ((wrap64 (1 + t262)) : Int).toNat x0_1.size) (x4_1 ++ [(⟨wrap64 (bt x0_1 0), t261⟩ : S44)])) else (none)) else (none)) else (none))) else (some (([] : List (S44)), false)))) else (some (([] : List (S44)), false))) = some (r1, r2) := H
      have A9 := Aside0.mk A90
      clear A90
      by_cases c10 : t263 = true
      ·
       subst c10
       have H1 : ((impl_GoodIns.f k1 (wrap64 (bt x0_1 0)) t261).bind fun t264 => (if t264 = true then (if (x4_1.length : Int) = 200 then (some (([] : List (S44)), false)) else (if x4_1.length < 8796093022208 then (if 0 ≤ (wrap64 (1 + t262)) then (if (wrap64 (1 + t262)) ≤ (x0_1.size : Int) then (impl_ReadCode.l0 k1 (x0_1.extract ((wrap64 (1 + t262)) : Int).toNat x0_1.size) (x4_1 ++ [(⟨wrap64 (bt x0_1 0), t261⟩ : S44)])) else (none)) else (none)) else (none))) else (some (([] : List (S44)), false)))) = some (r1, r2) := by rw [if_pos rfl] at H; exact H
       clear H
       have H := H1
       clear H1
       replace H := Option.bind_eq_some_iff.mp H
       obtain ⟨t264, A110, H⟩ := H
       replace H : (if t264 = true then (if (x4_1.length : Int) = 200 then (some (([] : List (S44)), false)) else (if x4_1.length < 8796093022208 then (if 0 ≤ (wrap64 (1 + t262)) then (if (wrap64 (1 + t262)) ≤ (x0_1.size : Int) then (impl_ReadCode.l0 k1 (x0_1.extract ((wrap64 (1 + t262)) : Int).toNat x0_1.size) (x4_1 ++ [(⟨wrap64 (bt x0_1 0), t261⟩ : S44)])) else (none)) else (none)) else (none))) else (some (([] : List (S44)), false))) = some (r1, r2) := H
       have A11 := Aside0.mk A110
       clear A110
       by_cases c12 : t264 = true
       ·
        subst c12
        have H1 : (if (x4_1.length : Int) = 200 then (some (([] : List (S44)), false)) else (if x4_1.length < 8796093022208 then (if 0 ≤ (wrap64 (1 + t262)) then (if (wrap64 (1 + t262)) ≤ (x0_1.size : Int) then (impl_ReadCode.l0 k1 (x0_1.extract ((wrap64 (1 + t262)) : Int).toNat x0_1.size) (x4_1 ++ [(⟨wrap64 (bt x0_1 0), t261⟩ : S44)])) else (none)) else (none)) else (none))) = some (r1, r2) := by rw [if_pos rfl] at H; exact H
        clear H
        have H := H1
        clear H1
        by_cases c13 : (x4_1.length : Int) = 200
        ·
         rw [if_pos c13] at H
         have c13b0 : ((x4_1.length : Int) == 200) = true := beq_iff_eq.mpr c13
         have c13b1 : ((x4_1.length : Int) != 200) = false := bne_eq_false_iff_eq.mpr c13
         clear c13
         simp only [Option.some.injEq, Prod.mk.injEq] at H
         obtain ⟨rfl, rfl⟩ := H
         have p6 : 0 ≤ (0 : Int) := (by omega)
         have q6 : 0 < x0_1.size := (by have : (0 : Int) < (x0_1.size : Int) := od_; omega)
         have hx6 : ∀ h : 0 < x0_1.size, ((x0_1[0]'h).toNat : Int) = bt x0_1 0 := bt_at x0_1 0
         clear p6
         have qi6 : (0 < (x0_1.size : Int)) = True := eq_true (od_)
         replace q6 := eq_true q6
         go_wp2_with (first | ((with_reducible refine gate_dst (N := 5) rfl ?_); (try (refine gate_guard (by rfl) ?_; dsimp only)); refine box_event ?hg (N := 5) ?hd (cs := #[.int .i64 0, .int .i64 0]) (t := 44) ?hr ?_; (case hd => rfl); (case hg => rfl); (case hr => first | (go_simp; done) | (go_simp; rfl)); intro gb259 hg w14 hbox hb; have n0_ := Aside0.mk (Kd.R_below (Kd.R_elderB (kr_ HO_4.out) gb259 (Nat.le_of_eq hg.symm)) hb); have n1_ := Aside0.mk (below_step (bw HB.out) hb); have n2_ := Aside0.mk (hbox); have n3_ := Aside0.mk ((sz_ hg (bw HB.out) : w.heap.size ≤ gb259)); have n4_ := Aside0.mk ((sz_ hg (bw HB.out) : w.heap.size ≤ gb259)); clear HO_4; clear HB; have HO_4 := n0_; have HB := n1_; have BK259 := n2_; have GW259 := n3_; have GE259 := n4_; clear n0_ n1_ n2_ n3_ n4_; clear hb hbox hg; obtain ⟨hcz15_0, hcz15_1⟩ := cs2_ BK259.out; obtain ⟨hfz15_0, hfz15_1⟩ := fz2_ BK259.out; have hF15 := @twice1 _ _ _ hcz15_1; have hG15 := @twice2 _ _ _ hcz15_1) | (go_at_call 31; (with_reducible refine (impl_formOf.calls k1 (wrap64 (bt x0_1 0)) t260 _ A8.out).mono ?_); rintro e w' ⟨rfl, ⟨nd, rfl⟩⟩; (try first | exact ⟨rfl, _, World.drewN_drewN _ _ _⟩ | exact ⟨rfl, _, Eq.trans (World.drewN_drewN _ _ _) (congrArg (World.drewN _) (Nat.add_assoc _ _ _))⟩)) | (go_at_call 37; (with_reducible refine (impl_takeA.calls k1 (x0_1.extract 1 x0_1.size) t260 t261 t262 true _ A9.out).mono ?_); rintro e w' ⟨rfl, ⟨nd, rfl⟩⟩; (try first | exact ⟨rfl, _, World.drewN_drewN _ _ _⟩ | exact ⟨rfl, _, Eq.trans (World.drewN_drewN _ _ _) (congrArg (World.drewN _) (Nat.add_assoc _ _ _))⟩)) | (go_at_call 38; (with_reducible refine (impl_GoodIns.calls k1 (wrap64 (bt x0_1 0)) t261 true _ A11.out).mono ?_); rintro e w16 ⟨rfl, hb⟩; have n0_ := Aside0.mk (Kd.R_below (by (with_reducible repeat (first | apply Kd.R_alloc | apply Kd.R_drewN | apply Kd.R_drew)); exact (Kd.R_mono (Kd.R_far (p := ⟨gb259, 1, none⟩) (Kd.R_far (p := ⟨gb259, 1, none⟩) (Kd.R_far (p := ⟨gb259, 0, none⟩) (Kd.R_mono HO_4.out (fun k_ hk => (⟨hk, hk.2⟩ : _ ∧ k_ ≠ gb259))) (fun _ hk => hk.2) (.int .i64 (wrap64 (bt x0_1 0)))) (fun _ hk => hk.2) (.int .i64 0)) (fun _ hk => hk.2) (.int .i64 t261)) (fun _ h_ => h_.1))) hb); have n1_ := Aside0.mk (blk_below (g := gb259) (o := .cells #[.int .i64 (wrap64 (bt x0_1 0)), .int .i64 t261] 44 (0, 0)) (by refine blk_put (cs := #[.int .i64 (wrap64 (bt x0_1 0)), .int .i64 0]) ?_ 1 _ rfl; refine blk_put (cs := #[.int .i64 (wrap64 (bt x0_1 0)), .int .i64 0]) ?_ 1 _ rfl; refine blk_put (cs := #[.int .i64 0, .int .i64 0]) ?_ 0 _ rfl; (with_reducible repeat (first | refine blk_drewN ?_ _ | refine blk_drew ?_ | refine blk_alloc ?_ _)); exact BK259.out) hb); have n2_ := Aside0.mk (below_step (bw HB.out) hb); clear HO_4; clear BK259; clear HB; have HO_4 := n0_; have BK259 := n1_; have HB := n2_; clear n0_ n1_ n2_; (try clear hb); (try clear hb2); (try clear hk); (try clear hi); obtain ⟨Ao17, co17, eo17⟩ := Kd.R_slice HO_4.out; subst eo17))
         repeat (go_quiet (first | ((with_reducible refine gate_dst (N := 5) rfl ?_); (try (refine gate_guard (by rfl) ?_; dsimp only)); refine box_event ?hg (N := 5) ?hd (cs := #[.int .i64 0, .int .i64 0]) (t := 44) ?hr ?_; (case hd => rfl); (case hg => rfl); (case hr => first | (go_simp; done) | (go_simp; rfl)); intro gb259 hg w14 hbox hb; have n0_ := Aside0.mk (Kd.R_below (Kd.R_elderB (kr_ HO_4.out) gb259 (Nat.le_of_eq hg.symm)) hb); have n1_ := Aside0.mk (below_step (bw HB.out) hb); have n2_ := Aside0.mk (hbox); have n3_ := Aside0.mk ((sz_ hg (bw HB.out) : w.heap.size ≤ gb259)); have n4_ := Aside0.mk ((sz_ hg (bw HB.out) : w.heap.size ≤ gb259)); clear HO_4; clear HB; have HO_4 := n0_; have HB := n1_; have BK259 := n2_; have GW259 := n3_; have GE259 := n4_; clear n0_ n1_ n2_ n3_ n4_; clear hb hbox hg; obtain ⟨hcz15_0, hcz15_1⟩ := cs2_ BK259.out; obtain ⟨hfz15_0, hfz15_1⟩ := fz2_ BK259.out; have hF15 := @twice1 _ _ _ hcz15_1; have hG15 := @twice2 _ _ _ hcz15_1) | (go_at_call 31; (with_reducible refine (impl_formOf.calls k1 (wrap64 (bt x0_1 0)) t260 _ A8.out).mono ?_); rintro e w' ⟨rfl, ⟨nd, rfl⟩⟩; (try first | exact ⟨rfl, _, World.drewN_drewN _ _ _⟩ | exact ⟨rfl, _, Eq.trans (World.drewN_drewN _ _ _) (congrArg (World.drewN _) (Nat.add_assoc _ _ _))⟩)) | (go_at_call 37; (with_reducible refine (impl_takeA.calls k1 (x0_1.extract 1 x0_1.size) t260 t261 t262 true _ A9.out).mono ?_); rintro e w' ⟨rfl, ⟨nd, rfl⟩⟩; (try first | exact ⟨rfl, _, World.drewN_drewN _ _ _⟩ | exact ⟨rfl, _, Eq.trans (World.drewN_drewN _ _ _) (congrArg (World.drewN _) (Nat.add_assoc _ _ _))⟩)) | (go_at_call 38; (with_reducible refine (impl_GoodIns.calls k1 (wrap64 (bt x0_1 0)) t261 true _ A11.out).mono ?_); rintro e w16 ⟨rfl, hb⟩; have n0_ := Aside0.mk (Kd.R_below (by (with_reducible repeat (first | apply Kd.R_alloc | apply Kd.R_drewN | apply Kd.R_drew)); exact (Kd.R_mono (Kd.R_far (p := ⟨gb259, 1, none⟩) (Kd.R_far (p := ⟨gb259, 1, none⟩) (Kd.R_far (p := ⟨gb259, 0, none⟩) (Kd.R_mono HO_4.out (fun k_ hk => (⟨hk, hk.2⟩ : _ ∧ k_ ≠ gb259))) (fun _ hk => hk.2) (.int .i64 (wrap64 (bt x0_1 0)))) (fun _ hk => hk.2) (.int .i64 0)) (fun _ hk => hk.2) (.int .i64 t261)) (fun _ h_ => h_.1))) hb); have n1_ := Aside0.mk (blk_below (g := gb259) (o := .cells #[.int .i64 (wrap64 (bt x0_1 0)), .int .i64 t261] 44 (0, 0)) (by refine blk_put (cs := #[.int .i64 (wrap64 (bt x0_1 0)), .int .i64 0]) ?_ 1 _ rfl; refine blk_put (cs := #[.int .i64 (wrap64 (bt x0_1 0)), .int .i64 0]) ?_ 1 _ rfl; refine blk_put (cs := #[.int .i64 0, .int .i64 0]) ?_ 0 _ rfl; (with_reducible repeat (first | refine blk_drewN ?_ _ | refine blk_drew ?_ | refine blk_alloc ?_ _)); exact BK259.out) hb); have n2_ := Aside0.mk (below_step (bw HB.out) hb); clear HO_4; clear BK259; clear HB; have HO_4 := n0_; have BK259 := n1_; have HB := n2_; clear n0_ n1_ n2_; (try clear hb); (try clear hb2); (try clear hk); (try clear hi); obtain ⟨Ao17, co17, eo17⟩ := Kd.R_slice HO_4.out; subst eo17)); try go_wp2_with (first | ((with_reducible refine gate_dst (N := 5) rfl ?_); (try (refine gate_guard (by rfl) ?_; dsimp only)); refine box_event ?hg (N := 5) ?hd (cs := #[.int .i64 0, .int .i64 0]) (t := 44) ?hr ?_; (case hd => rfl); (case hg => rfl); (case hr => first | (go_simp; done) | (go_simp; rfl)); intro gb259 hg w14 hbox hb; have n0_ := Aside0.mk (Kd.R_below (Kd.R_elderB (kr_ HO_4.out) gb259 (Nat.le_of_eq hg.symm)) hb); have n1_ := Aside0.mk (below_step (bw HB.out) hb); have n2_ := Aside0.mk (hbox); have n3_ := Aside0.mk ((sz_ hg (bw HB.out) : w.heap.size ≤ gb259)); have n4_ := Aside0.mk ((sz_ hg (bw HB.out) : w.heap.size ≤ gb259)); clear HO_4; clear HB; have HO_4 := n0_; have HB := n1_; have BK259 := n2_; have GW259 := n3_; have GE259 := n4_; clear n0_ n1_ n2_ n3_ n4_; clear hb hbox hg; obtain ⟨hcz15_0, hcz15_1⟩ := cs2_ BK259.out; obtain ⟨hfz15_0, hfz15_1⟩ := fz2_ BK259.out; have hF15 := @twice1 _ _ _ hcz15_1; have hG15 := @twice2 _ _ _ hcz15_1) | (go_at_call 31; (with_reducible refine (impl_formOf.calls k1 (wrap64 (bt x0_1 0)) t260 _ A8.out).mono ?_); rintro e w' ⟨rfl, ⟨nd, rfl⟩⟩; (try first | exact ⟨rfl, _, World.drewN_drewN _ _ _⟩ | exact ⟨rfl, _, Eq.trans (World.drewN_drewN _ _ _) (congrArg (World.drewN _) (Nat.add_assoc _ _ _))⟩)) | (go_at_call 37; (with_reducible refine (impl_takeA.calls k1 (x0_1.extract 1 x0_1.size) t260 t261 t262 true _ A9.out).mono ?_); rintro e w' ⟨rfl, ⟨nd, rfl⟩⟩; (try first | exact ⟨rfl, _, World.drewN_drewN _ _ _⟩ | exact ⟨rfl, _, Eq.trans (World.drewN_drewN _ _ _) (congrArg (World.drewN _) (Nat.add_assoc _ _ _))⟩)) | (go_at_call 38; (with_reducible refine (impl_GoodIns.calls k1 (wrap64 (bt x0_1 0)) t261 true _ A11.out).mono ?_); rintro e w16 ⟨rfl, hb⟩; have n0_ := Aside0.mk (Kd.R_below (by (with_reducible repeat (first | apply Kd.R_alloc | apply Kd.R_drewN | apply Kd.R_drew)); exact (Kd.R_mono (Kd.R_far (p := ⟨gb259, 1, none⟩) (Kd.R_far (p := ⟨gb259, 1, none⟩) (Kd.R_far (p := ⟨gb259, 0, none⟩) (Kd.R_mono HO_4.out (fun k_ hk => (⟨hk, hk.2⟩ : _ ∧ k_ ≠ gb259))) (fun _ hk => hk.2) (.int .i64 (wrap64 (bt x0_1 0)))) (fun _ hk => hk.2) (.int .i64 0)) (fun _ hk => hk.2) (.int .i64 t261)) (fun _ h_ => h_.1))) hb); have n1_ := Aside0.mk (blk_below (g := gb259) (o := .cells #[.int .i64 (wrap64 (bt x0_1 0)), .int .i64 t261] 44 (0, 0)) (by refine blk_put (cs := #[.int .i64 (wrap64 (bt x0_1 0)), .int .i64 0]) ?_ 1 _ rfl; (with_reducible  repeat (first | refine blk_drewN ?_ _ | refine blk_drew ?_ | refine blk_alloc ?_ _)); refine blk_put (cs := #[.int .i64 (wrap64 (bt x0_1 0)), .int .i64 0]) ?_ 1 _ rfl; refine blk_put (cs := #[.int .i64 0, .int .i64 0]) ?_ 0 _ rfl; (with_reducible repeat (first | refine blk_drewN ?_ _ | refine blk_drew ?_ | refine blk_alloc ?_ _)); exact BK259.out) hb); have n2_ := Aside0.mk (below_step (bw HB.out) hb); clear HO_4; clear BK259; clear HB; have HO_4 := n0_; have BK259 := n1_; have HB := n2_; clear n0_ n1_ n2_; (try clear hb); (try clear hb2); (try clear hk); (try clear hi); obtain ⟨Ao17, co17, eo17⟩ := Kd.R_slice HO_4.out; subst eo17)))
         go_ret2
         exact ⟨_, rr_, by first | exact Kd.R_nil _ _ _ _ _ | exact Kd.N_nil _ _ _ _ _ | exact Kd.V_nil _ _ _ _ _ | exact Kd.Q_nil _ _ _ _ _ | exact Kd.S_nil _ _ _ _ _, bw HB.out⟩
        ·
         rw [if_neg c13] at H
         have c13b0 : ((x4_1.length : Int) == 200) = false := beq_eq_false_iff_ne.mpr c13
         have c13b1 : ((x4_1.length : Int) != 200) = true := bne_iff_ne.mpr c13
         by_cases c18 : x4_1.length < 8796093022208
         ·
          rw [if_pos c18] at H
          have LMc18 := Aside0.mk c18
          clear c18
          obtain ⟨y265, hy265⟩ : ∃ y_ : List (S44), y_ = (x4_1 ++ [(⟨wrap64 (bt x0_1 0), t261⟩ : S44)]) := ⟨_, rfl⟩
          replace H : (if 0 ≤ (wrap64 (1 + t262)) then (if (wrap64 (1 + t262)) ≤ (x0_1.size : Int) then (impl_ReadCode.l0 k1 (x0_1.extract ((wrap64 (1 + t262)) : Int).toNat x0_1.size) y265) else (none)) else (none)) = some (r1, r2) := by first | (rw [hy265]; with_reducible exact H) | (have H2_ := (Option.bind_some _ _).symm.trans H; rw [hy265]; with_reducible exact H2_) | (have H2_ := (Option.bind_some _ _).symm.trans H; with_reducible exact H2_) | with_reducible exact H | (rw [hy265]; exact H) | exact H
          have Ny265 := Aside0.mk hy265
          clear hy265
          obtain ⟨ji19, hji19⟩ : ∃ j_ : Int, (wrap64 (1 + t262)) = j_ := ⟨_, rfl⟩
          replace H : (if 0 ≤ (ji19) then (if (ji19) ≤ (x0_1.size : Int) then (impl_ReadCode.l0 k1 (x0_1.extract ((ji19) : Int).toNat x0_1.size) y265) else (none)) else (none)) = some (r1, r2) := by first | (rw [hji19] at H; exact H) | (simp only [hji19] at H ⊢; exact H)
          (try rw [hji19] at A8)
          (try rw [hji19] at A9)
          (try rw [hji19] at A11)
          have hji19w : (IntKind.i64.wrap (1 + t262)) = ji19 := (i64_w _).trans hji19
          by_cases c20 : 0 ≤ (ji19)
          ·
           rw [if_pos c20] at H
           have c20b0 := eq_true c20
           have c20b1 : decide (0 ≤ (ji19)) = true := decide_eq_true c20
           clear c20
           by_cases c21 : (ji19) ≤ (x0_1.size : Int)
           ·
            rw [if_pos c21] at H
            have c21b0 := eq_true c21
            have c21b1 : decide ((ji19) ≤ (x0_1.size : Int)) = true := decide_eq_true c21
            clear c21
            have H' := Aside0.mk H
            clear H
            have p6 : 0 ≤ (0 : Int) := (by omega)
            have q6 : 0 < x0_1.size := (by have : (0 : Int) < (x0_1.size : Int) := od_; omega)
            have hx6 : ∀ h : 0 < x0_1.size, ((x0_1[0]'h).toNat : Int) = bt x0_1 0 := bt_at x0_1 0
            clear p6
            have qi6 : (0 < (x0_1.size : Int)) = True := eq_true (od_)
            replace q6 := eq_true q6
            go_wp2_with (first | ((with_reducible refine gate_dst (N := 5) rfl ?_); (try (refine gate_guard (by rfl) ?_; dsimp only)); refine box_event ?hg (N := 5) ?hd (cs := #[.int .i64 0, .int .i64 0]) (t := 44) ?hr ?_; (case hd => rfl); (case hg => rfl); (case hr => first | (go_simp; done) | (go_simp; rfl)); intro gb259 hg w22 hbox hb; have n0_ := Aside0.mk (Kd.R_below (Kd.R_elderB (kr_ HO_4.out) gb259 (Nat.le_of_eq hg.symm)) hb); have n1_ := Aside0.mk (below_step (bw HB.out) hb); have n2_ := Aside0.mk (hbox); have n3_ := Aside0.mk ((sz_ hg (bw HB.out) : w.heap.size ≤ gb259)); have n4_ := Aside0.mk ((sz_ hg (bw HB.out) : w.heap.size ≤ gb259)); clear HO_4; clear HB; have HO_4 := n0_; have HB := n1_; have BK259 := n2_; have GW259 := n3_; have GE259 := n4_; clear n0_ n1_ n2_ n3_ n4_; clear hb hbox hg; obtain ⟨hcz23_0, hcz23_1⟩ := cs2_ BK259.out; obtain ⟨hfz23_0, hfz23_1⟩ := fz2_ BK259.out; have hF23 := @twice1 _ _ _ hcz23_1; have hG23 := @twice2 _ _ _ hcz23_1) | (go_at_call 31; (with_reducible refine (impl_formOf.calls k1 (wrap64 (bt x0_1 0)) t260 _ A8.out).mono ?_); rintro e w' ⟨rfl, ⟨nd, rfl⟩⟩; (try first | exact ⟨rfl, _, World.drewN_drewN _ _ _⟩ | exact ⟨rfl, _, Eq.trans (World.drewN_drewN _ _ _) (congrArg (World.drewN _) (Nat.add_assoc _ _ _))⟩)) | (go_at_call 37; (with_reducible refine (impl_takeA.calls k1 (x0_1.extract 1 x0_1.size) t260 t261 t262 true _ A9.out).mono ?_); rintro e w' ⟨rfl, ⟨nd, rfl⟩⟩; (try first | exact ⟨rfl, _, World.drewN_drewN _ _ _⟩ | exact ⟨rfl, _, Eq.trans (World.drewN_drewN _ _ _) (congrArg (World.drewN _) (Nat.add_assoc _ _ _))⟩)) | (go_at_call 38; (with_reducible refine (impl_GoodIns.calls k1 (wrap64 (bt x0_1 0)) t261 true _ A11.out).mono ?_); rintro e w24 ⟨rfl, hb⟩; have n0_ := Aside0.mk (Kd.R_below (by (with_reducible repeat (first | apply Kd.R_alloc | apply Kd.R_drewN | apply Kd.R_drew)); exact (Kd.R_mono (Kd.R_far (p := ⟨gb259, 1, none⟩) (Kd.R_far (p := ⟨gb259, 1, none⟩) (Kd.R_far (p := ⟨gb259, 0, none⟩) (Kd.R_mono HO_4.out (fun k_ hk => (⟨hk, hk.2⟩ : _ ∧ k_ ≠ gb259))) (fun _ hk => hk.2) (.int .i64 (wrap64 (bt x0_1 0)))) (fun _ hk => hk.2) (.int .i64 0)) (fun _ hk => hk.2) (.int .i64 t261)) (fun _ h_ => h_.1))) hb); have n1_ := Aside0.mk (blk_below (g := gb259) (o := .cells #[.int .i64 (wrap64 (bt x0_1 0)), .int .i64 t261] 44 (0, 0)) (by refine blk_put (cs := #[.int .i64 (wrap64 (bt x0_1 0)), .int .i64 0]) ?_ 1 _ rfl; refine blk_put (cs := #[.int .i64 (wrap64 (bt x0_1 0)), .int .i64 0]) ?_ 1 _ rfl; refine blk_put (cs := #[.int .i64 0, .int .i64 0]) ?_ 0 _ rfl; (with_reducible repeat (first | refine blk_drewN ?_ _ | refine blk_drew ?_ | refine blk_alloc ?_ _)); exact BK259.out) hb); have n2_ := Aside0.mk (below_step (bw HB.out) hb); clear HO_4; clear BK259; clear HB; have HO_4 := n0_; have BK259 := n1_; have HB := n2_; clear n0_ n1_ n2_; (try clear hb); (try clear hb2); (try clear hk); (try clear hi); obtain ⟨Ao25, co25, eo25⟩ := Kd.R_slice HO_4.out; subst eo25; obtain ⟨hcz26_0, hcz26_1⟩ := cs2_ BK259.out; obtain ⟨hfz26_0, hfz26_1⟩ := fz2_ BK259.out) | ((with_reducible refine gate_builtin (b := .append) (xs := #[.tmp 40, .tmp 42]) rfl ?_); (try (refine gate_guard (by rfl) ?_; dsimp only)); at_builtin; refine Kd.R_append k44 (w0 := w) w.heap.size rfl (.tmp 40) (.tmp 42) 23 44 (.agg #[(.int .i64 0), (.int .i64 0)]) 16 rfl Try.underlying23 info44 rfl (by decide) (by omega) (.slice Ao25 x4_1.length co25) x4_1 (⟨wrap64 (bt x0_1 0), t261⟩ : S44) [.int .i64 (wrap64 (bt x0_1 0)), .int .i64 t261] (fun k_ => k_ ≠ gb259) (fun _ => False) rfl rfl ?aP (fun _ hk => hk.elim) ?aF ?aO ?aB ?aS ?aL ?_; (case aP => exact k44_mkM _ _ _ (⟨wrap64 (bt x0_1 0), t261⟩ : S44)); (case aB => exact (bw HB.out)); (case aF => exact (fun k_ hk => Kd.freshB (g := gb259) (o := .cells #[.int .i64 (wrap64 (bt x0_1 0)), .int .i64 t261] 44 (0, 0)) (bk BK259.out) k_ hk)); (case aO => exact (by (with_reducible repeat (first | apply Kd.R_alloc | apply Kd.R_drewN | apply Kd.R_drew)); exact Kd.R_mono HO_4.out (fun _ hk => hk.2))); (case aS => exact (below_size (bw HB.out))); (case aL => have := LMc18.out; omega); intro v266 w27 ho hb hg hat; rw [← Ny265.out] at ho; have n0_ := Aside0.mk (blk_grown (g := gb259) (o := .cells #[.int .i64 (wrap64 (bt x0_1 0)), .int .i64 t261] 44 (0, 0)) (bk BK259.out) hg (Kd.R_away HO_4.out (fun _ hk => hk.2))); have n1_ := Aside0.mk (hb); have n2_ := Aside0.mk (ho); clear BK259; clear HB; clear HO_4; have BK259 := n0_; have HB := n1_; have HO267 := n2_; clear n0_ n1_ n2_; clear ho hb hg hat))
            repeat (go_quiet (first | ((with_reducible refine gate_dst (N := 5) rfl ?_); (try (refine gate_guard (by rfl) ?_; dsimp only)); refine box_event ?hg (N := 5) ?hd (cs := #[.int .i64 0, .int .i64 0]) (t := 44) ?hr ?_; (case hd => rfl); (case hg => rfl); (case hr => first | (go_simp; done) | (go_simp; rfl)); intro gb259 hg w22 hbox hb; have n0_ := Aside0.mk (Kd.R_below (Kd.R_elderB (kr_ HO_4.out) gb259 (Nat.le_of_eq hg.symm)) hb); have n1_ := Aside0.mk (below_step (bw HB.out) hb); have n2_ := Aside0.mk (hbox); have n3_ := Aside0.mk ((sz_ hg (bw HB.out) : w.heap.size ≤ gb259)); have n4_ := Aside0.mk ((sz_ hg (bw HB.out) : w.heap.size ≤ gb259)); clear HO_4; clear HB; have HO_4 := n0_; have HB := n1_; have BK259 := n2_; have GW259 := n3_; have GE259 := n4_; clear n0_ n1_ n2_ n3_ n4_; clear hb hbox hg; obtain ⟨hcz23_0, hcz23_1⟩ := cs2_ BK259.out; obtain ⟨hfz23_0, hfz23_1⟩ := fz2_ BK259.out; have hF23 := @twice1 _ _ _ hcz23_1; have hG23 := @twice2 _ _ _ hcz23_1) | (go_at_call 31; (with_reducible refine (impl_formOf.calls k1 (wrap64 (bt x0_1 0)) t260 _ A8.out).mono ?_); rintro e w' ⟨rfl, ⟨nd, rfl⟩⟩; (try first | exact ⟨rfl, _, World.drewN_drewN _ _ _⟩ | exact ⟨rfl, _, Eq.trans (World.drewN_drewN _ _ _) (congrArg (World.drewN _) (Nat.add_assoc _ _ _))⟩)) | (go_at_call 37; (with_reducible refine (impl_takeA.calls k1 (x0_1.extract 1 x0_1.size) t260 t261 t262 true _ A9.out).mono ?_); rintro e w' ⟨rfl, ⟨nd, rfl⟩⟩; (try first | exact ⟨rfl, _, World.drewN_drewN _ _ _⟩ | exact ⟨rfl, _, Eq.trans (World.drewN_drewN _ _ _) (congrArg (World.drewN _) (Nat.add_assoc _ _ _))⟩)) | (go_at_call 38; (with_reducible refine (impl_GoodIns.calls k1 (wrap64 (bt x0_1 0)) t261 true _ A11.out).mono ?_); rintro e w24 ⟨rfl, hb⟩; have n0_ := Aside0.mk (Kd.R_below (by (with_reducible repeat (first | apply Kd.R_alloc | apply Kd.R_drewN | apply Kd.R_drew)); exact (Kd.R_mono (Kd.R_far (p := ⟨gb259, 1, none⟩) (Kd.R_far (p := ⟨gb259, 1, none⟩) (Kd.R_far (p := ⟨gb259, 0, none⟩) (Kd.R_mono HO_4.out (fun k_ hk => (⟨hk, hk.2⟩ : _ ∧ k_ ≠ gb259))) (fun _ hk => hk.2) (.int .i64 (wrap64 (bt x0_1 0)))) (fun _ hk => hk.2) (.int .i64 0)) (fun _ hk => hk.2) (.int .i64 t261)) (fun _ h_ => h_.1))) hb); have n1_ := Aside0.mk (blk_below (g := gb259) (o := .cells #[.int .i64 (wrap64 (bt x0_1 0)), .int .i64 t261] 44 (0, 0)) (by refine blk_put (cs := #[.int .i64 (wrap64 (bt x0_1 0)), .int .i64 0]) ?_ 1 _ rfl; refine blk_put (cs := #[.int .i64 (wrap64 (bt x0_1 0)), .int .i64 0]) ?_ 1 _ rfl; refine blk_put (cs := #[.int .i64 0, .int .i64 0]) ?_ 0 _ rfl; (with_reducible repeat (first | refine blk_drewN ?_ _ | refine blk_drew ?_ | refine blk_alloc ?_ _)); exact BK259.out) hb); have n2_ := Aside0.mk (below_step (bw HB.out) hb); clear HO_4; clear BK259; clear HB; have HO_4 := n0_; have BK259 := n1_; have HB := n2_; clear n0_ n1_ n2_; (try clear hb); (try clear hb2); (try clear hk); (try clear hi); obtain ⟨Ao25, co25, eo25⟩ := Kd.R_slice HO_4.out; subst eo25; obtain ⟨hcz26_0, hcz26_1⟩ := cs2_ BK259.out; obtain ⟨hfz26_0, hfz26_1⟩ := fz2_ BK259.out) | ((with_reducible refine gate_builtin (b := .append) (xs := #[.tmp 40, .tmp 42]) rfl ?_); (try (refine gate_guard (by rfl) ?_; dsimp only)); at_builtin; refine Kd.R_append k44 (w0 := w) w.heap.size rfl (.tmp 40) (.tmp 42) 23 44 (.agg #[(.int .i64 0), (.int .i64 0)]) 16 rfl Try.underlying23 info44 rfl (by decide) (by omega) (.slice Ao25 x4_1.length co25) x4_1 (⟨wrap64 (bt x0_1 0), t261⟩ : S44) [.int .i64 (wrap64 (bt x0_1 0)), .int .i64 t261] (fun k_ => k_ ≠ gb259) (fun _ => False) rfl rfl ?aP (fun _ hk => hk.elim) ?aF ?aO ?aB ?aS ?aL ?_; (case aP => exact k44_mkM _ _ _ (⟨wrap64 (bt x0_1 0), t261⟩ : S44)); (case aB => exact (bw HB.out)); (case aF => exact (fun k_ hk => Kd.freshB (g := gb259) (o := .cells #[.int .i64 (wrap64 (bt x0_1 0)), .int .i64 t261] 44 (0, 0)) (bk BK259.out) k_ hk)); (case aO => exact (by (with_reducible repeat (first | apply Kd.R_alloc | apply Kd.R_drewN | apply Kd.R_drew)); exact Kd.R_mono HO_4.out (fun _ hk => hk.2))); (case aS => exact (below_size (bw HB.out))); (case aL => have := LMc18.out; omega); intro v266 w27 ho hb hg hat; rw [← Ny265.out] at ho; have n0_ := Aside0.mk (blk_grown (g := gb259) (o := .cells #[.int .i64 (wrap64 (bt x0_1 0)), .int .i64 t261] 44 (0, 0)) (bk BK259.out) hg (Kd.R_away HO_4.out (fun _ hk => hk.2))); have n1_ := Aside0.mk (hb); have n2_ := Aside0.mk (ho); clear BK259; clear HB; clear HO_4; have BK259 := n0_; have HB := n1_; have HO267 := n2_; clear n0_ n1_ n2_; clear ho hb hg hat)); try go_wp2_with (first | ((with_reducible refine gate_dst (N := 5) rfl ?_); (try (refine gate_guard (by rfl) ?_; dsimp only)); refine box_event ?hg (N := 5) ?hd (cs := #[.int .i64 0, .int .i64 0]) (t := 44) ?hr ?_; (case hd => rfl); (case hg => rfl); (case hr => first | (go_simp; done) | (go_simp; rfl)); intro gb259 hg w22 hbox hb; have n0_ := Aside0.mk (Kd.R_below (Kd.R_elderB (kr_ HO_4.out) gb259 (Nat.le_of_eq hg.symm)) hb); have n1_ := Aside0.mk (below_step (bw HB.out) hb); have n2_ := Aside0.mk (hbox); have n3_ := Aside0.mk ((sz_ hg (bw HB.out) : w.heap.size ≤ gb259)); have n4_ := Aside0.mk ((sz_ hg (bw HB.out) : w.heap.size ≤ gb259)); clear HO_4; clear HB; have HO_4 := n0_; have HB := n1_; have BK259 := n2_; have GW259 := n3_; have GE259 := n4_; clear n0_ n1_ n2_ n3_ n4_; clear hb hbox hg; obtain ⟨hcz23_0, hcz23_1⟩ := cs2_ BK259.out; obtain ⟨hfz23_0, hfz23_1⟩ := fz2_ BK259.out; have hF23 := @twice1 _ _ _ hcz23_1; have hG23 := @twice2 _ _ _ hcz23_1) | (go_at_call 31; (with_reducible refine (impl_formOf.calls k1 (wrap64 (bt x0_1 0)) t260 _ A8.out).mono ?_); rintro e w' ⟨rfl, ⟨nd, rfl⟩⟩; (try first | exact ⟨rfl, _, World.drewN_drewN _ _ _⟩ | exact ⟨rfl, _, Eq.trans (World.drewN_drewN _ _ _) (congrArg (World.drewN _) (Nat.add_assoc _ _ _))⟩)) | (go_at_call 37; (with_reducible refine (impl_takeA.calls k1 (x0_1.extract 1 x0_1.size) t260 t261 t262 true _ A9.out).mono ?_); rintro e w' ⟨rfl, ⟨nd, rfl⟩⟩; (try first | exact ⟨rfl, _, World.drewN_drewN _ _ _⟩ | exact ⟨rfl, _, Eq.trans (World.drewN_drewN _ _ _) (congrArg (World.drewN _) (Nat.add_assoc _ _ _))⟩)) | (go_at_call 38; (with_reducible refine (impl_GoodIns.calls k1 (wrap64 (bt x0_1 0)) t261 true _ A11.out).mono ?_); rintro e w24 ⟨rfl, hb⟩; have n0_ := Aside0.mk (Kd.R_below (by (with_reducible repeat (first | apply Kd.R_alloc | apply Kd.R_drewN | apply Kd.R_drew)); exact (Kd.R_mono (Kd.R_far (p := ⟨gb259, 1, none⟩) (Kd.R_far (p := ⟨gb259, 1, none⟩) (Kd.R_far (p := ⟨gb259, 0, none⟩) (Kd.R_mono HO_4.out (fun k_ hk => (⟨hk, hk.2⟩ : _ ∧ k_ ≠ gb259))) (fun _ hk => hk.2) (.int .i64 (wrap64 (bt x0_1 0)))) (fun _ hk => hk.2) (.int .i64 0)) (fun _ hk => hk.2) (.int .i64 t261)) (fun _ h_ => h_.1))) hb); have n1_ := Aside0.mk (blk_below (g := gb259) (o := .cells #[.int .i64 (wrap64 (bt x0_1 0)), .int .i64 t261] 44 (0, 0)) (by refine blk_put (cs := #[.int .i64 (wrap64 (bt x0_1 0)), .int .i64 0]) ?_ 1 _ rfl; (with_reducible  repeat (first | refine blk_drewN ?_ _ | refine blk_drew ?_ | refine blk_alloc ?_ _)); refine blk_put (cs := #[.int .i64 (wrap64 (bt x0_1 0)), .int .i64 0]) ?_ 1 _ rfl; refine blk_put (cs := #[.int .i64 0, .int .i64 0]) ?_ 0 _ rfl; (with_reducible repeat (first | refine blk_drewN ?_ _ | refine blk_drew ?_ | refine blk_alloc ?_ _)); exact BK259.out) hb); have n2_ := Aside0.mk (below_step (bw HB.out) hb); clear HO_4; clear BK259; clear HB; have HO_4 := n0_; have BK259 := n1_; have HB := n2_; clear n0_ n1_ n2_; (try clear hb); (try clear hb2); (try clear hk); (try clear hi); obtain ⟨Ao25, co25, eo25⟩ := Kd.R_slice HO_4.out; subst eo25; obtain ⟨hcz26_0, hcz26_1⟩ := cs2_ BK259.out; obtain ⟨hfz26_0, hfz26_1⟩ := fz2_ BK259.out) | ((with_reducible refine gate_builtin (b := .append) (xs := #[.tmp 40, .tmp 42]) rfl ?_); (try (refine gate_guard (by rfl) ?_; dsimp only)); at_builtin; refine Kd.R_append k44 (w0 := w) w.heap.size rfl (.tmp 40) (.tmp 42) 23 44 (.agg #[(.int .i64 0), (.int .i64 0)]) 16 rfl Try.underlying23 info44 rfl (by decide) (by omega) (.slice Ao25 x4_1.length co25) x4_1 (⟨wrap64 (bt x0_1 0), t261⟩ : S44) [.int .i64 (wrap64 (bt x0_1 0)), .int .i64 t261] (fun k_ => k_ ≠ gb259) (fun _ => False) rfl rfl ?aP (fun _ hk => hk.elim) ?aF ?aO ?aB ?aS ?aL ?_; (case aP => exact k44_mkM _ _ _ (⟨wrap64 (bt x0_1 0), t261⟩ : S44)); (case aB => exact (bw HB.out)); (case aF => exact (fun k_ hk => Kd.freshB (g := gb259) (o := .cells #[.int .i64 (wrap64 (bt x0_1 0)), .int .i64 t261] 44 (0, 0)) (bk BK259.out) k_ hk)); (case aO => exact (by (with_reducible repeat (first | apply Kd.R_alloc | apply Kd.R_drewN | apply Kd.R_drew)); exact Kd.R_mono HO_4.out (fun _ hk => hk.2))); (case aS => exact (below_size (bw HB.out))); (case aL => have := LMc18.out; omega); intro v266 w27 ho hb hg hat; rw [← Ny265.out] at ho; have n0_ := Aside0.mk (blk_grown (g := gb259) (o := .cells #[.int .i64 (wrap64 (bt x0_1 0)), .int .i64 t261] 44 (0, 0)) (bk BK259.out) hg (Kd.R_away HO_4.out (fun _ hk => hk.2))); have n1_ := Aside0.mk (hb); have n2_ := Aside0.mk (ho); clear BK259; clear HB; clear HO_4; have BK259 := n0_; have HB := n1_; have HO267 := n2_; clear n0_ n1_ n2_; clear ho hb hg hat)))
            go_roundg k1
            case measure => have := HK1.out; omega
            case rel => exact ⟨(x0_1.extract ((ji19) : Int).toNat x0_1.size), (y265), (by first | rfl | (simp; done) | (simp only [← hji19] <;> (first | rfl | simp)) | (simp [*]; done)), H', ⟨by have := HK1.out; omega⟩, ⟨by (with_reducible repeat (first | apply Kd.R_alloc | apply Kd.R_drewN | apply Kd.R_drew)); exact Kd.R_mono HO267.out (fun _ hk => trivial)⟩, ⟨bw HB.out⟩⟩
           ·
            rw [if_neg c21] at H
            exact absurd H (by simp)
          ·
           rw [if_neg c20] at H
           exact absurd H (by simp)
         ·
          rw [if_neg c18] at H
          exact absurd H (by simp)
       ·
        replace c12 := Bool.eq_false_iff.mpr c12
        subst c12
        have H1 : (some (([] : List (S44)), false)) = some (r1, r2) := by rw [if_neg (show ¬ (false = true) by decide)] at H; exact H
        clear H
        have H := H1
        clear H1
        simp only [Option.some.injEq, Prod.mk.injEq] at H
        obtain ⟨rfl, rfl⟩ := H
        have p6 : 0 ≤ (0 : Int) := (by omega)
        have q6 : 0 < x0_1.size := (by have : (0 : Int) < (x0_1.size : Int) := od_; omega)
        have hx6 : ∀ h : 0 < x0_1.size, ((x0_1[0]'h).toNat : Int) = bt x0_1 0 := bt_at x0_1 0
        clear p6
        have qi6 : (0 < (x0_1.size : Int)) = True := eq_true (od_)
        replace q6 := eq_true q6
        go_wp2_with (first | ((with_reducible refine gate_dst (N := 5) rfl ?_); (try (refine gate_guard (by rfl) ?_; dsimp only)); refine box_event ?hg (N := 5) ?hd (cs := #[.int .i64 0, .int .i64 0]) (t := 44) ?hr ?_; (case hd => rfl); (case hg => rfl); (case hr => first | (go_simp; done) | (go_simp; rfl)); intro gb259 hg w28 hbox hb; have n0_ := Aside0.mk (Kd.R_below (Kd.R_elderB (kr_ HO_4.out) gb259 (Nat.le_of_eq hg.symm)) hb); have n1_ := Aside0.mk (below_step (bw HB.out) hb); have n2_ := Aside0.mk (hbox); have n3_ := Aside0.mk ((sz_ hg (bw HB.out) : w.heap.size ≤ gb259)); have n4_ := Aside0.mk ((sz_ hg (bw HB.out) : w.heap.size ≤ gb259)); clear HO_4; clear HB; have HO_4 := n0_; have HB := n1_; have BK259 := n2_; have GW259 := n3_; have GE259 := n4_; clear n0_ n1_ n2_ n3_ n4_; clear hb hbox hg; obtain ⟨hcz29_0, hcz29_1⟩ := cs2_ BK259.out; obtain ⟨hfz29_0, hfz29_1⟩ := fz2_ BK259.out; have hF29 := @twice1 _ _ _ hcz29_1; have hG29 := @twice2 _ _ _ hcz29_1) | (go_at_call 31; (with_reducible refine (impl_formOf.calls k1 (wrap64 (bt x0_1 0)) t260 _ A8.out).mono ?_); rintro e w' ⟨rfl, ⟨nd, rfl⟩⟩; (try first | exact ⟨rfl, _, World.drewN_drewN _ _ _⟩ | exact ⟨rfl, _, Eq.trans (World.drewN_drewN _ _ _) (congrArg (World.drewN _) (Nat.add_assoc _ _ _))⟩)) | (go_at_call 37; (with_reducible refine (impl_takeA.calls k1 (x0_1.extract 1 x0_1.size) t260 t261 t262 true _ A9.out).mono ?_); rintro e w' ⟨rfl, ⟨nd, rfl⟩⟩; (try first | exact ⟨rfl, _, World.drewN_drewN _ _ _⟩ | exact ⟨rfl, _, Eq.trans (World.drewN_drewN _ _ _) (congrArg (World.drewN _) (Nat.add_assoc _ _ _))⟩)) | (go_at_call 38; (with_reducible refine (impl_GoodIns.calls k1 (wrap64 (bt x0_1 0)) t261 false _ A11.out).mono ?_); rintro e w30 ⟨rfl, hb⟩; have n0_ := Aside0.mk (Kd.R_below (by (with_reducible repeat (first | apply Kd.R_alloc | apply Kd.R_drewN | apply Kd.R_drew)); exact (Kd.R_mono (Kd.R_far (p := ⟨gb259, 1, none⟩) (Kd.R_far (p := ⟨gb259, 1, none⟩) (Kd.R_far (p := ⟨gb259, 0, none⟩) (Kd.R_mono HO_4.out (fun k_ hk => (⟨hk, hk.2⟩ : _ ∧ k_ ≠ gb259))) (fun _ hk => hk.2) (.int .i64 (wrap64 (bt x0_1 0)))) (fun _ hk => hk.2) (.int .i64 0)) (fun _ hk => hk.2) (.int .i64 t261)) (fun _ h_ => h_.1))) hb); have n1_ := Aside0.mk (blk_below (g := gb259) (o := .cells #[.int .i64 (wrap64 (bt x0_1 0)), .int .i64 t261] 44 (0, 0)) (by refine blk_put (cs := #[.int .i64 (wrap64 (bt x0_1 0)), .int .i64 0]) ?_ 1 _ rfl; refine blk_put (cs := #[.int .i64 (wrap64 (bt x0_1 0)), .int .i64 0]) ?_ 1 _ rfl; refine blk_put (cs := #[.int .i64 0, .int .i64 0]) ?_ 0 _ rfl; (with_reducible repeat (first | refine blk_drewN ?_ _ | refine blk_drew ?_ | refine blk_alloc ?_ _)); exact BK259.out) hb); have n2_ := Aside0.mk (below_step (bw HB.out) hb); clear HO_4; clear BK259; clear HB; have HO_4 := n0_; have BK259 := n1_; have HB := n2_; clear n0_ n1_ n2_; (try clear hb); (try clear hb2); (try clear hk); (try clear hi)))
        repeat (go_quiet (first | ((with_reducible refine gate_dst (N := 5) rfl ?_); (try (refine gate_guard (by rfl) ?_; dsimp only)); refine box_event ?hg (N := 5) ?hd (cs := #[.int .i64 0, .int .i64 0]) (t := 44) ?hr ?_; (case hd => rfl); (case hg => rfl); (case hr => first | (go_simp; done) | (go_simp; rfl)); intro gb259 hg w28 hbox hb; have n0_ := Aside0.mk (Kd.R_below (Kd.R_elderB (kr_ HO_4.out) gb259 (Nat.le_of_eq hg.symm)) hb); have n1_ := Aside0.mk (below_step (bw HB.out) hb); have n2_ := Aside0.mk (hbox); have n3_ := Aside0.mk ((sz_ hg (bw HB.out) : w.heap.size ≤ gb259)); have n4_ := Aside0.mk ((sz_ hg (bw HB.out) : w.heap.size ≤ gb259)); clear HO_4; clear HB; have HO_4 := n0_; have HB := n1_; have BK259 := n2_; have GW259 := n3_; have GE259 := n4_; clear n0_ n1_ n2_ n3_ n4_; clear hb hbox hg; obtain ⟨hcz29_0, hcz29_1⟩ := cs2_ BK259.out; obtain ⟨hfz29_0, hfz29_1⟩ := fz2_ BK259.out; have hF29 := @twice1 _ _ _ hcz29_1; have hG29 := @twice2 _ _ _ hcz29_1) | (go_at_call 31; (with_reducible refine (impl_formOf.calls k1 (wrap64 (bt x0_1 0)) t260 _ A8.out).mono ?_); rintro e w' ⟨rfl, ⟨nd, rfl⟩⟩; (try first | exact ⟨rfl, _, World.drewN_drewN _ _ _⟩ | exact ⟨rfl, _, Eq.trans (World.drewN_drewN _ _ _) (congrArg (World.drewN _) (Nat.add_assoc _ _ _))⟩)) | (go_at_call 37; (with_reducible refine (impl_takeA.calls k1 (x0_1.extract 1 x0_1.size) t260 t261 t262 true _ A9.out).mono ?_); rintro e w' ⟨rfl, ⟨nd, rfl⟩⟩; (try first | exact ⟨rfl, _, World.drewN_drewN _ _ _⟩ | exact ⟨rfl, _, Eq.trans (World.drewN_drewN _ _ _) (congrArg (World.drewN _) (Nat.add_assoc _ _ _))⟩)) | (go_at_call 38; (with_reducible refine (impl_GoodIns.calls k1 (wrap64 (bt x0_1 0)) t261 false _ A11.out).mono ?_); rintro e w30 ⟨rfl, hb⟩; have n0_ := Aside0.mk (Kd.R_below (by (with_reducible repeat (first | apply Kd.R_alloc | apply Kd.R_drewN | apply Kd.R_drew)); exact (Kd.R_mono (Kd.R_far (p := ⟨gb259, 1, none⟩) (Kd.R_far (p := ⟨gb259, 1, none⟩) (Kd.R_far (p := ⟨gb259, 0, none⟩) (Kd.R_mono HO_4.out (fun k_ hk => (⟨hk, hk.2⟩ : _ ∧ k_ ≠ gb259))) (fun _ hk => hk.2) (.int .i64 (wrap64 (bt x0_1 0)))) (fun _ hk => hk.2) (.int .i64 0)) (fun _ hk => hk.2) (.int .i64 t261)) (fun _ h_ => h_.1))) hb); have n1_ := Aside0.mk (blk_below (g := gb259) (o := .cells #[.int .i64 (wrap64 (bt x0_1 0)), .int .i64 t261] 44 (0, 0)) (by refine blk_put (cs := #[.int .i64 (wrap64 (bt x0_1 0)), .int .i64 0]) ?_ 1 _ rfl; refine blk_put (cs := #[.int .i64 (wrap64 (bt x0_1 0)), .int .i64 0]) ?_ 1 _ rfl; refine blk_put (cs := #[.int .i64 0, .int .i64 0]) ?_ 0 _ rfl; (with_reducible repeat (first | refine blk_drewN ?_ _ | refine blk_drew ?_ | refine blk_alloc ?_ _)); exact BK259.out) hb); have n2_ := Aside0.mk (below_step (bw HB.out) hb); clear HO_4; clear BK259; clear HB; have HO_4 := n0_; have BK259 := n1_; have HB := n2_; clear n0_ n1_ n2_; (try clear hb); (try clear hb2); (try clear hk); (try clear hi))); try go_wp2_with (first | ((with_reducible refine gate_dst (N := 5) rfl ?_); (try (refine gate_guard (by rfl) ?_; dsimp only)); refine box_event ?hg (N := 5) ?hd (cs := #[.int .i64 0, .int .i64 0]) (t := 44) ?hr ?_; (case hd => rfl); (case hg => rfl); (case hr => first | (go_simp; done) | (go_simp; rfl)); intro gb259 hg w28 hbox hb; have n0_ := Aside0.mk (Kd.R_below (Kd.R_elderB (kr_ HO_4.out) gb259 (Nat.le_of_eq hg.symm)) hb); have n1_ := Aside0.mk (below_step (bw HB.out) hb); have n2_ := Aside0.mk (hbox); have n3_ := Aside0.mk ((sz_ hg (bw HB.out) : w.heap.size ≤ gb259)); have n4_ := Aside0.mk ((sz_ hg (bw HB.out) : w.heap.size ≤ gb259)); clear HO_4; clear HB; have HO_4 := n0_; have HB := n1_; have BK259 := n2_; have GW259 := n3_; have GE259 := n4_; clear n0_ n1_ n2_ n3_ n4_; clear hb hbox hg; obtain ⟨hcz29_0, hcz29_1⟩ := cs2_ BK259.out; obtain ⟨hfz29_0, hfz29_1⟩ := fz2_ BK259.out; have hF29 := @twice1 _ _ _ hcz29_1; have hG29 := @twice2 _ _ _ hcz29_1) | (go_at_call 31; (with_reducible refine (impl_formOf.calls k1 (wrap64 (bt x0_1 0)) t260 _ A8.out).mono ?_); rintro e w' ⟨rfl, ⟨nd, rfl⟩⟩; (try first | exact ⟨rfl, _, World.drewN_drewN _ _ _⟩ | exact ⟨rfl, _, Eq.trans (World.drewN_drewN _ _ _) (congrArg (World.drewN _) (Nat.add_assoc _ _ _))⟩)) | (go_at_call 37; (with_reducible refine (impl_takeA.calls k1 (x0_1.extract 1 x0_1.size) t260 t261 t262 true _ A9.out).mono ?_); rintro e w' ⟨rfl, ⟨nd, rfl⟩⟩; (try first | exact ⟨rfl, _, World.drewN_drewN _ _ _⟩ | exact ⟨rfl, _, Eq.trans (World.drewN_drewN _ _ _) (congrArg (World.drewN _) (Nat.add_assoc _ _ _))⟩)) | (go_at_call 38; (with_reducible refine (impl_GoodIns.calls k1 (wrap64 (bt x0_1 0)) t261 false _ A11.out).mono ?_); rintro e w30 ⟨rfl, hb⟩; have n0_ := Aside0.mk (Kd.R_below (by (with_reducible repeat (first | apply Kd.R_alloc | apply Kd.R_drewN | apply Kd.R_drew)); exact (Kd.R_mono (Kd.R_far (p := ⟨gb259, 1, none⟩) (Kd.R_far (p := ⟨gb259, 1, none⟩) (Kd.R_far (p := ⟨gb259, 0, none⟩) (Kd.R_mono HO_4.out (fun k_ hk => (⟨hk, hk.2⟩ : _ ∧ k_ ≠ gb259))) (fun _ hk => hk.2) (.int .i64 (wrap64 (bt x0_1 0)))) (fun _ hk => hk.2) (.int .i64 0)) (fun _ hk => hk.2) (.int .i64 t261)) (fun _ h_ => h_.1))) hb); have n1_ := Aside0.mk (blk_below (g := gb259) (o := .cells #[.int .i64 (wrap64 (bt x0_1 0)), .int .i64 t261] 44 (0, 0)) (by refine blk_put (cs := #[.int .i64 (wrap64 (bt x0_1 0)), .int .i64 0]) ?_ 1 _ rfl; (with_reducible  repeat (first | refine blk_drewN ?_ _ | refine blk_drew ?_ | refine blk_alloc ?_ _)); refine blk_put (cs := #[.int .i64 (wrap64 (bt x0_1 0)), .int .i64 0]) ?_ 1 _ rfl; refine blk_put (cs := #[.int .i64 0, .int .i64 0]) ?_ 0 _ rfl; (with_reducible repeat (first | refine blk_drewN ?_ _ | refine blk_drew ?_ | refine blk_alloc ?_ _)); exact BK259.out) hb); have n2_ := Aside0.mk (below_step (bw HB.out) hb); clear HO_4; clear BK259; clear HB; have HO_4 := n0_; have BK259 := n1_; have HB := n2_; clear n0_ n1_ n2_; (try clear hb); (try clear hb2); (try clear hk); (try clear hi))))
        go_ret2
        exact ⟨_, rr_, by first | exact Kd.R_nil _ _ _ _ _ | exact Kd.N_nil _ _ _ _ _ | exact Kd.V_nil _ _ _ _ _ | exact Kd.Q_nil _ _ _ _ _ | exact Kd.S_nil _ _ _ _ _, bw HB.out⟩
      ·
       replace c10 := Bool.eq_false_iff.mpr c10
       subst c10
       have H1 : (some (([] : List (S44)), false)) = some (r1, r2) := by rw [if_neg (show ¬ (false = true) by decide)] at H; exact H
       clear H
       have H := H1
       clear H1
       simp only [Option.some.injEq, Prod.mk.injEq] at H
       obtain ⟨rfl, rfl⟩ := H
       have p6 : 0 ≤ (0 : Int) := (by omega)
       have q6 : 0 < x0_1.size := (by have : (0 : Int) < (x0_1.size : Int) := od_; omega)
       have hx6 : ∀ h : 0 < x0_1.size, ((x0_1[0]'h).toNat : Int) = bt x0_1 0 := bt_at x0_1 0
       clear p6
       have qi6 : (0 < (x0_1.size : Int)) = True := eq_true (od_)
       replace q6 := eq_true q6
       go_wp2_with (first | ((with_reducible refine gate_dst (N := 5) rfl ?_); (try (refine gate_guard (by rfl) ?_; dsimp only)); refine box_event ?hg (N := 5) ?hd (cs := #[.int .i64 0, .int .i64 0]) (t := 44) ?hr ?_; (case hd => rfl); (case hg => rfl); (case hr => first | (go_simp; done) | (go_simp; rfl)); intro gb259 hg w31 hbox hb; have n0_ := Aside0.mk (Kd.R_below (Kd.R_elderB (kr_ HO_4.out) gb259 (Nat.le_of_eq hg.symm)) hb); have n1_ := Aside0.mk (below_step (bw HB.out) hb); have n2_ := Aside0.mk (hbox); have n3_ := Aside0.mk ((sz_ hg (bw HB.out) : w.heap.size ≤ gb259)); have n4_ := Aside0.mk ((sz_ hg (bw HB.out) : w.heap.size ≤ gb259)); clear HO_4; clear HB; have HO_4 := n0_; have HB := n1_; have BK259 := n2_; have GW259 := n3_; have GE259 := n4_; clear n0_ n1_ n2_ n3_ n4_; clear hb hbox hg; obtain ⟨hcz32_0, hcz32_1⟩ := cs2_ BK259.out; obtain ⟨hfz32_0, hfz32_1⟩ := fz2_ BK259.out; have hF32 := @twice1 _ _ _ hcz32_1; have hG32 := @twice2 _ _ _ hcz32_1) | (go_at_call 31; (with_reducible refine (impl_formOf.calls k1 (wrap64 (bt x0_1 0)) t260 _ A8.out).mono ?_); rintro e w' ⟨rfl, ⟨nd, rfl⟩⟩; (try first | exact ⟨rfl, _, World.drewN_drewN _ _ _⟩ | exact ⟨rfl, _, Eq.trans (World.drewN_drewN _ _ _) (congrArg (World.drewN _) (Nat.add_assoc _ _ _))⟩)) | (go_at_call 37; (with_reducible refine (impl_takeA.calls k1 (x0_1.extract 1 x0_1.size) t260 t261 t262 false _ A9.out).mono ?_); rintro e w' ⟨rfl, ⟨nd, rfl⟩⟩; (try first | exact ⟨rfl, _, World.drewN_drewN _ _ _⟩ | exact ⟨rfl, _, Eq.trans (World.drewN_drewN _ _ _) (congrArg (World.drewN _) (Nat.add_assoc _ _ _))⟩)))
       repeat (go_quiet (first | ((with_reducible refine gate_dst (N := 5) rfl ?_); (try (refine gate_guard (by rfl) ?_; dsimp only)); refine box_event ?hg (N := 5) ?hd (cs := #[.int .i64 0, .int .i64 0]) (t := 44) ?hr ?_; (case hd => rfl); (case hg => rfl); (case hr => first | (go_simp; done) | (go_simp; rfl)); intro gb259 hg w31 hbox hb; have n0_ := Aside0.mk (Kd.R_below (Kd.R_elderB (kr_ HO_4.out) gb259 (Nat.le_of_eq hg.symm)) hb); have n1_ := Aside0.mk (below_step (bw HB.out) hb); have n2_ := Aside0.mk (hbox); have n3_ := Aside0.mk ((sz_ hg (bw HB.out) : w.heap.size ≤ gb259)); have n4_ := Aside0.mk ((sz_ hg (bw HB.out) : w.heap.size ≤ gb259)); clear HO_4; clear HB; have HO_4 := n0_; have HB := n1_; have BK259 := n2_; have GW259 := n3_; have GE259 := n4_; clear n0_ n1_ n2_ n3_ n4_; clear hb hbox hg; obtain ⟨hcz32_0, hcz32_1⟩ := cs2_ BK259.out; obtain ⟨hfz32_0, hfz32_1⟩ := fz2_ BK259.out; have hF32 := @twice1 _ _ _ hcz32_1; have hG32 := @twice2 _ _ _ hcz32_1) | (go_at_call 31; (with_reducible refine (impl_formOf.calls k1 (wrap64 (bt x0_1 0)) t260 _ A8.out).mono ?_); rintro e w' ⟨rfl, ⟨nd, rfl⟩⟩; (try first | exact ⟨rfl, _, World.drewN_drewN _ _ _⟩ | exact ⟨rfl, _, Eq.trans (World.drewN_drewN _ _ _) (congrArg (World.drewN _) (Nat.add_assoc _ _ _))⟩)) | (go_at_call 37; (with_reducible refine (impl_takeA.calls k1 (x0_1.extract 1 x0_1.size) t260 t261 t262 false _ A9.out).mono ?_); rintro e w' ⟨rfl, ⟨nd, rfl⟩⟩; (try first | exact ⟨rfl, _, World.drewN_drewN _ _ _⟩ | exact ⟨rfl, _, Eq.trans (World.drewN_drewN _ _ _) (congrArg (World.drewN _) (Nat.add_assoc _ _ _))⟩))); try go_wp2_with (first | ((with_reducible refine gate_dst (N := 5) rfl ?_); (try (refine gate_guard (by rfl) ?_; dsimp only)); refine box_event ?hg (N := 5) ?hd (cs := #[.int .i64 0, .int .i64 0]) (t := 44) ?hr ?_; (case hd => rfl); (case hg => rfl); (case hr => first | (go_simp; done) | (go_simp; rfl)); intro gb259 hg w31 hbox hb; have n0_ := Aside0.mk (Kd.R_below (Kd.R_elderB (kr_ HO_4.out) gb259 (Nat.le_of_eq hg.symm)) hb); have n1_ := Aside0.mk (below_step (bw HB.out) hb); have n2_ := Aside0.mk (hbox); have n3_ := Aside0.mk ((sz_ hg (bw HB.out) : w.heap.size ≤ gb259)); have n4_ := Aside0.mk ((sz_ hg (bw HB.out) : w.heap.size ≤ gb259)); clear HO_4; clear HB; have HO_4 := n0_; have HB := n1_; have BK259 := n2_; have GW259 := n3_; have GE259 := n4_; clear n0_ n1_ n2_ n3_ n4_; clear hb hbox hg; obtain ⟨hcz32_0, hcz32_1⟩ := cs2_ BK259.out; obtain ⟨hfz32_0, hfz32_1⟩ := fz2_ BK259.out; have hF32 := @twice1 _ _ _ hcz32_1; have hG32 := @twice2 _ _ _ hcz32_1) | (go_at_call 31; (with_reducible refine (impl_formOf.calls k1 (wrap64 (bt x0_1 0)) t260 _ A8.out).mono ?_); rintro e w' ⟨rfl, ⟨nd, rfl⟩⟩; (try first | exact ⟨rfl, _, World.drewN_drewN _ _ _⟩ | exact ⟨rfl, _, Eq.trans (World.drewN_drewN _ _ _) (congrArg (World.drewN _) (Nat.add_assoc _ _ _))⟩)) | (go_at_call 37; (with_reducible refine (impl_takeA.calls k1 (x0_1.extract 1 x0_1.size) t260 t261 t262 false _ A9.out).mono ?_); rintro e w' ⟨rfl, ⟨nd, rfl⟩⟩; (try first | exact ⟨rfl, _, World.drewN_drewN _ _ _⟩ | exact ⟨rfl, _, Eq.trans (World.drewN_drewN _ _ _) (congrArg (World.drewN _) (Nat.add_assoc _ _ _))⟩))))
       go_ret2
       exact ⟨_, rr_, by first | exact Kd.R_nil _ _ _ _ _ | exact Kd.N_nil _ _ _ _ _ | exact Kd.V_nil _ _ _ _ _ | exact Kd.Q_nil _ _ _ _ _ | exact Kd.S_nil _ _ _ _ _, bw HB.out⟩
     ·
      rw [if_neg c7] at H
      exact absurd H (by simp)
    ·
     rw [if_neg c5] at H
     exact absurd H (by simp)


/-- A state of type 51 at block g of W; what its slices lead to came in by w0. -/
def IsS51 (w0 W : World) (g : Nat) (f0 : ByteArray) (f1 : Bool) : Prop := W.heap[g]? = some (.cells #[.string f0, .bool f1] 51 (0, 0)) ∧ w0.heap.size ≤ g
theorem IsS51.grown {w0 W : World} {g : Nat} {f0 : ByteArray} {f1 : Bool} {W1 : World} {row : Option Nat} (h : IsS51 w0 W g f0 f1) (hw : W.grownBy W1 row) (hne : some g ≠ row) : IsS51 w0 W1 g f0 f1 := by
 obtain ⟨hb, hg⟩ := h
 exact ⟨blk_grown hb hw hne, hg⟩
theorem IsS51.own_neN {w0 W : World} {g : Nat} {f0 : ByteArray} {f1 : Bool} {α : Type} {d : Kd α} {e : Nat} {base : Nat} {ok : Nat → Prop} {v : Value} {xs : List α} (h : IsS51 w0 W g f0 f1) (ho : Kd.N d e W base ok v xs) (ht : e ≠ 51) : some g ≠ v.ownBlock := by
 obtain ⟨hb, hg⟩ := h
 exact Kd.N_ne ho hb ht
theorem IsS51.fresh {w0 W : World} {g : Nat} {f0 : ByteArray} {f1 : Bool} (h : IsS51 w0 W g f0 f1) : ∀ k, W.heap.size ≤ k → k ≠ g := by
 obtain ⟨hb, hg⟩ := h
 exact Kd.freshB hb
theorem IsS51.kept {w0 W : World} {g : Nat} {f0 : ByteArray} {f1 : Bool} {W1 : World} {S : Nat → Prop} (h : IsS51 w0 W g f0 f1) (hk : Kept W W1 S) (hne : ¬ S g) : IsS51 w0 W1 g f0 f1 := by
 obtain ⟨hb, hg⟩ := h
 exact ⟨blk_kept hb hk hne, hg⟩
theorem IsS51.below {w0 W : World} {g : Nat} {f0 : ByteArray} {f1 : Bool} {W1 : World} (h : IsS51 w0 W g f0 f1) (hw : Below W.heap.size W W1) : IsS51 w0 W1 g f0 f1 := h.grown (grown_of_below hw none) (by simp)
theorem IsS51.alloc {w0 W : World} {g : Nat} {f0 : ByteArray} {f1 : Bool} (h : IsS51 w0 W g f0 f1) (o : Obj) : IsS51 w0 (W.alloc o) g f0 f1 := h.below (below_alloc (Below.refl _ _) o)
theorem IsS51.drewN {w0 W : World} {g : Nat} {f0 : ByteArray} {f1 : Bool} (h : IsS51 w0 W g f0 f1) (m : Nat) : IsS51 w0 (W.drewN m) g f0 f1 := h
theorem IsS51.drew {w0 W : World} {g : Nat} {f0 : ByteArray} {f1 : Bool} (h : IsS51 w0 W g f0 f1) : IsS51 w0 W.drew g f0 f1 := h
theorem IsS51.at_ {w0 W : World} {g : Nat} {f0 : ByteArray} {f1 : Bool} {w' : World} {m : Nat} (hq : W.drewN m = w') (h : IsS51 w0 W g f0 f1) : IsS51 w0 w' g f0 f1 := by subst hq; exact IsS51.drewN h m
theorem IsS51.apart {w0 W : World} {g : Nat} {f0 : ByteArray} {f1 : Bool} {α : Type} {d : Kd α} {e : Nat} {base : Nat} {ok : Nat → Prop} {v : Value} {xs : List α} (h : IsS51 w0 W g f0 f1) (ho : d.R e W base ok v xs) (ht : ∀ q, q ∈ e :: d.E → q ≠ 51) : d.R e W base (fun k => ok k ∧ k ≠ g) v xs := by
 obtain ⟨hb, hg⟩ := h
 exact Kd.R_types ho hb ht
theorem IsS51.own_ne {w0 W : World} {g : Nat} {f0 : ByteArray} {f1 : Bool} {α : Type} {d : Kd α} {e : Nat} {base : Nat} {ok : Nat → Prop} {v : Value} {xs : List α} (h : IsS51 w0 W g f0 f1) (ho : d.R e W base ok v xs) (ht : e ≠ 51) : some g ≠ v.ownBlock := by
 obtain ⟨hb, hg⟩ := h
 exact Kd.R_ne ho hb ht
theorem IsS51.apartQ {w0 W : World} {g : Nat} {f0 : ByteArray} {f1 : Bool} {α : Type} {d : Kd α} {e : Nat} {base : Nat} {ok : Nat → Prop} {v : Value} {xs : List α} (h : IsS51 w0 W g f0 f1) (ho : d.Q e W base ok v xs) (ht : ∀ q, q ∈ e :: d.E → q ≠ 51) : d.Q e W base (fun k => ok k ∧ k ≠ g) v xs := by
 obtain ⟨hb, hg⟩ := h
 exact Kd.Q_types ho hb ht
theorem IsS51.own_neQ {w0 W : World} {g : Nat} {f0 : ByteArray} {f1 : Bool} {α : Type} {d : Kd α} {e : Nat} {base : Nat} {ok : Nat → Prop} {v : Value} {xs : List α} (h : IsS51 w0 W g f0 f1) (ho : d.Q e W base ok v xs) (ht : e ≠ 51) : some g ≠ v.ownBlock := by
 obtain ⟨hb, hg⟩ := h
 exact Kd.Q_ne ho hb ht
theorem IsS51.apartS {w0 W : World} {g : Nat} {f0 : ByteArray} {f1 : Bool} {α : Type} {d : Kd α} {e : Nat} {base : Nat} {ok : Nat → Prop} {v : Value} {xs : List α} (h : IsS51 w0 W g f0 f1) (ho : d.S e W base ok v xs) (ht : ∀ q, q ∈ e :: d.E → q ≠ 51) : d.S e W base (fun k => ok k ∧ k ≠ g) v xs := by
 obtain ⟨hb, hg⟩ := h
 exact Kd.S_types ho hb ht
theorem IsS51.own_neS {w0 W : World} {g : Nat} {f0 : ByteArray} {f1 : Bool} {α : Type} {d : Kd α} {e : Nat} {base : Nat} {ok : Nat → Prop} {v : Value} {xs : List α} (h : IsS51 w0 W g f0 f1) (ho : d.S e W base ok v xs) (ht : e ≠ 51) : some g ≠ v.ownBlock := by
 obtain ⟨hb, hg⟩ := h
 exact Kd.S_ne ho hb ht
theorem IsS51.lt {w0 W : World} {g : Nat} {f0 : ByteArray} {f1 : Bool} (h : IsS51 w0 W g f0 f1) : g < W.heap.size := by
 obtain ⟨hb, hg⟩ := h
 exact blk_lt hb
theorem IsS51.ge {w0 W : World} {g : Nat} {f0 : ByteArray} {f1 : Bool} (h : IsS51 w0 W g f0 f1) : w0.heap.size ≤ g := by
 obtain ⟨hb, hg⟩ := h
 exact hg
theorem IsS51.ne_blk {w0 W : World} {g : Nat} {f0 : ByteArray} {f1 : Bool} {a : Nat} {cs : Array Value} {t : TypeId} {fr : Nat × Nat} (h : IsS51 w0 W g f0 f1) (hb2 : W.heap[a]? = some (.cells cs t fr)) (ht : t ≠ 51) : g ≠ a := by
 obtain ⟨hb, hg⟩ := h
 rintro rfl
 rw [hb] at hb2
 injection hb2 with hb2
 injection hb2 with _ ht2
 exact ht ht2.symm
theorem IsS51.far {w0 W : World} {g : Nat} {f0 : ByteArray} {f1 : Bool} {p : Addr} (h : IsS51 w0 W g f0 f1) (hne : g ≠ p.block) (u : Value) : IsS51 w0 (W.setCell p u) g f0 f1 := by
 obtain ⟨hb, hg⟩ := h
 exact ⟨blk_far hb hne u, hg⟩
theorem cellS51_0 {W : World} {g : Nat} {f0 : ByteArray} {f1 : Bool} (h : W.heap[g]? = some (.cells #[.string f0, .bool f1] 51 (0, 0))) : W.cell? ⟨g, 0, none⟩ = some (.string f0) := (blk_cell h 0).trans rfl
theorem IsS51.set_0 {w0 W : World} {g : Nat} {f0 : ByteArray} {f1 : Bool} (h : IsS51 w0 W g f0 f1) (x : ByteArray) : IsS51 w0 (W.setCell ⟨g, 0, none⟩ (.string x)) g x f1 := by
 obtain ⟨hb, hg⟩ := h
 exact ⟨by simpa using blk_set hb 0 (.string x), hg⟩
theorem cellS51_1 {W : World} {g : Nat} {f0 : ByteArray} {f1 : Bool} (h : W.heap[g]? = some (.cells #[.string f0, .bool f1] 51 (0, 0))) : W.cell? ⟨g, 1, none⟩ = some (.bool f1) := (blk_cell h 1).trans rfl
theorem IsS51.set_1 {w0 W : World} {g : Nat} {f0 : ByteArray} {f1 : Bool} (h : IsS51 w0 W g f0 f1) (x : Bool) : IsS51 w0 (W.setCell ⟨g, 1, none⟩ (.bool x)) g f0 x := by
 obtain ⟨hb, hg⟩ := h
 exact ⟨by simpa using blk_set hb 1 (.bool x), hg⟩
theorem IsS51.new (w0 W : World) (f0 : ByteArray) (f1 : Bool) (hB : Below w0.heap.size w0 W) : IsS51 w0 (W.alloc (.cells #[.string f0, .bool f1] 51)) W.heap.size f0 f1 := ⟨by simpa using heap_alloc_new W _, hB.size⟩

theorem y6 {p q : Prop} (x : q) (h : q → p := by intro h; repeat (first | (with_reducible first | exact h | apply IsS51.alloc | apply IsS51.drewN | apply IsS51.drew | apply IsS51.set_0 | apply IsS51.set_1) | exact h)) : p := h x
theorem y7 {p q : Prop} (x : q) (h : q → p := by intro h; repeat (first | (with_reducible first | exact h | apply below_alloc | apply pw_below_drewN | apply below_drew1 | refine below_set ?_ (IsS51.ge (Aside0.out (by assumption)))) | exact h)) : p := h x
theorem y8 {p q : Prop} (x : q) (h : q → p := by intro h; repeat (first | (with_reducible first | exact h | apply IsS51.alloc | apply IsS51.drewN | apply IsS51.drew | apply IsS51.set_0 | apply IsS51.set_1 | apply IsS51.far (hne := (Aside0.out (by assumption)))) | exact h)) : p := h x
theorem y9 {p q : Prop} (x : q) (h : q → p := by intro h; repeat (first | (with_reducible first | exact h | apply below_alloc | apply pw_below_drewN | apply below_drew1 | refine below_set ?_ (IsS51.ge (Aside0.out (by assumption))) | refine below_set ?_ (Aside0.out (by assumption))) | exact h)) : p := h x
/-! ### impl_scanner_take: function 49 -/
def impl_scanner_take.f (s0_0 : ByteArray) (s0_1 : Bool) (a1 : Int) : Option (ByteArray × ByteArray × Bool) := if a1 > (IntKind.u64.wrap ((s0_0.size : Int))) then (some ((⟨#[]⟩ : ByteArray), s0_0, true)) else (if 0 ≤ a1 then (if a1 ≤ (s0_0.size : Int) then (some (s0_0.extract 0 (a1 : Int).toNat, s0_0.extract (a1 : Int).toNat s0_0.size, s0_1)) else (none)) else (none))
set_option maxHeartbeats 8000000 in
set_option maxRecDepth 100000 in
theorem impl_scanner_take.calls (g : Nat) (s0_0 : ByteArray) (s0_1 : Bool) (a1 : Int) (r1 : ByteArray) (r2 : ByteArray) (r3 : Bool) (w0 w : World) (hI : IsS51 w0 w g s0_0 s0_1) (hB : Below w0.heap.size w0 w) (h : impl_scanner_take.f s0_0 s0_1 a1 = some (r1, r2, r3)) :
  Calls Try.prog 49 #[.pointer (some ⟨g, 0, none⟩), .int .u64 a1] w fun e w' => e = .returned (.string r1) ∧ IsS51 w0 w' g r2 r3 ∧ Below w0.heap.size w0 w' ∧ KeepBut w w' g none := by
 have HI0 := Aside0.mk hI
 have HK := Aside0.mk (KeepBut.refl w g none)
 have HL := Aside0.mk hB.size
 clear hI
 have HW0 := Aside0.mk hB.size
 have HB := Aside0.mk hB
 clear hB
 have H : (if a1 > (IntKind.u64.wrap ((s0_0.size : Int))) then (some ((⟨#[]⟩ : ByteArray), s0_0, true)) else (if 0 ≤ a1 then (if a1 ≤ (s0_0.size : Int) then (some (s0_0.extract 0 (a1 : Int).toNat, s0_0.extract (a1 : Int).toNat s0_0.size, s0_1)) else (none)) else (none))) = some (r1, r2, r3) := h
 clear h
 by_cases c3 : a1 > (IntKind.u64.wrap ((s0_0.size : Int)))
 ·
  rw [if_pos c3] at H
  have c3b0 : decide ((IntKind.u64.wrap ((s0_0.size : Int))) < a1) = true := decide_eq_true c3
  clear c3
  simp only [Option.some.injEq, Prod.mk.injEq] at H
  obtain ⟨rfl, rfl, rfl⟩ := H
  obtain ⟨HGz4, hgz4⟩ := HI0.out
  have hcz4_0 := cellS51_0 HGz4
  have hcz4_1 := cellS51_1 HGz4
  have hfz4_0 := blk_frozen HGz4 0
  have hfz4_1 := blk_frozen HGz4 1
  clear HGz4 hgz4
  go_enter Try.func49, Try.ntmps49
  go_wp2
  go_ret
  exact ⟨rr_, y6 HI0.out, y7 HB.out, y2 HK.out⟩
 ·
  rw [if_neg c3] at H
  have c3b0 : decide ((IntKind.u64.wrap ((s0_0.size : Int))) < a1) = false := decide_eq_false c3
  clear c3
  by_cases c5 : 0 ≤ a1
  ·
   rw [if_pos c5] at H
   have c5b0 := eq_true c5
   have c5b1 : decide (0 ≤ a1) = true := decide_eq_true c5
   clear c5
   by_cases c6 : a1 ≤ (s0_0.size : Int)
   ·
    rw [if_pos c6] at H
    have c6b0 := eq_true c6
    have c6b1 : decide (a1 ≤ (s0_0.size : Int)) = true := decide_eq_true c6
    clear c6
    have c7b0 := eq_true (od_ : 0 ≤ a1)
    have c8b0 := eq_true (od_ : a1 ≤ (s0_0.size : Int))
    simp only [Option.some.injEq, Prod.mk.injEq] at H
    obtain ⟨rfl, rfl, rfl⟩ := H
    obtain ⟨HGz9, hgz9⟩ := HI0.out
    have hcz9_0 := cellS51_0 HGz9
    have hcz9_1 := cellS51_1 HGz9
    have hfz9_0 := blk_frozen HGz9 0
    have hfz9_1 := blk_frozen HGz9 1
    clear HGz9 hgz9
    go_enter Try.func49, Try.ntmps49
    go_wp2
    go_ret
    exact ⟨rr_, y6 HI0.out, y7 HB.out, y2 HK.out⟩
   ·
    rw [if_neg c6] at H
    exact absurd H (by simp)
  ·
   rw [if_neg c5] at H
   exact absurd H (by simp)


/-! ### impl_scanner_number: function 50 -/
def impl_scanner_number.f (k : Nat) (s0_0 : ByteArray) (s0_1 : Bool) (a1 : Int) : Option (Int × ByteArray × Bool) := (impl_TakeUleb.f k s0_0 a1).bind fun bt268 => (if s0_1 = true then (if 0 ≤ bt268.2 then (if bt268.2 ≤ (s0_0.size : Int) then (some (bt268.1, s0_0.extract (bt268.2 : Int).toNat s0_0.size, true)) else (none)) else (none)) else (if 0 ≤ bt268.2 then (if bt268.2 ≤ (s0_0.size : Int) then (some (bt268.1, s0_0.extract (bt268.2 : Int).toNat s0_0.size, (bt268.2 == 0))) else (none)) else (none)))
set_option maxHeartbeats 8000000 in
set_option maxRecDepth 100000 in
theorem impl_scanner_number.calls (k : Nat) (g : Nat) (s0_0 : ByteArray) (s0_1 : Bool) (a1 : Int) (r1 : Int) (r2 : ByteArray) (r3 : Bool) (w0 w : World) (hI : IsS51 w0 w g s0_0 s0_1) (hB : Below w0.heap.size w0 w) (h : impl_scanner_number.f k s0_0 s0_1 a1 = some (r1, r2, r3)) :
  Calls Try.prog 50 #[.pointer (some ⟨g, 0, none⟩), .int .i64 a1] w fun e w' => e = .returned (.int .u64 r1) ∧ IsS51 w0 w' g r2 r3 ∧ Below w0.heap.size w0 w' ∧ KeepBut w w' g none := by
 have HI0 := Aside0.mk hI
 have HK := Aside0.mk (KeepBut.refl w g none)
 have HL := Aside0.mk hB.size
 clear hI
 have HW0 := Aside0.mk hB.size
 have HB := Aside0.mk hB
 clear hB
 have H : ((impl_TakeUleb.f k s0_0 a1).bind fun bt268 => (if s0_1 = true then (if 0 ≤ bt268.2 then (if bt268.2 ≤ (s0_0.size : Int) then (some (bt268.1, s0_0.extract (bt268.2 : Int).toNat s0_0.size, true)) else (none)) else (none)) else (if 0 ≤ bt268.2 then (if bt268.2 ≤ (s0_0.size : Int) then (some (bt268.1, s0_0.extract (bt268.2 : Int).toNat s0_0.size, (bt268.2 == 0))) else (none)) else (none)))) = some (r1, r2, r3) := h
 clear h
 replace H := Option.bind_eq_some_iff.mp H
 obtain ⟨⟨t268, t269⟩, A30, H⟩ := H
 replace H : (if s0_1 = true then (if 0 ≤ t269 then (if t269 ≤ (s0_0.size : Int) then (some (t268, s0_0.extract (t269 : Int).toNat s0_0.size, true)) else (none)) else (none)) else (if 0 ≤ t269 then (if t269 ≤ (s0_0.size : Int) then (some (t268, s0_0.extract (t269 : Int).toNat s0_0.size, (t269 == 0))) else (none)) else (none))) = some (r1, r2, r3) := H
 have A3 := Aside0.mk A30
 clear A30
 by_cases c4 : s0_1 = true
 ·
  subst c4
  have H1 : (if 0 ≤ t269 then (if t269 ≤ (s0_0.size : Int) then (some (t268, s0_0.extract (t269 : Int).toNat s0_0.size, true)) else (none)) else (none)) = some (r1, r2, r3) := by rw [if_pos rfl] at H; exact H
  clear H
  have H := H1
  clear H1
  by_cases c5 : 0 ≤ t269
  ·
   rw [if_pos c5] at H
   have c5b0 := eq_true c5
   have c5b1 : decide (0 ≤ t269) = true := decide_eq_true c5
   clear c5
   by_cases c6 : t269 ≤ (s0_0.size : Int)
   ·
    rw [if_pos c6] at H
    have c6b0 := eq_true c6
    have c6b1 : decide (t269 ≤ (s0_0.size : Int)) = true := decide_eq_true c6
    clear c6
    simp only [Option.some.injEq, Prod.mk.injEq] at H
    obtain ⟨rfl, rfl, rfl⟩ := H
    obtain ⟨HGz7, hgz7⟩ := HI0.out
    have hcz7_0 := cellS51_0 HGz7
    have hcz7_1 := cellS51_1 HGz7
    have hfz7_0 := blk_frozen HGz7 0
    have hfz7_1 := blk_frozen HGz7 1
    clear HGz7 hgz7
    go_enter Try.func50, Try.ntmps50
    go_wp2_with (first | ((with_reducible refine gate_callee (f := 62) rfl ?_); refine goesL_ (some 13) rfl rfl Try.func62 (by kernel_rfl) rfl #[.string s0_0, .int .i64 a1] rfl ar ?_; (with_reducible refine (impl_TakeUleb.calls k s0_0 a1 t268 t269 _ A3.out).mono ?_); rintro e w' ⟨rfl, ⟨nd, rfl⟩⟩; refine ⟨_, rfl, ?_⟩; (try (rw [drewN_self w]; generalize hq_ : World.drewN w _ = wz; have n0_ : Aside0 (IsS51 w0 wz g s0_0 true) := ⟨by rw [← hq_]; exact (y6 HI0.out)⟩; have n1_ : Aside0 (KeepBut w wz g none) := ⟨by rw [← hq_]; exact (y2 HK.out)⟩; have n2_ : Aside0 (Below w0.heap.size w0 wz) := ⟨by rw [← hq_]; exact (y7 HB.out)⟩; clear HI0 HK HB hq_; have HI0 := n0_; have HK := n1_; have HB := n2_; clear n0_ n1_ n2_)); obtain ⟨HGz8, hgz8⟩ := HI0.out; have hcz8_0 := cellS51_0 HGz8; have hcz8_1 := cellS51_1 HGz8; have hfz8_0 := blk_frozen HGz8 0; have hfz8_1 := blk_frozen HGz8 1; clear HGz8 hgz8))
    go_ret
    exact ⟨rr_, y6 HI0.out, y7 HB.out, y2 HK.out⟩
   ·
    rw [if_neg c6] at H
    exact absurd H (by simp)
  ·
   rw [if_neg c5] at H
   exact absurd H (by simp)
 ·
  replace c4 := Bool.eq_false_iff.mpr c4
  subst c4
  have H1 : (if 0 ≤ t269 then (if t269 ≤ (s0_0.size : Int) then (some (t268, s0_0.extract (t269 : Int).toNat s0_0.size, (t269 == 0))) else (none)) else (none)) = some (r1, r2, r3) := by rw [if_neg (show ¬ (false = true) by decide)] at H; exact H
  clear H
  have H := H1
  clear H1
  by_cases c9 : 0 ≤ t269
  ·
   rw [if_pos c9] at H
   have c9b0 := eq_true c9
   have c9b1 : decide (0 ≤ t269) = true := decide_eq_true c9
   clear c9
   by_cases c10 : t269 ≤ (s0_0.size : Int)
   ·
    rw [if_pos c10] at H
    have c10b0 := eq_true c10
    have c10b1 : decide (t269 ≤ (s0_0.size : Int)) = true := decide_eq_true c10
    clear c10
    simp only [Option.some.injEq, Prod.mk.injEq] at H
    obtain ⟨rfl, rfl, rfl⟩ := H
    obtain ⟨HGz11, hgz11⟩ := HI0.out
    have hcz11_0 := cellS51_0 HGz11
    have hcz11_1 := cellS51_1 HGz11
    have hfz11_0 := blk_frozen HGz11 0
    have hfz11_1 := blk_frozen HGz11 1
    clear HGz11 hgz11
    go_enter Try.func50, Try.ntmps50
    go_wp2_with (first | ((with_reducible refine gate_callee (f := 62) rfl ?_); refine goesL_ (some 13) rfl rfl Try.func62 (by kernel_rfl) rfl #[.string s0_0, .int .i64 a1] rfl ar ?_; (with_reducible refine (impl_TakeUleb.calls k s0_0 a1 t268 t269 _ A3.out).mono ?_); rintro e w' ⟨rfl, ⟨nd, rfl⟩⟩; refine ⟨_, rfl, ?_⟩; (try (rw [drewN_self w]; generalize hq_ : World.drewN w _ = wz; have n0_ : Aside0 (IsS51 w0 wz g s0_0 false) := ⟨by rw [← hq_]; exact (y6 HI0.out)⟩; have n1_ : Aside0 (KeepBut w wz g none) := ⟨by rw [← hq_]; exact (y2 HK.out)⟩; have n2_ : Aside0 (Below w0.heap.size w0 wz) := ⟨by rw [← hq_]; exact (y7 HB.out)⟩; clear HI0 HK HB hq_; have HI0 := n0_; have HK := n1_; have HB := n2_; clear n0_ n1_ n2_)); obtain ⟨HGz12, hgz12⟩ := HI0.out; have hcz12_0 := cellS51_0 HGz12; have hcz12_1 := cellS51_1 HGz12; have hfz12_0 := blk_frozen HGz12 0; have hfz12_1 := blk_frozen HGz12 1; clear HGz12 hgz12))
    go_ret
    exact ⟨rr_, y6 HI0.out, y7 HB.out, y2 HK.out⟩
   ·
    rw [if_neg c10] at H
    exact absurd H (by simp)
  ·
   rw [if_neg c9] at H
   exact absurd H (by simp)



/-! ### impl_scanner_types: function 47 (walked by hand) -/
theorem sc_w (n : Int) (h : -9223372036854775808 ≤ n ∧ n ≤ 9223372036854775807) : wrap64 n = n := by unfold wrap64; omega
/-! impl.scanner.types: the bytes of a text, one by one. -/
def impl_scanner_types.f (k : Nat) (s0_0 : ByteArray) (s0_1 : Bool) : Option (List Int × ByteArray × Bool) := (impl_scanner_number.f k s0_0 s0_1 32).bind fun bt => (impl_scanner_take.f bt.2.1 bt.2.2 bt.1).bind fun bu => if bu.1.size < 17592186044416 then some (bytesOf bu.1, bu.2.1, bu.2.2) else none
theorem by_rd (u : ByteArray) (j : Nat) (h : j < u.size) : wrap64 (rd (bytesOf u) (j : Int)) = (bytesOf u)[j]'(by rw [bytesOf_length]; exact h) := by
 have h1 := bt_range u (j : Int)
 have e : rd (bytesOf u) (j : Int) = (bytesOf u)[j]'(by rw [bytesOf_length]; exact h) := by
  unfold rd
  rw [Int.toNat_natCast, List.getD_eq_getElem?_getD, List.getElem?_eq_getElem (by rw [bytesOf_length]; exact h)]
  rfl
 rw [← e, rd_bytesOf, sc_w _ (by omega)]
theorem by_cell (w : World) (u : ByteArray) (j : Nat) (hj : j < u.size) : (Lib.bytesCells w 5 u)[j]? = some (.int .u8 (rd (bytesOf u) (j : Int))) := by
 have h := Lib.bytesWorld_cell w 5 u j hj
 rw [cell_of_row _ _ _ _ _ _ (Lib.bytesWorld_at_new w 5 u)] at h
 rw [h]
 have h' : j < u.data.toList.length := by rw [data_length]; exact hj
 simp [rd, bytesOf, List.getD_eq_getElem?_getD, List.getElem?_eq_getElem h']
theorem blk_alloc_ {w : World} {g : Nat} {o : Obj} (h : w.heap[g]? = some o) (o2 : Obj) : (w.alloc o2).heap[g]? = some o := blk_below h (below_alloc (Below.refl _ _) o2)
set_option maxHeartbeats 8000000 in
set_option maxRecDepth 100000 in
theorem impl_scanner_types.calls (k : Nat) (g : Nat) (s0_0 : ByteArray) (s0_1 : Bool) (r1 : List Int) (r2 : ByteArray) (r3 : Bool) (w0 w : World) (hI : IsS51 w0 w g s0_0 s0_1) (hB : Below w0.heap.size w0 w) (h : impl_scanner_types.f k s0_0 s0_1 = some (r1, r2, r3)) :
  Calls Try.prog 47 #[.pointer (some ⟨g, 0, none⟩)] w fun e w' => ∃ v0_ : Value, e = .returned (v0_) ∧ Kd.R (Kd.int .i64) 3 w' w.heap.size (fun _ => True) v0_ r1 ∧ IsS51 w0 w' g r2 r3 ∧ Below w0.heap.size w0 w' ∧ KeepBut w w' g none := by
 have HI0 := Aside0.mk hI
 have HK := Aside0.mk (KeepBut.refl w g none)
 have HL := Aside0.mk hB.size
 have HB := Aside0.mk hB
 clear hI hB
 obtain ⟨⟨n1, s1, b1⟩, hn, h1⟩ := Option.bind_eq_some_iff.1 h
 clear h
 obtain ⟨⟨u, s2, b2⟩, hu, h2⟩ := Option.bind_eq_some_iff.1 (show (impl_scanner_take.f s1 b1 n1).bind (fun bu => if bu.1.size < 17592186044416 then some (bytesOf bu.1, bu.2.1, bu.2.2) else none) = some (r1, r2, r3) from h1)
 clear h1
 have h : (if u.size < 17592186044416 then some (bytesOf u, s2, b2) else none) = some (r1, r2, r3) := h2
 clear h2
 by_cases cu : u.size < 17592186044416
 ·
  rw [if_pos cu] at h
  simp only [Option.some.injEq, Prod.mk.injEq] at h
  obtain ⟨rfl, rfl, rfl⟩ := h
  have CU := Aside0.mk cu
  have A1 := Aside0.mk hn
  have A2 := Aside0.mk hu
  clear cu hn hu
  go_enter Try.func47, Try.ntmps47
  have kb := fun W => print_bytes (P := Try.prog) 9 31 5 Try.underlying9 Try.underlying31 Try.underlying5 u W
  go_wp2_with (first | ((with_reducible refine gate_dst (N := 6) rfl ?_); refine Kd.R_lit (Kd.int .i64) _ 3 ?hg (N := 6) ?hd (xs := ([] : List Int)) (inner := []) (ok := fun _ => True) (okp := fun _ => True) ?hr ?hp (fun _ hk => hk) trivial (Below.refl _ _) (Nat.le_refl _) (by simp) ?_; (case hd => rfl); (case hg => rfl); (case hr => first | (go_simp; done) | (go_simp; rfl)); (case hp => exact (Reps.none _ _)); intro v3 w2 ho3 hb hg_ hnew_; clear hg_ hnew_; have HO := Aside0.mk ho3; have n1_ := Aside0.mk (below_weaken HB.out HL.out hb); have n2_ := Aside0.mk (HK.out.trans (KeepBut.of_below hb g none) (.inl rfl)); have n3_ := Aside0.mk (IsS51.below HI0.out hb); clear HB HK HI0; have HB := n1_; have HK := n2_; have HI0 := n3_; clear n1_ n2_ n3_ hb ho3) | (go_at_call 50; refine (impl_scanner_number.calls k g s0_0 s0_1 32 n1 s1 b1 w0 _ HI0.out HB.out A1.out).mono ?_; rintro e w3 ⟨rfl, hi, hb, hk⟩; have n3_ := Aside0.mk (Kd.R_mono (Kd.R_keep (IsS51.apart HI0.out HO.out (by decide)) hk (fun _ h => h.2)) (fun _ h => h.1)); have n0_ := Aside0.mk (HK.out.trans hk (.inl rfl)); clear HI0 HB HK HO; have HK := n0_; have HO := n3_; have HB := Aside0.mk hb; have HI0 := Aside0.mk hi; clear n0_ n3_ hi hb hk) | (go_at_call 49; refine (impl_scanner_take.calls g s1 b1 n1 u s2 b2 w0 _ HI0.out HB.out A2.out).mono ?_; rintro e w4 ⟨rfl, hi, hb, hk⟩; have n3_ := Aside0.mk (Kd.R_mono (Kd.R_keep (IsS51.apart HI0.out HO.out (by decide)) hk (fun _ h => h.2)) (fun _ h => h.1)); have n0_ := Aside0.mk (HK.out.trans hk (.inl rfl)); clear HI0 HB HK HO; have HK := n0_; have HO := n3_; have HB := Aside0.mk hb; have HI0 := Aside0.mk hi; clear n0_ n3_ hi hb hk))
  clear kb
  have hbw := bytes_below (Below.refl w4.heap.size w4) (Nat.le_refl _) 5 u; have n0_ := Aside0.mk (HK.out.trans (KeepBut.of_below hbw g none) (.inl rfl)); have n1_ := Aside0.mk (IsS51.below HI0.out hbw); have n2_ := Aside0.mk (below_weaken HB.out (Nat.le_trans HL.out HK.out.1) hbw); have n3_ := Aside0.mk (Kd.R_mono (ok' := fun k_ => k_ ≠ w4.heap.size) (Kd.R_below (Kd.R_elderB HO.out w4.heap.size (Nat.le_refl _)) hbw) (fun _ h => h.2)); have n4_ := Aside0.mk (Lib.bytesWorld_at_new w4 5 u); have n5_ : Aside0 (∀ j : Nat, j < u.size → (Lib.bytesCells w4 5 u)[j]? = some (.int .u8 (rd (bytesOf u) (j : Int)))) := ⟨fun j hj => by_cell w4 u j hj⟩; clear HO HI0 HB HK hbw; generalize Lib.bytesWorld w4 5 u = w5 at n0_ n1_ n2_ n3_ n4_ n5_ ⊢; generalize hfr_ : ((Lib.bytesCells w4 5 u).size, (Lib.bytesCells w4 5 u).size + 1) = fr at n4_; generalize hcs_ : Lib.bytesCells w4 5 u = cs at n4_ n5_; generalize hgb_ : w4.heap.size = gb at n3_ n4_ ⊢; clear hcs_ hfr_ hgb_; have HK := n0_; have HI0 := n1_; have HB := n2_; have HO := n3_; have BKB := n4_; have HCS := n5_; clear n0_ n1_ n2_ n3_ n4_ n5_
  go_loopg [3, 13] u.size (fun kq v3 v13 w' => ∃ j : Nat, j + kq = u.size ∧ v13 = .int .i64 j ∧ Aside0 (Kd.R (Kd.int .i64) 3 w' w.heap.size (fun k_ => k_ ≠ gb) v3 ((bytesOf u).take j)) ∧ Aside0 (w'.heap[gb]? = some (.cells cs 5 fr)) ∧ Aside0 (IsS51 w0 w' g s2 b2) ∧ Aside0 (KeepBut w w' g none) ∧ Aside0 (Below w0.heap.size w0 w'))
  case atStart => exact ⟨0, by omega, rfl, ⟨HO.out⟩, BKB, HI0, HK, HB⟩
  case round =>
   clear HO BKB HI0 HK HB
   obtain ⟨j, hj, rfl, HO, BKB, HI0, HK, HB⟩ := hrel
   by_cases hlt : j < u.size
   ·
    have hx := (cell_of_row wr gb j cs 5 fr BKB.out).trans (HCS.out j hlt)
    have q1 := eq_true (show (0 : Int) ≤ (j : Int) by omega)
    have q2 := eq_true (show (j : Int) < (u.size : Int) by omega)
    go_wp2_with (first | ((with_reducible refine gate_builtin (b := .append) (xs := #[.tmp 17, .tmp 20]) rfl ?_); at_builtin; refine Kd.R_append (Kd.int .i64) w.heap.size rfl (.tmp 17) (.tmp 20) 22 3 (.int .i64 0) 8 rfl Try.underlying22 info3 rfl (by decide) (by omega) u3 ((bytesOf u).take j) (wrap64 (rd (bytesOf u) (j : Int))) [.int .i64 (wrap64 (rd (bytesOf u) (j : Int)))] (fun k_ => k_ ≠ gb) (fun _ => False) rfl rfl ?aP (fun _ hk => hk.elim) ?aF ?aO (Below.refl _ _) ?aS ?aL ?_; (case aP => exact rfl); (case aF => exact (fun k_ hk e => by have := blk_lt BKB.out; omega)); (case aO => exact (kr_ HO.out)); (case aS => exact (keep_size (w := w) (g := g) (row := none) (y2 HK.out))); (case aL => have := CU.out; rw [List.length_take, bytesOf_length]; omega); intro v6 w6 ho hb hg hat; have n3_ := Aside0.mk (show Kd.R (Kd.int .i64) 3 w6 w.heap.size (fun k_ => k_ ≠ gb) v6 ((bytesOf u).take (j + 1)) from by rw [List.take_succ_eq_append_getElem (by rw [bytesOf_length]; exact hlt), ← by_rd u j hlt]; exact ho); have n0_ := Aside0.mk (IsS51.grown HI0.out hg (IsS51.own_ne HI0.out HO.out (by decide))); have n1_ := Aside0.mk (below_weaken HB.out HL.out hb); have n2_ := Aside0.mk (KeepBut.trans HK.out (KeepBut.of_grown hg g) (Kd.R_base2 HO.out)); have n4_ := Aside0.mk (blk_grown BKB.out hg (Kd.R_away HO.out (fun _ hk => hk))); clear HO HI0 HB HK BKB ho hb hg hat; have HO := n3_; have HI0 := n0_; have HB := n1_; have HK := n2_; have BKB := n4_; clear n0_ n1_ n2_ n3_ n4_))
    go_roundg (u.size - (j + 1))
    case measure => omega
    case rel => exact ⟨j + 1, by omega, by have := CU.out; rw [sc_w _ (by omega)]; rfl, HO, BKB, HI0, HK, HB⟩
   ·
    obtain rfl : j = u.size := by omega
    go_wp2
    go_ret
    exact ⟨_, rfl, Kd.R_mono (by have := HO.out; rwa [List.take_of_length_le (by rw [bytesOf_length]; exact Nat.le_refl _)] at this) (fun _ _ => trivial), HI0.out, HB.out, HK.out⟩
 ·
  rw [if_neg cu] at h; cases h



/-! ### impl_scanner_byte: function 48 -/
def impl_scanner_byte.f (s0_0 : ByteArray) (s0_1 : Bool) : Option (Int × ByteArray × Bool) := (impl_scanner_take.f s0_0 s0_1 1).bind fun bt270 => (if bt270.1.toList = ([] : List UInt8) then (some ((-1), bt270.2.1, bt270.2.2)) else (if 0 < (bt270.1.size : Int) then (some (wrap64 (bt bt270.1 0), bt270.2.1, bt270.2.2)) else (none)))
set_option maxHeartbeats 8000000 in
set_option maxRecDepth 100000 in
theorem impl_scanner_byte.calls (g : Nat) (s0_0 : ByteArray) (s0_1 : Bool) (r1 : Int) (r2 : ByteArray) (r3 : Bool) (w0 w : World) (hI : IsS51 w0 w g s0_0 s0_1) (hB : Below w0.heap.size w0 w) (h : impl_scanner_byte.f s0_0 s0_1 = some (r1, r2, r3)) :
  Calls Try.prog 48 #[.pointer (some ⟨g, 0, none⟩)] w fun e w' => e = .returned (.int .i64 r1) ∧ IsS51 w0 w' g r2 r3 ∧ Below w0.heap.size w0 w' ∧ KeepBut w w' g none := by
 have HI0 := Aside0.mk hI
 have HK := Aside0.mk (KeepBut.refl w g none)
 have HL := Aside0.mk hB.size
 clear hI
 have HW0 := Aside0.mk hB.size
 have HB := Aside0.mk hB
 clear hB
 have H : ((impl_scanner_take.f s0_0 s0_1 1).bind fun bt270 => (if bt270.1.toList = ([] : List UInt8) then (some ((-1), bt270.2.1, bt270.2.2)) else (if 0 < (bt270.1.size : Int) then (some (wrap64 (bt bt270.1 0), bt270.2.1, bt270.2.2)) else (none)))) = some (r1, r2, r3) := h
 clear h
 replace H := Option.bind_eq_some_iff.mp H
 obtain ⟨⟨t270, t271, t272⟩, A20, H⟩ := H
 replace H : (if t270.toList = ([] : List UInt8) then (some ((-1), t271, t272)) else (if 0 < (t270.size : Int) then (some (wrap64 (bt t270 0), t271, t272)) else (none))) = some (r1, r2, r3) := H
 have A2 := Aside0.mk A20
 clear A20
 by_cases c3 : t270.toList = ([] : List UInt8)
 ·
  rw [if_pos c3] at H
  have c3b0 : (t270.toList == ([] : List UInt8)) = true := beq_iff_eq.mpr c3
  have c3b1 : (t270.toList != ([] : List UInt8)) = false := bne_eq_false_iff_eq.mpr c3
  clear c3
  simp only [Option.some.injEq, Prod.mk.injEq] at H
  obtain ⟨rfl, rfl, rfl⟩ := H
  go_enter Try.func48, Try.ntmps48
  go_wp2_with (first | ((with_reducible refine gate_callee (f := 49) rfl ?_); refine goesL_ (some 5) rfl rfl Try.func49 (by kernel_rfl) rfl #[.pointer (some ⟨g, 0, none⟩), .int .u64 1] rfl ar ?_; (with_reducible refine (impl_scanner_take.calls g s0_0 s0_1 1 t270 t271 t272 w0 _ ?side1 ?side2 A2.out).mono ?_); (case side1 => repeat (first | (with_reducible first | exact HI0.out | apply IsS51.alloc | apply IsS51.drewN | apply IsS51.drew | apply IsS51.set_0 | apply IsS51.set_1) | exact HI0.out)); (case side2 => repeat (first | (with_reducible first | exact HB.out | apply below_alloc | apply pw_below_drewN | apply below_drew1 | refine below_set ?_ (IsS51.ge HI0.out)) | exact HB.out)); rintro e w4 ⟨rfl, hi, hb, hk⟩; refine ⟨_, rfl, ?_⟩; have n0_ := Aside0.mk (KeepBut.trans (y2 HK.out) hk (.inl rfl)); have n1_ := Aside0.mk (hb); have n2_ := Aside0.mk (hi); clear HK; clear HB; clear HI0; have HK := n0_; have HB := n1_; have HI0 := n2_; clear n0_ n1_ n2_; (try clear hb); (try clear hb2); (try clear hk); (try clear hi)))
  go_ret
  exact ⟨rr_, y6 HI0.out, y7 HB.out, y2 HK.out⟩
 ·
  rw [if_neg c3] at H
  have c3b0 : (t270.toList == ([] : List UInt8)) = false := beq_eq_false_iff_ne.mpr c3
  have c3b1 : (t270.toList != ([] : List UInt8)) = true := bne_iff_ne.mpr c3
  by_cases c5 : 0 < (t270.size : Int)
  ·
   rw [if_pos c5] at H
   have c5b0 : decide (0 < (t270.size : Int)) = true := decide_eq_true c5
   have c5b1 : decide (0 < t270.size) = true := decide_eq_true (by omega)
   clear c5
   simp only [Option.some.injEq, Prod.mk.injEq] at H
   obtain ⟨rfl, rfl, rfl⟩ := H
   go_enter Try.func48, Try.ntmps48
   go_wp2_with (first | ((with_reducible refine gate_callee (f := 49) rfl ?_); refine goesL_ (some 5) rfl rfl Try.func49 (by kernel_rfl) rfl #[.pointer (some ⟨g, 0, none⟩), .int .u64 1] rfl ar ?_; (with_reducible refine (impl_scanner_take.calls g s0_0 s0_1 1 t270 t271 t272 w0 _ ?side1 ?side2 A2.out).mono ?_); (case side1 => repeat (first | (with_reducible first | exact HI0.out | apply IsS51.alloc | apply IsS51.drewN | apply IsS51.drew | apply IsS51.set_0 | apply IsS51.set_1) | exact HI0.out)); (case side2 => repeat (first | (with_reducible first | exact HB.out | apply below_alloc | apply pw_below_drewN | apply below_drew1 | refine below_set ?_ (IsS51.ge HI0.out)) | exact HB.out)); rintro e w7 ⟨rfl, hi, hb, hk⟩; refine ⟨_, rfl, ?_⟩; have n0_ := Aside0.mk (KeepBut.trans (y2 HK.out) hk (.inl rfl)); have n1_ := Aside0.mk (hb); have n2_ := Aside0.mk (hi); clear HK; clear HB; clear HI0; have HK := n0_; have HB := n1_; have HI0 := n2_; clear n0_ n1_ n2_; (try clear hb); (try clear hb2); (try clear hk); (try clear hi); have p6 : 0 ≤ (0 : Int) := (by omega); have q6 : 0 < t270.size := (by have : (0 : Int) < (t270.size : Int) := od_; omega); have hx6 : ∀ h : 0 < t270.size, ((t270[0]'h).toNat : Int) = bt t270 0 := bt_at t270 0; clear p6; have qi6 : (0 < (t270.size : Int)) = True := eq_true (od_); replace q6 := eq_true q6))
   go_ret
   exact ⟨rr_, y6 HI0.out, y7 HB.out, y2 HK.out⟩
  ·
   rw [if_neg c5] at H
   exact absurd H (by simp)


/-! ### impl_goodCode: function 30 -/
def impl_goodCode.l0 : Nat → List (S44) → Int → Int → Option (Bool)
 | 0, _, _, _ => none
 | k + 1, x8, x9, x10 => if x10 < x9 then (if 0 ≤ x10 then (if x10 < (x8.length : Int) then ((impl_GoodIns.f k ((rd_T44 x8 x10).f0) ((rd_T44 x8 x10).f1)).bind fun t275 => (if t275 = true then (impl_goodCode.l0 k x8 x9 (wrap64 (x10 + 1))) else (some false))) else (none)) else (none)) else (some true)
def impl_goodCode.f (k : Nat) (l0 : List (S44)) : Option (Bool) := if (l0.length : Int) > 200 then (some false) else (impl_goodCode.l0 k l0 (l0.length : Int) 0)
set_option maxHeartbeats 8000000 in
set_option maxRecDepth 100000 in
theorem impl_goodCode.calls (k : Nat) (A0 : Option Addr) (c0 : Nat) (l0 : List (S44)) (r : Bool) (w : World) (hr0 : Kd.C k44 w A0 l0.length l0) (hc0 : l0.length ≤ c0) (h : impl_goodCode.f k l0 = some r) :
  Calls Try.prog 30 #[.slice A0 l0.length c0] w fun e w' => e = .returned (.bool r) ∧ Below w.heap.size w w' := by
 have hu44 := Try.underlying44
 have HR0 := Aside0.mk hr0
 have HC0 := Aside0.mk hc0
 clear hr0 hc0
 have HB := Aside0.mk (Below.refl w.heap.size w)
 have H : (if (l0.length : Int) > 200 then (some false) else (impl_goodCode.l0 k l0 (l0.length : Int) 0)) = some r := h
 clear h
 by_cases c2 : (l0.length : Int) > 200
 ·
  rw [if_pos c2] at H
  have c2b0 : decide (200 < (l0.length : Int)) = true := decide_eq_true c2
  have c2b1 : decide (200 < l0.length) = true := decide_eq_true (by omega)
  clear c2
  obtain rfl := Option.some.inj H
  simp only [Option.some.injEq, Prod.mk.injEq] at H
  obtain ⟨rfl⟩ := H
  go_enter Try.func30, Try.ntmps30
  go_wp2
  go_ret
  exact ⟨rr_, bw HB.out⟩
 ·
  rw [if_neg c2] at H
  have c2b0 : decide (200 < (l0.length : Int)) = false := decide_eq_false c2
  have c2b1 : decide (200 < l0.length) = false := decide_eq_false (by omega)
  clear c2
  have H' := Aside0.mk H
  clear H
  go_enter Try.func30, Try.ntmps30
  go_wp2
  (try simp only [Act.put, List.setIfInBounds_toArray, List.set_cons_zero, List.set_cons_succ])
  go_loopg [10] k (fun kq v10 w' => ∃ (x10_1 : Int), v10 = .int .i64 x10_1 ∧ Aside0 (impl_goodCode.l0 kq l0 (l0.length : Int) x10_1 = some r) ∧ Aside0 (kq ≤ k) ∧ Aside0 (Below w.heap.size w w'))
  case atStart => exact ⟨(0), (by first | rfl | (simp; done) | (simp [*]; done)), H', ⟨Nat.le_refl _⟩, ⟨bw HB.out⟩⟩
  case round =>
   clear H'
   try clear c2
   try clear c2b0
   try clear c2b1
   obtain ⟨x10_1, rfl, HA, HK1, HB⟩ := hrel
   cases gk with
   | zero => exact absurd HA.out (by simp [impl_goodCode.l0])
   | succ k1 =>
    have H := HA.out
    clear HA
    simp only [impl_goodCode.l0] at H
    by_cases c3 : x10_1 < (l0.length : Int)
    ·
     rw [if_pos c3] at H
     have c3b0 : decide (x10_1 < (l0.length : Int)) = true := decide_eq_true c3
     clear c3
     by_cases c4 : 0 ≤ x10_1
     ·
      rw [if_pos c4] at H
      have c4b0 : decide (0 ≤ x10_1) = true := decide_eq_true c4
      clear c4
      by_cases c5 : x10_1 < (l0.length : Int)
      ·
       rw [if_pos c5] at H
       have c5b0 : decide (x10_1 < (l0.length : Int)) = true := decide_eq_true c5
       clear c5
       replace H := Option.bind_eq_some_iff.mp H
       obtain ⟨t275, A60, H⟩ := H
       replace H : (if t275 = true then (impl_goodCode.l0 k1 l0 (l0.length : Int) (wrap64 (x10_1 + 1))) else (some false)) = some r := H
       have A6 := Aside0.mk A60
       clear A60
       by_cases c7 : t275 = true
       ·
        subst c7
        have H1 : (impl_goodCode.l0 k1 l0 (l0.length : Int) (wrap64 (x10_1 + 1))) = some r := by rw [if_pos rfl] at H; exact H
        clear H
        have H := H1
        clear H1
        have H' := Aside0.mk H
        clear H
        have p273 : 0 ≤ (x10_1 : Int) := od_
        have q273 : x10_1 < (l0.length : Int) := od_
        obtain ⟨ad273, e273, hx273_0, hx273_1⟩ := at_T44 HR0.out x10_1 p273 q273
        cases e273
        replace hx273_0 := (HB.out.cell (World.block_lt_of_cell? w _ hx273_0)).trans hx273_0
        replace hx273_1 := (HB.out.cell (World.block_lt_of_cell? w _ hx273_1)).trans hx273_1
        replace p273 := eq_true p273
        replace q273 := eq_true q273
        go_wp2_with (first | ((with_reducible refine gate_dst (N := 4) rfl ?_); refine box_event ?hg (N := 4) ?hd (cs := #[.int .i64 0, .int .i64 0]) (t := 44) ?hr ?_; (case hd => rfl); (case hg => rfl); (case hr => first | (go_simp; done) | (go_simp; rfl)); intro gb274 hg w8 hbox hb; have n0_ := Aside0.mk (below_step (bw HB.out) hb); have n1_ := Aside0.mk (hbox); have n2_ := Aside0.mk ((sz_ hg (bw HB.out) : w.heap.size ≤ gb274)); have n3_ := Aside0.mk ((sz_ hg (bw HB.out) : w.heap.size ≤ gb274)); clear HB; have HB := n0_; have BK274 := n1_; have GW274 := n2_; have GE274 := n3_; clear n0_ n1_ n2_ n3_; clear hb hbox hg; obtain ⟨hcz9_0, hcz9_1⟩ := cs2_ BK274.out; obtain ⟨hfz9_0, hfz9_1⟩ := fz2_ BK274.out) | ((with_reducible refine gate_callee (f := 38) rfl ?_); refine goesL_ (some 15) rfl rfl Try.func38 (by kernel_rfl) rfl #[.agg #[.int .i64 ((rd_T44 l0 x10_1).f0), .int .i64 ((rd_T44 l0 x10_1).f1)]] rfl ar ?_; (with_reducible refine (impl_GoodIns.calls k1 ((rd_T44 l0 x10_1).f0) ((rd_T44 l0 x10_1).f1) true _ A6.out).mono ?_); rintro e w10 ⟨rfl, hb⟩; refine ⟨_, rfl, ?_⟩; have n0_ := Aside0.mk (blk_below (g := gb274) (o := .cells #[.int .i64 ((rd_T44 l0 x10_1).f0), .int .i64 ((rd_T44 l0 x10_1).f1)] 44 (0, 0)) (by refine blk_put (cs := #[.int .i64 ((rd_T44 l0 x10_1).f0), .int .i64 0]) ?_ 1 _ rfl; refine blk_put (cs := #[.int .i64 0, .int .i64 0]) ?_ 0 _ rfl; (with_reducible repeat (first | refine blk_drewN ?_ _ | refine blk_drew ?_ | refine blk_alloc ?_ _)); exact BK274.out) hb); have n1_ := Aside0.mk (below_step (bw HB.out) hb); clear BK274; clear HB; have BK274 := n0_; have HB := n1_; clear n0_ n1_; (try clear hb)))
        go_roundg k1
        case measure => have := HK1.out; omega
        case rel => exact ⟨(wrap64 (x10_1 + 1)), (by first | rfl | (simp; done) | (simp [*]; done)), H', ⟨by have := HK1.out; omega⟩, ⟨bw HB.out⟩⟩
       ·
        replace c7 := Bool.eq_false_iff.mpr c7
        subst c7
        have H1 : (some false) = some r := by rw [if_neg (show ¬ (false = true) by decide)] at H; exact H
        clear H
        have H := H1
        clear H1
        obtain rfl := Option.some.inj H
        simp only [Option.some.injEq, Prod.mk.injEq] at H
        obtain ⟨rfl⟩ := H
        have p273 : 0 ≤ (x10_1 : Int) := od_
        have q273 : x10_1 < (l0.length : Int) := od_
        obtain ⟨ad273, e273, hx273_0, hx273_1⟩ := at_T44 HR0.out x10_1 p273 q273
        cases e273
        replace hx273_0 := (HB.out.cell (World.block_lt_of_cell? w _ hx273_0)).trans hx273_0
        replace hx273_1 := (HB.out.cell (World.block_lt_of_cell? w _ hx273_1)).trans hx273_1
        replace p273 := eq_true p273
        replace q273 := eq_true q273
        go_wp2_with (first | ((with_reducible refine gate_dst (N := 4) rfl ?_); refine box_event ?hg (N := 4) ?hd (cs := #[.int .i64 0, .int .i64 0]) (t := 44) ?hr ?_; (case hd => rfl); (case hg => rfl); (case hr => first | (go_simp; done) | (go_simp; rfl)); intro gb274 hg w11 hbox hb; have n0_ := Aside0.mk (below_step (bw HB.out) hb); have n1_ := Aside0.mk (hbox); have n2_ := Aside0.mk ((sz_ hg (bw HB.out) : w.heap.size ≤ gb274)); have n3_ := Aside0.mk ((sz_ hg (bw HB.out) : w.heap.size ≤ gb274)); clear HB; have HB := n0_; have BK274 := n1_; have GW274 := n2_; have GE274 := n3_; clear n0_ n1_ n2_ n3_; clear hb hbox hg; obtain ⟨hcz12_0, hcz12_1⟩ := cs2_ BK274.out; obtain ⟨hfz12_0, hfz12_1⟩ := fz2_ BK274.out) | ((with_reducible refine gate_callee (f := 38) rfl ?_); refine goesL_ (some 15) rfl rfl Try.func38 (by kernel_rfl) rfl #[.agg #[.int .i64 ((rd_T44 l0 x10_1).f0), .int .i64 ((rd_T44 l0 x10_1).f1)]] rfl ar ?_; (with_reducible refine (impl_GoodIns.calls k1 ((rd_T44 l0 x10_1).f0) ((rd_T44 l0 x10_1).f1) false _ A6.out).mono ?_); rintro e w13 ⟨rfl, hb⟩; refine ⟨_, rfl, ?_⟩; have n0_ := Aside0.mk (blk_below (g := gb274) (o := .cells #[.int .i64 ((rd_T44 l0 x10_1).f0), .int .i64 ((rd_T44 l0 x10_1).f1)] 44 (0, 0)) (by refine blk_put (cs := #[.int .i64 ((rd_T44 l0 x10_1).f0), .int .i64 0]) ?_ 1 _ rfl; refine blk_put (cs := #[.int .i64 0, .int .i64 0]) ?_ 0 _ rfl; (with_reducible repeat (first | refine blk_drewN ?_ _ | refine blk_drew ?_ | refine blk_alloc ?_ _)); exact BK274.out) hb); have n1_ := Aside0.mk (below_step (bw HB.out) hb); clear BK274; clear HB; have BK274 := n0_; have HB := n1_; clear n0_ n1_; (try clear hb)))
        go_ret
        exact ⟨rr_, bw HB.out⟩
      ·
       rw [if_neg c5] at H
       exact absurd H (by simp)
     ·
      rw [if_neg c4] at H
      exact absurd H (by simp)
    ·
     rw [if_neg c3] at H
     have c3b0 : decide (x10_1 < (l0.length : Int)) = false := decide_eq_false c3
     clear c3
     obtain rfl := Option.some.inj H
     simp only [Option.some.injEq, Prod.mk.injEq] at H
     obtain ⟨rfl⟩ := H
     go_wp2
     go_ret
     exact ⟨rr_, bw HB.out⟩


/-! ### impl_opens: function 66 -/
def impl_opens.f (a0 : Int) : Option (Bool) := if a0 = 2 then (some true) else (if a0 = 3 then (some true) else (some (a0 == 4)))
set_option maxHeartbeats 8000000 in
set_option maxRecDepth 100000 in
theorem impl_opens.calls (a0 : Int) (r : Bool) (w : World) (h : impl_opens.f a0 = some r) :
  Calls Try.prog 66 #[.int .i64 a0] w fun e w' => e = .returned (.bool r) ∧ Drawn0 w w' := by
 have H : (if a0 = 2 then (some true) else (if a0 = 3 then (some true) else (some (a0 == 4)))) = some r := h
 clear h
 by_cases c2 : a0 = 2
 ·
  rw [if_pos c2] at H
  have c2b0 : (a0 == 2) = true := beq_iff_eq.mpr c2
  have c2b1 : (a0 != 2) = false := bne_eq_false_iff_eq.mpr c2
  clear c2
  obtain rfl := Option.some.inj H
  simp only [Option.some.injEq, Prod.mk.injEq] at H
  obtain ⟨rfl⟩ := H
  go_enter Try.func66, Try.ntmps66
  go_wp2
  go_ret
  exact ⟨by first | rfl | (simp; done) | (simp [*]; done), dr_⟩
 ·
  rw [if_neg c2] at H
  have c2b0 : (a0 == 2) = false := beq_eq_false_iff_ne.mpr c2
  have c2b1 : (a0 != 2) = true := bne_iff_ne.mpr c2
  by_cases c3 : a0 = 3
  ·
   rw [if_pos c3] at H
   have c3b0 : (a0 == 3) = true := beq_iff_eq.mpr c3
   have c3b1 : (a0 != 3) = false := bne_eq_false_iff_eq.mpr c3
   clear c3
   obtain rfl := Option.some.inj H
   simp only [Option.some.injEq, Prod.mk.injEq] at H
   obtain ⟨rfl⟩ := H
   go_enter Try.func66, Try.ntmps66
   go_wp2
   go_ret
   exact ⟨by first | rfl | (simp; done) | (simp [*]; done), dr_⟩
  ·
   rw [if_neg c3] at H
   have c3b0 : (a0 == 3) = false := beq_eq_false_iff_ne.mpr c3
   have c3b1 : (a0 != 3) = true := bne_iff_ne.mpr c3
   obtain rfl := Option.some.inj H
   simp only [Option.some.injEq, Prod.mk.injEq] at H
   obtain ⟨rfl⟩ := H
   go_enter Try.func66, Try.ntmps66
   go_wp2
   go_ret
   exact ⟨by first | rfl | (simp; done) | (simp [*]; done), dr_⟩


/-! ### impl_deepest: function 39 -/
def impl_deepest.l0 : Nat → List Int → Int → List (S44) → Int → Int → Option (Int)
 | 0, _, _, _, _, _ => none
 | k + 1, x3, x4, x12, x13, x14 => if x14 < x13 then (if 0 ≤ x14 then (if x14 < (x12.length : Int) then (if (x3.length : Int) = 0 then (some 0) else ((impl_opens.f ((rd_T44 x12 x14).f0)).bind fun t282 => (if t282 = true then (if x3.length < 17592186044416 then ((some (x3 ++ [(rd_T44 x12 x14).f0] : List Int)).bind fun y283 => (impl_deepest.l0 k y283 (mx x4 (y283.length : Int)) x12 x13 (wrap64 (x14 + 1)))) else (none)) else (if ((rd_T44 x12 x14).f0) = 5 then (if 0 ≤ (wrap64 ((x3.length : Int) - 1)) then (if (wrap64 ((x3.length : Int) - 1)) < (x3.length : Int) then (if (rd x3 (wrap64 ((x3.length : Int) - 1))) = 4 then (impl_deepest.l0 k (x3.set ((wrap64 ((x3.length : Int) - 1)) : Int).toNat 5) x4 x12 x13 (wrap64 (x14 + 1))) else (some 0)) else (none)) else (none)) else (if ((rd_T44 x12 x14).f0) = 11 then (if 0 ≤ (wrap64 ((x3.length : Int) - 1)) then (if (wrap64 ((x3.length : Int) - 1)) ≤ (x3.length : Int) then (impl_deepest.l0 k (x3.take ((wrap64 ((x3.length : Int) - 1)) : Int).toNat) x4 x12 x13 (wrap64 (x14 + 1))) else (none)) else (none)) else (impl_deepest.l0 k x3 x4 x12 x13 (wrap64 (x14 + 1)))))))) else (none)) else (none)) else (if (x3.length : Int) > 0 then (some 0) else (some x4))
def impl_deepest.f (k : Nat) (l0 : List (S44)) : Option (Int) := (impl_goodCode.f k l0).bind fun t276 => (if t276 = true then (impl_deepest.l0 k (([2] : List Int)) 1 l0 (l0.length : Int) 0) else (some 0))
set_option maxHeartbeats 8000000 in
set_option maxRecDepth 100000 in
theorem impl_deepest.calls (k : Nat) (A0 : Option Addr) (c0 : Nat) (l0 : List (S44)) (r : Int) (w : World) (hr0 : Kd.C k44 w A0 l0.length l0) (hc0 : l0.length ≤ c0) (h : impl_deepest.f k l0 = some r) :
  Calls Try.prog 39 #[.slice A0 l0.length c0] w fun e w' => e = .returned (.int .i64 r) ∧ Below w.heap.size w w' := by
 have hu44 := Try.underlying44
 have HR0 := Aside0.mk hr0
 have HC0 := Aside0.mk hc0
 clear hr0 hc0
 have HB := Aside0.mk (Below.refl w.heap.size w)
 have H : ((impl_goodCode.f k l0).bind fun t276 => (if t276 = true then (impl_deepest.l0 k (([2] : List Int)) 1 l0 (l0.length : Int) 0) else (some 0))) = some r := h
 clear h
 replace H := Option.bind_eq_some_iff.mp H
 obtain ⟨t276, A20, H⟩ := H
 replace H : (if t276 = true then (impl_deepest.l0 k (([2] : List Int)) 1 l0 (l0.length : Int) 0) else (some 0)) = some r := H
 have A2 := Aside0.mk A20
 clear A20
 by_cases c3 : t276 = true
 ·
  subst c3
  have H1 : (impl_deepest.l0 k (([2] : List Int)) 1 l0 (l0.length : Int) 0) = some r := by rw [if_pos rfl] at H; exact H
  clear H
  have H := H1
  clear H1
  obtain ⟨y277, hy277⟩ : ∃ y_ : List Int, y_ = (([2] : List Int)) := ⟨_, rfl⟩
  replace H : (impl_deepest.l0 k y277 1 l0 (l0.length : Int) 0) = some r := by first | (rw [hy277]; with_reducible exact H) | (have H2_ := (Option.bind_some _ _).symm.trans H; rw [hy277]; with_reducible exact H2_) | (have H2_ := (Option.bind_some _ _).symm.trans H; with_reducible exact H2_) | with_reducible exact H | (rw [hy277]; exact H) | exact H
  have Ny277 := Aside0.mk hy277
  clear hy277
  have H' := Aside0.mk H
  clear H
  go_enter Try.func39, Try.ntmps39
  go_wp2_with (first | ((with_reducible refine gate_callee (f := 30) rfl ?_); refine goesL_ (some 9) rfl rfl Try.func30 (by kernel_rfl) rfl #[.slice A0 l0.length c0] rfl ar ?_; (with_reducible refine (impl_goodCode.calls k _ _ l0 true _ ?side1 ?side2 A2.out).mono ?_); (case side1 => repeat (first | exact HR0.out | (with_reducible refine Kd.C_alloc ?_ _) | (with_reducible refine Kd.C_drewN ?_ _) | (with_reducible refine Kd.C_drew ?_))); (case side2 => exact HC0.out); rintro e w4 ⟨rfl, hb⟩; refine ⟨_, rfl, ?_⟩; have n0_ := Aside0.mk (below_step (bw HB.out) hb); clear HB; have HB := n0_; clear n0_; (try clear hb)) | ((with_reducible refine gate_dst (N := 11) rfl ?_); refine Kd.R_lit (Kd.int .i64) _ 3 ?hg (N := 11) ?hd (xs := ([2] : List Int)) (inner := [.int .i64 2]) (ok := fun _ => True) (okp := fun _ => True) ?hr ?hp (fun _ hk => hk) trivial (Below.refl _ _) (Nat.le_refl _) (by simp) ?_; (case hd => rfl); (case hg => rfl); (case hr => first | (go_simp; done) | (go_simp; rfl)); (case hp => exact (Reps.one (show Kd.M (Kd.int .i64) _ _ _ 2 [.int .i64 2] from rfl) (Reps.none _ _))); intro v278 w5 ho6 hb hg_ hnew_; clear hg_ hnew_; (first | rw [← Ny277.out] at ho6 | (simp only [Int.reduceToNat] at ho6; rw [← Ny277.out] at ho6)); have n0_ := Aside0.mk (Kd.R_lower ho6 (below_size (bw HB.out))); have n1_ := Aside0.mk (below_step (bw HB.out) hb); clear HB; have HO279 := n0_; have HB := n1_; clear n0_ n1_; clear hb ho6))
  (try simp only [Act.put, List.setIfInBounds_toArray, List.set_cons_zero, List.set_cons_succ])
  go_loopg [3, 4, 14] k (fun kq v3 v4 v14 w' => ∃ (x3_1 : List Int) (x4_1 : Int) (x14_1 : Int), v4 = .int .i64 x4_1 ∧ v14 = .int .i64 x14_1 ∧ Aside0 (impl_deepest.l0 kq x3_1 x4_1 l0 (l0.length : Int) x14_1 = some r) ∧ Aside0 (kq ≤ k) ∧ Aside0 (Kd.R (Kd.int .i64) 3 w' w.heap.size (fun _ => True) v3 x3_1) ∧ Aside0 (Below w.heap.size w w'))
  case atStart => exact ⟨(y277), (1), (0), (by first | rfl | (simp; done) | (simp [*]; done)), (by first | rfl | (simp; done) | (simp [*]; done)), H', ⟨Nat.le_refl _⟩, ⟨kr_ HO279.out⟩, ⟨bw HB.out⟩⟩
  case round =>
   clear H'
   try clear c3
   obtain ⟨x3_1, x4_1, x14_1, rfl, rfl, HA, HK1, HO_3, HB⟩ := hrel
   cases gk with
   | zero => exact absurd HA.out (by simp [impl_deepest.l0])
   | succ k1 =>
    have H := HA.out
    clear HA
    simp only [impl_deepest.l0] at H
    by_cases c7 : x14_1 < (l0.length : Int)
    ·
     rw [if_pos c7] at H
     have c7b0 : decide (x14_1 < (l0.length : Int)) = true := decide_eq_true c7
     clear c7
     by_cases c8 : 0 ≤ x14_1
     ·
      rw [if_pos c8] at H
      have c8b0 : decide (0 ≤ x14_1) = true := decide_eq_true c8
      clear c8
      by_cases c9 : x14_1 < (l0.length : Int)
      ·
       rw [if_pos c9] at H
       have c9b0 : decide (x14_1 < (l0.length : Int)) = true := decide_eq_true c9
       clear c9
       by_cases c10 : (x3_1.length : Int) = 0
       ·
        rw [if_pos c10] at H
        have c10b0 : ((x3_1.length : Int) == 0) = true := beq_iff_eq.mpr c10
        have c10b1 : ((x3_1.length : Int) != 0) = false := bne_eq_false_iff_eq.mpr c10
        clear c10
        obtain rfl := Option.some.inj H
        simp only [Option.some.injEq, Prod.mk.injEq] at H
        obtain ⟨rfl⟩ := H
        have p280 : 0 ≤ (x14_1 : Int) := od_
        have q280 : x14_1 < (l0.length : Int) := od_
        obtain ⟨ad280, e280, hx280_0, hx280_1⟩ := at_T44 HR0.out x14_1 p280 q280
        cases e280
        replace hx280_0 := (HB.out.cell (World.block_lt_of_cell? w _ hx280_0)).trans hx280_0
        replace hx280_1 := (HB.out.cell (World.block_lt_of_cell? w _ hx280_1)).trans hx280_1
        replace p280 := eq_true p280
        replace q280 := eq_true q280
        go_wp2_with (first | ((with_reducible refine gate_dst (N := 6) rfl ?_); refine box_event ?hg (N := 6) ?hd (cs := #[.int .i64 0, .int .i64 0]) (t := 44) ?hr ?_; (case hd => rfl); (case hg => rfl); (case hr => first | (go_simp; done) | (go_simp; rfl)); intro gb281 hg w11 hbox hb; have n0_ := Aside0.mk (Kd.R_below (kr_ HO_3.out) hb); have n1_ := Aside0.mk (below_step (bw HB.out) hb); have n2_ := Aside0.mk (hbox); have n3_ := Aside0.mk ((sz_ hg (bw HB.out) : w.heap.size ≤ gb281)); have n4_ := Aside0.mk ((sz_ hg (bw HB.out) : w.heap.size ≤ gb281)); clear HO_3; clear HB; have HO_3 := n0_; have HB := n1_; have BK281 := n2_; have GW281 := n3_; have GE281 := n4_; clear n0_ n1_ n2_ n3_ n4_; clear hb hbox hg; obtain ⟨hcz12_0, hcz12_1⟩ := cs2_ BK281.out; obtain ⟨hfz12_0, hfz12_1⟩ := fz2_ BK281.out; obtain ⟨Ao13, co13, eo13⟩ := Kd.R_slice HO_3.out; subst eo13))
        go_ret
        exact ⟨rr_, bw HB.out⟩
       ·
        rw [if_neg c10] at H
        have c10b0 : ((x3_1.length : Int) == 0) = false := beq_eq_false_iff_ne.mpr c10
        have c10b1 : ((x3_1.length : Int) != 0) = true := bne_iff_ne.mpr c10
        have c10b2 : ¬ (x3_1 = []) := fun h_ => c10 (by rw [h_]; rfl)
        replace H := Option.bind_eq_some_iff.mp H
        obtain ⟨t282, A140, H⟩ := H
        replace H : (if t282 = true then (if x3_1.length < 17592186044416 then ((some (x3_1 ++ [(rd_T44 l0 x14_1).f0] : List Int)).bind fun y283 => (impl_deepest.l0 k1 y283 (mx x4_1 (y283.length : Int)) l0 (l0.length : Int) (wrap64 (x14_1 + 1)))) else (none)) else (if ((rd_T44 l0 x14_1).f0) = 5 then (if 0 ≤ (wrap64 ((x3_1.length : Int) - 1)) then (if (wrap64 ((x3_1.length : Int) - 1)) < (x3_1.length : Int) then (if (rd x3_1 (wrap64 ((x3_1.length : Int) - 1))) = 4 then (impl_deepest.l0 k1 (x3_1.set ((wrap64 ((x3_1.length : Int) - 1)) : Int).toNat 5) x4_1 l0 (l0.length : Int) (wrap64 (x14_1 + 1))) else (some 0)) else (none)) else (none)) else (if ((rd_T44 l0 x14_1).f0) = 11 then (if 0 ≤ (wrap64 ((x3_1.length : Int) - 1)) then (if (wrap64 ((x3_1.length : Int) - 1)) ≤ (x3_1.length : Int) then (impl_deepest.l0 k1 (x3_1.take ((wrap64 ((x3_1.length : Int) - 1)) : Int).toNat) x4_1 l0 (l0.length : Int) (wrap64 (x14_1 + 1))) else (none)) else (none)) else (impl_deepest.l0 k1 x3_1 x4_1 l0 (l0.length : Int) (wrap64 (x14_1 + 1)))))) = some r := H
        have A14 := Aside0.mk A140
        clear A140
        by_cases c15 : t282 = true
        ·
         subst c15
         have H1 : (if x3_1.length < 17592186044416 then ((some (x3_1 ++ [(rd_T44 l0 x14_1).f0] : List Int)).bind fun y283 => (impl_deepest.l0 k1 y283 (mx x4_1 (y283.length : Int)) l0 (l0.length : Int) (wrap64 (x14_1 + 1)))) else (none)) = some r := by rw [if_pos rfl] at H; exact H
         clear H
         have H := H1
         clear H1
         by_cases c16 : x3_1.length < 17592186044416
         ·
          rw [if_pos c16] at H
          have LMc16 := Aside0.mk c16
          clear c16
          obtain ⟨y283, hy283⟩ : ∃ y_ : List Int, y_ = (x3_1 ++ [(rd_T44 l0 x14_1).f0]) := ⟨_, rfl⟩
          replace H : (impl_deepest.l0 k1 y283 (mx x4_1 (y283.length : Int)) l0 (l0.length : Int) (wrap64 (x14_1 + 1))) = some r := by first | (rw [hy283]; with_reducible exact H) | (have H2_ := (Option.bind_some _ _).symm.trans H; rw [hy283]; with_reducible exact H2_) | (have H2_ := (Option.bind_some _ _).symm.trans H; with_reducible exact H2_) | with_reducible exact H | (rw [hy283]; exact H) | exact H
          have Ny283 := Aside0.mk hy283
          clear hy283
          obtain ⟨ji17, hji17⟩ : ∃ j_ : Int, (mx x4_1 (y283.length : Int)) = j_ := ⟨_, rfl⟩
          replace H : (impl_deepest.l0 k1 y283 ji17 l0 (l0.length : Int) (wrap64 (x14_1 + 1))) = some r := by first | (rw [hji17] at H; exact H) | (simp only [hji17] at H ⊢; exact H)
          (try rw [hji17] at A14)
          have hji17_ : (if x4_1 < (y283.length : Int) then (y283.length : Int) else x4_1) = ji17 := hji17
          have H' := Aside0.mk H
          clear H
          have p280 : 0 ≤ (x14_1 : Int) := od_
          have q280 : x14_1 < (l0.length : Int) := od_
          obtain ⟨ad280, e280, hx280_0, hx280_1⟩ := at_T44 HR0.out x14_1 p280 q280
          cases e280
          replace hx280_0 := (HB.out.cell (World.block_lt_of_cell? w _ hx280_0)).trans hx280_0
          replace hx280_1 := (HB.out.cell (World.block_lt_of_cell? w _ hx280_1)).trans hx280_1
          replace p280 := eq_true p280
          replace q280 := eq_true q280
          go_wp2_with (first | ((with_reducible refine gate_dst (N := 6) rfl ?_); refine box_event ?hg (N := 6) ?hd (cs := #[.int .i64 0, .int .i64 0]) (t := 44) ?hr ?_; (case hd => rfl); (case hg => rfl); (case hr => first | (go_simp; done) | (go_simp; rfl)); intro gb281 hg w18 hbox hb; have n0_ := Aside0.mk (Kd.R_below (kr_ HO_3.out) hb); have n1_ := Aside0.mk (below_step (bw HB.out) hb); have n2_ := Aside0.mk (hbox); have n3_ := Aside0.mk ((sz_ hg (bw HB.out) : w.heap.size ≤ gb281)); have n4_ := Aside0.mk ((sz_ hg (bw HB.out) : w.heap.size ≤ gb281)); clear HO_3; clear HB; have HO_3 := n0_; have HB := n1_; have BK281 := n2_; have GW281 := n3_; have GE281 := n4_; clear n0_ n1_ n2_ n3_ n4_; clear hb hbox hg; obtain ⟨hcz19_0, hcz19_1⟩ := cs2_ BK281.out; obtain ⟨hfz19_0, hfz19_1⟩ := fz2_ BK281.out; obtain ⟨Ao20, co20, eo20⟩ := Kd.R_slice HO_3.out; subst eo20) | ((with_reducible refine gate_callee (f := 66) rfl ?_); refine goesL_ (some 27) rfl rfl Try.func66 (by kernel_rfl) rfl #[.int .i64 ((rd_T44 l0 x14_1).f0)] rfl ar ?_; (with_reducible refine (impl_opens.calls ((rd_T44 l0 x14_1).f0) true _ A14.out).mono ?_); rintro e w' ⟨rfl, ⟨nd, rfl⟩⟩; refine ⟨_, rfl, ?_⟩) | ((with_reducible refine gate_builtin (b := .append) (xs := #[.tmp 28, .tmp 31]) rfl ?_); at_builtin; refine Kd.R_append (Kd.int .i64) (w0 := w) w.heap.size rfl (.tmp 28) (.tmp 31) 22 3 (.int .i64 0) 8 rfl Try.underlying22 info3 rfl (by decide) (by omega) (.slice Ao20 x3_1.length co20) x3_1 ((rd_T44 l0 x14_1).f0) [.int .i64 ((rd_T44 l0 x14_1).f0)] (fun _ => True) (fun _ => False) rfl (by first | (go_simp; done) | (go_simp; rfl)) ?aP (fun _ hk => hk.elim) ?aF ?aO ?aB ?aS ?aL ?_; (case aP => exact rfl); (case aB => exact (bw HB.out)); (case aF => exact (fun _ _ => trivial)); (case aO => exact (by (with_reducible repeat (first | apply Kd.R_alloc | apply Kd.R_drewN | apply Kd.R_drew)); exact Kd.R_mono (Kd.R_far (p := ⟨gb281, 1, none⟩) (Kd.R_far (p := ⟨gb281, 0, none⟩) (Kd.R_types HO_3.out BK281.out (by decide)) (fun _ hk => hk.2) (.int .i64 ((rd_T44 l0 x14_1).f0))) (fun _ hk => hk.2) (.int .i64 ((rd_T44 l0 x14_1).f1))) (fun _ hk => trivial))); (case aS => exact (below_size (bw HB.out))); (case aL => have := LMc16.out; omega); intro v284 w21 ho hb hg hat; rw [← Ny283.out] at ho; have n0_ := Aside0.mk (blk_grown (g := gb281) (o := .cells #[.int .i64 ((rd_T44 l0 x14_1).f0), .int .i64 ((rd_T44 l0 x14_1).f1)] 44 (0, 0)) (by (with_reducible  repeat (first | refine blk_drewN ?_ _ | refine blk_drew ?_ | refine blk_alloc ?_ _)); refine blk_put (cs := #[.int .i64 ((rd_T44 l0 x14_1).f0), .int .i64 0]) ?_ 1 _ rfl; refine blk_put (cs := #[.int .i64 0, .int .i64 0]) ?_ 0 _ rfl; (with_reducible repeat (first | refine blk_drewN ?_ _ | refine blk_drew ?_ | refine blk_alloc ?_ _)); exact BK281.out) hg (Kd.R_ne HO_3.out BK281.out (by decide))); have n1_ := Aside0.mk (hb); have n2_ := Aside0.mk (ho); clear BK281; clear HB; clear HO_3; have BK281 := n0_; have HB := n1_; have HO285 := n2_; clear n0_ n1_ n2_; clear ho hb hg hat; obtain ⟨Ao22, co22, eo22⟩ := Kd.R_slice HO285.out; subst eo22))
          go_roundg k1
          case measure => have := HK1.out; omega
          case rel => exact ⟨(y283), (ji17), (wrap64 (x14_1 + 1)), (by first | rfl | (simp; done) | (simp only [← hji17] <;> (first | rfl | simp)) | (simp [*]; done)), (by first | rfl | (simp; done) | (simp [*]; done)), H', ⟨by have := HK1.out; omega⟩, ⟨kr_ HO285.out⟩, ⟨bw HB.out⟩⟩
         ·
          rw [if_neg c16] at H
          exact absurd H (by simp)
        ·
         replace c15 := Bool.eq_false_iff.mpr c15
         subst c15
         have H1 : (if ((rd_T44 l0 x14_1).f0) = 5 then (if 0 ≤ (wrap64 ((x3_1.length : Int) - 1)) then (if (wrap64 ((x3_1.length : Int) - 1)) < (x3_1.length : Int) then (if (rd x3_1 (wrap64 ((x3_1.length : Int) - 1))) = 4 then (impl_deepest.l0 k1 (x3_1.set ((wrap64 ((x3_1.length : Int) - 1)) : Int).toNat 5) x4_1 l0 (l0.length : Int) (wrap64 (x14_1 + 1))) else (some 0)) else (none)) else (none)) else (if ((rd_T44 l0 x14_1).f0) = 11 then (if 0 ≤ (wrap64 ((x3_1.length : Int) - 1)) then (if (wrap64 ((x3_1.length : Int) - 1)) ≤ (x3_1.length : Int) then (impl_deepest.l0 k1 (x3_1.take ((wrap64 ((x3_1.length : Int) - 1)) : Int).toNat) x4_1 l0 (l0.length : Int) (wrap64 (x14_1 + 1))) else (none)) else (none)) else (impl_deepest.l0 k1 x3_1 x4_1 l0 (l0.length : Int) (wrap64 (x14_1 + 1))))) = some r := by rw [if_neg (show ¬ (false = true) by decide)] at H; exact H
         clear H
         have H := H1
         clear H1
         by_cases c23 : ((rd_T44 l0 x14_1).f0) = 5
         ·
          rw [if_pos c23] at H
          have c23b0 : (((rd_T44 l0 x14_1).f0) == 5) = true := beq_iff_eq.mpr c23
          have c23b1 : (((rd_T44 l0 x14_1).f0) != 5) = false := bne_eq_false_iff_eq.mpr c23
          clear c23
          obtain ⟨ji24, hji24⟩ : ∃ j_ : Int, (wrap64 ((x3_1.length : Int) - 1)) = j_ := ⟨_, rfl⟩
          replace H : (if 0 ≤ (ji24) then (if (ji24) < (x3_1.length : Int) then (if (rd x3_1 (ji24)) = 4 then (impl_deepest.l0 k1 (x3_1.set ((ji24) : Int).toNat 5) x4_1 l0 (l0.length : Int) (wrap64 (x14_1 + 1))) else (some 0)) else (none)) else (none)) = some r := by first | (rw [hji24] at H; exact H) | (simp only [hji24] at H ⊢; exact H)
          (try rw [hji24] at A14)
          have hji24w : (IntKind.i64.wrap ((x3_1.length : Int) - 1)) = ji24 := (i64_w _).trans hji24
          by_cases c25 : 0 ≤ (ji24)
          ·
           rw [if_pos c25] at H
           have c25b0 : decide (0 ≤ (ji24)) = true := decide_eq_true c25
           clear c25
           by_cases c26 : (ji24) < (x3_1.length : Int)
           ·
            rw [if_pos c26] at H
            have c26b0 : decide ((ji24) < (x3_1.length : Int)) = true := decide_eq_true c26
            clear c26
            by_cases c27 : (rd x3_1 (ji24)) = 4
            ·
             rw [if_pos c27] at H
             have c27b0 : ((rd x3_1 (ji24)) == 4) = true := beq_iff_eq.mpr c27
             have c27b1 : ((rd x3_1 (ji24)) != 4) = false := bne_eq_false_iff_eq.mpr c27
             clear c27
             obtain ⟨y287, hy287⟩ : ∃ y_ : List Int, y_ = (x3_1.set ((ji24) : Int).toNat 5) := ⟨_, rfl⟩
             replace H : (impl_deepest.l0 k1 y287 x4_1 l0 (l0.length : Int) (wrap64 (x14_1 + 1))) = some r := by first | (rw [hy287]; with_reducible exact H) | (have H2_ := (Option.bind_some _ _).symm.trans H; rw [hy287]; with_reducible exact H2_) | (have H2_ := (Option.bind_some _ _).symm.trans H; with_reducible exact H2_) | with_reducible exact H | (rw [hy287]; exact H) | exact H
             have Ny287 := Aside0.mk hy287
             clear hy287
             have H' := Aside0.mk H
             clear H
             have p280 : 0 ≤ (x14_1 : Int) := od_
             have q280 : x14_1 < (l0.length : Int) := od_
             obtain ⟨ad280, e280, hx280_0, hx280_1⟩ := at_T44 HR0.out x14_1 p280 q280
             cases e280
             replace hx280_0 := (HB.out.cell (World.block_lt_of_cell? w _ hx280_0)).trans hx280_0
             replace hx280_1 := (HB.out.cell (World.block_lt_of_cell? w _ hx280_1)).trans hx280_1
             replace p280 := eq_true p280
             replace q280 := eq_true q280
             go_wp2_with (first | ((with_reducible refine gate_dst (N := 6) rfl ?_); refine box_event ?hg (N := 6) ?hd (cs := #[.int .i64 0, .int .i64 0]) (t := 44) ?hr ?_; (case hd => rfl); (case hg => rfl); (case hr => first | (go_simp; done) | (go_simp; rfl)); intro gb281 hg w29 hbox hb; have n0_ := Aside0.mk (Kd.R_below (kr_ HO_3.out) hb); have n1_ := Aside0.mk (below_step (bw HB.out) hb); have n2_ := Aside0.mk (hbox); have n3_ := Aside0.mk ((sz_ hg (bw HB.out) : w.heap.size ≤ gb281)); have n4_ := Aside0.mk ((sz_ hg (bw HB.out) : w.heap.size ≤ gb281)); clear HO_3; clear HB; have HO_3 := n0_; have HB := n1_; have BK281 := n2_; have GW281 := n3_; have GE281 := n4_; clear n0_ n1_ n2_ n3_ n4_; clear hb hbox hg; obtain ⟨hcz30_0, hcz30_1⟩ := cs2_ BK281.out; obtain ⟨hfz30_0, hfz30_1⟩ := fz2_ BK281.out) | ((with_reducible refine gate_store (t := 44) (p := 6) rfl ?_); refine store_event (t := 44) (p := 6) (v := ?vo_w31) (w1 := ((w29.setCell ⟨gb281, 0, none⟩ (.int .i64 ((rd_T44 l0 x14_1).f0))).setCell ⟨gb281, 1, none⟩ (.int .i64 ((rd_T44 l0 x14_1).f1)))) ?hg ?ho ?hn ?hr ?_; (case ho => rfl); (case hg => rfl); (case hn => rfl); (case hr => first | (go_simp; done) | (go_simp; rfl)); intro w31 hw; have n0_ : Aside0 (Kd.R (Kd.int .i64) 3 w31 w.heap.size (fun _ => True) u3 x3_1) := ⟨(by rw [hw]; exact (by (with_reducible repeat (first | apply Kd.R_alloc | apply Kd.R_drewN | apply Kd.R_drew)); exact Kd.R_mono (Kd.R_far (p := ⟨gb281, 1, none⟩) (Kd.R_far (p := ⟨gb281, 0, none⟩) (Kd.R_types HO_3.out BK281.out (by decide)) (fun _ hk => hk.2) (.int .i64 ((rd_T44 l0 x14_1).f0))) (fun _ hk => hk.2) (.int .i64 ((rd_T44 l0 x14_1).f1))) (fun _ hk => trivial)))⟩; have n1_ : Aside0 (w31.heap[gb281]? = some (.cells #[.int .i64 ((rd_T44 l0 x14_1).f0), .int .i64 ((rd_T44 l0 x14_1).f1)] 44 (0, 0))) := ⟨(by rw [hw]; exact (by refine blk_put (cs := #[.int .i64 ((rd_T44 l0 x14_1).f0), .int .i64 0]) ?_ 1 _ rfl; refine blk_put (cs := #[.int .i64 0, .int .i64 0]) ?_ 0 _ rfl; (with_reducible repeat (first | refine blk_drewN ?_ _ | refine blk_drew ?_ | refine blk_alloc ?_ _)); exact BK281.out))⟩; have n2_ : Aside0 (Below w.heap.size w w31) := ⟨(by rw [hw]; exact (bw HB.out))⟩; clear hw; clear HO_3; clear BK281; clear HB; have HO_3 := n0_; have BK281 := n1_; have HB := n2_; clear n0_ n1_ n2_; obtain ⟨Ao32, co32, eo32⟩ := Kd.R_slice HO_3.out; subst eo32; obtain ⟨hcz33_0, hcz33_1⟩ := cs2_ BK281.out; obtain ⟨hfz33_0, hfz33_1⟩ := fz2_ BK281.out) | ((with_reducible refine gate_callee (f := 66) rfl ?_); refine goesL_ (some 27) rfl rfl Try.func66 (by kernel_rfl) rfl #[.int .i64 ((rd_T44 l0 x14_1).f0)] rfl ar ?_; (with_reducible refine (impl_opens.calls ((rd_T44 l0 x14_1).f0) false _ A14.out).mono ?_); rintro e w' ⟨rfl, ⟨nd, rfl⟩⟩; refine ⟨_, rfl, ?_⟩; (try (rw [drewN_self w31]; generalize hq_ : World.drewN w31 _ = w31; have n0_ : Aside0 (Kd.R (Kd.int .i64) 3 w31 w.heap.size (fun _ => True) (.slice Ao32 x3_1.length co32) x3_1) := ⟨by rw [← hq_]; exact (kr_ HO_3.out)⟩; have n1_ : Aside0 (w31.heap[gb281]? = some (.cells #[.int .i64 ((rd_T44 l0 x14_1).f0), .int .i64 ((rd_T44 l0 x14_1).f1)] 44 (0, 0))) := ⟨by rw [← hq_]; exact (bk BK281.out)⟩; have n2_ : Aside0 (Below w.heap.size w w31) := ⟨by rw [← hq_]; exact (bw HB.out)⟩; clear HO_3 BK281 HB hq_; have HO_3 := n0_; have BK281 := n1_; have HB := n2_; clear n0_ n1_ n2_)); obtain ⟨hcz34_0, hcz34_1⟩ := cs2_ BK281.out; obtain ⟨hfz34_0, hfz34_1⟩ := fz2_ BK281.out; have p286 : 0 ≤ ((ji24) : Int) := od_; have q286 : (ji24) < (x3_1.length : Int) := od_; obtain ⟨ad286, e286, hx286_0⟩ := Kd.at_int (Kd.R_reads' HO_3.out).2.2 (ji24) p286 q286; cases e286; replace p286 := eq_true p286; replace q286 := eq_true q286; have p28 : 0 ≤ ((ji24) : Int) := od_; have q28 : ((ji24) : Int) < ((x3_1.length : Int) : Int) := od_; obtain ⟨go28, co28, eo28, gb28, gl28, cl28, HG28⟩ := Kd.R_form HO_3.out (by omega); (first | cases eo28 | (injection eo28 with ea_ en_ ec_; (first | subst ea_ | (injection ea_ with ea_; subst ea_)); subst ec_; clear en_)); have GB28 := Aside0.mk gb28; have GG28 := Aside0.mk HG28; clear gb28 gl28 HG28; (first | simp only [add_plain] at hx286_0 | skip); obtain ⟨hx28_0, hf28_0⟩ := Kd.R_celln 0 HO_3.out ((ji24) : Int) p28 q28; replace p28 := eq_true p28; replace q28 := eq_true q28; obtain ⟨hy35_, hz35_⟩ := Kd.R_celln 0 HO_3.out ((ji24) : Int) (od_) (od_); have HP35 := Kd.R_putg HO_3.out ((ji24) : Int) 5) | ((with_reducible refine gate_store (t := 3) (p := 48) rfl ?_); refine store_event (t := 3) (p := 48) (v := ?vo_w36) (w1 := (w31.setCell ⟨go28, ((ji24) : Int).toNat, none⟩ (.int .i64 5))) ?hg ?ho ?hn ?hr ?_; (case ho => rfl); (case hg => rfl); (case hn => rfl); (case hr => first | (go_simp; done) | (go_simp; rfl)); intro w36 hw; have hg : w31.grownBy w36 (some go28) := (by rw [hw]; exact HP35.2); have hp_ : Kd.R (Kd.int .i64) 3 w36 w.heap.size (fun _ => True) (.slice (some ⟨go28, 0, none⟩) x3_1.length co32) y287 := (by rw [hw, Ny287.out]; exact HP35.1); clear HP35; have n0_ := Aside0.mk (hp_); have n1_ := Aside0.mk (blk_grown (g := gb281) (o := .cells #[.int .i64 ((rd_T44 l0 x14_1).f0), .int .i64 ((rd_T44 l0 x14_1).f1)] 44 (0, 0)) (bk BK281.out) hg (Kd.R_ne HO_3.out BK281.out (by decide))); have n2_ := Aside0.mk ((by rw [hw]; exact below_set (HB.out) GB28.out : Below w.heap.size w w36)); clear HO_3; clear BK281; clear HB; have HO_3 := n0_; have BK281 := n1_; have HB := n2_; clear n0_ n1_ n2_; clear hg hw hp_))
             go_roundg k1
             case measure => have := HK1.out; omega
             case rel => exact ⟨(y287), (x4_1), (wrap64 (x14_1 + 1)), (by first | rfl | (simp; done) | (simp [*]; done)), (by first | rfl | (simp; done) | (simp [*]; done)), H', ⟨by have := HK1.out; omega⟩, ⟨kr_ HO_3.out⟩, ⟨bw HB.out⟩⟩
            ·
             rw [if_neg c27] at H
             have c27b0 : ((rd x3_1 (ji24)) == 4) = false := beq_eq_false_iff_ne.mpr c27
             have c27b1 : ((rd x3_1 (ji24)) != 4) = true := bne_iff_ne.mpr c27
             obtain rfl := Option.some.inj H
             simp only [Option.some.injEq, Prod.mk.injEq] at H
             obtain ⟨rfl⟩ := H
             have p280 : 0 ≤ (x14_1 : Int) := od_
             have q280 : x14_1 < (l0.length : Int) := od_
             obtain ⟨ad280, e280, hx280_0, hx280_1⟩ := at_T44 HR0.out x14_1 p280 q280
             cases e280
             replace hx280_0 := (HB.out.cell (World.block_lt_of_cell? w _ hx280_0)).trans hx280_0
             replace hx280_1 := (HB.out.cell (World.block_lt_of_cell? w _ hx280_1)).trans hx280_1
             replace p280 := eq_true p280
             replace q280 := eq_true q280
             go_wp2_with (first | ((with_reducible refine gate_dst (N := 6) rfl ?_); refine box_event ?hg (N := 6) ?hd (cs := #[.int .i64 0, .int .i64 0]) (t := 44) ?hr ?_; (case hd => rfl); (case hg => rfl); (case hr => first | (go_simp; done) | (go_simp; rfl)); intro gb281 hg w37 hbox hb; have n0_ := Aside0.mk (Kd.R_below (kr_ HO_3.out) hb); have n1_ := Aside0.mk (below_step (bw HB.out) hb); have n2_ := Aside0.mk (hbox); have n3_ := Aside0.mk ((sz_ hg (bw HB.out) : w.heap.size ≤ gb281)); have n4_ := Aside0.mk ((sz_ hg (bw HB.out) : w.heap.size ≤ gb281)); clear HO_3; clear HB; have HO_3 := n0_; have HB := n1_; have BK281 := n2_; have GW281 := n3_; have GE281 := n4_; clear n0_ n1_ n2_ n3_ n4_; clear hb hbox hg; obtain ⟨hcz38_0, hcz38_1⟩ := cs2_ BK281.out; obtain ⟨hfz38_0, hfz38_1⟩ := fz2_ BK281.out; obtain ⟨Ao39, co39, eo39⟩ := Kd.R_slice HO_3.out; subst eo39) | ((with_reducible refine gate_callee (f := 66) rfl ?_); refine goesL_ (some 27) rfl rfl Try.func66 (by kernel_rfl) rfl #[.int .i64 ((rd_T44 l0 x14_1).f0)] rfl ar ?_; (with_reducible refine (impl_opens.calls ((rd_T44 l0 x14_1).f0) false _ A14.out).mono ?_); rintro e w' ⟨rfl, ⟨nd, rfl⟩⟩; refine ⟨_, rfl, ?_⟩; have p286 : 0 ≤ ((ji24) : Int) := od_; have q286 : (ji24) < (x3_1.length : Int) := od_; obtain ⟨ad286, e286, hx286_0⟩ := Kd.at_int (Kd.R_reads' HO_3.out).2.2 (ji24) p286 q286; cases e286; have hn286_0 : ad286.block ≠ gb281 := Kd.own_blk (Kd.R_ne HO_3.out BK281.out (by decide)); have hn286_1 : ad286.block ≠ gb281 := Kd.own_blk (Kd.R_ne HO_3.out BK281.out (by decide)); replace hx286_0 := (cell_far (p := ⟨gb281, 0, none⟩) (by first | (rw [add_block]; exact hn286_0) | (show (Addr.add _ _).block ≠ _; rw [add_block]; exact hn286_0) | exact hn286_0) (.int .i64 ((rd_T44 l0 x14_1).f0))).trans hx286_0; replace hx286_0 := (cell_far (p := ⟨gb281, 1, none⟩) (by first | (rw [add_block]; exact hn286_1) | (show (Addr.add _ _).block ≠ _; rw [add_block]; exact hn286_1) | exact hn286_1) (.int .i64 ((rd_T44 l0 x14_1).f1))).trans hx286_0; clear hn286_0; clear hn286_1; replace p286 := eq_true p286; replace q286 := eq_true q286))
             go_ret
             exact ⟨by first | rfl | (simp [errW_none, errW_some] <;> rfl) | (simp only [← hji24]; first | rfl | (simp [errW_none, errW_some] <;> rfl)) | (simp [*, errW_none, errW_some] <;> rfl), bw HB.out⟩
           ·
            rw [if_neg c26] at H
            exact absurd H (by simp)
          ·
           rw [if_neg c25] at H
           exact absurd H (by simp)
         ·
          rw [if_neg c23] at H
          have c23b0 : (((rd_T44 l0 x14_1).f0) == 5) = false := beq_eq_false_iff_ne.mpr c23
          have c23b1 : (((rd_T44 l0 x14_1).f0) != 5) = true := bne_iff_ne.mpr c23
          by_cases c40 : ((rd_T44 l0 x14_1).f0) = 11
          ·
           rw [if_pos c40] at H
           have c40b0 : (((rd_T44 l0 x14_1).f0) == 11) = true := beq_iff_eq.mpr c40
           have c40b1 : (((rd_T44 l0 x14_1).f0) != 11) = false := bne_eq_false_iff_eq.mpr c40
           clear c40
           obtain ⟨ji41, hji41⟩ : ∃ j_ : Int, (wrap64 ((x3_1.length : Int) - 1)) = j_ := ⟨_, rfl⟩
           replace H : (if 0 ≤ (ji41) then (if (ji41) ≤ (x3_1.length : Int) then (impl_deepest.l0 k1 (x3_1.take ((ji41) : Int).toNat) x4_1 l0 (l0.length : Int) (wrap64 (x14_1 + 1))) else (none)) else (none)) = some r := by first | (rw [hji41] at H; exact H) | (simp only [hji41] at H ⊢; exact H)
           (try rw [hji41] at A14)
           have hji41w : (IntKind.i64.wrap ((x3_1.length : Int) - 1)) = ji41 := (i64_w _).trans hji41
           by_cases c42 : 0 ≤ (ji41)
           ·
            rw [if_pos c42] at H
            have c42b0 := eq_true c42
            have c42b1 : decide (0 ≤ (ji41)) = true := decide_eq_true c42
            clear c42
            by_cases c43 : (ji41) ≤ (x3_1.length : Int)
            ·
             rw [if_pos c43] at H
             have c43b0 := eq_true c43
             have c43b1 : decide ((ji41) ≤ (x3_1.length : Int)) = true := decide_eq_true c43
             clear c43
             obtain ⟨y288, hy288⟩ : ∃ y_ : List Int, y_ = (x3_1.take ((ji41) : Int).toNat) := ⟨_, rfl⟩
             replace H : (impl_deepest.l0 k1 y288 x4_1 l0 (l0.length : Int) (wrap64 (x14_1 + 1))) = some r := by first | (rw [hy288]; with_reducible exact H) | (have H2_ := (Option.bind_some _ _).symm.trans H; rw [hy288]; with_reducible exact H2_) | (have H2_ := (Option.bind_some _ _).symm.trans H; with_reducible exact H2_) | with_reducible exact H | (rw [hy288]; exact H) | exact H
             have Ny288 := Aside0.mk hy288
             clear hy288
             have H' := Aside0.mk H
             clear H
             have p280 : 0 ≤ (x14_1 : Int) := od_
             have q280 : x14_1 < (l0.length : Int) := od_
             obtain ⟨ad280, e280, hx280_0, hx280_1⟩ := at_T44 HR0.out x14_1 p280 q280
             cases e280
             replace hx280_0 := (HB.out.cell (World.block_lt_of_cell? w _ hx280_0)).trans hx280_0
             replace hx280_1 := (HB.out.cell (World.block_lt_of_cell? w _ hx280_1)).trans hx280_1
             replace p280 := eq_true p280
             replace q280 := eq_true q280
             go_wp2_with (first | ((with_reducible refine gate_dst (N := 6) rfl ?_); refine box_event ?hg (N := 6) ?hd (cs := #[.int .i64 0, .int .i64 0]) (t := 44) ?hr ?_; (case hd => rfl); (case hg => rfl); (case hr => first | (go_simp; done) | (go_simp; rfl)); intro gb281 hg w44 hbox hb; have n0_ := Aside0.mk (Kd.R_below (kr_ HO_3.out) hb); have n1_ := Aside0.mk (below_step (bw HB.out) hb); have n2_ := Aside0.mk (hbox); have n3_ := Aside0.mk ((sz_ hg (bw HB.out) : w.heap.size ≤ gb281)); have n4_ := Aside0.mk ((sz_ hg (bw HB.out) : w.heap.size ≤ gb281)); clear HO_3; clear HB; have HO_3 := n0_; have HB := n1_; have BK281 := n2_; have GW281 := n3_; have GE281 := n4_; clear n0_ n1_ n2_ n3_ n4_; clear hb hbox hg; obtain ⟨hcz45_0, hcz45_1⟩ := cs2_ BK281.out; obtain ⟨hfz45_0, hfz45_1⟩ := fz2_ BK281.out) | ((with_reducible refine gate_store (t := 44) (p := 6) rfl ?_); refine store_event (t := 44) (p := 6) (v := ?vo_w46) (w1 := ((w44.setCell ⟨gb281, 0, none⟩ (.int .i64 ((rd_T44 l0 x14_1).f0))).setCell ⟨gb281, 1, none⟩ (.int .i64 ((rd_T44 l0 x14_1).f1)))) ?hg ?ho ?hn ?hr ?_; (case ho => rfl); (case hg => rfl); (case hn => rfl); (case hr => first | (go_simp; done) | (go_simp; rfl)); intro w46 hw; have n0_ : Aside0 (Kd.R (Kd.int .i64) 3 w46 w.heap.size (fun _ => True) u3 x3_1) := ⟨(by rw [hw]; exact (by (with_reducible repeat (first | apply Kd.R_alloc | apply Kd.R_drewN | apply Kd.R_drew)); exact Kd.R_mono (Kd.R_far (p := ⟨gb281, 1, none⟩) (Kd.R_far (p := ⟨gb281, 0, none⟩) (Kd.R_types HO_3.out BK281.out (by decide)) (fun _ hk => hk.2) (.int .i64 ((rd_T44 l0 x14_1).f0))) (fun _ hk => hk.2) (.int .i64 ((rd_T44 l0 x14_1).f1))) (fun _ hk => trivial)))⟩; have n1_ : Aside0 (w46.heap[gb281]? = some (.cells #[.int .i64 ((rd_T44 l0 x14_1).f0), .int .i64 ((rd_T44 l0 x14_1).f1)] 44 (0, 0))) := ⟨(by rw [hw]; exact (by refine blk_put (cs := #[.int .i64 ((rd_T44 l0 x14_1).f0), .int .i64 0]) ?_ 1 _ rfl; refine blk_put (cs := #[.int .i64 0, .int .i64 0]) ?_ 0 _ rfl; (with_reducible repeat (first | refine blk_drewN ?_ _ | refine blk_drew ?_ | refine blk_alloc ?_ _)); exact BK281.out))⟩; have n2_ : Aside0 (Below w.heap.size w w46) := ⟨(by rw [hw]; exact (bw HB.out))⟩; clear hw; clear HO_3; clear BK281; clear HB; have HO_3 := n0_; have BK281 := n1_; have HB := n2_; clear n0_ n1_ n2_; obtain ⟨Ao47, co47, eo47⟩ := Kd.R_slice HO_3.out; subst eo47; obtain ⟨hcz48_0, hcz48_1⟩ := cs2_ BK281.out; obtain ⟨hfz48_0, hfz48_1⟩ := fz2_ BK281.out) | ((with_reducible refine gate_callee (f := 66) rfl ?_); refine goesL_ (some 27) rfl rfl Try.func66 (by kernel_rfl) rfl #[.int .i64 ((rd_T44 l0 x14_1).f0)] rfl ar ?_; (with_reducible refine (impl_opens.calls ((rd_T44 l0 x14_1).f0) false _ A14.out).mono ?_); rintro e w' ⟨rfl, ⟨nd, rfl⟩⟩; refine ⟨_, rfl, ?_⟩; have q49 : ((ji41) : Int) ≤ ((x3_1.length : Int) : Int) := od_; obtain ⟨i049, hi049, _, hsz49, _⟩ := info_parts info3; have hcut49 := cut_to (P := Try.prog) 22 3 .i64 Try.underlying22 hi049 Ao47 x3_1.length co47 (ji41) (od_) q49 (Kd.R_reads' HO_3.out).2.1; have hr49 := Kd.R_take (m := ((ji41) : Int).toNat) HO_3.out (by omega); have hy49 : y288.length = ((ji41) : Int).toNat := (by rw [Ny288.out, List.length_take]; omega); rw [← Ny288.out] at hr49; rw [← hy49] at hr49 hcut49; clear hy49 hi049 hsz49 HO_3; have HO290 := Aside0.mk hr49; clear hr49; replace q49 := eq_true q49))
             go_roundg k1
             case measure => have := HK1.out; omega
             case rel => exact ⟨(y288), (x4_1), (wrap64 (x14_1 + 1)), (by first | rfl | (simp; done) | (simp [*]; done)), (by first | rfl | (simp; done) | (simp [*]; done)), H', ⟨by have := HK1.out; omega⟩, ⟨kr_ HO290.out⟩, ⟨bw HB.out⟩⟩
            ·
             rw [if_neg c43] at H
             exact absurd H (by simp)
           ·
            rw [if_neg c42] at H
            exact absurd H (by simp)
          ·
           rw [if_neg c40] at H
           have c40b0 : (((rd_T44 l0 x14_1).f0) == 11) = false := beq_eq_false_iff_ne.mpr c40
           have c40b1 : (((rd_T44 l0 x14_1).f0) != 11) = true := bne_iff_ne.mpr c40
           have H' := Aside0.mk H
           clear H
           have p280 : 0 ≤ (x14_1 : Int) := od_
           have q280 : x14_1 < (l0.length : Int) := od_
           obtain ⟨ad280, e280, hx280_0, hx280_1⟩ := at_T44 HR0.out x14_1 p280 q280
           cases e280
           replace hx280_0 := (HB.out.cell (World.block_lt_of_cell? w _ hx280_0)).trans hx280_0
           replace hx280_1 := (HB.out.cell (World.block_lt_of_cell? w _ hx280_1)).trans hx280_1
           replace p280 := eq_true p280
           replace q280 := eq_true q280
           go_wp2_with (first | ((with_reducible refine gate_dst (N := 6) rfl ?_); refine box_event ?hg (N := 6) ?hd (cs := #[.int .i64 0, .int .i64 0]) (t := 44) ?hr ?_; (case hd => rfl); (case hg => rfl); (case hr => first | (go_simp; done) | (go_simp; rfl)); intro gb281 hg w50 hbox hb; have n0_ := Aside0.mk (Kd.R_below (kr_ HO_3.out) hb); have n1_ := Aside0.mk (below_step (bw HB.out) hb); have n2_ := Aside0.mk (hbox); have n3_ := Aside0.mk ((sz_ hg (bw HB.out) : w.heap.size ≤ gb281)); have n4_ := Aside0.mk ((sz_ hg (bw HB.out) : w.heap.size ≤ gb281)); clear HO_3; clear HB; have HO_3 := n0_; have HB := n1_; have BK281 := n2_; have GW281 := n3_; have GE281 := n4_; clear n0_ n1_ n2_ n3_ n4_; clear hb hbox hg; obtain ⟨hcz51_0, hcz51_1⟩ := cs2_ BK281.out; obtain ⟨hfz51_0, hfz51_1⟩ := fz2_ BK281.out; obtain ⟨Ao52, co52, eo52⟩ := Kd.R_slice HO_3.out; subst eo52) | ((with_reducible refine gate_callee (f := 66) rfl ?_); refine goesL_ (some 27) rfl rfl Try.func66 (by kernel_rfl) rfl #[.int .i64 ((rd_T44 l0 x14_1).f0)] rfl ar ?_; (with_reducible refine (impl_opens.calls ((rd_T44 l0 x14_1).f0) false _ A14.out).mono ?_); rintro e w' ⟨rfl, ⟨nd, rfl⟩⟩; refine ⟨_, rfl, ?_⟩))
           go_roundg k1
           case measure => have := HK1.out; omega
           case rel => exact ⟨(x3_1), (x4_1), (wrap64 (x14_1 + 1)), (by first | rfl | (simp; done) | (simp [*]; done)), (by first | rfl | (simp; done) | (simp [*]; done)), H', ⟨by have := HK1.out; omega⟩, ⟨by (with_reducible repeat (first | apply Kd.R_alloc | apply Kd.R_drewN | apply Kd.R_drew)); exact Kd.R_mono (Kd.R_far (p := ⟨gb281, 1, none⟩) (Kd.R_far (p := ⟨gb281, 0, none⟩) (Kd.R_types HO_3.out BK281.out (by decide)) (fun _ hk => hk.2) (.int .i64 ((rd_T44 l0 x14_1).f0))) (fun _ hk => hk.2) (.int .i64 ((rd_T44 l0 x14_1).f1))) (fun _ hk => trivial)⟩, ⟨bw HB.out⟩⟩
      ·
       rw [if_neg c9] at H
       exact absurd H (by simp)
     ·
      rw [if_neg c8] at H
      exact absurd H (by simp)
    ·
     rw [if_neg c7] at H
     have c7b0 : decide (x14_1 < (l0.length : Int)) = false := decide_eq_false c7
     clear c7
     by_cases c53 : (x3_1.length : Int) > 0
     ·
      rw [if_pos c53] at H
      have c53b0 : decide (0 < (x3_1.length : Int)) = true := decide_eq_true c53
      have c53b1 : decide (0 < x3_1.length) = true := decide_eq_true (by omega)
      clear c53
      obtain rfl := Option.some.inj H
      simp only [Option.some.injEq, Prod.mk.injEq] at H
      obtain ⟨rfl⟩ := H
      obtain ⟨Ao54, co54, eo54⟩ := Kd.R_slice HO_3.out
      subst eo54
      go_wp2
      go_ret
      exact ⟨rr_, bw HB.out⟩
     ·
      rw [if_neg c53] at H
      have c53b0 : decide (0 < (x3_1.length : Int)) = false := decide_eq_false c53
      have c53b1 : decide (0 < x3_1.length) = false := decide_eq_false (by omega)
      clear c53
      obtain rfl := Option.some.inj H
      simp only [Option.some.injEq, Prod.mk.injEq] at H
      obtain ⟨rfl⟩ := H
      obtain ⟨Ao55, co55, eo55⟩ := Kd.R_slice HO_3.out
      subst eo55
      go_wp2
      go_ret
      exact ⟨rr_, bw HB.out⟩
 ·
  replace c3 := Bool.eq_false_iff.mpr c3
  subst c3
  have H1 : (some 0) = some r := by rw [if_neg (show ¬ (false = true) by decide)] at H; exact H
  clear H
  have H := H1
  clear H1
  obtain rfl := Option.some.inj H
  simp only [Option.some.injEq, Prod.mk.injEq] at H
  obtain ⟨rfl⟩ := H
  go_enter Try.func39, Try.ntmps39
  go_wp2_with (first | ((with_reducible refine gate_callee (f := 30) rfl ?_); refine goesL_ (some 9) rfl rfl Try.func30 (by kernel_rfl) rfl #[.slice A0 l0.length c0] rfl ar ?_; (with_reducible refine (impl_goodCode.calls k _ _ l0 false _ ?side1 ?side2 A2.out).mono ?_); (case side1 => repeat (first | exact HR0.out | (with_reducible refine Kd.C_alloc ?_ _) | (with_reducible refine Kd.C_drewN ?_ _) | (with_reducible refine Kd.C_drew ?_))); (case side2 => exact HC0.out); rintro e w56 ⟨rfl, hb⟩; refine ⟨_, rfl, ?_⟩; have n0_ := Aside0.mk (below_step (bw HB.out) hb); clear HB; have HB := n0_; clear n0_; (try clear hb)))
  go_ret
  exact ⟨rr_, bw HB.out⟩

end Go.Proofs.Ytmmlgkepnjelnaa.Q

