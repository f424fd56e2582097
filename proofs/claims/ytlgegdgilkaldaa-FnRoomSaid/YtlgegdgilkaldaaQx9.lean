-- Written by a program of this session; it walks the functions that the law reaches.
import Derived.Test.YtlgegdgilkaldaaQx0
import Derived.Test.YtlgegdgilkaldaaQx6
import Derived.Test.YtlgegdgilkaldaaQx4
namespace Go.Proofs.Ytlgegdgilkaldaa.Q
open Go.RowKit Go.Proofs.YtlgegdgilkaldaaW.PrintWords Go.Proofs.YtlgegdgilkaldaaW.PrintLast Go.Proofs.YtlgegdgilkaldaaW.PrintMore
attribute [local go_sem] max2_int min2_int max_two min_two max_three min_three max_four min_four   -- for this text's walks alone
set_option linter.unusedVariables false
set_option linter.unusedSimpArgs false

/-! ### spec_l11Up: function 67 -/
def spec_l11Up.f (a0 : Int) (a1 : Int) : Option (Int) := if a1 = 0 then (none) else (some (wrap64 ((wrap64 (Int.tdiv (wrap64 ((wrap64 (a0 + a1)) - 1)) a1)) * a1)))
set_option maxHeartbeats 8000000 in
set_option maxRecDepth 100000 in
theorem spec_l11Up.calls (a0 : Int) (a1 : Int) (r : Int) (w : World) (h : spec_l11Up.f a0 a1 = some r) :
  Calls Try.prog 67 #[.int .i64 a0, .int .i64 a1] w fun e w' => e = .returned (.int .i64 r) ∧ Drawn0 w w' := by
 have H : (if a1 = 0 then (none) else (some (wrap64 ((wrap64 (Int.tdiv (wrap64 ((wrap64 (a0 + a1)) - 1)) a1)) * a1)))) = some r := h
 clear h
 by_cases c3 : a1 = 0
 ·
  rw [if_pos c3] at H
  exact absurd H (by simp)
 ·
  rw [if_neg c3] at H
  have c3b0 : (a1 == 0) = false := beq_eq_false_iff_ne.mpr c3
  have c3b1 : (a1 != 0) = true := bne_iff_ne.mpr c3
  obtain rfl := Option.some.inj H
  simp only [Option.some.injEq, Prod.mk.injEq] at H
  obtain ⟨rfl⟩ := H
  go_enter Try.func67, Try.ntmps67
  go_wp2
  go_ret
  exact ⟨by first | rfl | (simp; done) | (simp [*]; done), by repeat (first | exact Drawn0.refl _ | apply Drawn0.step)⟩

end Go.Proofs.Ytlgegdgilkaldaa.Q

namespace Go.Proofs.Ytlgegdgilkaldaa.Q
open Go.RowKit Go.Proofs.YtlgegdgilkaldaaW.PrintWords Go.Proofs.YtlgegdgilkaldaaW.PrintLast Go.Proofs.YtlgegdgilkaldaaW.PrintMore
attribute [local go_sem] max2_int min2_int max_two min_two max_three min_three max_four min_four   -- for this text's walks alone
set_option linter.unusedVariables false
set_option linter.unusedSimpArgs false

/-! ### spec_l11Room: function 46 -/
mutual
def spec_l11Room.j0 : Nat → Int → Bool → Int → Int → List (S52) → Option (Int × Int)
 | 0, _, _, _, _, _ => none
 | k + 1, x17, x20, x229000, x229001, x229002 => if x20 = true then (some (1, 1)) else (if x17 = 4 then (spec_l11Room.j1 k x17 (x17 == 4) x229000 x229001 x229002) else (spec_l11Room.j1 k x17 (x17 == 5) x229000 x229001 x229002))
def spec_l11Room.j1 : Nat → Int → Bool → Int → Int → List (S52) → Option (Int × Int)
 | 0, _, _, _, _, _ => none
 | k + 1, x17, x24, x229000, x229001, x229002 => if x24 = true then (some (2, 2)) else (if x17 = 8 then (spec_l11Room.j2 k x17 (x17 == 8) x229000 x229001 x229002) else (spec_l11Room.j2 k x17 (x17 == 9) x229000 x229001 x229002))
def spec_l11Room.j2 : Nat → Int → Bool → Int → Int → List (S52) → Option (Int × Int)
 | 0, _, _, _, _, _ => none
 | k + 1, x17, x27, x229000, x229001, x229002 => if x27 = true then (some (8, 8)) else (if x17 = 12 then (spec_l11Room.j3 k x17 (x17 == 12) x229000 x229001 x229002) else (spec_l11Room.j3 k x17 (x17 == 13) x229000 x229001 x229002))
def spec_l11Room.j3 : Nat → Int → Bool → Int → Int → List (S52) → Option (Int × Int)
 | 0, _, _, _, _, _ => none
 | k + 1, x17, x30, x229000, x229001, x229002 => if x30 = true then (some (8, 4)) else (if x17 = 16 then (if x229001 ≤ 8 then (some (1, 1)) else (if x229001 ≤ 16 then (some (2, 2)) else (some (4, 4)))) else (if x17 = 19 then (if x229001 ≤ 256 then (some (1, 1)) else (some (2, 2))) else (if x17 = 14 then (spec_l11Room.l0 k 0 1 x229002 (x229002.length : Int) 0) else (if x17 = 15 then (spec_l11Room.j5 k (x17 == 15) x229000 x229001 x229002) else (if x17 = 17 then (spec_l11Room.j5 k (x17 == 17) x229000 x229001 x229002) else (spec_l11Room.j5 k (x17 == 18) x229000 x229001 x229002))))))
def spec_l11Room.l0 : Nat → Int → Int → List (S52) → Int → Int → Option (Int × Int)
 | 0, _, _, _, _, _ => none
 | k + 1, x4, x5, x51, x52, x53 => if x53 < x52 then (if 0 ≤ x53 then (if x53 < (x51.length : Int) then ((spec_l11Room.f k ((rd_T52 x51 x53).f0) ((rd_T52 x51 x53).f1) ((rd_T52 x51 x53).f2)).bind fun bt232 => ((spec_l11Up.f x4 bt232.2).bind fun t234 => (if bt232.2 > x5 then (spec_l11Room.l0 k (wrap64 (t234 + bt232.1)) bt232.2 x51 x52 (wrap64 (x53 + 1))) else (spec_l11Room.l0 k (wrap64 (t234 + bt232.1)) x5 x51 x52 (wrap64 (x53 + 1)))))) else (none)) else (none)) else ((spec_l11Up.f x4 x5).bind fun t229 => (some (t229, x5)))
def spec_l11Room.j5 : Nat → Bool → Int → Int → List (S52) → Option (Int × Int)
 | 0, _, _, _, _ => none
 | k + 1, x76, x229000, x229001, x229002 => if x76 = true then ((spec_l11Cases.f x229000 x229001 x229002).bind fun t235 => (spec_l11Room.l1 k 0 1 t235 (t235.length : Int) 0)) else (some (4, 4))
def spec_l11Room.l1 : Nat → Int → Int → List (S52) → Int → Int → Option (Int × Int)
 | 0, _, _, _, _, _ => none
 | k + 1, x10, x11, x81, x82, x83 => if x83 < x82 then (if 0 ≤ x83 then (if x83 < (x81.length : Int) then ((spec_l11Room.f k ((rd_T52 x81 x83).f0) ((rd_T52 x81 x83).f1) ((rd_T52 x81 x83).f2)).bind fun bt242 => (if bt242.1 > x10 then (if bt242.2 > x11 then (spec_l11Room.l1 k bt242.1 bt242.2 x81 x82 (wrap64 (x83 + 1))) else (spec_l11Room.l1 k bt242.1 x11 x81 x82 (wrap64 (x83 + 1)))) else (if bt242.2 > x11 then (spec_l11Room.l1 k x10 bt242.2 x81 x82 (wrap64 (x83 + 1))) else (spec_l11Room.l1 k x10 x11 x81 x82 (wrap64 (x83 + 1)))))) else (none)) else (none)) else ((spec_l11Up.f 1 x11).bind fun t238 => ((spec_l11Up.f (wrap64 (t238 + x10)) x11).bind fun t239 => (some (t239, x11))))
def spec_l11Room.f : Nat → Int → Int → List (S52) → Option (Int × Int)
 | 0, _, _, _ => none
 | k + 1, a0_0, a0_1, l0_2 => if a0_0 = 0 then (some (0, 1)) else (if a0_0 = 1 then (spec_l11Room.j0 k a0_0 (a0_0 == 1) a0_0 a0_1 l0_2) else (if a0_0 = 2 then (spec_l11Room.j0 k a0_0 (a0_0 == 2) a0_0 a0_1 l0_2) else (spec_l11Room.j0 k a0_0 (a0_0 == 3) a0_0 a0_1 l0_2)))
end
theorem spec_l11Room.mono_l : ∀ k, (∀ y0 y1 y2, LeO (spec_l11Room.f k y0 y1 y2) (spec_l11Room.f (k + 1) y0 y1 y2)) ∧ (∀ y0 y1 y2 y3 y4, LeO (spec_l11Room.j0 k y0 y1 y2 y3 y4) (spec_l11Room.j0 (k + 1) y0 y1 y2 y3 y4)) ∧ (∀ y0 y1 y2 y3 y4, LeO (spec_l11Room.j1 k y0 y1 y2 y3 y4) (spec_l11Room.j1 (k + 1) y0 y1 y2 y3 y4)) ∧ (∀ y0 y1 y2 y3 y4, LeO (spec_l11Room.j2 k y0 y1 y2 y3 y4) (spec_l11Room.j2 (k + 1) y0 y1 y2 y3 y4)) ∧ (∀ y0 y1 y2 y3 y4, LeO (spec_l11Room.j3 k y0 y1 y2 y3 y4) (spec_l11Room.j3 (k + 1) y0 y1 y2 y3 y4)) ∧ (∀ y0 y1 y2 y3 y4, LeO (spec_l11Room.l0 k y0 y1 y2 y3 y4) (spec_l11Room.l0 (k + 1) y0 y1 y2 y3 y4)) ∧ (∀ y0 y1 y2 y3, LeO (spec_l11Room.j5 k y0 y1 y2 y3) (spec_l11Room.j5 (k + 1) y0 y1 y2 y3)) ∧ (∀ y0 y1 y2 y3 y4, LeO (spec_l11Room.l1 k y0 y1 y2 y3 y4) (spec_l11Room.l1 (k + 1) y0 y1 y2 y3 y4))
 | 0 => ⟨fun _ _ _ r h => by simp [spec_l11Room.f] at h, fun _ _ _ _ _ r h => by simp [spec_l11Room.j0] at h, fun _ _ _ _ _ r h => by simp [spec_l11Room.j1] at h, fun _ _ _ _ _ r h => by simp [spec_l11Room.j2] at h, fun _ _ _ _ _ r h => by simp [spec_l11Room.j3] at h, fun _ _ _ _ _ r h => by simp [spec_l11Room.l0] at h, fun _ _ _ _ r h => by simp [spec_l11Room.j5] at h, fun _ _ _ _ _ r h => by simp [spec_l11Room.l1] at h⟩
 | k + 1 => by
  obtain ⟨ih0, ih1, ih2, ih3, ih4, ih5, ih6, ih7⟩ := spec_l11Room.mono_l k
  refine ⟨?_, ?_, ?_, ?_, ?_, ?_, ?_, ?_⟩
  ·
   intro y0 y1 y2
   unfold spec_l11Room.f
   repeat' first
   | (with_reducible exact ih0 _ _ _)
   | (with_reducible exact ih1 _ _ _ _ _)
   | (with_reducible exact ih2 _ _ _ _ _)
   | (with_reducible exact ih3 _ _ _ _ _)
   | (with_reducible exact ih4 _ _ _ _ _)
   | (with_reducible exact ih5 _ _ _ _ _)
   | (with_reducible exact ih6 _ _ _ _)
   | (with_reducible exact ih7 _ _ _ _ _)
   | (with_reducible exact LeO.refl _)
   | (with_reducible exact LeO.none _)
   | (with_reducible refine LeO.ite ?_ ?_)
   | (with_reducible refine LeO.bind ?_ (fun _ => ?_))
   | exact ih0 _ _ _
   | exact ih1 _ _ _ _ _
   | exact ih2 _ _ _ _ _
   | exact ih3 _ _ _ _ _
   | exact ih4 _ _ _ _ _
   | exact ih5 _ _ _ _ _
   | exact ih6 _ _ _ _
   | exact ih7 _ _ _ _ _
   | exact LeO.none _
   | refine LeO.ite ?_ ?_
   | refine LeO.bind ?_ (fun _ => ?_)
  ·
   intro y0 y1 y2 y3 y4
   unfold spec_l11Room.j0
   repeat' first
   | (with_reducible exact ih0 _ _ _)
   | (with_reducible exact ih1 _ _ _ _ _)
   | (with_reducible exact ih2 _ _ _ _ _)
   | (with_reducible exact ih3 _ _ _ _ _)
   | (with_reducible exact ih4 _ _ _ _ _)
   | (with_reducible exact ih5 _ _ _ _ _)
   | (with_reducible exact ih6 _ _ _ _)
   | (with_reducible exact ih7 _ _ _ _ _)
   | (with_reducible exact LeO.refl _)
   | (with_reducible exact LeO.none _)
   | (with_reducible refine LeO.ite ?_ ?_)
   | (with_reducible refine LeO.bind ?_ (fun _ => ?_))
   | exact ih0 _ _ _
   | exact ih1 _ _ _ _ _
   | exact ih2 _ _ _ _ _
   | exact ih3 _ _ _ _ _
   | exact ih4 _ _ _ _ _
   | exact ih5 _ _ _ _ _
   | exact ih6 _ _ _ _
   | exact ih7 _ _ _ _ _
   | exact LeO.none _
   | refine LeO.ite ?_ ?_
   | refine LeO.bind ?_ (fun _ => ?_)
  ·
   intro y0 y1 y2 y3 y4
   unfold spec_l11Room.j1
   repeat' first
   | (with_reducible exact ih0 _ _ _)
   | (with_reducible exact ih1 _ _ _ _ _)
   | (with_reducible exact ih2 _ _ _ _ _)
   | (with_reducible exact ih3 _ _ _ _ _)
   | (with_reducible exact ih4 _ _ _ _ _)
   | (with_reducible exact ih5 _ _ _ _ _)
   | (with_reducible exact ih6 _ _ _ _)
   | (with_reducible exact ih7 _ _ _ _ _)
   | (with_reducible exact LeO.refl _)
   | (with_reducible exact LeO.none _)
   | (with_reducible refine LeO.ite ?_ ?_)
   | (with_reducible refine LeO.bind ?_ (fun _ => ?_))
   | exact ih0 _ _ _
   | exact ih1 _ _ _ _ _
   | exact ih2 _ _ _ _ _
   | exact ih3 _ _ _ _ _
   | exact ih4 _ _ _ _ _
   | exact ih5 _ _ _ _ _
   | exact ih6 _ _ _ _
   | exact ih7 _ _ _ _ _
   | exact LeO.none _
   | refine LeO.ite ?_ ?_
   | refine LeO.bind ?_ (fun _ => ?_)
  ·
   intro y0 y1 y2 y3 y4
   unfold spec_l11Room.j2
   repeat' first
   | (with_reducible exact ih0 _ _ _)
   | (with_reducible exact ih1 _ _ _ _ _)
   | (with_reducible exact ih2 _ _ _ _ _)
   | (with_reducible exact ih3 _ _ _ _ _)
   | (with_reducible exact ih4 _ _ _ _ _)
   | (with_reducible exact ih5 _ _ _ _ _)
   | (with_reducible exact ih6 _ _ _ _)
   | (with_reducible exact ih7 _ _ _ _ _)
   | (with_reducible exact LeO.refl _)
   | (with_reducible exact LeO.none _)
   | (with_reducible refine LeO.ite ?_ ?_)
   | (with_reducible refine LeO.bind ?_ (fun _ => ?_))
   | exact ih0 _ _ _
   | exact ih1 _ _ _ _ _
   | exact ih2 _ _ _ _ _
   | exact ih3 _ _ _ _ _
   | exact ih4 _ _ _ _ _
   | exact ih5 _ _ _ _ _
   | exact ih6 _ _ _ _
   | exact ih7 _ _ _ _ _
   | exact LeO.none _
   | refine LeO.ite ?_ ?_
   | refine LeO.bind ?_ (fun _ => ?_)
  ·
   intro y0 y1 y2 y3 y4
   unfold spec_l11Room.j3
   repeat' first
   | (with_reducible exact ih0 _ _ _)
   | (with_reducible exact ih1 _ _ _ _ _)
   | (with_reducible exact ih2 _ _ _ _ _)
   | (with_reducible exact ih3 _ _ _ _ _)
   | (with_reducible exact ih4 _ _ _ _ _)
   | (with_reducible exact ih5 _ _ _ _ _)
   | (with_reducible exact ih6 _ _ _ _)
   | (with_reducible exact ih7 _ _ _ _ _)
   | (with_reducible exact LeO.refl _)
   | (with_reducible exact LeO.none _)
   | (with_reducible refine LeO.ite ?_ ?_)
   | (with_reducible refine LeO.bind ?_ (fun _ => ?_))
   | exact ih0 _ _ _
   | exact ih1 _ _ _ _ _
   | exact ih2 _ _ _ _ _
   | exact ih3 _ _ _ _ _
   | exact ih4 _ _ _ _ _
   | exact ih5 _ _ _ _ _
   | exact ih6 _ _ _ _
   | exact ih7 _ _ _ _ _
   | exact LeO.none _
   | refine LeO.ite ?_ ?_
   | refine LeO.bind ?_ (fun _ => ?_)
  ·
   intro y0 y1 y2 y3 y4
   unfold spec_l11Room.l0
   repeat' first
   | (with_reducible exact ih0 _ _ _)
   | (with_reducible exact ih1 _ _ _ _ _)
   | (with_reducible exact ih2 _ _ _ _ _)
   | (with_reducible exact ih3 _ _ _ _ _)
   | (with_reducible exact ih4 _ _ _ _ _)
   | (with_reducible exact ih5 _ _ _ _ _)
   | (with_reducible exact ih6 _ _ _ _)
   | (with_reducible exact ih7 _ _ _ _ _)
   | (with_reducible exact LeO.refl _)
   | (with_reducible exact LeO.none _)
   | (with_reducible refine LeO.ite ?_ ?_)
   | (with_reducible refine LeO.bind ?_ (fun _ => ?_))
   | exact ih0 _ _ _
   | exact ih1 _ _ _ _ _
   | exact ih2 _ _ _ _ _
   | exact ih3 _ _ _ _ _
   | exact ih4 _ _ _ _ _
   | exact ih5 _ _ _ _ _
   | exact ih6 _ _ _ _
   | exact ih7 _ _ _ _ _
   | exact LeO.none _
   | refine LeO.ite ?_ ?_
   | refine LeO.bind ?_ (fun _ => ?_)
  ·
   intro y0 y1 y2 y3
   unfold spec_l11Room.j5
   repeat' first
   | (with_reducible exact ih0 _ _ _)
   | (with_reducible exact ih1 _ _ _ _ _)
   | (with_reducible exact ih2 _ _ _ _ _)
   | (with_reducible exact ih3 _ _ _ _ _)
   | (with_reducible exact ih4 _ _ _ _ _)
   | (with_reducible exact ih5 _ _ _ _ _)
   | (with_reducible exact ih6 _ _ _ _)
   | (with_reducible exact ih7 _ _ _ _ _)
   | (with_reducible exact LeO.refl _)
   | (with_reducible exact LeO.none _)
   | (with_reducible refine LeO.ite ?_ ?_)
   | (with_reducible refine LeO.bind ?_ (fun _ => ?_))
   | exact ih0 _ _ _
   | exact ih1 _ _ _ _ _
   | exact ih2 _ _ _ _ _
   | exact ih3 _ _ _ _ _
   | exact ih4 _ _ _ _ _
   | exact ih5 _ _ _ _ _
   | exact ih6 _ _ _ _
   | exact ih7 _ _ _ _ _
   | exact LeO.none _
   | refine LeO.ite ?_ ?_
   | refine LeO.bind ?_ (fun _ => ?_)
  ·
   intro y0 y1 y2 y3 y4
   unfold spec_l11Room.l1
   repeat' first
   | (with_reducible exact ih0 _ _ _)
   | (with_reducible exact ih1 _ _ _ _ _)
   | (with_reducible exact ih2 _ _ _ _ _)
   | (with_reducible exact ih3 _ _ _ _ _)
   | (with_reducible exact ih4 _ _ _ _ _)
   | (with_reducible exact ih5 _ _ _ _ _)
   | (with_reducible exact ih6 _ _ _ _)
   | (with_reducible exact ih7 _ _ _ _ _)
   | (with_reducible exact LeO.refl _)
   | (with_reducible exact LeO.none _)
   | (with_reducible refine LeO.ite ?_ ?_)
   | (with_reducible refine LeO.bind ?_ (fun _ => ?_))
   | exact ih0 _ _ _
   | exact ih1 _ _ _ _ _
   | exact ih2 _ _ _ _ _
   | exact ih3 _ _ _ _ _
   | exact ih4 _ _ _ _ _
   | exact ih5 _ _ _ _ _
   | exact ih6 _ _ _ _
   | exact ih7 _ _ _ _ _
   | exact LeO.none _
   | refine LeO.ite ?_ ?_
   | refine LeO.bind ?_ (fun _ => ?_)
theorem spec_l11Room.mono : ∀ a0 a1 a2 k, LeO (spec_l11Room.f k a0 a1 a2) (spec_l11Room.f (k + 1) a0 a1 a2) := by
 intro a0 a1 a2 k
 obtain ⟨ih0, ih1, ih2, ih3, ih4, ih5, ih6, ih7⟩ := spec_l11Room.mono_l k
 exact ih0 a0 a1 a2
set_option maxHeartbeats 8000000 in
set_option maxRecDepth 100000 in
theorem spec_l11Room.calls (k : Nat) : ∀ (a0_0 : Int) (a0_1 : Int) (A0_2 : Option Addr) (c0_2 : Nat) (l0_2 : List (S52)) (r1 : Int) (r2 : Int) (w : World) (hr0_2 : Kd.C k52 w A0_2 l0_2.length l0_2) (hc0_2 : l0_2.length ≤ c0_2) (h : spec_l11Room.f k a0_0 a0_1 l0_2 = some (r1, r2)),
  Calls Try.prog 46 #[.agg #[.int .i64 a0_0, .int .i64 a0_1, .slice A0_2 l0_2.length c0_2]] w fun e w' => e = .returned (.tuple #[.int .i64 r1, .int .i64 r2]) ∧ Below w.heap.size w w' := by
 induction k using Nat.strongRecOn with
 | _ k ih =>
 intro a0_0 a0_1 A0_2 c0_2 l0_2 r1 r2 w hr0_2 hc0_2 h
 cases k with
 | zero => exact absurd h (by simp [spec_l11Room.f])
 | succ k =>
 simp only [spec_l11Room.f] at h
 have hu52 := Try.underlying52
 have HR0_2 := Aside0.mk hr0_2
 have HC0_2 := Aside0.mk hc0_2
 clear hr0_2 hc0_2
 have HB := Aside0.mk (Below.refl w.heap.size w)
 have H : (if a0_0 = 0 then (some (0, 1)) else (if a0_0 = 1 then (spec_l11Room.j0 k a0_0 (a0_0 == 1) a0_0 a0_1 l0_2) else (if a0_0 = 2 then (spec_l11Room.j0 k a0_0 (a0_0 == 2) a0_0 a0_1 l0_2) else (spec_l11Room.j0 k a0_0 (a0_0 == 3) a0_0 a0_1 l0_2)))) = some (r1, r2) := h
 clear h
 by_cases c2 : a0_0 = 0
 ·
  rw [if_pos c2] at H
  have c2b0 : (a0_0 == 0) = true := beq_iff_eq.mpr c2
  have c2b1 : (a0_0 != 0) = false := bne_eq_false_iff_eq.mpr c2
  clear c2
  simp only [Option.some.injEq, Prod.mk.injEq] at H
  obtain ⟨rfl, rfl⟩ := H
  go_enter Try.func46, Try.ntmps46
  go_wp2_with (first | ((with_reducible refine gate_dst (N := 1) rfl ?_); refine box_event ?hg (N := 1) ?hd (cs := #[.int .i64 a0_0, .int .i64 a0_1, .slice A0_2 l0_2.length c0_2]) (t := 52) ?hr ?_; (case hd => rfl); (case hg => rfl); (case hr => first | (go_simp; done) | (go_simp; rfl)); intro gb228 hg w3 hbox hb; have n0_ := Aside0.mk (below_step (bw HB.out) hb); have n1_ := Aside0.mk (hbox); have n2_ := Aside0.mk ((by rw [hg]; exact (below_size (bw HB.out)) : w.heap.size ≤ gb228)); have n3_ := Aside0.mk ((by rw [hg]; exact (below_size (bw HB.out)) : w.heap.size ≤ gb228)); clear HB; have HB := n0_; have BK228 := n1_; have GW228 := n2_; have GE228 := n3_; clear n0_ n1_ n2_ n3_; clear hb hbox hg; have hcz4_0 : w3.cell? ⟨gb228, 0, none⟩ = some (.int .i64 a0_0) := (blk_cell BK228.out 0).trans rfl; have hcz4_1 : w3.cell? ⟨gb228, 1, none⟩ = some (.int .i64 a0_1) := (blk_cell BK228.out 1).trans rfl; have hcz4_2 : w3.cell? ⟨gb228, 2, none⟩ = some (.slice A0_2 l0_2.length c0_2) := (blk_cell BK228.out 2).trans rfl; have hfz4_0 := blk_frozen BK228.out 0; have hfz4_1 := blk_frozen BK228.out 1; have hfz4_2 := blk_frozen BK228.out 2))
  go_ret2
  exact ⟨by first | rfl | (simp [errW_none, errW_some] <;> rfl) | (simp [*, errW_none, errW_some] <;> rfl), bw HB.out⟩
 ·
  rw [if_neg c2] at H
  have c2b0 : (a0_0 == 0) = false := beq_eq_false_iff_ne.mpr c2
  have c2b1 : (a0_0 != 0) = true := bne_iff_ne.mpr c2
  have HC5 := Aside0.mk H
  clear H
  go_enter Try.func46, Try.ntmps46
  go_upto_if 20 with (first | ((with_reducible refine gate_dst (N := 1) rfl ?_); refine box_event ?hg (N := 1) ?hd (cs := #[.int .i64 a0_0, .int .i64 a0_1, .slice A0_2 l0_2.length c0_2]) (t := 52) ?hr ?_; (case hd => rfl); (case hg => rfl); (case hr => first | (go_simp; done) | (go_simp; rfl)); intro gb228 hg w6 hbox hb; have n0_ := Aside0.mk (below_step (bw HB.out) hb); have n1_ := Aside0.mk (hbox); have n2_ := Aside0.mk ((by rw [hg]; exact (below_size (bw HB.out)) : w.heap.size ≤ gb228)); have n3_ := Aside0.mk ((by rw [hg]; exact (below_size (bw HB.out)) : w.heap.size ≤ gb228)); clear HB; have HB := n0_; have BK228 := n1_; have GW228 := n2_; have GE228 := n3_; clear n0_ n1_ n2_ n3_; clear hb hbox hg; have hcz7_0 : w6.cell? ⟨gb228, 0, none⟩ = some (.int .i64 a0_0) := (blk_cell BK228.out 0).trans rfl; have hcz7_1 : w6.cell? ⟨gb228, 1, none⟩ = some (.int .i64 a0_1) := (blk_cell BK228.out 1).trans rfl; have hcz7_2 : w6.cell? ⟨gb228, 2, none⟩ = some (.slice A0_2 l0_2.length c0_2) := (blk_cell BK228.out 2).trans rfl; have hfz7_0 := blk_frozen BK228.out 0; have hfz7_1 := blk_frozen BK228.out 1; have hfz7_2 := blk_frozen BK228.out 2))
  (try simp only [Act.put, List.setIfInBounds_toArray, List.set_cons_zero, List.set_cons_succ])
  go_cut [20] (fun v20 wc => ∃ (kq : Nat) (x20_4 : Bool), v20 = .bool x20_4 ∧ Aside0 (spec_l11Room.j0 kq a0_0 x20_4 a0_0 a0_1 l0_2 = some (r1, r2)) ∧ Aside0 (kq ≤ k) ∧ Aside0 (wc.heap[gb228]? = some (.cells #[.int .i64 a0_0, .int .i64 a0_1, (.slice A0_2 l0_2.length c0_2)] 52 (0, 0))) ∧ Aside0 (Below w.heap.size w wc))
  case first =>
   have H := HC5.out
   clear HC5
   by_cases c8 : a0_0 = 1
   ·
    rw [if_pos c8] at H
    have c8b0 : (a0_0 == 1) = true := beq_iff_eq.mpr c8
    have c8b1 : (a0_0 != 1) = false := bne_eq_false_iff_eq.mpr c8
    clear c8
    (first | rw [c8b0] | (simp only [i64_w, i32_w]; rw [c8b0]) | skip)
    have H' := Aside0.mk H
    clear H
    go_wp2
    go_meet
    case rel => exact ⟨_, ((a0_0 == 1)), (by first | rfl | (simp; done) | (simp [*]; done)), H', ⟨by first | omega | exact Nat.le_refl _⟩, ⟨bk BK228.out⟩, ⟨bw HB.out⟩⟩
   ·
    rw [if_neg c8] at H
    have c8b0 : (a0_0 == 1) = false := beq_eq_false_iff_ne.mpr c8
    have c8b1 : (a0_0 != 1) = true := bne_iff_ne.mpr c8
    (first | rw [c8b0] | (simp only [i64_w, i32_w]; rw [c8b0]) | skip)
    by_cases c9 : a0_0 = 2
    ·
     rw [if_pos c9] at H
     have c9b0 : (a0_0 == 2) = true := beq_iff_eq.mpr c9
     have c9b1 : (a0_0 != 2) = false := bne_eq_false_iff_eq.mpr c9
     clear c9
     have H' := Aside0.mk H
     clear H
     go_wp2
     go_meet
     case rel => exact ⟨_, ((a0_0 == 2)), (by first | rfl | (simp; done) | (simp [*]; done)), H', ⟨by first | omega | exact Nat.le_refl _⟩, ⟨bk BK228.out⟩, ⟨bw HB.out⟩⟩
    ·
     rw [if_neg c9] at H
     have c9b0 : (a0_0 == 2) = false := beq_eq_false_iff_ne.mpr c9
     have c9b1 : (a0_0 != 2) = true := bne_iff_ne.mpr c9
     have H' := Aside0.mk H
     clear H
     go_wp2
     go_meet
     case rel => exact ⟨_, ((a0_0 == 3)), (by first | rfl | (simp; done) | (simp [*]; done)), H', ⟨by first | omega | exact Nat.le_refl _⟩, ⟨bk BK228.out⟩, ⟨bw HB.out⟩⟩
  case rest =>
   clear HC5
   try clear c2
   try clear c2b0
   try clear c2b1
   try clear p2
   try clear c4
   try clear c8
   try clear c8b0
   try clear c8b1
   try clear c9
   try clear c9b0
   try clear c9b1
   try clear hcz4_0 hcz4_1 hcz4_2
   try clear hcz7_0 hcz7_1 hcz7_2
   try clear hfz4_0 hfz4_1 hfz4_2
   try clear hfz7_0 hfz7_1 hfz7_2
   obtain ⟨kq, x20_4, rfl, HA, HJ4, BK228, HB⟩ := hcut
   cases kq with
   | zero => exact absurd HA.out (by simp [spec_l11Room.j0])
   | succ kj4 =>
    have H := HA.out
    clear HA
    simp only [spec_l11Room.j0] at H
    by_cases c10 : x20_4 = true
    ·
     subst c10
     have H1 : (some (1, 1)) = some (r1, r2) := by rw [if_pos rfl] at H; exact H
     clear H
     have H := H1
     clear H1
     simp only [Option.some.injEq, Prod.mk.injEq] at H
     obtain ⟨rfl, rfl⟩ := H
     go_wp2
     go_ret2
     exact ⟨by first | rfl | (simp [errW_none, errW_some] <;> rfl) | (simp [*, errW_none, errW_some] <;> rfl), bw HB.out⟩
    ·
     replace c10 := Bool.eq_false_iff.mpr c10
     subst c10
     have H1 : (if a0_0 = 4 then (spec_l11Room.j1 kj4 a0_0 (a0_0 == 4) a0_0 a0_1 l0_2) else (spec_l11Room.j1 kj4 a0_0 (a0_0 == 5) a0_0 a0_1 l0_2)) = some (r1, r2) := by rw [if_neg (show ¬ (false = true) by decide)] at H; exact H
     clear H
     have H := H1
     clear H1
     have HC11 := Aside0.mk H
     clear H
     go_upto_if 24 with (fail)
     go_cut [24] (fun v24 wc => ∃ (kq : Nat) (x24_10 : Bool), v24 = .bool x24_10 ∧ Aside0 (spec_l11Room.j1 kq a0_0 x24_10 a0_0 a0_1 l0_2 = some (r1, r2)) ∧ Aside0 (kq ≤ kj4) ∧ Aside0 (wc.heap[gb228]? = some (.cells #[.int .i64 a0_0, .int .i64 a0_1, (.slice A0_2 l0_2.length c0_2)] 52 (0, 0))) ∧ Aside0 (Below w.heap.size w wc))
     case first =>
      have H := HC11.out
      clear HC11
      by_cases c12 : a0_0 = 4
      ·
       rw [if_pos c12] at H
       have c12b0 : (a0_0 == 4) = true := beq_iff_eq.mpr c12
       have c12b1 : (a0_0 != 4) = false := bne_eq_false_iff_eq.mpr c12
       clear c12
       (first | rw [c12b0] | (simp only [i64_w, i32_w]; rw [c12b0]) | skip)
       have H' := Aside0.mk H
       clear H
       go_wp2
       go_meet
       case rel => exact ⟨_, ((a0_0 == 4)), (by first | rfl | (simp; done) | (simp [*]; done)), H', ⟨by have := HJ4.out; first | omega | exact Nat.le_refl _⟩, ⟨bk BK228.out⟩, ⟨bw HB.out⟩⟩
      ·
       rw [if_neg c12] at H
       have c12b0 : (a0_0 == 4) = false := beq_eq_false_iff_ne.mpr c12
       have c12b1 : (a0_0 != 4) = true := bne_iff_ne.mpr c12
       (first | rw [c12b0] | (simp only [i64_w, i32_w]; rw [c12b0]) | skip)
       have H' := Aside0.mk H
       clear H
       go_wp2
       go_meet
       case rel => exact ⟨_, ((a0_0 == 5)), (by first | rfl | (simp; done) | (simp [*]; done)), H', ⟨by have := HJ4.out; first | omega | exact Nat.le_refl _⟩, ⟨bk BK228.out⟩, ⟨bw HB.out⟩⟩
     case rest =>
      clear HC11
      try clear c1
      try clear c2
      try clear c2b0
      try clear c2b1
      try clear p2
      try clear c4
      try clear c8
      try clear c8b0
      try clear c8b1
      try clear c9
      try clear c9b0
      try clear c9b1
      try clear c10
      try clear c12
      try clear c12b0
      try clear c12b1
      try clear hcz4_0 hcz4_1 hcz4_2
      try clear hcz7_0 hcz7_1 hcz7_2
      try clear hfz4_0 hfz4_1 hfz4_2
      try clear hfz7_0 hfz7_1 hfz7_2
      try clear p2
      obtain ⟨kq, x24_10, rfl, HA, HJ10, BK228, HB⟩ := hcut
      cases kq with
      | zero => exact absurd HA.out (by simp [spec_l11Room.j1])
      | succ kj10 =>
       have H := HA.out
       clear HA
       simp only [spec_l11Room.j1] at H
       by_cases c13 : x24_10 = true
       ·
        subst c13
        have H1 : (some (2, 2)) = some (r1, r2) := by rw [if_pos rfl] at H; exact H
        clear H
        have H := H1
        clear H1
        simp only [Option.some.injEq, Prod.mk.injEq] at H
        obtain ⟨rfl, rfl⟩ := H
        go_wp2
        go_ret2
        exact ⟨by first | rfl | (simp [errW_none, errW_some] <;> rfl) | (simp [*, errW_none, errW_some] <;> rfl), bw HB.out⟩
       ·
        replace c13 := Bool.eq_false_iff.mpr c13
        subst c13
        have H1 : (if a0_0 = 8 then (spec_l11Room.j2 kj10 a0_0 (a0_0 == 8) a0_0 a0_1 l0_2) else (spec_l11Room.j2 kj10 a0_0 (a0_0 == 9) a0_0 a0_1 l0_2)) = some (r1, r2) := by rw [if_neg (show ¬ (false = true) by decide)] at H; exact H
        clear H
        have H := H1
        clear H1
        have HC14 := Aside0.mk H
        clear H
        go_upto_if 27 with (fail)
        go_cut [27] (fun v27 wc => ∃ (kq : Nat) (x27_13 : Bool), v27 = .bool x27_13 ∧ Aside0 (spec_l11Room.j2 kq a0_0 x27_13 a0_0 a0_1 l0_2 = some (r1, r2)) ∧ Aside0 (kq ≤ kj10) ∧ Aside0 (wc.heap[gb228]? = some (.cells #[.int .i64 a0_0, .int .i64 a0_1, (.slice A0_2 l0_2.length c0_2)] 52 (0, 0))) ∧ Aside0 (Below w.heap.size w wc))
        case first =>
         have H := HC14.out
         clear HC14
         by_cases c15 : a0_0 = 8
         ·
          rw [if_pos c15] at H
          have c15b0 : (a0_0 == 8) = true := beq_iff_eq.mpr c15
          have c15b1 : (a0_0 != 8) = false := bne_eq_false_iff_eq.mpr c15
          clear c15
          (first | rw [c15b0] | (simp only [i64_w, i32_w]; rw [c15b0]) | skip)
          have H' := Aside0.mk H
          clear H
          go_wp2
          go_meet
          case rel => exact ⟨_, ((a0_0 == 8)), (by first | rfl | (simp; done) | (simp [*]; done)), H', ⟨by have := HJ4.out; have := HJ10.out; first | omega | exact Nat.le_refl _⟩, ⟨bk BK228.out⟩, ⟨bw HB.out⟩⟩
         ·
          rw [if_neg c15] at H
          have c15b0 : (a0_0 == 8) = false := beq_eq_false_iff_ne.mpr c15
          have c15b1 : (a0_0 != 8) = true := bne_iff_ne.mpr c15
          (first | rw [c15b0] | (simp only [i64_w, i32_w]; rw [c15b0]) | skip)
          have H' := Aside0.mk H
          clear H
          go_wp2
          go_meet
          case rel => exact ⟨_, ((a0_0 == 9)), (by first | rfl | (simp; done) | (simp [*]; done)), H', ⟨by have := HJ4.out; have := HJ10.out; first | omega | exact Nat.le_refl _⟩, ⟨bk BK228.out⟩, ⟨bw HB.out⟩⟩
        case rest =>
         clear HC14
         try clear c1
         try clear c2
         try clear c2b0
         try clear c2b1
         try clear p2
         try clear c4
         try clear c8
         try clear c8b0
         try clear c8b1
         try clear c9
         try clear c9b0
         try clear c9b1
         try clear c10
         try clear c12
         try clear c12b0
         try clear c12b1
         try clear c13
         try clear c15
         try clear c15b0
         try clear c15b1
         try clear hcz4_0 hcz4_1 hcz4_2
         try clear hcz7_0 hcz7_1 hcz7_2
         try clear hfz4_0 hfz4_1 hfz4_2
         try clear hfz7_0 hfz7_1 hfz7_2
         try clear p2
         obtain ⟨kq, x27_13, rfl, HA, HJ13, BK228, HB⟩ := hcut
         cases kq with
         | zero => exact absurd HA.out (by simp [spec_l11Room.j2])
         | succ kj13 =>
          have H := HA.out
          clear HA
          simp only [spec_l11Room.j2] at H
          by_cases c16 : x27_13 = true
          ·
           subst c16
           have H1 : (some (8, 8)) = some (r1, r2) := by rw [if_pos rfl] at H; exact H
           clear H
           have H := H1
           clear H1
           simp only [Option.some.injEq, Prod.mk.injEq] at H
           obtain ⟨rfl, rfl⟩ := H
           go_wp2
           go_ret2
           exact ⟨by first | rfl | (simp [errW_none, errW_some] <;> rfl) | (simp [*, errW_none, errW_some] <;> rfl), bw HB.out⟩
          ·
           replace c16 := Bool.eq_false_iff.mpr c16
           subst c16
           have H1 : (if a0_0 = 12 then (spec_l11Room.j3 kj13 a0_0 (a0_0 == 12) a0_0 a0_1 l0_2) else (spec_l11Room.j3 kj13 a0_0 (a0_0 == 13) a0_0 a0_1 l0_2)) = some (r1, r2) := by rw [if_neg (show ¬ (false = true) by decide)] at H; exact H
           clear H
           have H := H1
           clear H1
           have HC17 := Aside0.mk H
           clear H
           go_upto_if 30 with (fail)
           go_cut [30] (fun v30 wc => ∃ (kq : Nat) (x30_16 : Bool), v30 = .bool x30_16 ∧ Aside0 (spec_l11Room.j3 kq a0_0 x30_16 a0_0 a0_1 l0_2 = some (r1, r2)) ∧ Aside0 (kq ≤ kj13) ∧ Aside0 (wc.heap[gb228]? = some (.cells #[.int .i64 a0_0, .int .i64 a0_1, (.slice A0_2 l0_2.length c0_2)] 52 (0, 0))) ∧ Aside0 (Below w.heap.size w wc))
           case first =>
            have H := HC17.out
            clear HC17
            by_cases c18 : a0_0 = 12
            ·
             rw [if_pos c18] at H
             have c18b0 : (a0_0 == 12) = true := beq_iff_eq.mpr c18
             have c18b1 : (a0_0 != 12) = false := bne_eq_false_iff_eq.mpr c18
             clear c18
             (first | rw [c18b0] | (simp only [i64_w, i32_w]; rw [c18b0]) | skip)
             have H' := Aside0.mk H
             clear H
             go_wp2
             go_meet
             case rel => exact ⟨_, ((a0_0 == 12)), (by first | rfl | (simp; done) | (simp [*]; done)), H', ⟨by have := HJ4.out; have := HJ10.out; have := HJ13.out; first | omega | exact Nat.le_refl _⟩, ⟨bk BK228.out⟩, ⟨bw HB.out⟩⟩
            ·
             rw [if_neg c18] at H
             have c18b0 : (a0_0 == 12) = false := beq_eq_false_iff_ne.mpr c18
             have c18b1 : (a0_0 != 12) = true := bne_iff_ne.mpr c18
             (first | rw [c18b0] | (simp only [i64_w, i32_w]; rw [c18b0]) | skip)
             have H' := Aside0.mk H
             clear H
             go_wp2
             go_meet
             case rel => exact ⟨_, ((a0_0 == 13)), (by first | rfl | (simp; done) | (simp [*]; done)), H', ⟨by have := HJ4.out; have := HJ10.out; have := HJ13.out; first | omega | exact Nat.le_refl _⟩, ⟨bk BK228.out⟩, ⟨bw HB.out⟩⟩
           case rest =>
            clear HC17
            try clear c1
            try clear c2
            try clear c2b0
            try clear c2b1
            try clear p2
            try clear c4
            try clear c8
            try clear c8b0
            try clear c8b1
            try clear c9
            try clear c9b0
            try clear c9b1
            try clear c10
            try clear c12
            try clear c12b0
            try clear c12b1
            try clear c13
            try clear c15
            try clear c15b0
            try clear c15b1
            try clear c16
            try clear c18
            try clear c18b0
            try clear c18b1
            try clear hcz4_0 hcz4_1 hcz4_2
            try clear hcz7_0 hcz7_1 hcz7_2
            try clear hfz4_0 hfz4_1 hfz4_2
            try clear hfz7_0 hfz7_1 hfz7_2
            try clear p2
            obtain ⟨kq, x30_16, rfl, HA, HJ16, BK228, HB⟩ := hcut
            cases kq with
            | zero => exact absurd HA.out (by simp [spec_l11Room.j3])
            | succ kj16 =>
             have H := HA.out
             clear HA
             simp only [spec_l11Room.j3] at H
             by_cases c19 : x30_16 = true
             ·
              subst c19
              have H1 : (some (8, 4)) = some (r1, r2) := by rw [if_pos rfl] at H; exact H
              clear H
              have H := H1
              clear H1
              simp only [Option.some.injEq, Prod.mk.injEq] at H
              obtain ⟨rfl, rfl⟩ := H
              go_wp2
              go_ret2
              exact ⟨by first | rfl | (simp [errW_none, errW_some] <;> rfl) | (simp [*, errW_none, errW_some] <;> rfl), bw HB.out⟩
             ·
              replace c19 := Bool.eq_false_iff.mpr c19
              subst c19
              have H1 : (if a0_0 = 16 then (if a0_1 ≤ 8 then (some (1, 1)) else (if a0_1 ≤ 16 then (some (2, 2)) else (some (4, 4)))) else (if a0_0 = 19 then (if a0_1 ≤ 256 then (some (1, 1)) else (some (2, 2))) else (if a0_0 = 14 then (spec_l11Room.l0 kj16 0 1 l0_2 (l0_2.length : Int) 0) else (if a0_0 = 15 then (spec_l11Room.j5 kj16 (a0_0 == 15) a0_0 a0_1 l0_2) else (if a0_0 = 17 then (spec_l11Room.j5 kj16 (a0_0 == 17) a0_0 a0_1 l0_2) else (spec_l11Room.j5 kj16 (a0_0 == 18) a0_0 a0_1 l0_2)))))) = some (r1, r2) := by rw [if_neg (show ¬ (false = true) by decide)] at H; exact H
              clear H
              have H := H1
              clear H1
              by_cases c20 : a0_0 = 16
              ·
               rw [if_pos c20] at H
               have c20b0 : (a0_0 == 16) = true := beq_iff_eq.mpr c20
               have c20b1 : (a0_0 != 16) = false := bne_eq_false_iff_eq.mpr c20
               clear c20
               by_cases c21 : a0_1 ≤ 8
               ·
                rw [if_pos c21] at H
                have c21b0 : decide (a0_1 ≤ 8) = true := decide_eq_true c21
                clear c21
                simp only [Option.some.injEq, Prod.mk.injEq] at H
                obtain ⟨rfl, rfl⟩ := H
                have hcz22_0 : wc.cell? ⟨gb228, 0, none⟩ = some (.int .i64 a0_0) := (blk_cell BK228.out 0).trans rfl
                have hcz22_1 : wc.cell? ⟨gb228, 1, none⟩ = some (.int .i64 a0_1) := (blk_cell BK228.out 1).trans rfl
                have hcz22_2 : wc.cell? ⟨gb228, 2, none⟩ = some (.slice A0_2 l0_2.length c0_2) := (blk_cell BK228.out 2).trans rfl
                have hfz22_0 := blk_frozen BK228.out 0
                have hfz22_1 := blk_frozen BK228.out 1
                have hfz22_2 := blk_frozen BK228.out 2
                go_wp2
                go_ret2
                exact ⟨by first | rfl | (simp [errW_none, errW_some] <;> rfl) | (simp [*, errW_none, errW_some] <;> rfl), bw HB.out⟩
               ·
                rw [if_neg c21] at H
                have c21b0 : decide (a0_1 ≤ 8) = false := decide_eq_false c21
                clear c21
                by_cases c23 : a0_1 ≤ 16
                ·
                 rw [if_pos c23] at H
                 have c23b0 : decide (a0_1 ≤ 16) = true := decide_eq_true c23
                 clear c23
                 simp only [Option.some.injEq, Prod.mk.injEq] at H
                 obtain ⟨rfl, rfl⟩ := H
                 have hcz24_0 : wc.cell? ⟨gb228, 0, none⟩ = some (.int .i64 a0_0) := (blk_cell BK228.out 0).trans rfl
                 have hcz24_1 : wc.cell? ⟨gb228, 1, none⟩ = some (.int .i64 a0_1) := (blk_cell BK228.out 1).trans rfl
                 have hcz24_2 : wc.cell? ⟨gb228, 2, none⟩ = some (.slice A0_2 l0_2.length c0_2) := (blk_cell BK228.out 2).trans rfl
                 have hfz24_0 := blk_frozen BK228.out 0
                 have hfz24_1 := blk_frozen BK228.out 1
                 have hfz24_2 := blk_frozen BK228.out 2
                 go_wp2
                 go_ret2
                 exact ⟨by first | rfl | (simp [errW_none, errW_some] <;> rfl) | (simp [*, errW_none, errW_some] <;> rfl), bw HB.out⟩
                ·
                 rw [if_neg c23] at H
                 have c23b0 : decide (a0_1 ≤ 16) = false := decide_eq_false c23
                 clear c23
                 simp only [Option.some.injEq, Prod.mk.injEq] at H
                 obtain ⟨rfl, rfl⟩ := H
                 have hcz25_0 : wc.cell? ⟨gb228, 0, none⟩ = some (.int .i64 a0_0) := (blk_cell BK228.out 0).trans rfl
                 have hcz25_1 : wc.cell? ⟨gb228, 1, none⟩ = some (.int .i64 a0_1) := (blk_cell BK228.out 1).trans rfl
                 have hcz25_2 : wc.cell? ⟨gb228, 2, none⟩ = some (.slice A0_2 l0_2.length c0_2) := (blk_cell BK228.out 2).trans rfl
                 have hfz25_0 := blk_frozen BK228.out 0
                 have hfz25_1 := blk_frozen BK228.out 1
                 have hfz25_2 := blk_frozen BK228.out 2
                 go_wp2
                 go_ret2
                 exact ⟨by first | rfl | (simp [errW_none, errW_some] <;> rfl) | (simp [*, errW_none, errW_some] <;> rfl), bw HB.out⟩
              ·
               rw [if_neg c20] at H
               have c20b0 : (a0_0 == 16) = false := beq_eq_false_iff_ne.mpr c20
               have c20b1 : (a0_0 != 16) = true := bne_iff_ne.mpr c20
               by_cases c26 : a0_0 = 19
               ·
                rw [if_pos c26] at H
                have c26b0 : (a0_0 == 19) = true := beq_iff_eq.mpr c26
                have c26b1 : (a0_0 != 19) = false := bne_eq_false_iff_eq.mpr c26
                clear c26
                by_cases c27 : a0_1 ≤ 256
                ·
                 rw [if_pos c27] at H
                 have c27b0 : decide (a0_1 ≤ 256) = true := decide_eq_true c27
                 clear c27
                 simp only [Option.some.injEq, Prod.mk.injEq] at H
                 obtain ⟨rfl, rfl⟩ := H
                 have hcz28_0 : wc.cell? ⟨gb228, 0, none⟩ = some (.int .i64 a0_0) := (blk_cell BK228.out 0).trans rfl
                 have hcz28_1 : wc.cell? ⟨gb228, 1, none⟩ = some (.int .i64 a0_1) := (blk_cell BK228.out 1).trans rfl
                 have hcz28_2 : wc.cell? ⟨gb228, 2, none⟩ = some (.slice A0_2 l0_2.length c0_2) := (blk_cell BK228.out 2).trans rfl
                 have hfz28_0 := blk_frozen BK228.out 0
                 have hfz28_1 := blk_frozen BK228.out 1
                 have hfz28_2 := blk_frozen BK228.out 2
                 go_wp2
                 go_ret2
                 exact ⟨by first | rfl | (simp [errW_none, errW_some] <;> rfl) | (simp [*, errW_none, errW_some] <;> rfl), bw HB.out⟩
                ·
                 rw [if_neg c27] at H
                 have c27b0 : decide (a0_1 ≤ 256) = false := decide_eq_false c27
                 clear c27
                 simp only [Option.some.injEq, Prod.mk.injEq] at H
                 obtain ⟨rfl, rfl⟩ := H
                 have hcz29_0 : wc.cell? ⟨gb228, 0, none⟩ = some (.int .i64 a0_0) := (blk_cell BK228.out 0).trans rfl
                 have hcz29_1 : wc.cell? ⟨gb228, 1, none⟩ = some (.int .i64 a0_1) := (blk_cell BK228.out 1).trans rfl
                 have hcz29_2 : wc.cell? ⟨gb228, 2, none⟩ = some (.slice A0_2 l0_2.length c0_2) := (blk_cell BK228.out 2).trans rfl
                 have hfz29_0 := blk_frozen BK228.out 0
                 have hfz29_1 := blk_frozen BK228.out 1
                 have hfz29_2 := blk_frozen BK228.out 2
                 go_wp2
                 go_ret2
                 exact ⟨by first | rfl | (simp [errW_none, errW_some] <;> rfl) | (simp [*, errW_none, errW_some] <;> rfl), bw HB.out⟩
               ·
                rw [if_neg c26] at H
                have c26b0 : (a0_0 == 19) = false := beq_eq_false_iff_ne.mpr c26
                have c26b1 : (a0_0 != 19) = true := bne_iff_ne.mpr c26
                by_cases c30 : a0_0 = 14
                ·
                 rw [if_pos c30] at H
                 have c30b0 : (a0_0 == 14) = true := beq_iff_eq.mpr c30
                 have c30b1 : (a0_0 != 14) = false := bne_eq_false_iff_eq.mpr c30
                 clear c30
                 have H' := Aside0.mk H
                 clear H
                 have hcz31_0 : wc.cell? ⟨gb228, 0, none⟩ = some (.int .i64 a0_0) := (blk_cell BK228.out 0).trans rfl
                 have hcz31_1 : wc.cell? ⟨gb228, 1, none⟩ = some (.int .i64 a0_1) := (blk_cell BK228.out 1).trans rfl
                 have hcz31_2 : wc.cell? ⟨gb228, 2, none⟩ = some (.slice A0_2 l0_2.length c0_2) := (blk_cell BK228.out 2).trans rfl
                 have hfz31_0 := blk_frozen BK228.out 0
                 have hfz31_1 := blk_frozen BK228.out 1
                 have hfz31_2 := blk_frozen BK228.out 2
                 go_wp2
                 (try simp only [Act.put, List.setIfInBounds_toArray, List.set_cons_zero, List.set_cons_succ])
                 go_loopg [4, 5, 53] kj16 (fun kq v4 v5 v53 w' => ∃ (x4_5 : Int) (x5_5 : Int) (x53_5 : Int), v4 = .int .i64 x4_5 ∧ v5 = .int .i64 x5_5 ∧ v53 = .int .i64 x53_5 ∧ Aside0 (spec_l11Room.l0 kq x4_5 x5_5 l0_2 (l0_2.length : Int) x53_5 = some (r1, r2)) ∧ Aside0 (kq ≤ kj16) ∧ Aside0 (w'.heap[gb228]? = some (.cells #[.int .i64 a0_0, .int .i64 a0_1, (.slice A0_2 l0_2.length c0_2)] 52 (0, 0))) ∧ Aside0 (Below w.heap.size w w'))
                 case atStart => exact ⟨(0), (1), (0), (by first | rfl | (simp; done) | (simp [*]; done)), (by first | rfl | (simp; done) | (simp [*]; done)), (by first | rfl | (simp; done) | (simp [*]; done)), H', ⟨Nat.le_refl _⟩, ⟨bk BK228.out⟩, ⟨bw HB.out⟩⟩
                 case round =>
                  clear H'
                  try clear c1
                  try clear c2
                  try clear c2b0
                  try clear c2b1
                  try clear p2
                  try clear c3
                  try clear c4
                  try clear c8
                  try clear c8b0
                  try clear c8b1
                  try clear c9
                  try clear c9b0
                  try clear c9b1
                  try clear c10
                  try clear c12
                  try clear c12b0
                  try clear c12b1
                  try clear c13
                  try clear c15
                  try clear c15b0
                  try clear c15b1
                  try clear c16
                  try clear c18
                  try clear c18b0
                  try clear c18b1
                  try clear c19
                  try clear c20
                  try clear c20b0
                  try clear c20b1
                  try clear c21
                  try clear c21b0
                  try clear c23
                  try clear c23b0
                  try clear c26
                  try clear c26b0
                  try clear c26b1
                  try clear c27
                  try clear c27b0
                  try clear c30
                  try clear c30b0
                  try clear c30b1
                  try clear hcz22_0 hcz22_1 hcz22_2
                  try clear hcz24_0 hcz24_1 hcz24_2
                  try clear hcz25_0 hcz25_1 hcz25_2
                  try clear hcz28_0 hcz28_1 hcz28_2
                  try clear hcz29_0 hcz29_1 hcz29_2
                  try clear hcz31_0 hcz31_1 hcz31_2
                  try clear hcz4_0 hcz4_1 hcz4_2
                  try clear hcz7_0 hcz7_1 hcz7_2
                  try clear hfz22_0 hfz22_1 hfz22_2
                  try clear hfz24_0 hfz24_1 hfz24_2
                  try clear hfz25_0 hfz25_1 hfz25_2
                  try clear hfz28_0 hfz28_1 hfz28_2
                  try clear hfz29_0 hfz29_1 hfz29_2
                  try clear hfz31_0 hfz31_1 hfz31_2
                  try clear hfz4_0 hfz4_1 hfz4_2
                  try clear hfz7_0 hfz7_1 hfz7_2
                  try clear p2
                  obtain ⟨x4_5, x5_5, x53_5, rfl, rfl, rfl, HA, HK5, BK228, HB⟩ := hrel
                  cases gk with
                  | zero => exact absurd HA.out (by simp [spec_l11Room.l0])
                  | succ k5 =>
                   have H := HA.out
                   clear HA
                   simp only [spec_l11Room.l0] at H
                   by_cases c32 : x53_5 < (l0_2.length : Int)
                   ·
                    rw [if_pos c32] at H
                    have c32b0 : decide (x53_5 < (l0_2.length : Int)) = true := decide_eq_true c32
                    clear c32
                    by_cases c33 : 0 ≤ x53_5
                    ·
                     rw [if_pos c33] at H
                     have c33b0 : decide (0 ≤ x53_5) = true := decide_eq_true c33
                     clear c33
                     by_cases c34 : x53_5 < (l0_2.length : Int)
                     ·
                      rw [if_pos c34] at H
                      have c34b0 : decide (x53_5 < (l0_2.length : Int)) = true := decide_eq_true c34
                      clear c34
                      replace H := Option.bind_eq_some_iff.mp H
                      obtain ⟨⟨t232, t233⟩, A350, H⟩ := H
                      replace H : ((spec_l11Up.f x4_5 t233).bind fun t234 => (if t233 > x5_5 then (spec_l11Room.l0 k5 (wrap64 (t234 + t232)) t233 l0_2 (l0_2.length : Int) (wrap64 (x53_5 + 1))) else (spec_l11Room.l0 k5 (wrap64 (t234 + t232)) x5_5 l0_2 (l0_2.length : Int) (wrap64 (x53_5 + 1))))) = some (r1, r2) := H
                      have A35 := Aside0.mk A350
                      clear A350
                      replace H := Option.bind_eq_some_iff.mp H
                      obtain ⟨t234, A360, H⟩ := H
                      replace H : (if t233 > x5_5 then (spec_l11Room.l0 k5 (wrap64 (t234 + t232)) t233 l0_2 (l0_2.length : Int) (wrap64 (x53_5 + 1))) else (spec_l11Room.l0 k5 (wrap64 (t234 + t232)) x5_5 l0_2 (l0_2.length : Int) (wrap64 (x53_5 + 1)))) = some (r1, r2) := H
                      have A36 := Aside0.mk A360
                      clear A360
                      by_cases c37 : t233 > x5_5
                      ·
                       rw [if_pos c37] at H
                       have c37b0 : decide (x5_5 < t233) = true := decide_eq_true c37
                       clear c37
                       have H' := Aside0.mk H
                       clear H
                       have p230 : 0 ≤ (x53_5 : Int) := of_decide_eq_true (by first | (with_reducible assumption) | assumption)
                       have q230 : x53_5 < (l0_2.length : Int) := of_decide_eq_true (by first | (with_reducible assumption) | assumption)
                       obtain ⟨ad230, A230_2, c230_2, e230, hx230_0, hx230_1, hx230_2, hl230_2, hi230_2⟩ := at_T52 HR0_2.out x53_5 p230 q230
                       cases e230
                       replace hx230_0 := (HB.out.cell (World.block_lt_of_cell? w _ hx230_0)).trans hx230_0
                       replace hx230_1 := (HB.out.cell (World.block_lt_of_cell? w _ hx230_1)).trans hx230_1
                       replace hx230_2 := (HB.out.cell (World.block_lt_of_cell? w _ hx230_2)).trans hx230_2
                       have HR230_2 := Aside0.mk hi230_2
                       have HC230_2 := Aside0.mk hl230_2
                       clear hi230_2 hl230_2
                       replace p230 := eq_true p230
                       replace q230 := eq_true q230
                       go_wp2_with (first | ((with_reducible refine gate_dst (N := 7) rfl ?_); refine box_event ?hg (N := 7) ?hd (cs := #[.int .i64 0, .int .i64 0, .slice none 0 0]) (t := 52) ?hr ?_; (case hd => rfl); (case hg => rfl); (case hr => first | (go_simp; done) | (go_simp; rfl)); intro gb231 hg w38 hbox hb; have n0_ := Aside0.mk (blk_below (g := gb228) (o := .cells #[.int .i64 a0_0, .int .i64 a0_1, .slice (some ad230) l0_2.length c0_2] 52 (0, 0)) (bk BK228.out) hb); have n1_ := Aside0.mk (below_step (bw HB.out) hb); have n2_ := Aside0.mk (hbox); have n3_ := Aside0.mk ((by rw [hg]; exact (below_size (bw HB.out)) : w.heap.size ≤ gb231)); have n4_ := Aside0.mk ((by rw [hg]; exact (below_size (bw HB.out)) : w.heap.size ≤ gb231)); have n5_ := Aside0.mk ((by rw [hg]; exact Nat.ne_of_lt (blk_lt (g := gb228) (o := .cells #[.int .i64 a0_0, .int .i64 a0_1, .slice (some ad230) l0_2.length c0_2] 52 (0, 0)) (bk BK228.out)) : gb228 ≠ gb231)); have n6_ := Aside0.mk ((by rw [hg]; exact Nat.ne_of_gt (blk_lt (g := gb228) (o := .cells #[.int .i64 a0_0, .int .i64 a0_1, .slice (some ad230) l0_2.length c0_2] 52 (0, 0)) (bk BK228.out)) : gb231 ≠ gb228)); clear BK228; clear HB; have BK228 := n0_; have HB := n1_; have BK231 := n2_; have GW231 := n3_; have GE231 := n4_; have NB228_231 := n5_; have NB231_228 := n6_; clear n0_ n1_ n2_ n3_ n4_ n5_ n6_; clear hb hbox hg; have hnb39 := NB231_228.out; have hnc39 := NB228_231.out; have hcz40_0 : w38.cell? ⟨gb231, 0, none⟩ = some (.int .i64 0) := (blk_cell BK231.out 0).trans rfl; have hcz40_1 : w38.cell? ⟨gb231, 1, none⟩ = some (.int .i64 0) := (blk_cell BK231.out 1).trans rfl; have hcz40_2 : w38.cell? ⟨gb231, 2, none⟩ = some (.slice none 0 0) := (blk_cell BK231.out 2).trans rfl; have hfz40_0 := blk_frozen BK231.out 0; have hfz40_1 := blk_frozen BK231.out 1; have hfz40_2 := blk_frozen BK231.out 2) | ((with_reducible refine gate_callee (f := 46) rfl ?_); refine goesL_ (some 59) rfl rfl Try.func46 (by kernel_rfl) rfl #[.agg #[.int .i64 ((rd_T52 l0_2 x53_5).f0), .int .i64 ((rd_T52 l0_2 x53_5).f1), .slice A230_2 ((rd_T52 l0_2 x53_5).f2).length c230_2]] rfl ar ?_; (with_reducible refine (ih k5 (by have := HJ4.out; have := HJ10.out; have := HJ13.out; have := HJ16.out; have := HK5.out; omega) ((rd_T52 l0_2 x53_5).f0) ((rd_T52 l0_2 x53_5).f1) _ _ ((rd_T52 l0_2 x53_5).f2) t232 t233 _ ?side1 ?side2 A35.out).mono ?_); (case side1 => exact Kd.C_below HR230_2.out (bw HB.out)); (case side2 => exact HC230_2.out); rintro e w41 ⟨rfl, hb⟩; refine ⟨_, rfl, ?_⟩; have n0_ := Aside0.mk (blk_below (g := gb228) (o := .cells #[.int .i64 a0_0, .int .i64 a0_1, .slice (some ad230) l0_2.length c0_2] 52 (0, 0)) (by (with_reducible repeat (first | refine blk_drewN ?_ _ | refine blk_drew ?_ | refine blk_alloc ?_ _)); refine blk_far ?_ NB228_231.out _; (with_reducible repeat (first | refine blk_drewN ?_ _ | refine blk_drew ?_ | refine blk_alloc ?_ _)); refine blk_far ?_ NB228_231.out _; (with_reducible repeat (first | refine blk_drewN ?_ _ | refine blk_drew ?_ | refine blk_alloc ?_ _)); refine blk_far ?_ NB228_231.out _; (with_reducible repeat (first | refine blk_drewN ?_ _ | refine blk_drew ?_ | refine blk_alloc ?_ _)); exact BK228.out) hb); have n1_ := Aside0.mk (blk_below (g := gb231) (o := .cells #[.int .i64 ((rd_T52 l0_2 x53_5).f0), .int .i64 ((rd_T52 l0_2 x53_5).f1), .slice A230_2 ((rd_T52 l0_2 x53_5).f2).length c230_2] 52 (0, 0)) (by (with_reducible repeat (first | refine blk_drewN ?_ _ | refine blk_drew ?_ | refine blk_alloc ?_ _)); refine blk_put (cs := #[.int .i64 ((rd_T52 l0_2 x53_5).f0), .int .i64 ((rd_T52 l0_2 x53_5).f1), .slice none 0 0]) ?_ 2 _ rfl; (with_reducible repeat (first | refine blk_drewN ?_ _ | refine blk_drew ?_ | refine blk_alloc ?_ _)); refine blk_put (cs := #[.int .i64 ((rd_T52 l0_2 x53_5).f0), .int .i64 0, .slice none 0 0]) ?_ 1 _ rfl; (with_reducible repeat (first | refine blk_drewN ?_ _ | refine blk_drew ?_ | refine blk_alloc ?_ _)); refine blk_put (cs := #[.int .i64 0, .int .i64 0, .slice none 0 0]) ?_ 0 _ rfl; (with_reducible repeat (first | refine blk_drewN ?_ _ | refine blk_drew ?_ | refine blk_alloc ?_ _)); exact BK231.out) hb); have n2_ := Aside0.mk (below_step (bw HB.out) hb); clear BK228; clear BK231; clear HB; have BK228 := n0_; have BK231 := n1_; have HB := n2_; clear n0_ n1_ n2_; (try clear hb)) | ((with_reducible refine gate_callee (f := 67) rfl ?_); refine goesL_ (some 64) rfl rfl Try.func67 (by kernel_rfl) rfl #[.int .i64 x4_5, .int .i64 t233] rfl ar ?_; (with_reducible refine (spec_l11Up.calls x4_5 t233 t234 _ A36.out).mono ?_); rintro e w' ⟨rfl, ⟨nd, rfl⟩⟩; refine ⟨_, rfl, ?_⟩))
                       go_roundg k5
                       case measure => have := HJ4.out; have := HJ10.out; have := HJ13.out; have := HJ16.out; have := HK5.out; omega
                       case rel => exact ⟨(wrap64 (t234 + t232)), (t233), (wrap64 (x53_5 + 1)), (by first | rfl | (simp; done) | (simp [*]; done)), (by first | rfl | (simp; done) | (simp [*]; done)), (by first | rfl | (simp; done) | (simp [*]; done)), H', ⟨by have := HJ4.out; have := HJ10.out; have := HJ13.out; have := HJ16.out; have := HK5.out; omega⟩, ⟨bk BK228.out⟩, ⟨bw HB.out⟩⟩
                      ·
                       rw [if_neg c37] at H
                       have c37b0 : decide (x5_5 < t233) = false := decide_eq_false c37
                       clear c37
                       have H' := Aside0.mk H
                       clear H
                       have p230 : 0 ≤ (x53_5 : Int) := of_decide_eq_true (by first | (with_reducible assumption) | assumption)
                       have q230 : x53_5 < (l0_2.length : Int) := of_decide_eq_true (by first | (with_reducible assumption) | assumption)
                       obtain ⟨ad230, A230_2, c230_2, e230, hx230_0, hx230_1, hx230_2, hl230_2, hi230_2⟩ := at_T52 HR0_2.out x53_5 p230 q230
                       cases e230
                       replace hx230_0 := (HB.out.cell (World.block_lt_of_cell? w _ hx230_0)).trans hx230_0
                       replace hx230_1 := (HB.out.cell (World.block_lt_of_cell? w _ hx230_1)).trans hx230_1
                       replace hx230_2 := (HB.out.cell (World.block_lt_of_cell? w _ hx230_2)).trans hx230_2
                       have HR230_2 := Aside0.mk hi230_2
                       have HC230_2 := Aside0.mk hl230_2
                       clear hi230_2 hl230_2
                       replace p230 := eq_true p230
                       replace q230 := eq_true q230
                       go_wp2_with (first | ((with_reducible refine gate_dst (N := 7) rfl ?_); refine box_event ?hg (N := 7) ?hd (cs := #[.int .i64 0, .int .i64 0, .slice none 0 0]) (t := 52) ?hr ?_; (case hd => rfl); (case hg => rfl); (case hr => first | (go_simp; done) | (go_simp; rfl)); intro gb231 hg w42 hbox hb; have n0_ := Aside0.mk (blk_below (g := gb228) (o := .cells #[.int .i64 a0_0, .int .i64 a0_1, .slice (some ad230) l0_2.length c0_2] 52 (0, 0)) (bk BK228.out) hb); have n1_ := Aside0.mk (below_step (bw HB.out) hb); have n2_ := Aside0.mk (hbox); have n3_ := Aside0.mk ((by rw [hg]; exact (below_size (bw HB.out)) : w.heap.size ≤ gb231)); have n4_ := Aside0.mk ((by rw [hg]; exact (below_size (bw HB.out)) : w.heap.size ≤ gb231)); have n5_ := Aside0.mk ((by rw [hg]; exact Nat.ne_of_lt (blk_lt (g := gb228) (o := .cells #[.int .i64 a0_0, .int .i64 a0_1, .slice (some ad230) l0_2.length c0_2] 52 (0, 0)) (bk BK228.out)) : gb228 ≠ gb231)); have n6_ := Aside0.mk ((by rw [hg]; exact Nat.ne_of_gt (blk_lt (g := gb228) (o := .cells #[.int .i64 a0_0, .int .i64 a0_1, .slice (some ad230) l0_2.length c0_2] 52 (0, 0)) (bk BK228.out)) : gb231 ≠ gb228)); clear BK228; clear HB; have BK228 := n0_; have HB := n1_; have BK231 := n2_; have GW231 := n3_; have GE231 := n4_; have NB228_231 := n5_; have NB231_228 := n6_; clear n0_ n1_ n2_ n3_ n4_ n5_ n6_; clear hb hbox hg; have hnb43 := NB231_228.out; have hnc43 := NB228_231.out; have hcz44_0 : w42.cell? ⟨gb231, 0, none⟩ = some (.int .i64 0) := (blk_cell BK231.out 0).trans rfl; have hcz44_1 : w42.cell? ⟨gb231, 1, none⟩ = some (.int .i64 0) := (blk_cell BK231.out 1).trans rfl; have hcz44_2 : w42.cell? ⟨gb231, 2, none⟩ = some (.slice none 0 0) := (blk_cell BK231.out 2).trans rfl; have hfz44_0 := blk_frozen BK231.out 0; have hfz44_1 := blk_frozen BK231.out 1; have hfz44_2 := blk_frozen BK231.out 2) | ((with_reducible refine gate_callee (f := 46) rfl ?_); refine goesL_ (some 59) rfl rfl Try.func46 (by kernel_rfl) rfl #[.agg #[.int .i64 ((rd_T52 l0_2 x53_5).f0), .int .i64 ((rd_T52 l0_2 x53_5).f1), .slice A230_2 ((rd_T52 l0_2 x53_5).f2).length c230_2]] rfl ar ?_; (with_reducible refine (ih k5 (by have := HJ4.out; have := HJ10.out; have := HJ13.out; have := HJ16.out; have := HK5.out; omega) ((rd_T52 l0_2 x53_5).f0) ((rd_T52 l0_2 x53_5).f1) _ _ ((rd_T52 l0_2 x53_5).f2) t232 t233 _ ?side1 ?side2 A35.out).mono ?_); (case side1 => exact Kd.C_below HR230_2.out (bw HB.out)); (case side2 => exact HC230_2.out); rintro e w45 ⟨rfl, hb⟩; refine ⟨_, rfl, ?_⟩; have n0_ := Aside0.mk (blk_below (g := gb228) (o := .cells #[.int .i64 a0_0, .int .i64 a0_1, .slice (some ad230) l0_2.length c0_2] 52 (0, 0)) (by (with_reducible repeat (first | refine blk_drewN ?_ _ | refine blk_drew ?_ | refine blk_alloc ?_ _)); refine blk_far ?_ NB228_231.out _; (with_reducible repeat (first | refine blk_drewN ?_ _ | refine blk_drew ?_ | refine blk_alloc ?_ _)); refine blk_far ?_ NB228_231.out _; (with_reducible repeat (first | refine blk_drewN ?_ _ | refine blk_drew ?_ | refine blk_alloc ?_ _)); refine blk_far ?_ NB228_231.out _; (with_reducible repeat (first | refine blk_drewN ?_ _ | refine blk_drew ?_ | refine blk_alloc ?_ _)); exact BK228.out) hb); have n1_ := Aside0.mk (blk_below (g := gb231) (o := .cells #[.int .i64 ((rd_T52 l0_2 x53_5).f0), .int .i64 ((rd_T52 l0_2 x53_5).f1), .slice A230_2 ((rd_T52 l0_2 x53_5).f2).length c230_2] 52 (0, 0)) (by (with_reducible repeat (first | refine blk_drewN ?_ _ | refine blk_drew ?_ | refine blk_alloc ?_ _)); refine blk_put (cs := #[.int .i64 ((rd_T52 l0_2 x53_5).f0), .int .i64 ((rd_T52 l0_2 x53_5).f1), .slice none 0 0]) ?_ 2 _ rfl; (with_reducible repeat (first | refine blk_drewN ?_ _ | refine blk_drew ?_ | refine blk_alloc ?_ _)); refine blk_put (cs := #[.int .i64 ((rd_T52 l0_2 x53_5).f0), .int .i64 0, .slice none 0 0]) ?_ 1 _ rfl; (with_reducible repeat (first | refine blk_drewN ?_ _ | refine blk_drew ?_ | refine blk_alloc ?_ _)); refine blk_put (cs := #[.int .i64 0, .int .i64 0, .slice none 0 0]) ?_ 0 _ rfl; (with_reducible repeat (first | refine blk_drewN ?_ _ | refine blk_drew ?_ | refine blk_alloc ?_ _)); exact BK231.out) hb); have n2_ := Aside0.mk (below_step (bw HB.out) hb); clear BK228; clear BK231; clear HB; have BK228 := n0_; have BK231 := n1_; have HB := n2_; clear n0_ n1_ n2_; (try clear hb)) | ((with_reducible refine gate_callee (f := 67) rfl ?_); refine goesL_ (some 64) rfl rfl Try.func67 (by kernel_rfl) rfl #[.int .i64 x4_5, .int .i64 t233] rfl ar ?_; (with_reducible refine (spec_l11Up.calls x4_5 t233 t234 _ A36.out).mono ?_); rintro e w' ⟨rfl, ⟨nd, rfl⟩⟩; refine ⟨_, rfl, ?_⟩))
                       go_roundg k5
                       case measure => have := HJ4.out; have := HJ10.out; have := HJ13.out; have := HJ16.out; have := HK5.out; omega
                       case rel => exact ⟨(wrap64 (t234 + t232)), (x5_5), (wrap64 (x53_5 + 1)), (by first | rfl | (simp; done) | (simp [*]; done)), (by first | rfl | (simp; done) | (simp [*]; done)), (by first | rfl | (simp; done) | (simp [*]; done)), H', ⟨by have := HJ4.out; have := HJ10.out; have := HJ13.out; have := HJ16.out; have := HK5.out; omega⟩, ⟨bk BK228.out⟩, ⟨bw HB.out⟩⟩
                     ·
                      rw [if_neg c34] at H
                      exact absurd H (by simp)
                    ·
                     rw [if_neg c33] at H
                     exact absurd H (by simp)
                   ·
                    rw [if_neg c32] at H
                    have c32b0 : decide (x53_5 < (l0_2.length : Int)) = false := decide_eq_false c32
                    clear c32
                    replace H := Option.bind_eq_some_iff.mp H
                    obtain ⟨t229, A460, H⟩ := H
                    replace H : (some (t229, x5_5)) = some (r1, r2) := H
                    have A46 := Aside0.mk A460
                    clear A460
                    simp only [Option.some.injEq, Prod.mk.injEq] at H
                    obtain ⟨rfl, rfl⟩ := H
                    go_wp2_with (first | ((with_reducible refine gate_callee (f := 67) rfl ?_); refine goesL_ (some 74) rfl rfl Try.func67 (by kernel_rfl) rfl #[.int .i64 x4_5, .int .i64 x5_5] rfl ar ?_; (with_reducible refine (spec_l11Up.calls x4_5 x5_5 t229 _ A46.out).mono ?_); rintro e w' ⟨rfl, ⟨nd, rfl⟩⟩; refine ⟨_, rfl, ?_⟩))
                    go_ret2
                    exact ⟨by first | rfl | (simp [errW_none, errW_some] <;> rfl) | (simp [*, errW_none, errW_some] <;> rfl), bw HB.out⟩
                ·
                 rw [if_neg c30] at H
                 have c30b0 : (a0_0 == 14) = false := beq_eq_false_iff_ne.mpr c30
                 have c30b1 : (a0_0 != 14) = true := bne_iff_ne.mpr c30
                 have HC47 := Aside0.mk H
                 clear H
                 go_upto_if 76 with (fail)
                 go_cut [76] (fun v76 wc => ∃ (kq : Nat) (x76_46 : Bool), v76 = .bool x76_46 ∧ Aside0 (spec_l11Room.j5 kq x76_46 a0_0 a0_1 l0_2 = some (r1, r2)) ∧ Aside0 (kq ≤ kj16) ∧ Aside0 (wc.heap[gb228]? = some (.cells #[.int .i64 a0_0, .int .i64 a0_1, (.slice A0_2 l0_2.length c0_2)] 52 (0, 0))) ∧ Aside0 (Below w.heap.size w wc))
                 case first =>
                  have H := HC47.out
                  clear HC47
                  by_cases c48 : a0_0 = 15
                  ·
                   rw [if_pos c48] at H
                   have c48b0 : (a0_0 == 15) = true := beq_iff_eq.mpr c48
                   have c48b1 : (a0_0 != 15) = false := bne_eq_false_iff_eq.mpr c48
                   clear c48
                   (first | rw [c48b0] | (simp only [i64_w, i32_w]; rw [c48b0]) | skip)
                   have H' := Aside0.mk H
                   clear H
                   go_wp2
                   go_meet
                   case rel => exact ⟨_, ((a0_0 == 15)), (by first | rfl | (simp; done) | (simp [*]; done)), H', ⟨by have := HJ4.out; have := HJ10.out; have := HJ13.out; have := HJ16.out; first | omega | exact Nat.le_refl _⟩, ⟨bk BK228.out⟩, ⟨bw HB.out⟩⟩
                  ·
                   rw [if_neg c48] at H
                   have c48b0 : (a0_0 == 15) = false := beq_eq_false_iff_ne.mpr c48
                   have c48b1 : (a0_0 != 15) = true := bne_iff_ne.mpr c48
                   (first | rw [c48b0] | (simp only [i64_w, i32_w]; rw [c48b0]) | skip)
                   by_cases c49 : a0_0 = 17
                   ·
                    rw [if_pos c49] at H
                    have c49b0 : (a0_0 == 17) = true := beq_iff_eq.mpr c49
                    have c49b1 : (a0_0 != 17) = false := bne_eq_false_iff_eq.mpr c49
                    clear c49
                    have H' := Aside0.mk H
                    clear H
                    go_wp2
                    go_meet
                    case rel => exact ⟨_, ((a0_0 == 17)), (by first | rfl | (simp; done) | (simp [*]; done)), H', ⟨by have := HJ4.out; have := HJ10.out; have := HJ13.out; have := HJ16.out; first | omega | exact Nat.le_refl _⟩, ⟨bk BK228.out⟩, ⟨bw HB.out⟩⟩
                   ·
                    rw [if_neg c49] at H
                    have c49b0 : (a0_0 == 17) = false := beq_eq_false_iff_ne.mpr c49
                    have c49b1 : (a0_0 != 17) = true := bne_iff_ne.mpr c49
                    have H' := Aside0.mk H
                    clear H
                    go_wp2
                    go_meet
                    case rel => exact ⟨_, ((a0_0 == 18)), (by first | rfl | (simp; done) | (simp [*]; done)), H', ⟨by have := HJ4.out; have := HJ10.out; have := HJ13.out; have := HJ16.out; first | omega | exact Nat.le_refl _⟩, ⟨bk BK228.out⟩, ⟨bw HB.out⟩⟩
                 case rest =>
                  clear HC47
                  try clear c1
                  try clear c2
                  try clear c2b0
                  try clear c2b1
                  try clear p2
                  try clear q2
                  try clear hx2
                  try clear c3
                  try clear c4
                  try clear c6
                  try clear p6
                  try clear c8
                  try clear c8b0
                  try clear c8b1
                  try clear c9
                  try clear c9b0
                  try clear c9b1
                  try clear c10
                  try clear c12
                  try clear c12b0
                  try clear c12b1
                  try clear c13
                  try clear c15
                  try clear c15b0
                  try clear c15b1
                  try clear c16
                  try clear c18
                  try clear c18b0
                  try clear c18b1
                  try clear c19
                  try clear c20
                  try clear c20b0
                  try clear c20b1
                  try clear c21
                  try clear c21b0
                  try clear c23
                  try clear c23b0
                  try clear p23
                  try clear q23
                  try clear hx23
                  try clear c26
                  try clear c26b0
                  try clear c26b1
                  try clear c27
                  try clear c27b0
                  try clear c30
                  try clear c30b0
                  try clear c30b1
                  try clear c32
                  try clear c32b0
                  try clear c33
                  try clear c33b0
                  try clear c34
                  try clear c34b0
                  try clear c37
                  try clear c37b0
                  try clear c39
                  try clear c43
                  try clear c46
                  try clear c48
                  try clear c48b0
                  try clear c48b1
                  try clear c49
                  try clear c49b0
                  try clear c49b1
                  try clear hcz22_0 hcz22_1 hcz22_2
                  try clear hcz24_0 hcz24_1 hcz24_2
                  try clear hcz25_0 hcz25_1 hcz25_2
                  try clear hcz28_0 hcz28_1 hcz28_2
                  try clear hcz29_0 hcz29_1 hcz29_2
                  try clear hcz31_0 hcz31_1 hcz31_2
                  try clear hcz40_0 hcz40_1 hcz40_2
                  try clear hcz44_0 hcz44_1 hcz44_2
                  try clear hcz4_0 hcz4_1 hcz4_2
                  try clear hcz7_0 hcz7_1 hcz7_2
                  try clear hfz22_0 hfz22_1 hfz22_2
                  try clear hfz24_0 hfz24_1 hfz24_2
                  try clear hfz25_0 hfz25_1 hfz25_2
                  try clear hfz28_0 hfz28_1 hfz28_2
                  try clear hfz29_0 hfz29_1 hfz29_2
                  try clear hfz31_0 hfz31_1 hfz31_2
                  try clear hfz40_0 hfz40_1 hfz40_2
                  try clear hfz44_0 hfz44_1 hfz44_2
                  try clear hfz4_0 hfz4_1 hfz4_2
                  try clear hfz7_0 hfz7_1 hfz7_2
                  try clear hx230_0
                  try clear hx230_1
                  try clear hx230_2
                  try clear p2
                  try clear p230
                  try clear q230
                  obtain ⟨kq, x76_46, rfl, HA, HJ46, BK228, HB⟩ := hcut
                  cases kq with
                  | zero => exact absurd HA.out (by simp [spec_l11Room.j5])
                  | succ kj46 =>
                   have H := HA.out
                   clear HA
                   simp only [spec_l11Room.j5] at H
                   by_cases c50 : x76_46 = true
                   ·
                    subst c50
                    have H1 : ((spec_l11Cases.f a0_0 a0_1 l0_2).bind fun t235 => (spec_l11Room.l1 kj46 0 1 t235 (t235.length : Int) 0)) = some (r1, r2) := by rw [if_pos rfl] at H; exact H
                    clear H
                    have H := H1
                    clear H1
                    replace H := Option.bind_eq_some_iff.mp H
                    obtain ⟨t235, A510, H⟩ := H
                    replace H : (spec_l11Room.l1 kj46 0 1 t235 (t235.length : Int) 0) = some (r1, r2) := H
                    have A51 := Aside0.mk A510
                    clear A510
                    have H' := Aside0.mk H
                    clear H
                    have hcz52_0 : wc.cell? ⟨gb228, 0, none⟩ = some (.int .i64 a0_0) := (blk_cell BK228.out 0).trans rfl
                    have hcz52_1 : wc.cell? ⟨gb228, 1, none⟩ = some (.int .i64 a0_1) := (blk_cell BK228.out 1).trans rfl
                    have hcz52_2 : wc.cell? ⟨gb228, 2, none⟩ = some (.slice A0_2 l0_2.length c0_2) := (blk_cell BK228.out 2).trans rfl
                    have hfz52_0 := blk_frozen BK228.out 0
                    have hfz52_1 := blk_frozen BK228.out 1
                    have hfz52_2 := blk_frozen BK228.out 2
                    go_wp2_with (first | ((with_reducible refine gate_callee (f := 68) rfl ?_); refine goesL_ (some 81) rfl rfl Try.func68 (by kernel_rfl) rfl #[.agg #[.int .i64 a0_0, .int .i64 a0_1, .slice A0_2 l0_2.length c0_2]] rfl ar ?_; (with_reducible refine (spec_l11Cases.calls a0_0 a0_1 (fun k_ => k_ < w.heap.size) _ _ l0_2 t235 _ ?side1 A51.out).mono ?_); (case side1 => exact Kd.V_mk HC0_2.out (Kd.F_below (Kd.C_F k52_heap HR0_2.out) (bw HB.out))); rintro e w53 ⟨v236, rfl, ho0, hb⟩; refine ⟨_, rfl, ?_⟩; have n0_ := Aside0.mk (Kd.V_lower (Kd.V_mono (ok' := fun k_ => k_ ≠ gb228) ho0 (fun k_ hk_ => Or.elim hk_ (fun hs_ => fun e_ => Nat.not_le.2 hs_ (by rw [e_]; exact GW228.out)) (fun hn_ => (Kd.freshB (g := gb228) (o := .cells #[.int .i64 a0_0, .int .i64 a0_1, .slice A0_2 l0_2.length c0_2] 52 (0, 0)) (bk BK228.out) k_ hn_)))) (below_size (bw HB.out))); have n1_ := Aside0.mk (blk_below (g := gb228) (o := .cells #[.int .i64 a0_0, .int .i64 a0_1, .slice A0_2 l0_2.length c0_2] 52 (0, 0)) (bk BK228.out) hb); have n2_ := Aside0.mk (below_step (bw HB.out) hb); clear BK228; clear HB; have HO237 := n0_; have BK228 := n1_; have HB := n2_; clear n0_ n1_ n2_; (try clear hb); (try clear hb2); (try clear hk); (try clear hi); (try clear ho0); obtain ⟨Ao54, co54, eo54⟩ := Kd.V_slice HO237.out; subst eo54))
                    (try simp only [Act.put, List.setIfInBounds_toArray, List.set_cons_zero, List.set_cons_succ])
                    go_loopg [10, 11, 83] kj46 (fun kq v10 v11 v83 w' => ∃ (x10_6 : Int) (x11_6 : Int) (x83_6 : Int), v10 = .int .i64 x10_6 ∧ v11 = .int .i64 x11_6 ∧ v83 = .int .i64 x83_6 ∧ Aside0 (spec_l11Room.l1 kq x10_6 x11_6 t235 (t235.length : Int) x83_6 = some (r1, r2)) ∧ Aside0 (kq ≤ kj46) ∧ Aside0 (Kd.V k52 52 w' w.heap.size (fun k_ => k_ ≠ gb228) (.slice Ao54 t235.length co54) t235) ∧ Aside0 (w'.heap[gb228]? = some (.cells #[.int .i64 a0_0, .int .i64 a0_1, (.slice A0_2 l0_2.length c0_2)] 52 (0, 0))) ∧ Aside0 (Below w.heap.size w w'))
                    case atStart => exact ⟨(0), (1), (0), (by first | rfl | (simp; done) | (simp [*]; done)), (by first | rfl | (simp; done) | (simp [*]; done)), (by first | rfl | (simp; done) | (simp [*]; done)), H', ⟨Nat.le_refl _⟩, ⟨by (with_reducible repeat (first | apply Kd.V_alloc | apply Kd.V_drewN | apply Kd.V_drew)); exact HO237.out⟩, ⟨bk BK228.out⟩, ⟨bw HB.out⟩⟩
                    case round =>
                     clear H'
                     try clear c1
                     try clear c2
                     try clear c2b0
                     try clear c2b1
                     try clear p2
                     try clear q2
                     try clear hx2
                     try clear c3
                     try clear c4
                     try clear c5
                     try clear c6
                     try clear p6
                     try clear c8
                     try clear c8b0
                     try clear c8b1
                     try clear c9
                     try clear c9b0
                     try clear c9b1
                     try clear c10
                     try clear c12
                     try clear c12b0
                     try clear c12b1
                     try clear c13
                     try clear c15
                     try clear c15b0
                     try clear c15b1
                     try clear c16
                     try clear c18
                     try clear c18b0
                     try clear c18b1
                     try clear c19
                     try clear c20
                     try clear c20b0
                     try clear c20b1
                     try clear c21
                     try clear c21b0
                     try clear c23
                     try clear c23b0
                     try clear p23
                     try clear q23
                     try clear hx23
                     try clear c26
                     try clear c26b0
                     try clear c26b1
                     try clear c27
                     try clear c27b0
                     try clear c30
                     try clear c30b0
                     try clear c30b1
                     try clear c32
                     try clear c32b0
                     try clear c33
                     try clear c33b0
                     try clear c34
                     try clear c34b0
                     try clear c37
                     try clear c37b0
                     try clear c39
                     try clear c43
                     try clear c46
                     try clear c48
                     try clear c48b0
                     try clear c48b1
                     try clear c49
                     try clear c49b0
                     try clear c49b1
                     try clear c50
                     try clear hcz22_0 hcz22_1 hcz22_2
                     try clear hcz24_0 hcz24_1 hcz24_2
                     try clear hcz25_0 hcz25_1 hcz25_2
                     try clear hcz28_0 hcz28_1 hcz28_2
                     try clear hcz29_0 hcz29_1 hcz29_2
                     try clear hcz31_0 hcz31_1 hcz31_2
                     try clear hcz40_0 hcz40_1 hcz40_2
                     try clear hcz44_0 hcz44_1 hcz44_2
                     try clear hcz4_0 hcz4_1 hcz4_2
                     try clear hcz52_0 hcz52_1 hcz52_2
                     try clear hcz7_0 hcz7_1 hcz7_2
                     try clear hfz22_0 hfz22_1 hfz22_2
                     try clear hfz24_0 hfz24_1 hfz24_2
                     try clear hfz25_0 hfz25_1 hfz25_2
                     try clear hfz28_0 hfz28_1 hfz28_2
                     try clear hfz29_0 hfz29_1 hfz29_2
                     try clear hfz31_0 hfz31_1 hfz31_2
                     try clear hfz40_0 hfz40_1 hfz40_2
                     try clear hfz44_0 hfz44_1 hfz44_2
                     try clear hfz4_0 hfz4_1 hfz4_2
                     try clear hfz52_0 hfz52_1 hfz52_2
                     try clear hfz7_0 hfz7_1 hfz7_2
                     try clear hx230_0
                     try clear hx230_1
                     try clear hx230_2
                     try clear p2
                     try clear p23
                     try clear p230
                     try clear p6
                     try clear q2
                     try clear q23
                     try clear q230
                     obtain ⟨x10_6, x11_6, x83_6, rfl, rfl, rfl, HA, HK6, HO_81, BK228, HB⟩ := hrel
                     cases gk with
                     | zero => exact absurd HA.out (by simp [spec_l11Room.l1])
                     | succ k6 =>
                      have H := HA.out
                      clear HA
                      simp only [spec_l11Room.l1] at H
                      by_cases c55 : x83_6 < (t235.length : Int)
                      ·
                       rw [if_pos c55] at H
                       have c55b0 : decide (x83_6 < (t235.length : Int)) = true := decide_eq_true c55
                       clear c55
                       by_cases c56 : 0 ≤ x83_6
                       ·
                        rw [if_pos c56] at H
                        have c56b0 : decide (0 ≤ x83_6) = true := decide_eq_true c56
                        clear c56
                        by_cases c57 : x83_6 < (t235.length : Int)
                        ·
                         rw [if_pos c57] at H
                         have c57b0 : decide (x83_6 < (t235.length : Int)) = true := decide_eq_true c57
                         clear c57
                         replace H := Option.bind_eq_some_iff.mp H
                         obtain ⟨⟨t242, t243⟩, A580, H⟩ := H
                         replace H : (if t242 > x10_6 then (if t243 > x11_6 then (spec_l11Room.l1 k6 t242 t243 t235 (t235.length : Int) (wrap64 (x83_6 + 1))) else (spec_l11Room.l1 k6 t242 x11_6 t235 (t235.length : Int) (wrap64 (x83_6 + 1)))) else (if t243 > x11_6 then (spec_l11Room.l1 k6 x10_6 t243 t235 (t235.length : Int) (wrap64 (x83_6 + 1))) else (spec_l11Room.l1 k6 x10_6 x11_6 t235 (t235.length : Int) (wrap64 (x83_6 + 1))))) = some (r1, r2) := H
                         have A58 := Aside0.mk A580
                         clear A580
                         by_cases c59 : t242 > x10_6
                         ·
                          rw [if_pos c59] at H
                          have c59b0 : decide (x10_6 < t242) = true := decide_eq_true c59
                          clear c59
                          by_cases c60 : t243 > x11_6
                          ·
                           rw [if_pos c60] at H
                           have c60b0 : decide (x11_6 < t243) = true := decide_eq_true c60
                           clear c60
                           have H' := Aside0.mk H
                           clear H
                           have p240 : 0 ≤ (x83_6 : Int) := of_decide_eq_true (by first | (with_reducible assumption) | assumption)
                           have q240 : x83_6 < (t235.length : Int) := of_decide_eq_true (by first | (with_reducible assumption) | assumption)
                           obtain ⟨ad240, A240_2, c240_2, e240, hx240_0, hx240_1, hx240_2, hl240_2, hi240_2⟩ := at_T52 (Kd.V_reads' HO_81.out).2.2 x83_6 p240 q240
                           cases e240
                           obtain ⟨ce240, hce240, hMe240, hcc240⟩ := Kd.V_get HO_81.out z52 x83_6 p240 (by first | exact q240 | exact of_decide_eq_true (by first | (with_reducible assumption) | assumption) | (have e_ := (Kd.V_reads' HO_81.out).1; omega))
                           obtain ⟨ua240_2, uc240_2, rfl, ul240_2, ge240_2⟩ := k52_openF hMe240
                           have hv240_2 := hcc240 2 _ rfl
                           rw [add_field _ _ 2 (by omega)] at hv240_2
                           replace hv240_2 := Option.some.inj (hv240_2.symm.trans hx240_2)
                           injection hv240_2 with hva_ hvn_ hvc_
                           rw [hva_] at ge240_2
                           rw [hvc_] at ul240_2
                           have HL240_2 := Aside0.mk (show Kd.V k52 52 _ w.heap.size _ _ ((rd_T52 t235 x83_6).f2) from Kd.V_mk ul240_2 ge240_2)
                           clear hva_ hvn_ hvc_ ge240_2 ul240_2
                           clear hcc240 hce240
                           have HR240_2 := Aside0.mk hi240_2
                           have HC240_2 := Aside0.mk hl240_2
                           clear hi240_2 hl240_2
                           replace p240 := eq_true p240
                           replace q240 := eq_true q240
                           go_wp2_with (first | ((with_reducible refine gate_dst (N := 13) rfl ?_); refine box_event ?hg (N := 13) ?hd (cs := #[.int .i64 0, .int .i64 0, .slice none 0 0]) (t := 52) ?hr ?_; (case hd => rfl); (case hg => rfl); (case hr => first | (go_simp; done) | (go_simp; rfl)); intro gb241 hg w61 hbox hb; have n0_ := Aside0.mk (Kd.V_below (Kd.V_elderB (by (with_reducible repeat (first | apply Kd.V_alloc | apply Kd.V_drewN | apply Kd.V_drew)); exact HO_81.out) gb241 (Nat.le_of_eq hg.symm)) hb); have n1_ := Aside0.mk (Kd.V_below (Kd.V_elderB (by (with_reducible repeat (first | apply Kd.V_alloc | apply Kd.V_drewN | apply Kd.V_drew)); exact HL240_2.out) gb241 (Nat.le_of_eq hg.symm)) hb); have n2_ := Aside0.mk (blk_below (g := gb228) (o := .cells #[.int .i64 a0_0, .int .i64 a0_1, .slice A0_2 l0_2.length c0_2] 52 (0, 0)) (bk BK228.out) hb); have n3_ := Aside0.mk (Kd.C_below (by repeat (first | (with_reducible exact HR240_2.out) | (with_reducible refine Kd.C_alloc ?_ _) | (with_reducible refine Kd.C_drewN ?_ _) | (with_reducible refine Kd.C_drew ?_) | exact HR240_2.out)) hb); have n4_ := Aside0.mk (below_step (bw HB.out) hb); have n5_ := Aside0.mk (hbox); have n6_ := Aside0.mk ((by rw [hg]; exact (below_size (bw HB.out)) : w.heap.size ≤ gb241)); have n7_ := Aside0.mk ((by rw [hg]; exact (below_size (bw HB.out)) : w.heap.size ≤ gb241)); have n8_ := Aside0.mk ((by rw [hg]; exact Nat.ne_of_lt (blk_lt (g := gb228) (o := .cells #[.int .i64 a0_0, .int .i64 a0_1, .slice A0_2 l0_2.length c0_2] 52 (0, 0)) (bk BK228.out)) : gb228 ≠ gb241)); have n9_ := Aside0.mk ((by rw [hg]; exact Nat.ne_of_gt (blk_lt (g := gb228) (o := .cells #[.int .i64 a0_0, .int .i64 a0_1, .slice A0_2 l0_2.length c0_2] 52 (0, 0)) (bk BK228.out)) : gb241 ≠ gb228)); clear HO_81; clear HL240_2; clear BK228; clear HR240_2; clear HB; have HO_81 := n0_; have HL240_2 := n1_; have BK228 := n2_; have HR240_2 := n3_; have HB := n4_; have BK241 := n5_; have GW241 := n6_; have GE241 := n7_; have NB228_241 := n8_; have NB241_228 := n9_; clear n0_ n1_ n2_ n3_ n4_ n5_ n6_ n7_ n8_ n9_; clear hb hbox hg; have hnb62 := NB241_228.out; have hnc62 := NB228_241.out; have hcz63_0 : w61.cell? ⟨gb241, 0, none⟩ = some (.int .i64 0) := (blk_cell BK241.out 0).trans rfl; have hcz63_1 : w61.cell? ⟨gb241, 1, none⟩ = some (.int .i64 0) := (blk_cell BK241.out 1).trans rfl; have hcz63_2 : w61.cell? ⟨gb241, 2, none⟩ = some (.slice none 0 0) := (blk_cell BK241.out 2).trans rfl; have hfz63_0 := blk_frozen BK241.out 0; have hfz63_1 := blk_frozen BK241.out 1; have hfz63_2 := blk_frozen BK241.out 2) | ((with_reducible refine gate_callee (f := 46) rfl ?_); refine goesL_ (some 89) rfl rfl Try.func46 (by kernel_rfl) rfl #[.agg #[.int .i64 ((rd_T52 t235 x83_6).f0), .int .i64 ((rd_T52 t235 x83_6).f1), .slice A240_2 ((rd_T52 t235 x83_6).f2).length c240_2]] rfl ar ?_; (with_reducible refine (ih k6 (by have := HJ4.out; have := HJ10.out; have := HJ13.out; have := HJ16.out; have := HJ46.out; have := HK6.out; omega) ((rd_T52 t235 x83_6).f0) ((rd_T52 t235 x83_6).f1) _ _ ((rd_T52 t235 x83_6).f2) t242 t243 _ ?side1 ?side2 A58.out).mono ?_); (case side1 => repeat (first | exact ((Kd.V_reads' (by (with_reducible repeat (first | apply Kd.V_alloc | apply Kd.V_drewN | apply Kd.V_drew)); exact (Kd.V_mono (Kd.V_far (p := ⟨gb241, 2, none⟩) (Kd.V_far (p := ⟨gb241, 1, none⟩) (Kd.V_far (p := ⟨gb241, 0, none⟩) (Kd.V_mono HL240_2.out (fun k_ hk => (⟨hk, hk.2⟩ : _ ∧ k_ ≠ gb241))) (fun _ hk => hk.2) (.int .i64 ((rd_T52 t235 x83_6).f0))) (fun _ hk => hk.2) (.int .i64 ((rd_T52 t235 x83_6).f1))) (fun _ hk => hk.2) (.slice A240_2 ((rd_T52 t235 x83_6).f2).length c240_2)) (fun _ h_ => h_.1)))).2.2) | (with_reducible refine Kd.C_alloc ?_ _) | (with_reducible refine Kd.C_drewN ?_ _) | (with_reducible refine Kd.C_drew ?_))); (case side2 => exact HC240_2.out); rintro e w64 ⟨rfl, hb⟩; refine ⟨_, rfl, ?_⟩; have n0_ := Aside0.mk (Kd.V_below (by (with_reducible repeat (first | apply Kd.V_alloc | apply Kd.V_drewN | apply Kd.V_drew)); exact (Kd.V_mono (Kd.V_far (p := ⟨gb241, 2, none⟩) (Kd.V_far (p := ⟨gb241, 1, none⟩) (Kd.V_far (p := ⟨gb241, 0, none⟩) (Kd.V_mono HO_81.out (fun k_ hk => (⟨hk, hk.2⟩ : _ ∧ k_ ≠ gb241))) (fun _ hk => hk.2) (.int .i64 ((rd_T52 t235 x83_6).f0))) (fun _ hk => hk.2) (.int .i64 ((rd_T52 t235 x83_6).f1))) (fun _ hk => hk.2) (.slice A240_2 ((rd_T52 t235 x83_6).f2).length c240_2)) (fun _ h_ => h_.1))) hb); have n1_ := Aside0.mk (Kd.V_below (by (with_reducible repeat (first | apply Kd.V_alloc | apply Kd.V_drewN | apply Kd.V_drew)); exact (Kd.V_mono (Kd.V_far (p := ⟨gb241, 2, none⟩) (Kd.V_far (p := ⟨gb241, 1, none⟩) (Kd.V_far (p := ⟨gb241, 0, none⟩) (Kd.V_mono HL240_2.out (fun k_ hk => (⟨hk, hk.2⟩ : _ ∧ k_ ≠ gb241))) (fun _ hk => hk.2) (.int .i64 ((rd_T52 t235 x83_6).f0))) (fun _ hk => hk.2) (.int .i64 ((rd_T52 t235 x83_6).f1))) (fun _ hk => hk.2) (.slice A240_2 ((rd_T52 t235 x83_6).f2).length c240_2)) (fun _ h_ => h_.1))) hb); have n2_ := Aside0.mk (blk_below (g := gb228) (o := .cells #[.int .i64 a0_0, .int .i64 a0_1, .slice A0_2 l0_2.length c0_2] 52 (0, 0)) (by (with_reducible repeat (first | refine blk_drewN ?_ _ | refine blk_drew ?_ | refine blk_alloc ?_ _)); refine blk_far ?_ NB228_241.out _; (with_reducible repeat (first | refine blk_drewN ?_ _ | refine blk_drew ?_ | refine blk_alloc ?_ _)); refine blk_far ?_ NB228_241.out _; (with_reducible repeat (first | refine blk_drewN ?_ _ | refine blk_drew ?_ | refine blk_alloc ?_ _)); refine blk_far ?_ NB228_241.out _; (with_reducible repeat (first | refine blk_drewN ?_ _ | refine blk_drew ?_ | refine blk_alloc ?_ _)); exact BK228.out) hb); have n3_ := Aside0.mk (Kd.C_below ((Kd.V_reads' (by (with_reducible repeat (first | apply Kd.V_alloc | apply Kd.V_drewN | apply Kd.V_drew)); exact (Kd.V_mono (Kd.V_far (p := ⟨gb241, 2, none⟩) (Kd.V_far (p := ⟨gb241, 1, none⟩) (Kd.V_far (p := ⟨gb241, 0, none⟩) (Kd.V_mono HL240_2.out (fun k_ hk => (⟨hk, hk.2⟩ : _ ∧ k_ ≠ gb241))) (fun _ hk => hk.2) (.int .i64 ((rd_T52 t235 x83_6).f0))) (fun _ hk => hk.2) (.int .i64 ((rd_T52 t235 x83_6).f1))) (fun _ hk => hk.2) (.slice A240_2 ((rd_T52 t235 x83_6).f2).length c240_2)) (fun _ h_ => h_.1)))).2.2) hb); have n4_ := Aside0.mk (blk_below (g := gb241) (o := .cells #[.int .i64 ((rd_T52 t235 x83_6).f0), .int .i64 ((rd_T52 t235 x83_6).f1), .slice A240_2 ((rd_T52 t235 x83_6).f2).length c240_2] 52 (0, 0)) (by (with_reducible repeat (first | refine blk_drewN ?_ _ | refine blk_drew ?_ | refine blk_alloc ?_ _)); refine blk_put (cs := #[.int .i64 ((rd_T52 t235 x83_6).f0), .int .i64 ((rd_T52 t235 x83_6).f1), .slice none 0 0]) ?_ 2 _ rfl; (with_reducible repeat (first | refine blk_drewN ?_ _ | refine blk_drew ?_ | refine blk_alloc ?_ _)); refine blk_put (cs := #[.int .i64 ((rd_T52 t235 x83_6).f0), .int .i64 0, .slice none 0 0]) ?_ 1 _ rfl; (with_reducible repeat (first | refine blk_drewN ?_ _ | refine blk_drew ?_ | refine blk_alloc ?_ _)); refine blk_put (cs := #[.int .i64 0, .int .i64 0, .slice none 0 0]) ?_ 0 _ rfl; (with_reducible repeat (first | refine blk_drewN ?_ _ | refine blk_drew ?_ | refine blk_alloc ?_ _)); exact BK241.out) hb); have n5_ := Aside0.mk (below_step (bw HB.out) hb); clear HO_81; clear HL240_2; clear BK228; clear HR240_2; clear BK241; clear HB; have HO_81 := n0_; have HL240_2 := n1_; have BK228 := n2_; have HR240_2 := n3_; have BK241 := n4_; have HB := n5_; clear n0_ n1_ n2_ n3_ n4_ n5_; (try clear hb)))
                           go_roundg k6
                           case measure => have := HJ4.out; have := HJ10.out; have := HJ13.out; have := HJ16.out; have := HJ46.out; have := HK6.out; omega
                           case rel => exact ⟨(t242), (t243), (wrap64 (x83_6 + 1)), (by first | rfl | (simp; done) | (simp [*]; done)), (by first | rfl | (simp; done) | (simp [*]; done)), (by first | rfl | (simp; done) | (simp [*]; done)), H', ⟨by have := HJ4.out; have := HJ10.out; have := HJ13.out; have := HJ16.out; have := HJ46.out; have := HK6.out; omega⟩, ⟨by (with_reducible repeat (first | apply Kd.V_alloc | apply Kd.V_drewN | apply Kd.V_drew)); exact Kd.V_mono HO_81.out (fun _ hk => hk.1)⟩, ⟨bk BK228.out⟩, ⟨bw HB.out⟩⟩
                          ·
                           rw [if_neg c60] at H
                           have c60b0 : decide (x11_6 < t243) = false := decide_eq_false c60
                           clear c60
                           have H' := Aside0.mk H
                           clear H
                           have p240 : 0 ≤ (x83_6 : Int) := of_decide_eq_true (by first | (with_reducible assumption) | assumption)
                           have q240 : x83_6 < (t235.length : Int) := of_decide_eq_true (by first | (with_reducible assumption) | assumption)
                           obtain ⟨ad240, A240_2, c240_2, e240, hx240_0, hx240_1, hx240_2, hl240_2, hi240_2⟩ := at_T52 (Kd.V_reads' HO_81.out).2.2 x83_6 p240 q240
                           cases e240
                           obtain ⟨ce240, hce240, hMe240, hcc240⟩ := Kd.V_get HO_81.out z52 x83_6 p240 (by first | exact q240 | exact of_decide_eq_true (by first | (with_reducible assumption) | assumption) | (have e_ := (Kd.V_reads' HO_81.out).1; omega))
                           obtain ⟨ua240_2, uc240_2, rfl, ul240_2, ge240_2⟩ := k52_openF hMe240
                           have hv240_2 := hcc240 2 _ rfl
                           rw [add_field _ _ 2 (by omega)] at hv240_2
                           replace hv240_2 := Option.some.inj (hv240_2.symm.trans hx240_2)
                           injection hv240_2 with hva_ hvn_ hvc_
                           rw [hva_] at ge240_2
                           rw [hvc_] at ul240_2
                           have HL240_2 := Aside0.mk (show Kd.V k52 52 _ w.heap.size _ _ ((rd_T52 t235 x83_6).f2) from Kd.V_mk ul240_2 ge240_2)
                           clear hva_ hvn_ hvc_ ge240_2 ul240_2
                           clear hcc240 hce240
                           have HR240_2 := Aside0.mk hi240_2
                           have HC240_2 := Aside0.mk hl240_2
                           clear hi240_2 hl240_2
                           replace p240 := eq_true p240
                           replace q240 := eq_true q240
                           go_wp2_with (first | ((with_reducible refine gate_dst (N := 13) rfl ?_); refine box_event ?hg (N := 13) ?hd (cs := #[.int .i64 0, .int .i64 0, .slice none 0 0]) (t := 52) ?hr ?_; (case hd => rfl); (case hg => rfl); (case hr => first | (go_simp; done) | (go_simp; rfl)); intro gb241 hg w65 hbox hb; have n0_ := Aside0.mk (Kd.V_below (Kd.V_elderB (by (with_reducible repeat (first | apply Kd.V_alloc | apply Kd.V_drewN | apply Kd.V_drew)); exact HO_81.out) gb241 (Nat.le_of_eq hg.symm)) hb); have n1_ := Aside0.mk (Kd.V_below (Kd.V_elderB (by (with_reducible repeat (first | apply Kd.V_alloc | apply Kd.V_drewN | apply Kd.V_drew)); exact HL240_2.out) gb241 (Nat.le_of_eq hg.symm)) hb); have n2_ := Aside0.mk (blk_below (g := gb228) (o := .cells #[.int .i64 a0_0, .int .i64 a0_1, .slice A0_2 l0_2.length c0_2] 52 (0, 0)) (bk BK228.out) hb); have n3_ := Aside0.mk (Kd.C_below (by repeat (first | (with_reducible exact HR240_2.out) | (with_reducible refine Kd.C_alloc ?_ _) | (with_reducible refine Kd.C_drewN ?_ _) | (with_reducible refine Kd.C_drew ?_) | exact HR240_2.out)) hb); have n4_ := Aside0.mk (below_step (bw HB.out) hb); have n5_ := Aside0.mk (hbox); have n6_ := Aside0.mk ((by rw [hg]; exact (below_size (bw HB.out)) : w.heap.size ≤ gb241)); have n7_ := Aside0.mk ((by rw [hg]; exact (below_size (bw HB.out)) : w.heap.size ≤ gb241)); have n8_ := Aside0.mk ((by rw [hg]; exact Nat.ne_of_lt (blk_lt (g := gb228) (o := .cells #[.int .i64 a0_0, .int .i64 a0_1, .slice A0_2 l0_2.length c0_2] 52 (0, 0)) (bk BK228.out)) : gb228 ≠ gb241)); have n9_ := Aside0.mk ((by rw [hg]; exact Nat.ne_of_gt (blk_lt (g := gb228) (o := .cells #[.int .i64 a0_0, .int .i64 a0_1, .slice A0_2 l0_2.length c0_2] 52 (0, 0)) (bk BK228.out)) : gb241 ≠ gb228)); clear HO_81; clear HL240_2; clear BK228; clear HR240_2; clear HB; have HO_81 := n0_; have HL240_2 := n1_; have BK228 := n2_; have HR240_2 := n3_; have HB := n4_; have BK241 := n5_; have GW241 := n6_; have GE241 := n7_; have NB228_241 := n8_; have NB241_228 := n9_; clear n0_ n1_ n2_ n3_ n4_ n5_ n6_ n7_ n8_ n9_; clear hb hbox hg; have hnb66 := NB241_228.out; have hnc66 := NB228_241.out; have hcz67_0 : w65.cell? ⟨gb241, 0, none⟩ = some (.int .i64 0) := (blk_cell BK241.out 0).trans rfl; have hcz67_1 : w65.cell? ⟨gb241, 1, none⟩ = some (.int .i64 0) := (blk_cell BK241.out 1).trans rfl; have hcz67_2 : w65.cell? ⟨gb241, 2, none⟩ = some (.slice none 0 0) := (blk_cell BK241.out 2).trans rfl; have hfz67_0 := blk_frozen BK241.out 0; have hfz67_1 := blk_frozen BK241.out 1; have hfz67_2 := blk_frozen BK241.out 2) | ((with_reducible refine gate_callee (f := 46) rfl ?_); refine goesL_ (some 89) rfl rfl Try.func46 (by kernel_rfl) rfl #[.agg #[.int .i64 ((rd_T52 t235 x83_6).f0), .int .i64 ((rd_T52 t235 x83_6).f1), .slice A240_2 ((rd_T52 t235 x83_6).f2).length c240_2]] rfl ar ?_; (with_reducible refine (ih k6 (by have := HJ4.out; have := HJ10.out; have := HJ13.out; have := HJ16.out; have := HJ46.out; have := HK6.out; omega) ((rd_T52 t235 x83_6).f0) ((rd_T52 t235 x83_6).f1) _ _ ((rd_T52 t235 x83_6).f2) t242 t243 _ ?side1 ?side2 A58.out).mono ?_); (case side1 => repeat (first | exact ((Kd.V_reads' (by (with_reducible repeat (first | apply Kd.V_alloc | apply Kd.V_drewN | apply Kd.V_drew)); exact (Kd.V_mono (Kd.V_far (p := ⟨gb241, 2, none⟩) (Kd.V_far (p := ⟨gb241, 1, none⟩) (Kd.V_far (p := ⟨gb241, 0, none⟩) (Kd.V_mono HL240_2.out (fun k_ hk => (⟨hk, hk.2⟩ : _ ∧ k_ ≠ gb241))) (fun _ hk => hk.2) (.int .i64 ((rd_T52 t235 x83_6).f0))) (fun _ hk => hk.2) (.int .i64 ((rd_T52 t235 x83_6).f1))) (fun _ hk => hk.2) (.slice A240_2 ((rd_T52 t235 x83_6).f2).length c240_2)) (fun _ h_ => h_.1)))).2.2) | (with_reducible refine Kd.C_alloc ?_ _) | (with_reducible refine Kd.C_drewN ?_ _) | (with_reducible refine Kd.C_drew ?_))); (case side2 => exact HC240_2.out); rintro e w68 ⟨rfl, hb⟩; refine ⟨_, rfl, ?_⟩; have n0_ := Aside0.mk (Kd.V_below (by (with_reducible repeat (first | apply Kd.V_alloc | apply Kd.V_drewN | apply Kd.V_drew)); exact (Kd.V_mono (Kd.V_far (p := ⟨gb241, 2, none⟩) (Kd.V_far (p := ⟨gb241, 1, none⟩) (Kd.V_far (p := ⟨gb241, 0, none⟩) (Kd.V_mono HO_81.out (fun k_ hk => (⟨hk, hk.2⟩ : _ ∧ k_ ≠ gb241))) (fun _ hk => hk.2) (.int .i64 ((rd_T52 t235 x83_6).f0))) (fun _ hk => hk.2) (.int .i64 ((rd_T52 t235 x83_6).f1))) (fun _ hk => hk.2) (.slice A240_2 ((rd_T52 t235 x83_6).f2).length c240_2)) (fun _ h_ => h_.1))) hb); have n1_ := Aside0.mk (Kd.V_below (by (with_reducible repeat (first | apply Kd.V_alloc | apply Kd.V_drewN | apply Kd.V_drew)); exact (Kd.V_mono (Kd.V_far (p := ⟨gb241, 2, none⟩) (Kd.V_far (p := ⟨gb241, 1, none⟩) (Kd.V_far (p := ⟨gb241, 0, none⟩) (Kd.V_mono HL240_2.out (fun k_ hk => (⟨hk, hk.2⟩ : _ ∧ k_ ≠ gb241))) (fun _ hk => hk.2) (.int .i64 ((rd_T52 t235 x83_6).f0))) (fun _ hk => hk.2) (.int .i64 ((rd_T52 t235 x83_6).f1))) (fun _ hk => hk.2) (.slice A240_2 ((rd_T52 t235 x83_6).f2).length c240_2)) (fun _ h_ => h_.1))) hb); have n2_ := Aside0.mk (blk_below (g := gb228) (o := .cells #[.int .i64 a0_0, .int .i64 a0_1, .slice A0_2 l0_2.length c0_2] 52 (0, 0)) (by (with_reducible repeat (first | refine blk_drewN ?_ _ | refine blk_drew ?_ | refine blk_alloc ?_ _)); refine blk_far ?_ NB228_241.out _; (with_reducible repeat (first | refine blk_drewN ?_ _ | refine blk_drew ?_ | refine blk_alloc ?_ _)); refine blk_far ?_ NB228_241.out _; (with_reducible repeat (first | refine blk_drewN ?_ _ | refine blk_drew ?_ | refine blk_alloc ?_ _)); refine blk_far ?_ NB228_241.out _; (with_reducible repeat (first | refine blk_drewN ?_ _ | refine blk_drew ?_ | refine blk_alloc ?_ _)); exact BK228.out) hb); have n3_ := Aside0.mk (Kd.C_below ((Kd.V_reads' (by (with_reducible repeat (first | apply Kd.V_alloc | apply Kd.V_drewN | apply Kd.V_drew)); exact (Kd.V_mono (Kd.V_far (p := ⟨gb241, 2, none⟩) (Kd.V_far (p := ⟨gb241, 1, none⟩) (Kd.V_far (p := ⟨gb241, 0, none⟩) (Kd.V_mono HL240_2.out (fun k_ hk => (⟨hk, hk.2⟩ : _ ∧ k_ ≠ gb241))) (fun _ hk => hk.2) (.int .i64 ((rd_T52 t235 x83_6).f0))) (fun _ hk => hk.2) (.int .i64 ((rd_T52 t235 x83_6).f1))) (fun _ hk => hk.2) (.slice A240_2 ((rd_T52 t235 x83_6).f2).length c240_2)) (fun _ h_ => h_.1)))).2.2) hb); have n4_ := Aside0.mk (blk_below (g := gb241) (o := .cells #[.int .i64 ((rd_T52 t235 x83_6).f0), .int .i64 ((rd_T52 t235 x83_6).f1), .slice A240_2 ((rd_T52 t235 x83_6).f2).length c240_2] 52 (0, 0)) (by (with_reducible repeat (first | refine blk_drewN ?_ _ | refine blk_drew ?_ | refine blk_alloc ?_ _)); refine blk_put (cs := #[.int .i64 ((rd_T52 t235 x83_6).f0), .int .i64 ((rd_T52 t235 x83_6).f1), .slice none 0 0]) ?_ 2 _ rfl; (with_reducible repeat (first | refine blk_drewN ?_ _ | refine blk_drew ?_ | refine blk_alloc ?_ _)); refine blk_put (cs := #[.int .i64 ((rd_T52 t235 x83_6).f0), .int .i64 0, .slice none 0 0]) ?_ 1 _ rfl; (with_reducible repeat (first | refine blk_drewN ?_ _ | refine blk_drew ?_ | refine blk_alloc ?_ _)); refine blk_put (cs := #[.int .i64 0, .int .i64 0, .slice none 0 0]) ?_ 0 _ rfl; (with_reducible repeat (first | refine blk_drewN ?_ _ | refine blk_drew ?_ | refine blk_alloc ?_ _)); exact BK241.out) hb); have n5_ := Aside0.mk (below_step (bw HB.out) hb); clear HO_81; clear HL240_2; clear BK228; clear HR240_2; clear BK241; clear HB; have HO_81 := n0_; have HL240_2 := n1_; have BK228 := n2_; have HR240_2 := n3_; have BK241 := n4_; have HB := n5_; clear n0_ n1_ n2_ n3_ n4_ n5_; (try clear hb)))
                           go_roundg k6
                           case measure => have := HJ4.out; have := HJ10.out; have := HJ13.out; have := HJ16.out; have := HJ46.out; have := HK6.out; omega
                           case rel => exact ⟨(t242), (x11_6), (wrap64 (x83_6 + 1)), (by first | rfl | (simp; done) | (simp [*]; done)), (by first | rfl | (simp; done) | (simp [*]; done)), (by first | rfl | (simp; done) | (simp [*]; done)), H', ⟨by have := HJ4.out; have := HJ10.out; have := HJ13.out; have := HJ16.out; have := HJ46.out; have := HK6.out; omega⟩, ⟨by (with_reducible repeat (first | apply Kd.V_alloc | apply Kd.V_drewN | apply Kd.V_drew)); exact Kd.V_mono HO_81.out (fun _ hk => hk.1)⟩, ⟨bk BK228.out⟩, ⟨bw HB.out⟩⟩
                         ·
                          rw [if_neg c59] at H
                          have c59b0 : decide (x10_6 < t242) = false := decide_eq_false c59
                          clear c59
                          by_cases c69 : t243 > x11_6
                          ·
                           rw [if_pos c69] at H
                           have c69b0 : decide (x11_6 < t243) = true := decide_eq_true c69
                           clear c69
                           have H' := Aside0.mk H
                           clear H
                           have p240 : 0 ≤ (x83_6 : Int) := of_decide_eq_true (by first | (with_reducible assumption) | assumption)
                           have q240 : x83_6 < (t235.length : Int) := of_decide_eq_true (by first | (with_reducible assumption) | assumption)
                           obtain ⟨ad240, A240_2, c240_2, e240, hx240_0, hx240_1, hx240_2, hl240_2, hi240_2⟩ := at_T52 (Kd.V_reads' HO_81.out).2.2 x83_6 p240 q240
                           cases e240
                           obtain ⟨ce240, hce240, hMe240, hcc240⟩ := Kd.V_get HO_81.out z52 x83_6 p240 (by first | exact q240 | exact of_decide_eq_true (by first | (with_reducible assumption) | assumption) | (have e_ := (Kd.V_reads' HO_81.out).1; omega))
                           obtain ⟨ua240_2, uc240_2, rfl, ul240_2, ge240_2⟩ := k52_openF hMe240
                           have hv240_2 := hcc240 2 _ rfl
                           rw [add_field _ _ 2 (by omega)] at hv240_2
                           replace hv240_2 := Option.some.inj (hv240_2.symm.trans hx240_2)
                           injection hv240_2 with hva_ hvn_ hvc_
                           rw [hva_] at ge240_2
                           rw [hvc_] at ul240_2
                           have HL240_2 := Aside0.mk (show Kd.V k52 52 _ w.heap.size _ _ ((rd_T52 t235 x83_6).f2) from Kd.V_mk ul240_2 ge240_2)
                           clear hva_ hvn_ hvc_ ge240_2 ul240_2
                           clear hcc240 hce240
                           have HR240_2 := Aside0.mk hi240_2
                           have HC240_2 := Aside0.mk hl240_2
                           clear hi240_2 hl240_2
                           replace p240 := eq_true p240
                           replace q240 := eq_true q240
                           go_wp2_with (first | ((with_reducible refine gate_dst (N := 13) rfl ?_); refine box_event ?hg (N := 13) ?hd (cs := #[.int .i64 0, .int .i64 0, .slice none 0 0]) (t := 52) ?hr ?_; (case hd => rfl); (case hg => rfl); (case hr => first | (go_simp; done) | (go_simp; rfl)); intro gb241 hg w70 hbox hb; have n0_ := Aside0.mk (Kd.V_below (Kd.V_elderB (by (with_reducible repeat (first | apply Kd.V_alloc | apply Kd.V_drewN | apply Kd.V_drew)); exact HO_81.out) gb241 (Nat.le_of_eq hg.symm)) hb); have n1_ := Aside0.mk (Kd.V_below (Kd.V_elderB (by (with_reducible repeat (first | apply Kd.V_alloc | apply Kd.V_drewN | apply Kd.V_drew)); exact HL240_2.out) gb241 (Nat.le_of_eq hg.symm)) hb); have n2_ := Aside0.mk (blk_below (g := gb228) (o := .cells #[.int .i64 a0_0, .int .i64 a0_1, .slice A0_2 l0_2.length c0_2] 52 (0, 0)) (bk BK228.out) hb); have n3_ := Aside0.mk (Kd.C_below (by repeat (first | (with_reducible exact HR240_2.out) | (with_reducible refine Kd.C_alloc ?_ _) | (with_reducible refine Kd.C_drewN ?_ _) | (with_reducible refine Kd.C_drew ?_) | exact HR240_2.out)) hb); have n4_ := Aside0.mk (below_step (bw HB.out) hb); have n5_ := Aside0.mk (hbox); have n6_ := Aside0.mk ((by rw [hg]; exact (below_size (bw HB.out)) : w.heap.size ≤ gb241)); have n7_ := Aside0.mk ((by rw [hg]; exact (below_size (bw HB.out)) : w.heap.size ≤ gb241)); have n8_ := Aside0.mk ((by rw [hg]; exact Nat.ne_of_lt (blk_lt (g := gb228) (o := .cells #[.int .i64 a0_0, .int .i64 a0_1, .slice A0_2 l0_2.length c0_2] 52 (0, 0)) (bk BK228.out)) : gb228 ≠ gb241)); have n9_ := Aside0.mk ((by rw [hg]; exact Nat.ne_of_gt (blk_lt (g := gb228) (o := .cells #[.int .i64 a0_0, .int .i64 a0_1, .slice A0_2 l0_2.length c0_2] 52 (0, 0)) (bk BK228.out)) : gb241 ≠ gb228)); clear HO_81; clear HL240_2; clear BK228; clear HR240_2; clear HB; have HO_81 := n0_; have HL240_2 := n1_; have BK228 := n2_; have HR240_2 := n3_; have HB := n4_; have BK241 := n5_; have GW241 := n6_; have GE241 := n7_; have NB228_241 := n8_; have NB241_228 := n9_; clear n0_ n1_ n2_ n3_ n4_ n5_ n6_ n7_ n8_ n9_; clear hb hbox hg; have hnb71 := NB241_228.out; have hnc71 := NB228_241.out; have hcz72_0 : w70.cell? ⟨gb241, 0, none⟩ = some (.int .i64 0) := (blk_cell BK241.out 0).trans rfl; have hcz72_1 : w70.cell? ⟨gb241, 1, none⟩ = some (.int .i64 0) := (blk_cell BK241.out 1).trans rfl; have hcz72_2 : w70.cell? ⟨gb241, 2, none⟩ = some (.slice none 0 0) := (blk_cell BK241.out 2).trans rfl; have hfz72_0 := blk_frozen BK241.out 0; have hfz72_1 := blk_frozen BK241.out 1; have hfz72_2 := blk_frozen BK241.out 2) | ((with_reducible refine gate_callee (f := 46) rfl ?_); refine goesL_ (some 89) rfl rfl Try.func46 (by kernel_rfl) rfl #[.agg #[.int .i64 ((rd_T52 t235 x83_6).f0), .int .i64 ((rd_T52 t235 x83_6).f1), .slice A240_2 ((rd_T52 t235 x83_6).f2).length c240_2]] rfl ar ?_; (with_reducible refine (ih k6 (by have := HJ4.out; have := HJ10.out; have := HJ13.out; have := HJ16.out; have := HJ46.out; have := HK6.out; omega) ((rd_T52 t235 x83_6).f0) ((rd_T52 t235 x83_6).f1) _ _ ((rd_T52 t235 x83_6).f2) t242 t243 _ ?side1 ?side2 A58.out).mono ?_); (case side1 => repeat (first | exact ((Kd.V_reads' (by (with_reducible repeat (first | apply Kd.V_alloc | apply Kd.V_drewN | apply Kd.V_drew)); exact (Kd.V_mono (Kd.V_far (p := ⟨gb241, 2, none⟩) (Kd.V_far (p := ⟨gb241, 1, none⟩) (Kd.V_far (p := ⟨gb241, 0, none⟩) (Kd.V_mono HL240_2.out (fun k_ hk => (⟨hk, hk.2⟩ : _ ∧ k_ ≠ gb241))) (fun _ hk => hk.2) (.int .i64 ((rd_T52 t235 x83_6).f0))) (fun _ hk => hk.2) (.int .i64 ((rd_T52 t235 x83_6).f1))) (fun _ hk => hk.2) (.slice A240_2 ((rd_T52 t235 x83_6).f2).length c240_2)) (fun _ h_ => h_.1)))).2.2) | (with_reducible refine Kd.C_alloc ?_ _) | (with_reducible refine Kd.C_drewN ?_ _) | (with_reducible refine Kd.C_drew ?_))); (case side2 => exact HC240_2.out); rintro e w73 ⟨rfl, hb⟩; refine ⟨_, rfl, ?_⟩; have n0_ := Aside0.mk (Kd.V_below (by (with_reducible repeat (first | apply Kd.V_alloc | apply Kd.V_drewN | apply Kd.V_drew)); exact (Kd.V_mono (Kd.V_far (p := ⟨gb241, 2, none⟩) (Kd.V_far (p := ⟨gb241, 1, none⟩) (Kd.V_far (p := ⟨gb241, 0, none⟩) (Kd.V_mono HO_81.out (fun k_ hk => (⟨hk, hk.2⟩ : _ ∧ k_ ≠ gb241))) (fun _ hk => hk.2) (.int .i64 ((rd_T52 t235 x83_6).f0))) (fun _ hk => hk.2) (.int .i64 ((rd_T52 t235 x83_6).f1))) (fun _ hk => hk.2) (.slice A240_2 ((rd_T52 t235 x83_6).f2).length c240_2)) (fun _ h_ => h_.1))) hb); have n1_ := Aside0.mk (Kd.V_below (by (with_reducible repeat (first | apply Kd.V_alloc | apply Kd.V_drewN | apply Kd.V_drew)); exact (Kd.V_mono (Kd.V_far (p := ⟨gb241, 2, none⟩) (Kd.V_far (p := ⟨gb241, 1, none⟩) (Kd.V_far (p := ⟨gb241, 0, none⟩) (Kd.V_mono HL240_2.out (fun k_ hk => (⟨hk, hk.2⟩ : _ ∧ k_ ≠ gb241))) (fun _ hk => hk.2) (.int .i64 ((rd_T52 t235 x83_6).f0))) (fun _ hk => hk.2) (.int .i64 ((rd_T52 t235 x83_6).f1))) (fun _ hk => hk.2) (.slice A240_2 ((rd_T52 t235 x83_6).f2).length c240_2)) (fun _ h_ => h_.1))) hb); have n2_ := Aside0.mk (blk_below (g := gb228) (o := .cells #[.int .i64 a0_0, .int .i64 a0_1, .slice A0_2 l0_2.length c0_2] 52 (0, 0)) (by (with_reducible repeat (first | refine blk_drewN ?_ _ | refine blk_drew ?_ | refine blk_alloc ?_ _)); refine blk_far ?_ NB228_241.out _; (with_reducible repeat (first | refine blk_drewN ?_ _ | refine blk_drew ?_ | refine blk_alloc ?_ _)); refine blk_far ?_ NB228_241.out _; (with_reducible repeat (first | refine blk_drewN ?_ _ | refine blk_drew ?_ | refine blk_alloc ?_ _)); refine blk_far ?_ NB228_241.out _; (with_reducible repeat (first | refine blk_drewN ?_ _ | refine blk_drew ?_ | refine blk_alloc ?_ _)); exact BK228.out) hb); have n3_ := Aside0.mk (Kd.C_below ((Kd.V_reads' (by (with_reducible repeat (first | apply Kd.V_alloc | apply Kd.V_drewN | apply Kd.V_drew)); exact (Kd.V_mono (Kd.V_far (p := ⟨gb241, 2, none⟩) (Kd.V_far (p := ⟨gb241, 1, none⟩) (Kd.V_far (p := ⟨gb241, 0, none⟩) (Kd.V_mono HL240_2.out (fun k_ hk => (⟨hk, hk.2⟩ : _ ∧ k_ ≠ gb241))) (fun _ hk => hk.2) (.int .i64 ((rd_T52 t235 x83_6).f0))) (fun _ hk => hk.2) (.int .i64 ((rd_T52 t235 x83_6).f1))) (fun _ hk => hk.2) (.slice A240_2 ((rd_T52 t235 x83_6).f2).length c240_2)) (fun _ h_ => h_.1)))).2.2) hb); have n4_ := Aside0.mk (blk_below (g := gb241) (o := .cells #[.int .i64 ((rd_T52 t235 x83_6).f0), .int .i64 ((rd_T52 t235 x83_6).f1), .slice A240_2 ((rd_T52 t235 x83_6).f2).length c240_2] 52 (0, 0)) (by (with_reducible repeat (first | refine blk_drewN ?_ _ | refine blk_drew ?_ | refine blk_alloc ?_ _)); refine blk_put (cs := #[.int .i64 ((rd_T52 t235 x83_6).f0), .int .i64 ((rd_T52 t235 x83_6).f1), .slice none 0 0]) ?_ 2 _ rfl; (with_reducible repeat (first | refine blk_drewN ?_ _ | refine blk_drew ?_ | refine blk_alloc ?_ _)); refine blk_put (cs := #[.int .i64 ((rd_T52 t235 x83_6).f0), .int .i64 0, .slice none 0 0]) ?_ 1 _ rfl; (with_reducible repeat (first | refine blk_drewN ?_ _ | refine blk_drew ?_ | refine blk_alloc ?_ _)); refine blk_put (cs := #[.int .i64 0, .int .i64 0, .slice none 0 0]) ?_ 0 _ rfl; (with_reducible repeat (first | refine blk_drewN ?_ _ | refine blk_drew ?_ | refine blk_alloc ?_ _)); exact BK241.out) hb); have n5_ := Aside0.mk (below_step (bw HB.out) hb); clear HO_81; clear HL240_2; clear BK228; clear HR240_2; clear BK241; clear HB; have HO_81 := n0_; have HL240_2 := n1_; have BK228 := n2_; have HR240_2 := n3_; have BK241 := n4_; have HB := n5_; clear n0_ n1_ n2_ n3_ n4_ n5_; (try clear hb)))
                           go_roundg k6
                           case measure => have := HJ4.out; have := HJ10.out; have := HJ13.out; have := HJ16.out; have := HJ46.out; have := HK6.out; omega
                           case rel => exact ⟨(x10_6), (t243), (wrap64 (x83_6 + 1)), (by first | rfl | (simp; done) | (simp [*]; done)), (by first | rfl | (simp; done) | (simp [*]; done)), (by first | rfl | (simp; done) | (simp [*]; done)), H', ⟨by have := HJ4.out; have := HJ10.out; have := HJ13.out; have := HJ16.out; have := HJ46.out; have := HK6.out; omega⟩, ⟨by (with_reducible repeat (first | apply Kd.V_alloc | apply Kd.V_drewN | apply Kd.V_drew)); exact Kd.V_mono HO_81.out (fun _ hk => hk.1)⟩, ⟨bk BK228.out⟩, ⟨bw HB.out⟩⟩
                          ·
                           rw [if_neg c69] at H
                           have c69b0 : decide (x11_6 < t243) = false := decide_eq_false c69
                           clear c69
                           have H' := Aside0.mk H
                           clear H
                           have p240 : 0 ≤ (x83_6 : Int) := of_decide_eq_true (by first | (with_reducible assumption) | assumption)
                           have q240 : x83_6 < (t235.length : Int) := of_decide_eq_true (by first | (with_reducible assumption) | assumption)
                           obtain ⟨ad240, A240_2, c240_2, e240, hx240_0, hx240_1, hx240_2, hl240_2, hi240_2⟩ := at_T52 (Kd.V_reads' HO_81.out).2.2 x83_6 p240 q240
                           cases e240
                           obtain ⟨ce240, hce240, hMe240, hcc240⟩ := Kd.V_get HO_81.out z52 x83_6 p240 (by first | exact q240 | exact of_decide_eq_true (by first | (with_reducible assumption) | assumption) | (have e_ := (Kd.V_reads' HO_81.out).1; omega))
                           obtain ⟨ua240_2, uc240_2, rfl, ul240_2, ge240_2⟩ := k52_openF hMe240
                           have hv240_2 := hcc240 2 _ rfl
                           rw [add_field _ _ 2 (by omega)] at hv240_2
                           replace hv240_2 := Option.some.inj (hv240_2.symm.trans hx240_2)
                           injection hv240_2 with hva_ hvn_ hvc_
                           rw [hva_] at ge240_2
                           rw [hvc_] at ul240_2
                           have HL240_2 := Aside0.mk (show Kd.V k52 52 _ w.heap.size _ _ ((rd_T52 t235 x83_6).f2) from Kd.V_mk ul240_2 ge240_2)
                           clear hva_ hvn_ hvc_ ge240_2 ul240_2
                           clear hcc240 hce240
                           have HR240_2 := Aside0.mk hi240_2
                           have HC240_2 := Aside0.mk hl240_2
                           clear hi240_2 hl240_2
                           replace p240 := eq_true p240
                           replace q240 := eq_true q240
                           go_wp2_with (first | ((with_reducible refine gate_dst (N := 13) rfl ?_); refine box_event ?hg (N := 13) ?hd (cs := #[.int .i64 0, .int .i64 0, .slice none 0 0]) (t := 52) ?hr ?_; (case hd => rfl); (case hg => rfl); (case hr => first | (go_simp; done) | (go_simp; rfl)); intro gb241 hg w74 hbox hb; have n0_ := Aside0.mk (Kd.V_below (Kd.V_elderB (by (with_reducible repeat (first | apply Kd.V_alloc | apply Kd.V_drewN | apply Kd.V_drew)); exact HO_81.out) gb241 (Nat.le_of_eq hg.symm)) hb); have n1_ := Aside0.mk (Kd.V_below (Kd.V_elderB (by (with_reducible repeat (first | apply Kd.V_alloc | apply Kd.V_drewN | apply Kd.V_drew)); exact HL240_2.out) gb241 (Nat.le_of_eq hg.symm)) hb); have n2_ := Aside0.mk (blk_below (g := gb228) (o := .cells #[.int .i64 a0_0, .int .i64 a0_1, .slice A0_2 l0_2.length c0_2] 52 (0, 0)) (bk BK228.out) hb); have n3_ := Aside0.mk (Kd.C_below (by repeat (first | (with_reducible exact HR240_2.out) | (with_reducible refine Kd.C_alloc ?_ _) | (with_reducible refine Kd.C_drewN ?_ _) | (with_reducible refine Kd.C_drew ?_) | exact HR240_2.out)) hb); have n4_ := Aside0.mk (below_step (bw HB.out) hb); have n5_ := Aside0.mk (hbox); have n6_ := Aside0.mk ((by rw [hg]; exact (below_size (bw HB.out)) : w.heap.size ≤ gb241)); have n7_ := Aside0.mk ((by rw [hg]; exact (below_size (bw HB.out)) : w.heap.size ≤ gb241)); have n8_ := Aside0.mk ((by rw [hg]; exact Nat.ne_of_lt (blk_lt (g := gb228) (o := .cells #[.int .i64 a0_0, .int .i64 a0_1, .slice A0_2 l0_2.length c0_2] 52 (0, 0)) (bk BK228.out)) : gb228 ≠ gb241)); have n9_ := Aside0.mk ((by rw [hg]; exact Nat.ne_of_gt (blk_lt (g := gb228) (o := .cells #[.int .i64 a0_0, .int .i64 a0_1, .slice A0_2 l0_2.length c0_2] 52 (0, 0)) (bk BK228.out)) : gb241 ≠ gb228)); clear HO_81; clear HL240_2; clear BK228; clear HR240_2; clear HB; have HO_81 := n0_; have HL240_2 := n1_; have BK228 := n2_; have HR240_2 := n3_; have HB := n4_; have BK241 := n5_; have GW241 := n6_; have GE241 := n7_; have NB228_241 := n8_; have NB241_228 := n9_; clear n0_ n1_ n2_ n3_ n4_ n5_ n6_ n7_ n8_ n9_; clear hb hbox hg; have hnb75 := NB241_228.out; have hnc75 := NB228_241.out; have hcz76_0 : w74.cell? ⟨gb241, 0, none⟩ = some (.int .i64 0) := (blk_cell BK241.out 0).trans rfl; have hcz76_1 : w74.cell? ⟨gb241, 1, none⟩ = some (.int .i64 0) := (blk_cell BK241.out 1).trans rfl; have hcz76_2 : w74.cell? ⟨gb241, 2, none⟩ = some (.slice none 0 0) := (blk_cell BK241.out 2).trans rfl; have hfz76_0 := blk_frozen BK241.out 0; have hfz76_1 := blk_frozen BK241.out 1; have hfz76_2 := blk_frozen BK241.out 2) | ((with_reducible refine gate_callee (f := 46) rfl ?_); refine goesL_ (some 89) rfl rfl Try.func46 (by kernel_rfl) rfl #[.agg #[.int .i64 ((rd_T52 t235 x83_6).f0), .int .i64 ((rd_T52 t235 x83_6).f1), .slice A240_2 ((rd_T52 t235 x83_6).f2).length c240_2]] rfl ar ?_; (with_reducible refine (ih k6 (by have := HJ4.out; have := HJ10.out; have := HJ13.out; have := HJ16.out; have := HJ46.out; have := HK6.out; omega) ((rd_T52 t235 x83_6).f0) ((rd_T52 t235 x83_6).f1) _ _ ((rd_T52 t235 x83_6).f2) t242 t243 _ ?side1 ?side2 A58.out).mono ?_); (case side1 => repeat (first | exact ((Kd.V_reads' (by (with_reducible repeat (first | apply Kd.V_alloc | apply Kd.V_drewN | apply Kd.V_drew)); exact (Kd.V_mono (Kd.V_far (p := ⟨gb241, 2, none⟩) (Kd.V_far (p := ⟨gb241, 1, none⟩) (Kd.V_far (p := ⟨gb241, 0, none⟩) (Kd.V_mono HL240_2.out (fun k_ hk => (⟨hk, hk.2⟩ : _ ∧ k_ ≠ gb241))) (fun _ hk => hk.2) (.int .i64 ((rd_T52 t235 x83_6).f0))) (fun _ hk => hk.2) (.int .i64 ((rd_T52 t235 x83_6).f1))) (fun _ hk => hk.2) (.slice A240_2 ((rd_T52 t235 x83_6).f2).length c240_2)) (fun _ h_ => h_.1)))).2.2) | (with_reducible refine Kd.C_alloc ?_ _) | (with_reducible refine Kd.C_drewN ?_ _) | (with_reducible refine Kd.C_drew ?_))); (case side2 => exact HC240_2.out); rintro e w77 ⟨rfl, hb⟩; refine ⟨_, rfl, ?_⟩; have n0_ := Aside0.mk (Kd.V_below (by (with_reducible repeat (first | apply Kd.V_alloc | apply Kd.V_drewN | apply Kd.V_drew)); exact (Kd.V_mono (Kd.V_far (p := ⟨gb241, 2, none⟩) (Kd.V_far (p := ⟨gb241, 1, none⟩) (Kd.V_far (p := ⟨gb241, 0, none⟩) (Kd.V_mono HO_81.out (fun k_ hk => (⟨hk, hk.2⟩ : _ ∧ k_ ≠ gb241))) (fun _ hk => hk.2) (.int .i64 ((rd_T52 t235 x83_6).f0))) (fun _ hk => hk.2) (.int .i64 ((rd_T52 t235 x83_6).f1))) (fun _ hk => hk.2) (.slice A240_2 ((rd_T52 t235 x83_6).f2).length c240_2)) (fun _ h_ => h_.1))) hb); have n1_ := Aside0.mk (Kd.V_below (by (with_reducible repeat (first | apply Kd.V_alloc | apply Kd.V_drewN | apply Kd.V_drew)); exact (Kd.V_mono (Kd.V_far (p := ⟨gb241, 2, none⟩) (Kd.V_far (p := ⟨gb241, 1, none⟩) (Kd.V_far (p := ⟨gb241, 0, none⟩) (Kd.V_mono HL240_2.out (fun k_ hk => (⟨hk, hk.2⟩ : _ ∧ k_ ≠ gb241))) (fun _ hk => hk.2) (.int .i64 ((rd_T52 t235 x83_6).f0))) (fun _ hk => hk.2) (.int .i64 ((rd_T52 t235 x83_6).f1))) (fun _ hk => hk.2) (.slice A240_2 ((rd_T52 t235 x83_6).f2).length c240_2)) (fun _ h_ => h_.1))) hb); have n2_ := Aside0.mk (blk_below (g := gb228) (o := .cells #[.int .i64 a0_0, .int .i64 a0_1, .slice A0_2 l0_2.length c0_2] 52 (0, 0)) (by (with_reducible repeat (first | refine blk_drewN ?_ _ | refine blk_drew ?_ | refine blk_alloc ?_ _)); refine blk_far ?_ NB228_241.out _; (with_reducible repeat (first | refine blk_drewN ?_ _ | refine blk_drew ?_ | refine blk_alloc ?_ _)); refine blk_far ?_ NB228_241.out _; (with_reducible repeat (first | refine blk_drewN ?_ _ | refine blk_drew ?_ | refine blk_alloc ?_ _)); refine blk_far ?_ NB228_241.out _; (with_reducible repeat (first | refine blk_drewN ?_ _ | refine blk_drew ?_ | refine blk_alloc ?_ _)); exact BK228.out) hb); have n3_ := Aside0.mk (Kd.C_below ((Kd.V_reads' (by (with_reducible repeat (first | apply Kd.V_alloc | apply Kd.V_drewN | apply Kd.V_drew)); exact (Kd.V_mono (Kd.V_far (p := ⟨gb241, 2, none⟩) (Kd.V_far (p := ⟨gb241, 1, none⟩) (Kd.V_far (p := ⟨gb241, 0, none⟩) (Kd.V_mono HL240_2.out (fun k_ hk => (⟨hk, hk.2⟩ : _ ∧ k_ ≠ gb241))) (fun _ hk => hk.2) (.int .i64 ((rd_T52 t235 x83_6).f0))) (fun _ hk => hk.2) (.int .i64 ((rd_T52 t235 x83_6).f1))) (fun _ hk => hk.2) (.slice A240_2 ((rd_T52 t235 x83_6).f2).length c240_2)) (fun _ h_ => h_.1)))).2.2) hb); have n4_ := Aside0.mk (blk_below (g := gb241) (o := .cells #[.int .i64 ((rd_T52 t235 x83_6).f0), .int .i64 ((rd_T52 t235 x83_6).f1), .slice A240_2 ((rd_T52 t235 x83_6).f2).length c240_2] 52 (0, 0)) (by (with_reducible repeat (first | refine blk_drewN ?_ _ | refine blk_drew ?_ | refine blk_alloc ?_ _)); refine blk_put (cs := #[.int .i64 ((rd_T52 t235 x83_6).f0), .int .i64 ((rd_T52 t235 x83_6).f1), .slice none 0 0]) ?_ 2 _ rfl; (with_reducible repeat (first | refine blk_drewN ?_ _ | refine blk_drew ?_ | refine blk_alloc ?_ _)); refine blk_put (cs := #[.int .i64 ((rd_T52 t235 x83_6).f0), .int .i64 0, .slice none 0 0]) ?_ 1 _ rfl; (with_reducible repeat (first | refine blk_drewN ?_ _ | refine blk_drew ?_ | refine blk_alloc ?_ _)); refine blk_put (cs := #[.int .i64 0, .int .i64 0, .slice none 0 0]) ?_ 0 _ rfl; (with_reducible repeat (first | refine blk_drewN ?_ _ | refine blk_drew ?_ | refine blk_alloc ?_ _)); exact BK241.out) hb); have n5_ := Aside0.mk (below_step (bw HB.out) hb); clear HO_81; clear HL240_2; clear BK228; clear HR240_2; clear BK241; clear HB; have HO_81 := n0_; have HL240_2 := n1_; have BK228 := n2_; have HR240_2 := n3_; have BK241 := n4_; have HB := n5_; clear n0_ n1_ n2_ n3_ n4_ n5_; (try clear hb)))
                           go_roundg k6
                           case measure => have := HJ4.out; have := HJ10.out; have := HJ13.out; have := HJ16.out; have := HJ46.out; have := HK6.out; omega
                           case rel => exact ⟨(x10_6), (x11_6), (wrap64 (x83_6 + 1)), (by first | rfl | (simp; done) | (simp [*]; done)), (by first | rfl | (simp; done) | (simp [*]; done)), (by first | rfl | (simp; done) | (simp [*]; done)), H', ⟨by have := HJ4.out; have := HJ10.out; have := HJ13.out; have := HJ16.out; have := HJ46.out; have := HK6.out; omega⟩, ⟨by (with_reducible repeat (first | apply Kd.V_alloc | apply Kd.V_drewN | apply Kd.V_drew)); exact Kd.V_mono HO_81.out (fun _ hk => hk.1)⟩, ⟨bk BK228.out⟩, ⟨bw HB.out⟩⟩
                        ·
                         rw [if_neg c57] at H
                         exact absurd H (by simp)
                       ·
                        rw [if_neg c56] at H
                        exact absurd H (by simp)
                      ·
                       rw [if_neg c55] at H
                       have c55b0 : decide (x83_6 < (t235.length : Int)) = false := decide_eq_false c55
                       clear c55
                       replace H := Option.bind_eq_some_iff.mp H
                       obtain ⟨t238, A780, H⟩ := H
                       replace H : ((spec_l11Up.f (wrap64 (t238 + x10_6)) x11_6).bind fun t239 => (some (t239, x11_6))) = some (r1, r2) := H
                       have A78 := Aside0.mk A780
                       clear A780
                       replace H := Option.bind_eq_some_iff.mp H
                       obtain ⟨t239, A790, H⟩ := H
                       replace H : (some (t239, x11_6)) = some (r1, r2) := H
                       have A79 := Aside0.mk A790
                       clear A790
                       simp only [Option.some.injEq, Prod.mk.injEq] at H
                       obtain ⟨rfl, rfl⟩ := H
                       go_wp2_with (first | ((with_reducible refine gate_callee (f := 67) rfl ?_); refine goesL_ (some 102) rfl rfl Try.func67 (by kernel_rfl) rfl #[.int .i64 1, .int .i64 x11_6] rfl ar ?_; (with_reducible refine (spec_l11Up.calls 1 x11_6 t238 _ A78.out).mono ?_); rintro e w' ⟨rfl, ⟨nd, rfl⟩⟩; refine ⟨_, rfl, ?_⟩) | ((with_reducible refine gate_callee (f := 67) rfl ?_); refine goesL_ (some 106) rfl rfl Try.func67 (by kernel_rfl) rfl #[.int .i64 (wrap64 (t238 + x10_6)), .int .i64 x11_6] rfl ar ?_; (with_reducible refine (spec_l11Up.calls (wrap64 (t238 + x10_6)) x11_6 t239 _ A79.out).mono ?_); rintro e w' ⟨rfl, ⟨nd, rfl⟩⟩; refine ⟨_, rfl, ?_⟩))
                       go_ret2
                       exact ⟨by first | rfl | (simp [errW_none, errW_some] <;> rfl) | (simp [*, errW_none, errW_some] <;> rfl), bw HB.out⟩
                   ·
                    replace c50 := Bool.eq_false_iff.mpr c50
                    subst c50
                    have H1 : (some (4, 4)) = some (r1, r2) := by rw [if_neg (show ¬ (false = true) by decide)] at H; exact H
                    clear H
                    have H := H1
                    clear H1
                    simp only [Option.some.injEq, Prod.mk.injEq] at H
                    obtain ⟨rfl, rfl⟩ := H
                    go_wp2
                    go_ret2
                    exact ⟨by first | rfl | (simp [errW_none, errW_some] <;> rfl) | (simp [*, errW_none, errW_some] <;> rfl), bw HB.out⟩

end Go.Proofs.Ytlgegdgilkaldaa.Q

namespace Go.Proofs.Ytlgegdgilkaldaa.Q
open Go.RowKit Go.Proofs.YtlgegdgilkaldaaW.PrintWords Go.Proofs.YtlgegdgilkaldaaW.PrintLast Go.Proofs.YtlgegdgilkaldaaW.PrintMore
attribute [local go_sem] max2_int min2_int max_two min_two max_three min_three max_four min_four   -- for this text's walks alone
set_option linter.unusedVariables false
set_option linter.unusedSimpArgs false


/-! ### impl_shape_width: function 69 (walked by hand) -/
def widthT (k n : Int) : Int × Int :=
 if k = 1 then (1, 1) else if k = 2 then (1, 1) else if k = 3 then (1, 1) else if k = 4 then (2, 2) else if k = 5 then (2, 2) else if k = 8 then (8, 8) else if k = 9 then (8, 8) else if k = 12 then (8, 4) else if k = 13 then (8, 4)
 else if k = 16 then (if n ≤ 8 then (1, 1) else if n ≤ 16 then (2, 2) else (4, 4)) else if k = 19 then (if n ≤ 256 then (1, 1) else (2, 2)) else (4, 4)

set_option maxHeartbeats 4000000 in
theorem width_any (k n : Int) (b o : Nat) (w : World) (h0 : w.cell? ⟨b, o, none⟩ = some (.int .i64 k)) (h1 : w.cell? ⟨b, o + 1, none⟩ = some (.int .i64 n)) :
  Calls Try.prog 69 #[.pointer (some ⟨b, o, none⟩)] w fun e w' => e = .returned (.tuple #[.int .i64 (widthT k n).1, .int .i64 (widthT k n).2]) ∧ w = w' := by
 have key : ∀ x : Int, (k == x) = decide (k = x) := fun x => rfl
 by_cases c1 : k = 1
 ·
  subst c1; go_enter Try.func69, Try.ntmps69; go_wp2; go_ret2; exact ⟨rfl, rfl⟩
 have c1b : (k == 1) = false := beq_eq_false_iff_ne.2 c1
 by_cases c2 : k = 2
 ·
  subst c2; go_enter Try.func69, Try.ntmps69; go_wp2; go_ret2; exact ⟨rfl, rfl⟩
 have c2b : (k == 2) = false := beq_eq_false_iff_ne.2 c2
 by_cases c3 : k = 3
 ·
  subst c3; go_enter Try.func69, Try.ntmps69; go_wp2; go_ret2; exact ⟨rfl, rfl⟩
 have c3b : (k == 3) = false := beq_eq_false_iff_ne.2 c3
 by_cases c4 : k = 4
 ·
  subst c4; go_enter Try.func69, Try.ntmps69; go_wp2; go_ret2; exact ⟨rfl, rfl⟩
 have c4b : (k == 4) = false := beq_eq_false_iff_ne.2 c4
 by_cases c5 : k = 5
 ·
  subst c5; go_enter Try.func69, Try.ntmps69; go_wp2; go_ret2; exact ⟨rfl, rfl⟩
 have c5b : (k == 5) = false := beq_eq_false_iff_ne.2 c5
 by_cases c8 : k = 8
 ·
  subst c8; go_enter Try.func69, Try.ntmps69; go_wp2; go_ret2; exact ⟨rfl, rfl⟩
 have c8b : (k == 8) = false := beq_eq_false_iff_ne.2 c8
 by_cases c9 : k = 9
 ·
  subst c9; go_enter Try.func69, Try.ntmps69; go_wp2; go_ret2; exact ⟨rfl, rfl⟩
 have c9b : (k == 9) = false := beq_eq_false_iff_ne.2 c9
 by_cases c12 : k = 12
 ·
  subst c12; go_enter Try.func69, Try.ntmps69; go_wp2; go_ret2; exact ⟨rfl, rfl⟩
 have c12b : (k == 12) = false := beq_eq_false_iff_ne.2 c12
 by_cases c13 : k = 13
 ·
  subst c13; go_enter Try.func69, Try.ntmps69; go_wp2; go_ret2; exact ⟨rfl, rfl⟩
 have c13b : (k == 13) = false := beq_eq_false_iff_ne.2 c13
 clear key
 by_cases c16 : k = 16
 ·
  subst c16
  by_cases d8 : n ≤ 8
  ·
   have E : widthT 16 n = (1, 1) := by unfold widthT; simp [d8]
   rw [E]
   have d8b : decide (n ≤ 8) = true := decide_eq_true d8
   clear d8
   go_enter Try.func69, Try.ntmps69; go_wp2; go_ret2; exact ⟨rfl, rfl⟩
  ·
   have d8b : decide (n ≤ 8) = false := decide_eq_false d8
   by_cases d16 : n ≤ 16
   ·
    have E : widthT 16 n = (2, 2) := by unfold widthT; simp [d8, d16]
    rw [E]
    have d16b : decide (n ≤ 16) = true := decide_eq_true d16
    clear d8 d16
    go_enter Try.func69, Try.ntmps69; go_wp2; go_ret2; exact ⟨rfl, rfl⟩
   ·
    have E : widthT 16 n = (4, 4) := by unfold widthT; simp [d8, d16]
    rw [E]
    have d16b : decide (n ≤ 16) = false := decide_eq_false d16
    clear d8 d16
    go_enter Try.func69, Try.ntmps69; go_wp2; go_ret2; exact ⟨rfl, rfl⟩
 have c16b : (k == 16) = false := beq_eq_false_iff_ne.2 c16
 by_cases c19 : k = 19
 ·
  subst c19
  by_cases d : n ≤ 256
  ·
   have E : widthT 19 n = (1, 1) := by unfold widthT; simp [d]
   rw [E]
   have db : decide (n ≤ 256) = true := decide_eq_true d
   clear d
   go_enter Try.func69, Try.ntmps69; go_wp2; go_ret2; exact ⟨rfl, rfl⟩
  ·
   have E : widthT 19 n = (2, 2) := by unfold widthT; simp [d]
   rw [E]
   have db : decide (n ≤ 256) = false := decide_eq_false d
   clear d
   go_enter Try.func69, Try.ntmps69; go_wp2; go_ret2; exact ⟨rfl, rfl⟩
 have c19b : (k == 19) = false := beq_eq_false_iff_ne.2 c19
 have E : widthT k n = (4, 4) := by unfold widthT; simp [c1, c2, c3, c4, c5, c8, c9, c12, c13, c16, c19]
 rw [E]
 clear E c1 c2 c3 c4 c5 c8 c9 c12 c13 c16 c19
 go_enter Try.func69, Try.ntmps69; go_wp2; go_ret2; exact ⟨rfl, rfl⟩


end Go.Proofs.Ytlgegdgilkaldaa.Q

namespace Go.Proofs.Ytlgegdgilkaldaa.Q
open Go.RowKit Go.Proofs.YtlgegdgilkaldaaW.PrintWords Go.Proofs.YtlgegdgilkaldaaW.PrintLast Go.Proofs.YtlgegdgilkaldaaW.PrintMore
attribute [local go_sem] max2_int min2_int max_two min_two max_three min_three max_four min_four   -- for this text's walks alone
set_option linter.unusedVariables false
set_option linter.unusedSimpArgs false


/-! ### impl_shape_room: function 47 (walked by hand) -/
def upT (a b : Int) : Int := wrap64 (wrap64 (Int.tdiv (wrap64 (wrap64 (a + b) - 1)) b) * b)
set_option maxHeartbeats 800000 in
theorem upTo_any (a b : Int) (w : World) (hb : b ≠ 0) : Calls Try.prog 70 #[.int .i64 a, .int .i64 b] w fun e w' => e = .returned (.int .i64 (upT a b)) ∧ w = w' := by
 have c3b0 : (b == 0) = false := beq_eq_false_iff_ne.mpr hb
 have c3b1 : (b != 0) = true := bne_iff_ne.mpr hb
 go_enter Try.func70, Try.ntmps70
 go_wp2
 go_ret
 exact ⟨rfl, rfl⟩



def stepC (r : S52 → Int × Int) (s : Int × Int) (p : S52) : Int × Int := (mx s.1 (r p).1, mx s.2 (r p).2)
def stepR (r : S52 → Int × Int) (s : Int × Int) (p : S52) : Int × Int := (wrap64 (upT s.1 (r p).2 + (r p).1), mx s.2 (r p).2)
def roomT : Nat → S52 → Int × Int
 | 0, _ => (0, 1)
 | n + 1, t =>
  if t.f0 = 14 then (upT (t.f2.foldl (stepR (roomT n)) (0, 1)).1 (t.f2.foldl (stepR (roomT n)) (0, 1)).2, (t.f2.foldl (stepR (roomT n)) (0, 1)).2)
  else if chosenB t.f0 = true then (upT (wrap64 (upT 1 (t.f2.foldl (stepC (roomT n)) (0, 1)).2 + (t.f2.foldl (stepC (roomT n)) (0, 1)).1)) (t.f2.foldl (stepC (roomT n)) (0, 1)).2, (t.f2.foldl (stepC (roomT n)) (0, 1)).2)
  else widthT t.f0 t.f1

theorem mx_left (a b : Int) : a ≤ mx a b := by unfold mx; split <;> omega
theorem foldC_pos (r : S52 → Int × Int) (l : List S52) (s : Int × Int) (h : 1 ≤ s.2) : 1 ≤ (l.foldl (stepC r) s).2 := by
 induction l generalizing s with
 | nil => exact h
 | cons x l ih => exact ih _ (Int.le_trans h (mx_left _ _))
theorem foldR_pos (r : S52 → Int × Int) (l : List S52) (s : Int × Int) (h : 1 ≤ s.2) : 1 ≤ (l.foldl (stepR r) s).2 := by
 induction l generalizing s with
 | nil => exact h
 | cons x l ih => exact ih _ (Int.le_trans h (mx_left _ _))
theorem width_pos (k n : Int) : 1 ≤ (widthT k n).2 := by
 unfold widthT
 by_cases c1 : k = 1
 ·
  rw [if_pos c1]; decide
 rw [if_neg c1]
 by_cases c2 : k = 2
 ·
  rw [if_pos c2]; decide
 rw [if_neg c2]
 by_cases c3 : k = 3
 ·
  rw [if_pos c3]; decide
 rw [if_neg c3]
 by_cases c4 : k = 4
 ·
  rw [if_pos c4]; decide
 rw [if_neg c4]
 by_cases c5 : k = 5
 ·
  rw [if_pos c5]; decide
 rw [if_neg c5]
 by_cases c8 : k = 8
 ·
  rw [if_pos c8]; decide
 rw [if_neg c8]
 by_cases c9 : k = 9
 ·
  rw [if_pos c9]; decide
 rw [if_neg c9]
 by_cases c12 : k = 12
 ·
  rw [if_pos c12]; decide
 rw [if_neg c12]
 by_cases c13 : k = 13
 ·
  rw [if_pos c13]; decide
 rw [if_neg c13]
 by_cases c16 : k = 16
 ·
  rw [if_pos c16]
  by_cases d1 : n ≤ 8
  ·
   rw [if_pos d1]; decide
  rw [if_neg d1]
  by_cases d2 : n ≤ 16
  ·
   rw [if_pos d2]; decide
  rw [if_neg d2]; decide
 rw [if_neg c16]
 by_cases c19 : k = 19
 ·
  rw [if_pos c19]
  by_cases d1 : n ≤ 256
  ·
   rw [if_pos d1]; decide
  rw [if_neg d1]; decide
 rw [if_neg c19]; decide
theorem room_pos (n : Nat) (t : S52) : 1 ≤ (roomT n t).2 := by
 cases n with
 | zero => exact Int.le_refl 1
 | succ n =>
  unfold roomT
  split
  ·
   exact foldR_pos _ _ _ (by decide)
  ·
   split
   ·
    exact foldC_pos _ _ _ (by decide)
   ·
    exact width_pos _ _

set_option maxHeartbeats 4000000 in
set_option maxRecDepth 100000 in
theorem room_any (n : Nat) : ∀ (t : S52) (b o : Nat) (w : World), TreeAt w n b o t →
  Calls Try.prog 47 #[.pointer (some ⟨b, o, none⟩)] w fun e w' => e = .returned (.tuple #[.int .i64 (roomT n t).1, .int .i64 (roomT n t).2]) ∧ w = w' := by
 induction n with
 | zero => intro t b o w h; exact h.elim
 | succ n ih =>
  intro t b o w h
  obtain ⟨h0, h1, hl, A, c, h2, hc, hk⟩ := h
  by_cases hr : t.f0 = 14
  ·
   have hch : chosenB t.f0 = false := by rw [hr]; rfl
   have E : roomT (n + 1) t = (upT (t.f2.foldl (stepR (roomT n)) (0, 1)).1 (t.f2.foldl (stepR (roomT n)) (0, 1)).2, (t.f2.foldl (stepR (roomT n)) (0, 1)).2) := by
    rw [roomT, if_pos hr]
   rw [E]; clear E
   have k1 : (t.f0 != 14) = false := bne_eq_false_iff_eq.mpr hr
   have HR := Aside0.mk hr
   clear hr
   go_enter Try.func47, Try.ntmps47
   go_wp2_with (first | (go_at_call 57; refine (chosen_any t.f0 b o _ false hch h0).mono ?_; rintro e w' ⟨rfl, rfl⟩))
   go_loopg [4, 5, 64] t.f2.length (fun kq v4 v5 v64 w' => ∃ j : Nat, w = w' ∧ j + kq = t.f2.length ∧ v4 = .int .i64 ((t.f2.take j).foldl (stepR (roomT n)) (0, 1)).1 ∧ v5 = .int .i64 ((t.f2.take j).foldl (stepR (roomT n)) (0, 1)).2 ∧ v64 = .int .i64 j)
   case atStart => exact ⟨0, rfl, by omega, rfl, rfl, rfl⟩
   case round =>
    obtain ⟨j, rfl, hj, rfl, rfl, rfl⟩ := hrel
    by_cases hlt : j < t.f2.length
    ·
     obtain ⟨ad, pb, po, hA, hp, hT⟩ := hk j t.f2[j] (List.getElem?_eq_getElem hlt)
     subst hA
     have HF := Aside0.mk (fold_take (stepR (roomT n)) (0, 1) t.f2 j hlt)
     have hpos := room_pos n t.f2[j]
     generalize hS : (t.f2.take j).foldl (stepR (roomT n)) (0, 1) = S at HF
     have HS := Aside0.mk hS; clear hS
     go_wp2_with (first | (go_at_call 47; refine (ih t.f2[j] pb po _ hT).mono ?_; rintro e w' ⟨rfl, rfl⟩) | (go_at_call 70; refine (upTo_any _ _ _ (by omega)).mono ?_; rintro e w' ⟨rfl, rfl⟩))
     all_goals
      go_roundg (t.f2.length - (j + 1))
      case rel => exact ⟨j + 1, rfl, by omega, by rw [HF.out]; first | rfl | exact congrArg (Value.int .i64) (by simp only [stepR, stepC, mx]; split <;> omega), by rw [HF.out]; first | rfl | exact congrArg (Value.int .i64) (by simp only [stepR, stepC, mx]; split <;> omega), by go_num⟩
      case measure => omega
    ·
     obtain rfl : j = t.f2.length := by omega
     rw [List.take_length]
     have hpos := foldR_pos (roomT n) t.f2 (0, 1) (by decide)
     go_wp2_with (first | (go_at_call 70; refine (upTo_any _ _ _ (by omega)).mono ?_; rintro e w' ⟨rfl, rfl⟩))
     go_ret2
     exact ⟨rfl, rfl⟩
  ·
   have k1 : (t.f0 != 14) = true := bne_iff_ne.mpr hr
   by_cases hch : chosenB t.f0 = true
   ·
    have E : roomT (n + 1) t = (upT (wrap64 (upT 1 (t.f2.foldl (stepC (roomT n)) (0, 1)).2 + (t.f2.foldl (stepC (roomT n)) (0, 1)).1)) (t.f2.foldl (stepC (roomT n)) (0, 1)).2, (t.f2.foldl (stepC (roomT n)) (0, 1)).2) := by
     rw [roomT, if_neg hr, if_pos hch]
    rw [E]; clear E
    clear hr
    have HC := Aside0.mk hch
    clear hch
    go_enter Try.func47, Try.ntmps47
    go_wp2_with (first | (go_at_call 57; refine (chosen_any t.f0 b o _ true HC.out h0).mono ?_; rintro e w' ⟨rfl, rfl⟩))
    go_loopg [5, 6, 36] t.f2.length (fun kq v5 v6 v36 w' => ∃ j : Nat, w = w' ∧ j + kq = t.f2.length ∧ v6 = .int .i64 ((t.f2.take j).foldl (stepC (roomT n)) (0, 1)).1 ∧ v5 = .int .i64 ((t.f2.take j).foldl (stepC (roomT n)) (0, 1)).2 ∧ v36 = .int .i64 j)
    case atStart => exact ⟨0, rfl, by omega, rfl, rfl, rfl⟩
    case round =>
     obtain ⟨j, rfl, hj, rfl, rfl, rfl⟩ := hrel
     by_cases hlt : j < t.f2.length
     ·
      obtain ⟨ad, pb, po, hA, hp, hT⟩ := hk j t.f2[j] (List.getElem?_eq_getElem hlt)
      subst hA
      have HF := Aside0.mk (fold_take (stepC (roomT n)) (0, 1) t.f2 j hlt)
      generalize hS : (t.f2.take j).foldl (stepC (roomT n)) (0, 1) = S at HF
      have HS := Aside0.mk hS; clear hS
      go_wp2_with (first | (go_at_call 47; refine (ih t.f2[j] pb po _ hT).mono ?_; rintro e w' ⟨rfl, rfl⟩))
      all_goals
       go_roundg (t.f2.length - (j + 1))
       case rel => exact ⟨j + 1, rfl, by omega, by rw [HF.out]; first | rfl | exact congrArg (Value.int .i64) (by simp only [stepR, stepC, mx]; split <;> omega), by rw [HF.out]; first | rfl | exact congrArg (Value.int .i64) (by simp only [stepR, stepC, mx]; split <;> omega), by go_num⟩
       case measure => omega
     ·
      obtain rfl : j = t.f2.length := by omega
      rw [List.take_length]
      have hpos := foldC_pos (roomT n) t.f2 (0, 1) (by decide)
      go_wp2_with (first | (go_at_call 70; refine (upTo_any _ _ _ (by omega)).mono ?_; rintro e w' ⟨rfl, rfl⟩))
      go_ret2
      exact ⟨rfl, rfl⟩
   ·
    have E : roomT (n + 1) t = widthT t.f0 t.f1 := by rw [roomT, if_neg hr, if_neg hch]
    rw [E]; clear E
    clear hr
    have HC := Aside0.mk (show chosenB t.f0 = false by simpa using hch)
    clear hch
    go_enter Try.func47, Try.ntmps47
    go_wp2_with (first | (go_at_call 57; refine (chosen_any t.f0 b o _ false HC.out h0).mono ?_; rintro e w' ⟨rfl, rfl⟩) | (go_at_call 69; refine (width_any t.f0 t.f1 b o _ h0 h1).mono ?_; rintro e w' ⟨rfl, rfl⟩))
    go_ret2
    exact ⟨rfl, rfl⟩


end Go.Proofs.Ytlgegdgilkaldaa.Q

