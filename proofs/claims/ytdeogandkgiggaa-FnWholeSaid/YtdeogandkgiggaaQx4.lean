-- Written by a program of this session; it walks the functions that the law reaches.
import Derived.Test.YtdeogandkgiggaaQx0
import Derived.Test.YtdeogandkgiggaaQx3
namespace Go.Proofs.Ytdeogandkgiggaa.Q
open Go.RowKit Go.Proofs.YtdeogandkgiggaaW.PrintWords Go.Proofs.YtdeogandkgiggaaW.PrintLast Go.Proofs.YtdeogandkgiggaaW.PrintMore
attribute [local go_sem] max2_int min2_int max_two min_two max_three min_three max_four min_four   -- for this text's walks alone
set_option linter.unusedVariables false
set_option linter.unusedSimpArgs false

/-! ### impl_goodBits: function 70 -/
def impl_goodBits.f (a0 : Int) : Option (Bool) := if a0 = 32 then (some true) else (some (a0 == 64))
set_option maxHeartbeats 8000000 in
set_option maxRecDepth 100000 in
theorem impl_goodBits.calls (a0 : Int) (r : Bool) (w : World) (h : impl_goodBits.f a0 = some r) :
  Calls Try.prog 70 #[.int .i64 a0] w fun e w' => e = .returned (.bool r) ∧ Drawn0 w w' := by
 have H : (if a0 = 32 then (some true) else (some (a0 == 64))) = some r := h
 clear h
 by_cases c2 : a0 = 32
 ·
  rw [if_pos c2] at H
  have c2b0 : (a0 == 32) = true := beq_iff_eq.mpr c2
  have c2b1 : (a0 != 32) = false := bne_eq_false_iff_eq.mpr c2
  clear c2
  obtain rfl := Option.some.inj H
  simp only [Option.some.injEq, Prod.mk.injEq] at H
  obtain ⟨rfl⟩ := H
  go_enter Try.func70, Try.ntmps70
  go_wp2
  go_ret
  exact ⟨by first | rfl | (simp; done) | (simp [*]; done), by repeat (first | exact Drawn0.refl _ | apply Drawn0.step)⟩
 ·
  rw [if_neg c2] at H
  have c2b0 : (a0 == 32) = false := beq_eq_false_iff_ne.mpr c2
  have c2b1 : (a0 != 32) = true := bne_iff_ne.mpr c2
  obtain rfl := Option.some.inj H
  simp only [Option.some.injEq, Prod.mk.injEq] at H
  obtain ⟨rfl⟩ := H
  go_enter Try.func70, Try.ntmps70
  go_wp2
  go_ret
  exact ⟨by first | rfl | (simp; done) | (simp [*]; done), by repeat (first | exact Drawn0.refl _ | apply Drawn0.step)⟩

end Go.Proofs.Ytdeogandkgiggaa.Q

namespace Go.Proofs.Ytdeogandkgiggaa.Q
open Go.RowKit Go.Proofs.YtdeogandkgiggaaW.PrintWords Go.Proofs.YtdeogandkgiggaaW.PrintLast Go.Proofs.YtdeogandkgiggaaW.PrintMore
attribute [local go_sem] max2_int min2_int max_two min_two max_three min_three max_four min_four   -- for this text's walks alone
set_option linter.unusedVariables false
set_option linter.unusedSimpArgs false

/-! ### impl_cut: function 71 -/
def impl_cut.f (a0 : Int) (a1 : Int) : Option (Int) := if a0 = 32 then (some (Go.bits .and .u64 a1 4294967295)) else (some a1)
set_option maxHeartbeats 8000000 in
set_option maxRecDepth 100000 in
theorem impl_cut.calls (a0 : Int) (a1 : Int) (r : Int) (w : World) (h : impl_cut.f a0 a1 = some r) :
  Calls Try.prog 71 #[.int .i64 a0, .int .u64 a1] w fun e w' => e = .returned (.int .u64 r) ∧ Drawn0 w w' := by
 have H : (if a0 = 32 then (some (Go.bits .and .u64 a1 4294967295)) else (some a1)) = some r := h
 clear h
 by_cases c3 : a0 = 32
 ·
  rw [if_pos c3] at H
  have c3b0 : (a0 == 32) = true := beq_iff_eq.mpr c3
  have c3b1 : (a0 != 32) = false := bne_eq_false_iff_eq.mpr c3
  clear c3
  obtain rfl := Option.some.inj H
  simp only [Option.some.injEq, Prod.mk.injEq] at H
  obtain ⟨rfl⟩ := H
  go_enter Try.func71, Try.ntmps71
  go_wp2
  go_ret
  exact ⟨by first | rfl | (simp; done) | (simp [*]; done), by repeat (first | exact Drawn0.refl _ | apply Drawn0.step)⟩
 ·
  rw [if_neg c3] at H
  have c3b0 : (a0 == 32) = false := beq_eq_false_iff_ne.mpr c3
  have c3b1 : (a0 != 32) = true := bne_iff_ne.mpr c3
  obtain rfl := Option.some.inj H
  simp only [Option.some.injEq, Prod.mk.injEq] at H
  obtain ⟨rfl⟩ := H
  go_enter Try.func71, Try.ntmps71
  go_wp2
  go_ret
  exact ⟨by first | rfl | (simp; done) | (simp [*]; done), by repeat (first | exact Drawn0.refl _ | apply Drawn0.step)⟩

end Go.Proofs.Ytdeogandkgiggaa.Q

namespace Go.Proofs.Ytdeogandkgiggaa.Q
open Go.RowKit Go.Proofs.YtdeogandkgiggaaW.PrintWords Go.Proofs.YtdeogandkgiggaaW.PrintLast Go.Proofs.YtdeogandkgiggaaW.PrintMore
attribute [local go_sem] max2_int min2_int max_two min_two max_three min_three max_four min_four   -- for this text's walks alone
set_option linter.unusedVariables false
set_option linter.unusedSimpArgs false

/-! ### impl_FToInt: function 29 -/
mutual
def impl_FToInt.j0 : Nat → Int → Bool → Bool → Bool → Bool → Bool → Int → Int → Option (Int × Int)
 | 0, _, _, _, _, _, _, _, _ => none
 | k + 1, x2, x3, x43, x204000, x204001, x204002, x204003, x204004 => if x43 = true then (some (0, 2)) else (if x204004 < 0 then ((impl_whole.f k 3 false x204003 x204004).bind fun t204 => (impl_FToInt.j1 k x2 x3 t204 x204000 x204001 x204002 x204003 x204004)) else (if 0 ≤ x204004 then (impl_FToInt.j1 k x2 x3 (shl .u64 x204003 x204004) x204000 x204001 x204002 x204003 x204004) else (none)))
def impl_FToInt.j1 : Nat → Int → Bool → Int → Bool → Bool → Bool → Int → Int → Option (Int × Int)
 | 0, _, _, _, _, _, _, _, _ => none
 | k + 1, x2, x3, x13, x204000, x204001, x204002, x204003, x204004 => if 0 ≤ (wrap64 (x2 - 1)) then (if x3 = true then (impl_FToInt.j2 k x2 x3 x13 (IntKind.u64.wrap ((IntKind.u64.wrap ((shl .u64 1 (wrap64 (x2 - 1))) - 1)) + (shl .u64 1 (wrap64 (x2 - 1))))) x204000 x204000 x204001 x204002 x204003 x204004) else (impl_FToInt.j2 k x2 x3 x13 (IntKind.u64.wrap ((IntKind.u64.wrap ((shl .u64 1 (wrap64 (x2 - 1))) - 1)) + (shl .u64 1 (wrap64 (x2 - 1))))) false x204000 x204001 x204002 x204003 x204004)) else (none)
def impl_FToInt.j3 : Nat → Int → Int → Int → Bool → Bool → Bool → Int → Int → Option (Int × Int)
 | 0, _, _, _, _, _, _, _, _ => none
 | k + 1, x2, x13, x14, x204000, x204001, x204002, x204003, x204004 => if x13 > x14 then (some (0, 2)) else (if x204000 = true then ((impl_cut.f x2 (IntKind.u64.wrap (-x13))).bind fun t205 => (some (t205, 0))) else ((impl_cut.f x2 x13).bind fun t206 => (some (t206, 0))))
def impl_FToInt.j2 : Nat → Int → Bool → Int → Int → Bool → Bool → Bool → Bool → Int → Int → Option (Int × Int)
 | 0, _, _, _, _, _, _, _, _, _, _ => none
 | k + 1, x2, x3, x13, x14, x67, x204000, x204001, x204002, x204003, x204004 => if x67 = true then (if 0 ≤ (wrap64 (x2 - 1)) then (impl_FToInt.j3 k x2 x13 (shl .u64 1 (wrap64 (x2 - 1))) x204000 x204001 x204002 x204003 x204004) else (none)) else (if x3 = true then (if 0 ≤ (wrap64 (x2 - 1)) then (impl_FToInt.j3 k x2 x13 (IntKind.u64.wrap ((shl .u64 1 (wrap64 (x2 - 1))) - 1)) x204000 x204001 x204002 x204003 x204004) else (none)) else (if x204000 = true then (impl_FToInt.j3 k x2 x13 0 x204000 x204001 x204002 x204003 x204004) else (impl_FToInt.j3 k x2 x13 x14 x204000 x204001 x204002 x204003 x204004)))
end
def impl_FToInt.f (k : Nat) (a0 : Int) (a1 : Int) (a2 : Int) (a3 : Bool) : Option (Int × Int) := (impl_formatOf.f a0).bind fun bt193 => (if bt193.2.2 = true then ((impl_goodBits.f a2).bind fun t197 => (if t197 = true then ((impl_format_open.f bt193.1 bt193.2.1 a1).bind fun bt198 => (if bt198.2.1 = true then (impl_FToInt.j0 k a2 a3 true bt198.1 bt198.2.1 bt198.2.2.1 bt198.2.2.2.1 bt198.2.2.2.2) else (if bt198.2.2.1 = true then (impl_FToInt.j0 k a2 a3 true bt198.1 bt198.2.1 bt198.2.2.1 bt198.2.2.2.1 bt198.2.2.2.2) else (if bt198.2.2.2.1 = 0 then (impl_FToInt.j0 k a2 a3 false bt198.1 bt198.2.1 bt198.2.2.1 bt198.2.2.2.1 bt198.2.2.2.2) else (impl_FToInt.j0 k a2 a3 (decide (bt198.2.2.2.2 > 40)) bt198.1 bt198.2.1 bt198.2.2.1 bt198.2.2.2.1 bt198.2.2.2.2))))) else (some (0, 3)))) else (some (0, 0)))
theorem impl_FToInt.mono_l : ∀ k, (∀ y0 y1 y2 y3 y4 y5 y6 y7, LeO (impl_FToInt.j0 k y0 y1 y2 y3 y4 y5 y6 y7) (impl_FToInt.j0 (k + 1) y0 y1 y2 y3 y4 y5 y6 y7)) ∧ (∀ y0 y1 y2 y3 y4 y5 y6 y7, LeO (impl_FToInt.j1 k y0 y1 y2 y3 y4 y5 y6 y7) (impl_FToInt.j1 (k + 1) y0 y1 y2 y3 y4 y5 y6 y7)) ∧ (∀ y0 y1 y2 y3 y4 y5 y6 y7, LeO (impl_FToInt.j3 k y0 y1 y2 y3 y4 y5 y6 y7) (impl_FToInt.j3 (k + 1) y0 y1 y2 y3 y4 y5 y6 y7)) ∧ (∀ y0 y1 y2 y3 y4 y5 y6 y7 y8 y9, LeO (impl_FToInt.j2 k y0 y1 y2 y3 y4 y5 y6 y7 y8 y9) (impl_FToInt.j2 (k + 1) y0 y1 y2 y3 y4 y5 y6 y7 y8 y9))
 | 0 => ⟨fun _ _ _ _ _ _ _ _ r h => by simp [impl_FToInt.j0] at h, fun _ _ _ _ _ _ _ _ r h => by simp [impl_FToInt.j1] at h, fun _ _ _ _ _ _ _ _ r h => by simp [impl_FToInt.j3] at h, fun _ _ _ _ _ _ _ _ _ _ r h => by simp [impl_FToInt.j2] at h⟩
 | k + 1 => by
  obtain ⟨ih0, ih1, ih2, ih3⟩ := impl_FToInt.mono_l k
  refine ⟨?_, ?_, ?_, ?_⟩
  ·
   intro y0 y1 y2 y3 y4 y5 y6 y7
   unfold impl_FToInt.j0
   repeat' first
   | (with_reducible exact ih0 _ _ _ _ _ _ _ _)
   | (with_reducible exact ih1 _ _ _ _ _ _ _ _)
   | (with_reducible exact ih2 _ _ _ _ _ _ _ _)
   | (with_reducible exact ih3 _ _ _ _ _ _ _ _ _ _)
   | (with_reducible exact impl_whole.mono _ _ _ _ _)
   | (with_reducible exact LeO.refl _)
   | (with_reducible exact LeO.none _)
   | (with_reducible refine LeO.ite ?_ ?_)
   | (with_reducible refine LeO.bind ?_ (fun _ => ?_))
   | exact ih0 _ _ _ _ _ _ _ _
   | exact ih1 _ _ _ _ _ _ _ _
   | exact ih2 _ _ _ _ _ _ _ _
   | exact ih3 _ _ _ _ _ _ _ _ _ _
   | exact impl_whole.mono _ _ _ _ _
   | exact LeO.none _
   | refine LeO.ite ?_ ?_
   | refine LeO.bind ?_ (fun _ => ?_)
  ·
   intro y0 y1 y2 y3 y4 y5 y6 y7
   unfold impl_FToInt.j1
   repeat' first
   | (with_reducible exact ih0 _ _ _ _ _ _ _ _)
   | (with_reducible exact ih1 _ _ _ _ _ _ _ _)
   | (with_reducible exact ih2 _ _ _ _ _ _ _ _)
   | (with_reducible exact ih3 _ _ _ _ _ _ _ _ _ _)
   | (with_reducible exact impl_whole.mono _ _ _ _ _)
   | (with_reducible exact LeO.refl _)
   | (with_reducible exact LeO.none _)
   | (with_reducible refine LeO.ite ?_ ?_)
   | (with_reducible refine LeO.bind ?_ (fun _ => ?_))
   | exact ih0 _ _ _ _ _ _ _ _
   | exact ih1 _ _ _ _ _ _ _ _
   | exact ih2 _ _ _ _ _ _ _ _
   | exact ih3 _ _ _ _ _ _ _ _ _ _
   | exact impl_whole.mono _ _ _ _ _
   | exact LeO.none _
   | refine LeO.ite ?_ ?_
   | refine LeO.bind ?_ (fun _ => ?_)
  ·
   intro y0 y1 y2 y3 y4 y5 y6 y7
   unfold impl_FToInt.j3
   repeat' first
   | (with_reducible exact ih0 _ _ _ _ _ _ _ _)
   | (with_reducible exact ih1 _ _ _ _ _ _ _ _)
   | (with_reducible exact ih2 _ _ _ _ _ _ _ _)
   | (with_reducible exact ih3 _ _ _ _ _ _ _ _ _ _)
   | (with_reducible exact impl_whole.mono _ _ _ _ _)
   | (with_reducible exact LeO.refl _)
   | (with_reducible exact LeO.none _)
   | (with_reducible refine LeO.ite ?_ ?_)
   | (with_reducible refine LeO.bind ?_ (fun _ => ?_))
   | exact ih0 _ _ _ _ _ _ _ _
   | exact ih1 _ _ _ _ _ _ _ _
   | exact ih2 _ _ _ _ _ _ _ _
   | exact ih3 _ _ _ _ _ _ _ _ _ _
   | exact impl_whole.mono _ _ _ _ _
   | exact LeO.none _
   | refine LeO.ite ?_ ?_
   | refine LeO.bind ?_ (fun _ => ?_)
  ·
   intro y0 y1 y2 y3 y4 y5 y6 y7 y8 y9
   unfold impl_FToInt.j2
   repeat' first
   | (with_reducible exact ih0 _ _ _ _ _ _ _ _)
   | (with_reducible exact ih1 _ _ _ _ _ _ _ _)
   | (with_reducible exact ih2 _ _ _ _ _ _ _ _)
   | (with_reducible exact ih3 _ _ _ _ _ _ _ _ _ _)
   | (with_reducible exact impl_whole.mono _ _ _ _ _)
   | (with_reducible exact LeO.refl _)
   | (with_reducible exact LeO.none _)
   | (with_reducible refine LeO.ite ?_ ?_)
   | (with_reducible refine LeO.bind ?_ (fun _ => ?_))
   | exact ih0 _ _ _ _ _ _ _ _
   | exact ih1 _ _ _ _ _ _ _ _
   | exact ih2 _ _ _ _ _ _ _ _
   | exact ih3 _ _ _ _ _ _ _ _ _ _
   | exact impl_whole.mono _ _ _ _ _
   | exact LeO.none _
   | refine LeO.ite ?_ ?_
   | refine LeO.bind ?_ (fun _ => ?_)
theorem impl_FToInt.mono : ∀ a0 a1 a2 a3 k, LeO (impl_FToInt.f k a0 a1 a2 a3) (impl_FToInt.f (k + 1) a0 a1 a2 a3) := by
 intro a0 a1 a2 a3 k
 obtain ⟨ih0, ih1, ih2, ih3⟩ := impl_FToInt.mono_l k
 unfold impl_FToInt.f
 repeat' first
   | (with_reducible exact ih0 _ _ _ _ _ _ _ _)
   | (with_reducible exact ih1 _ _ _ _ _ _ _ _)
   | (with_reducible exact ih2 _ _ _ _ _ _ _ _)
   | (with_reducible exact ih3 _ _ _ _ _ _ _ _ _ _)
   | (with_reducible exact impl_whole.mono _ _ _ _ _)
   | (with_reducible exact LeO.refl _)
   | (with_reducible exact LeO.none _)
   | (with_reducible refine LeO.ite ?_ ?_)
   | (with_reducible refine LeO.bind ?_ (fun _ => ?_))
   | exact ih0 _ _ _ _ _ _ _ _
   | exact ih1 _ _ _ _ _ _ _ _
   | exact ih2 _ _ _ _ _ _ _ _
   | exact ih3 _ _ _ _ _ _ _ _ _ _
   | exact impl_whole.mono _ _ _ _ _
   | exact LeO.none _
   | refine LeO.ite ?_ ?_
   | refine LeO.bind ?_ (fun _ => ?_)
set_option maxHeartbeats 8000000 in
set_option maxRecDepth 100000 in
theorem impl_FToInt.calls (k : Nat) (a0 : Int) (a1 : Int) (a2 : Int) (a3 : Bool) (r1 : Int) (r2 : Int) (w : World) (h : impl_FToInt.f k a0 a1 a2 a3 = some (r1, r2)) :
  Calls Try.prog 29 #[.int .i64 a0, .int .u32 a1, .int .i64 a2, .bool a3] w fun e w' => e = .returned (.tuple #[.int .u64 r1, .int .i64 r2]) ∧ Below w.heap.size w w' := by
 have hu62 := Try.underlying62
 have hu66 := Try.underlying66
 have HB := Aside0.mk (Below.refl w.heap.size w)
 have H : ((impl_formatOf.f a0).bind fun bt193 => (if bt193.2.2 = true then ((impl_goodBits.f a2).bind fun t197 => (if t197 = true then ((impl_format_open.f bt193.1 bt193.2.1 a1).bind fun bt198 => (if bt198.2.1 = true then (impl_FToInt.j0 k a2 a3 true bt198.1 bt198.2.1 bt198.2.2.1 bt198.2.2.2.1 bt198.2.2.2.2) else (if bt198.2.2.1 = true then (impl_FToInt.j0 k a2 a3 true bt198.1 bt198.2.1 bt198.2.2.1 bt198.2.2.2.1 bt198.2.2.2.2) else (if bt198.2.2.2.1 = 0 then (impl_FToInt.j0 k a2 a3 false bt198.1 bt198.2.1 bt198.2.2.1 bt198.2.2.2.1 bt198.2.2.2.2) else (impl_FToInt.j0 k a2 a3 (decide (bt198.2.2.2.2 > 40)) bt198.1 bt198.2.1 bt198.2.2.1 bt198.2.2.2.1 bt198.2.2.2.2))))) else (some (0, 3)))) else (some (0, 0)))) = some (r1, r2) := h
 clear h
 replace H := Option.bind_eq_some_iff.mp H
 obtain ⟨⟨t193, t194, t195⟩, A50, H⟩ := H
 replace H : (if t195 = true then ((impl_goodBits.f a2).bind fun t197 => (if t197 = true then ((impl_format_open.f t193 t194 a1).bind fun bt198 => (if bt198.2.1 = true then (impl_FToInt.j0 k a2 a3 true bt198.1 bt198.2.1 bt198.2.2.1 bt198.2.2.2.1 bt198.2.2.2.2) else (if bt198.2.2.1 = true then (impl_FToInt.j0 k a2 a3 true bt198.1 bt198.2.1 bt198.2.2.1 bt198.2.2.2.1 bt198.2.2.2.2) else (if bt198.2.2.2.1 = 0 then (impl_FToInt.j0 k a2 a3 false bt198.1 bt198.2.1 bt198.2.2.1 bt198.2.2.2.1 bt198.2.2.2.2) else (impl_FToInt.j0 k a2 a3 (decide (bt198.2.2.2.2 > 40)) bt198.1 bt198.2.1 bt198.2.2.1 bt198.2.2.2.1 bt198.2.2.2.2))))) else (some (0, 3)))) else (some (0, 0))) = some (r1, r2) := H
 have A5 := Aside0.mk A50
 clear A50
 by_cases c6 : t195 = true
 ·
  subst c6
  have H1 : ((impl_goodBits.f a2).bind fun t197 => (if t197 = true then ((impl_format_open.f t193 t194 a1).bind fun bt198 => (if bt198.2.1 = true then (impl_FToInt.j0 k a2 a3 true bt198.1 bt198.2.1 bt198.2.2.1 bt198.2.2.2.1 bt198.2.2.2.2) else (if bt198.2.2.1 = true then (impl_FToInt.j0 k a2 a3 true bt198.1 bt198.2.1 bt198.2.2.1 bt198.2.2.2.1 bt198.2.2.2.2) else (if bt198.2.2.2.1 = 0 then (impl_FToInt.j0 k a2 a3 false bt198.1 bt198.2.1 bt198.2.2.1 bt198.2.2.2.1 bt198.2.2.2.2) else (impl_FToInt.j0 k a2 a3 (decide (bt198.2.2.2.2 > 40)) bt198.1 bt198.2.1 bt198.2.2.1 bt198.2.2.2.1 bt198.2.2.2.2))))) else (some (0, 3)))) = some (r1, r2) := by rw [if_pos rfl] at H; exact H
  clear H
  have H := H1
  clear H1
  replace H := Option.bind_eq_some_iff.mp H
  obtain ⟨t197, A70, H⟩ := H
  replace H : (if t197 = true then ((impl_format_open.f t193 t194 a1).bind fun bt198 => (if bt198.2.1 = true then (impl_FToInt.j0 k a2 a3 true bt198.1 bt198.2.1 bt198.2.2.1 bt198.2.2.2.1 bt198.2.2.2.2) else (if bt198.2.2.1 = true then (impl_FToInt.j0 k a2 a3 true bt198.1 bt198.2.1 bt198.2.2.1 bt198.2.2.2.1 bt198.2.2.2.2) else (if bt198.2.2.2.1 = 0 then (impl_FToInt.j0 k a2 a3 false bt198.1 bt198.2.1 bt198.2.2.1 bt198.2.2.2.1 bt198.2.2.2.2) else (impl_FToInt.j0 k a2 a3 (decide (bt198.2.2.2.2 > 40)) bt198.1 bt198.2.1 bt198.2.2.1 bt198.2.2.2.1 bt198.2.2.2.2))))) else (some (0, 3))) = some (r1, r2) := H
  have A7 := Aside0.mk A70
  clear A70
  by_cases c8 : t197 = true
  ·
   subst c8
   have H1 : ((impl_format_open.f t193 t194 a1).bind fun bt198 => (if bt198.2.1 = true then (impl_FToInt.j0 k a2 a3 true bt198.1 bt198.2.1 bt198.2.2.1 bt198.2.2.2.1 bt198.2.2.2.2) else (if bt198.2.2.1 = true then (impl_FToInt.j0 k a2 a3 true bt198.1 bt198.2.1 bt198.2.2.1 bt198.2.2.2.1 bt198.2.2.2.2) else (if bt198.2.2.2.1 = 0 then (impl_FToInt.j0 k a2 a3 false bt198.1 bt198.2.1 bt198.2.2.1 bt198.2.2.2.1 bt198.2.2.2.2) else (impl_FToInt.j0 k a2 a3 (decide (bt198.2.2.2.2 > 40)) bt198.1 bt198.2.1 bt198.2.2.1 bt198.2.2.2.1 bt198.2.2.2.2))))) = some (r1, r2) := by rw [if_pos rfl] at H; exact H
   clear H
   have H := H1
   clear H1
   replace H := Option.bind_eq_some_iff.mp H
   obtain ⟨⟨t198, t199, t200, t201, t202⟩, A90, H⟩ := H
   replace H : (if t199 = true then (impl_FToInt.j0 k a2 a3 true t198 t199 t200 t201 t202) else (if t200 = true then (impl_FToInt.j0 k a2 a3 true t198 t199 t200 t201 t202) else (if t201 = 0 then (impl_FToInt.j0 k a2 a3 false t198 t199 t200 t201 t202) else (impl_FToInt.j0 k a2 a3 (decide (t202 > 40)) t198 t199 t200 t201 t202)))) = some (r1, r2) := H
   have A9 := Aside0.mk A90
   clear A90
   have HC10 := Aside0.mk H
   clear H
   go_enter Try.func29, Try.ntmps29
   go_upto_region 7 with (first | (go_at_call 51; (with_reducible refine (impl_formatOf.calls a0 t193 t194 true _ A5.out).mono ?_); rintro e w11 ⟨rfl, hb⟩; have n0_ := Aside0.mk (below_step (bw HB.out) hb); clear HB; have HB := n0_; clear n0_; (try clear hb); (try clear hb2); (try clear hk); (try clear hi)) | ((with_reducible refine gate_dst (N := 10) rfl ?_); refine box_event ?hg (N := 10) ?hd (cs := #[.int .i64 0, .int .i64 0]) (t := 62) ?hr ?_; (case hd => rfl); (case hg => rfl); (case hr => first | (go_simp; done) | (go_simp; rfl)); intro gb196 hg w12 hbox hb; have n0_ := Aside0.mk (below_step (bw HB.out) hb); have n1_ := Aside0.mk (hbox); have n2_ := Aside0.mk ((by rw [hg]; exact (below_size (bw HB.out)) : w.heap.size ≤ gb196)); have n3_ := Aside0.mk ((by rw [hg]; exact (below_size (bw HB.out)) : w.heap.size ≤ gb196)); clear HB; have HB := n0_; have BK196 := n1_; have GW196 := n2_; have GE196 := n3_; clear n0_ n1_ n2_ n3_; clear hb hbox hg; have hcz13_0 : w12.cell? ⟨gb196, 0, none⟩ = some (.int .i64 0) := (blk_cell BK196.out 0).trans rfl; have hcz13_1 : w12.cell? ⟨gb196, 1, none⟩ = some (.int .i64 0) := (blk_cell BK196.out 1).trans rfl; have hfz13_0 := blk_frozen BK196.out 0; have hfz13_1 := blk_frozen BK196.out 1) | (go_at_call 70; (with_reducible refine (impl_goodBits.calls a2 true _ A7.out).mono ?_); rintro e w' ⟨rfl, ⟨nd, rfl⟩⟩; (try first | exact ⟨rfl, _, World.drewN_drewN _ _ _⟩ | exact ⟨rfl, _, Eq.trans (World.drewN_drewN _ _ _) (congrArg (World.drewN _) (Nat.add_assoc _ _ _))⟩)) | (go_at_call 52; (with_reducible refine (impl_format_open.calls t193 t194 a1 t198 t199 t200 t201 t202 _ A9.out).mono ?_); rintro e w14 ⟨rfl, hb⟩; have n0_ := Aside0.mk (blk_below (g := gb196) (o := .cells #[.int .i64 t193, .int .i64 t194] 62 (0, 0)) (by (with_reducible repeat (first | refine blk_drewN ?_ _ | refine blk_drew ?_ | refine blk_alloc ?_ _)); refine blk_put (cs := #[.int .i64 t193, .int .i64 0]) ?_ 1 _ rfl; (with_reducible repeat (first | refine blk_drewN ?_ _ | refine blk_drew ?_ | refine blk_alloc ?_ _)); refine blk_put (cs := #[.int .i64 0, .int .i64 0]) ?_ 0 _ rfl; (with_reducible repeat (first | refine blk_drewN ?_ _ | refine blk_drew ?_ | refine blk_alloc ?_ _)); exact BK196.out) hb); have n1_ := Aside0.mk (below_step (bw HB.out) hb); clear BK196; clear HB; have BK196 := n0_; have HB := n1_; clear n0_ n1_; (try clear hb); (try clear hb2); (try clear hk); (try clear hi)) | ((with_reducible refine gate_dst (N := 12) rfl ?_); refine box_event ?hg (N := 12) ?hd (cs := #[.bool false, .bool false, .bool false, .int .u64 0, .int .i64 0]) (t := 66) ?hr ?_; (case hd => rfl); (case hg => rfl); (case hr => first | (go_simp; done) | (go_simp; rfl)); intro gb203 hg w15 hbox hb; have n0_ := Aside0.mk (blk_below (g := gb196) (o := .cells #[.int .i64 t193, .int .i64 t194] 62 (0, 0)) (bk BK196.out) hb); have n1_ := Aside0.mk (below_step (bw HB.out) hb); have n2_ := Aside0.mk (hbox); have n3_ := Aside0.mk ((by rw [hg]; exact (below_size (bw HB.out)) : w.heap.size ≤ gb203)); have n4_ := Aside0.mk ((by rw [hg]; exact (below_size (bw HB.out)) : w.heap.size ≤ gb203)); have n5_ := Aside0.mk ((by rw [hg]; exact Nat.ne_of_lt (blk_lt (g := gb196) (o := .cells #[.int .i64 t193, .int .i64 t194] 62 (0, 0)) (bk BK196.out)) : gb196 ≠ gb203)); have n6_ := Aside0.mk ((by rw [hg]; exact Nat.ne_of_gt (blk_lt (g := gb196) (o := .cells #[.int .i64 t193, .int .i64 t194] 62 (0, 0)) (bk BK196.out)) : gb203 ≠ gb196)); clear BK196; clear HB; have BK196 := n0_; have HB := n1_; have BK203 := n2_; have GW203 := n3_; have GE203 := n4_; have NB196_203 := n5_; have NB203_196 := n6_; clear n0_ n1_ n2_ n3_ n4_ n5_ n6_; clear hb hbox hg; have hnb16 := NB203_196.out; have hnc16 := NB196_203.out; have hcz17_0 : w15.cell? ⟨gb203, 0, none⟩ = some (.bool false) := (blk_cell BK203.out 0).trans rfl; have hcz17_1 : w15.cell? ⟨gb203, 1, none⟩ = some (.bool false) := (blk_cell BK203.out 1).trans rfl; have hcz17_2 : w15.cell? ⟨gb203, 2, none⟩ = some (.bool false) := (blk_cell BK203.out 2).trans rfl; have hcz17_3 : w15.cell? ⟨gb203, 3, none⟩ = some (.int .u64 0) := (blk_cell BK203.out 3).trans rfl; have hcz17_4 : w15.cell? ⟨gb203, 4, none⟩ = some (.int .i64 0) := (blk_cell BK203.out 4).trans rfl; have hfz17_0 := blk_frozen BK203.out 0; have hfz17_1 := blk_frozen BK203.out 1; have hfz17_2 := blk_frozen BK203.out 2; have hfz17_3 := blk_frozen BK203.out 3; have hfz17_4 := blk_frozen BK203.out 4) | ((with_reducible refine gate_store (t := 66) (p := 12) rfl ?_); (try (rw [drewN_self w15]; generalize hq_ : World.drewN w15 _ = w15; have n0_ := Aside0.mk (blk_at hq_ BK196.out); have n1_ := Aside0.mk (blk_at hq_ BK203.out); have n2_ := Aside0.mk (below_at hq_ HB.out); clear hq_ BK196 BK203 HB; have BK196 := n0_; have BK203 := n1_; have HB := n2_; clear n0_ n1_ n2_)); refine store_event (t := 66) (p := 12) (v := ?vo_w18) (w1 := (((((w15.setCell ⟨gb203, 0, none⟩ (.bool t198)).setCell ⟨gb203, 1, none⟩ (.bool t199)).setCell ⟨gb203, 2, none⟩ (.bool t200)).setCell ⟨gb203, 3, none⟩ (.int .u64 t201)).setCell ⟨gb203, 4, none⟩ (.int .i64 t202))) ?hg ?ho ?hn ?hr ?_; (case ho => rfl); (case hg => rfl); (case hn => rfl); (case hr => first | (go_simp; done) | (go_simp; rfl)); intro w18 hw; have n0_ : Aside0 (w18.heap[gb196]? = some (.cells #[.int .i64 t193, .int .i64 t194] 62 (0, 0))) := ⟨(by rw [hw]; exact (by (with_reducible repeat (first | refine blk_drewN ?_ _ | refine blk_drew ?_ | refine blk_alloc ?_ _)); refine blk_far ?_ NB196_203.out _; (with_reducible repeat (first | refine blk_drewN ?_ _ | refine blk_drew ?_ | refine blk_alloc ?_ _)); refine blk_far ?_ NB196_203.out _; (with_reducible repeat (first | refine blk_drewN ?_ _ | refine blk_drew ?_ | refine blk_alloc ?_ _)); refine blk_far ?_ NB196_203.out _; (with_reducible repeat (first | refine blk_drewN ?_ _ | refine blk_drew ?_ | refine blk_alloc ?_ _)); refine blk_far ?_ NB196_203.out _; (with_reducible repeat (first | refine blk_drewN ?_ _ | refine blk_drew ?_ | refine blk_alloc ?_ _)); refine blk_far ?_ NB196_203.out _; (with_reducible repeat (first | refine blk_drewN ?_ _ | refine blk_drew ?_ | refine blk_alloc ?_ _)); exact BK196.out))⟩; have n1_ : Aside0 (w18.heap[gb203]? = some (.cells #[.bool t198, .bool t199, .bool t200, .int .u64 t201, .int .i64 t202] 66 (0, 0))) := ⟨(by rw [hw]; exact (by (with_reducible repeat (first | refine blk_drewN ?_ _ | refine blk_drew ?_ | refine blk_alloc ?_ _)); refine blk_put (cs := #[.bool t198, .bool t199, .bool t200, .int .u64 t201, .int .i64 0]) ?_ 4 _ rfl; (with_reducible repeat (first | refine blk_drewN ?_ _ | refine blk_drew ?_ | refine blk_alloc ?_ _)); refine blk_put (cs := #[.bool t198, .bool t199, .bool t200, .int .u64 0, .int .i64 0]) ?_ 3 _ rfl; (with_reducible repeat (first | refine blk_drewN ?_ _ | refine blk_drew ?_ | refine blk_alloc ?_ _)); refine blk_put (cs := #[.bool t198, .bool t199, .bool false, .int .u64 0, .int .i64 0]) ?_ 2 _ rfl; (with_reducible repeat (first | refine blk_drewN ?_ _ | refine blk_drew ?_ | refine blk_alloc ?_ _)); refine blk_put (cs := #[.bool t198, .bool false, .bool false, .int .u64 0, .int .i64 0]) ?_ 1 _ rfl; (with_reducible repeat (first | refine blk_drewN ?_ _ | refine blk_drew ?_ | refine blk_alloc ?_ _)); refine blk_put (cs := #[.bool false, .bool false, .bool false, .int .u64 0, .int .i64 0]) ?_ 0 _ rfl; (with_reducible repeat (first | refine blk_drewN ?_ _ | refine blk_drew ?_ | refine blk_alloc ?_ _)); exact BK203.out))⟩; have n2_ : Aside0 (Below w.heap.size w w18) := ⟨(by rw [hw]; exact (bw HB.out))⟩; clear hw; clear BK196; clear BK203; clear HB; have BK196 := n0_; have BK203 := n1_; have HB := n2_; clear n0_ n1_ n2_))
   repeat (go_quiet (first | (go_at_call 51; (with_reducible refine (impl_formatOf.calls a0 t193 t194 true _ A5.out).mono ?_); rintro e w11 ⟨rfl, hb⟩; have n0_ := Aside0.mk (below_step (bw HB.out) hb); clear HB; have HB := n0_; clear n0_; (try clear hb); (try clear hb2); (try clear hk); (try clear hi)) | ((with_reducible refine gate_dst (N := 10) rfl ?_); refine box_event ?hg (N := 10) ?hd (cs := #[.int .i64 0, .int .i64 0]) (t := 62) ?hr ?_; (case hd => rfl); (case hg => rfl); (case hr => first | (go_simp; done) | (go_simp; rfl)); intro gb196 hg w12 hbox hb; have n0_ := Aside0.mk (below_step (bw HB.out) hb); have n1_ := Aside0.mk (hbox); have n2_ := Aside0.mk ((by rw [hg]; exact (below_size (bw HB.out)) : w.heap.size ≤ gb196)); have n3_ := Aside0.mk ((by rw [hg]; exact (below_size (bw HB.out)) : w.heap.size ≤ gb196)); clear HB; have HB := n0_; have BK196 := n1_; have GW196 := n2_; have GE196 := n3_; clear n0_ n1_ n2_ n3_; clear hb hbox hg; have hcz13_0 : w12.cell? ⟨gb196, 0, none⟩ = some (.int .i64 0) := (blk_cell BK196.out 0).trans rfl; have hcz13_1 : w12.cell? ⟨gb196, 1, none⟩ = some (.int .i64 0) := (blk_cell BK196.out 1).trans rfl; have hfz13_0 := blk_frozen BK196.out 0; have hfz13_1 := blk_frozen BK196.out 1) | (go_at_call 70; (with_reducible refine (impl_goodBits.calls a2 true _ A7.out).mono ?_); rintro e w' ⟨rfl, ⟨nd, rfl⟩⟩; (try first | exact ⟨rfl, _, World.drewN_drewN _ _ _⟩ | exact ⟨rfl, _, Eq.trans (World.drewN_drewN _ _ _) (congrArg (World.drewN _) (Nat.add_assoc _ _ _))⟩)) | (go_at_call 52; (with_reducible refine (impl_format_open.calls t193 t194 a1 t198 t199 t200 t201 t202 _ A9.out).mono ?_); rintro e w14 ⟨rfl, hb⟩; have n0_ := Aside0.mk (blk_below (g := gb196) (o := .cells #[.int .i64 t193, .int .i64 t194] 62 (0, 0)) (by (with_reducible repeat (first | refine blk_drewN ?_ _ | refine blk_drew ?_ | refine blk_alloc ?_ _)); refine blk_put (cs := #[.int .i64 t193, .int .i64 0]) ?_ 1 _ rfl; (with_reducible repeat (first | refine blk_drewN ?_ _ | refine blk_drew ?_ | refine blk_alloc ?_ _)); refine blk_put (cs := #[.int .i64 0, .int .i64 0]) ?_ 0 _ rfl; (with_reducible repeat (first | refine blk_drewN ?_ _ | refine blk_drew ?_ | refine blk_alloc ?_ _)); exact BK196.out) hb); have n1_ := Aside0.mk (below_step (bw HB.out) hb); clear BK196; clear HB; have BK196 := n0_; have HB := n1_; clear n0_ n1_; (try clear hb); (try clear hb2); (try clear hk); (try clear hi)) | ((with_reducible refine gate_dst (N := 12) rfl ?_); refine box_event ?hg (N := 12) ?hd (cs := #[.bool false, .bool false, .bool false, .int .u64 0, .int .i64 0]) (t := 66) ?hr ?_; (case hd => rfl); (case hg => rfl); (case hr => first | (go_simp; done) | (go_simp; rfl)); intro gb203 hg w15 hbox hb; have n0_ := Aside0.mk (blk_below (g := gb196) (o := .cells #[.int .i64 t193, .int .i64 t194] 62 (0, 0)) (bk BK196.out) hb); have n1_ := Aside0.mk (below_step (bw HB.out) hb); have n2_ := Aside0.mk (hbox); have n3_ := Aside0.mk ((by rw [hg]; exact (below_size (bw HB.out)) : w.heap.size ≤ gb203)); have n4_ := Aside0.mk ((by rw [hg]; exact (below_size (bw HB.out)) : w.heap.size ≤ gb203)); have n5_ := Aside0.mk ((by rw [hg]; exact Nat.ne_of_lt (blk_lt (g := gb196) (o := .cells #[.int .i64 t193, .int .i64 t194] 62 (0, 0)) (bk BK196.out)) : gb196 ≠ gb203)); have n6_ := Aside0.mk ((by rw [hg]; exact Nat.ne_of_gt (blk_lt (g := gb196) (o := .cells #[.int .i64 t193, .int .i64 t194] 62 (0, 0)) (bk BK196.out)) : gb203 ≠ gb196)); clear BK196; clear HB; have BK196 := n0_; have HB := n1_; have BK203 := n2_; have GW203 := n3_; have GE203 := n4_; have NB196_203 := n5_; have NB203_196 := n6_; clear n0_ n1_ n2_ n3_ n4_ n5_ n6_; clear hb hbox hg; have hnb16 := NB203_196.out; have hnc16 := NB196_203.out; have hcz17_0 : w15.cell? ⟨gb203, 0, none⟩ = some (.bool false) := (blk_cell BK203.out 0).trans rfl; have hcz17_1 : w15.cell? ⟨gb203, 1, none⟩ = some (.bool false) := (blk_cell BK203.out 1).trans rfl; have hcz17_2 : w15.cell? ⟨gb203, 2, none⟩ = some (.bool false) := (blk_cell BK203.out 2).trans rfl; have hcz17_3 : w15.cell? ⟨gb203, 3, none⟩ = some (.int .u64 0) := (blk_cell BK203.out 3).trans rfl; have hcz17_4 : w15.cell? ⟨gb203, 4, none⟩ = some (.int .i64 0) := (blk_cell BK203.out 4).trans rfl; have hfz17_0 := blk_frozen BK203.out 0; have hfz17_1 := blk_frozen BK203.out 1; have hfz17_2 := blk_frozen BK203.out 2; have hfz17_3 := blk_frozen BK203.out 3; have hfz17_4 := blk_frozen BK203.out 4) | ((with_reducible refine gate_store (t := 66) (p := 12) rfl ?_); (try (rw [drewN_self w15]; generalize hq_ : World.drewN w15 _ = w15; have n0_ := Aside0.mk (blk_at hq_ BK196.out); have n1_ := Aside0.mk (blk_at hq_ BK203.out); have n2_ := Aside0.mk (below_at hq_ HB.out); clear hq_ BK196 BK203 HB; have BK196 := n0_; have BK203 := n1_; have HB := n2_; clear n0_ n1_ n2_)); refine store_event (t := 66) (p := 12) (v := ?vo_w18) (w1 := (((((w15.setCell ⟨gb203, 0, none⟩ (.bool t198)).setCell ⟨gb203, 1, none⟩ (.bool t199)).setCell ⟨gb203, 2, none⟩ (.bool t200)).setCell ⟨gb203, 3, none⟩ (.int .u64 t201)).setCell ⟨gb203, 4, none⟩ (.int .i64 t202))) ?hg ?ho ?hn ?hr ?_; (case ho => rfl); (case hg => rfl); (case hn => rfl); (case hr => first | (go_simp; done) | (go_simp; rfl)); intro w18 hw; have n0_ : Aside0 (w18.heap[gb196]? = some (.cells #[.int .i64 t193, .int .i64 t194] 62 (0, 0))) := ⟨(by rw [hw]; exact (by (with_reducible repeat (first | refine blk_drewN ?_ _ | refine blk_drew ?_ | refine blk_alloc ?_ _)); refine blk_far ?_ NB196_203.out _; (with_reducible repeat (first | refine blk_drewN ?_ _ | refine blk_drew ?_ | refine blk_alloc ?_ _)); refine blk_far ?_ NB196_203.out _; (with_reducible repeat (first | refine blk_drewN ?_ _ | refine blk_drew ?_ | refine blk_alloc ?_ _)); refine blk_far ?_ NB196_203.out _; (with_reducible repeat (first | refine blk_drewN ?_ _ | refine blk_drew ?_ | refine blk_alloc ?_ _)); refine blk_far ?_ NB196_203.out _; (with_reducible repeat (first | refine blk_drewN ?_ _ | refine blk_drew ?_ | refine blk_alloc ?_ _)); refine blk_far ?_ NB196_203.out _; (with_reducible repeat (first | refine blk_drewN ?_ _ | refine blk_drew ?_ | refine blk_alloc ?_ _)); exact BK196.out))⟩; have n1_ : Aside0 (w18.heap[gb203]? = some (.cells #[.bool t198, .bool t199, .bool t200, .int .u64 t201, .int .i64 t202] 66 (0, 0))) := ⟨(by rw [hw]; exact (by (with_reducible repeat (first | refine blk_drewN ?_ _ | refine blk_drew ?_ | refine blk_alloc ?_ _)); refine blk_put (cs := #[.bool t198, .bool t199, .bool t200, .int .u64 t201, .int .i64 0]) ?_ 4 _ rfl; (with_reducible repeat (first | refine blk_drewN ?_ _ | refine blk_drew ?_ | refine blk_alloc ?_ _)); refine blk_put (cs := #[.bool t198, .bool t199, .bool t200, .int .u64 0, .int .i64 0]) ?_ 3 _ rfl; (with_reducible repeat (first | refine blk_drewN ?_ _ | refine blk_drew ?_ | refine blk_alloc ?_ _)); refine blk_put (cs := #[.bool t198, .bool t199, .bool false, .int .u64 0, .int .i64 0]) ?_ 2 _ rfl; (with_reducible repeat (first | refine blk_drewN ?_ _ | refine blk_drew ?_ | refine blk_alloc ?_ _)); refine blk_put (cs := #[.bool t198, .bool false, .bool false, .int .u64 0, .int .i64 0]) ?_ 1 _ rfl; (with_reducible repeat (first | refine blk_drewN ?_ _ | refine blk_drew ?_ | refine blk_alloc ?_ _)); refine blk_put (cs := #[.bool false, .bool false, .bool false, .int .u64 0, .int .i64 0]) ?_ 0 _ rfl; (with_reducible repeat (first | refine blk_drewN ?_ _ | refine blk_drew ?_ | refine blk_alloc ?_ _)); exact BK203.out))⟩; have n2_ : Aside0 (Below w.heap.size w w18) := ⟨(by rw [hw]; exact (bw HB.out))⟩; clear hw; clear BK196; clear BK203; clear HB; have BK196 := n0_; have BK203 := n1_; have HB := n2_; clear n0_ n1_ n2_)); go_upto_region 7 with (first | (go_at_call 51; (with_reducible refine (impl_formatOf.calls a0 t193 t194 true _ A5.out).mono ?_); rintro e w11 ⟨rfl, hb⟩; have n0_ := Aside0.mk (below_step (bw HB.out) hb); clear HB; have HB := n0_; clear n0_; (try clear hb); (try clear hb2); (try clear hk); (try clear hi)) | ((with_reducible refine gate_dst (N := 10) rfl ?_); refine box_event ?hg (N := 10) ?hd (cs := #[.int .i64 0, .int .i64 0]) (t := 62) ?hr ?_; (case hd => rfl); (case hg => rfl); (case hr => first | (go_simp; done) | (go_simp; rfl)); intro gb196 hg w12 hbox hb; have n0_ := Aside0.mk (below_step (bw HB.out) hb); have n1_ := Aside0.mk (hbox); have n2_ := Aside0.mk ((by rw [hg]; exact (below_size (bw HB.out)) : w.heap.size ≤ gb196)); have n3_ := Aside0.mk ((by rw [hg]; exact (below_size (bw HB.out)) : w.heap.size ≤ gb196)); clear HB; have HB := n0_; have BK196 := n1_; have GW196 := n2_; have GE196 := n3_; clear n0_ n1_ n2_ n3_; clear hb hbox hg; have hcz13_0 : w12.cell? ⟨gb196, 0, none⟩ = some (.int .i64 0) := (blk_cell BK196.out 0).trans rfl; have hcz13_1 : w12.cell? ⟨gb196, 1, none⟩ = some (.int .i64 0) := (blk_cell BK196.out 1).trans rfl; have hfz13_0 := blk_frozen BK196.out 0; have hfz13_1 := blk_frozen BK196.out 1) | (go_at_call 70; (with_reducible refine (impl_goodBits.calls a2 true _ A7.out).mono ?_); rintro e w' ⟨rfl, ⟨nd, rfl⟩⟩; (try first | exact ⟨rfl, _, World.drewN_drewN _ _ _⟩ | exact ⟨rfl, _, Eq.trans (World.drewN_drewN _ _ _) (congrArg (World.drewN _) (Nat.add_assoc _ _ _))⟩)) | (go_at_call 52; (with_reducible refine (impl_format_open.calls t193 t194 a1 t198 t199 t200 t201 t202 _ A9.out).mono ?_); rintro e w14 ⟨rfl, hb⟩; have n0_ := Aside0.mk (blk_below (g := gb196) (o := .cells #[.int .i64 t193, .int .i64 t194] 62 (0, 0)) (by (with_reducible repeat (first | refine blk_drewN ?_ _ | refine blk_drew ?_ | refine blk_alloc ?_ _)); refine blk_put (cs := #[.int .i64 t193, .int .i64 0]) ?_ 1 _ rfl; (with_reducible repeat (first | refine blk_drewN ?_ _ | refine blk_drew ?_ | refine blk_alloc ?_ _)); refine blk_put (cs := #[.int .i64 0, .int .i64 0]) ?_ 0 _ rfl; (with_reducible repeat (first | refine blk_drewN ?_ _ | refine blk_drew ?_ | refine blk_alloc ?_ _)); exact BK196.out) hb); have n1_ := Aside0.mk (below_step (bw HB.out) hb); clear BK196; clear HB; have BK196 := n0_; have HB := n1_; clear n0_ n1_; (try clear hb); (try clear hb2); (try clear hk); (try clear hi)) | ((with_reducible refine gate_dst (N := 12) rfl ?_); refine box_event ?hg (N := 12) ?hd (cs := #[.bool false, .bool false, .bool false, .int .u64 0, .int .i64 0]) (t := 66) ?hr ?_; (case hd => rfl); (case hg => rfl); (case hr => first | (go_simp; done) | (go_simp; rfl)); intro gb203 hg w15 hbox hb; have n0_ := Aside0.mk (blk_below (g := gb196) (o := .cells #[.int .i64 t193, .int .i64 t194] 62 (0, 0)) (bk BK196.out) hb); have n1_ := Aside0.mk (below_step (bw HB.out) hb); have n2_ := Aside0.mk (hbox); have n3_ := Aside0.mk ((by rw [hg]; exact (below_size (bw HB.out)) : w.heap.size ≤ gb203)); have n4_ := Aside0.mk ((by rw [hg]; exact (below_size (bw HB.out)) : w.heap.size ≤ gb203)); have n5_ := Aside0.mk ((by rw [hg]; exact Nat.ne_of_lt (blk_lt (g := gb196) (o := .cells #[.int .i64 t193, .int .i64 t194] 62 (0, 0)) (bk BK196.out)) : gb196 ≠ gb203)); have n6_ := Aside0.mk ((by rw [hg]; exact Nat.ne_of_gt (blk_lt (g := gb196) (o := .cells #[.int .i64 t193, .int .i64 t194] 62 (0, 0)) (bk BK196.out)) : gb203 ≠ gb196)); clear BK196; clear HB; have BK196 := n0_; have HB := n1_; have BK203 := n2_; have GW203 := n3_; have GE203 := n4_; have NB196_203 := n5_; have NB203_196 := n6_; clear n0_ n1_ n2_ n3_ n4_ n5_ n6_; clear hb hbox hg; have hnb16 := NB203_196.out; have hnc16 := NB196_203.out; have hcz17_0 : w15.cell? ⟨gb203, 0, none⟩ = some (.bool false) := (blk_cell BK203.out 0).trans rfl; have hcz17_1 : w15.cell? ⟨gb203, 1, none⟩ = some (.bool false) := (blk_cell BK203.out 1).trans rfl; have hcz17_2 : w15.cell? ⟨gb203, 2, none⟩ = some (.bool false) := (blk_cell BK203.out 2).trans rfl; have hcz17_3 : w15.cell? ⟨gb203, 3, none⟩ = some (.int .u64 0) := (blk_cell BK203.out 3).trans rfl; have hcz17_4 : w15.cell? ⟨gb203, 4, none⟩ = some (.int .i64 0) := (blk_cell BK203.out 4).trans rfl; have hfz17_0 := blk_frozen BK203.out 0; have hfz17_1 := blk_frozen BK203.out 1; have hfz17_2 := blk_frozen BK203.out 2; have hfz17_3 := blk_frozen BK203.out 3; have hfz17_4 := blk_frozen BK203.out 4) | ((with_reducible refine gate_store (t := 66) (p := 12) rfl ?_); (try (rw [drewN_self w15]; generalize hq_ : World.drewN w15 _ = w15; have n0_ := Aside0.mk (blk_at hq_ BK196.out); have n1_ := Aside0.mk (blk_at hq_ BK203.out); have n2_ := Aside0.mk (below_at hq_ HB.out); clear hq_ BK196 BK203 HB; have BK196 := n0_; have BK203 := n1_; have HB := n2_; clear n0_ n1_ n2_)); refine store_event (t := 66) (p := 12) (v := ?vo_w18) (w1 := (((((w15.setCell ⟨gb203, 0, none⟩ (.bool t198)).setCell ⟨gb203, 1, none⟩ (.bool t199)).setCell ⟨gb203, 2, none⟩ (.bool t200)).setCell ⟨gb203, 3, none⟩ (.int .u64 t201)).setCell ⟨gb203, 4, none⟩ (.int .i64 t202))) ?hg ?ho ?hn ?hr ?_; (case ho => rfl); (case hg => rfl); (case hn => rfl); (case hr => first | (go_simp; done) | (go_simp; rfl)); intro w18 hw; have n0_ : Aside0 (w18.heap[gb196]? = some (.cells #[.int .i64 t193, .int .i64 t194] 62 (0, 0))) := ⟨(by rw [hw]; exact (by (with_reducible repeat (first | refine blk_drewN ?_ _ | refine blk_drew ?_ | refine blk_alloc ?_ _)); refine blk_far ?_ NB196_203.out _; (with_reducible repeat (first | refine blk_drewN ?_ _ | refine blk_drew ?_ | refine blk_alloc ?_ _)); refine blk_far ?_ NB196_203.out _; (with_reducible repeat (first | refine blk_drewN ?_ _ | refine blk_drew ?_ | refine blk_alloc ?_ _)); refine blk_far ?_ NB196_203.out _; (with_reducible repeat (first | refine blk_drewN ?_ _ | refine blk_drew ?_ | refine blk_alloc ?_ _)); refine blk_far ?_ NB196_203.out _; (with_reducible repeat (first | refine blk_drewN ?_ _ | refine blk_drew ?_ | refine blk_alloc ?_ _)); refine blk_far ?_ NB196_203.out _; (with_reducible repeat (first | refine blk_drewN ?_ _ | refine blk_drew ?_ | refine blk_alloc ?_ _)); exact BK196.out))⟩; have n1_ : Aside0 (w18.heap[gb203]? = some (.cells #[.bool t198, .bool t199, .bool t200, .int .u64 t201, .int .i64 t202] 66 (0, 0))) := ⟨(by rw [hw]; exact (by (with_reducible repeat (first | refine blk_drewN ?_ _ | refine blk_drew ?_ | refine blk_alloc ?_ _)); refine blk_put (cs := #[.bool t198, .bool t199, .bool t200, .int .u64 t201, .int .i64 0]) ?_ 4 _ rfl; (with_reducible repeat (first | refine blk_drewN ?_ _ | refine blk_drew ?_ | refine blk_alloc ?_ _)); refine blk_put (cs := #[.bool t198, .bool t199, .bool t200, .int .u64 0, .int .i64 0]) ?_ 3 _ rfl; (with_reducible repeat (first | refine blk_drewN ?_ _ | refine blk_drew ?_ | refine blk_alloc ?_ _)); refine blk_put (cs := #[.bool t198, .bool t199, .bool false, .int .u64 0, .int .i64 0]) ?_ 2 _ rfl; (with_reducible repeat (first | refine blk_drewN ?_ _ | refine blk_drew ?_ | refine blk_alloc ?_ _)); refine blk_put (cs := #[.bool t198, .bool false, .bool false, .int .u64 0, .int .i64 0]) ?_ 1 _ rfl; (with_reducible repeat (first | refine blk_drewN ?_ _ | refine blk_drew ?_ | refine blk_alloc ?_ _)); refine blk_put (cs := #[.bool false, .bool false, .bool false, .int .u64 0, .int .i64 0]) ?_ 0 _ rfl; (with_reducible repeat (first | refine blk_drewN ?_ _ | refine blk_drew ?_ | refine blk_alloc ?_ _)); exact BK203.out))⟩; have n2_ : Aside0 (Below w.heap.size w w18) := ⟨(by rw [hw]; exact (bw HB.out))⟩; clear hw; clear BK196; clear BK203; clear HB; have BK196 := n0_; have BK203 := n1_; have HB := n2_; clear n0_ n1_ n2_)))
   (try simp only [Act.put, List.setIfInBounds_toArray, List.set_cons_zero, List.set_cons_succ])
   go_cut [43] (fun v43 wc => ∃ (kq : Nat) (x43_9 : Bool), v43 = .bool x43_9 ∧ Aside0 (impl_FToInt.j0 kq a2 a3 x43_9 t198 t199 t200 t201 t202 = some (r1, r2)) ∧ Aside0 (kq ≤ k) ∧ Aside0 (wc.heap[gb196]? = some (.cells #[.int .i64 t193, .int .i64 t194] 62 (0, 0))) ∧ Aside0 (wc.heap[gb203]? = some (.cells #[.bool t198, .bool t199, .bool t200, .int .u64 t201, .int .i64 t202] 66 (0, 0))) ∧ Aside0 (Below w.heap.size w wc))
   case first =>
    have H := HC10.out
    clear HC10
    by_cases c19 : t199 = true
    ·
     subst c19
     have H1 : (impl_FToInt.j0 k a2 a3 true t198 true t200 t201 t202) = some (r1, r2) := by rw [if_pos rfl] at H; exact H
     clear H
     have H := H1
     clear H1
     have H' := Aside0.mk H
     clear H
     have hnb20 := NB203_196.out
     have hnc20 := NB196_203.out
     have hcz21_0 : w18.cell? ⟨gb203, 0, none⟩ = some (.bool t198) := (blk_cell BK203.out 0).trans rfl
     have hcz21_1 : w18.cell? ⟨gb203, 1, none⟩ = some (.bool true) := (blk_cell BK203.out 1).trans rfl
     have hcz21_2 : w18.cell? ⟨gb203, 2, none⟩ = some (.bool t200) := (blk_cell BK203.out 2).trans rfl
     have hcz21_3 : w18.cell? ⟨gb203, 3, none⟩ = some (.int .u64 t201) := (blk_cell BK203.out 3).trans rfl
     have hcz21_4 : w18.cell? ⟨gb203, 4, none⟩ = some (.int .i64 t202) := (blk_cell BK203.out 4).trans rfl
     have hfz21_0 := blk_frozen BK203.out 0
     have hfz21_1 := blk_frozen BK203.out 1
     have hfz21_2 := blk_frozen BK203.out 2
     have hfz21_3 := blk_frozen BK203.out 3
     have hfz21_4 := blk_frozen BK203.out 4
     go_wp2
     repeat (go_quiet (fail); try go_wp2)
     go_meet
     case rel => exact ⟨_, (true), (by first | rfl | (simp; done) | (simp [*]; done)), H', ⟨by first | omega | exact Nat.le_refl _⟩, ⟨bk BK196.out⟩, ⟨bk BK203.out⟩, ⟨bw HB.out⟩⟩
    ·
     replace c19 := Bool.eq_false_iff.mpr c19
     subst c19
     have H1 : (if t200 = true then (impl_FToInt.j0 k a2 a3 true t198 false t200 t201 t202) else (if t201 = 0 then (impl_FToInt.j0 k a2 a3 false t198 false t200 t201 t202) else (impl_FToInt.j0 k a2 a3 (decide (t202 > 40)) t198 false t200 t201 t202))) = some (r1, r2) := by rw [if_neg (show ¬ (false = true) by decide)] at H; exact H
     clear H
     have H := H1
     clear H1
     by_cases c22 : t200 = true
     ·
      subst c22
      have H1 : (impl_FToInt.j0 k a2 a3 true t198 false true t201 t202) = some (r1, r2) := by rw [if_pos rfl] at H; exact H
      clear H
      have H := H1
      clear H1
      have H' := Aside0.mk H
      clear H
      have hnb23 := NB203_196.out
      have hnc23 := NB196_203.out
      have hcz24_0 : w18.cell? ⟨gb203, 0, none⟩ = some (.bool t198) := (blk_cell BK203.out 0).trans rfl
      have hcz24_1 : w18.cell? ⟨gb203, 1, none⟩ = some (.bool false) := (blk_cell BK203.out 1).trans rfl
      have hcz24_2 : w18.cell? ⟨gb203, 2, none⟩ = some (.bool true) := (blk_cell BK203.out 2).trans rfl
      have hcz24_3 : w18.cell? ⟨gb203, 3, none⟩ = some (.int .u64 t201) := (blk_cell BK203.out 3).trans rfl
      have hcz24_4 : w18.cell? ⟨gb203, 4, none⟩ = some (.int .i64 t202) := (blk_cell BK203.out 4).trans rfl
      have hfz24_0 := blk_frozen BK203.out 0
      have hfz24_1 := blk_frozen BK203.out 1
      have hfz24_2 := blk_frozen BK203.out 2
      have hfz24_3 := blk_frozen BK203.out 3
      have hfz24_4 := blk_frozen BK203.out 4
      go_wp2
      repeat (go_quiet (fail); try go_wp2)
      go_meet
      case rel => exact ⟨_, (true), (by first | rfl | (simp; done) | (simp [*]; done)), H', ⟨by first | omega | exact Nat.le_refl _⟩, ⟨bk BK196.out⟩, ⟨bk BK203.out⟩, ⟨bw HB.out⟩⟩
     ·
      replace c22 := Bool.eq_false_iff.mpr c22
      subst c22
      have H1 : (if t201 = 0 then (impl_FToInt.j0 k a2 a3 false t198 false false t201 t202) else (impl_FToInt.j0 k a2 a3 (decide (t202 > 40)) t198 false false t201 t202)) = some (r1, r2) := by rw [if_neg (show ¬ (false = true) by decide)] at H; exact H
      clear H
      have H := H1
      clear H1
      by_cases c25 : t201 = 0
      ·
       rw [if_pos c25] at H
       have c25b0 : (t201 == 0) = true := beq_iff_eq.mpr c25
       have c25b1 : (t201 != 0) = false := bne_eq_false_iff_eq.mpr c25
       clear c25
       (first | rw [c25b0] | (simp only [i64_w, i32_w]; rw [c25b0]) | skip)
       have H' := Aside0.mk H
       clear H
       have hnb26 := NB203_196.out
       have hnc26 := NB196_203.out
       have hcz27_0 : w18.cell? ⟨gb203, 0, none⟩ = some (.bool t198) := (blk_cell BK203.out 0).trans rfl
       have hcz27_1 : w18.cell? ⟨gb203, 1, none⟩ = some (.bool false) := (blk_cell BK203.out 1).trans rfl
       have hcz27_2 : w18.cell? ⟨gb203, 2, none⟩ = some (.bool false) := (blk_cell BK203.out 2).trans rfl
       have hcz27_3 : w18.cell? ⟨gb203, 3, none⟩ = some (.int .u64 t201) := (blk_cell BK203.out 3).trans rfl
       have hcz27_4 : w18.cell? ⟨gb203, 4, none⟩ = some (.int .i64 t202) := (blk_cell BK203.out 4).trans rfl
       have hfz27_0 := blk_frozen BK203.out 0
       have hfz27_1 := blk_frozen BK203.out 1
       have hfz27_2 := blk_frozen BK203.out 2
       have hfz27_3 := blk_frozen BK203.out 3
       have hfz27_4 := blk_frozen BK203.out 4
       go_wp2
       repeat (go_quiet (fail); try go_wp2)
       go_meet
       case rel => exact ⟨_, (false), (by first | rfl | (simp; done) | (simp [*]; done)), H', ⟨by first | omega | exact Nat.le_refl _⟩, ⟨bk BK196.out⟩, ⟨bk BK203.out⟩, ⟨bw HB.out⟩⟩
      ·
       rw [if_neg c25] at H
       have c25b0 : (t201 == 0) = false := beq_eq_false_iff_ne.mpr c25
       have c25b1 : (t201 != 0) = true := bne_iff_ne.mpr c25
       (first | rw [c25b0] | (simp only [i64_w, i32_w]; rw [c25b0]) | skip)
       have H' := Aside0.mk H
       clear H
       have hnb28 := NB203_196.out
       have hnc28 := NB196_203.out
       have hcz29_0 : w18.cell? ⟨gb203, 0, none⟩ = some (.bool t198) := (blk_cell BK203.out 0).trans rfl
       have hcz29_1 : w18.cell? ⟨gb203, 1, none⟩ = some (.bool false) := (blk_cell BK203.out 1).trans rfl
       have hcz29_2 : w18.cell? ⟨gb203, 2, none⟩ = some (.bool false) := (blk_cell BK203.out 2).trans rfl
       have hcz29_3 : w18.cell? ⟨gb203, 3, none⟩ = some (.int .u64 t201) := (blk_cell BK203.out 3).trans rfl
       have hcz29_4 : w18.cell? ⟨gb203, 4, none⟩ = some (.int .i64 t202) := (blk_cell BK203.out 4).trans rfl
       have hfz29_0 := blk_frozen BK203.out 0
       have hfz29_1 := blk_frozen BK203.out 1
       have hfz29_2 := blk_frozen BK203.out 2
       have hfz29_3 := blk_frozen BK203.out 3
       have hfz29_4 := blk_frozen BK203.out 4
       go_wp2
       repeat (go_quiet (fail); try go_wp2)
       go_meet
       case rel => exact ⟨_, (decide (t202 > 40)), (by first | rfl | (simp; done) | (simp [*]; done)), H', ⟨by first | omega | exact Nat.le_refl _⟩, ⟨bk BK196.out⟩, ⟨bk BK203.out⟩, ⟨bw HB.out⟩⟩
   case rest =>
    clear HC10
    try clear c1
    try clear c2
    try clear p2
    try clear c6
    try clear c8
    try clear c16
    try clear c19
    try clear c20
    try clear c22
    try clear c23
    try clear c25
    try clear c25b0
    try clear c25b1
    try clear c26
    try clear c28
    try clear c29
    try clear hcz13_0 hcz13_1
    try clear hcz17_0 hcz17_1 hcz17_2 hcz17_3 hcz17_4
    try clear hcz21_0 hcz21_1 hcz21_2 hcz21_3 hcz21_4
    try clear hcz24_0 hcz24_1 hcz24_2 hcz24_3 hcz24_4
    try clear hcz27_0 hcz27_1 hcz27_2 hcz27_3 hcz27_4
    try clear hcz29_0 hcz29_1 hcz29_2 hcz29_3 hcz29_4
    try clear hfz13_0 hfz13_1
    try clear hfz17_0 hfz17_1 hfz17_2 hfz17_3 hfz17_4
    try clear hfz21_0 hfz21_1 hfz21_2 hfz21_3 hfz21_4
    try clear hfz24_0 hfz24_1 hfz24_2 hfz24_3 hfz24_4
    try clear hfz27_0 hfz27_1 hfz27_2 hfz27_3 hfz27_4
    try clear hfz29_0 hfz29_1 hfz29_2 hfz29_3 hfz29_4
    obtain ⟨kq, x43_9, rfl, HA, HJ9, BK196, BK203, HB⟩ := hcut
    cases kq with
    | zero => exact absurd HA.out (by simp [impl_FToInt.j0])
    | succ kj9 =>
     have H := HA.out
     clear HA
     simp only [impl_FToInt.j0] at H
     by_cases c30 : x43_9 = true
     ·
      subst c30
      have H1 : (some (0, 2)) = some (r1, r2) := by rw [if_pos rfl] at H; exact H
      clear H
      have H := H1
      clear H1
      simp only [Option.some.injEq, Prod.mk.injEq] at H
      obtain ⟨rfl, rfl⟩ := H
      go_wp2
      repeat (go_quiet (fail); try go_wp2)
      go_ret2
      exact ⟨by first | rfl | (simp [errW_none, errW_some] <;> rfl) | (simp [*, errW_none, errW_some] <;> rfl), bw HB.out⟩
     ·
      replace c30 := Bool.eq_false_iff.mpr c30
      subst c30
      have H1 : (if t202 < 0 then ((impl_whole.f kj9 3 false t201 t202).bind fun t204 => (impl_FToInt.j1 kj9 a2 a3 t204 t198 t199 t200 t201 t202)) else (if 0 ≤ t202 then (impl_FToInt.j1 kj9 a2 a3 (shl .u64 t201 t202) t198 t199 t200 t201 t202) else (none))) = some (r1, r2) := by rw [if_neg (show ¬ (false = true) by decide)] at H; exact H
      clear H
      have H := H1
      clear H1
      have HC31 := Aside0.mk H
      clear H
      have hnb32 := NB203_196.out
      have hnc32 := NB196_203.out
      have hcz33_0 : wc.cell? ⟨gb203, 0, none⟩ = some (.bool t198) := (blk_cell BK203.out 0).trans rfl
      have hcz33_1 : wc.cell? ⟨gb203, 1, none⟩ = some (.bool t199) := (blk_cell BK203.out 1).trans rfl
      have hcz33_2 : wc.cell? ⟨gb203, 2, none⟩ = some (.bool t200) := (blk_cell BK203.out 2).trans rfl
      have hcz33_3 : wc.cell? ⟨gb203, 3, none⟩ = some (.int .u64 t201) := (blk_cell BK203.out 3).trans rfl
      have hcz33_4 : wc.cell? ⟨gb203, 4, none⟩ = some (.int .i64 t202) := (blk_cell BK203.out 4).trans rfl
      have hfz33_0 := blk_frozen BK203.out 0
      have hfz33_1 := blk_frozen BK203.out 1
      have hfz33_2 := blk_frozen BK203.out 2
      have hfz33_3 := blk_frozen BK203.out 3
      have hfz33_4 := blk_frozen BK203.out 4
      go_upto_if 48 with (fail)
      repeat (go_quiet (fail); go_upto_if 48 with (fail))
      go_cut [13] (fun v13 wc => ∃ (kq : Nat) (x13_30 : Int), v13 = .int .u64 x13_30 ∧ Aside0 (impl_FToInt.j1 kq a2 a3 x13_30 t198 t199 t200 t201 t202 = some (r1, r2)) ∧ Aside0 (kq ≤ kj9) ∧ Aside0 (wc.heap[gb196]? = some (.cells #[.int .i64 t193, .int .i64 t194] 62 (0, 0))) ∧ Aside0 (wc.heap[gb203]? = some (.cells #[.bool t198, .bool t199, .bool t200, .int .u64 t201, .int .i64 t202] 66 (0, 0))) ∧ Aside0 (Below w.heap.size w wc))
      case first =>
       have H := HC31.out
       clear HC31
       by_cases c34 : t202 < 0
       ·
        rw [if_pos c34] at H
        have c34b0 : decide (t202 < 0) = true := decide_eq_true c34
        clear c34
        (first | rw [c34b0] | (simp only [i64_w, i32_w]; rw [c34b0]) | skip)
        replace H := Option.bind_eq_some_iff.mp H
        obtain ⟨t204, A350, H⟩ := H
        replace H : (impl_FToInt.j1 kj9 a2 a3 t204 t198 t199 t200 t201 t202) = some (r1, r2) := H
        have A35 := Aside0.mk A350
        clear A350
        have H' := Aside0.mk H
        clear H
        have hnb36 := NB203_196.out
        have hnc36 := NB196_203.out
        have hcz37_0 : wc.cell? ⟨gb203, 0, none⟩ = some (.bool t198) := (blk_cell BK203.out 0).trans rfl
        have hcz37_1 : wc.cell? ⟨gb203, 1, none⟩ = some (.bool t199) := (blk_cell BK203.out 1).trans rfl
        have hcz37_2 : wc.cell? ⟨gb203, 2, none⟩ = some (.bool t200) := (blk_cell BK203.out 2).trans rfl
        have hcz37_3 : wc.cell? ⟨gb203, 3, none⟩ = some (.int .u64 t201) := (blk_cell BK203.out 3).trans rfl
        have hcz37_4 : wc.cell? ⟨gb203, 4, none⟩ = some (.int .i64 t202) := (blk_cell BK203.out 4).trans rfl
        have hfz37_0 := blk_frozen BK203.out 0
        have hfz37_1 := blk_frozen BK203.out 1
        have hfz37_2 := blk_frozen BK203.out 2
        have hfz37_3 := blk_frozen BK203.out 3
        have hfz37_4 := blk_frozen BK203.out 4
        go_wp2_with (first | (go_at_call 65; (with_reducible refine (impl_whole.calls kj9 3 false t201 t202 t204 _ A35.out).mono ?_); rintro e w' ⟨rfl, ⟨nd, rfl⟩⟩; (try first | exact ⟨rfl, _, World.drewN_drewN _ _ _⟩ | exact ⟨rfl, _, Eq.trans (World.drewN_drewN _ _ _) (congrArg (World.drewN _) (Nat.add_assoc _ _ _))⟩)))
        repeat (go_quiet (first | (go_at_call 65; (with_reducible refine (impl_whole.calls kj9 3 false t201 t202 t204 _ A35.out).mono ?_); rintro e w' ⟨rfl, ⟨nd, rfl⟩⟩; (try first | exact ⟨rfl, _, World.drewN_drewN _ _ _⟩ | exact ⟨rfl, _, Eq.trans (World.drewN_drewN _ _ _) (congrArg (World.drewN _) (Nat.add_assoc _ _ _))⟩))); try go_wp2_with (first | (go_at_call 65; (with_reducible refine (impl_whole.calls kj9 3 false t201 t202 t204 _ A35.out).mono ?_); rintro e w' ⟨rfl, ⟨nd, rfl⟩⟩; (try first | exact ⟨rfl, _, World.drewN_drewN _ _ _⟩ | exact ⟨rfl, _, Eq.trans (World.drewN_drewN _ _ _) (congrArg (World.drewN _) (Nat.add_assoc _ _ _))⟩))))
        go_meet
        case rel => exact ⟨_, (t204), (by first | rfl | (simp; done) | (simp [*]; done)), H', ⟨by have := HJ9.out; first | omega | exact Nat.le_refl _⟩, ⟨bk BK196.out⟩, ⟨bk BK203.out⟩, ⟨bw HB.out⟩⟩
       ·
        rw [if_neg c34] at H
        have c34b0 : decide (t202 < 0) = false := decide_eq_false c34
        clear c34
        (first | rw [c34b0] | (simp only [i64_w, i32_w]; rw [c34b0]) | skip)
        by_cases c38 : 0 ≤ t202
        ·
         rw [if_pos c38] at H
         have c38b0 := eq_true c38
         have c38b1 : decide (0 ≤ t202) = true := decide_eq_true c38
         clear c38
         obtain ⟨ji39, hji39⟩ : ∃ j_ : Int, (shl .u64 t201 t202) = j_ := ⟨_, rfl⟩
         replace H : (impl_FToInt.j1 kj9 a2 a3 ji39 t198 t199 t200 t201 t202) = some (r1, r2) := by first | (rw [hji39] at H; exact H) | (simp only [hji39] at H ⊢; exact H)
         have hji39_ : (IntKind.u64.wrap (t201 * 2 ^ min t202.toNat 64)) = ji39 := hji39
         have hji39z : t202 ≤ 64 → (IntKind.u64.wrap (t201 * 2 ^ t202.toNat)) = ji39 := shl_small hji39
         have H' := Aside0.mk H
         clear H
         have hnb40 := NB203_196.out
         have hnc40 := NB196_203.out
         have hcz41_0 : wc.cell? ⟨gb203, 0, none⟩ = some (.bool t198) := (blk_cell BK203.out 0).trans rfl
         have hcz41_1 : wc.cell? ⟨gb203, 1, none⟩ = some (.bool t199) := (blk_cell BK203.out 1).trans rfl
         have hcz41_2 : wc.cell? ⟨gb203, 2, none⟩ = some (.bool t200) := (blk_cell BK203.out 2).trans rfl
         have hcz41_3 : wc.cell? ⟨gb203, 3, none⟩ = some (.int .u64 t201) := (blk_cell BK203.out 3).trans rfl
         have hcz41_4 : wc.cell? ⟨gb203, 4, none⟩ = some (.int .i64 t202) := (blk_cell BK203.out 4).trans rfl
         have hfz41_0 := blk_frozen BK203.out 0
         have hfz41_1 := blk_frozen BK203.out 1
         have hfz41_2 := blk_frozen BK203.out 2
         have hfz41_3 := blk_frozen BK203.out 3
         have hfz41_4 := blk_frozen BK203.out 4
         go_wp2
         repeat (go_quiet (fail); try go_wp2)
         first | go_meet | ((simp only [← hji39]); go_meet)
         case rel => exact ⟨_, (ji39), (by first | rfl | (simp; done) | (simp only [← hji39] <;> (first | rfl | simp)) | (simp [*]; done)), H', ⟨by have := HJ9.out; first | omega | exact Nat.le_refl _⟩, ⟨bk BK196.out⟩, ⟨bk BK203.out⟩, ⟨bw HB.out⟩⟩
        ·
         rw [if_neg c38] at H
         exact absurd H (by simp)
      case rest =>
       clear HC31
       try clear c1
       try clear c2
       try clear p2
       try clear c3
       try clear c4
       try clear c6
       try clear c8
       try clear c16
       try clear c19
       try clear c20
       try clear c22
       try clear c23
       try clear c25
       try clear c25b0
       try clear c25b1
       try clear c26
       try clear c28
       try clear c29
       try clear c30
       try clear c32
       try clear c34
       try clear c34b0
       try clear c36
       try clear c38
       try clear c38b0
       try clear c38b1
       try clear c40
       try clear hcz13_0 hcz13_1
       try clear hcz17_0 hcz17_1 hcz17_2 hcz17_3 hcz17_4
       try clear hcz21_0 hcz21_1 hcz21_2 hcz21_3 hcz21_4
       try clear hcz24_0 hcz24_1 hcz24_2 hcz24_3 hcz24_4
       try clear hcz27_0 hcz27_1 hcz27_2 hcz27_3 hcz27_4
       try clear hcz29_0 hcz29_1 hcz29_2 hcz29_3 hcz29_4
       try clear hcz33_0 hcz33_1 hcz33_2 hcz33_3 hcz33_4
       try clear hcz37_0 hcz37_1 hcz37_2 hcz37_3 hcz37_4
       try clear hcz41_0 hcz41_1 hcz41_2 hcz41_3 hcz41_4
       try clear hfz13_0 hfz13_1
       try clear hfz17_0 hfz17_1 hfz17_2 hfz17_3 hfz17_4
       try clear hfz21_0 hfz21_1 hfz21_2 hfz21_3 hfz21_4
       try clear hfz24_0 hfz24_1 hfz24_2 hfz24_3 hfz24_4
       try clear hfz27_0 hfz27_1 hfz27_2 hfz27_3 hfz27_4
       try clear hfz29_0 hfz29_1 hfz29_2 hfz29_3 hfz29_4
       try clear hfz33_0 hfz33_1 hfz33_2 hfz33_3 hfz33_4
       try clear hfz37_0 hfz37_1 hfz37_2 hfz37_3 hfz37_4
       try clear hfz41_0 hfz41_1 hfz41_2 hfz41_3 hfz41_4
       try clear p2
       obtain ⟨kq, x13_30, rfl, HA, HJ30, BK196, BK203, HB⟩ := hcut
       cases kq with
       | zero => exact absurd HA.out (by simp [impl_FToInt.j1])
       | succ kj30 =>
        have H := HA.out
        clear HA
        simp only [impl_FToInt.j1] at H
        obtain ⟨ji42, hji42⟩ : ∃ j_ : Int, (wrap64 (a2 - 1)) = j_ := ⟨_, rfl⟩
        replace H : (if 0 ≤ (ji42) then (if a3 = true then (impl_FToInt.j2 kj30 a2 a3 x13_30 (IntKind.u64.wrap ((IntKind.u64.wrap ((shl .u64 1 (ji42)) - 1)) + (shl .u64 1 (ji42)))) t198 t198 t199 t200 t201 t202) else (impl_FToInt.j2 kj30 a2 a3 x13_30 (IntKind.u64.wrap ((IntKind.u64.wrap ((shl .u64 1 (ji42)) - 1)) + (shl .u64 1 (ji42)))) false t198 t199 t200 t201 t202)) else (none)) = some (r1, r2) := by first | (rw [hji42] at H; exact H) | (simp only [hji42] at H ⊢; exact H)
        have hji42w : (IntKind.i64.wrap (a2 - 1)) = ji42 := (i64_w _).trans hji42
        by_cases c43 : 0 ≤ (ji42)
        ·
         rw [if_pos c43] at H
         have c43b0 := eq_true c43
         have c43b1 : decide (0 ≤ (ji42)) = true := decide_eq_true c43
         clear c43
         obtain ⟨ji44, hji44⟩ : ∃ j_ : Int, (shl .u64 1 (ji42)) = j_ := ⟨_, rfl⟩
         replace H : (if a3 = true then (impl_FToInt.j2 kj30 a2 a3 x13_30 (IntKind.u64.wrap ((IntKind.u64.wrap ((ji44) - 1)) + (ji44))) t198 t198 t199 t200 t201 t202) else (impl_FToInt.j2 kj30 a2 a3 x13_30 (IntKind.u64.wrap ((IntKind.u64.wrap ((ji44) - 1)) + (ji44))) false t198 t199 t200 t201 t202)) = some (r1, r2) := by first | (rw [hji44] at H; exact H) | (simp only [hji44] at H ⊢; exact H)
         have hji44_ : (IntKind.u64.wrap (1 * 2 ^ min (ji42).toNat 64)) = ji44 := hji44
         have hji44z : (ji42) ≤ 64 → (IntKind.u64.wrap (1 * 2 ^ (ji42).toNat)) = ji44 := shl_small hji44
         have hji44u : (IntKind.u64.wrap (2 ^ min (ji42).toNat 64)) = ji44 := by have h_ := hji44_; rw [Int.one_mul] at h_; exact h_
         have hji44v : (ji42) ≤ 64 → (IntKind.u64.wrap (2 ^ (ji42).toNat)) = ji44 := fun hle_ => by have h_ := hji44z hle_; rw [Int.one_mul] at h_; exact h_
         have c45b0 := eq_true (of_decide_eq_true (by first | (with_reducible assumption) | assumption) : 0 ≤ (ji42))
         have HC46 := Aside0.mk H
         clear H
         go_upto_block 0 with (fail)
         repeat (go_quiet (fail); go_upto_block 0 with (fail))
         go_cut [14] (fun v14 wc => ∃ (kq : Nat) (x14_45 : Int), v14 = .int .u64 x14_45 ∧ Aside0 (impl_FToInt.j3 kq a2 x13_30 x14_45 t198 t199 t200 t201 t202 = some (r1, r2)) ∧ Aside0 (kq ≤ kj30) ∧ Aside0 (wc.heap[gb196]? = some (.cells #[.int .i64 t193, .int .i64 t194] 62 (0, 0))) ∧ Aside0 (wc.heap[gb203]? = some (.cells #[.bool t198, .bool t199, .bool t200, .int .u64 t201, .int .i64 t202] 66 (0, 0))) ∧ Aside0 (Below w.heap.size w wc))
         case first =>
          have H := HC46.out
          clear HC46
          have HC47 := Aside0.mk H
          clear H
          go_upto_region 14 with (fail)
          repeat (go_quiet (fail); go_upto_region 14 with (fail))
          go_cut [67] (fun v67 wc => ∃ (kq : Nat) (x67_46 : Bool), v67 = .bool x67_46 ∧ Aside0 (impl_FToInt.j2 kq a2 a3 x13_30 (IntKind.u64.wrap ((IntKind.u64.wrap ((ji44) - 1)) + (ji44))) x67_46 t198 t199 t200 t201 t202 = some (r1, r2)) ∧ Aside0 (kq ≤ kj30) ∧ Aside0 (wc.heap[gb196]? = some (.cells #[.int .i64 t193, .int .i64 t194] 62 (0, 0))) ∧ Aside0 (wc.heap[gb203]? = some (.cells #[.bool t198, .bool t199, .bool t200, .int .u64 t201, .int .i64 t202] 66 (0, 0))) ∧ Aside0 (Below w.heap.size w wc))
          case first =>
           have H := HC47.out
           clear HC47
           by_cases c48 : a3 = true
           ·
            subst c48
            have H1 : (impl_FToInt.j2 kj30 a2 true x13_30 (IntKind.u64.wrap ((IntKind.u64.wrap ((ji44) - 1)) + (ji44))) t198 t198 t199 t200 t201 t202) = some (r1, r2) := by rw [if_pos rfl] at H; exact H
            clear H
            have H := H1
            clear H1
            have H' := Aside0.mk H
            clear H
            have hnb49 := NB203_196.out
            have hnc49 := NB196_203.out
            have hcz50_0 : wc.cell? ⟨gb203, 0, none⟩ = some (.bool t198) := (blk_cell BK203.out 0).trans rfl
            have hcz50_1 : wc.cell? ⟨gb203, 1, none⟩ = some (.bool t199) := (blk_cell BK203.out 1).trans rfl
            have hcz50_2 : wc.cell? ⟨gb203, 2, none⟩ = some (.bool t200) := (blk_cell BK203.out 2).trans rfl
            have hcz50_3 : wc.cell? ⟨gb203, 3, none⟩ = some (.int .u64 t201) := (blk_cell BK203.out 3).trans rfl
            have hcz50_4 : wc.cell? ⟨gb203, 4, none⟩ = some (.int .i64 t202) := (blk_cell BK203.out 4).trans rfl
            have hfz50_0 := blk_frozen BK203.out 0
            have hfz50_1 := blk_frozen BK203.out 1
            have hfz50_2 := blk_frozen BK203.out 2
            have hfz50_3 := blk_frozen BK203.out 3
            have hfz50_4 := blk_frozen BK203.out 4
            go_wp2
            repeat (go_quiet (fail); try go_wp2)
            first | go_meet | ((simp only [← hji44]); go_meet) | ((simp only [← hji42]); go_meet) | ((simp only [← hji44, ← hji42]); go_meet)
            case rel => exact ⟨_, (t198), (by first | rfl | (simp; done) | (simp [*]; done)), H', ⟨by have := HJ9.out; have := HJ30.out; first | omega | exact Nat.le_refl _⟩, ⟨bk BK196.out⟩, ⟨bk BK203.out⟩, ⟨bw HB.out⟩⟩
           ·
            replace c48 := Bool.eq_false_iff.mpr c48
            subst c48
            have H1 : (impl_FToInt.j2 kj30 a2 false x13_30 (IntKind.u64.wrap ((IntKind.u64.wrap ((ji44) - 1)) + (ji44))) false t198 t199 t200 t201 t202) = some (r1, r2) := by rw [if_neg (show ¬ (false = true) by decide)] at H; exact H
            clear H
            have H := H1
            clear H1
            have H' := Aside0.mk H
            clear H
            go_wp2
            repeat (go_quiet (fail); try go_wp2)
            first | go_meet | ((simp only [← hji44]); go_meet) | ((simp only [← hji42]); go_meet) | ((simp only [← hji44, ← hji42]); go_meet)
            case rel => exact ⟨_, (false), (by first | rfl | (simp; done) | (simp [*]; done)), H', ⟨by have := HJ9.out; have := HJ30.out; first | omega | exact Nat.le_refl _⟩, ⟨bk BK196.out⟩, ⟨bk BK203.out⟩, ⟨bw HB.out⟩⟩
          case rest =>
           clear HC47
           try clear c1
           try clear c2
           try clear p2
           try clear c3
           try clear c4
           try clear c6
           try clear p6
           try clear c8
           try clear c16
           try clear c19
           try clear c20
           try clear c22
           try clear c23
           try clear c25
           try clear c25b0
           try clear c25b1
           try clear c26
           try clear c28
           try clear c29
           try clear c30
           try clear c32
           try clear c34
           try clear c34b0
           try clear c36
           try clear c38
           try clear c38b0
           try clear c38b1
           try clear c40
           try clear c43
           try clear c43b0
           try clear c43b1
           try clear c45
           try clear c45b0
           try clear c48
           try clear c49
           try clear hcz13_0 hcz13_1
           try clear hcz17_0 hcz17_1 hcz17_2 hcz17_3 hcz17_4
           try clear hcz21_0 hcz21_1 hcz21_2 hcz21_3 hcz21_4
           try clear hcz24_0 hcz24_1 hcz24_2 hcz24_3 hcz24_4
           try clear hcz27_0 hcz27_1 hcz27_2 hcz27_3 hcz27_4
           try clear hcz29_0 hcz29_1 hcz29_2 hcz29_3 hcz29_4
           try clear hcz33_0 hcz33_1 hcz33_2 hcz33_3 hcz33_4
           try clear hcz37_0 hcz37_1 hcz37_2 hcz37_3 hcz37_4
           try clear hcz41_0 hcz41_1 hcz41_2 hcz41_3 hcz41_4
           try clear hcz50_0 hcz50_1 hcz50_2 hcz50_3 hcz50_4
           try clear hfz13_0 hfz13_1
           try clear hfz17_0 hfz17_1 hfz17_2 hfz17_3 hfz17_4
           try clear hfz21_0 hfz21_1 hfz21_2 hfz21_3 hfz21_4
           try clear hfz24_0 hfz24_1 hfz24_2 hfz24_3 hfz24_4
           try clear hfz27_0 hfz27_1 hfz27_2 hfz27_3 hfz27_4
           try clear hfz29_0 hfz29_1 hfz29_2 hfz29_3 hfz29_4
           try clear hfz33_0 hfz33_1 hfz33_2 hfz33_3 hfz33_4
           try clear hfz37_0 hfz37_1 hfz37_2 hfz37_3 hfz37_4
           try clear hfz41_0 hfz41_1 hfz41_2 hfz41_3 hfz41_4
           try clear hfz50_0 hfz50_1 hfz50_2 hfz50_3 hfz50_4
           try clear p2
           obtain ⟨kq, x67_46, rfl, HA, HJ46, BK196, BK203, HB⟩ := hcut
           cases kq with
           | zero => exact absurd HA.out (by simp [impl_FToInt.j2])
           | succ kj46 =>
            have H := HA.out
            clear HA
            simp only [impl_FToInt.j2] at H
            by_cases c51 : x67_46 = true
            ·
             subst c51
             have H1 : (if 0 ≤ (wrap64 (a2 - 1)) then (impl_FToInt.j3 kj46 a2 x13_30 (shl .u64 1 (wrap64 (a2 - 1))) t198 t199 t200 t201 t202) else (none)) = some (r1, r2) := by rw [if_pos rfl] at H; exact H
             clear H
             have H := H1
             clear H1
             obtain ⟨ji52, hji52⟩ : ∃ j_ : Int, (wrap64 (a2 - 1)) = j_ := ⟨_, rfl⟩
             replace H : (if 0 ≤ (ji52) then (impl_FToInt.j3 kj46 a2 x13_30 (shl .u64 1 (ji52)) t198 t199 t200 t201 t202) else (none)) = some (r1, r2) := by first | (rw [hji52] at H; exact H) | (simp only [hji52] at H ⊢; exact H)
             have hji52w : (IntKind.i64.wrap (a2 - 1)) = ji52 := (i64_w _).trans hji52
             (try clear hji42w)
             (try clear hji42_)
             (try clear hji42z)
             (try clear hji42u)
             (try clear hji42v)
             (try clear hji42y)
             (try clear hji42x)
             (try clear hji42h)
             (try clear hji42g)
             (try clear hji42l)
             (try clear hji42m)
             (try clear hji42)
             by_cases c53 : 0 ≤ (ji52)
             ·
              rw [if_pos c53] at H
              have c53b0 := eq_true c53
              have c53b1 : decide (0 ≤ (ji52)) = true := decide_eq_true c53
              clear c53
              obtain ⟨ji54, hji54⟩ : ∃ j_ : Int, (shl .u64 1 (ji52)) = j_ := ⟨_, rfl⟩
              replace H : (impl_FToInt.j3 kj46 a2 x13_30 ji54 t198 t199 t200 t201 t202) = some (r1, r2) := by first | (rw [hji54] at H; exact H) | (simp only [hji54] at H ⊢; exact H)
              have hji54_ : (IntKind.u64.wrap (1 * 2 ^ min (ji52).toNat 64)) = ji54 := hji54
              have hji54z : (ji52) ≤ 64 → (IntKind.u64.wrap (1 * 2 ^ (ji52).toNat)) = ji54 := shl_small hji54
              have hji54u : (IntKind.u64.wrap (2 ^ min (ji52).toNat 64)) = ji54 := by have h_ := hji54_; rw [Int.one_mul] at h_; exact h_
              have hji54v : (ji52) ≤ 64 → (IntKind.u64.wrap (2 ^ (ji52).toNat)) = ji54 := fun hle_ => by have h_ := hji54z hle_; rw [Int.one_mul] at h_; exact h_
              have H' := Aside0.mk H
              clear H
              go_wp2
              repeat (go_quiet (fail); try go_wp2)
              first | go_meet | ((simp only [← hji54]); go_meet) | ((simp only [← hji52]); go_meet) | ((simp only [← hji44]); go_meet) | ((simp only [← hji42]); go_meet) | ((simp only [← hji54, ← hji52, ← hji44, ← hji42]); go_meet)
              case rel => exact ⟨_, (ji54), (by first | rfl | (simp; done) | (simp only [← hji54] <;> (first | rfl | simp)) | (simp [*]; done)), H', ⟨by have := HJ9.out; have := HJ30.out; have := HJ46.out; first | omega | exact Nat.le_refl _⟩, ⟨bk BK196.out⟩, ⟨bk BK203.out⟩, ⟨bw HB.out⟩⟩
             ·
              rw [if_neg c53] at H
              exact absurd H (by simp)
            ·
             replace c51 := Bool.eq_false_iff.mpr c51
             subst c51
             have H1 : (if a3 = true then (if 0 ≤ (wrap64 (a2 - 1)) then (impl_FToInt.j3 kj46 a2 x13_30 (IntKind.u64.wrap ((shl .u64 1 (wrap64 (a2 - 1))) - 1)) t198 t199 t200 t201 t202) else (none)) else (if t198 = true then (impl_FToInt.j3 kj46 a2 x13_30 0 t198 t199 t200 t201 t202) else (impl_FToInt.j3 kj46 a2 x13_30 (IntKind.u64.wrap ((IntKind.u64.wrap ((ji44) - 1)) + (ji44))) t198 t199 t200 t201 t202))) = some (r1, r2) := by rw [if_neg (show ¬ (false = true) by decide)] at H; exact H
             clear H
             have H := H1
             clear H1
             by_cases c55 : a3 = true
             ·
              subst c55
              have H1 : (if 0 ≤ (wrap64 (a2 - 1)) then (impl_FToInt.j3 kj46 a2 x13_30 (IntKind.u64.wrap ((shl .u64 1 (wrap64 (a2 - 1))) - 1)) t198 t199 t200 t201 t202) else (none)) = some (r1, r2) := by rw [if_pos rfl] at H; exact H
              clear H
              have H := H1
              clear H1
              obtain ⟨ji56, hji56⟩ : ∃ j_ : Int, (wrap64 (a2 - 1)) = j_ := ⟨_, rfl⟩
              replace H : (if 0 ≤ (ji56) then (impl_FToInt.j3 kj46 a2 x13_30 (IntKind.u64.wrap ((shl .u64 1 (ji56)) - 1)) t198 t199 t200 t201 t202) else (none)) = some (r1, r2) := by first | (rw [hji56] at H; exact H) | (simp only [hji56] at H ⊢; exact H)
              have hji56w : (IntKind.i64.wrap (a2 - 1)) = ji56 := (i64_w _).trans hji56
              (try clear hji42w)
              (try clear hji42_)
              (try clear hji42z)
              (try clear hji42u)
              (try clear hji42v)
              (try clear hji42y)
              (try clear hji42x)
              (try clear hji42h)
              (try clear hji42g)
              (try clear hji42l)
              (try clear hji42m)
              (try clear hji42)
              by_cases c57 : 0 ≤ (ji56)
              ·
               rw [if_pos c57] at H
               have c57b0 := eq_true c57
               have c57b1 : decide (0 ≤ (ji56)) = true := decide_eq_true c57
               clear c57
               obtain ⟨ji58, hji58⟩ : ∃ j_ : Int, (shl .u64 1 (ji56)) = j_ := ⟨_, rfl⟩
               replace H : (impl_FToInt.j3 kj46 a2 x13_30 (IntKind.u64.wrap ((ji58) - 1)) t198 t199 t200 t201 t202) = some (r1, r2) := by first | (rw [hji58] at H; exact H) | (simp only [hji58] at H ⊢; exact H)
               have hji58_ : (IntKind.u64.wrap (1 * 2 ^ min (ji56).toNat 64)) = ji58 := hji58
               have hji58z : (ji56) ≤ 64 → (IntKind.u64.wrap (1 * 2 ^ (ji56).toNat)) = ji58 := shl_small hji58
               have hji58u : (IntKind.u64.wrap (2 ^ min (ji56).toNat 64)) = ji58 := by have h_ := hji58_; rw [Int.one_mul] at h_; exact h_
               have hji58v : (ji56) ≤ 64 → (IntKind.u64.wrap (2 ^ (ji56).toNat)) = ji58 := fun hle_ => by have h_ := hji58z hle_; rw [Int.one_mul] at h_; exact h_
               have H' := Aside0.mk H
               clear H
               go_wp2
               repeat (go_quiet (fail); try go_wp2)
               first | go_meet | ((simp only [← hji58]); go_meet) | ((simp only [← hji56]); go_meet) | ((simp only [← hji44]); go_meet) | ((simp only [← hji42]); go_meet) | ((simp only [← hji58, ← hji56, ← hji44, ← hji42]); go_meet)
               case rel => exact ⟨_, (IntKind.u64.wrap ((ji58) - 1)), (by first | rfl | (simp; done) | (simp only [← hji58] <;> (first | rfl | simp)) | (simp [*]; done)), H', ⟨by have := HJ9.out; have := HJ30.out; have := HJ46.out; first | omega | exact Nat.le_refl _⟩, ⟨bk BK196.out⟩, ⟨bk BK203.out⟩, ⟨bw HB.out⟩⟩
              ·
               rw [if_neg c57] at H
               exact absurd H (by simp)
             ·
              replace c55 := Bool.eq_false_iff.mpr c55
              subst c55
              have H1 : (if t198 = true then (impl_FToInt.j3 kj46 a2 x13_30 0 t198 t199 t200 t201 t202) else (impl_FToInt.j3 kj46 a2 x13_30 (IntKind.u64.wrap ((IntKind.u64.wrap ((ji44) - 1)) + (ji44))) t198 t199 t200 t201 t202)) = some (r1, r2) := by rw [if_neg (show ¬ (false = true) by decide)] at H; exact H
              clear H
              have H := H1
              clear H1
              by_cases c59 : t198 = true
              ·
               subst c59
               have H1 : (impl_FToInt.j3 kj46 a2 x13_30 0 true t199 t200 t201 t202) = some (r1, r2) := by rw [if_pos rfl] at H; exact H
               clear H
               have H := H1
               clear H1
               have H' := Aside0.mk H
               clear H
               have hnb60 := NB203_196.out
               have hnc60 := NB196_203.out
               have hcz61_0 : wc.cell? ⟨gb203, 0, none⟩ = some (.bool true) := (blk_cell BK203.out 0).trans rfl
               have hcz61_1 : wc.cell? ⟨gb203, 1, none⟩ = some (.bool t199) := (blk_cell BK203.out 1).trans rfl
               have hcz61_2 : wc.cell? ⟨gb203, 2, none⟩ = some (.bool t200) := (blk_cell BK203.out 2).trans rfl
               have hcz61_3 : wc.cell? ⟨gb203, 3, none⟩ = some (.int .u64 t201) := (blk_cell BK203.out 3).trans rfl
               have hcz61_4 : wc.cell? ⟨gb203, 4, none⟩ = some (.int .i64 t202) := (blk_cell BK203.out 4).trans rfl
               have hfz61_0 := blk_frozen BK203.out 0
               have hfz61_1 := blk_frozen BK203.out 1
               have hfz61_2 := blk_frozen BK203.out 2
               have hfz61_3 := blk_frozen BK203.out 3
               have hfz61_4 := blk_frozen BK203.out 4
               go_wp2
               repeat (go_quiet (fail); try go_wp2)
               first | go_meet | ((simp only [← hji44]); go_meet) | ((simp only [← hji42]); go_meet) | ((simp only [← hji44, ← hji42]); go_meet)
               case rel => exact ⟨_, (0), (by first | rfl | (simp; done) | (simp [*]; done)), H', ⟨by have := HJ9.out; have := HJ30.out; have := HJ46.out; first | omega | exact Nat.le_refl _⟩, ⟨bk BK196.out⟩, ⟨bk BK203.out⟩, ⟨bw HB.out⟩⟩
              ·
               replace c59 := Bool.eq_false_iff.mpr c59
               subst c59
               have H1 : (impl_FToInt.j3 kj46 a2 x13_30 (IntKind.u64.wrap ((IntKind.u64.wrap ((ji44) - 1)) + (ji44))) false t199 t200 t201 t202) = some (r1, r2) := by rw [if_neg (show ¬ (false = true) by decide)] at H; exact H
               clear H
               have H := H1
               clear H1
               have H' := Aside0.mk H
               clear H
               have hnb62 := NB203_196.out
               have hnc62 := NB196_203.out
               have hcz63_0 : wc.cell? ⟨gb203, 0, none⟩ = some (.bool false) := (blk_cell BK203.out 0).trans rfl
               have hcz63_1 : wc.cell? ⟨gb203, 1, none⟩ = some (.bool t199) := (blk_cell BK203.out 1).trans rfl
               have hcz63_2 : wc.cell? ⟨gb203, 2, none⟩ = some (.bool t200) := (blk_cell BK203.out 2).trans rfl
               have hcz63_3 : wc.cell? ⟨gb203, 3, none⟩ = some (.int .u64 t201) := (blk_cell BK203.out 3).trans rfl
               have hcz63_4 : wc.cell? ⟨gb203, 4, none⟩ = some (.int .i64 t202) := (blk_cell BK203.out 4).trans rfl
               have hfz63_0 := blk_frozen BK203.out 0
               have hfz63_1 := blk_frozen BK203.out 1
               have hfz63_2 := blk_frozen BK203.out 2
               have hfz63_3 := blk_frozen BK203.out 3
               have hfz63_4 := blk_frozen BK203.out 4
               go_wp2
               repeat (go_quiet (fail); try go_wp2)
               first | go_meet | ((simp only [← hji44]); go_meet) | ((simp only [← hji42]); go_meet) | ((simp only [← hji44, ← hji42]); go_meet)
               case rel => exact ⟨_, ((IntKind.u64.wrap ((IntKind.u64.wrap ((ji44) - 1)) + (ji44)))), (by first | rfl | (simp; done) | (simp only [← hji44] <;> (first | rfl | simp)) | (simp [*]; done)), H', ⟨by have := HJ9.out; have := HJ30.out; have := HJ46.out; first | omega | exact Nat.le_refl _⟩, ⟨bk BK196.out⟩, ⟨bk BK203.out⟩, ⟨bw HB.out⟩⟩
         case rest =>
          clear HC46
          try clear c1
          try clear c2
          try clear p2
          try clear c3
          try clear c4
          try clear c5
          try clear c6
          try clear p6
          try clear c8
          try clear c16
          try clear c19
          try clear c20
          try clear c22
          try clear c23
          try clear c25
          try clear c25b0
          try clear c25b1
          try clear c26
          try clear c28
          try clear c29
          try clear c30
          try clear c32
          try clear c34
          try clear c34b0
          try clear c36
          try clear c38
          try clear c38b0
          try clear c38b1
          try clear c40
          try clear c43
          try clear c43b0
          try clear c43b1
          try clear c45
          try clear c45b0
          try clear c48
          try clear c49
          try clear c51
          try clear c53
          try clear c53b0
          try clear c53b1
          try clear c55
          try clear c57
          try clear c57b0
          try clear c57b1
          try clear c59
          try clear c60
          try clear c62
          try clear hcz13_0 hcz13_1
          try clear hcz17_0 hcz17_1 hcz17_2 hcz17_3 hcz17_4
          try clear hcz21_0 hcz21_1 hcz21_2 hcz21_3 hcz21_4
          try clear hcz24_0 hcz24_1 hcz24_2 hcz24_3 hcz24_4
          try clear hcz27_0 hcz27_1 hcz27_2 hcz27_3 hcz27_4
          try clear hcz29_0 hcz29_1 hcz29_2 hcz29_3 hcz29_4
          try clear hcz33_0 hcz33_1 hcz33_2 hcz33_3 hcz33_4
          try clear hcz37_0 hcz37_1 hcz37_2 hcz37_3 hcz37_4
          try clear hcz41_0 hcz41_1 hcz41_2 hcz41_3 hcz41_4
          try clear hcz50_0 hcz50_1 hcz50_2 hcz50_3 hcz50_4
          try clear hcz61_0 hcz61_1 hcz61_2 hcz61_3 hcz61_4
          try clear hcz63_0 hcz63_1 hcz63_2 hcz63_3 hcz63_4
          try clear hfz13_0 hfz13_1
          try clear hfz17_0 hfz17_1 hfz17_2 hfz17_3 hfz17_4
          try clear hfz21_0 hfz21_1 hfz21_2 hfz21_3 hfz21_4
          try clear hfz24_0 hfz24_1 hfz24_2 hfz24_3 hfz24_4
          try clear hfz27_0 hfz27_1 hfz27_2 hfz27_3 hfz27_4
          try clear hfz29_0 hfz29_1 hfz29_2 hfz29_3 hfz29_4
          try clear hfz33_0 hfz33_1 hfz33_2 hfz33_3 hfz33_4
          try clear hfz37_0 hfz37_1 hfz37_2 hfz37_3 hfz37_4
          try clear hfz41_0 hfz41_1 hfz41_2 hfz41_3 hfz41_4
          try clear hfz50_0 hfz50_1 hfz50_2 hfz50_3 hfz50_4
          try clear hfz61_0 hfz61_1 hfz61_2 hfz61_3 hfz61_4
          try clear hfz63_0 hfz63_1 hfz63_2 hfz63_3 hfz63_4
          try clear p2
          try clear p6
          obtain ⟨kq, x14_45, rfl, HA, HJ45, BK196, BK203, HB⟩ := hcut
          cases kq with
          | zero => exact absurd HA.out (by simp [impl_FToInt.j3])
          | succ kj45 =>
           have H := HA.out
           clear HA
           simp only [impl_FToInt.j3] at H
           by_cases c64 : x13_30 > x14_45
           ·
            rw [if_pos c64] at H
            have c64b0 : decide (x14_45 < x13_30) = true := decide_eq_true c64
            clear c64
            simp only [Option.some.injEq, Prod.mk.injEq] at H
            obtain ⟨rfl, rfl⟩ := H
            go_wp2
            repeat (go_quiet (fail); try go_wp2)
            go_ret2
            exact ⟨by first | rfl | (simp [errW_none, errW_some] <;> rfl) | (simp only [← hji42, ← hji44]; first | rfl | (simp [errW_none, errW_some] <;> rfl)) | (simp [*, errW_none, errW_some] <;> rfl), bw HB.out⟩
           ·
            rw [if_neg c64] at H
            have c64b0 : decide (x14_45 < x13_30) = false := decide_eq_false c64
            clear c64
            by_cases c65 : t198 = true
            ·
             subst c65
             have H1 : ((impl_cut.f a2 (IntKind.u64.wrap (-x13_30))).bind fun t205 => (some (t205, 0))) = some (r1, r2) := by rw [if_pos rfl] at H; exact H
             clear H
             have H := H1
             clear H1
             replace H := Option.bind_eq_some_iff.mp H
             obtain ⟨t205, A660, H⟩ := H
             replace H : (some (t205, 0)) = some (r1, r2) := H
             have A66 := Aside0.mk A660
             clear A660
             simp only [Option.some.injEq, Prod.mk.injEq] at H
             obtain ⟨rfl, rfl⟩ := H
             have hnb67 := NB203_196.out
             have hnc67 := NB196_203.out
             have hcz68_0 : wc.cell? ⟨gb203, 0, none⟩ = some (.bool true) := (blk_cell BK203.out 0).trans rfl
             have hcz68_1 : wc.cell? ⟨gb203, 1, none⟩ = some (.bool t199) := (blk_cell BK203.out 1).trans rfl
             have hcz68_2 : wc.cell? ⟨gb203, 2, none⟩ = some (.bool t200) := (blk_cell BK203.out 2).trans rfl
             have hcz68_3 : wc.cell? ⟨gb203, 3, none⟩ = some (.int .u64 t201) := (blk_cell BK203.out 3).trans rfl
             have hcz68_4 : wc.cell? ⟨gb203, 4, none⟩ = some (.int .i64 t202) := (blk_cell BK203.out 4).trans rfl
             have hfz68_0 := blk_frozen BK203.out 0
             have hfz68_1 := blk_frozen BK203.out 1
             have hfz68_2 := blk_frozen BK203.out 2
             have hfz68_3 := blk_frozen BK203.out 3
             have hfz68_4 := blk_frozen BK203.out 4
             go_wp2_with (first | (go_at_call 71; (with_reducible refine (impl_cut.calls a2 (IntKind.u64.wrap (-x13_30)) t205 _ A66.out).mono ?_); rintro e w' ⟨rfl, ⟨nd, rfl⟩⟩; (try first | exact ⟨rfl, _, World.drewN_drewN _ _ _⟩ | exact ⟨rfl, _, Eq.trans (World.drewN_drewN _ _ _) (congrArg (World.drewN _) (Nat.add_assoc _ _ _))⟩)))
             repeat (go_quiet (first | (go_at_call 71; (with_reducible refine (impl_cut.calls a2 (IntKind.u64.wrap (-x13_30)) t205 _ A66.out).mono ?_); rintro e w' ⟨rfl, ⟨nd, rfl⟩⟩; (try first | exact ⟨rfl, _, World.drewN_drewN _ _ _⟩ | exact ⟨rfl, _, Eq.trans (World.drewN_drewN _ _ _) (congrArg (World.drewN _) (Nat.add_assoc _ _ _))⟩))); try go_wp2_with (first | (go_at_call 71; (with_reducible refine (impl_cut.calls a2 (IntKind.u64.wrap (-x13_30)) t205 _ A66.out).mono ?_); rintro e w' ⟨rfl, ⟨nd, rfl⟩⟩; (try first | exact ⟨rfl, _, World.drewN_drewN _ _ _⟩ | exact ⟨rfl, _, Eq.trans (World.drewN_drewN _ _ _) (congrArg (World.drewN _) (Nat.add_assoc _ _ _))⟩))))
             go_ret2
             exact ⟨by first | rfl | (simp [errW_none, errW_some] <;> rfl) | (simp only [← hji42, ← hji44]; first | rfl | (simp [errW_none, errW_some] <;> rfl)) | (simp [*, errW_none, errW_some] <;> rfl), bw HB.out⟩
            ·
             replace c65 := Bool.eq_false_iff.mpr c65
             subst c65
             have H1 : ((impl_cut.f a2 x13_30).bind fun t206 => (some (t206, 0))) = some (r1, r2) := by rw [if_neg (show ¬ (false = true) by decide)] at H; exact H
             clear H
             have H := H1
             clear H1
             replace H := Option.bind_eq_some_iff.mp H
             obtain ⟨t206, A690, H⟩ := H
             replace H : (some (t206, 0)) = some (r1, r2) := H
             have A69 := Aside0.mk A690
             clear A690
             simp only [Option.some.injEq, Prod.mk.injEq] at H
             obtain ⟨rfl, rfl⟩ := H
             have hnb70 := NB203_196.out
             have hnc70 := NB196_203.out
             have hcz71_0 : wc.cell? ⟨gb203, 0, none⟩ = some (.bool false) := (blk_cell BK203.out 0).trans rfl
             have hcz71_1 : wc.cell? ⟨gb203, 1, none⟩ = some (.bool t199) := (blk_cell BK203.out 1).trans rfl
             have hcz71_2 : wc.cell? ⟨gb203, 2, none⟩ = some (.bool t200) := (blk_cell BK203.out 2).trans rfl
             have hcz71_3 : wc.cell? ⟨gb203, 3, none⟩ = some (.int .u64 t201) := (blk_cell BK203.out 3).trans rfl
             have hcz71_4 : wc.cell? ⟨gb203, 4, none⟩ = some (.int .i64 t202) := (blk_cell BK203.out 4).trans rfl
             have hfz71_0 := blk_frozen BK203.out 0
             have hfz71_1 := blk_frozen BK203.out 1
             have hfz71_2 := blk_frozen BK203.out 2
             have hfz71_3 := blk_frozen BK203.out 3
             have hfz71_4 := blk_frozen BK203.out 4
             go_wp2_with (first | (go_at_call 71; (with_reducible refine (impl_cut.calls a2 x13_30 t206 _ A69.out).mono ?_); rintro e w' ⟨rfl, ⟨nd, rfl⟩⟩; (try first | exact ⟨rfl, _, World.drewN_drewN _ _ _⟩ | exact ⟨rfl, _, Eq.trans (World.drewN_drewN _ _ _) (congrArg (World.drewN _) (Nat.add_assoc _ _ _))⟩)))
             repeat (go_quiet (first | (go_at_call 71; (with_reducible refine (impl_cut.calls a2 x13_30 t206 _ A69.out).mono ?_); rintro e w' ⟨rfl, ⟨nd, rfl⟩⟩; (try first | exact ⟨rfl, _, World.drewN_drewN _ _ _⟩ | exact ⟨rfl, _, Eq.trans (World.drewN_drewN _ _ _) (congrArg (World.drewN _) (Nat.add_assoc _ _ _))⟩))); try go_wp2_with (first | (go_at_call 71; (with_reducible refine (impl_cut.calls a2 x13_30 t206 _ A69.out).mono ?_); rintro e w' ⟨rfl, ⟨nd, rfl⟩⟩; (try first | exact ⟨rfl, _, World.drewN_drewN _ _ _⟩ | exact ⟨rfl, _, Eq.trans (World.drewN_drewN _ _ _) (congrArg (World.drewN _) (Nat.add_assoc _ _ _))⟩))))
             go_ret2
             exact ⟨by first | rfl | (simp [errW_none, errW_some] <;> rfl) | (simp only [← hji42, ← hji44]; first | rfl | (simp [errW_none, errW_some] <;> rfl)) | (simp [*, errW_none, errW_some] <;> rfl), bw HB.out⟩
        ·
         rw [if_neg c43] at H
         exact absurd H (by simp)
  ·
   replace c8 := Bool.eq_false_iff.mpr c8
   subst c8
   have H1 : (some (0, 3)) = some (r1, r2) := by rw [if_neg (show ¬ (false = true) by decide)] at H; exact H
   clear H
   have H := H1
   clear H1
   simp only [Option.some.injEq, Prod.mk.injEq] at H
   obtain ⟨rfl, rfl⟩ := H
   go_enter Try.func29, Try.ntmps29
   go_wp2_with (first | (go_at_call 51; (with_reducible refine (impl_formatOf.calls a0 t193 t194 true _ A5.out).mono ?_); rintro e w72 ⟨rfl, hb⟩; have n0_ := Aside0.mk (below_step (bw HB.out) hb); clear HB; have HB := n0_; clear n0_; (try clear hb); (try clear hb2); (try clear hk); (try clear hi)) | ((with_reducible refine gate_dst (N := 10) rfl ?_); refine box_event ?hg (N := 10) ?hd (cs := #[.int .i64 0, .int .i64 0]) (t := 62) ?hr ?_; (case hd => rfl); (case hg => rfl); (case hr => first | (go_simp; done) | (go_simp; rfl)); intro gb196 hg w73 hbox hb; have n0_ := Aside0.mk (below_step (bw HB.out) hb); have n1_ := Aside0.mk (hbox); have n2_ := Aside0.mk ((by rw [hg]; exact (below_size (bw HB.out)) : w.heap.size ≤ gb196)); have n3_ := Aside0.mk ((by rw [hg]; exact (below_size (bw HB.out)) : w.heap.size ≤ gb196)); clear HB; have HB := n0_; have BK196 := n1_; have GW196 := n2_; have GE196 := n3_; clear n0_ n1_ n2_ n3_; clear hb hbox hg; have hcz74_0 : w73.cell? ⟨gb196, 0, none⟩ = some (.int .i64 0) := (blk_cell BK196.out 0).trans rfl; have hcz74_1 : w73.cell? ⟨gb196, 1, none⟩ = some (.int .i64 0) := (blk_cell BK196.out 1).trans rfl; have hfz74_0 := blk_frozen BK196.out 0; have hfz74_1 := blk_frozen BK196.out 1) | (go_at_call 70; (with_reducible refine (impl_goodBits.calls a2 false _ A7.out).mono ?_); rintro e w' ⟨rfl, ⟨nd, rfl⟩⟩; (try first | exact ⟨rfl, _, World.drewN_drewN _ _ _⟩ | exact ⟨rfl, _, Eq.trans (World.drewN_drewN _ _ _) (congrArg (World.drewN _) (Nat.add_assoc _ _ _))⟩)))
   repeat (go_quiet (first | (go_at_call 51; (with_reducible refine (impl_formatOf.calls a0 t193 t194 true _ A5.out).mono ?_); rintro e w72 ⟨rfl, hb⟩; have n0_ := Aside0.mk (below_step (bw HB.out) hb); clear HB; have HB := n0_; clear n0_; (try clear hb); (try clear hb2); (try clear hk); (try clear hi)) | ((with_reducible refine gate_dst (N := 10) rfl ?_); refine box_event ?hg (N := 10) ?hd (cs := #[.int .i64 0, .int .i64 0]) (t := 62) ?hr ?_; (case hd => rfl); (case hg => rfl); (case hr => first | (go_simp; done) | (go_simp; rfl)); intro gb196 hg w73 hbox hb; have n0_ := Aside0.mk (below_step (bw HB.out) hb); have n1_ := Aside0.mk (hbox); have n2_ := Aside0.mk ((by rw [hg]; exact (below_size (bw HB.out)) : w.heap.size ≤ gb196)); have n3_ := Aside0.mk ((by rw [hg]; exact (below_size (bw HB.out)) : w.heap.size ≤ gb196)); clear HB; have HB := n0_; have BK196 := n1_; have GW196 := n2_; have GE196 := n3_; clear n0_ n1_ n2_ n3_; clear hb hbox hg; have hcz74_0 : w73.cell? ⟨gb196, 0, none⟩ = some (.int .i64 0) := (blk_cell BK196.out 0).trans rfl; have hcz74_1 : w73.cell? ⟨gb196, 1, none⟩ = some (.int .i64 0) := (blk_cell BK196.out 1).trans rfl; have hfz74_0 := blk_frozen BK196.out 0; have hfz74_1 := blk_frozen BK196.out 1) | (go_at_call 70; (with_reducible refine (impl_goodBits.calls a2 false _ A7.out).mono ?_); rintro e w' ⟨rfl, ⟨nd, rfl⟩⟩; (try first | exact ⟨rfl, _, World.drewN_drewN _ _ _⟩ | exact ⟨rfl, _, Eq.trans (World.drewN_drewN _ _ _) (congrArg (World.drewN _) (Nat.add_assoc _ _ _))⟩))); try go_wp2_with (first | (go_at_call 51; (with_reducible refine (impl_formatOf.calls a0 t193 t194 true _ A5.out).mono ?_); rintro e w72 ⟨rfl, hb⟩; have n0_ := Aside0.mk (below_step (bw HB.out) hb); clear HB; have HB := n0_; clear n0_; (try clear hb); (try clear hb2); (try clear hk); (try clear hi)) | ((with_reducible refine gate_dst (N := 10) rfl ?_); refine box_event ?hg (N := 10) ?hd (cs := #[.int .i64 0, .int .i64 0]) (t := 62) ?hr ?_; (case hd => rfl); (case hg => rfl); (case hr => first | (go_simp; done) | (go_simp; rfl)); intro gb196 hg w73 hbox hb; have n0_ := Aside0.mk (below_step (bw HB.out) hb); have n1_ := Aside0.mk (hbox); have n2_ := Aside0.mk ((by rw [hg]; exact (below_size (bw HB.out)) : w.heap.size ≤ gb196)); have n3_ := Aside0.mk ((by rw [hg]; exact (below_size (bw HB.out)) : w.heap.size ≤ gb196)); clear HB; have HB := n0_; have BK196 := n1_; have GW196 := n2_; have GE196 := n3_; clear n0_ n1_ n2_ n3_; clear hb hbox hg; have hcz74_0 : w73.cell? ⟨gb196, 0, none⟩ = some (.int .i64 0) := (blk_cell BK196.out 0).trans rfl; have hcz74_1 : w73.cell? ⟨gb196, 1, none⟩ = some (.int .i64 0) := (blk_cell BK196.out 1).trans rfl; have hfz74_0 := blk_frozen BK196.out 0; have hfz74_1 := blk_frozen BK196.out 1) | (go_at_call 70; (with_reducible refine (impl_goodBits.calls a2 false _ A7.out).mono ?_); rintro e w' ⟨rfl, ⟨nd, rfl⟩⟩; (try first | exact ⟨rfl, _, World.drewN_drewN _ _ _⟩ | exact ⟨rfl, _, Eq.trans (World.drewN_drewN _ _ _) (congrArg (World.drewN _) (Nat.add_assoc _ _ _))⟩))))
   go_ret2
   exact ⟨by first | rfl | (simp [errW_none, errW_some] <;> rfl) | (simp [*, errW_none, errW_some] <;> rfl), bw HB.out⟩
 ·
  replace c6 := Bool.eq_false_iff.mpr c6
  subst c6
  have H1 : (some (0, 0)) = some (r1, r2) := by rw [if_neg (show ¬ (false = true) by decide)] at H; exact H
  clear H
  have H := H1
  clear H1
  simp only [Option.some.injEq, Prod.mk.injEq] at H
  obtain ⟨rfl, rfl⟩ := H
  go_enter Try.func29, Try.ntmps29
  go_wp2_with (first | (go_at_call 51; (with_reducible refine (impl_formatOf.calls a0 t193 t194 false _ A5.out).mono ?_); rintro e w75 ⟨rfl, hb⟩; have n0_ := Aside0.mk (below_step (bw HB.out) hb); clear HB; have HB := n0_; clear n0_; (try clear hb); (try clear hb2); (try clear hk); (try clear hi)) | ((with_reducible refine gate_dst (N := 10) rfl ?_); refine box_event ?hg (N := 10) ?hd (cs := #[.int .i64 0, .int .i64 0]) (t := 62) ?hr ?_; (case hd => rfl); (case hg => rfl); (case hr => first | (go_simp; done) | (go_simp; rfl)); intro gb196 hg w76 hbox hb; have n0_ := Aside0.mk (below_step (bw HB.out) hb); have n1_ := Aside0.mk (hbox); have n2_ := Aside0.mk ((by rw [hg]; exact (below_size (bw HB.out)) : w.heap.size ≤ gb196)); have n3_ := Aside0.mk ((by rw [hg]; exact (below_size (bw HB.out)) : w.heap.size ≤ gb196)); clear HB; have HB := n0_; have BK196 := n1_; have GW196 := n2_; have GE196 := n3_; clear n0_ n1_ n2_ n3_; clear hb hbox hg; have hcz77_0 : w76.cell? ⟨gb196, 0, none⟩ = some (.int .i64 0) := (blk_cell BK196.out 0).trans rfl; have hcz77_1 : w76.cell? ⟨gb196, 1, none⟩ = some (.int .i64 0) := (blk_cell BK196.out 1).trans rfl; have hfz77_0 := blk_frozen BK196.out 0; have hfz77_1 := blk_frozen BK196.out 1))
  repeat (go_quiet (first | (go_at_call 51; (with_reducible refine (impl_formatOf.calls a0 t193 t194 false _ A5.out).mono ?_); rintro e w75 ⟨rfl, hb⟩; have n0_ := Aside0.mk (below_step (bw HB.out) hb); clear HB; have HB := n0_; clear n0_; (try clear hb); (try clear hb2); (try clear hk); (try clear hi)) | ((with_reducible refine gate_dst (N := 10) rfl ?_); refine box_event ?hg (N := 10) ?hd (cs := #[.int .i64 0, .int .i64 0]) (t := 62) ?hr ?_; (case hd => rfl); (case hg => rfl); (case hr => first | (go_simp; done) | (go_simp; rfl)); intro gb196 hg w76 hbox hb; have n0_ := Aside0.mk (below_step (bw HB.out) hb); have n1_ := Aside0.mk (hbox); have n2_ := Aside0.mk ((by rw [hg]; exact (below_size (bw HB.out)) : w.heap.size ≤ gb196)); have n3_ := Aside0.mk ((by rw [hg]; exact (below_size (bw HB.out)) : w.heap.size ≤ gb196)); clear HB; have HB := n0_; have BK196 := n1_; have GW196 := n2_; have GE196 := n3_; clear n0_ n1_ n2_ n3_; clear hb hbox hg; have hcz77_0 : w76.cell? ⟨gb196, 0, none⟩ = some (.int .i64 0) := (blk_cell BK196.out 0).trans rfl; have hcz77_1 : w76.cell? ⟨gb196, 1, none⟩ = some (.int .i64 0) := (blk_cell BK196.out 1).trans rfl; have hfz77_0 := blk_frozen BK196.out 0; have hfz77_1 := blk_frozen BK196.out 1)); try go_wp2_with (first | (go_at_call 51; (with_reducible refine (impl_formatOf.calls a0 t193 t194 false _ A5.out).mono ?_); rintro e w75 ⟨rfl, hb⟩; have n0_ := Aside0.mk (below_step (bw HB.out) hb); clear HB; have HB := n0_; clear n0_; (try clear hb); (try clear hb2); (try clear hk); (try clear hi)) | ((with_reducible refine gate_dst (N := 10) rfl ?_); refine box_event ?hg (N := 10) ?hd (cs := #[.int .i64 0, .int .i64 0]) (t := 62) ?hr ?_; (case hd => rfl); (case hg => rfl); (case hr => first | (go_simp; done) | (go_simp; rfl)); intro gb196 hg w76 hbox hb; have n0_ := Aside0.mk (below_step (bw HB.out) hb); have n1_ := Aside0.mk (hbox); have n2_ := Aside0.mk ((by rw [hg]; exact (below_size (bw HB.out)) : w.heap.size ≤ gb196)); have n3_ := Aside0.mk ((by rw [hg]; exact (below_size (bw HB.out)) : w.heap.size ≤ gb196)); clear HB; have HB := n0_; have BK196 := n1_; have GW196 := n2_; have GE196 := n3_; clear n0_ n1_ n2_ n3_; clear hb hbox hg; have hcz77_0 : w76.cell? ⟨gb196, 0, none⟩ = some (.int .i64 0) := (blk_cell BK196.out 0).trans rfl; have hcz77_1 : w76.cell? ⟨gb196, 1, none⟩ = some (.int .i64 0) := (blk_cell BK196.out 1).trans rfl; have hfz77_0 := blk_frozen BK196.out 0; have hfz77_1 := blk_frozen BK196.out 1)))
  go_ret2
  exact ⟨by first | rfl | (simp [errW_none, errW_some] <;> rfl) | (simp [*, errW_none, errW_some] <;> rfl), bw HB.out⟩

end Go.Proofs.Ytdeogandkgiggaa.Q

namespace Go.Proofs.Ytdeogandkgiggaa.Q
open Go.RowKit Go.Proofs.YtdeogandkgiggaaW.PrintWords Go.Proofs.YtdeogandkgiggaaW.PrintLast Go.Proofs.YtdeogandkgiggaaW.PrintMore
attribute [local go_sem] max2_int min2_int max_two min_two max_three min_three max_four min_four   -- for this text's walks alone
set_option linter.unusedVariables false
set_option linter.unusedSimpArgs false

/-! ### spec_l3Bits: function 68 -/
def spec_l3Bits.f (a0 : Int) : Option (Bool) := if a0 = 32 then (some true) else (some (a0 == 64))
set_option maxHeartbeats 8000000 in
set_option maxRecDepth 100000 in
theorem spec_l3Bits.calls (a0 : Int) (r : Bool) (w : World) (h : spec_l3Bits.f a0 = some r) :
  Calls Try.prog 68 #[.int .i64 a0] w fun e w' => e = .returned (.bool r) ∧ Drawn0 w w' := by
 have H : (if a0 = 32 then (some true) else (some (a0 == 64))) = some r := h
 clear h
 by_cases c2 : a0 = 32
 ·
  rw [if_pos c2] at H
  have c2b0 : (a0 == 32) = true := beq_iff_eq.mpr c2
  have c2b1 : (a0 != 32) = false := bne_eq_false_iff_eq.mpr c2
  clear c2
  obtain rfl := Option.some.inj H
  simp only [Option.some.injEq, Prod.mk.injEq] at H
  obtain ⟨rfl⟩ := H
  go_enter Try.func68, Try.ntmps68
  go_wp2
  go_ret
  exact ⟨by first | rfl | (simp; done) | (simp [*]; done), by repeat (first | exact Drawn0.refl _ | apply Drawn0.step)⟩
 ·
  rw [if_neg c2] at H
  have c2b0 : (a0 == 32) = false := beq_eq_false_iff_ne.mpr c2
  have c2b1 : (a0 != 32) = true := bne_iff_ne.mpr c2
  obtain rfl := Option.some.inj H
  simp only [Option.some.injEq, Prod.mk.injEq] at H
  obtain ⟨rfl⟩ := H
  go_enter Try.func68, Try.ntmps68
  go_wp2
  go_ret
  exact ⟨by first | rfl | (simp; done) | (simp [*]; done), by repeat (first | exact Drawn0.refl _ | apply Drawn0.step)⟩

end Go.Proofs.Ytdeogandkgiggaa.Q

