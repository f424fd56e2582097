-- Written by a program of this session; it walks the functions that the law reaches.
import Derived.Test.YtdeogandkgiggaaQx0
import Derived.Test.YtdeogandkgiggaaQx11
namespace Go.Proofs.Ytdeogandkgiggaa.Q
open Go.RowKit Go.Proofs.YtdeogandkgiggaaW.PrintWords Go.Proofs.YtdeogandkgiggaaW.PrintLast Go.Proofs.YtdeogandkgiggaaW.PrintMore
attribute [local go_sem] max2_int min2_int max_two min_two max_three min_three max_four min_four   -- for this text's walks alone
set_option linter.unusedVariables false
set_option linter.unusedSimpArgs false

/-! ### impl_format_sum: function 67 -/
mutual
def impl_format_sum.j0 : Nat → Int → Int → Bool → Bool → Bool → Int → Int → Bool → Bool → Bool → Int → Int → Option (Int)
 | 0, _, _, _, _, _, _, _, _, _, _, _, _ => none
 | k + 1, x404000, x404001, x405000, x405001, x405002, x405003, x405004, x406000, x406001, x406002, x406003, x406004 => if (wrap64 (x405004 - x406004)) ≤ 35 then (if 0 ≤ (wrap64 (x405004 - x406004)) then (if (x405000 == x406000) = true then ((impl_format_round.f k x404000 x404001 x405000 (IntKind.u64.wrap ((shl .u64 x405003 (wrap64 (x405004 - x406004))) + x406003)) x406004 false).bind fun t406 => (some t406)) else (if (shl .u64 x405003 (wrap64 (x405004 - x406004))) > x406003 then ((impl_format_round.f k x404000 x404001 x405000 (IntKind.u64.wrap ((shl .u64 x405003 (wrap64 (x405004 - x406004))) - x406003)) x406004 false).bind fun t407 => (some t407)) else (if (shl .u64 x405003 (wrap64 (x405004 - x406004))) < x406003 then ((impl_format_round.f k x404000 x404001 x406000 (IntKind.u64.wrap (x406003 - (shl .u64 x405003 (wrap64 (x405004 - x406004))))) x406004 false).bind fun t408 => (some t408)) else (some 0)))) else (none)) else (if (wrap64 ((wrap64 (x405004 - x406004)) - 35)) < 64 then (if 0 ≤ (wrap64 ((wrap64 (x405004 - x406004)) - 35)) then (impl_format_sum.j1 k (IntKind.u64.wrap (x405003 * 34359738368)) (shr .u64 x406003 (wrap64 ((wrap64 (x405004 - x406004)) - 35))) ((shl .u64 (shr .u64 x406003 (wrap64 ((wrap64 (x405004 - x406004)) - 35))) (wrap64 ((wrap64 (x405004 - x406004)) - 35))) != x406003) x404000 x404001 x405000 x405001 x405002 x405003 x405004 x406000 x406001 x406002 x406003 x406004) else (none)) else (impl_format_sum.j1 k (IntKind.u64.wrap (x405003 * 34359738368)) 0 (x406003 != 0) x404000 x404001 x405000 x405001 x405002 x405003 x405004 x406000 x406001 x406002 x406003 x406004))
def impl_format_sum.j1 : Nat → Int → Int → Bool → Int → Int → Bool → Bool → Bool → Int → Int → Bool → Bool → Bool → Int → Int → Option (Int)
 | 0, _, _, _, _, _, _, _, _, _, _, _, _, _, _, _ => none
 | k + 1, x8, x10, x11, x404000, x404001, x405000, x405001, x405002, x405003, x405004, x406000, x406001, x406002, x406003, x406004 => if (x405000 == x406000) = true then ((impl_format_round.f k x404000 x404001 x405000 (IntKind.u64.wrap (x8 + x10)) (wrap64 (x405004 - 35)) x11).bind fun t409 => (some t409)) else (if x11 = true then ((impl_format_round.f k x404000 x404001 x405000 (IntKind.u64.wrap ((IntKind.u64.wrap (x8 - x10)) - 1)) (wrap64 (x405004 - 35)) x11).bind fun t410 => (some t410)) else ((impl_format_round.f k x404000 x404001 x405000 (IntKind.u64.wrap (x8 - x10)) (wrap64 (x405004 - 35)) x11).bind fun t411 => (some t411)))
end
def impl_format_sum.f (k : Nat) (a0_0 : Int) (a0_1 : Int) (a1_0 : Bool) (a1_1 : Bool) (a1_2 : Bool) (a1_3 : Int) (a1_4 : Int) (a2_0 : Bool) (a2_1 : Bool) (a2_2 : Bool) (a2_3 : Int) (a2_4 : Int) : Option (Int) := if a1_4 < a2_4 then (impl_format_sum.j0 k a0_0 a0_1 a2_0 a2_1 a2_2 a2_3 a2_4 a1_0 a1_1 a1_2 a1_3 a1_4) else (impl_format_sum.j0 k a0_0 a0_1 a1_0 a1_1 a1_2 a1_3 a1_4 a2_0 a2_1 a2_2 a2_3 a2_4)
theorem impl_format_sum.mono_l : ∀ k, (∀ y0 y1 y2 y3 y4 y5 y6 y7 y8 y9 y10 y11, LeO (impl_format_sum.j0 k y0 y1 y2 y3 y4 y5 y6 y7 y8 y9 y10 y11) (impl_format_sum.j0 (k + 1) y0 y1 y2 y3 y4 y5 y6 y7 y8 y9 y10 y11)) ∧ (∀ y0 y1 y2 y3 y4 y5 y6 y7 y8 y9 y10 y11 y12 y13 y14, LeO (impl_format_sum.j1 k y0 y1 y2 y3 y4 y5 y6 y7 y8 y9 y10 y11 y12 y13 y14) (impl_format_sum.j1 (k + 1) y0 y1 y2 y3 y4 y5 y6 y7 y8 y9 y10 y11 y12 y13 y14))
 | 0 => ⟨fun _ _ _ _ _ _ _ _ _ _ _ _ r h => by simp [impl_format_sum.j0] at h, fun _ _ _ _ _ _ _ _ _ _ _ _ _ _ _ r h => by simp [impl_format_sum.j1] at h⟩
 | k + 1 => by
  obtain ⟨ih0, ih1⟩ := impl_format_sum.mono_l k
  refine ⟨?_, ?_⟩
  ·
   intro y0 y1 y2 y3 y4 y5 y6 y7 y8 y9 y10 y11
   unfold impl_format_sum.j0
   repeat' first
   | (with_reducible exact ih0 _ _ _ _ _ _ _ _ _ _ _ _)
   | (with_reducible exact ih1 _ _ _ _ _ _ _ _ _ _ _ _ _ _ _)
   | (with_reducible exact impl_format_round.mono _ _ _ _ _ _ _)
   | (with_reducible exact LeO.refl _)
   | (with_reducible exact LeO.none _)
   | (with_reducible refine LeO.ite ?_ ?_)
   | (with_reducible refine LeO.bind ?_ (fun _ => ?_))
   | exact ih0 _ _ _ _ _ _ _ _ _ _ _ _
   | exact ih1 _ _ _ _ _ _ _ _ _ _ _ _ _ _ _
   | exact impl_format_round.mono _ _ _ _ _ _ _
   | exact LeO.none _
   | refine LeO.ite ?_ ?_
   | refine LeO.bind ?_ (fun _ => ?_)
  ·
   intro y0 y1 y2 y3 y4 y5 y6 y7 y8 y9 y10 y11 y12 y13 y14
   unfold impl_format_sum.j1
   repeat' first
   | (with_reducible exact ih0 _ _ _ _ _ _ _ _ _ _ _ _)
   | (with_reducible exact ih1 _ _ _ _ _ _ _ _ _ _ _ _ _ _ _)
   | (with_reducible exact impl_format_round.mono _ _ _ _ _ _ _)
   | (with_reducible exact LeO.refl _)
   | (with_reducible exact LeO.none _)
   | (with_reducible refine LeO.ite ?_ ?_)
   | (with_reducible refine LeO.bind ?_ (fun _ => ?_))
   | exact ih0 _ _ _ _ _ _ _ _ _ _ _ _
   | exact ih1 _ _ _ _ _ _ _ _ _ _ _ _ _ _ _
   | exact impl_format_round.mono _ _ _ _ _ _ _
   | exact LeO.none _
   | refine LeO.ite ?_ ?_
   | refine LeO.bind ?_ (fun _ => ?_)
theorem impl_format_sum.mono : ∀ a0 a1 a2 a3 a4 a5 a6 a7 a8 a9 a10 a11 k, LeO (impl_format_sum.f k a0 a1 a2 a3 a4 a5 a6 a7 a8 a9 a10 a11) (impl_format_sum.f (k + 1) a0 a1 a2 a3 a4 a5 a6 a7 a8 a9 a10 a11) := by
 intro a0 a1 a2 a3 a4 a5 a6 a7 a8 a9 a10 a11 k
 obtain ⟨ih0, ih1⟩ := impl_format_sum.mono_l k
 unfold impl_format_sum.f
 repeat' first
   | (with_reducible exact ih0 _ _ _ _ _ _ _ _ _ _ _ _)
   | (with_reducible exact ih1 _ _ _ _ _ _ _ _ _ _ _ _ _ _ _)
   | (with_reducible exact impl_format_round.mono _ _ _ _ _ _ _)
   | (with_reducible exact LeO.refl _)
   | (with_reducible exact LeO.none _)
   | (with_reducible refine LeO.ite ?_ ?_)
   | (with_reducible refine LeO.bind ?_ (fun _ => ?_))
   | exact ih0 _ _ _ _ _ _ _ _ _ _ _ _
   | exact ih1 _ _ _ _ _ _ _ _ _ _ _ _ _ _ _
   | exact impl_format_round.mono _ _ _ _ _ _ _
   | exact LeO.none _
   | refine LeO.ite ?_ ?_
   | refine LeO.bind ?_ (fun _ => ?_)
set_option maxHeartbeats 8000000 in
set_option maxRecDepth 100000 in
theorem impl_format_sum.calls (k : Nat) (a0_0 : Int) (a0_1 : Int) (a1_0 : Bool) (a1_1 : Bool) (a1_2 : Bool) (a1_3 : Int) (a1_4 : Int) (a2_0 : Bool) (a2_1 : Bool) (a2_2 : Bool) (a2_3 : Int) (a2_4 : Int) (r : Int) (w : World) (h : impl_format_sum.f k a0_0 a0_1 a1_0 a1_1 a1_2 a1_3 a1_4 a2_0 a2_1 a2_2 a2_3 a2_4 = some r) :
  Calls Try.prog 67 #[.agg #[.int .i64 a0_0, .int .i64 a0_1], .agg #[.bool a1_0, .bool a1_1, .bool a1_2, .int .u64 a1_3, .int .i64 a1_4], .agg #[.bool a2_0, .bool a2_1, .bool a2_2, .int .u64 a2_3, .int .i64 a2_4]] w fun e w' => e = .returned (.int .u32 r) ∧ Below w.heap.size w w' := by
 have hu62 := Try.underlying62
 have hu66 := Try.underlying66
 have HB := Aside0.mk (Below.refl w.heap.size w)
 have H : (if a1_4 < a2_4 then (impl_format_sum.j0 k a0_0 a0_1 a2_0 a2_1 a2_2 a2_3 a2_4 a1_0 a1_1 a1_2 a1_3 a1_4) else (impl_format_sum.j0 k a0_0 a0_1 a1_0 a1_1 a1_2 a1_3 a1_4 a2_0 a2_1 a2_2 a2_3 a2_4)) = some r := h
 clear h
 have HC4 := Aside0.mk H
 clear H
 go_enter Try.func67, Try.ntmps67
 go_upto_if 16 with (first | ((with_reducible refine gate_dst (N := 3) rfl ?_); refine box_event ?hg (N := 3) ?hd (cs := #[.int .i64 a0_0, .int .i64 a0_1]) (t := 62) ?hr ?_; (case hd => rfl); (case hg => rfl); (case hr => first | (go_simp; done) | (go_simp; rfl)); intro gb403 hg w5 hbox hb; have n0_ := Aside0.mk (below_step (by repeat (first | (with_reducible first | exact HB.out | apply below_alloc | apply pw_below_drewN | apply below_drew1) | exact HB.out)) hb); have n1_ := Aside0.mk (hbox); have n2_ := Aside0.mk ((by rw [hg]; exact (below_size (by repeat (first | (with_reducible first | exact HB.out | apply below_alloc | apply pw_below_drewN | apply below_drew1) | exact HB.out))) : w.heap.size ≤ gb403)); have n3_ := Aside0.mk ((by rw [hg]; exact (below_size (by repeat (first | (with_reducible first | exact HB.out | apply below_alloc | apply pw_below_drewN | apply below_drew1) | exact HB.out))) : w.heap.size ≤ gb403)); clear HB; have HB := n0_; have BK403 := n1_; have GW403 := n2_; have GE403 := n3_; clear n0_ n1_ n2_ n3_; clear hb hbox hg) | ((with_reducible refine gate_dst (N := 4) rfl ?_); refine box_event ?hg (N := 4) ?hd (cs := #[.bool a1_0, .bool a1_1, .bool a1_2, .int .u64 a1_3, .int .i64 a1_4]) (t := 66) ?hr ?_; (case hd => rfl); (case hg => rfl); (case hr => first | (go_simp; done) | (go_simp; rfl)); intro gb404 hg w6 hbox hb; have n0_ := Aside0.mk (blk_below (g := gb403) (o := .cells #[.int .i64 a0_0, .int .i64 a0_1] 62 (0, 0)) (by (with_reducible repeat (first | refine blk_drewN ?_ _ | refine blk_drew ?_ | refine blk_alloc ?_ _)); exact BK403.out) hb); have n1_ := Aside0.mk (below_step (by repeat (first | (with_reducible first | exact HB.out | apply below_alloc | apply pw_below_drewN | apply below_drew1 | refine below_set ?_ GE403.out) | exact HB.out)) hb); have n2_ := Aside0.mk (hbox); have n3_ := Aside0.mk ((by rw [hg]; exact (below_size (by repeat (first | (with_reducible first | exact HB.out | apply below_alloc | apply pw_below_drewN | apply below_drew1 | refine below_set ?_ GE403.out) | exact HB.out))) : w.heap.size ≤ gb404)); have n4_ := Aside0.mk ((by rw [hg]; exact (below_size (by repeat (first | (with_reducible first | exact HB.out | apply below_alloc | apply pw_below_drewN | apply below_drew1 | refine below_set ?_ GE403.out) | exact HB.out))) : w.heap.size ≤ gb404)); have n5_ := Aside0.mk ((by rw [hg]; exact Nat.ne_of_lt (blk_lt (g := gb403) (o := .cells #[.int .i64 a0_0, .int .i64 a0_1] 62 (0, 0)) (by (with_reducible repeat (first | refine blk_drewN ?_ _ | refine blk_drew ?_ | refine blk_alloc ?_ _)); exact BK403.out)) : gb403 ≠ gb404)); have n6_ := Aside0.mk ((by rw [hg]; exact Nat.ne_of_gt (blk_lt (g := gb403) (o := .cells #[.int .i64 a0_0, .int .i64 a0_1] 62 (0, 0)) (by (with_reducible repeat (first | refine blk_drewN ?_ _ | refine blk_drew ?_ | refine blk_alloc ?_ _)); exact BK403.out)) : gb404 ≠ gb403)); clear BK403; clear HB; have BK403 := n0_; have HB := n1_; have BK404 := n2_; have GW404 := n3_; have GE404 := n4_; have NB403_404 := n5_; have NB404_403 := n6_; clear n0_ n1_ n2_ n3_ n4_ n5_ n6_; clear hb hbox hg) | ((with_reducible refine gate_dst (N := 5) rfl ?_); refine box_event ?hg (N := 5) ?hd (cs := #[.bool a2_0, .bool a2_1, .bool a2_2, .int .u64 a2_3, .int .i64 a2_4]) (t := 66) ?hr ?_; (case hd => rfl); (case hg => rfl); (case hr => first | (go_simp; done) | (go_simp; rfl)); intro gb405 hg w7 hbox hb; have n0_ := Aside0.mk (blk_below (g := gb403) (o := .cells #[.int .i64 a0_0, .int .i64 a0_1] 62 (0, 0)) (by (with_reducible repeat (first | refine blk_drewN ?_ _ | refine blk_drew ?_ | refine blk_alloc ?_ _)); exact BK403.out) hb); have n1_ := Aside0.mk (blk_below (g := gb404) (o := .cells #[.bool a1_0, .bool a1_1, .bool a1_2, .int .u64 a1_3, .int .i64 a1_4] 66 (0, 0)) (by (with_reducible repeat (first | refine blk_drewN ?_ _ | refine blk_drew ?_ | refine blk_alloc ?_ _)); exact BK404.out) hb); have n2_ := Aside0.mk (below_step (by repeat (first | (with_reducible first | exact HB.out | apply below_alloc | apply pw_below_drewN | apply below_drew1 | refine below_set ?_ GE403.out | refine below_set ?_ GE404.out) | exact HB.out)) hb); have n3_ := Aside0.mk (hbox); have n4_ := Aside0.mk ((by rw [hg]; exact (below_size (by repeat (first | (with_reducible first | exact HB.out | apply below_alloc | apply pw_below_drewN | apply below_drew1 | refine below_set ?_ GE403.out | refine below_set ?_ GE404.out) | exact HB.out))) : w.heap.size ≤ gb405)); have n5_ := Aside0.mk ((by rw [hg]; exact (below_size (by repeat (first | (with_reducible first | exact HB.out | apply below_alloc | apply pw_below_drewN | apply below_drew1 | refine below_set ?_ GE403.out | refine below_set ?_ GE404.out) | exact HB.out))) : w.heap.size ≤ gb405)); have n6_ := Aside0.mk ((by rw [hg]; exact Nat.ne_of_lt (blk_lt (g := gb403) (o := .cells #[.int .i64 a0_0, .int .i64 a0_1] 62 (0, 0)) (by (with_reducible repeat (first | refine blk_drewN ?_ _ | refine blk_drew ?_ | refine blk_alloc ?_ _)); exact BK403.out)) : gb403 ≠ gb405)); have n7_ := Aside0.mk ((by rw [hg]; exact Nat.ne_of_gt (blk_lt (g := gb403) (o := .cells #[.int .i64 a0_0, .int .i64 a0_1] 62 (0, 0)) (by (with_reducible repeat (first | refine blk_drewN ?_ _ | refine blk_drew ?_ | refine blk_alloc ?_ _)); exact BK403.out)) : gb405 ≠ gb403)); have n8_ := Aside0.mk ((by rw [hg]; exact Nat.ne_of_lt (blk_lt (g := gb404) (o := .cells #[.bool a1_0, .bool a1_1, .bool a1_2, .int .u64 a1_3, .int .i64 a1_4] 66 (0, 0)) (by (with_reducible repeat (first | refine blk_drewN ?_ _ | refine blk_drew ?_ | refine blk_alloc ?_ _)); exact BK404.out)) : gb404 ≠ gb405)); have n9_ := Aside0.mk ((by rw [hg]; exact Nat.ne_of_gt (blk_lt (g := gb404) (o := .cells #[.bool a1_0, .bool a1_1, .bool a1_2, .int .u64 a1_3, .int .i64 a1_4] 66 (0, 0)) (by (with_reducible repeat (first | refine blk_drewN ?_ _ | refine blk_drew ?_ | refine blk_alloc ?_ _)); exact BK404.out)) : gb405 ≠ gb404)); clear BK403; clear BK404; clear HB; have BK403 := n0_; have BK404 := n1_; have HB := n2_; have BK405 := n3_; have GW405 := n4_; have GE405 := n5_; have NB403_405 := n6_; have NB405_403 := n7_; have NB404_405 := n8_; have NB405_404 := n9_; clear n0_ n1_ n2_ n3_ n4_ n5_ n6_ n7_ n8_ n9_; clear hb hbox hg; have hnb8 := NB404_403.out; have hnc8 := NB403_404.out; have hnb9 := NB404_405.out; have hnc9 := NB405_404.out; have hcz10_0 : w7.cell? ⟨gb404, 0, none⟩ = some (.bool a1_0) := (blk_cell BK404.out 0).trans rfl; have hcz10_1 : w7.cell? ⟨gb404, 1, none⟩ = some (.bool a1_1) := (blk_cell BK404.out 1).trans rfl; have hcz10_2 : w7.cell? ⟨gb404, 2, none⟩ = some (.bool a1_2) := (blk_cell BK404.out 2).trans rfl; have hcz10_3 : w7.cell? ⟨gb404, 3, none⟩ = some (.int .u64 a1_3) := (blk_cell BK404.out 3).trans rfl; have hcz10_4 : w7.cell? ⟨gb404, 4, none⟩ = some (.int .i64 a1_4) := (blk_cell BK404.out 4).trans rfl; have hfz10_0 := blk_frozen BK404.out 0; have hfz10_1 := blk_frozen BK404.out 1; have hfz10_2 := blk_frozen BK404.out 2; have hfz10_3 := blk_frozen BK404.out 3; have hfz10_4 := blk_frozen BK404.out 4; have hnb11 := NB405_403.out; have hnc11 := NB403_405.out; have hcz12_0 : w7.cell? ⟨gb405, 0, none⟩ = some (.bool a2_0) := (blk_cell BK405.out 0).trans rfl; have hcz12_1 : w7.cell? ⟨gb405, 1, none⟩ = some (.bool a2_1) := (blk_cell BK405.out 1).trans rfl; have hcz12_2 : w7.cell? ⟨gb405, 2, none⟩ = some (.bool a2_2) := (blk_cell BK405.out 2).trans rfl; have hcz12_3 : w7.cell? ⟨gb405, 3, none⟩ = some (.int .u64 a2_3) := (blk_cell BK405.out 3).trans rfl; have hcz12_4 : w7.cell? ⟨gb405, 4, none⟩ = some (.int .i64 a2_4) := (blk_cell BK405.out 4).trans rfl; have hfz12_0 := blk_frozen BK405.out 0; have hfz12_1 := blk_frozen BK405.out 1; have hfz12_2 := blk_frozen BK405.out 2; have hfz12_3 := blk_frozen BK405.out 3; have hfz12_4 := blk_frozen BK405.out 4))
 repeat (go_quiet (first | ((with_reducible refine gate_dst (N := 3) rfl ?_); refine box_event ?hg (N := 3) ?hd (cs := #[.int .i64 a0_0, .int .i64 a0_1]) (t := 62) ?hr ?_; (case hd => rfl); (case hg => rfl); (case hr => first | (go_simp; done) | (go_simp; rfl)); intro gb403 hg w5 hbox hb; have n0_ := Aside0.mk (below_step (by repeat (first | (with_reducible first | exact HB.out | apply below_alloc | apply pw_below_drewN | apply below_drew1) | exact HB.out)) hb); have n1_ := Aside0.mk (hbox); have n2_ := Aside0.mk ((by rw [hg]; exact (below_size (by repeat (first | (with_reducible first | exact HB.out | apply below_alloc | apply pw_below_drewN | apply below_drew1) | exact HB.out))) : w.heap.size ≤ gb403)); have n3_ := Aside0.mk ((by rw [hg]; exact (below_size (by repeat (first | (with_reducible first | exact HB.out | apply below_alloc | apply pw_below_drewN | apply below_drew1) | exact HB.out))) : w.heap.size ≤ gb403)); clear HB; have HB := n0_; have BK403 := n1_; have GW403 := n2_; have GE403 := n3_; clear n0_ n1_ n2_ n3_; clear hb hbox hg) | ((with_reducible refine gate_dst (N := 4) rfl ?_); refine box_event ?hg (N := 4) ?hd (cs := #[.bool a1_0, .bool a1_1, .bool a1_2, .int .u64 a1_3, .int .i64 a1_4]) (t := 66) ?hr ?_; (case hd => rfl); (case hg => rfl); (case hr => first | (go_simp; done) | (go_simp; rfl)); intro gb404 hg w6 hbox hb; have n0_ := Aside0.mk (blk_below (g := gb403) (o := .cells #[.int .i64 a0_0, .int .i64 a0_1] 62 (0, 0)) (by (with_reducible repeat (first | refine blk_drewN ?_ _ | refine blk_drew ?_ | refine blk_alloc ?_ _)); exact BK403.out) hb); have n1_ := Aside0.mk (below_step (by repeat (first | (with_reducible first | exact HB.out | apply below_alloc | apply pw_below_drewN | apply below_drew1 | refine below_set ?_ GE403.out) | exact HB.out)) hb); have n2_ := Aside0.mk (hbox); have n3_ := Aside0.mk ((by rw [hg]; exact (below_size (by repeat (first | (with_reducible first | exact HB.out | apply below_alloc | apply pw_below_drewN | apply below_drew1 | refine below_set ?_ GE403.out) | exact HB.out))) : w.heap.size ≤ gb404)); have n4_ := Aside0.mk ((by rw [hg]; exact (below_size (by repeat (first | (with_reducible first | exact HB.out | apply below_alloc | apply pw_below_drewN | apply below_drew1 | refine below_set ?_ GE403.out) | exact HB.out))) : w.heap.size ≤ gb404)); have n5_ := Aside0.mk ((by rw [hg]; exact Nat.ne_of_lt (blk_lt (g := gb403) (o := .cells #[.int .i64 a0_0, .int .i64 a0_1] 62 (0, 0)) (by (with_reducible repeat (first | refine blk_drewN ?_ _ | refine blk_drew ?_ | refine blk_alloc ?_ _)); exact BK403.out)) : gb403 ≠ gb404)); have n6_ := Aside0.mk ((by rw [hg]; exact Nat.ne_of_gt (blk_lt (g := gb403) (o := .cells #[.int .i64 a0_0, .int .i64 a0_1] 62 (0, 0)) (by (with_reducible repeat (first | refine blk_drewN ?_ _ | refine blk_drew ?_ | refine blk_alloc ?_ _)); exact BK403.out)) : gb404 ≠ gb403)); clear BK403; clear HB; have BK403 := n0_; have HB := n1_; have BK404 := n2_; have GW404 := n3_; have GE404 := n4_; have NB403_404 := n5_; have NB404_403 := n6_; clear n0_ n1_ n2_ n3_ n4_ n5_ n6_; clear hb hbox hg) | ((with_reducible refine gate_dst (N := 5) rfl ?_); refine box_event ?hg (N := 5) ?hd (cs := #[.bool a2_0, .bool a2_1, .bool a2_2, .int .u64 a2_3, .int .i64 a2_4]) (t := 66) ?hr ?_; (case hd => rfl); (case hg => rfl); (case hr => first | (go_simp; done) | (go_simp; rfl)); intro gb405 hg w7 hbox hb; have n0_ := Aside0.mk (blk_below (g := gb403) (o := .cells #[.int .i64 a0_0, .int .i64 a0_1] 62 (0, 0)) (by (with_reducible repeat (first | refine blk_drewN ?_ _ | refine blk_drew ?_ | refine blk_alloc ?_ _)); exact BK403.out) hb); have n1_ := Aside0.mk (blk_below (g := gb404) (o := .cells #[.bool a1_0, .bool a1_1, .bool a1_2, .int .u64 a1_3, .int .i64 a1_4] 66 (0, 0)) (by (with_reducible repeat (first | refine blk_drewN ?_ _ | refine blk_drew ?_ | refine blk_alloc ?_ _)); exact BK404.out) hb); have n2_ := Aside0.mk (below_step (by repeat (first | (with_reducible first | exact HB.out | apply below_alloc | apply pw_below_drewN | apply below_drew1 | refine below_set ?_ GE403.out | refine below_set ?_ GE404.out) | exact HB.out)) hb); have n3_ := Aside0.mk (hbox); have n4_ := Aside0.mk ((by rw [hg]; exact (below_size (by repeat (first | (with_reducible first | exact HB.out | apply below_alloc | apply pw_below_drewN | apply below_drew1 | refine below_set ?_ GE403.out | refine below_set ?_ GE404.out) | exact HB.out))) : w.heap.size ≤ gb405)); have n5_ := Aside0.mk ((by rw [hg]; exact (below_size (by repeat (first | (with_reducible first | exact HB.out | apply below_alloc | apply pw_below_drewN | apply below_drew1 | refine below_set ?_ GE403.out | refine below_set ?_ GE404.out) | exact HB.out))) : w.heap.size ≤ gb405)); have n6_ := Aside0.mk ((by rw [hg]; exact Nat.ne_of_lt (blk_lt (g := gb403) (o := .cells #[.int .i64 a0_0, .int .i64 a0_1] 62 (0, 0)) (by (with_reducible repeat (first | refine blk_drewN ?_ _ | refine blk_drew ?_ | refine blk_alloc ?_ _)); exact BK403.out)) : gb403 ≠ gb405)); have n7_ := Aside0.mk ((by rw [hg]; exact Nat.ne_of_gt (blk_lt (g := gb403) (o := .cells #[.int .i64 a0_0, .int .i64 a0_1] 62 (0, 0)) (by (with_reducible repeat (first | refine blk_drewN ?_ _ | refine blk_drew ?_ | refine blk_alloc ?_ _)); exact BK403.out)) : gb405 ≠ gb403)); have n8_ := Aside0.mk ((by rw [hg]; exact Nat.ne_of_lt (blk_lt (g := gb404) (o := .cells #[.bool a1_0, .bool a1_1, .bool a1_2, .int .u64 a1_3, .int .i64 a1_4] 66 (0, 0)) (by (with_reducible repeat (first | refine blk_drewN ?_ _ | refine blk_drew ?_ | refine blk_alloc ?_ _)); exact BK404.out)) : gb404 ≠ gb405)); have n9_ := Aside0.mk ((by rw [hg]; exact Nat.ne_of_gt (blk_lt (g := gb404) (o := .cells #[.bool a1_0, .bool a1_1, .bool a1_2, .int .u64 a1_3, .int .i64 a1_4] 66 (0, 0)) (by (with_reducible repeat (first | refine blk_drewN ?_ _ | refine blk_drew ?_ | refine blk_alloc ?_ _)); exact BK404.out)) : gb405 ≠ gb404)); clear BK403; clear BK404; clear HB; have BK403 := n0_; have BK404 := n1_; have HB := n2_; have BK405 := n3_; have GW405 := n4_; have GE405 := n5_; have NB403_405 := n6_; have NB405_403 := n7_; have NB404_405 := n8_; have NB405_404 := n9_; clear n0_ n1_ n2_ n3_ n4_ n5_ n6_ n7_ n8_ n9_; clear hb hbox hg; have hnb8 := NB404_403.out; have hnc8 := NB403_404.out; have hnb9 := NB404_405.out; have hnc9 := NB405_404.out; have hcz10_0 : w7.cell? ⟨gb404, 0, none⟩ = some (.bool a1_0) := (blk_cell BK404.out 0).trans rfl; have hcz10_1 : w7.cell? ⟨gb404, 1, none⟩ = some (.bool a1_1) := (blk_cell BK404.out 1).trans rfl; have hcz10_2 : w7.cell? ⟨gb404, 2, none⟩ = some (.bool a1_2) := (blk_cell BK404.out 2).trans rfl; have hcz10_3 : w7.cell? ⟨gb404, 3, none⟩ = some (.int .u64 a1_3) := (blk_cell BK404.out 3).trans rfl; have hcz10_4 : w7.cell? ⟨gb404, 4, none⟩ = some (.int .i64 a1_4) := (blk_cell BK404.out 4).trans rfl; have hfz10_0 := blk_frozen BK404.out 0; have hfz10_1 := blk_frozen BK404.out 1; have hfz10_2 := blk_frozen BK404.out 2; have hfz10_3 := blk_frozen BK404.out 3; have hfz10_4 := blk_frozen BK404.out 4; have hnb11 := NB405_403.out; have hnc11 := NB403_405.out; have hcz12_0 : w7.cell? ⟨gb405, 0, none⟩ = some (.bool a2_0) := (blk_cell BK405.out 0).trans rfl; have hcz12_1 : w7.cell? ⟨gb405, 1, none⟩ = some (.bool a2_1) := (blk_cell BK405.out 1).trans rfl; have hcz12_2 : w7.cell? ⟨gb405, 2, none⟩ = some (.bool a2_2) := (blk_cell BK405.out 2).trans rfl; have hcz12_3 : w7.cell? ⟨gb405, 3, none⟩ = some (.int .u64 a2_3) := (blk_cell BK405.out 3).trans rfl; have hcz12_4 : w7.cell? ⟨gb405, 4, none⟩ = some (.int .i64 a2_4) := (blk_cell BK405.out 4).trans rfl; have hfz12_0 := blk_frozen BK405.out 0; have hfz12_1 := blk_frozen BK405.out 1; have hfz12_2 := blk_frozen BK405.out 2; have hfz12_3 := blk_frozen BK405.out 3; have hfz12_4 := blk_frozen BK405.out 4)); go_upto_if 16 with (first | ((with_reducible refine gate_dst (N := 3) rfl ?_); refine box_event ?hg (N := 3) ?hd (cs := #[.int .i64 a0_0, .int .i64 a0_1]) (t := 62) ?hr ?_; (case hd => rfl); (case hg => rfl); (case hr => first | (go_simp; done) | (go_simp; rfl)); intro gb403 hg w5 hbox hb; have n0_ := Aside0.mk (below_step (by repeat (first | (with_reducible first | exact HB.out | apply below_alloc | apply pw_below_drewN | apply below_drew1) | exact HB.out)) hb); have n1_ := Aside0.mk (hbox); have n2_ := Aside0.mk ((by rw [hg]; exact (below_size (by repeat (first | (with_reducible first | exact HB.out | apply below_alloc | apply pw_below_drewN | apply below_drew1) | exact HB.out))) : w.heap.size ≤ gb403)); have n3_ := Aside0.mk ((by rw [hg]; exact (below_size (by repeat (first | (with_reducible first | exact HB.out | apply below_alloc | apply pw_below_drewN | apply below_drew1) | exact HB.out))) : w.heap.size ≤ gb403)); clear HB; have HB := n0_; have BK403 := n1_; have GW403 := n2_; have GE403 := n3_; clear n0_ n1_ n2_ n3_; clear hb hbox hg) | ((with_reducible refine gate_dst (N := 4) rfl ?_); refine box_event ?hg (N := 4) ?hd (cs := #[.bool a1_0, .bool a1_1, .bool a1_2, .int .u64 a1_3, .int .i64 a1_4]) (t := 66) ?hr ?_; (case hd => rfl); (case hg => rfl); (case hr => first | (go_simp; done) | (go_simp; rfl)); intro gb404 hg w6 hbox hb; have n0_ := Aside0.mk (blk_below (g := gb403) (o := .cells #[.int .i64 a0_0, .int .i64 a0_1] 62 (0, 0)) (by (with_reducible repeat (first | refine blk_drewN ?_ _ | refine blk_drew ?_ | refine blk_alloc ?_ _)); exact BK403.out) hb); have n1_ := Aside0.mk (below_step (by repeat (first | (with_reducible first | exact HB.out | apply below_alloc | apply pw_below_drewN | apply below_drew1 | refine below_set ?_ GE403.out) | exact HB.out)) hb); have n2_ := Aside0.mk (hbox); have n3_ := Aside0.mk ((by rw [hg]; exact (below_size (by repeat (first | (with_reducible first | exact HB.out | apply below_alloc | apply pw_below_drewN | apply below_drew1 | refine below_set ?_ GE403.out) | exact HB.out))) : w.heap.size ≤ gb404)); have n4_ := Aside0.mk ((by rw [hg]; exact (below_size (by repeat (first | (with_reducible first | exact HB.out | apply below_alloc | apply pw_below_drewN | apply below_drew1 | refine below_set ?_ GE403.out) | exact HB.out))) : w.heap.size ≤ gb404)); have n5_ := Aside0.mk ((by rw [hg]; exact Nat.ne_of_lt (blk_lt (g := gb403) (o := .cells #[.int .i64 a0_0, .int .i64 a0_1] 62 (0, 0)) (by (with_reducible repeat (first | refine blk_drewN ?_ _ | refine blk_drew ?_ | refine blk_alloc ?_ _)); exact BK403.out)) : gb403 ≠ gb404)); have n6_ := Aside0.mk ((by rw [hg]; exact Nat.ne_of_gt (blk_lt (g := gb403) (o := .cells #[.int .i64 a0_0, .int .i64 a0_1] 62 (0, 0)) (by (with_reducible repeat (first | refine blk_drewN ?_ _ | refine blk_drew ?_ | refine blk_alloc ?_ _)); exact BK403.out)) : gb404 ≠ gb403)); clear BK403; clear HB; have BK403 := n0_; have HB := n1_; have BK404 := n2_; have GW404 := n3_; have GE404 := n4_; have NB403_404 := n5_; have NB404_403 := n6_; clear n0_ n1_ n2_ n3_ n4_ n5_ n6_; clear hb hbox hg) | ((with_reducible refine gate_dst (N := 5) rfl ?_); refine box_event ?hg (N := 5) ?hd (cs := #[.bool a2_0, .bool a2_1, .bool a2_2, .int .u64 a2_3, .int .i64 a2_4]) (t := 66) ?hr ?_; (case hd => rfl); (case hg => rfl); (case hr => first | (go_simp; done) | (go_simp; rfl)); intro gb405 hg w7 hbox hb; have n0_ := Aside0.mk (blk_below (g := gb403) (o := .cells #[.int .i64 a0_0, .int .i64 a0_1] 62 (0, 0)) (by (with_reducible repeat (first | refine blk_drewN ?_ _ | refine blk_drew ?_ | refine blk_alloc ?_ _)); exact BK403.out) hb); have n1_ := Aside0.mk (blk_below (g := gb404) (o := .cells #[.bool a1_0, .bool a1_1, .bool a1_2, .int .u64 a1_3, .int .i64 a1_4] 66 (0, 0)) (by (with_reducible repeat (first | refine blk_drewN ?_ _ | refine blk_drew ?_ | refine blk_alloc ?_ _)); exact BK404.out) hb); have n2_ := Aside0.mk (below_step (by repeat (first | (with_reducible first | exact HB.out | apply below_alloc | apply pw_below_drewN | apply below_drew1 | refine below_set ?_ GE403.out | refine below_set ?_ GE404.out) | exact HB.out)) hb); have n3_ := Aside0.mk (hbox); have n4_ := Aside0.mk ((by rw [hg]; exact (below_size (by repeat (first | (with_reducible first | exact HB.out | apply below_alloc | apply pw_below_drewN | apply below_drew1 | refine below_set ?_ GE403.out | refine below_set ?_ GE404.out) | exact HB.out))) : w.heap.size ≤ gb405)); have n5_ := Aside0.mk ((by rw [hg]; exact (below_size (by repeat (first | (with_reducible first | exact HB.out | apply below_alloc | apply pw_below_drewN | apply below_drew1 | refine below_set ?_ GE403.out | refine below_set ?_ GE404.out) | exact HB.out))) : w.heap.size ≤ gb405)); have n6_ := Aside0.mk ((by rw [hg]; exact Nat.ne_of_lt (blk_lt (g := gb403) (o := .cells #[.int .i64 a0_0, .int .i64 a0_1] 62 (0, 0)) (by (with_reducible repeat (first | refine blk_drewN ?_ _ | refine blk_drew ?_ | refine blk_alloc ?_ _)); exact BK403.out)) : gb403 ≠ gb405)); have n7_ := Aside0.mk ((by rw [hg]; exact Nat.ne_of_gt (blk_lt (g := gb403) (o := .cells #[.int .i64 a0_0, .int .i64 a0_1] 62 (0, 0)) (by (with_reducible repeat (first | refine blk_drewN ?_ _ | refine blk_drew ?_ | refine blk_alloc ?_ _)); exact BK403.out)) : gb405 ≠ gb403)); have n8_ := Aside0.mk ((by rw [hg]; exact Nat.ne_of_lt (blk_lt (g := gb404) (o := .cells #[.bool a1_0, .bool a1_1, .bool a1_2, .int .u64 a1_3, .int .i64 a1_4] 66 (0, 0)) (by (with_reducible repeat (first | refine blk_drewN ?_ _ | refine blk_drew ?_ | refine blk_alloc ?_ _)); exact BK404.out)) : gb404 ≠ gb405)); have n9_ := Aside0.mk ((by rw [hg]; exact Nat.ne_of_gt (blk_lt (g := gb404) (o := .cells #[.bool a1_0, .bool a1_1, .bool a1_2, .int .u64 a1_3, .int .i64 a1_4] 66 (0, 0)) (by (with_reducible repeat (first | refine blk_drewN ?_ _ | refine blk_drew ?_ | refine blk_alloc ?_ _)); exact BK404.out)) : gb405 ≠ gb404)); clear BK403; clear BK404; clear HB; have BK403 := n0_; have BK404 := n1_; have HB := n2_; have BK405 := n3_; have GW405 := n4_; have GE405 := n5_; have NB403_405 := n6_; have NB405_403 := n7_; have NB404_405 := n8_; have NB405_404 := n9_; clear n0_ n1_ n2_ n3_ n4_ n5_ n6_ n7_ n8_ n9_; clear hb hbox hg; have hnb8 := NB404_403.out; have hnc8 := NB403_404.out; have hnb9 := NB404_405.out; have hnc9 := NB405_404.out; have hcz10_0 : w7.cell? ⟨gb404, 0, none⟩ = some (.bool a1_0) := (blk_cell BK404.out 0).trans rfl; have hcz10_1 : w7.cell? ⟨gb404, 1, none⟩ = some (.bool a1_1) := (blk_cell BK404.out 1).trans rfl; have hcz10_2 : w7.cell? ⟨gb404, 2, none⟩ = some (.bool a1_2) := (blk_cell BK404.out 2).trans rfl; have hcz10_3 : w7.cell? ⟨gb404, 3, none⟩ = some (.int .u64 a1_3) := (blk_cell BK404.out 3).trans rfl; have hcz10_4 : w7.cell? ⟨gb404, 4, none⟩ = some (.int .i64 a1_4) := (blk_cell BK404.out 4).trans rfl; have hfz10_0 := blk_frozen BK404.out 0; have hfz10_1 := blk_frozen BK404.out 1; have hfz10_2 := blk_frozen BK404.out 2; have hfz10_3 := blk_frozen BK404.out 3; have hfz10_4 := blk_frozen BK404.out 4; have hnb11 := NB405_403.out; have hnc11 := NB403_405.out; have hcz12_0 : w7.cell? ⟨gb405, 0, none⟩ = some (.bool a2_0) := (blk_cell BK405.out 0).trans rfl; have hcz12_1 : w7.cell? ⟨gb405, 1, none⟩ = some (.bool a2_1) := (blk_cell BK405.out 1).trans rfl; have hcz12_2 : w7.cell? ⟨gb405, 2, none⟩ = some (.bool a2_2) := (blk_cell BK405.out 2).trans rfl; have hcz12_3 : w7.cell? ⟨gb405, 3, none⟩ = some (.int .u64 a2_3) := (blk_cell BK405.out 3).trans rfl; have hcz12_4 : w7.cell? ⟨gb405, 4, none⟩ = some (.int .i64 a2_4) := (blk_cell BK405.out 4).trans rfl; have hfz12_0 := blk_frozen BK405.out 0; have hfz12_1 := blk_frozen BK405.out 1; have hfz12_2 := blk_frozen BK405.out 2; have hfz12_3 := blk_frozen BK405.out 3; have hfz12_4 := blk_frozen BK405.out 4)))
 (try simp only [Act.put, List.setIfInBounds_toArray, List.set_cons_zero, List.set_cons_succ])
 go_cut [] (fun wc => ∃ (kq : Nat) (x405000_3 : Bool) (x405001_3 : Bool) (x405002_3 : Bool) (x405003_3 : Int) (x405004_3 : Int) (x406000_3 : Bool) (x406001_3 : Bool) (x406002_3 : Bool) (x406003_3 : Int) (x406004_3 : Int), Aside0 (impl_format_sum.j0 kq a0_0 a0_1 x405000_3 x405001_3 x405002_3 x405003_3 x405004_3 x406000_3 x406001_3 x406002_3 x406003_3 x406004_3 = some r) ∧ Aside0 (kq ≤ k) ∧ Aside0 (wc.heap[gb403]? = some (.cells #[.int .i64 a0_0, .int .i64 a0_1] 62 (0, 0))) ∧ Aside0 (wc.heap[gb404]? = some (.cells #[.bool x405000_3, .bool x405001_3, .bool x405002_3, .int .u64 x405003_3, .int .i64 x405004_3] 66 (0, 0))) ∧ Aside0 (wc.heap[gb405]? = some (.cells #[.bool x406000_3, .bool x406001_3, .bool x406002_3, .int .u64 x406003_3, .int .i64 x406004_3] 66 (0, 0))) ∧ Aside0 (Below w.heap.size w wc))
 case first =>
  have H := HC4.out
  clear HC4
  by_cases c13 : a1_4 < a2_4
  ·
   rw [if_pos c13] at H
   have c13b0 : decide (a1_4 < a2_4) = true := decide_eq_true c13
   clear c13
   (first | rw [c13b0] | (simp only [i64_w, i32_w]; rw [c13b0]) | skip)
   have H' := Aside0.mk H
   clear H
   have hnb14 := NB405_403.out
   have hnc14 := NB403_405.out
   have hnb15 := NB405_404.out
   have hnc15 := NB404_405.out
   have hcz16_0 : w7.cell? ⟨gb405, 0, none⟩ = some (.bool a2_0) := (blk_cell BK405.out 0).trans rfl
   have hcz16_1 : w7.cell? ⟨gb405, 1, none⟩ = some (.bool a2_1) := (blk_cell BK405.out 1).trans rfl
   have hcz16_2 : w7.cell? ⟨gb405, 2, none⟩ = some (.bool a2_2) := (blk_cell BK405.out 2).trans rfl
   have hcz16_3 : w7.cell? ⟨gb405, 3, none⟩ = some (.int .u64 a2_3) := (blk_cell BK405.out 3).trans rfl
   have hcz16_4 : w7.cell? ⟨gb405, 4, none⟩ = some (.int .i64 a2_4) := (blk_cell BK405.out 4).trans rfl
   have hfz16_0 := blk_frozen BK405.out 0
   have hfz16_1 := blk_frozen BK405.out 1
   have hfz16_2 := blk_frozen BK405.out 2
   have hfz16_3 := blk_frozen BK405.out 3
   have hfz16_4 := blk_frozen BK405.out 4
   have hnb17 := NB404_403.out
   have hnc17 := NB403_404.out
   have hcz18_0 : w7.cell? ⟨gb404, 0, none⟩ = some (.bool a1_0) := (blk_cell BK404.out 0).trans rfl
   have hcz18_1 : w7.cell? ⟨gb404, 1, none⟩ = some (.bool a1_1) := (blk_cell BK404.out 1).trans rfl
   have hcz18_2 : w7.cell? ⟨gb404, 2, none⟩ = some (.bool a1_2) := (blk_cell BK404.out 2).trans rfl
   have hcz18_3 : w7.cell? ⟨gb404, 3, none⟩ = some (.int .u64 a1_3) := (blk_cell BK404.out 3).trans rfl
   have hcz18_4 : w7.cell? ⟨gb404, 4, none⟩ = some (.int .i64 a1_4) := (blk_cell BK404.out 4).trans rfl
   have hfz18_0 := blk_frozen BK404.out 0
   have hfz18_1 := blk_frozen BK404.out 1
   have hfz18_2 := blk_frozen BK404.out 2
   have hfz18_3 := blk_frozen BK404.out 3
   have hfz18_4 := blk_frozen BK404.out 4
   go_wp2_with (first | ((with_reducible refine gate_store (t := 66) (p := 4) rfl ?_); (try (rw [drewN_self w7]; generalize hq_ : World.drewN w7 _ = w7; have n0_ := Aside0.mk (blk_at hq_ BK403.out); have n1_ := Aside0.mk (blk_at hq_ BK404.out); have n2_ := Aside0.mk (blk_at hq_ BK405.out); have n3_ := Aside0.mk (below_at hq_ HB.out); clear hq_ BK403 BK404 BK405 HB; have BK403 := n0_; have BK404 := n1_; have BK405 := n2_; have HB := n3_; clear n0_ n1_ n2_ n3_)); refine store_event (t := 66) (p := 4) (v := ?vo_w19) (w1 := (((((w7.setCell ⟨gb404, 0, none⟩ (.bool a2_0)).setCell ⟨gb404, 1, none⟩ (.bool a2_1)).setCell ⟨gb404, 2, none⟩ (.bool a2_2)).setCell ⟨gb404, 3, none⟩ (.int .u64 a2_3)).setCell ⟨gb404, 4, none⟩ (.int .i64 a2_4))) ?hg ?ho ?hn ?hr ?_; (case ho => rfl); (case hg => rfl); (case hn => rfl); (case hr => first | (go_simp; done) | (go_simp; rfl)); intro w19 hw; have n0_ : Aside0 (w19.heap[gb403]? = some (.cells #[.int .i64 a0_0, .int .i64 a0_1] 62 (0, 0))) := ⟨(by rw [hw]; exact (by (with_reducible repeat (first | refine blk_drewN ?_ _ | refine blk_drew ?_ | refine blk_alloc ?_ _)); refine blk_far ?_ NB403_404.out _; (with_reducible repeat (first | refine blk_drewN ?_ _ | refine blk_drew ?_ | refine blk_alloc ?_ _)); refine blk_far ?_ NB403_404.out _; (with_reducible repeat (first | refine blk_drewN ?_ _ | refine blk_drew ?_ | refine blk_alloc ?_ _)); refine blk_far ?_ NB403_404.out _; (with_reducible repeat (first | refine blk_drewN ?_ _ | refine blk_drew ?_ | refine blk_alloc ?_ _)); refine blk_far ?_ NB403_404.out _; (with_reducible repeat (first | refine blk_drewN ?_ _ | refine blk_drew ?_ | refine blk_alloc ?_ _)); refine blk_far ?_ NB403_404.out _; (with_reducible repeat (first | refine blk_drewN ?_ _ | refine blk_drew ?_ | refine blk_alloc ?_ _)); exact BK403.out))⟩; have n1_ : Aside0 (w19.heap[gb404]? = some (.cells #[.bool a2_0, .bool a2_1, .bool a2_2, .int .u64 a2_3, .int .i64 a2_4] 66 (0, 0))) := ⟨(by rw [hw]; exact (by (with_reducible repeat (first | refine blk_drewN ?_ _ | refine blk_drew ?_ | refine blk_alloc ?_ _)); refine blk_put (cs := #[.bool a2_0, .bool a2_1, .bool a2_2, .int .u64 a2_3, .int .i64 a1_4]) ?_ 4 _ rfl; (with_reducible repeat (first | refine blk_drewN ?_ _ | refine blk_drew ?_ | refine blk_alloc ?_ _)); refine blk_put (cs := #[.bool a2_0, .bool a2_1, .bool a2_2, .int .u64 a1_3, .int .i64 a1_4]) ?_ 3 _ rfl; (with_reducible repeat (first | refine blk_drewN ?_ _ | refine blk_drew ?_ | refine blk_alloc ?_ _)); refine blk_put (cs := #[.bool a2_0, .bool a2_1, .bool a1_2, .int .u64 a1_3, .int .i64 a1_4]) ?_ 2 _ rfl; (with_reducible repeat (first | refine blk_drewN ?_ _ | refine blk_drew ?_ | refine blk_alloc ?_ _)); refine blk_put (cs := #[.bool a2_0, .bool a1_1, .bool a1_2, .int .u64 a1_3, .int .i64 a1_4]) ?_ 1 _ rfl; (with_reducible repeat (first | refine blk_drewN ?_ _ | refine blk_drew ?_ | refine blk_alloc ?_ _)); refine blk_put (cs := #[.bool a1_0, .bool a1_1, .bool a1_2, .int .u64 a1_3, .int .i64 a1_4]) ?_ 0 _ rfl; (with_reducible repeat (first | refine blk_drewN ?_ _ | refine blk_drew ?_ | refine blk_alloc ?_ _)); exact BK404.out))⟩; have n2_ : Aside0 (w19.heap[gb405]? = some (.cells #[.bool a2_0, .bool a2_1, .bool a2_2, .int .u64 a2_3, .int .i64 a2_4] 66 (0, 0))) := ⟨(by rw [hw]; exact (by (with_reducible repeat (first | refine blk_drewN ?_ _ | refine blk_drew ?_ | refine blk_alloc ?_ _)); refine blk_far ?_ NB405_404.out _; (with_reducible repeat (first | refine blk_drewN ?_ _ | refine blk_drew ?_ | refine blk_alloc ?_ _)); refine blk_far ?_ NB405_404.out _; (with_reducible repeat (first | refine blk_drewN ?_ _ | refine blk_drew ?_ | refine blk_alloc ?_ _)); refine blk_far ?_ NB405_404.out _; (with_reducible repeat (first | refine blk_drewN ?_ _ | refine blk_drew ?_ | refine blk_alloc ?_ _)); refine blk_far ?_ NB405_404.out _; (with_reducible repeat (first | refine blk_drewN ?_ _ | refine blk_drew ?_ | refine blk_alloc ?_ _)); refine blk_far ?_ NB405_404.out _; (with_reducible repeat (first | refine blk_drewN ?_ _ | refine blk_drew ?_ | refine blk_alloc ?_ _)); exact BK405.out))⟩; have n3_ : Aside0 (Below w.heap.size w w19) := ⟨(by rw [hw]; exact (by repeat (first | (with_reducible first | exact HB.out | apply below_alloc | apply pw_below_drewN | apply below_drew1 | refine below_set ?_ GE403.out | refine below_set ?_ GE404.out | refine below_set ?_ GE405.out) | exact HB.out)))⟩; clear hw; clear BK403; clear BK404; clear BK405; clear HB; have BK403 := n0_; have BK404 := n1_; have BK405 := n2_; have HB := n3_; clear n0_ n1_ n2_ n3_; have hcz20_0 : w19.cell? ⟨gb405, 0, none⟩ = some (.bool a2_0) := (blk_cell BK405.out 0).trans rfl; have hcz20_1 : w19.cell? ⟨gb405, 1, none⟩ = some (.bool a2_1) := (blk_cell BK405.out 1).trans rfl; have hcz20_2 : w19.cell? ⟨gb405, 2, none⟩ = some (.bool a2_2) := (blk_cell BK405.out 2).trans rfl; have hcz20_3 : w19.cell? ⟨gb405, 3, none⟩ = some (.int .u64 a2_3) := (blk_cell BK405.out 3).trans rfl; have hcz20_4 : w19.cell? ⟨gb405, 4, none⟩ = some (.int .i64 a2_4) := (blk_cell BK405.out 4).trans rfl; have hfz20_0 := blk_frozen BK405.out 0; have hfz20_1 := blk_frozen BK405.out 1; have hfz20_2 := blk_frozen BK405.out 2; have hfz20_3 := blk_frozen BK405.out 3; have hfz20_4 := blk_frozen BK405.out 4) | ((with_reducible refine gate_store (t := 66) (p := 5) rfl ?_); (try (rw [drewN_self w19]; generalize hq_ : World.drewN w19 _ = w19; have n0_ := Aside0.mk (blk_at hq_ BK403.out); have n1_ := Aside0.mk (blk_at hq_ BK404.out); have n2_ := Aside0.mk (blk_at hq_ BK405.out); have n3_ := Aside0.mk (below_at hq_ HB.out); clear hq_ BK403 BK404 BK405 HB; have BK403 := n0_; have BK404 := n1_; have BK405 := n2_; have HB := n3_; clear n0_ n1_ n2_ n3_)); refine store_event (t := 66) (p := 5) (v := ?vo_w21) (w1 := (((((w19.setCell ⟨gb405, 0, none⟩ (.bool a1_0)).setCell ⟨gb405, 1, none⟩ (.bool a1_1)).setCell ⟨gb405, 2, none⟩ (.bool a1_2)).setCell ⟨gb405, 3, none⟩ (.int .u64 a1_3)).setCell ⟨gb405, 4, none⟩ (.int .i64 a1_4))) ?hg ?ho ?hn ?hr ?_; (case ho => rfl); (case hg => rfl); (case hn => rfl); (case hr => first | (go_simp; done) | (go_simp; rfl)); intro w21 hw; have n0_ : Aside0 (w21.heap[gb403]? = some (.cells #[.int .i64 a0_0, .int .i64 a0_1] 62 (0, 0))) := ⟨(by rw [hw]; exact (by (with_reducible repeat (first | refine blk_drewN ?_ _ | refine blk_drew ?_ | refine blk_alloc ?_ _)); refine blk_far ?_ NB403_405.out _; (with_reducible repeat (first | refine blk_drewN ?_ _ | refine blk_drew ?_ | refine blk_alloc ?_ _)); refine blk_far ?_ NB403_405.out _; (with_reducible repeat (first | refine blk_drewN ?_ _ | refine blk_drew ?_ | refine blk_alloc ?_ _)); refine blk_far ?_ NB403_405.out _; (with_reducible repeat (first | refine blk_drewN ?_ _ | refine blk_drew ?_ | refine blk_alloc ?_ _)); refine blk_far ?_ NB403_405.out _; (with_reducible repeat (first | refine blk_drewN ?_ _ | refine blk_drew ?_ | refine blk_alloc ?_ _)); refine blk_far ?_ NB403_405.out _; (with_reducible repeat (first | refine blk_drewN ?_ _ | refine blk_drew ?_ | refine blk_alloc ?_ _)); exact BK403.out))⟩; have n1_ : Aside0 (w21.heap[gb404]? = some (.cells #[.bool a2_0, .bool a2_1, .bool a2_2, .int .u64 a2_3, .int .i64 a2_4] 66 (0, 0))) := ⟨(by rw [hw]; exact (by (with_reducible repeat (first | refine blk_drewN ?_ _ | refine blk_drew ?_ | refine blk_alloc ?_ _)); refine blk_far ?_ NB404_405.out _; (with_reducible repeat (first | refine blk_drewN ?_ _ | refine blk_drew ?_ | refine blk_alloc ?_ _)); refine blk_far ?_ NB404_405.out _; (with_reducible repeat (first | refine blk_drewN ?_ _ | refine blk_drew ?_ | refine blk_alloc ?_ _)); refine blk_far ?_ NB404_405.out _; (with_reducible repeat (first | refine blk_drewN ?_ _ | refine blk_drew ?_ | refine blk_alloc ?_ _)); refine blk_far ?_ NB404_405.out _; (with_reducible repeat (first | refine blk_drewN ?_ _ | refine blk_drew ?_ | refine blk_alloc ?_ _)); refine blk_far ?_ NB404_405.out _; (with_reducible repeat (first | refine blk_drewN ?_ _ | refine blk_drew ?_ | refine blk_alloc ?_ _)); exact BK404.out))⟩; have n2_ : Aside0 (w21.heap[gb405]? = some (.cells #[.bool a1_0, .bool a1_1, .bool a1_2, .int .u64 a1_3, .int .i64 a1_4] 66 (0, 0))) := ⟨(by rw [hw]; exact (by (with_reducible repeat (first | refine blk_drewN ?_ _ | refine blk_drew ?_ | refine blk_alloc ?_ _)); refine blk_put (cs := #[.bool a1_0, .bool a1_1, .bool a1_2, .int .u64 a1_3, .int .i64 a2_4]) ?_ 4 _ rfl; (with_reducible repeat (first | refine blk_drewN ?_ _ | refine blk_drew ?_ | refine blk_alloc ?_ _)); refine blk_put (cs := #[.bool a1_0, .bool a1_1, .bool a1_2, .int .u64 a2_3, .int .i64 a2_4]) ?_ 3 _ rfl; (with_reducible repeat (first | refine blk_drewN ?_ _ | refine blk_drew ?_ | refine blk_alloc ?_ _)); refine blk_put (cs := #[.bool a1_0, .bool a1_1, .bool a2_2, .int .u64 a2_3, .int .i64 a2_4]) ?_ 2 _ rfl; (with_reducible repeat (first | refine blk_drewN ?_ _ | refine blk_drew ?_ | refine blk_alloc ?_ _)); refine blk_put (cs := #[.bool a1_0, .bool a2_1, .bool a2_2, .int .u64 a2_3, .int .i64 a2_4]) ?_ 1 _ rfl; (with_reducible repeat (first | refine blk_drewN ?_ _ | refine blk_drew ?_ | refine blk_alloc ?_ _)); refine blk_put (cs := #[.bool a2_0, .bool a2_1, .bool a2_2, .int .u64 a2_3, .int .i64 a2_4]) ?_ 0 _ rfl; (with_reducible repeat (first | refine blk_drewN ?_ _ | refine blk_drew ?_ | refine blk_alloc ?_ _)); exact BK405.out))⟩; have n3_ : Aside0 (Below w.heap.size w w21) := ⟨(by rw [hw]; exact (by repeat (first | (with_reducible first | exact HB.out | apply below_alloc | apply pw_below_drewN | apply below_drew1 | refine below_set ?_ GE403.out | refine below_set ?_ GE404.out | refine below_set ?_ GE405.out) | exact HB.out)))⟩; clear hw; clear BK403; clear BK404; clear BK405; clear HB; have BK403 := n0_; have BK404 := n1_; have BK405 := n2_; have HB := n3_; clear n0_ n1_ n2_ n3_))
   repeat (go_quiet (first | ((with_reducible refine gate_store (t := 66) (p := 4) rfl ?_); (try (rw [drewN_self w7]; generalize hq_ : World.drewN w7 _ = w7; have n0_ := Aside0.mk (blk_at hq_ BK403.out); have n1_ := Aside0.mk (blk_at hq_ BK404.out); have n2_ := Aside0.mk (blk_at hq_ BK405.out); have n3_ := Aside0.mk (below_at hq_ HB.out); clear hq_ BK403 BK404 BK405 HB; have BK403 := n0_; have BK404 := n1_; have BK405 := n2_; have HB := n3_; clear n0_ n1_ n2_ n3_)); refine store_event (t := 66) (p := 4) (v := ?vo_w19) (w1 := (((((w7.setCell ⟨gb404, 0, none⟩ (.bool a2_0)).setCell ⟨gb404, 1, none⟩ (.bool a2_1)).setCell ⟨gb404, 2, none⟩ (.bool a2_2)).setCell ⟨gb404, 3, none⟩ (.int .u64 a2_3)).setCell ⟨gb404, 4, none⟩ (.int .i64 a2_4))) ?hg ?ho ?hn ?hr ?_; (case ho => rfl); (case hg => rfl); (case hn => rfl); (case hr => first | (go_simp; done) | (go_simp; rfl)); intro w19 hw; have n0_ : Aside0 (w19.heap[gb403]? = some (.cells #[.int .i64 a0_0, .int .i64 a0_1] 62 (0, 0))) := ⟨(by rw [hw]; exact (by (with_reducible repeat (first | refine blk_drewN ?_ _ | refine blk_drew ?_ | refine blk_alloc ?_ _)); refine blk_far ?_ NB403_404.out _; (with_reducible repeat (first | refine blk_drewN ?_ _ | refine blk_drew ?_ | refine blk_alloc ?_ _)); refine blk_far ?_ NB403_404.out _; (with_reducible repeat (first | refine blk_drewN ?_ _ | refine blk_drew ?_ | refine blk_alloc ?_ _)); refine blk_far ?_ NB403_404.out _; (with_reducible repeat (first | refine blk_drewN ?_ _ | refine blk_drew ?_ | refine blk_alloc ?_ _)); refine blk_far ?_ NB403_404.out _; (with_reducible repeat (first | refine blk_drewN ?_ _ | refine blk_drew ?_ | refine blk_alloc ?_ _)); refine blk_far ?_ NB403_404.out _; (with_reducible repeat (first | refine blk_drewN ?_ _ | refine blk_drew ?_ | refine blk_alloc ?_ _)); exact BK403.out))⟩; have n1_ : Aside0 (w19.heap[gb404]? = some (.cells #[.bool a2_0, .bool a2_1, .bool a2_2, .int .u64 a2_3, .int .i64 a2_4] 66 (0, 0))) := ⟨(by rw [hw]; exact (by (with_reducible repeat (first | refine blk_drewN ?_ _ | refine blk_drew ?_ | refine blk_alloc ?_ _)); refine blk_put (cs := #[.bool a2_0, .bool a2_1, .bool a2_2, .int .u64 a2_3, .int .i64 a1_4]) ?_ 4 _ rfl; (with_reducible repeat (first | refine blk_drewN ?_ _ | refine blk_drew ?_ | refine blk_alloc ?_ _)); refine blk_put (cs := #[.bool a2_0, .bool a2_1, .bool a2_2, .int .u64 a1_3, .int .i64 a1_4]) ?_ 3 _ rfl; (with_reducible repeat (first | refine blk_drewN ?_ _ | refine blk_drew ?_ | refine blk_alloc ?_ _)); refine blk_put (cs := #[.bool a2_0, .bool a2_1, .bool a1_2, .int .u64 a1_3, .int .i64 a1_4]) ?_ 2 _ rfl; (with_reducible repeat (first | refine blk_drewN ?_ _ | refine blk_drew ?_ | refine blk_alloc ?_ _)); refine blk_put (cs := #[.bool a2_0, .bool a1_1, .bool a1_2, .int .u64 a1_3, .int .i64 a1_4]) ?_ 1 _ rfl; (with_reducible repeat (first | refine blk_drewN ?_ _ | refine blk_drew ?_ | refine blk_alloc ?_ _)); refine blk_put (cs := #[.bool a1_0, .bool a1_1, .bool a1_2, .int .u64 a1_3, .int .i64 a1_4]) ?_ 0 _ rfl; (with_reducible repeat (first | refine blk_drewN ?_ _ | refine blk_drew ?_ | refine blk_alloc ?_ _)); exact BK404.out))⟩; have n2_ : Aside0 (w19.heap[gb405]? = some (.cells #[.bool a2_0, .bool a2_1, .bool a2_2, .int .u64 a2_3, .int .i64 a2_4] 66 (0, 0))) := ⟨(by rw [hw]; exact (by (with_reducible repeat (first | refine blk_drewN ?_ _ | refine blk_drew ?_ | refine blk_alloc ?_ _)); refine blk_far ?_ NB405_404.out _; (with_reducible repeat (first | refine blk_drewN ?_ _ | refine blk_drew ?_ | refine blk_alloc ?_ _)); refine blk_far ?_ NB405_404.out _; (with_reducible repeat (first | refine blk_drewN ?_ _ | refine blk_drew ?_ | refine blk_alloc ?_ _)); refine blk_far ?_ NB405_404.out _; (with_reducible repeat (first | refine blk_drewN ?_ _ | refine blk_drew ?_ | refine blk_alloc ?_ _)); refine blk_far ?_ NB405_404.out _; (with_reducible repeat (first | refine blk_drewN ?_ _ | refine blk_drew ?_ | refine blk_alloc ?_ _)); refine blk_far ?_ NB405_404.out _; (with_reducible repeat (first | refine blk_drewN ?_ _ | refine blk_drew ?_ | refine blk_alloc ?_ _)); exact BK405.out))⟩; have n3_ : Aside0 (Below w.heap.size w w19) := ⟨(by rw [hw]; exact (by repeat (first | (with_reducible first | exact HB.out | apply below_alloc | apply pw_below_drewN | apply below_drew1 | refine below_set ?_ GE403.out | refine below_set ?_ GE404.out | refine below_set ?_ GE405.out) | exact HB.out)))⟩; clear hw; clear BK403; clear BK404; clear BK405; clear HB; have BK403 := n0_; have BK404 := n1_; have BK405 := n2_; have HB := n3_; clear n0_ n1_ n2_ n3_; have hcz20_0 : w19.cell? ⟨gb405, 0, none⟩ = some (.bool a2_0) := (blk_cell BK405.out 0).trans rfl; have hcz20_1 : w19.cell? ⟨gb405, 1, none⟩ = some (.bool a2_1) := (blk_cell BK405.out 1).trans rfl; have hcz20_2 : w19.cell? ⟨gb405, 2, none⟩ = some (.bool a2_2) := (blk_cell BK405.out 2).trans rfl; have hcz20_3 : w19.cell? ⟨gb405, 3, none⟩ = some (.int .u64 a2_3) := (blk_cell BK405.out 3).trans rfl; have hcz20_4 : w19.cell? ⟨gb405, 4, none⟩ = some (.int .i64 a2_4) := (blk_cell BK405.out 4).trans rfl; have hfz20_0 := blk_frozen BK405.out 0; have hfz20_1 := blk_frozen BK405.out 1; have hfz20_2 := blk_frozen BK405.out 2; have hfz20_3 := blk_frozen BK405.out 3; have hfz20_4 := blk_frozen BK405.out 4) | ((with_reducible refine gate_store (t := 66) (p := 5) rfl ?_); (try (rw [drewN_self w19]; generalize hq_ : World.drewN w19 _ = w19; have n0_ := Aside0.mk (blk_at hq_ BK403.out); have n1_ := Aside0.mk (blk_at hq_ BK404.out); have n2_ := Aside0.mk (blk_at hq_ BK405.out); have n3_ := Aside0.mk (below_at hq_ HB.out); clear hq_ BK403 BK404 BK405 HB; have BK403 := n0_; have BK404 := n1_; have BK405 := n2_; have HB := n3_; clear n0_ n1_ n2_ n3_)); refine store_event (t := 66) (p := 5) (v := ?vo_w21) (w1 := (((((w19.setCell ⟨gb405, 0, none⟩ (.bool a1_0)).setCell ⟨gb405, 1, none⟩ (.bool a1_1)).setCell ⟨gb405, 2, none⟩ (.bool a1_2)).setCell ⟨gb405, 3, none⟩ (.int .u64 a1_3)).setCell ⟨gb405, 4, none⟩ (.int .i64 a1_4))) ?hg ?ho ?hn ?hr ?_; (case ho => rfl); (case hg => rfl); (case hn => rfl); (case hr => first | (go_simp; done) | (go_simp; rfl)); intro w21 hw; have n0_ : Aside0 (w21.heap[gb403]? = some (.cells #[.int .i64 a0_0, .int .i64 a0_1] 62 (0, 0))) := ⟨(by rw [hw]; exact (by (with_reducible repeat (first | refine blk_drewN ?_ _ | refine blk_drew ?_ | refine blk_alloc ?_ _)); refine blk_far ?_ NB403_405.out _; (with_reducible repeat (first | refine blk_drewN ?_ _ | refine blk_drew ?_ | refine blk_alloc ?_ _)); refine blk_far ?_ NB403_405.out _; (with_reducible repeat (first | refine blk_drewN ?_ _ | refine blk_drew ?_ | refine blk_alloc ?_ _)); refine blk_far ?_ NB403_405.out _; (with_reducible repeat (first | refine blk_drewN ?_ _ | refine blk_drew ?_ | refine blk_alloc ?_ _)); refine blk_far ?_ NB403_405.out _; (with_reducible repeat (first | refine blk_drewN ?_ _ | refine blk_drew ?_ | refine blk_alloc ?_ _)); refine blk_far ?_ NB403_405.out _; (with_reducible repeat (first | refine blk_drewN ?_ _ | refine blk_drew ?_ | refine blk_alloc ?_ _)); exact BK403.out))⟩; have n1_ : Aside0 (w21.heap[gb404]? = some (.cells #[.bool a2_0, .bool a2_1, .bool a2_2, .int .u64 a2_3, .int .i64 a2_4] 66 (0, 0))) := ⟨(by rw [hw]; exact (by (with_reducible repeat (first | refine blk_drewN ?_ _ | refine blk_drew ?_ | refine blk_alloc ?_ _)); refine blk_far ?_ NB404_405.out _; (with_reducible repeat (first | refine blk_drewN ?_ _ | refine blk_drew ?_ | refine blk_alloc ?_ _)); refine blk_far ?_ NB404_405.out _; (with_reducible repeat (first | refine blk_drewN ?_ _ | refine blk_drew ?_ | refine blk_alloc ?_ _)); refine blk_far ?_ NB404_405.out _; (with_reducible repeat (first | refine blk_drewN ?_ _ | refine blk_drew ?_ | refine blk_alloc ?_ _)); refine blk_far ?_ NB404_405.out _; (with_reducible repeat (first | refine blk_drewN ?_ _ | refine blk_drew ?_ | refine blk_alloc ?_ _)); refine blk_far ?_ NB404_405.out _; (with_reducible repeat (first | refine blk_drewN ?_ _ | refine blk_drew ?_ | refine blk_alloc ?_ _)); exact BK404.out))⟩; have n2_ : Aside0 (w21.heap[gb405]? = some (.cells #[.bool a1_0, .bool a1_1, .bool a1_2, .int .u64 a1_3, .int .i64 a1_4] 66 (0, 0))) := ⟨(by rw [hw]; exact (by (with_reducible repeat (first | refine blk_drewN ?_ _ | refine blk_drew ?_ | refine blk_alloc ?_ _)); refine blk_put (cs := #[.bool a1_0, .bool a1_1, .bool a1_2, .int .u64 a1_3, .int .i64 a2_4]) ?_ 4 _ rfl; (with_reducible repeat (first | refine blk_drewN ?_ _ | refine blk_drew ?_ | refine blk_alloc ?_ _)); refine blk_put (cs := #[.bool a1_0, .bool a1_1, .bool a1_2, .int .u64 a2_3, .int .i64 a2_4]) ?_ 3 _ rfl; (with_reducible repeat (first | refine blk_drewN ?_ _ | refine blk_drew ?_ | refine blk_alloc ?_ _)); refine blk_put (cs := #[.bool a1_0, .bool a1_1, .bool a2_2, .int .u64 a2_3, .int .i64 a2_4]) ?_ 2 _ rfl; (with_reducible repeat (first | refine blk_drewN ?_ _ | refine blk_drew ?_ | refine blk_alloc ?_ _)); refine blk_put (cs := #[.bool a1_0, .bool a2_1, .bool a2_2, .int .u64 a2_3, .int .i64 a2_4]) ?_ 1 _ rfl; (with_reducible repeat (first | refine blk_drewN ?_ _ | refine blk_drew ?_ | refine blk_alloc ?_ _)); refine blk_put (cs := #[.bool a2_0, .bool a2_1, .bool a2_2, .int .u64 a2_3, .int .i64 a2_4]) ?_ 0 _ rfl; (with_reducible repeat (first | refine blk_drewN ?_ _ | refine blk_drew ?_ | refine blk_alloc ?_ _)); exact BK405.out))⟩; have n3_ : Aside0 (Below w.heap.size w w21) := ⟨(by rw [hw]; exact (by repeat (first | (with_reducible first | exact HB.out | apply below_alloc | apply pw_below_drewN | apply below_drew1 | refine below_set ?_ GE403.out | refine below_set ?_ GE404.out | refine below_set ?_ GE405.out) | exact HB.out)))⟩; clear hw; clear BK403; clear BK404; clear BK405; clear HB; have BK403 := n0_; have BK404 := n1_; have BK405 := n2_; have HB := n3_; clear n0_ n1_ n2_ n3_)); try go_wp2_with (first | ((with_reducible refine gate_store (t := 66) (p := 4) rfl ?_); (try (rw [drewN_self w7]; generalize hq_ : World.drewN w7 _ = w7; have n0_ := Aside0.mk (blk_at hq_ BK403.out); have n1_ := Aside0.mk (blk_at hq_ BK404.out); have n2_ := Aside0.mk (blk_at hq_ BK405.out); have n3_ := Aside0.mk (below_at hq_ HB.out); clear hq_ BK403 BK404 BK405 HB; have BK403 := n0_; have BK404 := n1_; have BK405 := n2_; have HB := n3_; clear n0_ n1_ n2_ n3_)); refine store_event (t := 66) (p := 4) (v := ?vo_w19) (w1 := (((((w7.setCell ⟨gb404, 0, none⟩ (.bool a2_0)).setCell ⟨gb404, 1, none⟩ (.bool a2_1)).setCell ⟨gb404, 2, none⟩ (.bool a2_2)).setCell ⟨gb404, 3, none⟩ (.int .u64 a2_3)).setCell ⟨gb404, 4, none⟩ (.int .i64 a2_4))) ?hg ?ho ?hn ?hr ?_; (case ho => rfl); (case hg => rfl); (case hn => rfl); (case hr => first | (go_simp; done) | (go_simp; rfl)); intro w19 hw; have n0_ : Aside0 (w19.heap[gb403]? = some (.cells #[.int .i64 a0_0, .int .i64 a0_1] 62 (0, 0))) := ⟨(by rw [hw]; exact (by (with_reducible repeat (first | refine blk_drewN ?_ _ | refine blk_drew ?_ | refine blk_alloc ?_ _)); refine blk_far ?_ NB403_404.out _; (with_reducible repeat (first | refine blk_drewN ?_ _ | refine blk_drew ?_ | refine blk_alloc ?_ _)); refine blk_far ?_ NB403_404.out _; (with_reducible repeat (first | refine blk_drewN ?_ _ | refine blk_drew ?_ | refine blk_alloc ?_ _)); refine blk_far ?_ NB403_404.out _; (with_reducible repeat (first | refine blk_drewN ?_ _ | refine blk_drew ?_ | refine blk_alloc ?_ _)); refine blk_far ?_ NB403_404.out _; (with_reducible repeat (first | refine blk_drewN ?_ _ | refine blk_drew ?_ | refine blk_alloc ?_ _)); refine blk_far ?_ NB403_404.out _; (with_reducible repeat (first | refine blk_drewN ?_ _ | refine blk_drew ?_ | refine blk_alloc ?_ _)); exact BK403.out))⟩; have n1_ : Aside0 (w19.heap[gb404]? = some (.cells #[.bool a2_0, .bool a2_1, .bool a2_2, .int .u64 a2_3, .int .i64 a2_4] 66 (0, 0))) := ⟨(by rw [hw]; exact (by (with_reducible repeat (first | refine blk_drewN ?_ _ | refine blk_drew ?_ | refine blk_alloc ?_ _)); refine blk_put (cs := #[.bool a2_0, .bool a2_1, .bool a2_2, .int .u64 a2_3, .int .i64 a1_4]) ?_ 4 _ rfl; (with_reducible repeat (first | refine blk_drewN ?_ _ | refine blk_drew ?_ | refine blk_alloc ?_ _)); refine blk_put (cs := #[.bool a2_0, .bool a2_1, .bool a2_2, .int .u64 a1_3, .int .i64 a1_4]) ?_ 3 _ rfl; (with_reducible repeat (first | refine blk_drewN ?_ _ | refine blk_drew ?_ | refine blk_alloc ?_ _)); refine blk_put (cs := #[.bool a2_0, .bool a2_1, .bool a1_2, .int .u64 a1_3, .int .i64 a1_4]) ?_ 2 _ rfl; (with_reducible repeat (first | refine blk_drewN ?_ _ | refine blk_drew ?_ | refine blk_alloc ?_ _)); refine blk_put (cs := #[.bool a2_0, .bool a1_1, .bool a1_2, .int .u64 a1_3, .int .i64 a1_4]) ?_ 1 _ rfl; (with_reducible repeat (first | refine blk_drewN ?_ _ | refine blk_drew ?_ | refine blk_alloc ?_ _)); refine blk_put (cs := #[.bool a1_0, .bool a1_1, .bool a1_2, .int .u64 a1_3, .int .i64 a1_4]) ?_ 0 _ rfl; (with_reducible repeat (first | refine blk_drewN ?_ _ | refine blk_drew ?_ | refine blk_alloc ?_ _)); exact BK404.out))⟩; have n2_ : Aside0 (w19.heap[gb405]? = some (.cells #[.bool a2_0, .bool a2_1, .bool a2_2, .int .u64 a2_3, .int .i64 a2_4] 66 (0, 0))) := ⟨(by rw [hw]; exact (by (with_reducible repeat (first | refine blk_drewN ?_ _ | refine blk_drew ?_ | refine blk_alloc ?_ _)); refine blk_far ?_ NB405_404.out _; (with_reducible repeat (first | refine blk_drewN ?_ _ | refine blk_drew ?_ | refine blk_alloc ?_ _)); refine blk_far ?_ NB405_404.out _; (with_reducible repeat (first | refine blk_drewN ?_ _ | refine blk_drew ?_ | refine blk_alloc ?_ _)); refine blk_far ?_ NB405_404.out _; (with_reducible repeat (first | refine blk_drewN ?_ _ | refine blk_drew ?_ | refine blk_alloc ?_ _)); refine blk_far ?_ NB405_404.out _; (with_reducible repeat (first | refine blk_drewN ?_ _ | refine blk_drew ?_ | refine blk_alloc ?_ _)); refine blk_far ?_ NB405_404.out _; (with_reducible repeat (first | refine blk_drewN ?_ _ | refine blk_drew ?_ | refine blk_alloc ?_ _)); exact BK405.out))⟩; have n3_ : Aside0 (Below w.heap.size w w19) := ⟨(by rw [hw]; exact (by repeat (first | (with_reducible first | exact HB.out | apply below_alloc | apply pw_below_drewN | apply below_drew1 | refine below_set ?_ GE403.out | refine below_set ?_ GE404.out | refine below_set ?_ GE405.out) | exact HB.out)))⟩; clear hw; clear BK403; clear BK404; clear BK405; clear HB; have BK403 := n0_; have BK404 := n1_; have BK405 := n2_; have HB := n3_; clear n0_ n1_ n2_ n3_; have hcz20_0 : w19.cell? ⟨gb405, 0, none⟩ = some (.bool a2_0) := (blk_cell BK405.out 0).trans rfl; have hcz20_1 : w19.cell? ⟨gb405, 1, none⟩ = some (.bool a2_1) := (blk_cell BK405.out 1).trans rfl; have hcz20_2 : w19.cell? ⟨gb405, 2, none⟩ = some (.bool a2_2) := (blk_cell BK405.out 2).trans rfl; have hcz20_3 : w19.cell? ⟨gb405, 3, none⟩ = some (.int .u64 a2_3) := (blk_cell BK405.out 3).trans rfl; have hcz20_4 : w19.cell? ⟨gb405, 4, none⟩ = some (.int .i64 a2_4) := (blk_cell BK405.out 4).trans rfl; have hfz20_0 := blk_frozen BK405.out 0; have hfz20_1 := blk_frozen BK405.out 1; have hfz20_2 := blk_frozen BK405.out 2; have hfz20_3 := blk_frozen BK405.out 3; have hfz20_4 := blk_frozen BK405.out 4) | ((with_reducible refine gate_store (t := 66) (p := 5) rfl ?_); (try (rw [drewN_self w19]; generalize hq_ : World.drewN w19 _ = w19; have n0_ := Aside0.mk (blk_at hq_ BK403.out); have n1_ := Aside0.mk (blk_at hq_ BK404.out); have n2_ := Aside0.mk (blk_at hq_ BK405.out); have n3_ := Aside0.mk (below_at hq_ HB.out); clear hq_ BK403 BK404 BK405 HB; have BK403 := n0_; have BK404 := n1_; have BK405 := n2_; have HB := n3_; clear n0_ n1_ n2_ n3_)); refine store_event (t := 66) (p := 5) (v := ?vo_w21) (w1 := (((((w19.setCell ⟨gb405, 0, none⟩ (.bool a1_0)).setCell ⟨gb405, 1, none⟩ (.bool a1_1)).setCell ⟨gb405, 2, none⟩ (.bool a1_2)).setCell ⟨gb405, 3, none⟩ (.int .u64 a1_3)).setCell ⟨gb405, 4, none⟩ (.int .i64 a1_4))) ?hg ?ho ?hn ?hr ?_; (case ho => rfl); (case hg => rfl); (case hn => rfl); (case hr => first | (go_simp; done) | (go_simp; rfl)); intro w21 hw; have n0_ : Aside0 (w21.heap[gb403]? = some (.cells #[.int .i64 a0_0, .int .i64 a0_1] 62 (0, 0))) := ⟨(by rw [hw]; exact (by (with_reducible repeat (first | refine blk_drewN ?_ _ | refine blk_drew ?_ | refine blk_alloc ?_ _)); refine blk_far ?_ NB403_405.out _; (with_reducible repeat (first | refine blk_drewN ?_ _ | refine blk_drew ?_ | refine blk_alloc ?_ _)); refine blk_far ?_ NB403_405.out _; (with_reducible repeat (first | refine blk_drewN ?_ _ | refine blk_drew ?_ | refine blk_alloc ?_ _)); refine blk_far ?_ NB403_405.out _; (with_reducible repeat (first | refine blk_drewN ?_ _ | refine blk_drew ?_ | refine blk_alloc ?_ _)); refine blk_far ?_ NB403_405.out _; (with_reducible repeat (first | refine blk_drewN ?_ _ | refine blk_drew ?_ | refine blk_alloc ?_ _)); refine blk_far ?_ NB403_405.out _; (with_reducible repeat (first | refine blk_drewN ?_ _ | refine blk_drew ?_ | refine blk_alloc ?_ _)); exact BK403.out))⟩; have n1_ : Aside0 (w21.heap[gb404]? = some (.cells #[.bool a2_0, .bool a2_1, .bool a2_2, .int .u64 a2_3, .int .i64 a2_4] 66 (0, 0))) := ⟨(by rw [hw]; exact (by (with_reducible repeat (first | refine blk_drewN ?_ _ | refine blk_drew ?_ | refine blk_alloc ?_ _)); refine blk_far ?_ NB404_405.out _; (with_reducible repeat (first | refine blk_drewN ?_ _ | refine blk_drew ?_ | refine blk_alloc ?_ _)); refine blk_far ?_ NB404_405.out _; (with_reducible repeat (first | refine blk_drewN ?_ _ | refine blk_drew ?_ | refine blk_alloc ?_ _)); refine blk_far ?_ NB404_405.out _; (with_reducible repeat (first | refine blk_drewN ?_ _ | refine blk_drew ?_ | refine blk_alloc ?_ _)); refine blk_far ?_ NB404_405.out _; (with_reducible repeat (first | refine blk_drewN ?_ _ | refine blk_drew ?_ | refine blk_alloc ?_ _)); refine blk_far ?_ NB404_405.out _; (with_reducible repeat (first | refine blk_drewN ?_ _ | refine blk_drew ?_ | refine blk_alloc ?_ _)); exact BK404.out))⟩; have n2_ : Aside0 (w21.heap[gb405]? = some (.cells #[.bool a1_0, .bool a1_1, .bool a1_2, .int .u64 a1_3, .int .i64 a1_4] 66 (0, 0))) := ⟨(by rw [hw]; exact (by (with_reducible repeat (first | refine blk_drewN ?_ _ | refine blk_drew ?_ | refine blk_alloc ?_ _)); refine blk_put (cs := #[.bool a1_0, .bool a1_1, .bool a1_2, .int .u64 a1_3, .int .i64 a2_4]) ?_ 4 _ rfl; (with_reducible repeat (first | refine blk_drewN ?_ _ | refine blk_drew ?_ | refine blk_alloc ?_ _)); refine blk_put (cs := #[.bool a1_0, .bool a1_1, .bool a1_2, .int .u64 a2_3, .int .i64 a2_4]) ?_ 3 _ rfl; (with_reducible repeat (first | refine blk_drewN ?_ _ | refine blk_drew ?_ | refine blk_alloc ?_ _)); refine blk_put (cs := #[.bool a1_0, .bool a1_1, .bool a2_2, .int .u64 a2_3, .int .i64 a2_4]) ?_ 2 _ rfl; (with_reducible repeat (first | refine blk_drewN ?_ _ | refine blk_drew ?_ | refine blk_alloc ?_ _)); refine blk_put (cs := #[.bool a1_0, .bool a2_1, .bool a2_2, .int .u64 a2_3, .int .i64 a2_4]) ?_ 1 _ rfl; (with_reducible repeat (first | refine blk_drewN ?_ _ | refine blk_drew ?_ | refine blk_alloc ?_ _)); refine blk_put (cs := #[.bool a2_0, .bool a2_1, .bool a2_2, .int .u64 a2_3, .int .i64 a2_4]) ?_ 0 _ rfl; (with_reducible repeat (first | refine blk_drewN ?_ _ | refine blk_drew ?_ | refine blk_alloc ?_ _)); exact BK405.out))⟩; have n3_ : Aside0 (Below w.heap.size w w21) := ⟨(by rw [hw]; exact (by repeat (first | (with_reducible first | exact HB.out | apply below_alloc | apply pw_below_drewN | apply below_drew1 | refine below_set ?_ GE403.out | refine below_set ?_ GE404.out | refine below_set ?_ GE405.out) | exact HB.out)))⟩; clear hw; clear BK403; clear BK404; clear BK405; clear HB; have BK403 := n0_; have BK404 := n1_; have BK405 := n2_; have HB := n3_; clear n0_ n1_ n2_ n3_)))
   go_meet
   case rel => exact ⟨_, (a2_0), (a2_1), (a2_2), (a2_3), (a2_4), (a1_0), (a1_1), (a1_2), (a1_3), (a1_4), H', ⟨by first | omega | exact Nat.le_refl _⟩, ⟨by (with_reducible repeat (first | refine blk_drewN ?_ _ | refine blk_drew ?_ | refine blk_alloc ?_ _)); exact BK403.out⟩, ⟨by (with_reducible repeat (first | refine blk_drewN ?_ _ | refine blk_drew ?_ | refine blk_alloc ?_ _)); exact BK404.out⟩, ⟨by (with_reducible repeat (first | refine blk_drewN ?_ _ | refine blk_drew ?_ | refine blk_alloc ?_ _)); exact BK405.out⟩, ⟨by repeat (first | (with_reducible first | exact HB.out | apply below_alloc | apply pw_below_drewN | apply below_drew1 | refine below_set ?_ GE403.out | refine below_set ?_ GE404.out | refine below_set ?_ GE405.out) | exact HB.out)⟩⟩
  ·
   rw [if_neg c13] at H
   have c13b0 : decide (a1_4 < a2_4) = false := decide_eq_false c13
   clear c13
   (first | rw [c13b0] | (simp only [i64_w, i32_w]; rw [c13b0]) | skip)
   have H' := Aside0.mk H
   clear H
   go_wp2
   repeat (go_quiet (fail); try go_wp2)
   go_meet
   case rel => exact ⟨_, (a1_0), (a1_1), (a1_2), (a1_3), (a1_4), (a2_0), (a2_1), (a2_2), (a2_3), (a2_4), H', ⟨by first | omega | exact Nat.le_refl _⟩, ⟨by (with_reducible repeat (first | refine blk_drewN ?_ _ | refine blk_drew ?_ | refine blk_alloc ?_ _)); exact BK403.out⟩, ⟨by (with_reducible repeat (first | refine blk_drewN ?_ _ | refine blk_drew ?_ | refine blk_alloc ?_ _)); exact BK404.out⟩, ⟨by (with_reducible repeat (first | refine blk_drewN ?_ _ | refine blk_drew ?_ | refine blk_alloc ?_ _)); exact BK405.out⟩, ⟨by repeat (first | (with_reducible first | exact HB.out | apply below_alloc | apply pw_below_drewN | apply below_drew1 | refine below_set ?_ GE403.out | refine below_set ?_ GE404.out | refine below_set ?_ GE405.out) | exact HB.out)⟩⟩
 case rest =>
  clear HC4
  try clear c1
  try clear p2
  try clear c6
  try clear c8
  try clear c9
  try clear c11
  try clear c13
  try clear c13b0
  try clear c14
  try clear c15
  try clear c17
  try clear hcz10_0 hcz10_1 hcz10_2 hcz10_3 hcz10_4
  try clear hcz12_0 hcz12_1 hcz12_2 hcz12_3 hcz12_4
  try clear hcz16_0 hcz16_1 hcz16_2 hcz16_3 hcz16_4
  try clear hcz18_0 hcz18_1 hcz18_2 hcz18_3 hcz18_4
  try clear hcz20_0 hcz20_1 hcz20_2 hcz20_3 hcz20_4
  try clear hfz10_0 hfz10_1 hfz10_2 hfz10_3 hfz10_4
  try clear hfz12_0 hfz12_1 hfz12_2 hfz12_3 hfz12_4
  try clear hfz16_0 hfz16_1 hfz16_2 hfz16_3 hfz16_4
  try clear hfz18_0 hfz18_1 hfz18_2 hfz18_3 hfz18_4
  try clear hfz20_0 hfz20_1 hfz20_2 hfz20_3 hfz20_4
  obtain ⟨kq, x405000_3, x405001_3, x405002_3, x405003_3, x405004_3, x406000_3, x406001_3, x406002_3, x406003_3, x406004_3, HA, HJ3, BK403, BK404, BK405, HB⟩ := hcut
  cases kq with
  | zero => exact absurd HA.out (by simp [impl_format_sum.j0])
  | succ kj3 =>
   have H := HA.out
   clear HA
   simp only [impl_format_sum.j0] at H
   by_cases c22 : (wrap64 (x405004_3 - x406004_3)) ≤ 35
   ·
    rw [if_pos c22] at H
    have c22b0 : decide ((wrap64 (x405004_3 - x406004_3)) ≤ 35) = true := decide_eq_true c22
    clear c22
    obtain ⟨ji23, hji23⟩ : ∃ j_ : Int, (wrap64 (x405004_3 - x406004_3)) = j_ := ⟨_, rfl⟩
    replace H : (if 0 ≤ (ji23) then (if (x405000_3 == x406000_3) = true then ((impl_format_round.f kj3 a0_0 a0_1 x405000_3 (IntKind.u64.wrap ((shl .u64 x405003_3 (ji23)) + x406003_3)) x406004_3 false).bind fun t406 => (some t406)) else (if (shl .u64 x405003_3 (ji23)) > x406003_3 then ((impl_format_round.f kj3 a0_0 a0_1 x405000_3 (IntKind.u64.wrap ((shl .u64 x405003_3 (ji23)) - x406003_3)) x406004_3 false).bind fun t407 => (some t407)) else (if (shl .u64 x405003_3 (ji23)) < x406003_3 then ((impl_format_round.f kj3 a0_0 a0_1 x406000_3 (IntKind.u64.wrap (x406003_3 - (shl .u64 x405003_3 (ji23)))) x406004_3 false).bind fun t408 => (some t408)) else (some 0)))) else (none)) = some r := by first | (rw [hji23] at H; exact H) | (simp only [hji23] at H ⊢; exact H)
    (try rw [hji23] at c22b0)
    have hji23w : (IntKind.i64.wrap (x405004_3 - x406004_3)) = ji23 := (i64_w _).trans hji23
    by_cases c24 : 0 ≤ (ji23)
    ·
     rw [if_pos c24] at H
     have c24b0 := eq_true c24
     have c24b1 : decide (0 ≤ (ji23)) = true := decide_eq_true c24
     clear c24
     obtain ⟨ji25, hji25⟩ : ∃ j_ : Int, (shl .u64 x405003_3 (ji23)) = j_ := ⟨_, rfl⟩
     replace H : (if (x405000_3 == x406000_3) = true then ((impl_format_round.f kj3 a0_0 a0_1 x405000_3 (IntKind.u64.wrap ((ji25) + x406003_3)) x406004_3 false).bind fun t406 => (some t406)) else (if (ji25) > x406003_3 then ((impl_format_round.f kj3 a0_0 a0_1 x405000_3 (IntKind.u64.wrap ((ji25) - x406003_3)) x406004_3 false).bind fun t407 => (some t407)) else (if (ji25) < x406003_3 then ((impl_format_round.f kj3 a0_0 a0_1 x406000_3 (IntKind.u64.wrap (x406003_3 - (ji25))) x406004_3 false).bind fun t408 => (some t408)) else (some 0)))) = some r := by first | (rw [hji25] at H; exact H) | (simp only [hji25] at H ⊢; exact H)
     have hji25_ : (IntKind.u64.wrap (x405003_3 * 2 ^ min (ji23).toNat 64)) = ji25 := hji25
     have hji25z : (ji23) ≤ 64 → (IntKind.u64.wrap (x405003_3 * 2 ^ (ji23).toNat)) = ji25 := shl_small hji25
     by_cases c26 : (x405000_3 == x406000_3) = true
     ·
      rw [if_pos c26] at H
      have c26b0 : (x405000_3 == x406000_3) = true := c26
      (try (have c26b1 : decide (x405000_3 = x406000_3) = true := by simpa using c26))
      (try (have c26b2 : (x405000_3 == x406000_3) = true := by simpa using c26))
      clear c26
      replace H := Option.bind_eq_some_iff.mp H
      obtain ⟨t406, A270, H⟩ := H
      replace H : (some t406) = some r := H
      have A27 := Aside0.mk A270
      clear A270
      obtain rfl := Option.some.inj H
      simp only [Option.some.injEq, Prod.mk.injEq] at H
      obtain ⟨rfl⟩ := H
      have hnb28 := NB404_403.out
      have hnc28 := NB403_404.out
      have hnb29 := NB404_405.out
      have hnc29 := NB405_404.out
      have hcz30_0 : wc.cell? ⟨gb404, 0, none⟩ = some (.bool x405000_3) := (blk_cell BK404.out 0).trans rfl
      have hcz30_1 : wc.cell? ⟨gb404, 1, none⟩ = some (.bool x405001_3) := (blk_cell BK404.out 1).trans rfl
      have hcz30_2 : wc.cell? ⟨gb404, 2, none⟩ = some (.bool x405002_3) := (blk_cell BK404.out 2).trans rfl
      have hcz30_3 : wc.cell? ⟨gb404, 3, none⟩ = some (.int .u64 x405003_3) := (blk_cell BK404.out 3).trans rfl
      have hcz30_4 : wc.cell? ⟨gb404, 4, none⟩ = some (.int .i64 x405004_3) := (blk_cell BK404.out 4).trans rfl
      have hfz30_0 := blk_frozen BK404.out 0
      have hfz30_1 := blk_frozen BK404.out 1
      have hfz30_2 := blk_frozen BK404.out 2
      have hfz30_3 := blk_frozen BK404.out 3
      have hfz30_4 := blk_frozen BK404.out 4
      have hnb31 := NB405_403.out
      have hnc31 := NB403_405.out
      have hcz32_0 : wc.cell? ⟨gb405, 0, none⟩ = some (.bool x406000_3) := (blk_cell BK405.out 0).trans rfl
      have hcz32_1 : wc.cell? ⟨gb405, 1, none⟩ = some (.bool x406001_3) := (blk_cell BK405.out 1).trans rfl
      have hcz32_2 : wc.cell? ⟨gb405, 2, none⟩ = some (.bool x406002_3) := (blk_cell BK405.out 2).trans rfl
      have hcz32_3 : wc.cell? ⟨gb405, 3, none⟩ = some (.int .u64 x406003_3) := (blk_cell BK405.out 3).trans rfl
      have hcz32_4 : wc.cell? ⟨gb405, 4, none⟩ = some (.int .i64 x406004_3) := (blk_cell BK405.out 4).trans rfl
      have hfz32_0 := blk_frozen BK405.out 0
      have hfz32_1 := blk_frozen BK405.out 1
      have hfz32_2 := blk_frozen BK405.out 2
      have hfz32_3 := blk_frozen BK405.out 3
      have hfz32_4 := blk_frozen BK405.out 4
      have hcz33_0 : wc.cell? ⟨gb403, 0, none⟩ = some (.int .i64 a0_0) := (blk_cell BK403.out 0).trans rfl
      have hcz33_1 : wc.cell? ⟨gb403, 1, none⟩ = some (.int .i64 a0_1) := (blk_cell BK403.out 1).trans rfl
      have hfz33_0 := blk_frozen BK403.out 0
      have hfz33_1 := blk_frozen BK403.out 1
      go_wp2_with (first | (go_at_call 55; (with_reducible refine (impl_format_round.calls kj3 a0_0 a0_1 x405000_3 (IntKind.u64.wrap ((ji25) + x406003_3)) x406004_3 false t406 _ A27.out).mono ?_); rintro e w34 ⟨rfl, hb⟩; have n0_ := Aside0.mk (blk_below (g := gb403) (o := .cells #[.int .i64 a0_0, .int .i64 a0_1] 62 (0, 0)) (by (with_reducible repeat (first | refine blk_drewN ?_ _ | refine blk_drew ?_ | refine blk_alloc ?_ _)); refine blk_far ?_ NB403_404.out _; (with_reducible repeat (first | refine blk_drewN ?_ _ | refine blk_drew ?_ | refine blk_alloc ?_ _)); exact BK403.out) hb); have n1_ := Aside0.mk (blk_below (g := gb404) (o := .cells #[.bool x405000_3, .bool x405001_3, .bool x405002_3, .int .u64 ji25, .int .i64 x405004_3] 66 (0, 0)) (by (with_reducible repeat (first | refine blk_drewN ?_ _ | refine blk_drew ?_ | refine blk_alloc ?_ _)); refine blk_put (cs := #[.bool x405000_3, .bool x405001_3, .bool x405002_3, .int .u64 x405003_3, .int .i64 x405004_3]) ?_ 3 _ rfl; (with_reducible repeat (first | refine blk_drewN ?_ _ | refine blk_drew ?_ | refine blk_alloc ?_ _)); exact BK404.out) hb); have n2_ := Aside0.mk (blk_below (g := gb405) (o := .cells #[.bool x406000_3, .bool x406001_3, .bool x406002_3, .int .u64 x406003_3, .int .i64 x406004_3] 66 (0, 0)) (by (with_reducible repeat (first | refine blk_drewN ?_ _ | refine blk_drew ?_ | refine blk_alloc ?_ _)); refine blk_far ?_ NB405_404.out _; (with_reducible repeat (first | refine blk_drewN ?_ _ | refine blk_drew ?_ | refine blk_alloc ?_ _)); exact BK405.out) hb); have n3_ := Aside0.mk (below_step (by repeat (first | (with_reducible first | exact HB.out | apply below_alloc | apply pw_below_drewN | apply below_drew1 | refine below_set ?_ GE403.out | refine below_set ?_ GE404.out | refine below_set ?_ GE405.out) | exact HB.out)) hb); clear BK403; clear BK404; clear BK405; clear HB; have BK403 := n0_; have BK404 := n1_; have BK405 := n2_; have HB := n3_; clear n0_ n1_ n2_ n3_; (try clear hb); (try clear hb2); (try clear hk); (try clear hi)))
      repeat (go_quiet (first | (go_at_call 55; (with_reducible refine (impl_format_round.calls kj3 a0_0 a0_1 x405000_3 (IntKind.u64.wrap ((ji25) + x406003_3)) x406004_3 false t406 _ A27.out).mono ?_); rintro e w34 ⟨rfl, hb⟩; have n0_ := Aside0.mk (blk_below (g := gb403) (o := .cells #[.int .i64 a0_0, .int .i64 a0_1] 62 (0, 0)) (by (with_reducible repeat (first | refine blk_drewN ?_ _ | refine blk_drew ?_ | refine blk_alloc ?_ _)); refine blk_far ?_ NB403_404.out _; (with_reducible repeat (first | refine blk_drewN ?_ _ | refine blk_drew ?_ | refine blk_alloc ?_ _)); exact BK403.out) hb); have n1_ := Aside0.mk (blk_below (g := gb404) (o := .cells #[.bool x405000_3, .bool x405001_3, .bool x405002_3, .int .u64 ji25, .int .i64 x405004_3] 66 (0, 0)) (by (with_reducible repeat (first | refine blk_drewN ?_ _ | refine blk_drew ?_ | refine blk_alloc ?_ _)); refine blk_put (cs := #[.bool x405000_3, .bool x405001_3, .bool x405002_3, .int .u64 x405003_3, .int .i64 x405004_3]) ?_ 3 _ rfl; (with_reducible repeat (first | refine blk_drewN ?_ _ | refine blk_drew ?_ | refine blk_alloc ?_ _)); exact BK404.out) hb); have n2_ := Aside0.mk (blk_below (g := gb405) (o := .cells #[.bool x406000_3, .bool x406001_3, .bool x406002_3, .int .u64 x406003_3, .int .i64 x406004_3] 66 (0, 0)) (by (with_reducible repeat (first | refine blk_drewN ?_ _ | refine blk_drew ?_ | refine blk_alloc ?_ _)); refine blk_far ?_ NB405_404.out _; (with_reducible repeat (first | refine blk_drewN ?_ _ | refine blk_drew ?_ | refine blk_alloc ?_ _)); exact BK405.out) hb); have n3_ := Aside0.mk (below_step (by repeat (first | (with_reducible first | exact HB.out | apply below_alloc | apply pw_below_drewN | apply below_drew1 | refine below_set ?_ GE403.out | refine below_set ?_ GE404.out | refine below_set ?_ GE405.out) | exact HB.out)) hb); clear BK403; clear BK404; clear BK405; clear HB; have BK403 := n0_; have BK404 := n1_; have BK405 := n2_; have HB := n3_; clear n0_ n1_ n2_ n3_; (try clear hb); (try clear hb2); (try clear hk); (try clear hi))); try go_wp2_with (first | (go_at_call 55; (with_reducible refine (impl_format_round.calls kj3 a0_0 a0_1 x405000_3 (IntKind.u64.wrap ((ji25) + x406003_3)) x406004_3 false t406 _ A27.out).mono ?_); rintro e w34 ⟨rfl, hb⟩; have n0_ := Aside0.mk (blk_below (g := gb403) (o := .cells #[.int .i64 a0_0, .int .i64 a0_1] 62 (0, 0)) (by (with_reducible repeat (first | refine blk_drewN ?_ _ | refine blk_drew ?_ | refine blk_alloc ?_ _)); refine blk_far ?_ NB403_404.out _; (with_reducible repeat (first | refine blk_drewN ?_ _ | refine blk_drew ?_ | refine blk_alloc ?_ _)); exact BK403.out) hb); have n1_ := Aside0.mk (blk_below (g := gb404) (o := .cells #[.bool x405000_3, .bool x405001_3, .bool x405002_3, .int .u64 ji25, .int .i64 x405004_3] 66 (0, 0)) (by (with_reducible repeat (first | refine blk_drewN ?_ _ | refine blk_drew ?_ | refine blk_alloc ?_ _)); refine blk_put (cs := #[.bool x405000_3, .bool x405001_3, .bool x405002_3, .int .u64 x405003_3, .int .i64 x405004_3]) ?_ 3 _ rfl; (with_reducible repeat (first | refine blk_drewN ?_ _ | refine blk_drew ?_ | refine blk_alloc ?_ _)); exact BK404.out) hb); have n2_ := Aside0.mk (blk_below (g := gb405) (o := .cells #[.bool x406000_3, .bool x406001_3, .bool x406002_3, .int .u64 x406003_3, .int .i64 x406004_3] 66 (0, 0)) (by (with_reducible repeat (first | refine blk_drewN ?_ _ | refine blk_drew ?_ | refine blk_alloc ?_ _)); refine blk_far ?_ NB405_404.out _; (with_reducible repeat (first | refine blk_drewN ?_ _ | refine blk_drew ?_ | refine blk_alloc ?_ _)); exact BK405.out) hb); have n3_ := Aside0.mk (below_step (by repeat (first | (with_reducible first | exact HB.out | apply below_alloc | apply pw_below_drewN | apply below_drew1 | refine below_set ?_ GE403.out | refine below_set ?_ GE404.out | refine below_set ?_ GE405.out) | exact HB.out)) hb); clear BK403; clear BK404; clear BK405; clear HB; have BK403 := n0_; have BK404 := n1_; have BK405 := n2_; have HB := n3_; clear n0_ n1_ n2_ n3_; (try clear hb); (try clear hb2); (try clear hk); (try clear hi))))
      go_ret
      exact ⟨by first | rfl | (simp [errW_none, errW_some] <;> rfl) | (simp only [← hji23, ← hji25]; first | rfl | (simp [errW_none, errW_some] <;> rfl)) | (simp [*, errW_none, errW_some] <;> rfl), by repeat (first | (with_reducible first | exact HB.out | apply below_alloc | apply pw_below_drewN | apply below_drew1 | refine below_set ?_ GE403.out | refine below_set ?_ GE404.out | refine below_set ?_ GE405.out) | exact HB.out)⟩
     ·
      rw [if_neg c26] at H
      have c26b0 : (x405000_3 == x406000_3) = false := by simpa using c26
      (try (have c26b1 : decide (x405000_3 = x406000_3) = false := by simpa using c26))
      (try (have c26b2 : (x405000_3 == x406000_3) = false := by simpa using c26))
      (try (have c26b3 : ¬ (x405000_3 = x406000_3) := by simpa using c26))
      clear c26
      by_cases c35 : (ji25) > x406003_3
      ·
       rw [if_pos c35] at H
       have c35b0 : decide (x406003_3 < (ji25)) = true := decide_eq_true c35
       clear c35
       replace H := Option.bind_eq_some_iff.mp H
       obtain ⟨t407, A360, H⟩ := H
       replace H : (some t407) = some r := H
       have A36 := Aside0.mk A360
       clear A360
       obtain rfl := Option.some.inj H
       simp only [Option.some.injEq, Prod.mk.injEq] at H
       obtain ⟨rfl⟩ := H
       have hnb37 := NB404_403.out
       have hnc37 := NB403_404.out
       have hnb38 := NB404_405.out
       have hnc38 := NB405_404.out
       have hcz39_0 : wc.cell? ⟨gb404, 0, none⟩ = some (.bool x405000_3) := (blk_cell BK404.out 0).trans rfl
       have hcz39_1 : wc.cell? ⟨gb404, 1, none⟩ = some (.bool x405001_3) := (blk_cell BK404.out 1).trans rfl
       have hcz39_2 : wc.cell? ⟨gb404, 2, none⟩ = some (.bool x405002_3) := (blk_cell BK404.out 2).trans rfl
       have hcz39_3 : wc.cell? ⟨gb404, 3, none⟩ = some (.int .u64 x405003_3) := (blk_cell BK404.out 3).trans rfl
       have hcz39_4 : wc.cell? ⟨gb404, 4, none⟩ = some (.int .i64 x405004_3) := (blk_cell BK404.out 4).trans rfl
       have hfz39_0 := blk_frozen BK404.out 0
       have hfz39_1 := blk_frozen BK404.out 1
       have hfz39_2 := blk_frozen BK404.out 2
       have hfz39_3 := blk_frozen BK404.out 3
       have hfz39_4 := blk_frozen BK404.out 4
       have hnb40 := NB405_403.out
       have hnc40 := NB403_405.out
       have hcz41_0 : wc.cell? ⟨gb405, 0, none⟩ = some (.bool x406000_3) := (blk_cell BK405.out 0).trans rfl
       have hcz41_1 : wc.cell? ⟨gb405, 1, none⟩ = some (.bool x406001_3) := (blk_cell BK405.out 1).trans rfl
       have hcz41_2 : wc.cell? ⟨gb405, 2, none⟩ = some (.bool x406002_3) := (blk_cell BK405.out 2).trans rfl
       have hcz41_3 : wc.cell? ⟨gb405, 3, none⟩ = some (.int .u64 x406003_3) := (blk_cell BK405.out 3).trans rfl
       have hcz41_4 : wc.cell? ⟨gb405, 4, none⟩ = some (.int .i64 x406004_3) := (blk_cell BK405.out 4).trans rfl
       have hfz41_0 := blk_frozen BK405.out 0
       have hfz41_1 := blk_frozen BK405.out 1
       have hfz41_2 := blk_frozen BK405.out 2
       have hfz41_3 := blk_frozen BK405.out 3
       have hfz41_4 := blk_frozen BK405.out 4
       have hcz42_0 : wc.cell? ⟨gb403, 0, none⟩ = some (.int .i64 a0_0) := (blk_cell BK403.out 0).trans rfl
       have hcz42_1 : wc.cell? ⟨gb403, 1, none⟩ = some (.int .i64 a0_1) := (blk_cell BK403.out 1).trans rfl
       have hfz42_0 := blk_frozen BK403.out 0
       have hfz42_1 := blk_frozen BK403.out 1
       go_wp2_with (first | (go_at_call 55; (with_reducible refine (impl_format_round.calls kj3 a0_0 a0_1 x405000_3 (IntKind.u64.wrap ((ji25) - x406003_3)) x406004_3 false t407 _ A36.out).mono ?_); rintro e w43 ⟨rfl, hb⟩; have n0_ := Aside0.mk (blk_below (g := gb403) (o := .cells #[.int .i64 a0_0, .int .i64 a0_1] 62 (0, 0)) (by (with_reducible repeat (first | refine blk_drewN ?_ _ | refine blk_drew ?_ | refine blk_alloc ?_ _)); refine blk_far ?_ NB403_404.out _; (with_reducible repeat (first | refine blk_drewN ?_ _ | refine blk_drew ?_ | refine blk_alloc ?_ _)); exact BK403.out) hb); have n1_ := Aside0.mk (blk_below (g := gb404) (o := .cells #[.bool x405000_3, .bool x405001_3, .bool x405002_3, .int .u64 ji25, .int .i64 x405004_3] 66 (0, 0)) (by (with_reducible repeat (first | refine blk_drewN ?_ _ | refine blk_drew ?_ | refine blk_alloc ?_ _)); refine blk_put (cs := #[.bool x405000_3, .bool x405001_3, .bool x405002_3, .int .u64 x405003_3, .int .i64 x405004_3]) ?_ 3 _ rfl; (with_reducible repeat (first | refine blk_drewN ?_ _ | refine blk_drew ?_ | refine blk_alloc ?_ _)); exact BK404.out) hb); have n2_ := Aside0.mk (blk_below (g := gb405) (o := .cells #[.bool x406000_3, .bool x406001_3, .bool x406002_3, .int .u64 x406003_3, .int .i64 x406004_3] 66 (0, 0)) (by (with_reducible repeat (first | refine blk_drewN ?_ _ | refine blk_drew ?_ | refine blk_alloc ?_ _)); refine blk_far ?_ NB405_404.out _; (with_reducible repeat (first | refine blk_drewN ?_ _ | refine blk_drew ?_ | refine blk_alloc ?_ _)); exact BK405.out) hb); have n3_ := Aside0.mk (below_step (by repeat (first | (with_reducible first | exact HB.out | apply below_alloc | apply pw_below_drewN | apply below_drew1 | refine below_set ?_ GE403.out | refine below_set ?_ GE404.out | refine below_set ?_ GE405.out) | exact HB.out)) hb); clear BK403; clear BK404; clear BK405; clear HB; have BK403 := n0_; have BK404 := n1_; have BK405 := n2_; have HB := n3_; clear n0_ n1_ n2_ n3_; (try clear hb); (try clear hb2); (try clear hk); (try clear hi)))
       repeat (go_quiet (first | (go_at_call 55; (with_reducible refine (impl_format_round.calls kj3 a0_0 a0_1 x405000_3 (IntKind.u64.wrap ((ji25) - x406003_3)) x406004_3 false t407 _ A36.out).mono ?_); rintro e w43 ⟨rfl, hb⟩; have n0_ := Aside0.mk (blk_below (g := gb403) (o := .cells #[.int .i64 a0_0, .int .i64 a0_1] 62 (0, 0)) (by (with_reducible repeat (first | refine blk_drewN ?_ _ | refine blk_drew ?_ | refine blk_alloc ?_ _)); refine blk_far ?_ NB403_404.out _; (with_reducible repeat (first | refine blk_drewN ?_ _ | refine blk_drew ?_ | refine blk_alloc ?_ _)); exact BK403.out) hb); have n1_ := Aside0.mk (blk_below (g := gb404) (o := .cells #[.bool x405000_3, .bool x405001_3, .bool x405002_3, .int .u64 ji25, .int .i64 x405004_3] 66 (0, 0)) (by (with_reducible repeat (first | refine blk_drewN ?_ _ | refine blk_drew ?_ | refine blk_alloc ?_ _)); refine blk_put (cs := #[.bool x405000_3, .bool x405001_3, .bool x405002_3, .int .u64 x405003_3, .int .i64 x405004_3]) ?_ 3 _ rfl; (with_reducible repeat (first | refine blk_drewN ?_ _ | refine blk_drew ?_ | refine blk_alloc ?_ _)); exact BK404.out) hb); have n2_ := Aside0.mk (blk_below (g := gb405) (o := .cells #[.bool x406000_3, .bool x406001_3, .bool x406002_3, .int .u64 x406003_3, .int .i64 x406004_3] 66 (0, 0)) (by (with_reducible repeat (first | refine blk_drewN ?_ _ | refine blk_drew ?_ | refine blk_alloc ?_ _)); refine blk_far ?_ NB405_404.out _; (with_reducible repeat (first | refine blk_drewN ?_ _ | refine blk_drew ?_ | refine blk_alloc ?_ _)); exact BK405.out) hb); have n3_ := Aside0.mk (below_step (by repeat (first | (with_reducible first | exact HB.out | apply below_alloc | apply pw_below_drewN | apply below_drew1 | refine below_set ?_ GE403.out | refine below_set ?_ GE404.out | refine below_set ?_ GE405.out) | exact HB.out)) hb); clear BK403; clear BK404; clear BK405; clear HB; have BK403 := n0_; have BK404 := n1_; have BK405 := n2_; have HB := n3_; clear n0_ n1_ n2_ n3_; (try clear hb); (try clear hb2); (try clear hk); (try clear hi))); try go_wp2_with (first | (go_at_call 55; (with_reducible refine (impl_format_round.calls kj3 a0_0 a0_1 x405000_3 (IntKind.u64.wrap ((ji25) - x406003_3)) x406004_3 false t407 _ A36.out).mono ?_); rintro e w43 ⟨rfl, hb⟩; have n0_ := Aside0.mk (blk_below (g := gb403) (o := .cells #[.int .i64 a0_0, .int .i64 a0_1] 62 (0, 0)) (by (with_reducible repeat (first | refine blk_drewN ?_ _ | refine blk_drew ?_ | refine blk_alloc ?_ _)); refine blk_far ?_ NB403_404.out _; (with_reducible repeat (first | refine blk_drewN ?_ _ | refine blk_drew ?_ | refine blk_alloc ?_ _)); exact BK403.out) hb); have n1_ := Aside0.mk (blk_below (g := gb404) (o := .cells #[.bool x405000_3, .bool x405001_3, .bool x405002_3, .int .u64 ji25, .int .i64 x405004_3] 66 (0, 0)) (by (with_reducible repeat (first | refine blk_drewN ?_ _ | refine blk_drew ?_ | refine blk_alloc ?_ _)); refine blk_put (cs := #[.bool x405000_3, .bool x405001_3, .bool x405002_3, .int .u64 x405003_3, .int .i64 x405004_3]) ?_ 3 _ rfl; (with_reducible repeat (first | refine blk_drewN ?_ _ | refine blk_drew ?_ | refine blk_alloc ?_ _)); exact BK404.out) hb); have n2_ := Aside0.mk (blk_below (g := gb405) (o := .cells #[.bool x406000_3, .bool x406001_3, .bool x406002_3, .int .u64 x406003_3, .int .i64 x406004_3] 66 (0, 0)) (by (with_reducible repeat (first | refine blk_drewN ?_ _ | refine blk_drew ?_ | refine blk_alloc ?_ _)); refine blk_far ?_ NB405_404.out _; (with_reducible repeat (first | refine blk_drewN ?_ _ | refine blk_drew ?_ | refine blk_alloc ?_ _)); exact BK405.out) hb); have n3_ := Aside0.mk (below_step (by repeat (first | (with_reducible first | exact HB.out | apply below_alloc | apply pw_below_drewN | apply below_drew1 | refine below_set ?_ GE403.out | refine below_set ?_ GE404.out | refine below_set ?_ GE405.out) | exact HB.out)) hb); clear BK403; clear BK404; clear BK405; clear HB; have BK403 := n0_; have BK404 := n1_; have BK405 := n2_; have HB := n3_; clear n0_ n1_ n2_ n3_; (try clear hb); (try clear hb2); (try clear hk); (try clear hi))))
       go_ret
       exact ⟨by first | rfl | (simp [errW_none, errW_some] <;> rfl) | (simp only [← hji23, ← hji25]; first | rfl | (simp [errW_none, errW_some] <;> rfl)) | (simp [*, errW_none, errW_some] <;> rfl), by repeat (first | (with_reducible first | exact HB.out | apply below_alloc | apply pw_below_drewN | apply below_drew1 | refine below_set ?_ GE403.out | refine below_set ?_ GE404.out | refine below_set ?_ GE405.out) | exact HB.out)⟩
      ·
       rw [if_neg c35] at H
       have c35b0 : decide (x406003_3 < (ji25)) = false := decide_eq_false c35
       clear c35
       by_cases c44 : (ji25) < x406003_3
       ·
        rw [if_pos c44] at H
        have c44b0 : decide ((ji25) < x406003_3) = true := decide_eq_true c44
        clear c44
        replace H := Option.bind_eq_some_iff.mp H
        obtain ⟨t408, A450, H⟩ := H
        replace H : (some t408) = some r := H
        have A45 := Aside0.mk A450
        clear A450
        obtain rfl := Option.some.inj H
        simp only [Option.some.injEq, Prod.mk.injEq] at H
        obtain ⟨rfl⟩ := H
        have hnb46 := NB404_403.out
        have hnc46 := NB403_404.out
        have hnb47 := NB404_405.out
        have hnc47 := NB405_404.out
        have hcz48_0 : wc.cell? ⟨gb404, 0, none⟩ = some (.bool x405000_3) := (blk_cell BK404.out 0).trans rfl
        have hcz48_1 : wc.cell? ⟨gb404, 1, none⟩ = some (.bool x405001_3) := (blk_cell BK404.out 1).trans rfl
        have hcz48_2 : wc.cell? ⟨gb404, 2, none⟩ = some (.bool x405002_3) := (blk_cell BK404.out 2).trans rfl
        have hcz48_3 : wc.cell? ⟨gb404, 3, none⟩ = some (.int .u64 x405003_3) := (blk_cell BK404.out 3).trans rfl
        have hcz48_4 : wc.cell? ⟨gb404, 4, none⟩ = some (.int .i64 x405004_3) := (blk_cell BK404.out 4).trans rfl
        have hfz48_0 := blk_frozen BK404.out 0
        have hfz48_1 := blk_frozen BK404.out 1
        have hfz48_2 := blk_frozen BK404.out 2
        have hfz48_3 := blk_frozen BK404.out 3
        have hfz48_4 := blk_frozen BK404.out 4
        have hnb49 := NB405_403.out
        have hnc49 := NB403_405.out
        have hcz50_0 : wc.cell? ⟨gb405, 0, none⟩ = some (.bool x406000_3) := (blk_cell BK405.out 0).trans rfl
        have hcz50_1 : wc.cell? ⟨gb405, 1, none⟩ = some (.bool x406001_3) := (blk_cell BK405.out 1).trans rfl
        have hcz50_2 : wc.cell? ⟨gb405, 2, none⟩ = some (.bool x406002_3) := (blk_cell BK405.out 2).trans rfl
        have hcz50_3 : wc.cell? ⟨gb405, 3, none⟩ = some (.int .u64 x406003_3) := (blk_cell BK405.out 3).trans rfl
        have hcz50_4 : wc.cell? ⟨gb405, 4, none⟩ = some (.int .i64 x406004_3) := (blk_cell BK405.out 4).trans rfl
        have hfz50_0 := blk_frozen BK405.out 0
        have hfz50_1 := blk_frozen BK405.out 1
        have hfz50_2 := blk_frozen BK405.out 2
        have hfz50_3 := blk_frozen BK405.out 3
        have hfz50_4 := blk_frozen BK405.out 4
        have hcz51_0 : wc.cell? ⟨gb403, 0, none⟩ = some (.int .i64 a0_0) := (blk_cell BK403.out 0).trans rfl
        have hcz51_1 : wc.cell? ⟨gb403, 1, none⟩ = some (.int .i64 a0_1) := (blk_cell BK403.out 1).trans rfl
        have hfz51_0 := blk_frozen BK403.out 0
        have hfz51_1 := blk_frozen BK403.out 1
        go_wp2_with (first | (go_at_call 55; (with_reducible refine (impl_format_round.calls kj3 a0_0 a0_1 x406000_3 (IntKind.u64.wrap (x406003_3 - (ji25))) x406004_3 false t408 _ A45.out).mono ?_); rintro e w52 ⟨rfl, hb⟩; have n0_ := Aside0.mk (blk_below (g := gb403) (o := .cells #[.int .i64 a0_0, .int .i64 a0_1] 62 (0, 0)) (by (with_reducible repeat (first | refine blk_drewN ?_ _ | refine blk_drew ?_ | refine blk_alloc ?_ _)); refine blk_far ?_ NB403_404.out _; (with_reducible repeat (first | refine blk_drewN ?_ _ | refine blk_drew ?_ | refine blk_alloc ?_ _)); exact BK403.out) hb); have n1_ := Aside0.mk (blk_below (g := gb404) (o := .cells #[.bool x405000_3, .bool x405001_3, .bool x405002_3, .int .u64 ji25, .int .i64 x405004_3] 66 (0, 0)) (by (with_reducible repeat (first | refine blk_drewN ?_ _ | refine blk_drew ?_ | refine blk_alloc ?_ _)); refine blk_put (cs := #[.bool x405000_3, .bool x405001_3, .bool x405002_3, .int .u64 x405003_3, .int .i64 x405004_3]) ?_ 3 _ rfl; (with_reducible repeat (first | refine blk_drewN ?_ _ | refine blk_drew ?_ | refine blk_alloc ?_ _)); exact BK404.out) hb); have n2_ := Aside0.mk (blk_below (g := gb405) (o := .cells #[.bool x406000_3, .bool x406001_3, .bool x406002_3, .int .u64 x406003_3, .int .i64 x406004_3] 66 (0, 0)) (by (with_reducible repeat (first | refine blk_drewN ?_ _ | refine blk_drew ?_ | refine blk_alloc ?_ _)); refine blk_far ?_ NB405_404.out _; (with_reducible repeat (first | refine blk_drewN ?_ _ | refine blk_drew ?_ | refine blk_alloc ?_ _)); exact BK405.out) hb); have n3_ := Aside0.mk (below_step (by repeat (first | (with_reducible first | exact HB.out | apply below_alloc | apply pw_below_drewN | apply below_drew1 | refine below_set ?_ GE403.out | refine below_set ?_ GE404.out | refine below_set ?_ GE405.out) | exact HB.out)) hb); clear BK403; clear BK404; clear BK405; clear HB; have BK403 := n0_; have BK404 := n1_; have BK405 := n2_; have HB := n3_; clear n0_ n1_ n2_ n3_; (try clear hb); (try clear hb2); (try clear hk); (try clear hi)))
        repeat (go_quiet (first | (go_at_call 55; (with_reducible refine (impl_format_round.calls kj3 a0_0 a0_1 x406000_3 (IntKind.u64.wrap (x406003_3 - (ji25))) x406004_3 false t408 _ A45.out).mono ?_); rintro e w52 ⟨rfl, hb⟩; have n0_ := Aside0.mk (blk_below (g := gb403) (o := .cells #[.int .i64 a0_0, .int .i64 a0_1] 62 (0, 0)) (by (with_reducible repeat (first | refine blk_drewN ?_ _ | refine blk_drew ?_ | refine blk_alloc ?_ _)); refine blk_far ?_ NB403_404.out _; (with_reducible repeat (first | refine blk_drewN ?_ _ | refine blk_drew ?_ | refine blk_alloc ?_ _)); exact BK403.out) hb); have n1_ := Aside0.mk (blk_below (g := gb404) (o := .cells #[.bool x405000_3, .bool x405001_3, .bool x405002_3, .int .u64 ji25, .int .i64 x405004_3] 66 (0, 0)) (by (with_reducible repeat (first | refine blk_drewN ?_ _ | refine blk_drew ?_ | refine blk_alloc ?_ _)); refine blk_put (cs := #[.bool x405000_3, .bool x405001_3, .bool x405002_3, .int .u64 x405003_3, .int .i64 x405004_3]) ?_ 3 _ rfl; (with_reducible repeat (first | refine blk_drewN ?_ _ | refine blk_drew ?_ | refine blk_alloc ?_ _)); exact BK404.out) hb); have n2_ := Aside0.mk (blk_below (g := gb405) (o := .cells #[.bool x406000_3, .bool x406001_3, .bool x406002_3, .int .u64 x406003_3, .int .i64 x406004_3] 66 (0, 0)) (by (with_reducible repeat (first | refine blk_drewN ?_ _ | refine blk_drew ?_ | refine blk_alloc ?_ _)); refine blk_far ?_ NB405_404.out _; (with_reducible repeat (first | refine blk_drewN ?_ _ | refine blk_drew ?_ | refine blk_alloc ?_ _)); exact BK405.out) hb); have n3_ := Aside0.mk (below_step (by repeat (first | (with_reducible first | exact HB.out | apply below_alloc | apply pw_below_drewN | apply below_drew1 | refine below_set ?_ GE403.out | refine below_set ?_ GE404.out | refine below_set ?_ GE405.out) | exact HB.out)) hb); clear BK403; clear BK404; clear BK405; clear HB; have BK403 := n0_; have BK404 := n1_; have BK405 := n2_; have HB := n3_; clear n0_ n1_ n2_ n3_; (try clear hb); (try clear hb2); (try clear hk); (try clear hi))); try go_wp2_with (first | (go_at_call 55; (with_reducible refine (impl_format_round.calls kj3 a0_0 a0_1 x406000_3 (IntKind.u64.wrap (x406003_3 - (ji25))) x406004_3 false t408 _ A45.out).mono ?_); rintro e w52 ⟨rfl, hb⟩; have n0_ := Aside0.mk (blk_below (g := gb403) (o := .cells #[.int .i64 a0_0, .int .i64 a0_1] 62 (0, 0)) (by (with_reducible repeat (first | refine blk_drewN ?_ _ | refine blk_drew ?_ | refine blk_alloc ?_ _)); refine blk_far ?_ NB403_404.out _; (with_reducible repeat (first | refine blk_drewN ?_ _ | refine blk_drew ?_ | refine blk_alloc ?_ _)); exact BK403.out) hb); have n1_ := Aside0.mk (blk_below (g := gb404) (o := .cells #[.bool x405000_3, .bool x405001_3, .bool x405002_3, .int .u64 ji25, .int .i64 x405004_3] 66 (0, 0)) (by (with_reducible repeat (first | refine blk_drewN ?_ _ | refine blk_drew ?_ | refine blk_alloc ?_ _)); refine blk_put (cs := #[.bool x405000_3, .bool x405001_3, .bool x405002_3, .int .u64 x405003_3, .int .i64 x405004_3]) ?_ 3 _ rfl; (with_reducible repeat (first | refine blk_drewN ?_ _ | refine blk_drew ?_ | refine blk_alloc ?_ _)); exact BK404.out) hb); have n2_ := Aside0.mk (blk_below (g := gb405) (o := .cells #[.bool x406000_3, .bool x406001_3, .bool x406002_3, .int .u64 x406003_3, .int .i64 x406004_3] 66 (0, 0)) (by (with_reducible repeat (first | refine blk_drewN ?_ _ | refine blk_drew ?_ | refine blk_alloc ?_ _)); refine blk_far ?_ NB405_404.out _; (with_reducible repeat (first | refine blk_drewN ?_ _ | refine blk_drew ?_ | refine blk_alloc ?_ _)); exact BK405.out) hb); have n3_ := Aside0.mk (below_step (by repeat (first | (with_reducible first | exact HB.out | apply below_alloc | apply pw_below_drewN | apply below_drew1 | refine below_set ?_ GE403.out | refine below_set ?_ GE404.out | refine below_set ?_ GE405.out) | exact HB.out)) hb); clear BK403; clear BK404; clear BK405; clear HB; have BK403 := n0_; have BK404 := n1_; have BK405 := n2_; have HB := n3_; clear n0_ n1_ n2_ n3_; (try clear hb); (try clear hb2); (try clear hk); (try clear hi))))
        go_ret
        exact ⟨by first | rfl | (simp [errW_none, errW_some] <;> rfl) | (simp only [← hji23, ← hji25]; first | rfl | (simp [errW_none, errW_some] <;> rfl)) | (simp [*, errW_none, errW_some] <;> rfl), by repeat (first | (with_reducible first | exact HB.out | apply below_alloc | apply pw_below_drewN | apply below_drew1 | refine below_set ?_ GE403.out | refine below_set ?_ GE404.out | refine below_set ?_ GE405.out) | exact HB.out)⟩
       ·
        rw [if_neg c44] at H
        have c44b0 : decide ((ji25) < x406003_3) = false := decide_eq_false c44
        clear c44
        obtain rfl := Option.some.inj H
        simp only [Option.some.injEq, Prod.mk.injEq] at H
        obtain ⟨rfl⟩ := H
        have hnb53 := NB404_403.out
        have hnc53 := NB403_404.out
        have hnb54 := NB404_405.out
        have hnc54 := NB405_404.out
        have hcz55_0 : wc.cell? ⟨gb404, 0, none⟩ = some (.bool x405000_3) := (blk_cell BK404.out 0).trans rfl
        have hcz55_1 : wc.cell? ⟨gb404, 1, none⟩ = some (.bool x405001_3) := (blk_cell BK404.out 1).trans rfl
        have hcz55_2 : wc.cell? ⟨gb404, 2, none⟩ = some (.bool x405002_3) := (blk_cell BK404.out 2).trans rfl
        have hcz55_3 : wc.cell? ⟨gb404, 3, none⟩ = some (.int .u64 x405003_3) := (blk_cell BK404.out 3).trans rfl
        have hcz55_4 : wc.cell? ⟨gb404, 4, none⟩ = some (.int .i64 x405004_3) := (blk_cell BK404.out 4).trans rfl
        have hfz55_0 := blk_frozen BK404.out 0
        have hfz55_1 := blk_frozen BK404.out 1
        have hfz55_2 := blk_frozen BK404.out 2
        have hfz55_3 := blk_frozen BK404.out 3
        have hfz55_4 := blk_frozen BK404.out 4
        have hnb56 := NB405_403.out
        have hnc56 := NB403_405.out
        have hcz57_0 : wc.cell? ⟨gb405, 0, none⟩ = some (.bool x406000_3) := (blk_cell BK405.out 0).trans rfl
        have hcz57_1 : wc.cell? ⟨gb405, 1, none⟩ = some (.bool x406001_3) := (blk_cell BK405.out 1).trans rfl
        have hcz57_2 : wc.cell? ⟨gb405, 2, none⟩ = some (.bool x406002_3) := (blk_cell BK405.out 2).trans rfl
        have hcz57_3 : wc.cell? ⟨gb405, 3, none⟩ = some (.int .u64 x406003_3) := (blk_cell BK405.out 3).trans rfl
        have hcz57_4 : wc.cell? ⟨gb405, 4, none⟩ = some (.int .i64 x406004_3) := (blk_cell BK405.out 4).trans rfl
        have hfz57_0 := blk_frozen BK405.out 0
        have hfz57_1 := blk_frozen BK405.out 1
        have hfz57_2 := blk_frozen BK405.out 2
        have hfz57_3 := blk_frozen BK405.out 3
        have hfz57_4 := blk_frozen BK405.out 4
        go_wp2
        repeat (go_quiet (fail); try go_wp2)
        go_ret
        exact ⟨by first | rfl | (simp [errW_none, errW_some] <;> rfl) | (simp only [← hji23, ← hji25]; first | rfl | (simp [errW_none, errW_some] <;> rfl)) | (simp [*, errW_none, errW_some] <;> rfl), by repeat (first | (with_reducible first | exact HB.out | apply below_alloc | apply pw_below_drewN | apply below_drew1 | refine below_set ?_ GE403.out | refine below_set ?_ GE404.out | refine below_set ?_ GE405.out) | exact HB.out)⟩
    ·
     rw [if_neg c24] at H
     exact absurd H (by simp)
   ·
    rw [if_neg c22] at H
    have c22b0 : decide ((wrap64 (x405004_3 - x406004_3)) ≤ 35) = false := decide_eq_false c22
    clear c22
    have HC58 := Aside0.mk H
    clear H
    have hnb59 := NB404_403.out
    have hnc59 := NB403_404.out
    have hnb60 := NB404_405.out
    have hnc60 := NB405_404.out
    have hcz61_0 : wc.cell? ⟨gb404, 0, none⟩ = some (.bool x405000_3) := (blk_cell BK404.out 0).trans rfl
    have hcz61_1 : wc.cell? ⟨gb404, 1, none⟩ = some (.bool x405001_3) := (blk_cell BK404.out 1).trans rfl
    have hcz61_2 : wc.cell? ⟨gb404, 2, none⟩ = some (.bool x405002_3) := (blk_cell BK404.out 2).trans rfl
    have hcz61_3 : wc.cell? ⟨gb404, 3, none⟩ = some (.int .u64 x405003_3) := (blk_cell BK404.out 3).trans rfl
    have hcz61_4 : wc.cell? ⟨gb404, 4, none⟩ = some (.int .i64 x405004_3) := (blk_cell BK404.out 4).trans rfl
    have hfz61_0 := blk_frozen BK404.out 0
    have hfz61_1 := blk_frozen BK404.out 1
    have hfz61_2 := blk_frozen BK404.out 2
    have hfz61_3 := blk_frozen BK404.out 3
    have hfz61_4 := blk_frozen BK404.out 4
    have hnb62 := NB405_403.out
    have hnc62 := NB403_405.out
    have hcz63_0 : wc.cell? ⟨gb405, 0, none⟩ = some (.bool x406000_3) := (blk_cell BK405.out 0).trans rfl
    have hcz63_1 : wc.cell? ⟨gb405, 1, none⟩ = some (.bool x406001_3) := (blk_cell BK405.out 1).trans rfl
    have hcz63_2 : wc.cell? ⟨gb405, 2, none⟩ = some (.bool x406002_3) := (blk_cell BK405.out 2).trans rfl
    have hcz63_3 : wc.cell? ⟨gb405, 3, none⟩ = some (.int .u64 x406003_3) := (blk_cell BK405.out 3).trans rfl
    have hcz63_4 : wc.cell? ⟨gb405, 4, none⟩ = some (.int .i64 x406004_3) := (blk_cell BK405.out 4).trans rfl
    have hfz63_0 := blk_frozen BK405.out 0
    have hfz63_1 := blk_frozen BK405.out 1
    have hfz63_2 := blk_frozen BK405.out 2
    have hfz63_3 := blk_frozen BK405.out 3
    have hfz63_4 := blk_frozen BK405.out 4
    go_upto_if 90 with (fail)
    repeat (go_quiet (fail); go_upto_if 90 with (fail))
    go_cut [10, 11] (fun v10 v11 wc => ∃ (kq : Nat) (x10_57 : Int) (x11_57 : Bool), v10 = .int .u64 x10_57 ∧ v11 = .bool x11_57 ∧ Aside0 (impl_format_sum.j1 kq (IntKind.u64.wrap (x405003_3 * 34359738368)) x10_57 x11_57 a0_0 a0_1 x405000_3 x405001_3 x405002_3 x405003_3 x405004_3 x406000_3 x406001_3 x406002_3 x406003_3 x406004_3 = some r) ∧ Aside0 (kq ≤ kj3) ∧ Aside0 (wc.heap[gb403]? = some (.cells #[.int .i64 a0_0, .int .i64 a0_1] 62 (0, 0))) ∧ Aside0 (wc.heap[gb404]? = some (.cells #[.bool x405000_3, .bool x405001_3, .bool x405002_3, .int .u64 x405003_3, .int .i64 x405004_3] 66 (0, 0))) ∧ Aside0 (wc.heap[gb405]? = some (.cells #[.bool x406000_3, .bool x406001_3, .bool x406002_3, .int .u64 x406003_3, .int .i64 x406004_3] 66 (0, 0))) ∧ Aside0 (Below w.heap.size w wc))
    case first =>
     have H := HC58.out
     clear HC58
     by_cases c64 : (wrap64 ((wrap64 (x405004_3 - x406004_3)) - 35)) < 64
     ·
      rw [if_pos c64] at H
      have c64b0 : decide ((wrap64 ((wrap64 (x405004_3 - x406004_3)) - 35)) < 64) = true := decide_eq_true c64
      clear c64
      (first | rw [c64b0] | (simp only [i64_w, i32_w]; rw [c64b0]) | skip)
      obtain ⟨ji65, hji65⟩ : ∃ j_ : Int, (wrap64 ((wrap64 (x405004_3 - x406004_3)) - 35)) = j_ := ⟨_, rfl⟩
      replace H : (if 0 ≤ (ji65) then (impl_format_sum.j1 kj3 (IntKind.u64.wrap (x405003_3 * 34359738368)) (shr .u64 x406003_3 (ji65)) ((shl .u64 (shr .u64 x406003_3 (ji65)) (ji65)) != x406003_3) a0_0 a0_1 x405000_3 x405001_3 x405002_3 x405003_3 x405004_3 x406000_3 x406001_3 x406002_3 x406003_3 x406004_3) else (none)) = some r := by first | (rw [hji65] at H; exact H) | (simp only [hji65] at H ⊢; exact H)
      (try rw [hji65] at c64b0)
      have hji65w : (IntKind.i64.wrap ((wrap64 (x405004_3 - x406004_3)) - 35)) = ji65 := (i64_w _).trans hji65
      by_cases c66 : 0 ≤ (ji65)
      ·
       rw [if_pos c66] at H
       have c66b0 := eq_true c66
       have c66b1 : decide (0 ≤ (ji65)) = true := decide_eq_true c66
       clear c66
       obtain ⟨ji67, hji67⟩ : ∃ j_ : Int, (shr .u64 x406003_3 (ji65)) = j_ := ⟨_, rfl⟩
       replace H : (impl_format_sum.j1 kj3 (IntKind.u64.wrap (x405003_3 * 34359738368)) ji67 ((shl .u64 (ji67) (ji65)) != x406003_3) a0_0 a0_1 x405000_3 x405001_3 x405002_3 x405003_3 x405004_3 x406000_3 x406001_3 x406002_3 x406003_3 x406004_3) = some r := by first | (rw [hji67] at H; exact H) | (simp only [hji67] at H ⊢; exact H)
       have hji67_ : (x406003_3 / 2 ^ min (ji65).toNat 64) = ji67 := hji67
       have hji67z : (ji65) ≤ 64 → (x406003_3 / 2 ^ (ji65).toNat) = ji67 := shr_small hji67
       have c68b0 := eq_true (of_decide_eq_true (by first | (with_reducible assumption) | assumption) : 0 ≤ (ji65))
       obtain ⟨ji69, hji69⟩ : ∃ j_ : Int, (shl .u64 (ji67) (ji65)) = j_ := ⟨_, rfl⟩
       replace H : (impl_format_sum.j1 kj3 (IntKind.u64.wrap (x405003_3 * 34359738368)) ji67 ((ji69) != x406003_3) a0_0 a0_1 x405000_3 x405001_3 x405002_3 x405003_3 x405004_3 x406000_3 x406001_3 x406002_3 x406003_3 x406004_3) = some r := by first | (rw [hji69] at H; exact H) | (simp only [hji69] at H ⊢; exact H)
       have hji69_ : (IntKind.u64.wrap ((ji67) * 2 ^ min (ji65).toNat 64)) = ji69 := hji69
       have hji69z : (ji65) ≤ 64 → (IntKind.u64.wrap ((ji67) * 2 ^ (ji65).toNat)) = ji69 := shl_small hji69
       have H' := Aside0.mk H
       clear H
       have hnb70 := NB405_403.out
       have hnc70 := NB403_405.out
       have hnb71 := NB405_404.out
       have hnc71 := NB404_405.out
       have hcz72_0 : wc.cell? ⟨gb405, 0, none⟩ = some (.bool x406000_3) := (blk_cell BK405.out 0).trans rfl
       have hcz72_1 : wc.cell? ⟨gb405, 1, none⟩ = some (.bool x406001_3) := (blk_cell BK405.out 1).trans rfl
       have hcz72_2 : wc.cell? ⟨gb405, 2, none⟩ = some (.bool x406002_3) := (blk_cell BK405.out 2).trans rfl
       have hcz72_3 : wc.cell? ⟨gb405, 3, none⟩ = some (.int .u64 x406003_3) := (blk_cell BK405.out 3).trans rfl
       have hcz72_4 : wc.cell? ⟨gb405, 4, none⟩ = some (.int .i64 x406004_3) := (blk_cell BK405.out 4).trans rfl
       have hfz72_0 := blk_frozen BK405.out 0
       have hfz72_1 := blk_frozen BK405.out 1
       have hfz72_2 := blk_frozen BK405.out 2
       have hfz72_3 := blk_frozen BK405.out 3
       have hfz72_4 := blk_frozen BK405.out 4
       go_wp2
       repeat (go_quiet (fail); try go_wp2)
       first | go_meet | ((simp only [← hji69]); go_meet) | ((simp only [← hji67]); go_meet) | ((simp only [← hji65]); go_meet) | ((simp only [← hji69, ← hji67, ← hji65]); go_meet)
       case rel => exact ⟨_, (ji67), (((ji69) != x406003_3)), (by first | rfl | (simp; done) | (simp only [← hji67] <;> (first | rfl | simp)) | (simp [*]; done)), (by first | rfl | (simp; done) | (simp only [← hji69] <;> (first | rfl | simp)) | (simp [*]; done)), H', ⟨by have := HJ3.out; first | omega | exact Nat.le_refl _⟩, ⟨by (with_reducible repeat (first | refine blk_drewN ?_ _ | refine blk_drew ?_ | refine blk_alloc ?_ _)); exact BK403.out⟩, ⟨by (with_reducible repeat (first | refine blk_drewN ?_ _ | refine blk_drew ?_ | refine blk_alloc ?_ _)); exact BK404.out⟩, ⟨by (with_reducible repeat (first | refine blk_drewN ?_ _ | refine blk_drew ?_ | refine blk_alloc ?_ _)); exact BK405.out⟩, ⟨by repeat (first | (with_reducible first | exact HB.out | apply below_alloc | apply pw_below_drewN | apply below_drew1 | refine below_set ?_ GE403.out | refine below_set ?_ GE404.out | refine below_set ?_ GE405.out) | exact HB.out)⟩⟩
      ·
       rw [if_neg c66] at H
       exact absurd H (by simp)
     ·
      rw [if_neg c64] at H
      have c64b0 : decide ((wrap64 ((wrap64 (x405004_3 - x406004_3)) - 35)) < 64) = false := decide_eq_false c64
      clear c64
      (first | rw [c64b0] | (simp only [i64_w, i32_w]; rw [c64b0]) | skip)
      have H' := Aside0.mk H
      clear H
      go_wp2
      repeat (go_quiet (fail); try go_wp2)
      go_meet
      case rel => exact ⟨_, (0), ((x406003_3 != 0)), (by first | rfl | (simp; done) | (simp [*]; done)), (by first | rfl | (simp; done) | (simp [*]; done)), H', ⟨by have := HJ3.out; first | omega | exact Nat.le_refl _⟩, ⟨by (with_reducible repeat (first | refine blk_drewN ?_ _ | refine blk_drew ?_ | refine blk_alloc ?_ _)); exact BK403.out⟩, ⟨by (with_reducible repeat (first | refine blk_drewN ?_ _ | refine blk_drew ?_ | refine blk_alloc ?_ _)); exact BK404.out⟩, ⟨by (with_reducible repeat (first | refine blk_drewN ?_ _ | refine blk_drew ?_ | refine blk_alloc ?_ _)); exact BK405.out⟩, ⟨by repeat (first | (with_reducible first | exact HB.out | apply below_alloc | apply pw_below_drewN | apply below_drew1 | refine below_set ?_ GE403.out | refine below_set ?_ GE404.out | refine below_set ?_ GE405.out) | exact HB.out)⟩⟩
    case rest =>
     clear HC58
     try clear c1
     try clear c2
     try clear p2
     try clear c3
     try clear c4
     try clear c5
     try clear c6
     try clear p6
     try clear c7
     try clear c8
     try clear c9
     try clear c11
     try clear c13
     try clear c13b0
     try clear c14
     try clear c15
     try clear c17
     try clear c22
     try clear c22b0
     try clear c24
     try clear c24b0
     try clear c24b1
     try clear c26
     try clear c26b0
     try clear c26b1
     try clear c26b2
     try clear c28
     try clear c29
     try clear c31
     try clear c35
     try clear c35b0
     try clear c37
     try clear c38
     try clear c40
     try clear c44
     try clear c44b0
     try clear c46
     try clear c47
     try clear c49
     try clear c53
     try clear c54
     try clear c56
     try clear c59
     try clear c60
     try clear c62
     try clear c64
     try clear c64b0
     try clear p64
     try clear c66
     try clear c66b0
     try clear c66b1
     try clear c67
     try clear c68
     try clear c68b0
     try clear c70
     try clear c71
     try clear hcz10_0 hcz10_1 hcz10_2 hcz10_3 hcz10_4
     try clear hcz12_0 hcz12_1 hcz12_2 hcz12_3 hcz12_4
     try clear hcz16_0 hcz16_1 hcz16_2 hcz16_3 hcz16_4
     try clear hcz18_0 hcz18_1 hcz18_2 hcz18_3 hcz18_4
     try clear hcz20_0 hcz20_1 hcz20_2 hcz20_3 hcz20_4
     try clear hcz30_0 hcz30_1 hcz30_2 hcz30_3 hcz30_4
     try clear hcz32_0 hcz32_1 hcz32_2 hcz32_3 hcz32_4
     try clear hcz33_0 hcz33_1
     try clear hcz39_0 hcz39_1 hcz39_2 hcz39_3 hcz39_4
     try clear hcz41_0 hcz41_1 hcz41_2 hcz41_3 hcz41_4
     try clear hcz42_0 hcz42_1
     try clear hcz48_0 hcz48_1 hcz48_2 hcz48_3 hcz48_4
     try clear hcz50_0 hcz50_1 hcz50_2 hcz50_3 hcz50_4
     try clear hcz51_0 hcz51_1
     try clear hcz55_0 hcz55_1 hcz55_2 hcz55_3 hcz55_4
     try clear hcz57_0 hcz57_1 hcz57_2 hcz57_3 hcz57_4
     try clear hcz61_0 hcz61_1 hcz61_2 hcz61_3 hcz61_4
     try clear hcz63_0 hcz63_1 hcz63_2 hcz63_3 hcz63_4
     try clear hcz72_0 hcz72_1 hcz72_2 hcz72_3 hcz72_4
     try clear hfz10_0 hfz10_1 hfz10_2 hfz10_3 hfz10_4
     try clear hfz12_0 hfz12_1 hfz12_2 hfz12_3 hfz12_4
     try clear hfz16_0 hfz16_1 hfz16_2 hfz16_3 hfz16_4
     try clear hfz18_0 hfz18_1 hfz18_2 hfz18_3 hfz18_4
     try clear hfz20_0 hfz20_1 hfz20_2 hfz20_3 hfz20_4
     try clear hfz30_0 hfz30_1 hfz30_2 hfz30_3 hfz30_4
     try clear hfz32_0 hfz32_1 hfz32_2 hfz32_3 hfz32_4
     try clear hfz33_0 hfz33_1
     try clear hfz39_0 hfz39_1 hfz39_2 hfz39_3 hfz39_4
     try clear hfz41_0 hfz41_1 hfz41_2 hfz41_3 hfz41_4
     try clear hfz42_0 hfz42_1
     try clear hfz48_0 hfz48_1 hfz48_2 hfz48_3 hfz48_4
     try clear hfz50_0 hfz50_1 hfz50_2 hfz50_3 hfz50_4
     try clear hfz51_0 hfz51_1
     try clear hfz55_0 hfz55_1 hfz55_2 hfz55_3 hfz55_4
     try clear hfz57_0 hfz57_1 hfz57_2 hfz57_3 hfz57_4
     try clear hfz61_0 hfz61_1 hfz61_2 hfz61_3 hfz61_4
     try clear hfz63_0 hfz63_1 hfz63_2 hfz63_3 hfz63_4
     try clear hfz72_0 hfz72_1 hfz72_2 hfz72_3 hfz72_4
     try clear p2
     obtain ⟨kq, x10_57, x11_57, rfl, rfl, HA, HJ57, BK403, BK404, BK405, HB⟩ := hcut
     cases kq with
     | zero => exact absurd HA.out (by simp [impl_format_sum.j1])
     | succ kj57 =>
      have H := HA.out
      clear HA
      simp only [impl_format_sum.j1] at H
      by_cases c73 : (x405000_3 == x406000_3) = true
      ·
       rw [if_pos c73] at H
       have c73b0 : (x405000_3 == x406000_3) = true := c73
       (try (have c73b1 : decide (x405000_3 = x406000_3) = true := by simpa using c73))
       (try (have c73b2 : (x405000_3 == x406000_3) = true := by simpa using c73))
       clear c73
       replace H := Option.bind_eq_some_iff.mp H
       obtain ⟨t409, A740, H⟩ := H
       replace H : (some t409) = some r := H
       have A74 := Aside0.mk A740
       clear A740
       obtain rfl := Option.some.inj H
       simp only [Option.some.injEq, Prod.mk.injEq] at H
       obtain ⟨rfl⟩ := H
       have hnb75 := NB404_403.out
       have hnc75 := NB403_404.out
       have hnb76 := NB404_405.out
       have hnc76 := NB405_404.out
       have hcz77_0 : wc.cell? ⟨gb404, 0, none⟩ = some (.bool x405000_3) := (blk_cell BK404.out 0).trans rfl
       have hcz77_1 : wc.cell? ⟨gb404, 1, none⟩ = some (.bool x405001_3) := (blk_cell BK404.out 1).trans rfl
       have hcz77_2 : wc.cell? ⟨gb404, 2, none⟩ = some (.bool x405002_3) := (blk_cell BK404.out 2).trans rfl
       have hcz77_3 : wc.cell? ⟨gb404, 3, none⟩ = some (.int .u64 x405003_3) := (blk_cell BK404.out 3).trans rfl
       have hcz77_4 : wc.cell? ⟨gb404, 4, none⟩ = some (.int .i64 x405004_3) := (blk_cell BK404.out 4).trans rfl
       have hfz77_0 := blk_frozen BK404.out 0
       have hfz77_1 := blk_frozen BK404.out 1
       have hfz77_2 := blk_frozen BK404.out 2
       have hfz77_3 := blk_frozen BK404.out 3
       have hfz77_4 := blk_frozen BK404.out 4
       have hnb78 := NB405_403.out
       have hnc78 := NB403_405.out
       have hcz79_0 : wc.cell? ⟨gb405, 0, none⟩ = some (.bool x406000_3) := (blk_cell BK405.out 0).trans rfl
       have hcz79_1 : wc.cell? ⟨gb405, 1, none⟩ = some (.bool x406001_3) := (blk_cell BK405.out 1).trans rfl
       have hcz79_2 : wc.cell? ⟨gb405, 2, none⟩ = some (.bool x406002_3) := (blk_cell BK405.out 2).trans rfl
       have hcz79_3 : wc.cell? ⟨gb405, 3, none⟩ = some (.int .u64 x406003_3) := (blk_cell BK405.out 3).trans rfl
       have hcz79_4 : wc.cell? ⟨gb405, 4, none⟩ = some (.int .i64 x406004_3) := (blk_cell BK405.out 4).trans rfl
       have hfz79_0 := blk_frozen BK405.out 0
       have hfz79_1 := blk_frozen BK405.out 1
       have hfz79_2 := blk_frozen BK405.out 2
       have hfz79_3 := blk_frozen BK405.out 3
       have hfz79_4 := blk_frozen BK405.out 4
       have hcz80_0 : wc.cell? ⟨gb403, 0, none⟩ = some (.int .i64 a0_0) := (blk_cell BK403.out 0).trans rfl
       have hcz80_1 : wc.cell? ⟨gb403, 1, none⟩ = some (.int .i64 a0_1) := (blk_cell BK403.out 1).trans rfl
       have hfz80_0 := blk_frozen BK403.out 0
       have hfz80_1 := blk_frozen BK403.out 1
       go_wp2_with (first | (go_at_call 55; (with_reducible refine (impl_format_round.calls kj57 a0_0 a0_1 x405000_3 (IntKind.u64.wrap ((IntKind.u64.wrap (x405003_3 * 34359738368)) + x10_57)) (wrap64 (x405004_3 - 35)) x11_57 t409 _ A74.out).mono ?_); rintro e w81 ⟨rfl, hb⟩; have n0_ := Aside0.mk (blk_below (g := gb403) (o := .cells #[.int .i64 a0_0, .int .i64 a0_1] 62 (0, 0)) (by (with_reducible repeat (first | refine blk_drewN ?_ _ | refine blk_drew ?_ | refine blk_alloc ?_ _)); exact BK403.out) hb); have n1_ := Aside0.mk (blk_below (g := gb404) (o := .cells #[.bool x405000_3, .bool x405001_3, .bool x405002_3, .int .u64 x405003_3, .int .i64 x405004_3] 66 (0, 0)) (by (with_reducible repeat (first | refine blk_drewN ?_ _ | refine blk_drew ?_ | refine blk_alloc ?_ _)); exact BK404.out) hb); have n2_ := Aside0.mk (blk_below (g := gb405) (o := .cells #[.bool x406000_3, .bool x406001_3, .bool x406002_3, .int .u64 x406003_3, .int .i64 x406004_3] 66 (0, 0)) (by (with_reducible repeat (first | refine blk_drewN ?_ _ | refine blk_drew ?_ | refine blk_alloc ?_ _)); exact BK405.out) hb); have n3_ := Aside0.mk (below_step (by repeat (first | (with_reducible first | exact HB.out | apply below_alloc | apply pw_below_drewN | apply below_drew1 | refine below_set ?_ GE403.out | refine below_set ?_ GE404.out | refine below_set ?_ GE405.out) | exact HB.out)) hb); clear BK403; clear BK404; clear BK405; clear HB; have BK403 := n0_; have BK404 := n1_; have BK405 := n2_; have HB := n3_; clear n0_ n1_ n2_ n3_; (try clear hb); (try clear hb2); (try clear hk); (try clear hi)))
       repeat (go_quiet (first | (go_at_call 55; (with_reducible refine (impl_format_round.calls kj57 a0_0 a0_1 x405000_3 (IntKind.u64.wrap ((IntKind.u64.wrap (x405003_3 * 34359738368)) + x10_57)) (wrap64 (x405004_3 - 35)) x11_57 t409 _ A74.out).mono ?_); rintro e w81 ⟨rfl, hb⟩; have n0_ := Aside0.mk (blk_below (g := gb403) (o := .cells #[.int .i64 a0_0, .int .i64 a0_1] 62 (0, 0)) (by (with_reducible repeat (first | refine blk_drewN ?_ _ | refine blk_drew ?_ | refine blk_alloc ?_ _)); exact BK403.out) hb); have n1_ := Aside0.mk (blk_below (g := gb404) (o := .cells #[.bool x405000_3, .bool x405001_3, .bool x405002_3, .int .u64 x405003_3, .int .i64 x405004_3] 66 (0, 0)) (by (with_reducible repeat (first | refine blk_drewN ?_ _ | refine blk_drew ?_ | refine blk_alloc ?_ _)); exact BK404.out) hb); have n2_ := Aside0.mk (blk_below (g := gb405) (o := .cells #[.bool x406000_3, .bool x406001_3, .bool x406002_3, .int .u64 x406003_3, .int .i64 x406004_3] 66 (0, 0)) (by (with_reducible repeat (first | refine blk_drewN ?_ _ | refine blk_drew ?_ | refine blk_alloc ?_ _)); exact BK405.out) hb); have n3_ := Aside0.mk (below_step (by repeat (first | (with_reducible first | exact HB.out | apply below_alloc | apply pw_below_drewN | apply below_drew1 | refine below_set ?_ GE403.out | refine below_set ?_ GE404.out | refine below_set ?_ GE405.out) | exact HB.out)) hb); clear BK403; clear BK404; clear BK405; clear HB; have BK403 := n0_; have BK404 := n1_; have BK405 := n2_; have HB := n3_; clear n0_ n1_ n2_ n3_; (try clear hb); (try clear hb2); (try clear hk); (try clear hi))); try go_wp2_with (first | (go_at_call 55; (with_reducible refine (impl_format_round.calls kj57 a0_0 a0_1 x405000_3 (IntKind.u64.wrap ((IntKind.u64.wrap (x405003_3 * 34359738368)) + x10_57)) (wrap64 (x405004_3 - 35)) x11_57 t409 _ A74.out).mono ?_); rintro e w81 ⟨rfl, hb⟩; have n0_ := Aside0.mk (blk_below (g := gb403) (o := .cells #[.int .i64 a0_0, .int .i64 a0_1] 62 (0, 0)) (by (with_reducible repeat (first | refine blk_drewN ?_ _ | refine blk_drew ?_ | refine blk_alloc ?_ _)); exact BK403.out) hb); have n1_ := Aside0.mk (blk_below (g := gb404) (o := .cells #[.bool x405000_3, .bool x405001_3, .bool x405002_3, .int .u64 x405003_3, .int .i64 x405004_3] 66 (0, 0)) (by (with_reducible repeat (first | refine blk_drewN ?_ _ | refine blk_drew ?_ | refine blk_alloc ?_ _)); exact BK404.out) hb); have n2_ := Aside0.mk (blk_below (g := gb405) (o := .cells #[.bool x406000_3, .bool x406001_3, .bool x406002_3, .int .u64 x406003_3, .int .i64 x406004_3] 66 (0, 0)) (by (with_reducible repeat (first | refine blk_drewN ?_ _ | refine blk_drew ?_ | refine blk_alloc ?_ _)); exact BK405.out) hb); have n3_ := Aside0.mk (below_step (by repeat (first | (with_reducible first | exact HB.out | apply below_alloc | apply pw_below_drewN | apply below_drew1 | refine below_set ?_ GE403.out | refine below_set ?_ GE404.out | refine below_set ?_ GE405.out) | exact HB.out)) hb); clear BK403; clear BK404; clear BK405; clear HB; have BK403 := n0_; have BK404 := n1_; have BK405 := n2_; have HB := n3_; clear n0_ n1_ n2_ n3_; (try clear hb); (try clear hb2); (try clear hk); (try clear hi))))
       go_ret
       exact ⟨by first | rfl | (simp [errW_none, errW_some] <;> rfl) | (simp [*, errW_none, errW_some] <;> rfl), by repeat (first | (with_reducible first | exact HB.out | apply below_alloc | apply pw_below_drewN | apply below_drew1 | refine below_set ?_ GE403.out | refine below_set ?_ GE404.out | refine below_set ?_ GE405.out) | exact HB.out)⟩
      ·
       rw [if_neg c73] at H
       have c73b0 : (x405000_3 == x406000_3) = false := by simpa using c73
       (try (have c73b1 : decide (x405000_3 = x406000_3) = false := by simpa using c73))
       (try (have c73b2 : (x405000_3 == x406000_3) = false := by simpa using c73))
       (try (have c73b3 : ¬ (x405000_3 = x406000_3) := by simpa using c73))
       clear c73
       by_cases c82 : x11_57 = true
       ·
        subst c82
        have H1 : ((impl_format_round.f kj57 a0_0 a0_1 x405000_3 (IntKind.u64.wrap ((IntKind.u64.wrap ((IntKind.u64.wrap (x405003_3 * 34359738368)) - x10_57)) - 1)) (wrap64 (x405004_3 - 35)) true).bind fun t410 => (some t410)) = some r := by rw [if_pos rfl] at H; exact H
        clear H
        have H := H1
        clear H1
        replace H := Option.bind_eq_some_iff.mp H
        obtain ⟨t410, A830, H⟩ := H
        replace H : (some t410) = some r := H
        have A83 := Aside0.mk A830
        clear A830
        obtain rfl := Option.some.inj H
        simp only [Option.some.injEq, Prod.mk.injEq] at H
        obtain ⟨rfl⟩ := H
        have hnb84 := NB404_403.out
        have hnc84 := NB403_404.out
        have hnb85 := NB404_405.out
        have hnc85 := NB405_404.out
        have hcz86_0 : wc.cell? ⟨gb404, 0, none⟩ = some (.bool x405000_3) := (blk_cell BK404.out 0).trans rfl
        have hcz86_1 : wc.cell? ⟨gb404, 1, none⟩ = some (.bool x405001_3) := (blk_cell BK404.out 1).trans rfl
        have hcz86_2 : wc.cell? ⟨gb404, 2, none⟩ = some (.bool x405002_3) := (blk_cell BK404.out 2).trans rfl
        have hcz86_3 : wc.cell? ⟨gb404, 3, none⟩ = some (.int .u64 x405003_3) := (blk_cell BK404.out 3).trans rfl
        have hcz86_4 : wc.cell? ⟨gb404, 4, none⟩ = some (.int .i64 x405004_3) := (blk_cell BK404.out 4).trans rfl
        have hfz86_0 := blk_frozen BK404.out 0
        have hfz86_1 := blk_frozen BK404.out 1
        have hfz86_2 := blk_frozen BK404.out 2
        have hfz86_3 := blk_frozen BK404.out 3
        have hfz86_4 := blk_frozen BK404.out 4
        have hnb87 := NB405_403.out
        have hnc87 := NB403_405.out
        have hcz88_0 : wc.cell? ⟨gb405, 0, none⟩ = some (.bool x406000_3) := (blk_cell BK405.out 0).trans rfl
        have hcz88_1 : wc.cell? ⟨gb405, 1, none⟩ = some (.bool x406001_3) := (blk_cell BK405.out 1).trans rfl
        have hcz88_2 : wc.cell? ⟨gb405, 2, none⟩ = some (.bool x406002_3) := (blk_cell BK405.out 2).trans rfl
        have hcz88_3 : wc.cell? ⟨gb405, 3, none⟩ = some (.int .u64 x406003_3) := (blk_cell BK405.out 3).trans rfl
        have hcz88_4 : wc.cell? ⟨gb405, 4, none⟩ = some (.int .i64 x406004_3) := (blk_cell BK405.out 4).trans rfl
        have hfz88_0 := blk_frozen BK405.out 0
        have hfz88_1 := blk_frozen BK405.out 1
        have hfz88_2 := blk_frozen BK405.out 2
        have hfz88_3 := blk_frozen BK405.out 3
        have hfz88_4 := blk_frozen BK405.out 4
        have hcz89_0 : wc.cell? ⟨gb403, 0, none⟩ = some (.int .i64 a0_0) := (blk_cell BK403.out 0).trans rfl
        have hcz89_1 : wc.cell? ⟨gb403, 1, none⟩ = some (.int .i64 a0_1) := (blk_cell BK403.out 1).trans rfl
        have hfz89_0 := blk_frozen BK403.out 0
        have hfz89_1 := blk_frozen BK403.out 1
        go_wp2_with (first | (go_at_call 55; (with_reducible refine (impl_format_round.calls kj57 a0_0 a0_1 x405000_3 (IntKind.u64.wrap ((IntKind.u64.wrap ((IntKind.u64.wrap (x405003_3 * 34359738368)) - x10_57)) - 1)) (wrap64 (x405004_3 - 35)) true t410 _ A83.out).mono ?_); rintro e w90 ⟨rfl, hb⟩; have n0_ := Aside0.mk (blk_below (g := gb403) (o := .cells #[.int .i64 a0_0, .int .i64 a0_1] 62 (0, 0)) (by (with_reducible repeat (first | refine blk_drewN ?_ _ | refine blk_drew ?_ | refine blk_alloc ?_ _)); exact BK403.out) hb); have n1_ := Aside0.mk (blk_below (g := gb404) (o := .cells #[.bool x405000_3, .bool x405001_3, .bool x405002_3, .int .u64 x405003_3, .int .i64 x405004_3] 66 (0, 0)) (by (with_reducible repeat (first | refine blk_drewN ?_ _ | refine blk_drew ?_ | refine blk_alloc ?_ _)); exact BK404.out) hb); have n2_ := Aside0.mk (blk_below (g := gb405) (o := .cells #[.bool x406000_3, .bool x406001_3, .bool x406002_3, .int .u64 x406003_3, .int .i64 x406004_3] 66 (0, 0)) (by (with_reducible repeat (first | refine blk_drewN ?_ _ | refine blk_drew ?_ | refine blk_alloc ?_ _)); exact BK405.out) hb); have n3_ := Aside0.mk (below_step (by repeat (first | (with_reducible first | exact HB.out | apply below_alloc | apply pw_below_drewN | apply below_drew1 | refine below_set ?_ GE403.out | refine below_set ?_ GE404.out | refine below_set ?_ GE405.out) | exact HB.out)) hb); clear BK403; clear BK404; clear BK405; clear HB; have BK403 := n0_; have BK404 := n1_; have BK405 := n2_; have HB := n3_; clear n0_ n1_ n2_ n3_; (try clear hb); (try clear hb2); (try clear hk); (try clear hi)))
        repeat (go_quiet (first | (go_at_call 55; (with_reducible refine (impl_format_round.calls kj57 a0_0 a0_1 x405000_3 (IntKind.u64.wrap ((IntKind.u64.wrap ((IntKind.u64.wrap (x405003_3 * 34359738368)) - x10_57)) - 1)) (wrap64 (x405004_3 - 35)) true t410 _ A83.out).mono ?_); rintro e w90 ⟨rfl, hb⟩; have n0_ := Aside0.mk (blk_below (g := gb403) (o := .cells #[.int .i64 a0_0, .int .i64 a0_1] 62 (0, 0)) (by (with_reducible repeat (first | refine blk_drewN ?_ _ | refine blk_drew ?_ | refine blk_alloc ?_ _)); exact BK403.out) hb); have n1_ := Aside0.mk (blk_below (g := gb404) (o := .cells #[.bool x405000_3, .bool x405001_3, .bool x405002_3, .int .u64 x405003_3, .int .i64 x405004_3] 66 (0, 0)) (by (with_reducible repeat (first | refine blk_drewN ?_ _ | refine blk_drew ?_ | refine blk_alloc ?_ _)); exact BK404.out) hb); have n2_ := Aside0.mk (blk_below (g := gb405) (o := .cells #[.bool x406000_3, .bool x406001_3, .bool x406002_3, .int .u64 x406003_3, .int .i64 x406004_3] 66 (0, 0)) (by (with_reducible repeat (first | refine blk_drewN ?_ _ | refine blk_drew ?_ | refine blk_alloc ?_ _)); exact BK405.out) hb); have n3_ := Aside0.mk (below_step (by repeat (first | (with_reducible first | exact HB.out | apply below_alloc | apply pw_below_drewN | apply below_drew1 | refine below_set ?_ GE403.out | refine below_set ?_ GE404.out | refine below_set ?_ GE405.out) | exact HB.out)) hb); clear BK403; clear BK404; clear BK405; clear HB; have BK403 := n0_; have BK404 := n1_; have BK405 := n2_; have HB := n3_; clear n0_ n1_ n2_ n3_; (try clear hb); (try clear hb2); (try clear hk); (try clear hi))); try go_wp2_with (first | (go_at_call 55; (with_reducible refine (impl_format_round.calls kj57 a0_0 a0_1 x405000_3 (IntKind.u64.wrap ((IntKind.u64.wrap ((IntKind.u64.wrap (x405003_3 * 34359738368)) - x10_57)) - 1)) (wrap64 (x405004_3 - 35)) true t410 _ A83.out).mono ?_); rintro e w90 ⟨rfl, hb⟩; have n0_ := Aside0.mk (blk_below (g := gb403) (o := .cells #[.int .i64 a0_0, .int .i64 a0_1] 62 (0, 0)) (by (with_reducible repeat (first | refine blk_drewN ?_ _ | refine blk_drew ?_ | refine blk_alloc ?_ _)); exact BK403.out) hb); have n1_ := Aside0.mk (blk_below (g := gb404) (o := .cells #[.bool x405000_3, .bool x405001_3, .bool x405002_3, .int .u64 x405003_3, .int .i64 x405004_3] 66 (0, 0)) (by (with_reducible repeat (first | refine blk_drewN ?_ _ | refine blk_drew ?_ | refine blk_alloc ?_ _)); exact BK404.out) hb); have n2_ := Aside0.mk (blk_below (g := gb405) (o := .cells #[.bool x406000_3, .bool x406001_3, .bool x406002_3, .int .u64 x406003_3, .int .i64 x406004_3] 66 (0, 0)) (by (with_reducible repeat (first | refine blk_drewN ?_ _ | refine blk_drew ?_ | refine blk_alloc ?_ _)); exact BK405.out) hb); have n3_ := Aside0.mk (below_step (by repeat (first | (with_reducible first | exact HB.out | apply below_alloc | apply pw_below_drewN | apply below_drew1 | refine below_set ?_ GE403.out | refine below_set ?_ GE404.out | refine below_set ?_ GE405.out) | exact HB.out)) hb); clear BK403; clear BK404; clear BK405; clear HB; have BK403 := n0_; have BK404 := n1_; have BK405 := n2_; have HB := n3_; clear n0_ n1_ n2_ n3_; (try clear hb); (try clear hb2); (try clear hk); (try clear hi))))
        go_ret
        exact ⟨by first | rfl | (simp [errW_none, errW_some] <;> rfl) | (simp [*, errW_none, errW_some] <;> rfl), by repeat (first | (with_reducible first | exact HB.out | apply below_alloc | apply pw_below_drewN | apply below_drew1 | refine below_set ?_ GE403.out | refine below_set ?_ GE404.out | refine below_set ?_ GE405.out) | exact HB.out)⟩
       ·
        replace c82 := Bool.eq_false_iff.mpr c82
        subst c82
        have H1 : ((impl_format_round.f kj57 a0_0 a0_1 x405000_3 (IntKind.u64.wrap ((IntKind.u64.wrap (x405003_3 * 34359738368)) - x10_57)) (wrap64 (x405004_3 - 35)) false).bind fun t411 => (some t411)) = some r := by rw [if_neg (show ¬ (false = true) by decide)] at H; exact H
        clear H
        have H := H1
        clear H1
        replace H := Option.bind_eq_some_iff.mp H
        obtain ⟨t411, A910, H⟩ := H
        replace H : (some t411) = some r := H
        have A91 := Aside0.mk A910
        clear A910
        obtain rfl := Option.some.inj H
        simp only [Option.some.injEq, Prod.mk.injEq] at H
        obtain ⟨rfl⟩ := H
        have hnb92 := NB404_403.out
        have hnc92 := NB403_404.out
        have hnb93 := NB404_405.out
        have hnc93 := NB405_404.out
        have hcz94_0 : wc.cell? ⟨gb404, 0, none⟩ = some (.bool x405000_3) := (blk_cell BK404.out 0).trans rfl
        have hcz94_1 : wc.cell? ⟨gb404, 1, none⟩ = some (.bool x405001_3) := (blk_cell BK404.out 1).trans rfl
        have hcz94_2 : wc.cell? ⟨gb404, 2, none⟩ = some (.bool x405002_3) := (blk_cell BK404.out 2).trans rfl
        have hcz94_3 : wc.cell? ⟨gb404, 3, none⟩ = some (.int .u64 x405003_3) := (blk_cell BK404.out 3).trans rfl
        have hcz94_4 : wc.cell? ⟨gb404, 4, none⟩ = some (.int .i64 x405004_3) := (blk_cell BK404.out 4).trans rfl
        have hfz94_0 := blk_frozen BK404.out 0
        have hfz94_1 := blk_frozen BK404.out 1
        have hfz94_2 := blk_frozen BK404.out 2
        have hfz94_3 := blk_frozen BK404.out 3
        have hfz94_4 := blk_frozen BK404.out 4
        have hnb95 := NB405_403.out
        have hnc95 := NB403_405.out
        have hcz96_0 : wc.cell? ⟨gb405, 0, none⟩ = some (.bool x406000_3) := (blk_cell BK405.out 0).trans rfl
        have hcz96_1 : wc.cell? ⟨gb405, 1, none⟩ = some (.bool x406001_3) := (blk_cell BK405.out 1).trans rfl
        have hcz96_2 : wc.cell? ⟨gb405, 2, none⟩ = some (.bool x406002_3) := (blk_cell BK405.out 2).trans rfl
        have hcz96_3 : wc.cell? ⟨gb405, 3, none⟩ = some (.int .u64 x406003_3) := (blk_cell BK405.out 3).trans rfl
        have hcz96_4 : wc.cell? ⟨gb405, 4, none⟩ = some (.int .i64 x406004_3) := (blk_cell BK405.out 4).trans rfl
        have hfz96_0 := blk_frozen BK405.out 0
        have hfz96_1 := blk_frozen BK405.out 1
        have hfz96_2 := blk_frozen BK405.out 2
        have hfz96_3 := blk_frozen BK405.out 3
        have hfz96_4 := blk_frozen BK405.out 4
        have hcz97_0 : wc.cell? ⟨gb403, 0, none⟩ = some (.int .i64 a0_0) := (blk_cell BK403.out 0).trans rfl
        have hcz97_1 : wc.cell? ⟨gb403, 1, none⟩ = some (.int .i64 a0_1) := (blk_cell BK403.out 1).trans rfl
        have hfz97_0 := blk_frozen BK403.out 0
        have hfz97_1 := blk_frozen BK403.out 1
        go_wp2_with (first | (go_at_call 55; (with_reducible refine (impl_format_round.calls kj57 a0_0 a0_1 x405000_3 (IntKind.u64.wrap ((IntKind.u64.wrap (x405003_3 * 34359738368)) - x10_57)) (wrap64 (x405004_3 - 35)) false t411 _ A91.out).mono ?_); rintro e w98 ⟨rfl, hb⟩; have n0_ := Aside0.mk (blk_below (g := gb403) (o := .cells #[.int .i64 a0_0, .int .i64 a0_1] 62 (0, 0)) (by (with_reducible repeat (first | refine blk_drewN ?_ _ | refine blk_drew ?_ | refine blk_alloc ?_ _)); exact BK403.out) hb); have n1_ := Aside0.mk (blk_below (g := gb404) (o := .cells #[.bool x405000_3, .bool x405001_3, .bool x405002_3, .int .u64 x405003_3, .int .i64 x405004_3] 66 (0, 0)) (by (with_reducible repeat (first | refine blk_drewN ?_ _ | refine blk_drew ?_ | refine blk_alloc ?_ _)); exact BK404.out) hb); have n2_ := Aside0.mk (blk_below (g := gb405) (o := .cells #[.bool x406000_3, .bool x406001_3, .bool x406002_3, .int .u64 x406003_3, .int .i64 x406004_3] 66 (0, 0)) (by (with_reducible repeat (first | refine blk_drewN ?_ _ | refine blk_drew ?_ | refine blk_alloc ?_ _)); exact BK405.out) hb); have n3_ := Aside0.mk (below_step (by repeat (first | (with_reducible first | exact HB.out | apply below_alloc | apply pw_below_drewN | apply below_drew1 | refine below_set ?_ GE403.out | refine below_set ?_ GE404.out | refine below_set ?_ GE405.out) | exact HB.out)) hb); clear BK403; clear BK404; clear BK405; clear HB; have BK403 := n0_; have BK404 := n1_; have BK405 := n2_; have HB := n3_; clear n0_ n1_ n2_ n3_; (try clear hb); (try clear hb2); (try clear hk); (try clear hi)))
        repeat (go_quiet (first | (go_at_call 55; (with_reducible refine (impl_format_round.calls kj57 a0_0 a0_1 x405000_3 (IntKind.u64.wrap ((IntKind.u64.wrap (x405003_3 * 34359738368)) - x10_57)) (wrap64 (x405004_3 - 35)) false t411 _ A91.out).mono ?_); rintro e w98 ⟨rfl, hb⟩; have n0_ := Aside0.mk (blk_below (g := gb403) (o := .cells #[.int .i64 a0_0, .int .i64 a0_1] 62 (0, 0)) (by (with_reducible repeat (first | refine blk_drewN ?_ _ | refine blk_drew ?_ | refine blk_alloc ?_ _)); exact BK403.out) hb); have n1_ := Aside0.mk (blk_below (g := gb404) (o := .cells #[.bool x405000_3, .bool x405001_3, .bool x405002_3, .int .u64 x405003_3, .int .i64 x405004_3] 66 (0, 0)) (by (with_reducible repeat (first | refine blk_drewN ?_ _ | refine blk_drew ?_ | refine blk_alloc ?_ _)); exact BK404.out) hb); have n2_ := Aside0.mk (blk_below (g := gb405) (o := .cells #[.bool x406000_3, .bool x406001_3, .bool x406002_3, .int .u64 x406003_3, .int .i64 x406004_3] 66 (0, 0)) (by (with_reducible repeat (first | refine blk_drewN ?_ _ | refine blk_drew ?_ | refine blk_alloc ?_ _)); exact BK405.out) hb); have n3_ := Aside0.mk (below_step (by repeat (first | (with_reducible first | exact HB.out | apply below_alloc | apply pw_below_drewN | apply below_drew1 | refine below_set ?_ GE403.out | refine below_set ?_ GE404.out | refine below_set ?_ GE405.out) | exact HB.out)) hb); clear BK403; clear BK404; clear BK405; clear HB; have BK403 := n0_; have BK404 := n1_; have BK405 := n2_; have HB := n3_; clear n0_ n1_ n2_ n3_; (try clear hb); (try clear hb2); (try clear hk); (try clear hi))); try go_wp2_with (first | (go_at_call 55; (with_reducible refine (impl_format_round.calls kj57 a0_0 a0_1 x405000_3 (IntKind.u64.wrap ((IntKind.u64.wrap (x405003_3 * 34359738368)) - x10_57)) (wrap64 (x405004_3 - 35)) false t411 _ A91.out).mono ?_); rintro e w98 ⟨rfl, hb⟩; have n0_ := Aside0.mk (blk_below (g := gb403) (o := .cells #[.int .i64 a0_0, .int .i64 a0_1] 62 (0, 0)) (by (with_reducible repeat (first | refine blk_drewN ?_ _ | refine blk_drew ?_ | refine blk_alloc ?_ _)); exact BK403.out) hb); have n1_ := Aside0.mk (blk_below (g := gb404) (o := .cells #[.bool x405000_3, .bool x405001_3, .bool x405002_3, .int .u64 x405003_3, .int .i64 x405004_3] 66 (0, 0)) (by (with_reducible repeat (first | refine blk_drewN ?_ _ | refine blk_drew ?_ | refine blk_alloc ?_ _)); exact BK404.out) hb); have n2_ := Aside0.mk (blk_below (g := gb405) (o := .cells #[.bool x406000_3, .bool x406001_3, .bool x406002_3, .int .u64 x406003_3, .int .i64 x406004_3] 66 (0, 0)) (by (with_reducible repeat (first | refine blk_drewN ?_ _ | refine blk_drew ?_ | refine blk_alloc ?_ _)); exact BK405.out) hb); have n3_ := Aside0.mk (below_step (by repeat (first | (with_reducible first | exact HB.out | apply below_alloc | apply pw_below_drewN | apply below_drew1 | refine below_set ?_ GE403.out | refine below_set ?_ GE404.out | refine below_set ?_ GE405.out) | exact HB.out)) hb); clear BK403; clear BK404; clear BK405; clear HB; have BK403 := n0_; have BK404 := n1_; have BK405 := n2_; have HB := n3_; clear n0_ n1_ n2_ n3_; (try clear hb); (try clear hb2); (try clear hk); (try clear hi))))
        go_ret
        exact ⟨by first | rfl | (simp [errW_none, errW_some] <;> rfl) | (simp [*, errW_none, errW_some] <;> rfl), by repeat (first | (with_reducible first | exact HB.out | apply below_alloc | apply pw_below_drewN | apply below_drew1 | refine below_set ?_ GE403.out | refine below_set ?_ GE404.out | refine below_set ?_ GE405.out) | exact HB.out)⟩

end Go.Proofs.Ytdeogandkgiggaa.Q
