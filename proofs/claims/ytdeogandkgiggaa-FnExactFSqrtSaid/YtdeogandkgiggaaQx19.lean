-- Written by a program of this session; it walks the functions that the law reaches.
import Derived.Test.YtdeogandkgiggaaQx0
import Derived.Test.YtdeogandkgiggaaQx2
import Derived.Test.YtdeogandkgiggaaQx3
import Derived.Test.YtdeogandkgiggaaQx4
import Derived.Test.YtdeogandkgiggaaQx18
namespace Go.Proofs.Ytdeogandkgiggaa.Q
open Go.RowKit Go.Proofs.YtdeogandkgiggaaW.PrintWords Go.Proofs.YtdeogandkgiggaaW.PrintLast Go.Proofs.YtdeogandkgiggaaW.PrintMore
attribute [local go_sem] max2_int min2_int max_two min_two max_three min_three max_four min_four   -- for this text's walks alone
set_option linter.unusedVariables false
set_option linter.unusedSimpArgs false

/-! ### spec_l4K_quotient: function 57 -/
mutual
def spec_l4K_quotient.j0 : Nat → Bool → Bool → Int → Int → Bool → Bool → Bool → Int → Int → Bool → Bool → Bool → Int → Int → Option (Int)
 | 0, _, _, _, _, _, _, _, _, _, _, _, _, _, _ => none
 | k + 1, x7, x14, x229000, x229001, x230000, x230001, x230002, x230003, x230004, x231000, x231001, x231002, x231003, x231004 => if x14 = true then ((spec_l4K_nan.f x229000 x229001).bind fun t231 => (some t231)) else (if x230001 = true then (spec_l4K_quotient.j1 k x7 true x229000 x229001 x230000 x230001 x230002 x230003 x230004 x231000 x231001 x231002 x231003 x231004) else (if x231001 = true then (spec_l4K_quotient.j1 k x7 false x229000 x229001 x230000 x230001 x230002 x230003 x230004 x231000 x231001 x231002 x231003 x231004) else (spec_l4K_quotient.j1 k x7 (x231003 == 0) x229000 x229001 x230000 x230001 x230002 x230003 x230004 x231000 x231001 x231002 x231003 x231004)))
def spec_l4K_quotient.j1 : Nat → Bool → Bool → Int → Int → Bool → Bool → Bool → Int → Int → Bool → Bool → Bool → Int → Int → Option (Int)
 | 0, _, _, _, _, _, _, _, _, _, _, _, _, _, _ => none
 | k + 1, x7, x51, x229000, x229001, x230000, x230001, x230002, x230003, x230004, x231000, x231001, x231002, x231003, x231004 => if x51 = true then ((spec_l4K_inf.f x229000 x229001 x7).bind fun t232 => (some t232)) else (if x231001 = true then (spec_l4K_quotient.j2 k x7 true x229000 x229001 x230000 x230001 x230002 x230003 x230004 x231000 x231001 x231002 x231003 x231004) else (spec_l4K_quotient.j2 k x7 (x230003 == 0) x229000 x229001 x230000 x230001 x230002 x230003 x230004 x231000 x231001 x231002 x231003 x231004))
def spec_l4K_quotient.j2 : Nat → Bool → Bool → Int → Int → Bool → Bool → Bool → Int → Int → Bool → Bool → Bool → Int → Int → Option (Int)
 | 0, _, _, _, _, _, _, _, _, _, _, _, _, _, _ => none
 | k + 1, x7, x67, x229000, x229001, x230000, x230001, x230002, x230003, x230004, x231000, x231001, x231002, x231003, x231004 => if x67 = true then ((spec_l4K_sign.f x229000 x229001 x7).bind fun t233 => (some t233)) else ((spec_l4K_full.f k x229000 x229001 x230000 x230001 x230002 x230003 x230004).bind fun bt234 => ((spec_l4K_full.f k x229000 x229001 x231000 x231001 x231002 x231003 x231004).bind fun bt239 => (if bt239.2.2.2.1 = 0 then (none) else ((spec_l4K_round.f k x229000 x229001 x7 (IntKind.u64.wrap (Int.tdiv (IntKind.u64.wrap (bt234.2.2.2.1 * 1073741824)) bt239.2.2.2.1)) (wrap64 ((wrap64 (bt234.2.2.2.2 - 30)) - bt239.2.2.2.2)) ((Int.tmod (IntKind.u64.wrap (bt234.2.2.2.1 * 1073741824)) bt239.2.2.2.1) != 0)).bind fun t244 => (some t244)))))
end
def spec_l4K_quotient.f (k : Nat) (a0_0 : Int) (a0_1 : Int) (a1_0 : Bool) (a1_1 : Bool) (a1_2 : Bool) (a1_3 : Int) (a1_4 : Int) (a2_0 : Bool) (a2_1 : Bool) (a2_2 : Bool) (a2_3 : Int) (a2_4 : Int) : Option (Int) := if a1_2 = true then (spec_l4K_quotient.j0 k (a1_0 != a2_0) true a0_0 a0_1 a1_0 a1_1 a1_2 a1_3 a1_4 a2_0 a2_1 a2_2 a2_3 a2_4) else (if a2_2 = true then (spec_l4K_quotient.j0 k (a1_0 != a2_0) true a0_0 a0_1 a1_0 a1_1 a1_2 a1_3 a1_4 a2_0 a2_1 a2_2 a2_3 a2_4) else (if a1_1 = true then (if a2_1 = true then (spec_l4K_quotient.j0 k (a1_0 != a2_0) true a0_0 a0_1 a1_0 a1_1 a1_2 a1_3 a1_4 a2_0 a2_1 a2_2 a2_3 a2_4) else (spec_l4K_quotient.j0 k (a1_0 != a2_0) false a0_0 a0_1 a1_0 a1_1 a1_2 a1_3 a1_4 a2_0 a2_1 a2_2 a2_3 a2_4)) else (if a2_1 = true then (spec_l4K_quotient.j0 k (a1_0 != a2_0) false a0_0 a0_1 a1_0 a1_1 a1_2 a1_3 a1_4 a2_0 a2_1 a2_2 a2_3 a2_4) else (if a1_3 = 0 then (spec_l4K_quotient.j0 k (a1_0 != a2_0) (a2_3 == 0) a0_0 a0_1 a1_0 a1_1 a1_2 a1_3 a1_4 a2_0 a2_1 a2_2 a2_3 a2_4) else (spec_l4K_quotient.j0 k (a1_0 != a2_0) false a0_0 a0_1 a1_0 a1_1 a1_2 a1_3 a1_4 a2_0 a2_1 a2_2 a2_3 a2_4)))))
theorem spec_l4K_quotient.mono_l : ∀ k, (∀ y0 y1 y2 y3 y4 y5 y6 y7 y8 y9 y10 y11 y12 y13, LeO (spec_l4K_quotient.j0 k y0 y1 y2 y3 y4 y5 y6 y7 y8 y9 y10 y11 y12 y13) (spec_l4K_quotient.j0 (k + 1) y0 y1 y2 y3 y4 y5 y6 y7 y8 y9 y10 y11 y12 y13)) ∧ (∀ y0 y1 y2 y3 y4 y5 y6 y7 y8 y9 y10 y11 y12 y13, LeO (spec_l4K_quotient.j1 k y0 y1 y2 y3 y4 y5 y6 y7 y8 y9 y10 y11 y12 y13) (spec_l4K_quotient.j1 (k + 1) y0 y1 y2 y3 y4 y5 y6 y7 y8 y9 y10 y11 y12 y13)) ∧ (∀ y0 y1 y2 y3 y4 y5 y6 y7 y8 y9 y10 y11 y12 y13, LeO (spec_l4K_quotient.j2 k y0 y1 y2 y3 y4 y5 y6 y7 y8 y9 y10 y11 y12 y13) (spec_l4K_quotient.j2 (k + 1) y0 y1 y2 y3 y4 y5 y6 y7 y8 y9 y10 y11 y12 y13))
 | 0 => ⟨fun _ _ _ _ _ _ _ _ _ _ _ _ _ _ r h => by simp [spec_l4K_quotient.j0] at h, fun _ _ _ _ _ _ _ _ _ _ _ _ _ _ r h => by simp [spec_l4K_quotient.j1] at h, fun _ _ _ _ _ _ _ _ _ _ _ _ _ _ r h => by simp [spec_l4K_quotient.j2] at h⟩
 | k + 1 => by
  obtain ⟨ih0, ih1, ih2⟩ := spec_l4K_quotient.mono_l k
  refine ⟨?_, ?_, ?_⟩
  ·
   intro y0 y1 y2 y3 y4 y5 y6 y7 y8 y9 y10 y11 y12 y13
   unfold spec_l4K_quotient.j0
   repeat' first
   | (with_reducible exact ih0 _ _ _ _ _ _ _ _ _ _ _ _ _ _)
   | (with_reducible exact ih1 _ _ _ _ _ _ _ _ _ _ _ _ _ _)
   | (with_reducible exact ih2 _ _ _ _ _ _ _ _ _ _ _ _ _ _)
   | (with_reducible exact spec_l4K_full.mono _ _ _ _ _ _ _ _)
   | (with_reducible exact spec_l4K_round.mono _ _ _ _ _ _ _)
   | (with_reducible exact LeO.refl _)
   | (with_reducible exact LeO.none _)
   | (with_reducible refine LeO.ite ?_ ?_)
   | (with_reducible refine LeO.bind ?_ (fun _ => ?_))
   | exact ih0 _ _ _ _ _ _ _ _ _ _ _ _ _ _
   | exact ih1 _ _ _ _ _ _ _ _ _ _ _ _ _ _
   | exact ih2 _ _ _ _ _ _ _ _ _ _ _ _ _ _
   | exact spec_l4K_full.mono _ _ _ _ _ _ _ _
   | exact spec_l4K_round.mono _ _ _ _ _ _ _
   | exact LeO.none _
   | refine LeO.ite ?_ ?_
   | refine LeO.bind ?_ (fun _ => ?_)
  ·
   intro y0 y1 y2 y3 y4 y5 y6 y7 y8 y9 y10 y11 y12 y13
   unfold spec_l4K_quotient.j1
   repeat' first
   | (with_reducible exact ih0 _ _ _ _ _ _ _ _ _ _ _ _ _ _)
   | (with_reducible exact ih1 _ _ _ _ _ _ _ _ _ _ _ _ _ _)
   | (with_reducible exact ih2 _ _ _ _ _ _ _ _ _ _ _ _ _ _)
   | (with_reducible exact spec_l4K_full.mono _ _ _ _ _ _ _ _)
   | (with_reducible exact spec_l4K_round.mono _ _ _ _ _ _ _)
   | (with_reducible exact LeO.refl _)
   | (with_reducible exact LeO.none _)
   | (with_reducible refine LeO.ite ?_ ?_)
   | (with_reducible refine LeO.bind ?_ (fun _ => ?_))
   | exact ih0 _ _ _ _ _ _ _ _ _ _ _ _ _ _
   | exact ih1 _ _ _ _ _ _ _ _ _ _ _ _ _ _
   | exact ih2 _ _ _ _ _ _ _ _ _ _ _ _ _ _
   | exact spec_l4K_full.mono _ _ _ _ _ _ _ _
   | exact spec_l4K_round.mono _ _ _ _ _ _ _
   | exact LeO.none _
   | refine LeO.ite ?_ ?_
   | refine LeO.bind ?_ (fun _ => ?_)
  ·
   intro y0 y1 y2 y3 y4 y5 y6 y7 y8 y9 y10 y11 y12 y13
   unfold spec_l4K_quotient.j2
   repeat' first
   | (with_reducible exact ih0 _ _ _ _ _ _ _ _ _ _ _ _ _ _)
   | (with_reducible exact ih1 _ _ _ _ _ _ _ _ _ _ _ _ _ _)
   | (with_reducible exact ih2 _ _ _ _ _ _ _ _ _ _ _ _ _ _)
   | (with_reducible exact spec_l4K_full.mono _ _ _ _ _ _ _ _)
   | (with_reducible exact spec_l4K_round.mono _ _ _ _ _ _ _)
   | (with_reducible exact LeO.refl _)
   | (with_reducible exact LeO.none _)
   | (with_reducible refine LeO.ite ?_ ?_)
   | (with_reducible refine LeO.bind ?_ (fun _ => ?_))
   | exact ih0 _ _ _ _ _ _ _ _ _ _ _ _ _ _
   | exact ih1 _ _ _ _ _ _ _ _ _ _ _ _ _ _
   | exact ih2 _ _ _ _ _ _ _ _ _ _ _ _ _ _
   | exact spec_l4K_full.mono _ _ _ _ _ _ _ _
   | exact spec_l4K_round.mono _ _ _ _ _ _ _
   | exact LeO.none _
   | refine LeO.ite ?_ ?_
   | refine LeO.bind ?_ (fun _ => ?_)
theorem spec_l4K_quotient.mono : ∀ a0 a1 a2 a3 a4 a5 a6 a7 a8 a9 a10 a11 k, LeO (spec_l4K_quotient.f k a0 a1 a2 a3 a4 a5 a6 a7 a8 a9 a10 a11) (spec_l4K_quotient.f (k + 1) a0 a1 a2 a3 a4 a5 a6 a7 a8 a9 a10 a11) := by
 intro a0 a1 a2 a3 a4 a5 a6 a7 a8 a9 a10 a11 k
 obtain ⟨ih0, ih1, ih2⟩ := spec_l4K_quotient.mono_l k
 unfold spec_l4K_quotient.f
 repeat' first
   | (with_reducible exact ih0 _ _ _ _ _ _ _ _ _ _ _ _ _ _)
   | (with_reducible exact ih1 _ _ _ _ _ _ _ _ _ _ _ _ _ _)
   | (with_reducible exact ih2 _ _ _ _ _ _ _ _ _ _ _ _ _ _)
   | (with_reducible exact spec_l4K_full.mono _ _ _ _ _ _ _ _)
   | (with_reducible exact spec_l4K_round.mono _ _ _ _ _ _ _)
   | (with_reducible exact LeO.refl _)
   | (with_reducible exact LeO.none _)
   | (with_reducible refine LeO.ite ?_ ?_)
   | (with_reducible refine LeO.bind ?_ (fun _ => ?_))
   | exact ih0 _ _ _ _ _ _ _ _ _ _ _ _ _ _
   | exact ih1 _ _ _ _ _ _ _ _ _ _ _ _ _ _
   | exact ih2 _ _ _ _ _ _ _ _ _ _ _ _ _ _
   | exact spec_l4K_full.mono _ _ _ _ _ _ _ _
   | exact spec_l4K_round.mono _ _ _ _ _ _ _
   | exact LeO.none _
   | refine LeO.ite ?_ ?_
   | refine LeO.bind ?_ (fun _ => ?_)
def spec_l4K_quotient.T11 : Bool × List (List Nat × List Nat) := (true, [([], []), ([], []), ([], []), ([], []), ([3], [3]), ([4], [4]), ([], []), ([6], [6]), ([5, 7], [5, 7]), ([], []), ([9], [9]), ([10], [10]), ([], []), ([12], [12]), ([11, 13], [11, 13]), ([14], [14]), ([0, 1, 2, 8, 15], [0, 1, 2, 8, 15]), ([16, 16, 0, 1, 2, 3, 4, 5, 6, 7, 8, 9, 10, 11, 12, 13, 14, 15, 16], [16])])
def spec_l4K_quotient.B11 : List Nat := [0, 0, 0, 0, 8, 24, 0, 64, 248, 0, 512, 1536, 0, 4096, 15872, 32256, 65535, 131071]
theorem spec_l4K_quotient.tab11 : rtab .any (opsOf Try.f57 11) = spec_l4K_quotient.T11 := by kernel_rfl
theorem spec_l4K_quotient.bits11 : waitsOk spec_l4K_quotient.T11.2 spec_l4K_quotient.B11 = true := by kernel_rfl
set_option maxHeartbeats 8000000 in
set_option maxRecDepth 100000 in
theorem spec_l4K_quotient.calls (k : Nat) (a0_0 : Int) (a0_1 : Int) (a1_0 : Bool) (a1_1 : Bool) (a1_2 : Bool) (a1_3 : Int) (a1_4 : Int) (a2_0 : Bool) (a2_1 : Bool) (a2_2 : Bool) (a2_3 : Int) (a2_4 : Int) (r : Int) (w : World) (h : spec_l4K_quotient.f k a0_0 a0_1 a1_0 a1_1 a1_2 a1_3 a1_4 a2_0 a2_1 a2_2 a2_3 a2_4 = some r) :
  Calls Try.prog 57 #[.agg #[.int .u64 a0_0, .int .u64 a0_1], .agg #[.bool a1_0, .bool a1_1, .bool a1_2, .int .u64 a1_3, .int .i64 a1_4], .agg #[.bool a2_0, .bool a2_1, .bool a2_2, .int .u64 a2_3, .int .i64 a2_4]] w fun e w' => e = .returned (.int .u32 r) ∧ Below w.heap.size w w' := by
 have hu52 := Try.underlying52
 have hu56 := Try.underlying56
 have HB := Aside0.mk (Below.refl w.heap.size w)
 have H : (if a1_2 = true then (spec_l4K_quotient.j0 k (a1_0 != a2_0) true a0_0 a0_1 a1_0 a1_1 a1_2 a1_3 a1_4 a2_0 a2_1 a2_2 a2_3 a2_4) else (if a2_2 = true then (spec_l4K_quotient.j0 k (a1_0 != a2_0) true a0_0 a0_1 a1_0 a1_1 a1_2 a1_3 a1_4 a2_0 a2_1 a2_2 a2_3 a2_4) else (if a1_1 = true then (if a2_1 = true then (spec_l4K_quotient.j0 k (a1_0 != a2_0) true a0_0 a0_1 a1_0 a1_1 a1_2 a1_3 a1_4 a2_0 a2_1 a2_2 a2_3 a2_4) else (spec_l4K_quotient.j0 k (a1_0 != a2_0) false a0_0 a0_1 a1_0 a1_1 a1_2 a1_3 a1_4 a2_0 a2_1 a2_2 a2_3 a2_4)) else (if a2_1 = true then (spec_l4K_quotient.j0 k (a1_0 != a2_0) false a0_0 a0_1 a1_0 a1_1 a1_2 a1_3 a1_4 a2_0 a2_1 a2_2 a2_3 a2_4) else (if a1_3 = 0 then (spec_l4K_quotient.j0 k (a1_0 != a2_0) (a2_3 == 0) a0_0 a0_1 a1_0 a1_1 a1_2 a1_3 a1_4 a2_0 a2_1 a2_2 a2_3 a2_4) else (spec_l4K_quotient.j0 k (a1_0 != a2_0) false a0_0 a0_1 a1_0 a1_1 a1_2 a1_3 a1_4 a2_0 a2_1 a2_2 a2_3 a2_4)))))) = some r := h
 clear h
 have HC4 := Aside0.mk H
 clear H
 go_enter Try.func57, Try.ntmps57
 go_upto_region 2 with (first | ((with_reducible refine gate_dst (N := 3) rfl ?_); refine box_event ?hg (N := 3) ?hd (cs := #[.int .u64 a0_0, .int .u64 a0_1]) (t := 52) ?hr ?_; (case hd => rfl); (case hg => rfl); (case hr => first | (go_simp; done) | (go_simp; rfl)); intro gb228 hg w5 hbox hb; have n0_ := Aside0.mk (below_step (by repeat (first | (with_reducible first | exact HB.out | apply below_alloc | apply pw_below_drewN | apply below_drew1) | exact HB.out)) hb); have n1_ := Aside0.mk (hbox); have n2_ := Aside0.mk ((by rw [hg]; exact (below_size (by repeat (first | (with_reducible first | exact HB.out | apply below_alloc | apply pw_below_drewN | apply below_drew1) | exact HB.out))) : w.heap.size ≤ gb228)); have n3_ := Aside0.mk ((by rw [hg]; exact (below_size (by repeat (first | (with_reducible first | exact HB.out | apply below_alloc | apply pw_below_drewN | apply below_drew1) | exact HB.out))) : w.heap.size ≤ gb228)); clear HB; have HB := n0_; have BK228 := n1_; have GW228 := n2_; have GE228 := n3_; clear n0_ n1_ n2_ n3_; clear hb hbox hg) | ((with_reducible refine gate_dst (N := 4) rfl ?_); refine box_event ?hg (N := 4) ?hd (cs := #[.bool a1_0, .bool a1_1, .bool a1_2, .int .u64 a1_3, .int .i64 a1_4]) (t := 56) ?hr ?_; (case hd => rfl); (case hg => rfl); (case hr => first | (go_simp; done) | (go_simp; rfl)); intro gb229 hg w6 hbox hb; have n0_ := Aside0.mk (blk_below (g := gb228) (o := .cells #[.int .u64 a0_0, .int .u64 a0_1] 52 (0, 0)) (by (with_reducible repeat (first | refine blk_drewN ?_ _ | refine blk_drew ?_ | refine blk_alloc ?_ _)); exact BK228.out) hb); have n1_ := Aside0.mk (below_step (by repeat (first | (with_reducible first | exact HB.out | apply below_alloc | apply pw_below_drewN | apply below_drew1 | refine below_set ?_ GE228.out) | exact HB.out)) hb); have n2_ := Aside0.mk (hbox); have n3_ := Aside0.mk ((by rw [hg]; exact (below_size (by repeat (first | (with_reducible first | exact HB.out | apply below_alloc | apply pw_below_drewN | apply below_drew1 | refine below_set ?_ GE228.out) | exact HB.out))) : w.heap.size ≤ gb229)); have n4_ := Aside0.mk ((by rw [hg]; exact (below_size (by repeat (first | (with_reducible first | exact HB.out | apply below_alloc | apply pw_below_drewN | apply below_drew1 | refine below_set ?_ GE228.out) | exact HB.out))) : w.heap.size ≤ gb229)); have n5_ := Aside0.mk ((by rw [hg]; exact Nat.ne_of_lt (blk_lt (g := gb228) (o := .cells #[.int .u64 a0_0, .int .u64 a0_1] 52 (0, 0)) (by (with_reducible repeat (first | refine blk_drewN ?_ _ | refine blk_drew ?_ | refine blk_alloc ?_ _)); exact BK228.out)) : gb228 ≠ gb229)); have n6_ := Aside0.mk ((by rw [hg]; exact Nat.ne_of_gt (blk_lt (g := gb228) (o := .cells #[.int .u64 a0_0, .int .u64 a0_1] 52 (0, 0)) (by (with_reducible repeat (first | refine blk_drewN ?_ _ | refine blk_drew ?_ | refine blk_alloc ?_ _)); exact BK228.out)) : gb229 ≠ gb228)); clear BK228; clear HB; have BK228 := n0_; have HB := n1_; have BK229 := n2_; have GW229 := n3_; have GE229 := n4_; have NB228_229 := n5_; have NB229_228 := n6_; clear n0_ n1_ n2_ n3_ n4_ n5_ n6_; clear hb hbox hg) | ((with_reducible refine gate_dst (N := 5) rfl ?_); refine box_event ?hg (N := 5) ?hd (cs := #[.bool a2_0, .bool a2_1, .bool a2_2, .int .u64 a2_3, .int .i64 a2_4]) (t := 56) ?hr ?_; (case hd => rfl); (case hg => rfl); (case hr => first | (go_simp; done) | (go_simp; rfl)); intro gb230 hg w7 hbox hb; have n0_ := Aside0.mk (blk_below (g := gb228) (o := .cells #[.int .u64 a0_0, .int .u64 a0_1] 52 (0, 0)) (by (with_reducible repeat (first | refine blk_drewN ?_ _ | refine blk_drew ?_ | refine blk_alloc ?_ _)); exact BK228.out) hb); have n1_ := Aside0.mk (blk_below (g := gb229) (o := .cells #[.bool a1_0, .bool a1_1, .bool a1_2, .int .u64 a1_3, .int .i64 a1_4] 56 (0, 0)) (by (with_reducible repeat (first | refine blk_drewN ?_ _ | refine blk_drew ?_ | refine blk_alloc ?_ _)); exact BK229.out) hb); have n2_ := Aside0.mk (below_step (by repeat (first | (with_reducible first | exact HB.out | apply below_alloc | apply pw_below_drewN | apply below_drew1 | refine below_set ?_ GE228.out | refine below_set ?_ GE229.out) | exact HB.out)) hb); have n3_ := Aside0.mk (hbox); have n4_ := Aside0.mk ((by rw [hg]; exact (below_size (by repeat (first | (with_reducible first | exact HB.out | apply below_alloc | apply pw_below_drewN | apply below_drew1 | refine below_set ?_ GE228.out | refine below_set ?_ GE229.out) | exact HB.out))) : w.heap.size ≤ gb230)); have n5_ := Aside0.mk ((by rw [hg]; exact (below_size (by repeat (first | (with_reducible first | exact HB.out | apply below_alloc | apply pw_below_drewN | apply below_drew1 | refine below_set ?_ GE228.out | refine below_set ?_ GE229.out) | exact HB.out))) : w.heap.size ≤ gb230)); have n6_ := Aside0.mk ((by rw [hg]; exact Nat.ne_of_lt (blk_lt (g := gb228) (o := .cells #[.int .u64 a0_0, .int .u64 a0_1] 52 (0, 0)) (by (with_reducible repeat (first | refine blk_drewN ?_ _ | refine blk_drew ?_ | refine blk_alloc ?_ _)); exact BK228.out)) : gb228 ≠ gb230)); have n7_ := Aside0.mk ((by rw [hg]; exact Nat.ne_of_gt (blk_lt (g := gb228) (o := .cells #[.int .u64 a0_0, .int .u64 a0_1] 52 (0, 0)) (by (with_reducible repeat (first | refine blk_drewN ?_ _ | refine blk_drew ?_ | refine blk_alloc ?_ _)); exact BK228.out)) : gb230 ≠ gb228)); have n8_ := Aside0.mk ((by rw [hg]; exact Nat.ne_of_lt (blk_lt (g := gb229) (o := .cells #[.bool a1_0, .bool a1_1, .bool a1_2, .int .u64 a1_3, .int .i64 a1_4] 56 (0, 0)) (by (with_reducible repeat (first | refine blk_drewN ?_ _ | refine blk_drew ?_ | refine blk_alloc ?_ _)); exact BK229.out)) : gb229 ≠ gb230)); have n9_ := Aside0.mk ((by rw [hg]; exact Nat.ne_of_gt (blk_lt (g := gb229) (o := .cells #[.bool a1_0, .bool a1_1, .bool a1_2, .int .u64 a1_3, .int .i64 a1_4] 56 (0, 0)) (by (with_reducible repeat (first | refine blk_drewN ?_ _ | refine blk_drew ?_ | refine blk_alloc ?_ _)); exact BK229.out)) : gb230 ≠ gb229)); clear BK228; clear BK229; clear HB; have BK228 := n0_; have BK229 := n1_; have HB := n2_; have BK230 := n3_; have GW230 := n4_; have GE230 := n5_; have NB228_230 := n6_; have NB230_228 := n7_; have NB229_230 := n8_; have NB230_229 := n9_; clear n0_ n1_ n2_ n3_ n4_ n5_ n6_ n7_ n8_ n9_; clear hb hbox hg; have hnb8 := NB229_228.out; have hnc8 := NB228_229.out; have hnb9 := NB229_230.out; have hnc9 := NB230_229.out; have hcz10_0 : w7.cell? ⟨gb229, 0, none⟩ = some (.bool a1_0) := (blk_cell BK229.out 0).trans rfl; have hcz10_1 : w7.cell? ⟨gb229, 1, none⟩ = some (.bool a1_1) := (blk_cell BK229.out 1).trans rfl; have hcz10_2 : w7.cell? ⟨gb229, 2, none⟩ = some (.bool a1_2) := (blk_cell BK229.out 2).trans rfl; have hcz10_3 : w7.cell? ⟨gb229, 3, none⟩ = some (.int .u64 a1_3) := (blk_cell BK229.out 3).trans rfl; have hcz10_4 : w7.cell? ⟨gb229, 4, none⟩ = some (.int .i64 a1_4) := (blk_cell BK229.out 4).trans rfl; have hfz10_0 := blk_frozen BK229.out 0; have hfz10_1 := blk_frozen BK229.out 1; have hfz10_2 := blk_frozen BK229.out 2; have hfz10_3 := blk_frozen BK229.out 3; have hfz10_4 := blk_frozen BK229.out 4; have hnb11 := NB230_228.out; have hnc11 := NB228_230.out; have hcz12_0 : w7.cell? ⟨gb230, 0, none⟩ = some (.bool a2_0) := (blk_cell BK230.out 0).trans rfl; have hcz12_1 : w7.cell? ⟨gb230, 1, none⟩ = some (.bool a2_1) := (blk_cell BK230.out 1).trans rfl; have hcz12_2 : w7.cell? ⟨gb230, 2, none⟩ = some (.bool a2_2) := (blk_cell BK230.out 2).trans rfl; have hcz12_3 : w7.cell? ⟨gb230, 3, none⟩ = some (.int .u64 a2_3) := (blk_cell BK230.out 3).trans rfl; have hcz12_4 : w7.cell? ⟨gb230, 4, none⟩ = some (.int .i64 a2_4) := (blk_cell BK230.out 4).trans rfl; have hfz12_0 := blk_frozen BK230.out 0; have hfz12_1 := blk_frozen BK230.out 1; have hfz12_2 := blk_frozen BK230.out 2; have hfz12_3 := blk_frozen BK230.out 3; have hfz12_4 := blk_frozen BK230.out 4))
 (try simp only [Act.put, List.setIfInBounds_toArray, List.set_cons_zero, List.set_cons_succ])
 go_cut [14] (fun v14 wc => ∃ (kq : Nat) (x14_3 : Bool), v14 = .bool x14_3 ∧ Aside0 (spec_l4K_quotient.j0 kq (a1_0 != a2_0) x14_3 a0_0 a0_1 a1_0 a1_1 a1_2 a1_3 a1_4 a2_0 a2_1 a2_2 a2_3 a2_4 = some r) ∧ Aside0 (kq ≤ k) ∧ Aside0 (wc.heap[gb228]? = some (.cells #[.int .u64 a0_0, .int .u64 a0_1] 52 (0, 0))) ∧ Aside0 (wc.heap[gb229]? = some (.cells #[.bool a1_0, .bool a1_1, .bool a1_2, .int .u64 a1_3, .int .i64 a1_4] 56 (0, 0))) ∧ Aside0 (wc.heap[gb230]? = some (.cells #[.bool a2_0, .bool a2_1, .bool a2_2, .int .u64 a2_3, .int .i64 a2_4] 56 (0, 0))) ∧ Aside0 (Below w.heap.size w wc))
 case first =>
  have H := HC4.out
  clear HC4
  by_cases c13 : a1_2 = true
  ·
   subst c13
   have H1 : (spec_l4K_quotient.j0 k (a1_0 != a2_0) true a0_0 a0_1 a1_0 a1_1 true a1_3 a1_4 a2_0 a2_1 a2_2 a2_3 a2_4) = some r := by rw [if_pos rfl] at H; exact H
   clear H
   have H := H1
   clear H1
   have H' := Aside0.mk H
   clear H
   have hnb14 := NB229_228.out
   have hnc14 := NB228_229.out
   have hnb15 := NB229_230.out
   have hnc15 := NB230_229.out
   have hcz16_0 : w7.cell? ⟨gb229, 0, none⟩ = some (.bool a1_0) := (blk_cell BK229.out 0).trans rfl
   have hcz16_1 : w7.cell? ⟨gb229, 1, none⟩ = some (.bool a1_1) := (blk_cell BK229.out 1).trans rfl
   have hcz16_2 : w7.cell? ⟨gb229, 2, none⟩ = some (.bool true) := (blk_cell BK229.out 2).trans rfl
   have hcz16_3 : w7.cell? ⟨gb229, 3, none⟩ = some (.int .u64 a1_3) := (blk_cell BK229.out 3).trans rfl
   have hcz16_4 : w7.cell? ⟨gb229, 4, none⟩ = some (.int .i64 a1_4) := (blk_cell BK229.out 4).trans rfl
   have hfz16_0 := blk_frozen BK229.out 0
   have hfz16_1 := blk_frozen BK229.out 1
   have hfz16_2 := blk_frozen BK229.out 2
   have hfz16_3 := blk_frozen BK229.out 3
   have hfz16_4 := blk_frozen BK229.out 4
   go_wp2
   go_meet
   case rel => exact ⟨_, (true), (by first | rfl | (simp; done) | (simp [*]; done)), H', ⟨by first | omega | exact Nat.le_refl _⟩, ⟨by (with_reducible repeat (first | refine blk_drewN ?_ _ | refine blk_drew ?_ | refine blk_alloc ?_ _)); exact BK228.out⟩, ⟨by (with_reducible repeat (first | refine blk_drewN ?_ _ | refine blk_drew ?_ | refine blk_alloc ?_ _)); exact BK229.out⟩, ⟨by (with_reducible repeat (first | refine blk_drewN ?_ _ | refine blk_drew ?_ | refine blk_alloc ?_ _)); exact BK230.out⟩, ⟨by repeat (first | (with_reducible first | exact HB.out | apply below_alloc | apply pw_below_drewN | apply below_drew1 | refine below_set ?_ GE228.out | refine below_set ?_ GE229.out | refine below_set ?_ GE230.out) | exact HB.out)⟩⟩
  ·
   replace c13 := Bool.eq_false_iff.mpr c13
   subst c13
   have H1 : (if a2_2 = true then (spec_l4K_quotient.j0 k (a1_0 != a2_0) true a0_0 a0_1 a1_0 a1_1 false a1_3 a1_4 a2_0 a2_1 a2_2 a2_3 a2_4) else (if a1_1 = true then (if a2_1 = true then (spec_l4K_quotient.j0 k (a1_0 != a2_0) true a0_0 a0_1 a1_0 a1_1 false a1_3 a1_4 a2_0 a2_1 a2_2 a2_3 a2_4) else (spec_l4K_quotient.j0 k (a1_0 != a2_0) false a0_0 a0_1 a1_0 a1_1 false a1_3 a1_4 a2_0 a2_1 a2_2 a2_3 a2_4)) else (if a2_1 = true then (spec_l4K_quotient.j0 k (a1_0 != a2_0) false a0_0 a0_1 a1_0 a1_1 false a1_3 a1_4 a2_0 a2_1 a2_2 a2_3 a2_4) else (if a1_3 = 0 then (spec_l4K_quotient.j0 k (a1_0 != a2_0) (a2_3 == 0) a0_0 a0_1 a1_0 a1_1 false a1_3 a1_4 a2_0 a2_1 a2_2 a2_3 a2_4) else (spec_l4K_quotient.j0 k (a1_0 != a2_0) false a0_0 a0_1 a1_0 a1_1 false a1_3 a1_4 a2_0 a2_1 a2_2 a2_3 a2_4))))) = some r := by rw [if_neg (show ¬ (false = true) by decide)] at H; exact H
   clear H
   have H := H1
   clear H1
   by_cases c17 : a2_2 = true
   ·
    subst c17
    have H1 : (spec_l4K_quotient.j0 k (a1_0 != a2_0) true a0_0 a0_1 a1_0 a1_1 false a1_3 a1_4 a2_0 a2_1 true a2_3 a2_4) = some r := by rw [if_pos rfl] at H; exact H
    clear H
    have H := H1
    clear H1
    have H' := Aside0.mk H
    clear H
    have hnb18 := NB229_228.out
    have hnc18 := NB228_229.out
    have hnb19 := NB229_230.out
    have hnc19 := NB230_229.out
    have hcz20_0 : w7.cell? ⟨gb229, 0, none⟩ = some (.bool a1_0) := (blk_cell BK229.out 0).trans rfl
    have hcz20_1 : w7.cell? ⟨gb229, 1, none⟩ = some (.bool a1_1) := (blk_cell BK229.out 1).trans rfl
    have hcz20_2 : w7.cell? ⟨gb229, 2, none⟩ = some (.bool false) := (blk_cell BK229.out 2).trans rfl
    have hcz20_3 : w7.cell? ⟨gb229, 3, none⟩ = some (.int .u64 a1_3) := (blk_cell BK229.out 3).trans rfl
    have hcz20_4 : w7.cell? ⟨gb229, 4, none⟩ = some (.int .i64 a1_4) := (blk_cell BK229.out 4).trans rfl
    have hfz20_0 := blk_frozen BK229.out 0
    have hfz20_1 := blk_frozen BK229.out 1
    have hfz20_2 := blk_frozen BK229.out 2
    have hfz20_3 := blk_frozen BK229.out 3
    have hfz20_4 := blk_frozen BK229.out 4
    have hnb21 := NB230_228.out
    have hnc21 := NB228_230.out
    have hcz22_0 : w7.cell? ⟨gb230, 0, none⟩ = some (.bool a2_0) := (blk_cell BK230.out 0).trans rfl
    have hcz22_1 : w7.cell? ⟨gb230, 1, none⟩ = some (.bool a2_1) := (blk_cell BK230.out 1).trans rfl
    have hcz22_2 : w7.cell? ⟨gb230, 2, none⟩ = some (.bool true) := (blk_cell BK230.out 2).trans rfl
    have hcz22_3 : w7.cell? ⟨gb230, 3, none⟩ = some (.int .u64 a2_3) := (blk_cell BK230.out 3).trans rfl
    have hcz22_4 : w7.cell? ⟨gb230, 4, none⟩ = some (.int .i64 a2_4) := (blk_cell BK230.out 4).trans rfl
    have hfz22_0 := blk_frozen BK230.out 0
    have hfz22_1 := blk_frozen BK230.out 1
    have hfz22_2 := blk_frozen BK230.out 2
    have hfz22_3 := blk_frozen BK230.out 3
    have hfz22_4 := blk_frozen BK230.out 4
    go_wp2
    go_meet
    case rel => exact ⟨_, (true), (by first | rfl | (simp; done) | (simp [*]; done)), H', ⟨by first | omega | exact Nat.le_refl _⟩, ⟨by (with_reducible repeat (first | refine blk_drewN ?_ _ | refine blk_drew ?_ | refine blk_alloc ?_ _)); exact BK228.out⟩, ⟨by (with_reducible repeat (first | refine blk_drewN ?_ _ | refine blk_drew ?_ | refine blk_alloc ?_ _)); exact BK229.out⟩, ⟨by (with_reducible repeat (first | refine blk_drewN ?_ _ | refine blk_drew ?_ | refine blk_alloc ?_ _)); exact BK230.out⟩, ⟨by repeat (first | (with_reducible first | exact HB.out | apply below_alloc | apply pw_below_drewN | apply below_drew1 | refine below_set ?_ GE228.out | refine below_set ?_ GE229.out | refine below_set ?_ GE230.out) | exact HB.out)⟩⟩
   ·
    replace c17 := Bool.eq_false_iff.mpr c17
    subst c17
    have H1 : (if a1_1 = true then (if a2_1 = true then (spec_l4K_quotient.j0 k (a1_0 != a2_0) true a0_0 a0_1 a1_0 a1_1 false a1_3 a1_4 a2_0 a2_1 false a2_3 a2_4) else (spec_l4K_quotient.j0 k (a1_0 != a2_0) false a0_0 a0_1 a1_0 a1_1 false a1_3 a1_4 a2_0 a2_1 false a2_3 a2_4)) else (if a2_1 = true then (spec_l4K_quotient.j0 k (a1_0 != a2_0) false a0_0 a0_1 a1_0 a1_1 false a1_3 a1_4 a2_0 a2_1 false a2_3 a2_4) else (if a1_3 = 0 then (spec_l4K_quotient.j0 k (a1_0 != a2_0) (a2_3 == 0) a0_0 a0_1 a1_0 a1_1 false a1_3 a1_4 a2_0 a2_1 false a2_3 a2_4) else (spec_l4K_quotient.j0 k (a1_0 != a2_0) false a0_0 a0_1 a1_0 a1_1 false a1_3 a1_4 a2_0 a2_1 false a2_3 a2_4)))) = some r := by rw [if_neg (show ¬ (false = true) by decide)] at H; exact H
    clear H
    have H := H1
    clear H1
    by_cases c23 : a1_1 = true
    ·
     subst c23
     have H1 : (if a2_1 = true then (spec_l4K_quotient.j0 k (a1_0 != a2_0) true a0_0 a0_1 a1_0 true false a1_3 a1_4 a2_0 a2_1 false a2_3 a2_4) else (spec_l4K_quotient.j0 k (a1_0 != a2_0) false a0_0 a0_1 a1_0 true false a1_3 a1_4 a2_0 a2_1 false a2_3 a2_4)) = some r := by rw [if_pos rfl] at H; exact H
     clear H
     have H := H1
     clear H1
     by_cases c24 : a2_1 = true
     ·
      subst c24
      have H1 : (spec_l4K_quotient.j0 k (a1_0 != a2_0) true a0_0 a0_1 a1_0 true false a1_3 a1_4 a2_0 true false a2_3 a2_4) = some r := by rw [if_pos rfl] at H; exact H
      clear H
      have H := H1
      clear H1
      have H' := Aside0.mk H
      clear H
      have hnb25 := NB229_228.out
      have hnc25 := NB228_229.out
      have hnb26 := NB229_230.out
      have hnc26 := NB230_229.out
      have hcz27_0 : w7.cell? ⟨gb229, 0, none⟩ = some (.bool a1_0) := (blk_cell BK229.out 0).trans rfl
      have hcz27_1 : w7.cell? ⟨gb229, 1, none⟩ = some (.bool true) := (blk_cell BK229.out 1).trans rfl
      have hcz27_2 : w7.cell? ⟨gb229, 2, none⟩ = some (.bool false) := (blk_cell BK229.out 2).trans rfl
      have hcz27_3 : w7.cell? ⟨gb229, 3, none⟩ = some (.int .u64 a1_3) := (blk_cell BK229.out 3).trans rfl
      have hcz27_4 : w7.cell? ⟨gb229, 4, none⟩ = some (.int .i64 a1_4) := (blk_cell BK229.out 4).trans rfl
      have hfz27_0 := blk_frozen BK229.out 0
      have hfz27_1 := blk_frozen BK229.out 1
      have hfz27_2 := blk_frozen BK229.out 2
      have hfz27_3 := blk_frozen BK229.out 3
      have hfz27_4 := blk_frozen BK229.out 4
      have hnb28 := NB230_228.out
      have hnc28 := NB228_230.out
      have hcz29_0 : w7.cell? ⟨gb230, 0, none⟩ = some (.bool a2_0) := (blk_cell BK230.out 0).trans rfl
      have hcz29_1 : w7.cell? ⟨gb230, 1, none⟩ = some (.bool true) := (blk_cell BK230.out 1).trans rfl
      have hcz29_2 : w7.cell? ⟨gb230, 2, none⟩ = some (.bool false) := (blk_cell BK230.out 2).trans rfl
      have hcz29_3 : w7.cell? ⟨gb230, 3, none⟩ = some (.int .u64 a2_3) := (blk_cell BK230.out 3).trans rfl
      have hcz29_4 : w7.cell? ⟨gb230, 4, none⟩ = some (.int .i64 a2_4) := (blk_cell BK230.out 4).trans rfl
      have hfz29_0 := blk_frozen BK230.out 0
      have hfz29_1 := blk_frozen BK230.out 1
      have hfz29_2 := blk_frozen BK230.out 2
      have hfz29_3 := blk_frozen BK230.out 3
      have hfz29_4 := blk_frozen BK230.out 4
      go_wp2
      go_meet
      case rel => exact ⟨_, (true), (by first | rfl | (simp; done) | (simp [*]; done)), H', ⟨by first | omega | exact Nat.le_refl _⟩, ⟨by (with_reducible repeat (first | refine blk_drewN ?_ _ | refine blk_drew ?_ | refine blk_alloc ?_ _)); exact BK228.out⟩, ⟨by (with_reducible repeat (first | refine blk_drewN ?_ _ | refine blk_drew ?_ | refine blk_alloc ?_ _)); exact BK229.out⟩, ⟨by (with_reducible repeat (first | refine blk_drewN ?_ _ | refine blk_drew ?_ | refine blk_alloc ?_ _)); exact BK230.out⟩, ⟨by repeat (first | (with_reducible first | exact HB.out | apply below_alloc | apply pw_below_drewN | apply below_drew1 | refine below_set ?_ GE228.out | refine below_set ?_ GE229.out | refine below_set ?_ GE230.out) | exact HB.out)⟩⟩
     ·
      replace c24 := Bool.eq_false_iff.mpr c24
      subst c24
      have H1 : (spec_l4K_quotient.j0 k (a1_0 != a2_0) false a0_0 a0_1 a1_0 true false a1_3 a1_4 a2_0 false false a2_3 a2_4) = some r := by rw [if_neg (show ¬ (false = true) by decide)] at H; exact H
      clear H
      have H := H1
      clear H1
      have H' := Aside0.mk H
      clear H
      have hnb30 := NB229_228.out
      have hnc30 := NB228_229.out
      have hnb31 := NB229_230.out
      have hnc31 := NB230_229.out
      have hcz32_0 : w7.cell? ⟨gb229, 0, none⟩ = some (.bool a1_0) := (blk_cell BK229.out 0).trans rfl
      have hcz32_1 : w7.cell? ⟨gb229, 1, none⟩ = some (.bool true) := (blk_cell BK229.out 1).trans rfl
      have hcz32_2 : w7.cell? ⟨gb229, 2, none⟩ = some (.bool false) := (blk_cell BK229.out 2).trans rfl
      have hcz32_3 : w7.cell? ⟨gb229, 3, none⟩ = some (.int .u64 a1_3) := (blk_cell BK229.out 3).trans rfl
      have hcz32_4 : w7.cell? ⟨gb229, 4, none⟩ = some (.int .i64 a1_4) := (blk_cell BK229.out 4).trans rfl
      have hfz32_0 := blk_frozen BK229.out 0
      have hfz32_1 := blk_frozen BK229.out 1
      have hfz32_2 := blk_frozen BK229.out 2
      have hfz32_3 := blk_frozen BK229.out 3
      have hfz32_4 := blk_frozen BK229.out 4
      have hnb33 := NB230_228.out
      have hnc33 := NB228_230.out
      have hcz34_0 : w7.cell? ⟨gb230, 0, none⟩ = some (.bool a2_0) := (blk_cell BK230.out 0).trans rfl
      have hcz34_1 : w7.cell? ⟨gb230, 1, none⟩ = some (.bool false) := (blk_cell BK230.out 1).trans rfl
      have hcz34_2 : w7.cell? ⟨gb230, 2, none⟩ = some (.bool false) := (blk_cell BK230.out 2).trans rfl
      have hcz34_3 : w7.cell? ⟨gb230, 3, none⟩ = some (.int .u64 a2_3) := (blk_cell BK230.out 3).trans rfl
      have hcz34_4 : w7.cell? ⟨gb230, 4, none⟩ = some (.int .i64 a2_4) := (blk_cell BK230.out 4).trans rfl
      have hfz34_0 := blk_frozen BK230.out 0
      have hfz34_1 := blk_frozen BK230.out 1
      have hfz34_2 := blk_frozen BK230.out 2
      have hfz34_3 := blk_frozen BK230.out 3
      have hfz34_4 := blk_frozen BK230.out 4
      go_wp2
      go_meet
      case rel => exact ⟨_, (false), (by first | rfl | (simp; done) | (simp [*]; done)), H', ⟨by first | omega | exact Nat.le_refl _⟩, ⟨by (with_reducible repeat (first | refine blk_drewN ?_ _ | refine blk_drew ?_ | refine blk_alloc ?_ _)); exact BK228.out⟩, ⟨by (with_reducible repeat (first | refine blk_drewN ?_ _ | refine blk_drew ?_ | refine blk_alloc ?_ _)); exact BK229.out⟩, ⟨by (with_reducible repeat (first | refine blk_drewN ?_ _ | refine blk_drew ?_ | refine blk_alloc ?_ _)); exact BK230.out⟩, ⟨by repeat (first | (with_reducible first | exact HB.out | apply below_alloc | apply pw_below_drewN | apply below_drew1 | refine below_set ?_ GE228.out | refine below_set ?_ GE229.out | refine below_set ?_ GE230.out) | exact HB.out)⟩⟩
    ·
     replace c23 := Bool.eq_false_iff.mpr c23
     subst c23
     have H1 : (if a2_1 = true then (spec_l4K_quotient.j0 k (a1_0 != a2_0) false a0_0 a0_1 a1_0 false false a1_3 a1_4 a2_0 a2_1 false a2_3 a2_4) else (if a1_3 = 0 then (spec_l4K_quotient.j0 k (a1_0 != a2_0) (a2_3 == 0) a0_0 a0_1 a1_0 false false a1_3 a1_4 a2_0 a2_1 false a2_3 a2_4) else (spec_l4K_quotient.j0 k (a1_0 != a2_0) false a0_0 a0_1 a1_0 false false a1_3 a1_4 a2_0 a2_1 false a2_3 a2_4))) = some r := by rw [if_neg (show ¬ (false = true) by decide)] at H; exact H
     clear H
     have H := H1
     clear H1
     by_cases c35 : a2_1 = true
     ·
      subst c35
      have H1 : (spec_l4K_quotient.j0 k (a1_0 != a2_0) false a0_0 a0_1 a1_0 false false a1_3 a1_4 a2_0 true false a2_3 a2_4) = some r := by rw [if_pos rfl] at H; exact H
      clear H
      have H := H1
      clear H1
      have H' := Aside0.mk H
      clear H
      have hnb36 := NB229_228.out
      have hnc36 := NB228_229.out
      have hnb37 := NB229_230.out
      have hnc37 := NB230_229.out
      have hcz38_0 : w7.cell? ⟨gb229, 0, none⟩ = some (.bool a1_0) := (blk_cell BK229.out 0).trans rfl
      have hcz38_1 : w7.cell? ⟨gb229, 1, none⟩ = some (.bool false) := (blk_cell BK229.out 1).trans rfl
      have hcz38_2 : w7.cell? ⟨gb229, 2, none⟩ = some (.bool false) := (blk_cell BK229.out 2).trans rfl
      have hcz38_3 : w7.cell? ⟨gb229, 3, none⟩ = some (.int .u64 a1_3) := (blk_cell BK229.out 3).trans rfl
      have hcz38_4 : w7.cell? ⟨gb229, 4, none⟩ = some (.int .i64 a1_4) := (blk_cell BK229.out 4).trans rfl
      have hfz38_0 := blk_frozen BK229.out 0
      have hfz38_1 := blk_frozen BK229.out 1
      have hfz38_2 := blk_frozen BK229.out 2
      have hfz38_3 := blk_frozen BK229.out 3
      have hfz38_4 := blk_frozen BK229.out 4
      have hnb39 := NB230_228.out
      have hnc39 := NB228_230.out
      have hcz40_0 : w7.cell? ⟨gb230, 0, none⟩ = some (.bool a2_0) := (blk_cell BK230.out 0).trans rfl
      have hcz40_1 : w7.cell? ⟨gb230, 1, none⟩ = some (.bool true) := (blk_cell BK230.out 1).trans rfl
      have hcz40_2 : w7.cell? ⟨gb230, 2, none⟩ = some (.bool false) := (blk_cell BK230.out 2).trans rfl
      have hcz40_3 : w7.cell? ⟨gb230, 3, none⟩ = some (.int .u64 a2_3) := (blk_cell BK230.out 3).trans rfl
      have hcz40_4 : w7.cell? ⟨gb230, 4, none⟩ = some (.int .i64 a2_4) := (blk_cell BK230.out 4).trans rfl
      have hfz40_0 := blk_frozen BK230.out 0
      have hfz40_1 := blk_frozen BK230.out 1
      have hfz40_2 := blk_frozen BK230.out 2
      have hfz40_3 := blk_frozen BK230.out 3
      have hfz40_4 := blk_frozen BK230.out 4
      go_wp2
      go_meet
      case rel => exact ⟨_, (false), (by first | rfl | (simp; done) | (simp [*]; done)), H', ⟨by first | omega | exact Nat.le_refl _⟩, ⟨by (with_reducible repeat (first | refine blk_drewN ?_ _ | refine blk_drew ?_ | refine blk_alloc ?_ _)); exact BK228.out⟩, ⟨by (with_reducible repeat (first | refine blk_drewN ?_ _ | refine blk_drew ?_ | refine blk_alloc ?_ _)); exact BK229.out⟩, ⟨by (with_reducible repeat (first | refine blk_drewN ?_ _ | refine blk_drew ?_ | refine blk_alloc ?_ _)); exact BK230.out⟩, ⟨by repeat (first | (with_reducible first | exact HB.out | apply below_alloc | apply pw_below_drewN | apply below_drew1 | refine below_set ?_ GE228.out | refine below_set ?_ GE229.out | refine below_set ?_ GE230.out) | exact HB.out)⟩⟩
     ·
      replace c35 := Bool.eq_false_iff.mpr c35
      subst c35
      have H1 : (if a1_3 = 0 then (spec_l4K_quotient.j0 k (a1_0 != a2_0) (a2_3 == 0) a0_0 a0_1 a1_0 false false a1_3 a1_4 a2_0 false false a2_3 a2_4) else (spec_l4K_quotient.j0 k (a1_0 != a2_0) false a0_0 a0_1 a1_0 false false a1_3 a1_4 a2_0 false false a2_3 a2_4)) = some r := by rw [if_neg (show ¬ (false = true) by decide)] at H; exact H
      clear H
      have H := H1
      clear H1
      by_cases c41 : a1_3 = 0
      ·
       rw [if_pos c41] at H
       have c41b0 : (a1_3 == 0) = true := beq_iff_eq.mpr c41
       have c41b1 : (a1_3 != 0) = false := bne_eq_false_iff_eq.mpr c41
       clear c41
       (first | rw [c41b0] | (simp only [i64_w, i32_w]; rw [c41b0]) | skip)
       have H' := Aside0.mk H
       clear H
       have hnb42 := NB229_228.out
       have hnc42 := NB228_229.out
       have hnb43 := NB229_230.out
       have hnc43 := NB230_229.out
       have hcz44_0 : w7.cell? ⟨gb229, 0, none⟩ = some (.bool a1_0) := (blk_cell BK229.out 0).trans rfl
       have hcz44_1 : w7.cell? ⟨gb229, 1, none⟩ = some (.bool false) := (blk_cell BK229.out 1).trans rfl
       have hcz44_2 : w7.cell? ⟨gb229, 2, none⟩ = some (.bool false) := (blk_cell BK229.out 2).trans rfl
       have hcz44_3 : w7.cell? ⟨gb229, 3, none⟩ = some (.int .u64 a1_3) := (blk_cell BK229.out 3).trans rfl
       have hcz44_4 : w7.cell? ⟨gb229, 4, none⟩ = some (.int .i64 a1_4) := (blk_cell BK229.out 4).trans rfl
       have hfz44_0 := blk_frozen BK229.out 0
       have hfz44_1 := blk_frozen BK229.out 1
       have hfz44_2 := blk_frozen BK229.out 2
       have hfz44_3 := blk_frozen BK229.out 3
       have hfz44_4 := blk_frozen BK229.out 4
       have hnb45 := NB230_228.out
       have hnc45 := NB228_230.out
       have hcz46_0 : w7.cell? ⟨gb230, 0, none⟩ = some (.bool a2_0) := (blk_cell BK230.out 0).trans rfl
       have hcz46_1 : w7.cell? ⟨gb230, 1, none⟩ = some (.bool false) := (blk_cell BK230.out 1).trans rfl
       have hcz46_2 : w7.cell? ⟨gb230, 2, none⟩ = some (.bool false) := (blk_cell BK230.out 2).trans rfl
       have hcz46_3 : w7.cell? ⟨gb230, 3, none⟩ = some (.int .u64 a2_3) := (blk_cell BK230.out 3).trans rfl
       have hcz46_4 : w7.cell? ⟨gb230, 4, none⟩ = some (.int .i64 a2_4) := (blk_cell BK230.out 4).trans rfl
       have hfz46_0 := blk_frozen BK230.out 0
       have hfz46_1 := blk_frozen BK230.out 1
       have hfz46_2 := blk_frozen BK230.out 2
       have hfz46_3 := blk_frozen BK230.out 3
       have hfz46_4 := blk_frozen BK230.out 4
       go_wp2
       go_meet
       case rel => exact ⟨_, ((a2_3 == 0)), (by first | rfl | (simp; done) | (simp [*]; done)), H', ⟨by first | omega | exact Nat.le_refl _⟩, ⟨by (with_reducible repeat (first | refine blk_drewN ?_ _ | refine blk_drew ?_ | refine blk_alloc ?_ _)); exact BK228.out⟩, ⟨by (with_reducible repeat (first | refine blk_drewN ?_ _ | refine blk_drew ?_ | refine blk_alloc ?_ _)); exact BK229.out⟩, ⟨by (with_reducible repeat (first | refine blk_drewN ?_ _ | refine blk_drew ?_ | refine blk_alloc ?_ _)); exact BK230.out⟩, ⟨by repeat (first | (with_reducible first | exact HB.out | apply below_alloc | apply pw_below_drewN | apply below_drew1 | refine below_set ?_ GE228.out | refine below_set ?_ GE229.out | refine below_set ?_ GE230.out) | exact HB.out)⟩⟩
      ·
       rw [if_neg c41] at H
       have c41b0 : (a1_3 == 0) = false := beq_eq_false_iff_ne.mpr c41
       have c41b1 : (a1_3 != 0) = true := bne_iff_ne.mpr c41
       (first | rw [c41b0] | (simp only [i64_w, i32_w]; rw [c41b0]) | skip)
       have H' := Aside0.mk H
       clear H
       have hnb47 := NB229_228.out
       have hnc47 := NB228_229.out
       have hnb48 := NB229_230.out
       have hnc48 := NB230_229.out
       have hcz49_0 : w7.cell? ⟨gb229, 0, none⟩ = some (.bool a1_0) := (blk_cell BK229.out 0).trans rfl
       have hcz49_1 : w7.cell? ⟨gb229, 1, none⟩ = some (.bool false) := (blk_cell BK229.out 1).trans rfl
       have hcz49_2 : w7.cell? ⟨gb229, 2, none⟩ = some (.bool false) := (blk_cell BK229.out 2).trans rfl
       have hcz49_3 : w7.cell? ⟨gb229, 3, none⟩ = some (.int .u64 a1_3) := (blk_cell BK229.out 3).trans rfl
       have hcz49_4 : w7.cell? ⟨gb229, 4, none⟩ = some (.int .i64 a1_4) := (blk_cell BK229.out 4).trans rfl
       have hfz49_0 := blk_frozen BK229.out 0
       have hfz49_1 := blk_frozen BK229.out 1
       have hfz49_2 := blk_frozen BK229.out 2
       have hfz49_3 := blk_frozen BK229.out 3
       have hfz49_4 := blk_frozen BK229.out 4
       have hnb50 := NB230_228.out
       have hnc50 := NB228_230.out
       have hcz51_0 : w7.cell? ⟨gb230, 0, none⟩ = some (.bool a2_0) := (blk_cell BK230.out 0).trans rfl
       have hcz51_1 : w7.cell? ⟨gb230, 1, none⟩ = some (.bool false) := (blk_cell BK230.out 1).trans rfl
       have hcz51_2 : w7.cell? ⟨gb230, 2, none⟩ = some (.bool false) := (blk_cell BK230.out 2).trans rfl
       have hcz51_3 : w7.cell? ⟨gb230, 3, none⟩ = some (.int .u64 a2_3) := (blk_cell BK230.out 3).trans rfl
       have hcz51_4 : w7.cell? ⟨gb230, 4, none⟩ = some (.int .i64 a2_4) := (blk_cell BK230.out 4).trans rfl
       have hfz51_0 := blk_frozen BK230.out 0
       have hfz51_1 := blk_frozen BK230.out 1
       have hfz51_2 := blk_frozen BK230.out 2
       have hfz51_3 := blk_frozen BK230.out 3
       have hfz51_4 := blk_frozen BK230.out 4
       go_wp2
       go_meet
       case rel => exact ⟨_, (false), (by first | rfl | (simp; done) | (simp [*]; done)), H', ⟨by first | omega | exact Nat.le_refl _⟩, ⟨by (with_reducible repeat (first | refine blk_drewN ?_ _ | refine blk_drew ?_ | refine blk_alloc ?_ _)); exact BK228.out⟩, ⟨by (with_reducible repeat (first | refine blk_drewN ?_ _ | refine blk_drew ?_ | refine blk_alloc ?_ _)); exact BK229.out⟩, ⟨by (with_reducible repeat (first | refine blk_drewN ?_ _ | refine blk_drew ?_ | refine blk_alloc ?_ _)); exact BK230.out⟩, ⟨by repeat (first | (with_reducible first | exact HB.out | apply below_alloc | apply pw_below_drewN | apply below_drew1 | refine below_set ?_ GE228.out | refine below_set ?_ GE229.out | refine below_set ?_ GE230.out) | exact HB.out)⟩⟩
 case rest =>
  clear HC4
  try clear c1
  try clear c2
  try clear p2
  try clear c3
  try clear c4
  try clear c5
  try clear c8
  try clear c9
  try clear c11
  try clear c13
  try clear c14
  try clear c15
  try clear c17
  try clear c18
  try clear c19
  try clear c21
  try clear c23
  try clear c24
  try clear c25
  try clear c26
  try clear c28
  try clear c30
  try clear c31
  try clear c33
  try clear c35
  try clear c36
  try clear c37
  try clear c39
  try clear c41
  try clear c41b0
  try clear c41b1
  try clear c42
  try clear c43
  try clear c45
  try clear c47
  try clear c48
  try clear c50
  try clear hcz10_0 hcz10_1 hcz10_2 hcz10_3 hcz10_4
  try clear hcz12_0 hcz12_1 hcz12_2 hcz12_3 hcz12_4
  try clear hcz16_0 hcz16_1 hcz16_2 hcz16_3 hcz16_4
  try clear hcz20_0 hcz20_1 hcz20_2 hcz20_3 hcz20_4
  try clear hcz22_0 hcz22_1 hcz22_2 hcz22_3 hcz22_4
  try clear hcz27_0 hcz27_1 hcz27_2 hcz27_3 hcz27_4
  try clear hcz29_0 hcz29_1 hcz29_2 hcz29_3 hcz29_4
  try clear hcz32_0 hcz32_1 hcz32_2 hcz32_3 hcz32_4
  try clear hcz34_0 hcz34_1 hcz34_2 hcz34_3 hcz34_4
  try clear hcz38_0 hcz38_1 hcz38_2 hcz38_3 hcz38_4
  try clear hcz40_0 hcz40_1 hcz40_2 hcz40_3 hcz40_4
  try clear hcz44_0 hcz44_1 hcz44_2 hcz44_3 hcz44_4
  try clear hcz46_0 hcz46_1 hcz46_2 hcz46_3 hcz46_4
  try clear hcz49_0 hcz49_1 hcz49_2 hcz49_3 hcz49_4
  try clear hcz51_0 hcz51_1 hcz51_2 hcz51_3 hcz51_4
  try clear hfz10_0 hfz10_1 hfz10_2 hfz10_3 hfz10_4
  try clear hfz12_0 hfz12_1 hfz12_2 hfz12_3 hfz12_4
  try clear hfz16_0 hfz16_1 hfz16_2 hfz16_3 hfz16_4
  try clear hfz20_0 hfz20_1 hfz20_2 hfz20_3 hfz20_4
  try clear hfz22_0 hfz22_1 hfz22_2 hfz22_3 hfz22_4
  try clear hfz27_0 hfz27_1 hfz27_2 hfz27_3 hfz27_4
  try clear hfz29_0 hfz29_1 hfz29_2 hfz29_3 hfz29_4
  try clear hfz32_0 hfz32_1 hfz32_2 hfz32_3 hfz32_4
  try clear hfz34_0 hfz34_1 hfz34_2 hfz34_3 hfz34_4
  try clear hfz38_0 hfz38_1 hfz38_2 hfz38_3 hfz38_4
  try clear hfz40_0 hfz40_1 hfz40_2 hfz40_3 hfz40_4
  try clear hfz44_0 hfz44_1 hfz44_2 hfz44_3 hfz44_4
  try clear hfz46_0 hfz46_1 hfz46_2 hfz46_3 hfz46_4
  try clear hfz49_0 hfz49_1 hfz49_2 hfz49_3 hfz49_4
  try clear hfz51_0 hfz51_1 hfz51_2 hfz51_3 hfz51_4
  obtain ⟨kq, x14_3, rfl, HA, HJ3, BK228, BK229, BK230, HB⟩ := hcut
  cases kq with
  | zero => exact absurd HA.out (by simp [spec_l4K_quotient.j0])
  | succ kj3 =>
   have H := HA.out
   clear HA
   simp only [spec_l4K_quotient.j0] at H
   by_cases c52 : x14_3 = true
   ·
    subst c52
    have H1 : ((spec_l4K_nan.f a0_0 a0_1).bind fun t231 => (some t231)) = some r := by rw [if_pos rfl] at H; exact H
    clear H
    have H := H1
    clear H1
    replace H := Option.bind_eq_some_iff.mp H
    obtain ⟨t231, A530, H⟩ := H
    replace H : (some t231) = some r := H
    have A53 := Aside0.mk A530
    clear A530
    obtain rfl := Option.some.inj H
    simp only [Option.some.injEq, Prod.mk.injEq] at H
    obtain ⟨rfl⟩ := H
    have hnb54 := NB228_229.out
    have hnc54 := NB229_228.out
    have hnb55 := NB228_230.out
    have hnc55 := NB230_228.out
    have hcz56_0 : wc.cell? ⟨gb228, 0, none⟩ = some (.int .u64 a0_0) := (blk_cell BK228.out 0).trans rfl
    have hcz56_1 : wc.cell? ⟨gb228, 1, none⟩ = some (.int .u64 a0_1) := (blk_cell BK228.out 1).trans rfl
    have hfz56_0 := blk_frozen BK228.out 0
    have hfz56_1 := blk_frozen BK228.out 1
    go_wp2_with (first | ((with_reducible refine gate_callee (f := 48) rfl ?_); refine goesL_ (some 50) rfl rfl Try.func48 (by kernel_rfl) rfl #[.agg #[.int .u64 a0_0, .int .u64 a0_1]] rfl (by (try simp only [List.map_toArray, List.map_cons, List.map_nil]); first | done | rfl | (simp only [List.length_drop, List.length_take]; rfl)) ?_; (with_reducible refine (spec_l4K_nan.calls a0_0 a0_1 t231 _ A53.out).mono ?_); rintro e w57 ⟨rfl, hb⟩; refine ⟨_, rfl, ?_⟩; have n0_ := Aside0.mk (blk_below (g := gb228) (o := .cells #[.int .u64 a0_0, .int .u64 a0_1] 52 (0, 0)) (by (with_reducible repeat (first | refine blk_drewN ?_ _ | refine blk_drew ?_ | refine blk_alloc ?_ _)); exact BK228.out) hb); have n1_ := Aside0.mk (blk_below (g := gb229) (o := .cells #[.bool a1_0, .bool a1_1, .bool a1_2, .int .u64 a1_3, .int .i64 a1_4] 56 (0, 0)) (by (with_reducible repeat (first | refine blk_drewN ?_ _ | refine blk_drew ?_ | refine blk_alloc ?_ _)); exact BK229.out) hb); have n2_ := Aside0.mk (blk_below (g := gb230) (o := .cells #[.bool a2_0, .bool a2_1, .bool a2_2, .int .u64 a2_3, .int .i64 a2_4] 56 (0, 0)) (by (with_reducible repeat (first | refine blk_drewN ?_ _ | refine blk_drew ?_ | refine blk_alloc ?_ _)); exact BK230.out) hb); have n3_ := Aside0.mk (below_step (by repeat (first | (with_reducible first | exact HB.out | apply below_alloc | apply pw_below_drewN | apply below_drew1 | refine below_set ?_ GE228.out | refine below_set ?_ GE229.out | refine below_set ?_ GE230.out) | exact HB.out)) hb); clear BK228; clear BK229; clear BK230; clear HB; have BK228 := n0_; have BK229 := n1_; have BK230 := n2_; have HB := n3_; clear n0_ n1_ n2_ n3_; (try clear hb); (try clear hb2); (try clear hk); (try clear hi)))
    go_ret
    exact ⟨by first | rfl | (simp [errW_none, errW_some] <;> rfl) | (simp [*, errW_none, errW_some] <;> rfl), by repeat (first | (with_reducible first | exact HB.out | apply below_alloc | apply pw_below_drewN | apply below_drew1 | refine below_set ?_ GE228.out | refine below_set ?_ GE229.out | refine below_set ?_ GE230.out) | exact HB.out)⟩
   ·
    replace c52 := Bool.eq_false_iff.mpr c52
    subst c52
    have H1 : (if a1_1 = true then (spec_l4K_quotient.j1 kj3 (a1_0 != a2_0) true a0_0 a0_1 a1_0 a1_1 a1_2 a1_3 a1_4 a2_0 a2_1 a2_2 a2_3 a2_4) else (if a2_1 = true then (spec_l4K_quotient.j1 kj3 (a1_0 != a2_0) false a0_0 a0_1 a1_0 a1_1 a1_2 a1_3 a1_4 a2_0 a2_1 a2_2 a2_3 a2_4) else (spec_l4K_quotient.j1 kj3 (a1_0 != a2_0) (a2_3 == 0) a0_0 a0_1 a1_0 a1_1 a1_2 a1_3 a1_4 a2_0 a2_1 a2_2 a2_3 a2_4))) = some r := by rw [if_neg (show ¬ (false = true) by decide)] at H; exact H
    clear H
    have H := H1
    clear H1
    have HC58 := Aside0.mk H
    clear H
    go_upto_region 4 with (fail)
    go_cut [51] (fun v51 wc => ∃ (kq : Nat) (x51_57 : Bool), v51 = .bool x51_57 ∧ Aside0 (spec_l4K_quotient.j1 kq (a1_0 != a2_0) x51_57 a0_0 a0_1 a1_0 a1_1 a1_2 a1_3 a1_4 a2_0 a2_1 a2_2 a2_3 a2_4 = some r) ∧ Aside0 (kq ≤ kj3) ∧ Aside0 (wc.heap[gb228]? = some (.cells #[.int .u64 a0_0, .int .u64 a0_1] 52 (0, 0))) ∧ Aside0 (wc.heap[gb229]? = some (.cells #[.bool a1_0, .bool a1_1, .bool a1_2, .int .u64 a1_3, .int .i64 a1_4] 56 (0, 0))) ∧ Aside0 (wc.heap[gb230]? = some (.cells #[.bool a2_0, .bool a2_1, .bool a2_2, .int .u64 a2_3, .int .i64 a2_4] 56 (0, 0))) ∧ Aside0 (Below w.heap.size w wc))
    case first =>
     have H := HC58.out
     clear HC58
     by_cases c59 : a1_1 = true
     ·
      subst c59
      have H1 : (spec_l4K_quotient.j1 kj3 (a1_0 != a2_0) true a0_0 a0_1 a1_0 true a1_2 a1_3 a1_4 a2_0 a2_1 a2_2 a2_3 a2_4) = some r := by rw [if_pos rfl] at H; exact H
      clear H
      have H := H1
      clear H1
      have H' := Aside0.mk H
      clear H
      have hnb60 := NB229_228.out
      have hnc60 := NB228_229.out
      have hnb61 := NB229_230.out
      have hnc61 := NB230_229.out
      have hcz62_0 : wc.cell? ⟨gb229, 0, none⟩ = some (.bool a1_0) := (blk_cell BK229.out 0).trans rfl
      have hcz62_1 : wc.cell? ⟨gb229, 1, none⟩ = some (.bool true) := (blk_cell BK229.out 1).trans rfl
      have hcz62_2 : wc.cell? ⟨gb229, 2, none⟩ = some (.bool a1_2) := (blk_cell BK229.out 2).trans rfl
      have hcz62_3 : wc.cell? ⟨gb229, 3, none⟩ = some (.int .u64 a1_3) := (blk_cell BK229.out 3).trans rfl
      have hcz62_4 : wc.cell? ⟨gb229, 4, none⟩ = some (.int .i64 a1_4) := (blk_cell BK229.out 4).trans rfl
      have hfz62_0 := blk_frozen BK229.out 0
      have hfz62_1 := blk_frozen BK229.out 1
      have hfz62_2 := blk_frozen BK229.out 2
      have hfz62_3 := blk_frozen BK229.out 3
      have hfz62_4 := blk_frozen BK229.out 4
      go_wp2
      go_meet
      case rel => exact ⟨_, (true), (by first | rfl | (simp; done) | (simp [*]; done)), H', ⟨by have := HJ3.out; first | omega | exact Nat.le_refl _⟩, ⟨by (with_reducible repeat (first | refine blk_drewN ?_ _ | refine blk_drew ?_ | refine blk_alloc ?_ _)); exact BK228.out⟩, ⟨by (with_reducible repeat (first | refine blk_drewN ?_ _ | refine blk_drew ?_ | refine blk_alloc ?_ _)); exact BK229.out⟩, ⟨by (with_reducible repeat (first | refine blk_drewN ?_ _ | refine blk_drew ?_ | refine blk_alloc ?_ _)); exact BK230.out⟩, ⟨by repeat (first | (with_reducible first | exact HB.out | apply below_alloc | apply pw_below_drewN | apply below_drew1 | refine below_set ?_ GE228.out | refine below_set ?_ GE229.out | refine below_set ?_ GE230.out) | exact HB.out)⟩⟩
     ·
      replace c59 := Bool.eq_false_iff.mpr c59
      subst c59
      have H1 : (if a2_1 = true then (spec_l4K_quotient.j1 kj3 (a1_0 != a2_0) false a0_0 a0_1 a1_0 false a1_2 a1_3 a1_4 a2_0 a2_1 a2_2 a2_3 a2_4) else (spec_l4K_quotient.j1 kj3 (a1_0 != a2_0) (a2_3 == 0) a0_0 a0_1 a1_0 false a1_2 a1_3 a1_4 a2_0 a2_1 a2_2 a2_3 a2_4)) = some r := by rw [if_neg (show ¬ (false = true) by decide)] at H; exact H
      clear H
      have H := H1
      clear H1
      by_cases c63 : a2_1 = true
      ·
       subst c63
       have H1 : (spec_l4K_quotient.j1 kj3 (a1_0 != a2_0) false a0_0 a0_1 a1_0 false a1_2 a1_3 a1_4 a2_0 true a2_2 a2_3 a2_4) = some r := by rw [if_pos rfl] at H; exact H
       clear H
       have H := H1
       clear H1
       have H' := Aside0.mk H
       clear H
       have hnb64 := NB229_228.out
       have hnc64 := NB228_229.out
       have hnb65 := NB229_230.out
       have hnc65 := NB230_229.out
       have hcz66_0 : wc.cell? ⟨gb229, 0, none⟩ = some (.bool a1_0) := (blk_cell BK229.out 0).trans rfl
       have hcz66_1 : wc.cell? ⟨gb229, 1, none⟩ = some (.bool false) := (blk_cell BK229.out 1).trans rfl
       have hcz66_2 : wc.cell? ⟨gb229, 2, none⟩ = some (.bool a1_2) := (blk_cell BK229.out 2).trans rfl
       have hcz66_3 : wc.cell? ⟨gb229, 3, none⟩ = some (.int .u64 a1_3) := (blk_cell BK229.out 3).trans rfl
       have hcz66_4 : wc.cell? ⟨gb229, 4, none⟩ = some (.int .i64 a1_4) := (blk_cell BK229.out 4).trans rfl
       have hfz66_0 := blk_frozen BK229.out 0
       have hfz66_1 := blk_frozen BK229.out 1
       have hfz66_2 := blk_frozen BK229.out 2
       have hfz66_3 := blk_frozen BK229.out 3
       have hfz66_4 := blk_frozen BK229.out 4
       have hnb67 := NB230_228.out
       have hnc67 := NB228_230.out
       have hcz68_0 : wc.cell? ⟨gb230, 0, none⟩ = some (.bool a2_0) := (blk_cell BK230.out 0).trans rfl
       have hcz68_1 : wc.cell? ⟨gb230, 1, none⟩ = some (.bool true) := (blk_cell BK230.out 1).trans rfl
       have hcz68_2 : wc.cell? ⟨gb230, 2, none⟩ = some (.bool a2_2) := (blk_cell BK230.out 2).trans rfl
       have hcz68_3 : wc.cell? ⟨gb230, 3, none⟩ = some (.int .u64 a2_3) := (blk_cell BK230.out 3).trans rfl
       have hcz68_4 : wc.cell? ⟨gb230, 4, none⟩ = some (.int .i64 a2_4) := (blk_cell BK230.out 4).trans rfl
       have hfz68_0 := blk_frozen BK230.out 0
       have hfz68_1 := blk_frozen BK230.out 1
       have hfz68_2 := blk_frozen BK230.out 2
       have hfz68_3 := blk_frozen BK230.out 3
       have hfz68_4 := blk_frozen BK230.out 4
       go_wp2
       go_meet
       case rel => exact ⟨_, (false), (by first | rfl | (simp; done) | (simp [*]; done)), H', ⟨by have := HJ3.out; first | omega | exact Nat.le_refl _⟩, ⟨by (with_reducible repeat (first | refine blk_drewN ?_ _ | refine blk_drew ?_ | refine blk_alloc ?_ _)); exact BK228.out⟩, ⟨by (with_reducible repeat (first | refine blk_drewN ?_ _ | refine blk_drew ?_ | refine blk_alloc ?_ _)); exact BK229.out⟩, ⟨by (with_reducible repeat (first | refine blk_drewN ?_ _ | refine blk_drew ?_ | refine blk_alloc ?_ _)); exact BK230.out⟩, ⟨by repeat (first | (with_reducible first | exact HB.out | apply below_alloc | apply pw_below_drewN | apply below_drew1 | refine below_set ?_ GE228.out | refine below_set ?_ GE229.out | refine below_set ?_ GE230.out) | exact HB.out)⟩⟩
      ·
       replace c63 := Bool.eq_false_iff.mpr c63
       subst c63
       have H1 : (spec_l4K_quotient.j1 kj3 (a1_0 != a2_0) (a2_3 == 0) a0_0 a0_1 a1_0 false a1_2 a1_3 a1_4 a2_0 false a2_2 a2_3 a2_4) = some r := by rw [if_neg (show ¬ (false = true) by decide)] at H; exact H
       clear H
       have H := H1
       clear H1
       have H' := Aside0.mk H
       clear H
       have hnb69 := NB229_228.out
       have hnc69 := NB228_229.out
       have hnb70 := NB229_230.out
       have hnc70 := NB230_229.out
       have hcz71_0 : wc.cell? ⟨gb229, 0, none⟩ = some (.bool a1_0) := (blk_cell BK229.out 0).trans rfl
       have hcz71_1 : wc.cell? ⟨gb229, 1, none⟩ = some (.bool false) := (blk_cell BK229.out 1).trans rfl
       have hcz71_2 : wc.cell? ⟨gb229, 2, none⟩ = some (.bool a1_2) := (blk_cell BK229.out 2).trans rfl
       have hcz71_3 : wc.cell? ⟨gb229, 3, none⟩ = some (.int .u64 a1_3) := (blk_cell BK229.out 3).trans rfl
       have hcz71_4 : wc.cell? ⟨gb229, 4, none⟩ = some (.int .i64 a1_4) := (blk_cell BK229.out 4).trans rfl
       have hfz71_0 := blk_frozen BK229.out 0
       have hfz71_1 := blk_frozen BK229.out 1
       have hfz71_2 := blk_frozen BK229.out 2
       have hfz71_3 := blk_frozen BK229.out 3
       have hfz71_4 := blk_frozen BK229.out 4
       have hnb72 := NB230_228.out
       have hnc72 := NB228_230.out
       have hcz73_0 : wc.cell? ⟨gb230, 0, none⟩ = some (.bool a2_0) := (blk_cell BK230.out 0).trans rfl
       have hcz73_1 : wc.cell? ⟨gb230, 1, none⟩ = some (.bool false) := (blk_cell BK230.out 1).trans rfl
       have hcz73_2 : wc.cell? ⟨gb230, 2, none⟩ = some (.bool a2_2) := (blk_cell BK230.out 2).trans rfl
       have hcz73_3 : wc.cell? ⟨gb230, 3, none⟩ = some (.int .u64 a2_3) := (blk_cell BK230.out 3).trans rfl
       have hcz73_4 : wc.cell? ⟨gb230, 4, none⟩ = some (.int .i64 a2_4) := (blk_cell BK230.out 4).trans rfl
       have hfz73_0 := blk_frozen BK230.out 0
       have hfz73_1 := blk_frozen BK230.out 1
       have hfz73_2 := blk_frozen BK230.out 2
       have hfz73_3 := blk_frozen BK230.out 3
       have hfz73_4 := blk_frozen BK230.out 4
       go_wp2
       go_meet
       case rel => exact ⟨_, ((a2_3 == 0)), (by first | rfl | (simp; done) | (simp [*]; done)), H', ⟨by have := HJ3.out; first | omega | exact Nat.le_refl _⟩, ⟨by (with_reducible repeat (first | refine blk_drewN ?_ _ | refine blk_drew ?_ | refine blk_alloc ?_ _)); exact BK228.out⟩, ⟨by (with_reducible repeat (first | refine blk_drewN ?_ _ | refine blk_drew ?_ | refine blk_alloc ?_ _)); exact BK229.out⟩, ⟨by (with_reducible repeat (first | refine blk_drewN ?_ _ | refine blk_drew ?_ | refine blk_alloc ?_ _)); exact BK230.out⟩, ⟨by repeat (first | (with_reducible first | exact HB.out | apply below_alloc | apply pw_below_drewN | apply below_drew1 | refine below_set ?_ GE228.out | refine below_set ?_ GE229.out | refine below_set ?_ GE230.out) | exact HB.out)⟩⟩
    case rest =>
     clear HC58
     try clear c1
     try clear c2
     try clear p2
     try clear c3
     try clear c4
     try clear c5
     try clear c6
     try clear c7
     try clear c8
     try clear c9
     try clear c11
     try clear c13
     try clear c14
     try clear c15
     try clear c17
     try clear c18
     try clear c19
     try clear c21
     try clear c23
     try clear c24
     try clear c25
     try clear c26
     try clear c28
     try clear c30
     try clear c31
     try clear c33
     try clear c35
     try clear c36
     try clear c37
     try clear c39
     try clear c41
     try clear c41b0
     try clear c41b1
     try clear c42
     try clear c43
     try clear c45
     try clear c47
     try clear c48
     try clear c50
     try clear c52
     try clear c54
     try clear c55
     try clear c59
     try clear c60
     try clear c61
     try clear c63
     try clear c64
     try clear c65
     try clear c67
     try clear c69
     try clear c70
     try clear c72
     try clear hcz10_0 hcz10_1 hcz10_2 hcz10_3 hcz10_4
     try clear hcz12_0 hcz12_1 hcz12_2 hcz12_3 hcz12_4
     try clear hcz16_0 hcz16_1 hcz16_2 hcz16_3 hcz16_4
     try clear hcz20_0 hcz20_1 hcz20_2 hcz20_3 hcz20_4
     try clear hcz22_0 hcz22_1 hcz22_2 hcz22_3 hcz22_4
     try clear hcz27_0 hcz27_1 hcz27_2 hcz27_3 hcz27_4
     try clear hcz29_0 hcz29_1 hcz29_2 hcz29_3 hcz29_4
     try clear hcz32_0 hcz32_1 hcz32_2 hcz32_3 hcz32_4
     try clear hcz34_0 hcz34_1 hcz34_2 hcz34_3 hcz34_4
     try clear hcz38_0 hcz38_1 hcz38_2 hcz38_3 hcz38_4
     try clear hcz40_0 hcz40_1 hcz40_2 hcz40_3 hcz40_4
     try clear hcz44_0 hcz44_1 hcz44_2 hcz44_3 hcz44_4
     try clear hcz46_0 hcz46_1 hcz46_2 hcz46_3 hcz46_4
     try clear hcz49_0 hcz49_1 hcz49_2 hcz49_3 hcz49_4
     try clear hcz51_0 hcz51_1 hcz51_2 hcz51_3 hcz51_4
     try clear hcz56_0 hcz56_1
     try clear hcz62_0 hcz62_1 hcz62_2 hcz62_3 hcz62_4
     try clear hcz66_0 hcz66_1 hcz66_2 hcz66_3 hcz66_4
     try clear hcz68_0 hcz68_1 hcz68_2 hcz68_3 hcz68_4
     try clear hcz71_0 hcz71_1 hcz71_2 hcz71_3 hcz71_4
     try clear hcz73_0 hcz73_1 hcz73_2 hcz73_3 hcz73_4
     try clear hfz10_0 hfz10_1 hfz10_2 hfz10_3 hfz10_4
     try clear hfz12_0 hfz12_1 hfz12_2 hfz12_3 hfz12_4
     try clear hfz16_0 hfz16_1 hfz16_2 hfz16_3 hfz16_4
     try clear hfz20_0 hfz20_1 hfz20_2 hfz20_3 hfz20_4
     try clear hfz22_0 hfz22_1 hfz22_2 hfz22_3 hfz22_4
     try clear hfz27_0 hfz27_1 hfz27_2 hfz27_3 hfz27_4
     try clear hfz29_0 hfz29_1 hfz29_2 hfz29_3 hfz29_4
     try clear hfz32_0 hfz32_1 hfz32_2 hfz32_3 hfz32_4
     try clear hfz34_0 hfz34_1 hfz34_2 hfz34_3 hfz34_4
     try clear hfz38_0 hfz38_1 hfz38_2 hfz38_3 hfz38_4
     try clear hfz40_0 hfz40_1 hfz40_2 hfz40_3 hfz40_4
     try clear hfz44_0 hfz44_1 hfz44_2 hfz44_3 hfz44_4
     try clear hfz46_0 hfz46_1 hfz46_2 hfz46_3 hfz46_4
     try clear hfz49_0 hfz49_1 hfz49_2 hfz49_3 hfz49_4
     try clear hfz51_0 hfz51_1 hfz51_2 hfz51_3 hfz51_4
     try clear hfz56_0 hfz56_1
     try clear hfz62_0 hfz62_1 hfz62_2 hfz62_3 hfz62_4
     try clear hfz66_0 hfz66_1 hfz66_2 hfz66_3 hfz66_4
     try clear hfz68_0 hfz68_1 hfz68_2 hfz68_3 hfz68_4
     try clear hfz71_0 hfz71_1 hfz71_2 hfz71_3 hfz71_4
     try clear hfz73_0 hfz73_1 hfz73_2 hfz73_3 hfz73_4
     try clear p2
     obtain ⟨kq, x51_57, rfl, HA, HJ57, BK228, BK229, BK230, HB⟩ := hcut
     cases kq with
     | zero => exact absurd HA.out (by simp [spec_l4K_quotient.j1])
     | succ kj57 =>
      have H := HA.out
      clear HA
      simp only [spec_l4K_quotient.j1] at H
      by_cases c74 : x51_57 = true
      ·
       subst c74
       have H1 : ((spec_l4K_inf.f a0_0 a0_1 (a1_0 != a2_0)).bind fun t232 => (some t232)) = some r := by rw [if_pos rfl] at H; exact H
       clear H
       have H := H1
       clear H1
       replace H := Option.bind_eq_some_iff.mp H
       obtain ⟨t232, A750, H⟩ := H
       replace H : (some t232) = some r := H
       have A75 := Aside0.mk A750
       clear A750
       obtain rfl := Option.some.inj H
       simp only [Option.some.injEq, Prod.mk.injEq] at H
       obtain ⟨rfl⟩ := H
       have hnb76 := NB228_229.out
       have hnc76 := NB229_228.out
       have hnb77 := NB228_230.out
       have hnc77 := NB230_228.out
       have hcz78_0 : wc.cell? ⟨gb228, 0, none⟩ = some (.int .u64 a0_0) := (blk_cell BK228.out 0).trans rfl
       have hcz78_1 : wc.cell? ⟨gb228, 1, none⟩ = some (.int .u64 a0_1) := (blk_cell BK228.out 1).trans rfl
       have hfz78_0 := blk_frozen BK228.out 0
       have hfz78_1 := blk_frozen BK228.out 1
       go_wp2_with (first | ((with_reducible refine gate_callee (f := 49) rfl ?_); refine goesL_ (some 66) rfl rfl Try.func49 (by kernel_rfl) rfl #[.agg #[.int .u64 a0_0, .int .u64 a0_1], .bool (a1_0 != a2_0)] rfl (by (try simp only [List.map_toArray, List.map_cons, List.map_nil]); first | done | rfl | (simp only [List.length_drop, List.length_take]; rfl)) ?_; (with_reducible refine (spec_l4K_inf.calls a0_0 a0_1 (a1_0 != a2_0) t232 _ A75.out).mono ?_); rintro e w79 ⟨rfl, hb⟩; refine ⟨_, rfl, ?_⟩; have n0_ := Aside0.mk (blk_below (g := gb228) (o := .cells #[.int .u64 a0_0, .int .u64 a0_1] 52 (0, 0)) (by (with_reducible repeat (first | refine blk_drewN ?_ _ | refine blk_drew ?_ | refine blk_alloc ?_ _)); exact BK228.out) hb); have n1_ := Aside0.mk (blk_below (g := gb229) (o := .cells #[.bool a1_0, .bool a1_1, .bool a1_2, .int .u64 a1_3, .int .i64 a1_4] 56 (0, 0)) (by (with_reducible repeat (first | refine blk_drewN ?_ _ | refine blk_drew ?_ | refine blk_alloc ?_ _)); exact BK229.out) hb); have n2_ := Aside0.mk (blk_below (g := gb230) (o := .cells #[.bool a2_0, .bool a2_1, .bool a2_2, .int .u64 a2_3, .int .i64 a2_4] 56 (0, 0)) (by (with_reducible repeat (first | refine blk_drewN ?_ _ | refine blk_drew ?_ | refine blk_alloc ?_ _)); exact BK230.out) hb); have n3_ := Aside0.mk (below_step (by repeat (first | (with_reducible first | exact HB.out | apply below_alloc | apply pw_below_drewN | apply below_drew1 | refine below_set ?_ GE228.out | refine below_set ?_ GE229.out | refine below_set ?_ GE230.out) | exact HB.out)) hb); clear BK228; clear BK229; clear BK230; clear HB; have BK228 := n0_; have BK229 := n1_; have BK230 := n2_; have HB := n3_; clear n0_ n1_ n2_ n3_; (try clear hb); (try clear hb2); (try clear hk); (try clear hi)))
       go_ret
       exact ⟨by first | rfl | (simp [errW_none, errW_some] <;> rfl) | (simp [*, errW_none, errW_some] <;> rfl), by repeat (first | (with_reducible first | exact HB.out | apply below_alloc | apply pw_below_drewN | apply below_drew1 | refine below_set ?_ GE228.out | refine below_set ?_ GE229.out | refine below_set ?_ GE230.out) | exact HB.out)⟩
      ·
       replace c74 := Bool.eq_false_iff.mpr c74
       subst c74
       have H1 : (if a2_1 = true then (spec_l4K_quotient.j2 kj57 (a1_0 != a2_0) true a0_0 a0_1 a1_0 a1_1 a1_2 a1_3 a1_4 a2_0 a2_1 a2_2 a2_3 a2_4) else (spec_l4K_quotient.j2 kj57 (a1_0 != a2_0) (a1_3 == 0) a0_0 a0_1 a1_0 a1_1 a1_2 a1_3 a1_4 a2_0 a2_1 a2_2 a2_3 a2_4)) = some r := by rw [if_neg (show ¬ (false = true) by decide)] at H; exact H
       clear H
       have H := H1
       clear H1
       have HC80 := Aside0.mk H
       clear H
       go_upto_region 6 with (fail)
       go_cut [67] (fun v67 wc => ∃ (kq : Nat) (x67_79 : Bool), v67 = .bool x67_79 ∧ Aside0 (spec_l4K_quotient.j2 kq (a1_0 != a2_0) x67_79 a0_0 a0_1 a1_0 a1_1 a1_2 a1_3 a1_4 a2_0 a2_1 a2_2 a2_3 a2_4 = some r) ∧ Aside0 (kq ≤ kj57) ∧ Aside0 (wc.heap[gb228]? = some (.cells #[.int .u64 a0_0, .int .u64 a0_1] 52 (0, 0))) ∧ Aside0 (wc.heap[gb229]? = some (.cells #[.bool a1_0, .bool a1_1, .bool a1_2, .int .u64 a1_3, .int .i64 a1_4] 56 (0, 0))) ∧ Aside0 (wc.heap[gb230]? = some (.cells #[.bool a2_0, .bool a2_1, .bool a2_2, .int .u64 a2_3, .int .i64 a2_4] 56 (0, 0))) ∧ Aside0 (Below w.heap.size w wc))
       case first =>
        have H := HC80.out
        clear HC80
        by_cases c81 : a2_1 = true
        ·
         subst c81
         have H1 : (spec_l4K_quotient.j2 kj57 (a1_0 != a2_0) true a0_0 a0_1 a1_0 a1_1 a1_2 a1_3 a1_4 a2_0 true a2_2 a2_3 a2_4) = some r := by rw [if_pos rfl] at H; exact H
         clear H
         have H := H1
         clear H1
         have H' := Aside0.mk H
         clear H
         have hnb82 := NB230_228.out
         have hnc82 := NB228_230.out
         have hnb83 := NB230_229.out
         have hnc83 := NB229_230.out
         have hcz84_0 : wc.cell? ⟨gb230, 0, none⟩ = some (.bool a2_0) := (blk_cell BK230.out 0).trans rfl
         have hcz84_1 : wc.cell? ⟨gb230, 1, none⟩ = some (.bool true) := (blk_cell BK230.out 1).trans rfl
         have hcz84_2 : wc.cell? ⟨gb230, 2, none⟩ = some (.bool a2_2) := (blk_cell BK230.out 2).trans rfl
         have hcz84_3 : wc.cell? ⟨gb230, 3, none⟩ = some (.int .u64 a2_3) := (blk_cell BK230.out 3).trans rfl
         have hcz84_4 : wc.cell? ⟨gb230, 4, none⟩ = some (.int .i64 a2_4) := (blk_cell BK230.out 4).trans rfl
         have hfz84_0 := blk_frozen BK230.out 0
         have hfz84_1 := blk_frozen BK230.out 1
         have hfz84_2 := blk_frozen BK230.out 2
         have hfz84_3 := blk_frozen BK230.out 3
         have hfz84_4 := blk_frozen BK230.out 4
         go_wp2
         go_meet
         case rel => exact ⟨_, (true), (by first | rfl | (simp; done) | (simp [*]; done)), H', ⟨by have := HJ3.out; have := HJ57.out; first | omega | exact Nat.le_refl _⟩, ⟨by (with_reducible repeat (first | refine blk_drewN ?_ _ | refine blk_drew ?_ | refine blk_alloc ?_ _)); exact BK228.out⟩, ⟨by (with_reducible repeat (first | refine blk_drewN ?_ _ | refine blk_drew ?_ | refine blk_alloc ?_ _)); exact BK229.out⟩, ⟨by (with_reducible repeat (first | refine blk_drewN ?_ _ | refine blk_drew ?_ | refine blk_alloc ?_ _)); exact BK230.out⟩, ⟨by repeat (first | (with_reducible first | exact HB.out | apply below_alloc | apply pw_below_drewN | apply below_drew1 | refine below_set ?_ GE228.out | refine below_set ?_ GE229.out | refine below_set ?_ GE230.out) | exact HB.out)⟩⟩
        ·
         replace c81 := Bool.eq_false_iff.mpr c81
         subst c81
         have H1 : (spec_l4K_quotient.j2 kj57 (a1_0 != a2_0) (a1_3 == 0) a0_0 a0_1 a1_0 a1_1 a1_2 a1_3 a1_4 a2_0 false a2_2 a2_3 a2_4) = some r := by rw [if_neg (show ¬ (false = true) by decide)] at H; exact H
         clear H
         have H := H1
         clear H1
         have H' := Aside0.mk H
         clear H
         have hnb85 := NB230_228.out
         have hnc85 := NB228_230.out
         have hnb86 := NB230_229.out
         have hnc86 := NB229_230.out
         have hcz87_0 : wc.cell? ⟨gb230, 0, none⟩ = some (.bool a2_0) := (blk_cell BK230.out 0).trans rfl
         have hcz87_1 : wc.cell? ⟨gb230, 1, none⟩ = some (.bool false) := (blk_cell BK230.out 1).trans rfl
         have hcz87_2 : wc.cell? ⟨gb230, 2, none⟩ = some (.bool a2_2) := (blk_cell BK230.out 2).trans rfl
         have hcz87_3 : wc.cell? ⟨gb230, 3, none⟩ = some (.int .u64 a2_3) := (blk_cell BK230.out 3).trans rfl
         have hcz87_4 : wc.cell? ⟨gb230, 4, none⟩ = some (.int .i64 a2_4) := (blk_cell BK230.out 4).trans rfl
         have hfz87_0 := blk_frozen BK230.out 0
         have hfz87_1 := blk_frozen BK230.out 1
         have hfz87_2 := blk_frozen BK230.out 2
         have hfz87_3 := blk_frozen BK230.out 3
         have hfz87_4 := blk_frozen BK230.out 4
         have hnb88 := NB229_228.out
         have hnc88 := NB228_229.out
         have hcz89_0 : wc.cell? ⟨gb229, 0, none⟩ = some (.bool a1_0) := (blk_cell BK229.out 0).trans rfl
         have hcz89_1 : wc.cell? ⟨gb229, 1, none⟩ = some (.bool a1_1) := (blk_cell BK229.out 1).trans rfl
         have hcz89_2 : wc.cell? ⟨gb229, 2, none⟩ = some (.bool a1_2) := (blk_cell BK229.out 2).trans rfl
         have hcz89_3 : wc.cell? ⟨gb229, 3, none⟩ = some (.int .u64 a1_3) := (blk_cell BK229.out 3).trans rfl
         have hcz89_4 : wc.cell? ⟨gb229, 4, none⟩ = some (.int .i64 a1_4) := (blk_cell BK229.out 4).trans rfl
         have hfz89_0 := blk_frozen BK229.out 0
         have hfz89_1 := blk_frozen BK229.out 1
         have hfz89_2 := blk_frozen BK229.out 2
         have hfz89_3 := blk_frozen BK229.out 3
         have hfz89_4 := blk_frozen BK229.out 4
         go_wp2
         go_meet
         case rel => exact ⟨_, ((a1_3 == 0)), (by first | rfl | (simp; done) | (simp [*]; done)), H', ⟨by have := HJ3.out; have := HJ57.out; first | omega | exact Nat.le_refl _⟩, ⟨by (with_reducible repeat (first | refine blk_drewN ?_ _ | refine blk_drew ?_ | refine blk_alloc ?_ _)); exact BK228.out⟩, ⟨by (with_reducible repeat (first | refine blk_drewN ?_ _ | refine blk_drew ?_ | refine blk_alloc ?_ _)); exact BK229.out⟩, ⟨by (with_reducible repeat (first | refine blk_drewN ?_ _ | refine blk_drew ?_ | refine blk_alloc ?_ _)); exact BK230.out⟩, ⟨by repeat (first | (with_reducible first | exact HB.out | apply below_alloc | apply pw_below_drewN | apply below_drew1 | refine below_set ?_ GE228.out | refine below_set ?_ GE229.out | refine below_set ?_ GE230.out) | exact HB.out)⟩⟩
       case rest =>
        clear HC80
        try clear c1
        try clear c2
        try clear p2
        try clear c3
        try clear c4
        try clear c5
        try clear c6
        try clear c7
        try clear c8
        try clear c9
        try clear c11
        try clear c13
        try clear c14
        try clear c15
        try clear c17
        try clear c18
        try clear c19
        try clear c21
        try clear c23
        try clear c24
        try clear c25
        try clear c26
        try clear c28
        try clear c30
        try clear c31
        try clear c33
        try clear c35
        try clear c36
        try clear c37
        try clear c39
        try clear c41
        try clear c41b0
        try clear c41b1
        try clear c42
        try clear c43
        try clear c45
        try clear c47
        try clear c48
        try clear c49
        try clear c50
        try clear c52
        try clear c54
        try clear c55
        try clear c59
        try clear c60
        try clear c61
        try clear c63
        try clear c64
        try clear c65
        try clear c67
        try clear c69
        try clear c70
        try clear c72
        try clear c74
        try clear c76
        try clear c77
        try clear c81
        try clear c82
        try clear c83
        try clear c85
        try clear c86
        try clear c88
        try clear hcz10_0 hcz10_1 hcz10_2 hcz10_3 hcz10_4
        try clear hcz12_0 hcz12_1 hcz12_2 hcz12_3 hcz12_4
        try clear hcz16_0 hcz16_1 hcz16_2 hcz16_3 hcz16_4
        try clear hcz20_0 hcz20_1 hcz20_2 hcz20_3 hcz20_4
        try clear hcz22_0 hcz22_1 hcz22_2 hcz22_3 hcz22_4
        try clear hcz27_0 hcz27_1 hcz27_2 hcz27_3 hcz27_4
        try clear hcz29_0 hcz29_1 hcz29_2 hcz29_3 hcz29_4
        try clear hcz32_0 hcz32_1 hcz32_2 hcz32_3 hcz32_4
        try clear hcz34_0 hcz34_1 hcz34_2 hcz34_3 hcz34_4
        try clear hcz38_0 hcz38_1 hcz38_2 hcz38_3 hcz38_4
        try clear hcz40_0 hcz40_1 hcz40_2 hcz40_3 hcz40_4
        try clear hcz44_0 hcz44_1 hcz44_2 hcz44_3 hcz44_4
        try clear hcz46_0 hcz46_1 hcz46_2 hcz46_3 hcz46_4
        try clear hcz49_0 hcz49_1 hcz49_2 hcz49_3 hcz49_4
        try clear hcz51_0 hcz51_1 hcz51_2 hcz51_3 hcz51_4
        try clear hcz56_0 hcz56_1
        try clear hcz62_0 hcz62_1 hcz62_2 hcz62_3 hcz62_4
        try clear hcz66_0 hcz66_1 hcz66_2 hcz66_3 hcz66_4
        try clear hcz68_0 hcz68_1 hcz68_2 hcz68_3 hcz68_4
        try clear hcz71_0 hcz71_1 hcz71_2 hcz71_3 hcz71_4
        try clear hcz73_0 hcz73_1 hcz73_2 hcz73_3 hcz73_4
        try clear hcz78_0 hcz78_1
        try clear hcz84_0 hcz84_1 hcz84_2 hcz84_3 hcz84_4
        try clear hcz87_0 hcz87_1 hcz87_2 hcz87_3 hcz87_4
        try clear hcz89_0 hcz89_1 hcz89_2 hcz89_3 hcz89_4
        try clear hfz10_0 hfz10_1 hfz10_2 hfz10_3 hfz10_4
        try clear hfz12_0 hfz12_1 hfz12_2 hfz12_3 hfz12_4
        try clear hfz16_0 hfz16_1 hfz16_2 hfz16_3 hfz16_4
        try clear hfz20_0 hfz20_1 hfz20_2 hfz20_3 hfz20_4
        try clear hfz22_0 hfz22_1 hfz22_2 hfz22_3 hfz22_4
        try clear hfz27_0 hfz27_1 hfz27_2 hfz27_3 hfz27_4
        try clear hfz29_0 hfz29_1 hfz29_2 hfz29_3 hfz29_4
        try clear hfz32_0 hfz32_1 hfz32_2 hfz32_3 hfz32_4
        try clear hfz34_0 hfz34_1 hfz34_2 hfz34_3 hfz34_4
        try clear hfz38_0 hfz38_1 hfz38_2 hfz38_3 hfz38_4
        try clear hfz40_0 hfz40_1 hfz40_2 hfz40_3 hfz40_4
        try clear hfz44_0 hfz44_1 hfz44_2 hfz44_3 hfz44_4
        try clear hfz46_0 hfz46_1 hfz46_2 hfz46_3 hfz46_4
        try clear hfz49_0 hfz49_1 hfz49_2 hfz49_3 hfz49_4
        try clear hfz51_0 hfz51_1 hfz51_2 hfz51_3 hfz51_4
        try clear hfz56_0 hfz56_1
        try clear hfz62_0 hfz62_1 hfz62_2 hfz62_3 hfz62_4
        try clear hfz66_0 hfz66_1 hfz66_2 hfz66_3 hfz66_4
        try clear hfz68_0 hfz68_1 hfz68_2 hfz68_3 hfz68_4
        try clear hfz71_0 hfz71_1 hfz71_2 hfz71_3 hfz71_4
        try clear hfz73_0 hfz73_1 hfz73_2 hfz73_3 hfz73_4
        try clear hfz78_0 hfz78_1
        try clear hfz84_0 hfz84_1 hfz84_2 hfz84_3 hfz84_4
        try clear hfz87_0 hfz87_1 hfz87_2 hfz87_3 hfz87_4
        try clear hfz89_0 hfz89_1 hfz89_2 hfz89_3 hfz89_4
        try clear p2
        obtain ⟨kq, x67_79, rfl, HA, HJ79, BK228, BK229, BK230, HB⟩ := hcut
        cases kq with
        | zero => exact absurd HA.out (by simp [spec_l4K_quotient.j2])
        | succ kj79 =>
         have H := HA.out
         clear HA
         simp only [spec_l4K_quotient.j2] at H
         by_cases c90 : x67_79 = true
         ·
          subst c90
          have H1 : ((spec_l4K_sign.f a0_0 a0_1 (a1_0 != a2_0)).bind fun t233 => (some t233)) = some r := by rw [if_pos rfl] at H; exact H
          clear H
          have H := H1
          clear H1
          replace H := Option.bind_eq_some_iff.mp H
          obtain ⟨t233, A910, H⟩ := H
          replace H : (some t233) = some r := H
          have A91 := Aside0.mk A910
          clear A910
          obtain rfl := Option.some.inj H
          simp only [Option.some.injEq, Prod.mk.injEq] at H
          obtain ⟨rfl⟩ := H
          have hnb92 := NB228_229.out
          have hnc92 := NB229_228.out
          have hnb93 := NB228_230.out
          have hnc93 := NB230_228.out
          have hcz94_0 : wc.cell? ⟨gb228, 0, none⟩ = some (.int .u64 a0_0) := (blk_cell BK228.out 0).trans rfl
          have hcz94_1 : wc.cell? ⟨gb228, 1, none⟩ = some (.int .u64 a0_1) := (blk_cell BK228.out 1).trans rfl
          have hfz94_0 := blk_frozen BK228.out 0
          have hfz94_1 := blk_frozen BK228.out 1
          go_wp2_with (first | ((with_reducible refine gate_callee (f := 83) rfl ?_); refine goesL_ (some 77) rfl rfl Try.func83 (by kernel_rfl) rfl #[.agg #[.int .u64 a0_0, .int .u64 a0_1], .bool (a1_0 != a2_0)] rfl (by (try simp only [List.map_toArray, List.map_cons, List.map_nil]); first | done | rfl | (simp only [List.length_drop, List.length_take]; rfl)) ?_; (with_reducible refine (spec_l4K_sign.calls a0_0 a0_1 (a1_0 != a2_0) t233 _ A91.out).mono ?_); rintro e w95 ⟨rfl, hb⟩; refine ⟨_, rfl, ?_⟩; have n0_ := Aside0.mk (blk_below (g := gb228) (o := .cells #[.int .u64 a0_0, .int .u64 a0_1] 52 (0, 0)) (by (with_reducible repeat (first | refine blk_drewN ?_ _ | refine blk_drew ?_ | refine blk_alloc ?_ _)); exact BK228.out) hb); have n1_ := Aside0.mk (blk_below (g := gb229) (o := .cells #[.bool a1_0, .bool a1_1, .bool a1_2, .int .u64 a1_3, .int .i64 a1_4] 56 (0, 0)) (by (with_reducible repeat (first | refine blk_drewN ?_ _ | refine blk_drew ?_ | refine blk_alloc ?_ _)); exact BK229.out) hb); have n2_ := Aside0.mk (blk_below (g := gb230) (o := .cells #[.bool a2_0, .bool a2_1, .bool a2_2, .int .u64 a2_3, .int .i64 a2_4] 56 (0, 0)) (by (with_reducible repeat (first | refine blk_drewN ?_ _ | refine blk_drew ?_ | refine blk_alloc ?_ _)); exact BK230.out) hb); have n3_ := Aside0.mk (below_step (by repeat (first | (with_reducible first | exact HB.out | apply below_alloc | apply pw_below_drewN | apply below_drew1 | refine below_set ?_ GE228.out | refine below_set ?_ GE229.out | refine below_set ?_ GE230.out) | exact HB.out)) hb); clear BK228; clear BK229; clear BK230; clear HB; have BK228 := n0_; have BK229 := n1_; have BK230 := n2_; have HB := n3_; clear n0_ n1_ n2_ n3_; (try clear hb); (try clear hb2); (try clear hk); (try clear hi)))
          go_ret
          exact ⟨by first | rfl | (simp [errW_none, errW_some] <;> rfl) | (simp [*, errW_none, errW_some] <;> rfl), by repeat (first | (with_reducible first | exact HB.out | apply below_alloc | apply pw_below_drewN | apply below_drew1 | refine below_set ?_ GE228.out | refine below_set ?_ GE229.out | refine below_set ?_ GE230.out) | exact HB.out)⟩
         ·
          replace c90 := Bool.eq_false_iff.mpr c90
          subst c90
          have H1 : ((spec_l4K_full.f kj79 a0_0 a0_1 a1_0 a1_1 a1_2 a1_3 a1_4).bind fun bt234 => ((spec_l4K_full.f kj79 a0_0 a0_1 a2_0 a2_1 a2_2 a2_3 a2_4).bind fun bt239 => (if bt239.2.2.2.1 = 0 then (none) else ((spec_l4K_round.f kj79 a0_0 a0_1 (a1_0 != a2_0) (IntKind.u64.wrap (Int.tdiv (IntKind.u64.wrap (bt234.2.2.2.1 * 1073741824)) bt239.2.2.2.1)) (wrap64 ((wrap64 (bt234.2.2.2.2 - 30)) - bt239.2.2.2.2)) ((Int.tmod (IntKind.u64.wrap (bt234.2.2.2.1 * 1073741824)) bt239.2.2.2.1) != 0)).bind fun t244 => (some t244))))) = some r := by rw [if_neg (show ¬ (false = true) by decide)] at H; exact H
          clear H
          have H := H1
          clear H1
          replace H := Option.bind_eq_some_iff.mp H
          obtain ⟨⟨t234, t235, t236, t237, t238⟩, A960, H⟩ := H
          replace H : ((spec_l4K_full.f kj79 a0_0 a0_1 a2_0 a2_1 a2_2 a2_3 a2_4).bind fun bt239 => (if bt239.2.2.2.1 = 0 then (none) else ((spec_l4K_round.f kj79 a0_0 a0_1 (a1_0 != a2_0) (IntKind.u64.wrap (Int.tdiv (IntKind.u64.wrap (t237 * 1073741824)) bt239.2.2.2.1)) (wrap64 ((wrap64 (t238 - 30)) - bt239.2.2.2.2)) ((Int.tmod (IntKind.u64.wrap (t237 * 1073741824)) bt239.2.2.2.1) != 0)).bind fun t244 => (some t244)))) = some r := H
          have A96 := Aside0.mk A960
          clear A960
          replace H := Option.bind_eq_some_iff.mp H
          obtain ⟨⟨t239, t240, t241, t242, t243⟩, A970, H⟩ := H
          replace H : (if t242 = 0 then (none) else ((spec_l4K_round.f kj79 a0_0 a0_1 (a1_0 != a2_0) (IntKind.u64.wrap (Int.tdiv (IntKind.u64.wrap (t237 * 1073741824)) t242)) (wrap64 ((wrap64 (t238 - 30)) - t243)) ((Int.tmod (IntKind.u64.wrap (t237 * 1073741824)) t242) != 0)).bind fun t244 => (some t244))) = some r := H
          have A97 := Aside0.mk A970
          clear A970
          by_cases c98 : t242 = 0
          ·
           rw [if_pos c98] at H
           exact absurd H (by simp)
          ·
           rw [if_neg c98] at H
           have c98b0 : (t242 == 0) = false := beq_eq_false_iff_ne.mpr c98
           have c98b1 : (t242 != 0) = true := bne_iff_ne.mpr c98
           replace H := Option.bind_eq_some_iff.mp H
           obtain ⟨t244, A990, H⟩ := H
           replace H : (some t244) = some r := H
           have A99 := Aside0.mk A990
           clear A990
           obtain rfl := Option.some.inj H
           simp only [Option.some.injEq, Prod.mk.injEq] at H
           obtain ⟨rfl⟩ := H
           have hnb100 := NB228_229.out
           have hnc100 := NB229_228.out
           have hnb101 := NB228_230.out
           have hnc101 := NB230_228.out
           have hcz102_0 : wc.cell? ⟨gb228, 0, none⟩ = some (.int .u64 a0_0) := (blk_cell BK228.out 0).trans rfl
           have hcz102_1 : wc.cell? ⟨gb228, 1, none⟩ = some (.int .u64 a0_1) := (blk_cell BK228.out 1).trans rfl
           have hfz102_0 := blk_frozen BK228.out 0
           have hfz102_1 := blk_frozen BK228.out 1
           have hnb103 := NB229_230.out
           have hnc103 := NB230_229.out
           have hcz104_0 : wc.cell? ⟨gb229, 0, none⟩ = some (.bool a1_0) := (blk_cell BK229.out 0).trans rfl
           have hcz104_1 : wc.cell? ⟨gb229, 1, none⟩ = some (.bool a1_1) := (blk_cell BK229.out 1).trans rfl
           have hcz104_2 : wc.cell? ⟨gb229, 2, none⟩ = some (.bool a1_2) := (blk_cell BK229.out 2).trans rfl
           have hcz104_3 : wc.cell? ⟨gb229, 3, none⟩ = some (.int .u64 a1_3) := (blk_cell BK229.out 3).trans rfl
           have hcz104_4 : wc.cell? ⟨gb229, 4, none⟩ = some (.int .i64 a1_4) := (blk_cell BK229.out 4).trans rfl
           have hfz104_0 := blk_frozen BK229.out 0
           have hfz104_1 := blk_frozen BK229.out 1
           have hfz104_2 := blk_frozen BK229.out 2
           have hfz104_3 := blk_frozen BK229.out 3
           have hfz104_4 := blk_frozen BK229.out 4
           try go_wp2_with (first | ((with_reducible refine gate_callee (f := 86) rfl ?_); refine goesL_ (some 80) rfl rfl Try.func86 (by kernel_rfl) rfl #[.agg #[.int .u64 a0_0, .int .u64 a0_1], .agg #[.bool a1_0, .bool a1_1, .bool a1_2, .int .u64 a1_3, .int .i64 a1_4]] rfl (by (try simp only [List.map_toArray, List.map_cons, List.map_nil]); first | done | rfl | (simp only [List.length_drop, List.length_take]; rfl)) ?_; (with_reducible refine (spec_l4K_full.calls kj79 a0_0 a0_1 a1_0 a1_1 a1_2 a1_3 a1_4 t234 t235 t236 t237 t238 _ A96.out).mono ?_); rintro e w105 ⟨rfl, hb⟩; refine ⟨_, rfl, ?_⟩; have n0_ := Aside0.mk (blk_below (g := gb228) (o := .cells #[.int .u64 a0_0, .int .u64 a0_1] 52 (0, 0)) (by (with_reducible repeat (first | refine blk_drewN ?_ _ | refine blk_drew ?_ | refine blk_alloc ?_ _)); exact BK228.out) hb); have n1_ := Aside0.mk (blk_below (g := gb229) (o := .cells #[.bool a1_0, .bool a1_1, .bool a1_2, .int .u64 a1_3, .int .i64 a1_4] 56 (0, 0)) (by (with_reducible repeat (first | refine blk_drewN ?_ _ | refine blk_drew ?_ | refine blk_alloc ?_ _)); exact BK229.out) hb); have n2_ := Aside0.mk (blk_below (g := gb230) (o := .cells #[.bool a2_0, .bool a2_1, .bool a2_2, .int .u64 a2_3, .int .i64 a2_4] 56 (0, 0)) (by (with_reducible repeat (first | refine blk_drewN ?_ _ | refine blk_drew ?_ | refine blk_alloc ?_ _)); exact BK230.out) hb); have n3_ := Aside0.mk (below_step (by repeat (first | (with_reducible first | exact HB.out | apply below_alloc | apply pw_below_drewN | apply below_drew1 | refine below_set ?_ GE228.out | refine below_set ?_ GE229.out | refine below_set ?_ GE230.out) | exact HB.out)) hb); clear BK228; clear BK229; clear BK230; clear HB; have BK228 := n0_; have BK229 := n1_; have BK230 := n2_; have HB := n3_; clear n0_ n1_ n2_ n3_; (try clear hb); (try clear hb2); (try clear hk); (try clear hi); have hcz106_0 : w105.cell? ⟨gb229, 0, none⟩ = some (.bool a1_0) := (blk_cell BK229.out 0).trans rfl; have hcz106_1 : w105.cell? ⟨gb229, 1, none⟩ = some (.bool a1_1) := (blk_cell BK229.out 1).trans rfl; have hcz106_2 : w105.cell? ⟨gb229, 2, none⟩ = some (.bool a1_2) := (blk_cell BK229.out 2).trans rfl; have hcz106_3 : w105.cell? ⟨gb229, 3, none⟩ = some (.int .u64 a1_3) := (blk_cell BK229.out 3).trans rfl; have hcz106_4 : w105.cell? ⟨gb229, 4, none⟩ = some (.int .i64 a1_4) := (blk_cell BK229.out 4).trans rfl; have hfz106_0 := blk_frozen BK229.out 0; have hfz106_1 := blk_frozen BK229.out 1; have hfz106_2 := blk_frozen BK229.out 2; have hfz106_3 := blk_frozen BK229.out 3; have hfz106_4 := blk_frozen BK229.out 4) | ((with_reducible refine gate_store (t := 56) (p := 4) rfl ?_); refine store_event (t := 56) (p := 4) (v := ?vo_w107) (w1 := (((((w105.setCell ⟨gb229, 0, none⟩ (.bool t234)).setCell ⟨gb229, 1, none⟩ (.bool t235)).setCell ⟨gb229, 2, none⟩ (.bool t236)).setCell ⟨gb229, 3, none⟩ (.int .u64 t237)).setCell ⟨gb229, 4, none⟩ (.int .i64 t238))) ?hg ?ho ?hn ?hr ?_; (case ho => rfl); (case hg => rfl); (case hn => rfl); (case hr => first | (go_simp; done) | (go_simp; rfl)); intro w107 hw; have n0_ : Aside0 (w107.heap[gb228]? = some (.cells #[.int .u64 a0_0, .int .u64 a0_1] 52 (0, 0))) := ⟨(by rw [hw]; exact (by (with_reducible repeat (first | refine blk_drewN ?_ _ | refine blk_drew ?_ | refine blk_alloc ?_ _)); refine blk_far ?_ NB228_229.out _; (with_reducible repeat (first | refine blk_drewN ?_ _ | refine blk_drew ?_ | refine blk_alloc ?_ _)); refine blk_far ?_ NB228_229.out _; (with_reducible repeat (first | refine blk_drewN ?_ _ | refine blk_drew ?_ | refine blk_alloc ?_ _)); refine blk_far ?_ NB228_229.out _; (with_reducible repeat (first | refine blk_drewN ?_ _ | refine blk_drew ?_ | refine blk_alloc ?_ _)); refine blk_far ?_ NB228_229.out _; (with_reducible repeat (first | refine blk_drewN ?_ _ | refine blk_drew ?_ | refine blk_alloc ?_ _)); refine blk_far ?_ NB228_229.out _; (with_reducible repeat (first | refine blk_drewN ?_ _ | refine blk_drew ?_ | refine blk_alloc ?_ _)); exact BK228.out))⟩; have n1_ : Aside0 (w107.heap[gb229]? = some (.cells #[.bool t234, .bool t235, .bool t236, .int .u64 t237, .int .i64 t238] 56 (0, 0))) := ⟨(by rw [hw]; exact (by (with_reducible repeat (first | refine blk_drewN ?_ _ | refine blk_drew ?_ | refine blk_alloc ?_ _)); refine blk_put (cs := #[.bool t234, .bool t235, .bool t236, .int .u64 t237, .int .i64 a1_4]) ?_ 4 _ rfl; (with_reducible repeat (first | refine blk_drewN ?_ _ | refine blk_drew ?_ | refine blk_alloc ?_ _)); refine blk_put (cs := #[.bool t234, .bool t235, .bool t236, .int .u64 a1_3, .int .i64 a1_4]) ?_ 3 _ rfl; (with_reducible repeat (first | refine blk_drewN ?_ _ | refine blk_drew ?_ | refine blk_alloc ?_ _)); refine blk_put (cs := #[.bool t234, .bool t235, .bool a1_2, .int .u64 a1_3, .int .i64 a1_4]) ?_ 2 _ rfl; (with_reducible repeat (first | refine blk_drewN ?_ _ | refine blk_drew ?_ | refine blk_alloc ?_ _)); refine blk_put (cs := #[.bool t234, .bool a1_1, .bool a1_2, .int .u64 a1_3, .int .i64 a1_4]) ?_ 1 _ rfl; (with_reducible repeat (first | refine blk_drewN ?_ _ | refine blk_drew ?_ | refine blk_alloc ?_ _)); refine blk_put (cs := #[.bool a1_0, .bool a1_1, .bool a1_2, .int .u64 a1_3, .int .i64 a1_4]) ?_ 0 _ rfl; (with_reducible repeat (first | refine blk_drewN ?_ _ | refine blk_drew ?_ | refine blk_alloc ?_ _)); exact BK229.out))⟩; have n2_ : Aside0 (w107.heap[gb230]? = some (.cells #[.bool a2_0, .bool a2_1, .bool a2_2, .int .u64 a2_3, .int .i64 a2_4] 56 (0, 0))) := ⟨(by rw [hw]; exact (by (with_reducible repeat (first | refine blk_drewN ?_ _ | refine blk_drew ?_ | refine blk_alloc ?_ _)); refine blk_far ?_ NB230_229.out _; (with_reducible repeat (first | refine blk_drewN ?_ _ | refine blk_drew ?_ | refine blk_alloc ?_ _)); refine blk_far ?_ NB230_229.out _; (with_reducible repeat (first | refine blk_drewN ?_ _ | refine blk_drew ?_ | refine blk_alloc ?_ _)); refine blk_far ?_ NB230_229.out _; (with_reducible repeat (first | refine blk_drewN ?_ _ | refine blk_drew ?_ | refine blk_alloc ?_ _)); refine blk_far ?_ NB230_229.out _; (with_reducible repeat (first | refine blk_drewN ?_ _ | refine blk_drew ?_ | refine blk_alloc ?_ _)); refine blk_far ?_ NB230_229.out _; (with_reducible repeat (first | refine blk_drewN ?_ _ | refine blk_drew ?_ | refine blk_alloc ?_ _)); exact BK230.out))⟩; have n3_ : Aside0 (Below w.heap.size w w107) := ⟨(by rw [hw]; exact (by repeat (first | (with_reducible first | exact HB.out | apply below_alloc | apply pw_below_drewN | apply below_drew1 | refine below_set ?_ GE228.out | refine below_set ?_ GE229.out | refine below_set ?_ GE230.out) | exact HB.out)))⟩; clear hw; clear BK228; clear BK229; clear BK230; clear HB; have BK228 := n0_; have BK229 := n1_; have BK230 := n2_; have HB := n3_; clear n0_ n1_ n2_ n3_; have hcz108_0 : w107.cell? ⟨gb228, 0, none⟩ = some (.int .u64 a0_0) := (blk_cell BK228.out 0).trans rfl; have hcz108_1 : w107.cell? ⟨gb228, 1, none⟩ = some (.int .u64 a0_1) := (blk_cell BK228.out 1).trans rfl; have hfz108_0 := blk_frozen BK228.out 0; have hfz108_1 := blk_frozen BK228.out 1; have hcz109_0 : w107.cell? ⟨gb230, 0, none⟩ = some (.bool a2_0) := (blk_cell BK230.out 0).trans rfl; have hcz109_1 : w107.cell? ⟨gb230, 1, none⟩ = some (.bool a2_1) := (blk_cell BK230.out 1).trans rfl; have hcz109_2 : w107.cell? ⟨gb230, 2, none⟩ = some (.bool a2_2) := (blk_cell BK230.out 2).trans rfl; have hcz109_3 : w107.cell? ⟨gb230, 3, none⟩ = some (.int .u64 a2_3) := (blk_cell BK230.out 3).trans rfl; have hcz109_4 : w107.cell? ⟨gb230, 4, none⟩ = some (.int .i64 a2_4) := (blk_cell BK230.out 4).trans rfl; have hfz109_0 := blk_frozen BK230.out 0; have hfz109_1 := blk_frozen BK230.out 1; have hfz109_2 := blk_frozen BK230.out 2; have hfz109_3 := blk_frozen BK230.out 3; have hfz109_4 := blk_frozen BK230.out 4) | ((with_reducible refine gate_callee (f := 86) rfl ?_); refine goesL_ (some 83) rfl rfl Try.func86 (by kernel_rfl) rfl #[.agg #[.int .u64 a0_0, .int .u64 a0_1], .agg #[.bool a2_0, .bool a2_1, .bool a2_2, .int .u64 a2_3, .int .i64 a2_4]] rfl (by (try simp only [List.map_toArray, List.map_cons, List.map_nil]); first | done | rfl | (simp only [List.length_drop, List.length_take]; rfl)) ?_; (with_reducible refine (spec_l4K_full.calls kj79 a0_0 a0_1 a2_0 a2_1 a2_2 a2_3 a2_4 t239 t240 t241 t242 t243 _ A97.out).mono ?_); rintro e w110 ⟨rfl, hb⟩; refine ⟨_, rfl, ?_⟩; have n0_ := Aside0.mk (blk_below (g := gb228) (o := .cells #[.int .u64 a0_0, .int .u64 a0_1] 52 (0, 0)) (by (with_reducible repeat (first | refine blk_drewN ?_ _ | refine blk_drew ?_ | refine blk_alloc ?_ _)); exact BK228.out) hb); have n1_ := Aside0.mk (blk_below (g := gb229) (o := .cells #[.bool t234, .bool t235, .bool t236, .int .u64 t237, .int .i64 t238] 56 (0, 0)) (by (with_reducible repeat (first | refine blk_drewN ?_ _ | refine blk_drew ?_ | refine blk_alloc ?_ _)); exact BK229.out) hb); have n2_ := Aside0.mk (blk_below (g := gb230) (o := .cells #[.bool a2_0, .bool a2_1, .bool a2_2, .int .u64 a2_3, .int .i64 a2_4] 56 (0, 0)) (by (with_reducible repeat (first | refine blk_drewN ?_ _ | refine blk_drew ?_ | refine blk_alloc ?_ _)); exact BK230.out) hb); have n3_ := Aside0.mk (below_step (by repeat (first | (with_reducible first | exact HB.out | apply below_alloc | apply pw_below_drewN | apply below_drew1 | refine below_set ?_ GE228.out | refine below_set ?_ GE229.out | refine below_set ?_ GE230.out) | exact HB.out)) hb); clear BK228; clear BK229; clear BK230; clear HB; have BK228 := n0_; have BK229 := n1_; have BK230 := n2_; have HB := n3_; clear n0_ n1_ n2_ n3_; (try clear hb); (try clear hb2); (try clear hk); (try clear hi); have hcz111_0 : w110.cell? ⟨gb230, 0, none⟩ = some (.bool a2_0) := (blk_cell BK230.out 0).trans rfl; have hcz111_1 : w110.cell? ⟨gb230, 1, none⟩ = some (.bool a2_1) := (blk_cell BK230.out 1).trans rfl; have hcz111_2 : w110.cell? ⟨gb230, 2, none⟩ = some (.bool a2_2) := (blk_cell BK230.out 2).trans rfl; have hcz111_3 : w110.cell? ⟨gb230, 3, none⟩ = some (.int .u64 a2_3) := (blk_cell BK230.out 3).trans rfl; have hcz111_4 : w110.cell? ⟨gb230, 4, none⟩ = some (.int .i64 a2_4) := (blk_cell BK230.out 4).trans rfl; have hfz111_0 := blk_frozen BK230.out 0; have hfz111_1 := blk_frozen BK230.out 1; have hfz111_2 := blk_frozen BK230.out 2; have hfz111_3 := blk_frozen BK230.out 3; have hfz111_4 := blk_frozen BK230.out 4) | ((with_reducible refine gate_store (t := 56) (p := 5) rfl ?_); refine store_event (t := 56) (p := 5) (v := ?vo_w112) (w1 := (((((w110.setCell ⟨gb230, 0, none⟩ (.bool t239)).setCell ⟨gb230, 1, none⟩ (.bool t240)).setCell ⟨gb230, 2, none⟩ (.bool t241)).setCell ⟨gb230, 3, none⟩ (.int .u64 t242)).setCell ⟨gb230, 4, none⟩ (.int .i64 t243))) ?hg ?ho ?hn ?hr ?_; (case ho => rfl); (case hg => rfl); (case hn => rfl); (case hr => first | (go_simp; done) | (go_simp; rfl)); intro w112 hw; have n0_ : Aside0 (w112.heap[gb228]? = some (.cells #[.int .u64 a0_0, .int .u64 a0_1] 52 (0, 0))) := ⟨(by rw [hw]; exact (by (with_reducible repeat (first | refine blk_drewN ?_ _ | refine blk_drew ?_ | refine blk_alloc ?_ _)); refine blk_far ?_ NB228_230.out _; (with_reducible repeat (first | refine blk_drewN ?_ _ | refine blk_drew ?_ | refine blk_alloc ?_ _)); refine blk_far ?_ NB228_230.out _; (with_reducible repeat (first | refine blk_drewN ?_ _ | refine blk_drew ?_ | refine blk_alloc ?_ _)); refine blk_far ?_ NB228_230.out _; (with_reducible repeat (first | refine blk_drewN ?_ _ | refine blk_drew ?_ | refine blk_alloc ?_ _)); refine blk_far ?_ NB228_230.out _; (with_reducible repeat (first | refine blk_drewN ?_ _ | refine blk_drew ?_ | refine blk_alloc ?_ _)); refine blk_far ?_ NB228_230.out _; (with_reducible repeat (first | refine blk_drewN ?_ _ | refine blk_drew ?_ | refine blk_alloc ?_ _)); exact BK228.out))⟩; have n1_ : Aside0 (w112.heap[gb229]? = some (.cells #[.bool t234, .bool t235, .bool t236, .int .u64 t237, .int .i64 t238] 56 (0, 0))) := ⟨(by rw [hw]; exact (by (with_reducible repeat (first | refine blk_drewN ?_ _ | refine blk_drew ?_ | refine blk_alloc ?_ _)); refine blk_far ?_ NB229_230.out _; (with_reducible repeat (first | refine blk_drewN ?_ _ | refine blk_drew ?_ | refine blk_alloc ?_ _)); refine blk_far ?_ NB229_230.out _; (with_reducible repeat (first | refine blk_drewN ?_ _ | refine blk_drew ?_ | refine blk_alloc ?_ _)); refine blk_far ?_ NB229_230.out _; (with_reducible repeat (first | refine blk_drewN ?_ _ | refine blk_drew ?_ | refine blk_alloc ?_ _)); refine blk_far ?_ NB229_230.out _; (with_reducible repeat (first | refine blk_drewN ?_ _ | refine blk_drew ?_ | refine blk_alloc ?_ _)); refine blk_far ?_ NB229_230.out _; (with_reducible repeat (first | refine blk_drewN ?_ _ | refine blk_drew ?_ | refine blk_alloc ?_ _)); exact BK229.out))⟩; have n2_ : Aside0 (w112.heap[gb230]? = some (.cells #[.bool t239, .bool t240, .bool t241, .int .u64 t242, .int .i64 t243] 56 (0, 0))) := ⟨(by rw [hw]; exact (by (with_reducible repeat (first | refine blk_drewN ?_ _ | refine blk_drew ?_ | refine blk_alloc ?_ _)); refine blk_put (cs := #[.bool t239, .bool t240, .bool t241, .int .u64 t242, .int .i64 a2_4]) ?_ 4 _ rfl; (with_reducible repeat (first | refine blk_drewN ?_ _ | refine blk_drew ?_ | refine blk_alloc ?_ _)); refine blk_put (cs := #[.bool t239, .bool t240, .bool t241, .int .u64 a2_3, .int .i64 a2_4]) ?_ 3 _ rfl; (with_reducible repeat (first | refine blk_drewN ?_ _ | refine blk_drew ?_ | refine blk_alloc ?_ _)); refine blk_put (cs := #[.bool t239, .bool t240, .bool a2_2, .int .u64 a2_3, .int .i64 a2_4]) ?_ 2 _ rfl; (with_reducible repeat (first | refine blk_drewN ?_ _ | refine blk_drew ?_ | refine blk_alloc ?_ _)); refine blk_put (cs := #[.bool t239, .bool a2_1, .bool a2_2, .int .u64 a2_3, .int .i64 a2_4]) ?_ 1 _ rfl; (with_reducible repeat (first | refine blk_drewN ?_ _ | refine blk_drew ?_ | refine blk_alloc ?_ _)); refine blk_put (cs := #[.bool a2_0, .bool a2_1, .bool a2_2, .int .u64 a2_3, .int .i64 a2_4]) ?_ 0 _ rfl; (with_reducible repeat (first | refine blk_drewN ?_ _ | refine blk_drew ?_ | refine blk_alloc ?_ _)); exact BK230.out))⟩; have n3_ : Aside0 (Below w.heap.size w w112) := ⟨(by rw [hw]; exact (by repeat (first | (with_reducible first | exact HB.out | apply below_alloc | apply pw_below_drewN | apply below_drew1 | refine below_set ?_ GE228.out | refine below_set ?_ GE229.out | refine below_set ?_ GE230.out) | exact HB.out)))⟩; clear hw; clear BK228; clear BK229; clear BK230; clear HB; have BK228 := n0_; have BK229 := n1_; have BK230 := n2_; have HB := n3_; clear n0_ n1_ n2_ n3_; have hcz113_0 : w112.cell? ⟨gb229, 0, none⟩ = some (.bool t234) := (blk_cell BK229.out 0).trans rfl; have hcz113_1 : w112.cell? ⟨gb229, 1, none⟩ = some (.bool t235) := (blk_cell BK229.out 1).trans rfl; have hcz113_2 : w112.cell? ⟨gb229, 2, none⟩ = some (.bool t236) := (blk_cell BK229.out 2).trans rfl; have hcz113_3 : w112.cell? ⟨gb229, 3, none⟩ = some (.int .u64 t237) := (blk_cell BK229.out 3).trans rfl; have hcz113_4 : w112.cell? ⟨gb229, 4, none⟩ = some (.int .i64 t238) := (blk_cell BK229.out 4).trans rfl; have hfz113_0 := blk_frozen BK229.out 0; have hfz113_1 := blk_frozen BK229.out 1; have hfz113_2 := blk_frozen BK229.out 2; have hfz113_3 := blk_frozen BK229.out 3; have hfz113_4 := blk_frozen BK229.out 4; have hcz114_0 : w112.cell? ⟨gb230, 0, none⟩ = some (.bool t239) := (blk_cell BK230.out 0).trans rfl; have hcz114_1 : w112.cell? ⟨gb230, 1, none⟩ = some (.bool t240) := (blk_cell BK230.out 1).trans rfl; have hcz114_2 : w112.cell? ⟨gb230, 2, none⟩ = some (.bool t241) := (blk_cell BK230.out 2).trans rfl; have hcz114_3 : w112.cell? ⟨gb230, 3, none⟩ = some (.int .u64 t242) := (blk_cell BK230.out 3).trans rfl; have hcz114_4 : w112.cell? ⟨gb230, 4, none⟩ = some (.int .i64 t243) := (blk_cell BK230.out 4).trans rfl; have hfz114_0 := blk_frozen BK230.out 0; have hfz114_1 := blk_frozen BK230.out 1; have hfz114_2 := blk_frozen BK230.out 2; have hfz114_3 := blk_frozen BK230.out 3; have hfz114_4 := blk_frozen BK230.out 4))
           have n0_ := Aside0.mk (blk_drew BK228.out)
           have n1_ := Aside0.mk (blk_drew BK229.out)
           have n2_ := Aside0.mk (blk_drew BK230.out)
           have n3_ := Aside0.mk (below_drew1 HB.out)
           clear BK228
           clear BK229
           clear BK230
           clear HB
           have BK228 := n0_
           have BK229 := n1_
           have BK230 := n2_
           have HB := n3_
           clear n0_ n1_ n2_ n3_
           refine start_ (n := 18) (S := fun w' => w'.cell? ⟨gb228, 0, none⟩ = some (.int .u64 a0_0) ∧ w'.cell? ⟨gb228, 1, none⟩ = some (.int .u64 a0_1) ∧ w'.cell? ⟨gb229, 0, none⟩ = some (.bool t234) ∧ w'.cell? ⟨gb229, 1, none⟩ = some (.bool t235) ∧ w'.cell? ⟨gb229, 2, none⟩ = some (.bool t236) ∧ w'.cell? ⟨gb229, 3, none⟩ = some (.int .u64 t237) ∧ w'.cell? ⟨gb229, 4, none⟩ = some (.int .i64 t238) ∧ w'.cell? ⟨gb230, 0, none⟩ = some (.bool t239) ∧ w'.cell? ⟨gb230, 1, none⟩ = some (.bool t240) ∧ w'.cell? ⟨gb230, 2, none⟩ = some (.bool t241) ∧ w'.cell? ⟨gb230, 3, none⟩ = some (.int .u64 t242) ∧ w'.cell? ⟨gb230, 4, none⟩ = some (.int .i64 t243)) (ds := []) #[false, false, false, false, false, false, false, false, false, false, false, false, false, false, false, false, false, false] (by kernel_rfl) rfl rfl ⟨(blk_cell BK228.out 0).trans rfl, (blk_cell BK228.out 1).trans rfl, (blk_cell BK229.out 0).trans rfl, (blk_cell BK229.out 1).trans rfl, (blk_cell BK229.out 2).trans rfl, (blk_cell BK229.out 3).trans rfl, (blk_cell BK229.out 4).trans rfl, (blk_cell BK230.out 0).trans rfl, (blk_cell BK230.out 1).trans rfl, (blk_cell BK230.out 2).trans rfl, (blk_cell BK230.out 3).trans rfl, (blk_cell BK230.out 4).trans rfl⟩ (fun hHeld => ?_); refine with_tabW spec_l4K_quotient.tab11 spec_l4K_quotient.bits11 (fun HT_ HW_ => ?_)
           generalize w112.drew = w115 at BK228 BK229 BK230 HB hHeld ⊢
           refine pure_ (i := 1) (N := some 91) (v := ?_) (a' := ?_) #[false, true, false, false, false, false, false, false, false, false, false, false, false, false, false, false, false, false] rfl rfl (any_of HT_.out (by kernel_rfl)) (fun _ _ _ h => h) (Or.inl ⟨by rfl, ?_⟩) ?_ ?_
           rotate_left
           ·
            intro w'
            go_simp
            with_reducible rfl
           rotate_left
           ·
            simp only [Act.put, List.setIfInBounds_toArray, List.set_cons_zero, List.set_cons_succ, i64_w, i32_w]
            rfl
           refine pure_ (i := 2) (N := some 92) (v := ?_) (a' := ?_) #[false, true, true, false, false, false, false, false, false, false, false, false, false, false, false, false, false, false] rfl rfl (any_of HT_.out (by kernel_rfl)) (fun _ _ _ h => h) (Or.inl ⟨by rfl, ?_⟩) ?_ ?_
           rotate_left
           ·
            intro w'
            go_simp
            with_reducible rfl
           rotate_left
           ·
            simp only [Act.put, List.setIfInBounds_toArray, List.set_cons_zero, List.set_cons_succ, i64_w, i32_w]
            rfl
           refine pure_ (i := 3) (N := some 93) (v := ?_) (a' := ?_) #[false, true, true, true, false, false, false, false, false, false, false, false, false, false, false, false, false, false] rfl rfl (any_of HT_.out (by kernel_rfl)) (fun _ _ _ h => h) (Or.inl ⟨by rfl, ?_⟩) ?_ ?_
           rotate_left
           ·
            intro w'
            go_simp
            with_reducible rfl
           rotate_left
           ·
            simp only [Act.put, List.setIfInBounds_toArray, List.set_cons_zero, List.set_cons_succ, i64_w, i32_w]
            rfl
           refine pure_ (i := 6) (N := some 96) (v := ?_) (a' := ?_) #[false, true, true, true, false, false, true, false, false, false, false, false, false, false, false, false, false, false] rfl rfl (any_of HT_.out (by kernel_rfl)) (fun _ _ _ h => h) (Or.inl ⟨by rfl, ?_⟩) ?_ ?_
           rotate_left
           ·
            intro w'
            go_simp
            with_reducible rfl
           rotate_left
           ·
            simp only [Act.put, List.setIfInBounds_toArray, List.set_cons_zero, List.set_cons_succ, i64_w, i32_w]
            rfl
           refine pure_ (i := 9) (N := some 99) (v := ?_) (a' := ?_) #[false, true, true, true, false, false, true, false, false, true, false, false, false, false, false, false, false, false] rfl rfl (any_of HT_.out (by kernel_rfl)) (fun _ _ _ h => h) (Or.inl ⟨by rfl, ?_⟩) ?_ ?_
           rotate_left
           ·
            intro w'
            go_simp
            with_reducible rfl
           rotate_left
           ·
            simp only [Act.put, List.setIfInBounds_toArray, List.set_cons_zero, List.set_cons_succ, i64_w, i32_w]
            rfl
           refine pure_ (i := 12) (N := some 102) (v := ?_) (a' := ?_) #[false, true, true, true, false, false, true, false, false, true, false, false, true, false, false, false, false, false] rfl rfl (any_of HT_.out (by kernel_rfl)) (fun _ _ _ h => h) (Or.inl ⟨by rfl, ?_⟩) ?_ ?_
           rotate_left
           ·
            intro w'
            go_simp
            with_reducible rfl
           rotate_left
           ·
            simp only [Act.put, List.setIfInBounds_toArray, List.set_cons_zero, List.set_cons_succ, i64_w, i32_w]
            rfl
           refine take_ (i := 0) (N := some 90) (v := ?_) (a' := ?_) #[true, true, true, true, false, false, true, false, false, true, false, false, true, false, false, false, false, false] rfl rfl (take_ofW HT_.out HW_.out (by kernel_rfl)) (fun _ _ _ h => h) (Or.inl ⟨by rfl, ?_⟩) hHeld ?_ ?_
           rotate_left
           ·
            rintro w' ⟨s0, s1, s2, s3, s4, s5, s6, s7, s8, s9, s10, s11⟩
            go_simp
            with_reducible rfl
           rotate_left
           ·
            simp only [Act.put, List.setIfInBounds_toArray, List.set_cons_zero, List.set_cons_succ, i64_w, i32_w]
            rfl
           refine take_ (i := 4) (N := some 94) (v := ?_) (a' := ?_) #[true, true, true, true, true, false, true, false, false, true, false, false, true, false, false, false, false, false] rfl rfl (take_ofW HT_.out HW_.out (by kernel_rfl)) (fun _ _ _ h => h) (Or.inl ⟨by rfl, ?_⟩) hHeld ?_ ?_
           rotate_left
           ·
            rintro w' ⟨s0, s1, s2, s3, s4, s5, s6, s7, s8, s9, s10, s11⟩
            go_simp
            with_reducible rfl
           rotate_left
           ·
            simp only [Act.put, List.setIfInBounds_toArray, List.set_cons_zero, List.set_cons_succ, i64_w, i32_w]
            rfl
           refine pure_ (i := 5) (N := some 95) (v := ?_) (a' := ?_) #[true, true, true, true, true, true, true, false, false, true, false, false, true, false, false, false, false, false] rfl rfl (any_of HT_.out (by kernel_rfl)) (fun _ _ _ h => h) (Or.inl ⟨by rfl, ?_⟩) ?_ ?_
           rotate_left
           ·
            intro w'
            go_simp
            with_reducible rfl
           rotate_left
           ·
            simp only [Act.put, List.setIfInBounds_toArray, List.set_cons_zero, List.set_cons_succ, i64_w, i32_w]
            rfl
           refine take_ (i := 7) (N := some 97) (v := ?_) (a' := ?_) #[true, true, true, true, true, true, true, true, false, true, false, false, true, false, false, false, false, false] rfl rfl (take_ofW HT_.out HW_.out (by kernel_rfl)) (fun _ _ _ h => h) (Or.inl ⟨by rfl, ?_⟩) hHeld ?_ ?_
           rotate_left
           ·
            rintro w' ⟨s0, s1, s2, s3, s4, s5, s6, s7, s8, s9, s10, s11⟩
            go_simp
            with_reducible rfl
           rotate_left
           ·
            simp only [Act.put, List.setIfInBounds_toArray, List.set_cons_zero, List.set_cons_succ, i64_w, i32_w]
            rfl
           refine pure_ (i := 8) (N := some 98) (v := ?_) (a' := ?_) #[true, true, true, true, true, true, true, true, true, true, false, false, true, false, false, false, false, false] rfl rfl (any_of HT_.out (by kernel_rfl)) (fun _ _ _ h => h) (Or.inl ⟨by rfl, ?_⟩) ?_ ?_
           rotate_left
           ·
            intro w'
            go_simp
            with_reducible rfl
           rotate_left
           ·
            simp only [Act.put, List.setIfInBounds_toArray, List.set_cons_zero, List.set_cons_succ, i64_w, i32_w]
            rfl
           refine take_ (i := 10) (N := some 100) (v := ?_) (a' := ?_) #[true, true, true, true, true, true, true, true, true, true, true, false, true, false, false, false, false, false] rfl rfl (take_ofW HT_.out HW_.out (by kernel_rfl)) (fun _ _ _ h => h) (Or.inl ⟨by rfl, ?_⟩) hHeld ?_ ?_
           rotate_left
           ·
            rintro w' ⟨s0, s1, s2, s3, s4, s5, s6, s7, s8, s9, s10, s11⟩
            go_simp
            with_reducible rfl
           rotate_left
           ·
            simp only [Act.put, List.setIfInBounds_toArray, List.set_cons_zero, List.set_cons_succ, i64_w, i32_w]
            rfl
           refine pure_ (i := 11) (N := some 101) (v := ?_) (a' := ?_) #[true, true, true, true, true, true, true, true, true, true, true, true, true, false, false, false, false, false] rfl rfl (any_of HT_.out (by kernel_rfl)) (fun _ _ _ h => h) (Or.inl ⟨by rfl, ?_⟩) ?_ ?_
           rotate_left
           ·
            intro w'
            go_simp
            with_reducible rfl
           rotate_left
           ·
            simp only [Act.put, List.setIfInBounds_toArray, List.set_cons_zero, List.set_cons_succ, i64_w, i32_w]
            rfl
           refine take_ (i := 13) (N := some 103) (v := ?_) (a' := ?_) #[true, true, true, true, true, true, true, true, true, true, true, true, true, true, false, false, false, false] rfl rfl (take_ofW HT_.out HW_.out (by kernel_rfl)) (fun _ _ _ h => h) (Or.inl ⟨by rfl, ?_⟩) hHeld ?_ ?_
           rotate_left
           ·
            rintro w' ⟨s0, s1, s2, s3, s4, s5, s6, s7, s8, s9, s10, s11⟩
            go_simp
            with_reducible rfl
           rotate_left
           ·
            simp only [Act.put, List.setIfInBounds_toArray, List.set_cons_zero, List.set_cons_succ, i64_w, i32_w]
            rfl
           refine pure_ (i := 14) (N := some 104) (v := ?_) (a' := ?_) #[true, true, true, true, true, true, true, true, true, true, true, true, true, true, true, false, false, false] rfl rfl (any_of HT_.out (by kernel_rfl)) (fun _ _ _ h => h) (Or.inl ⟨by rfl, ?_⟩) ?_ ?_
           rotate_left
           ·
            intro w'
            go_simp
            with_reducible rfl
           rotate_left
           ·
            simp only [Act.put, List.setIfInBounds_toArray, List.set_cons_zero, List.set_cons_succ, i64_w, i32_w]
            rfl
           refine pure_ (i := 15) (N := some 105) (v := ?_) (a' := ?_) #[true, true, true, true, true, true, true, true, true, true, true, true, true, true, true, true, false, false] rfl rfl (any_of HT_.out (by kernel_rfl)) (fun _ _ _ h => h) (Or.inl ⟨by rfl, ?_⟩) ?_ ?_
           rotate_left
           ·
            intro w'
            go_simp
            with_reducible rfl
           rotate_left
           ·
            simp only [Act.put, List.setIfInBounds_toArray, List.set_cons_zero, List.set_cons_succ, i64_w, i32_w]
            rfl
           refine one_ (i := 16) (N := some 106) #[true, true, true, true, true, true, true, true, true, true, true, true, true, true, true, true, true, false] rfl rfl (one_of HT_.out (by kernel_rfl)) (by decide) (fun K hK => ?_)
           refine goes_ Try.func50 (by kernel_rfl) rfl #[.agg #[.int .u64 a0_0, .int .u64 a0_1], .bool (a1_0 != a2_0), .int .u64 (IntKind.u64.wrap (Int.tdiv (IntKind.u64.wrap (t237 * 1073741824)) t242)), .int .i64 (wrap64 ((wrap64 (t238 - 30)) - t243)), .bool ((Int.tmod (IntKind.u64.wrap (t237 * 1073741824)) t242) != 0)] (by rfl) rfl rfl (by (try simp only [List.map_toArray, List.map_cons, List.map_nil]); first | done | rfl | (simp only [List.length_drop, List.length_take]; rfl)) ?_
           with_reducible refine (spec_l4K_round.calls kj79 a0_0 a0_1 (a1_0 != a2_0) (IntKind.u64.wrap (Int.tdiv (IntKind.u64.wrap (t237 * 1073741824)) t242)) (wrap64 ((wrap64 (t238 - 30)) - t243)) ((Int.tmod (IntKind.u64.wrap (t237 * 1073741824)) t242) != 0) t244 _ A99.out).mono ?_
           rintro e w116 ⟨rfl, hb⟩
           refine ⟨_, rfl, ?_⟩
           have n0_ := Aside0.mk (blk_below (g := gb228) (o := .cells #[.int .u64 a0_0, .int .u64 a0_1] 52 (0, 0)) (by (with_reducible repeat (first | refine blk_drewN ?_ _ | refine blk_drew ?_ | refine blk_alloc ?_ _)); exact BK228.out) hb)
           have n1_ := Aside0.mk (blk_below (g := gb229) (o := .cells #[.bool t234, .bool t235, .bool t236, .int .u64 t237, .int .i64 t238] 56 (0, 0)) (by (with_reducible repeat (first | refine blk_drewN ?_ _ | refine blk_drew ?_ | refine blk_alloc ?_ _)); exact BK229.out) hb)
           have n2_ := Aside0.mk (blk_below (g := gb230) (o := .cells #[.bool t239, .bool t240, .bool t241, .int .u64 t242, .int .i64 t243] 56 (0, 0)) (by (with_reducible repeat (first | refine blk_drewN ?_ _ | refine blk_drew ?_ | refine blk_alloc ?_ _)); exact BK230.out) hb)
           have n3_ := Aside0.mk (below_step (by repeat (first | (with_reducible first | exact HB.out | apply below_alloc | apply pw_below_drewN | apply below_drew1 | refine below_set ?_ GE228.out | refine below_set ?_ GE229.out | refine below_set ?_ GE230.out) | exact HB.out)) hb)
           clear BK228
           clear BK229
           clear BK230
           clear HB
           have BK228 := n0_
           have BK229 := n1_
           have BK230 := n2_
           have HB := n3_
           clear n0_ n1_ n2_ n3_
           (try clear hb)
           (try clear hb2)
           (try clear hk)
           (try clear hi)
           refine hK.out _ _ ⟨(blk_cell BK228.out 0).trans rfl, (blk_cell BK228.out 1).trans rfl, (blk_cell BK229.out 0).trans rfl, (blk_cell BK229.out 1).trans rfl, (blk_cell BK229.out 2).trans rfl, (blk_cell BK229.out 3).trans rfl, (blk_cell BK229.out 4).trans rfl, (blk_cell BK230.out 0).trans rfl, (blk_cell BK230.out 1).trans rfl, (blk_cell BK230.out 2).trans rfl, (blk_cell BK230.out 3).trans rfl, (blk_cell BK230.out 4).trans rfl⟩ (fun hHeld => ?_)
           clear hK K
           refine norm_ (a' := ?_) ?_ ?_
           rotate_left
           ·
            show Act.put _ (some 106) _ = _
            simp only [Act.put, List.setIfInBounds_toArray, List.set_cons_zero, List.set_cons_succ, i64_w, i32_w]
            rfl
           refine pure_ (i := 17) (N := some 6) (v := ?_) (a' := ?_) #[true, true, true, true, true, true, true, true, true, true, true, true, true, true, true, true, true, true] rfl rfl (any_of HT_.out (by kernel_rfl)) (fun _ _ _ h => h) (Or.inl ⟨by rfl, ?_⟩) ?_ ?_
           rotate_left
           ·
            intro w'
            go_simp
            with_reducible rfl
           rotate_left
           ·
            simp only [Act.put, List.setIfInBounds_toArray, List.set_cons_zero, List.set_cons_succ, i64_w, i32_w]
            rfl
           refine done_ (done_of HT_.out (by kernel_rfl)) ?_
           try go_wp2
           go_ret
           exact ⟨by first | rfl | (simp [errW_none, errW_some] <;> rfl) | (simp [*, errW_none, errW_some] <;> rfl), by repeat (first | (with_reducible first | exact HB.out | apply below_alloc | apply pw_below_drewN | apply below_drew1 | refine below_set ?_ GE228.out | refine below_set ?_ GE229.out | refine below_set ?_ GE230.out) | exact HB.out)⟩

end Go.Proofs.Ytdeogandkgiggaa.Q
