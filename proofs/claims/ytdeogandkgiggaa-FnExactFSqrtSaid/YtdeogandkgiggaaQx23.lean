-- Written by a program of this session; it walks the functions that the law reaches.
import Derived.Test.YtdeogandkgiggaaQx0
import Derived.Test.YtdeogandkgiggaaQx2
import Derived.Test.YtdeogandkgiggaaQx3
import Derived.Test.YtdeogandkgiggaaQx4
import Derived.Test.YtdeogandkgiggaaQx18
import Derived.Test.YtdeogandkgiggaaQx22
namespace Go.Proofs.Ytdeogandkgiggaa.Q
open Go.RowKit Go.Proofs.YtdeogandkgiggaaW.PrintWords Go.Proofs.YtdeogandkgiggaaW.PrintLast Go.Proofs.YtdeogandkgiggaaW.PrintMore
attribute [local go_sem] max2_int min2_int max_two min_two max_three min_three max_four min_four   -- for this text's walks alone
set_option linter.unusedVariables false
set_option linter.unusedSimpArgs false

/-! ### spec_l4K_root: function 60 -/
def spec_l4K_root.j0 : Nat → Bool → Int → Int → Bool → Bool → Bool → Int → Int → Option (Int)
 | 0, _, _, _, _, _, _, _, _ => none
 | k + 1, x8, x284000, x284001, x285000, x285001, x285002, x285003, x285004 => if x8 = true then ((spec_l4K_nan.f x284000 x284001).bind fun t285 => (some t285)) else (if x285001 = true then ((spec_l4K_inf.f x284000 x284001 false).bind fun t286 => (some t286)) else (if x285003 = 0 then ((spec_l4K_sign.f x284000 x284001 x285000).bind fun t287 => (some t287)) else ((spec_l4K_full.f k x284000 x284001 x285000 x285001 x285002 x285003 x285004).bind fun bt288 => ((spec_l4Len.f k bt288.2.2.2.1).bind fun t293 => (if (Int.tmod (wrap64 (bt288.2.2.2.2 - (wrap64 (58 - t293)))) 2) = 0 then (if 0 ≤ (IntKind.u64.wrap (wrap64 (58 - t293))) then ((spec_l4Root.f k (shl .u64 bt288.2.2.2.1 (IntKind.u64.wrap (wrap64 (58 - t293))))).bind fun t294 => ((spec_l4K_round.f k x284000 x284001 false t294 (wrap64 (Int.tdiv (wrap64 (bt288.2.2.2.2 - (wrap64 (58 - t293)))) 2)) ((IntKind.u64.wrap (t294 * t294)) != (shl .u64 bt288.2.2.2.1 (IntKind.u64.wrap (wrap64 (58 - t293)))))).bind fun t295 => (some t295))) else (none)) else (if 0 ≤ (IntKind.u64.wrap (wrap64 ((wrap64 (58 - t293)) - 1))) then ((spec_l4Root.f k (shl .u64 bt288.2.2.2.1 (IntKind.u64.wrap (wrap64 ((wrap64 (58 - t293)) - 1))))).bind fun t296 => ((spec_l4K_round.f k x284000 x284001 false t296 (wrap64 (Int.tdiv (wrap64 (bt288.2.2.2.2 - (wrap64 ((wrap64 (58 - t293)) - 1)))) 2)) ((IntKind.u64.wrap (t296 * t296)) != (shl .u64 bt288.2.2.2.1 (IntKind.u64.wrap (wrap64 ((wrap64 (58 - t293)) - 1)))))).bind fun t297 => (some t297))) else (none)))))))
def spec_l4K_root.f (k : Nat) (a0_0 : Int) (a0_1 : Int) (a1_0 : Bool) (a1_1 : Bool) (a1_2 : Bool) (a1_3 : Int) (a1_4 : Int) : Option (Int) := if a1_2 = true then (spec_l4K_root.j0 k true a0_0 a0_1 a1_0 a1_1 a1_2 a1_3 a1_4) else (if a1_0 = true then (if a1_1 = true then (spec_l4K_root.j0 k true a0_0 a0_1 a1_0 a1_1 a1_2 a1_3 a1_4) else (spec_l4K_root.j0 k (a1_3 != 0) a0_0 a0_1 a1_0 a1_1 a1_2 a1_3 a1_4)) else (spec_l4K_root.j0 k false a0_0 a0_1 a1_0 a1_1 a1_2 a1_3 a1_4))
theorem spec_l4K_root.mono_l : ∀ k, (∀ y0 y1 y2 y3 y4 y5 y6 y7, LeO (spec_l4K_root.j0 k y0 y1 y2 y3 y4 y5 y6 y7) (spec_l4K_root.j0 (k + 1) y0 y1 y2 y3 y4 y5 y6 y7))
 | 0 => fun _ _ _ _ _ _ _ _ r h => by simp [spec_l4K_root.j0] at h
 | k + 1 => by
  have ih0 := spec_l4K_root.mono_l k
  ·
   intro y0 y1 y2 y3 y4 y5 y6 y7
   unfold spec_l4K_root.j0
   repeat' first
   | (with_reducible exact ih0 _ _ _ _ _ _ _ _)
   | (with_reducible exact spec_l4K_full.mono _ _ _ _ _ _ _ _)
   | (with_reducible exact spec_l4K_round.mono _ _ _ _ _ _ _)
   | (with_reducible exact spec_l4Len.mono _ _)
   | (with_reducible exact spec_l4Root.mono _ _)
   | (with_reducible exact LeO.refl _)
   | (with_reducible exact LeO.none _)
   | (with_reducible refine LeO.ite ?_ ?_)
   | (with_reducible refine LeO.bind ?_ (fun _ => ?_))
   | exact ih0 _ _ _ _ _ _ _ _
   | exact spec_l4K_full.mono _ _ _ _ _ _ _ _
   | exact spec_l4K_round.mono _ _ _ _ _ _ _
   | exact spec_l4Len.mono _ _
   | exact spec_l4Root.mono _ _
   | exact LeO.none _
   | refine LeO.ite ?_ ?_
   | refine LeO.bind ?_ (fun _ => ?_)
theorem spec_l4K_root.mono : ∀ a0 a1 a2 a3 a4 a5 a6 k, LeO (spec_l4K_root.f k a0 a1 a2 a3 a4 a5 a6) (spec_l4K_root.f (k + 1) a0 a1 a2 a3 a4 a5 a6) := by
 intro a0 a1 a2 a3 a4 a5 a6 k
 have ih0 := spec_l4K_root.mono_l k
 unfold spec_l4K_root.f
 repeat' first
   | (with_reducible exact ih0 _ _ _ _ _ _ _ _)
   | (with_reducible exact spec_l4K_full.mono _ _ _ _ _ _ _ _)
   | (with_reducible exact spec_l4K_round.mono _ _ _ _ _ _ _)
   | (with_reducible exact spec_l4Len.mono _ _)
   | (with_reducible exact spec_l4Root.mono _ _)
   | (with_reducible exact LeO.refl _)
   | (with_reducible exact LeO.none _)
   | (with_reducible refine LeO.ite ?_ ?_)
   | (with_reducible refine LeO.bind ?_ (fun _ => ?_))
   | exact ih0 _ _ _ _ _ _ _ _
   | exact spec_l4K_full.mono _ _ _ _ _ _ _ _
   | exact spec_l4K_round.mono _ _ _ _ _ _ _
   | exact spec_l4Len.mono _ _
   | exact spec_l4Root.mono _ _
   | exact LeO.none _
   | refine LeO.ite ?_ ?_
   | refine LeO.bind ?_ (fun _ => ?_)
set_option maxHeartbeats 8000000 in
set_option maxRecDepth 100000 in
theorem spec_l4K_root.calls (k : Nat) (a0_0 : Int) (a0_1 : Int) (a1_0 : Bool) (a1_1 : Bool) (a1_2 : Bool) (a1_3 : Int) (a1_4 : Int) (r : Int) (w : World) (h : spec_l4K_root.f k a0_0 a0_1 a1_0 a1_1 a1_2 a1_3 a1_4 = some r) :
  Calls Try.prog 60 #[.agg #[.int .u64 a0_0, .int .u64 a0_1], .agg #[.bool a1_0, .bool a1_1, .bool a1_2, .int .u64 a1_3, .int .i64 a1_4]] w fun e w' => e = .returned (.int .u32 r) ∧ Below w.heap.size w w' := by
 have hu52 := Try.underlying52
 have hu56 := Try.underlying56
 have HB := Aside0.mk (Below.refl w.heap.size w)
 have H : (if a1_2 = true then (spec_l4K_root.j0 k true a0_0 a0_1 a1_0 a1_1 a1_2 a1_3 a1_4) else (if a1_0 = true then (if a1_1 = true then (spec_l4K_root.j0 k true a0_0 a0_1 a1_0 a1_1 a1_2 a1_3 a1_4) else (spec_l4K_root.j0 k (a1_3 != 0) a0_0 a0_1 a1_0 a1_1 a1_2 a1_3 a1_4)) else (spec_l4K_root.j0 k false a0_0 a0_1 a1_0 a1_1 a1_2 a1_3 a1_4))) = some r := h
 clear h
 have HC3 := Aside0.mk H
 clear H
 go_enter Try.func60, Try.ntmps60
 go_upto_region 1 with (first | ((with_reducible refine gate_dst (N := 2) rfl ?_); refine box_event ?hg (N := 2) ?hd (cs := #[.int .u64 a0_0, .int .u64 a0_1]) (t := 52) ?hr ?_; (case hd => rfl); (case hg => rfl); (case hr => first | (go_simp; done) | (go_simp; rfl)); intro gb283 hg w4 hbox hb; have n0_ := Aside0.mk (below_step (by repeat (first | (with_reducible first | exact HB.out | apply below_alloc | apply pw_below_drewN | apply below_drew1) | exact HB.out)) hb); have n1_ := Aside0.mk (hbox); have n2_ := Aside0.mk ((by rw [hg]; exact (below_size (by repeat (first | (with_reducible first | exact HB.out | apply below_alloc | apply pw_below_drewN | apply below_drew1) | exact HB.out))) : w.heap.size ≤ gb283)); have n3_ := Aside0.mk ((by rw [hg]; exact (below_size (by repeat (first | (with_reducible first | exact HB.out | apply below_alloc | apply pw_below_drewN | apply below_drew1) | exact HB.out))) : w.heap.size ≤ gb283)); clear HB; have HB := n0_; have BK283 := n1_; have GW283 := n2_; have GE283 := n3_; clear n0_ n1_ n2_ n3_; clear hb hbox hg) | ((with_reducible refine gate_dst (N := 3) rfl ?_); refine box_event ?hg (N := 3) ?hd (cs := #[.bool a1_0, .bool a1_1, .bool a1_2, .int .u64 a1_3, .int .i64 a1_4]) (t := 56) ?hr ?_; (case hd => rfl); (case hg => rfl); (case hr => first | (go_simp; done) | (go_simp; rfl)); intro gb284 hg w5 hbox hb; have n0_ := Aside0.mk (blk_below (g := gb283) (o := .cells #[.int .u64 a0_0, .int .u64 a0_1] 52 (0, 0)) (by (with_reducible repeat (first | refine blk_drewN ?_ _ | refine blk_drew ?_ | refine blk_alloc ?_ _)); exact BK283.out) hb); have n1_ := Aside0.mk (below_step (by repeat (first | (with_reducible first | exact HB.out | apply below_alloc | apply pw_below_drewN | apply below_drew1 | refine below_set ?_ GE283.out) | exact HB.out)) hb); have n2_ := Aside0.mk (hbox); have n3_ := Aside0.mk ((by rw [hg]; exact (below_size (by repeat (first | (with_reducible first | exact HB.out | apply below_alloc | apply pw_below_drewN | apply below_drew1 | refine below_set ?_ GE283.out) | exact HB.out))) : w.heap.size ≤ gb284)); have n4_ := Aside0.mk ((by rw [hg]; exact (below_size (by repeat (first | (with_reducible first | exact HB.out | apply below_alloc | apply pw_below_drewN | apply below_drew1 | refine below_set ?_ GE283.out) | exact HB.out))) : w.heap.size ≤ gb284)); have n5_ := Aside0.mk ((by rw [hg]; exact Nat.ne_of_lt (blk_lt (g := gb283) (o := .cells #[.int .u64 a0_0, .int .u64 a0_1] 52 (0, 0)) (by (with_reducible repeat (first | refine blk_drewN ?_ _ | refine blk_drew ?_ | refine blk_alloc ?_ _)); exact BK283.out)) : gb283 ≠ gb284)); have n6_ := Aside0.mk ((by rw [hg]; exact Nat.ne_of_gt (blk_lt (g := gb283) (o := .cells #[.int .u64 a0_0, .int .u64 a0_1] 52 (0, 0)) (by (with_reducible repeat (first | refine blk_drewN ?_ _ | refine blk_drew ?_ | refine blk_alloc ?_ _)); exact BK283.out)) : gb284 ≠ gb283)); clear BK283; clear HB; have BK283 := n0_; have HB := n1_; have BK284 := n2_; have GW284 := n3_; have GE284 := n4_; have NB283_284 := n5_; have NB284_283 := n6_; clear n0_ n1_ n2_ n3_ n4_ n5_ n6_; clear hb hbox hg))
 (try simp only [Act.put, List.setIfInBounds_toArray, List.set_cons_zero, List.set_cons_succ])
 go_cut [8] (fun v8 wc => ∃ (kq : Nat) (x8_2 : Bool), v8 = .bool x8_2 ∧ Aside0 (spec_l4K_root.j0 kq x8_2 a0_0 a0_1 a1_0 a1_1 a1_2 a1_3 a1_4 = some r) ∧ Aside0 (kq ≤ k) ∧ Aside0 (wc.heap[gb283]? = some (.cells #[.int .u64 a0_0, .int .u64 a0_1] 52 (0, 0))) ∧ Aside0 (wc.heap[gb284]? = some (.cells #[.bool a1_0, .bool a1_1, .bool a1_2, .int .u64 a1_3, .int .i64 a1_4] 56 (0, 0))) ∧ Aside0 (Below w.heap.size w wc))
 case first =>
  have H := HC3.out
  clear HC3
  by_cases c6 : a1_2 = true
  ·
   subst c6
   have H1 : (spec_l4K_root.j0 k true a0_0 a0_1 a1_0 a1_1 true a1_3 a1_4) = some r := by rw [if_pos rfl] at H; exact H
   clear H
   have H := H1
   clear H1
   have H' := Aside0.mk H
   clear H
   have hnb7 := NB284_283.out
   have hnc7 := NB283_284.out
   have hcz8_0 : w5.cell? ⟨gb284, 0, none⟩ = some (.bool a1_0) := (blk_cell BK284.out 0).trans rfl
   have hcz8_1 : w5.cell? ⟨gb284, 1, none⟩ = some (.bool a1_1) := (blk_cell BK284.out 1).trans rfl
   have hcz8_2 : w5.cell? ⟨gb284, 2, none⟩ = some (.bool true) := (blk_cell BK284.out 2).trans rfl
   have hcz8_3 : w5.cell? ⟨gb284, 3, none⟩ = some (.int .u64 a1_3) := (blk_cell BK284.out 3).trans rfl
   have hcz8_4 : w5.cell? ⟨gb284, 4, none⟩ = some (.int .i64 a1_4) := (blk_cell BK284.out 4).trans rfl
   have hfz8_0 := blk_frozen BK284.out 0
   have hfz8_1 := blk_frozen BK284.out 1
   have hfz8_2 := blk_frozen BK284.out 2
   have hfz8_3 := blk_frozen BK284.out 3
   have hfz8_4 := blk_frozen BK284.out 4
   go_wp2
   go_meet
   case rel => exact ⟨_, (true), (by first | rfl | (simp; done) | (simp [*]; done)), H', ⟨by first | omega | exact Nat.le_refl _⟩, ⟨by (with_reducible repeat (first | refine blk_drewN ?_ _ | refine blk_drew ?_ | refine blk_alloc ?_ _)); exact BK283.out⟩, ⟨by (with_reducible repeat (first | refine blk_drewN ?_ _ | refine blk_drew ?_ | refine blk_alloc ?_ _)); exact BK284.out⟩, ⟨by repeat (first | (with_reducible first | exact HB.out | apply below_alloc | apply pw_below_drewN | apply below_drew1 | refine below_set ?_ GE283.out | refine below_set ?_ GE284.out) | exact HB.out)⟩⟩
  ·
   replace c6 := Bool.eq_false_iff.mpr c6
   subst c6
   have H1 : (if a1_0 = true then (if a1_1 = true then (spec_l4K_root.j0 k true a0_0 a0_1 a1_0 a1_1 false a1_3 a1_4) else (spec_l4K_root.j0 k (a1_3 != 0) a0_0 a0_1 a1_0 a1_1 false a1_3 a1_4)) else (spec_l4K_root.j0 k false a0_0 a0_1 a1_0 a1_1 false a1_3 a1_4)) = some r := by rw [if_neg (show ¬ (false = true) by decide)] at H; exact H
   clear H
   have H := H1
   clear H1
   by_cases c9 : a1_0 = true
   ·
    subst c9
    have H1 : (if a1_1 = true then (spec_l4K_root.j0 k true a0_0 a0_1 true a1_1 false a1_3 a1_4) else (spec_l4K_root.j0 k (a1_3 != 0) a0_0 a0_1 true a1_1 false a1_3 a1_4)) = some r := by rw [if_pos rfl] at H; exact H
    clear H
    have H := H1
    clear H1
    by_cases c10 : a1_1 = true
    ·
     subst c10
     have H1 : (spec_l4K_root.j0 k true a0_0 a0_1 true true false a1_3 a1_4) = some r := by rw [if_pos rfl] at H; exact H
     clear H
     have H := H1
     clear H1
     have H' := Aside0.mk H
     clear H
     have hnb11 := NB284_283.out
     have hnc11 := NB283_284.out
     have hcz12_0 : w5.cell? ⟨gb284, 0, none⟩ = some (.bool true) := (blk_cell BK284.out 0).trans rfl
     have hcz12_1 : w5.cell? ⟨gb284, 1, none⟩ = some (.bool true) := (blk_cell BK284.out 1).trans rfl
     have hcz12_2 : w5.cell? ⟨gb284, 2, none⟩ = some (.bool false) := (blk_cell BK284.out 2).trans rfl
     have hcz12_3 : w5.cell? ⟨gb284, 3, none⟩ = some (.int .u64 a1_3) := (blk_cell BK284.out 3).trans rfl
     have hcz12_4 : w5.cell? ⟨gb284, 4, none⟩ = some (.int .i64 a1_4) := (blk_cell BK284.out 4).trans rfl
     have hfz12_0 := blk_frozen BK284.out 0
     have hfz12_1 := blk_frozen BK284.out 1
     have hfz12_2 := blk_frozen BK284.out 2
     have hfz12_3 := blk_frozen BK284.out 3
     have hfz12_4 := blk_frozen BK284.out 4
     go_wp2
     go_meet
     case rel => exact ⟨_, (true), (by first | rfl | (simp; done) | (simp [*]; done)), H', ⟨by first | omega | exact Nat.le_refl _⟩, ⟨by (with_reducible repeat (first | refine blk_drewN ?_ _ | refine blk_drew ?_ | refine blk_alloc ?_ _)); exact BK283.out⟩, ⟨by (with_reducible repeat (first | refine blk_drewN ?_ _ | refine blk_drew ?_ | refine blk_alloc ?_ _)); exact BK284.out⟩, ⟨by repeat (first | (with_reducible first | exact HB.out | apply below_alloc | apply pw_below_drewN | apply below_drew1 | refine below_set ?_ GE283.out | refine below_set ?_ GE284.out) | exact HB.out)⟩⟩
    ·
     replace c10 := Bool.eq_false_iff.mpr c10
     subst c10
     have H1 : (spec_l4K_root.j0 k (a1_3 != 0) a0_0 a0_1 true false false a1_3 a1_4) = some r := by rw [if_neg (show ¬ (false = true) by decide)] at H; exact H
     clear H
     have H := H1
     clear H1
     have H' := Aside0.mk H
     clear H
     have hnb13 := NB284_283.out
     have hnc13 := NB283_284.out
     have hcz14_0 : w5.cell? ⟨gb284, 0, none⟩ = some (.bool true) := (blk_cell BK284.out 0).trans rfl
     have hcz14_1 : w5.cell? ⟨gb284, 1, none⟩ = some (.bool false) := (blk_cell BK284.out 1).trans rfl
     have hcz14_2 : w5.cell? ⟨gb284, 2, none⟩ = some (.bool false) := (blk_cell BK284.out 2).trans rfl
     have hcz14_3 : w5.cell? ⟨gb284, 3, none⟩ = some (.int .u64 a1_3) := (blk_cell BK284.out 3).trans rfl
     have hcz14_4 : w5.cell? ⟨gb284, 4, none⟩ = some (.int .i64 a1_4) := (blk_cell BK284.out 4).trans rfl
     have hfz14_0 := blk_frozen BK284.out 0
     have hfz14_1 := blk_frozen BK284.out 1
     have hfz14_2 := blk_frozen BK284.out 2
     have hfz14_3 := blk_frozen BK284.out 3
     have hfz14_4 := blk_frozen BK284.out 4
     go_wp2
     go_meet
     case rel => exact ⟨_, ((a1_3 != 0)), (by first | rfl | (simp; done) | (simp [*]; done)), H', ⟨by first | omega | exact Nat.le_refl _⟩, ⟨by (with_reducible repeat (first | refine blk_drewN ?_ _ | refine blk_drew ?_ | refine blk_alloc ?_ _)); exact BK283.out⟩, ⟨by (with_reducible repeat (first | refine blk_drewN ?_ _ | refine blk_drew ?_ | refine blk_alloc ?_ _)); exact BK284.out⟩, ⟨by repeat (first | (with_reducible first | exact HB.out | apply below_alloc | apply pw_below_drewN | apply below_drew1 | refine below_set ?_ GE283.out | refine below_set ?_ GE284.out) | exact HB.out)⟩⟩
   ·
    replace c9 := Bool.eq_false_iff.mpr c9
    subst c9
    have H1 : (spec_l4K_root.j0 k false a0_0 a0_1 false a1_1 false a1_3 a1_4) = some r := by rw [if_neg (show ¬ (false = true) by decide)] at H; exact H
    clear H
    have H := H1
    clear H1
    have H' := Aside0.mk H
    clear H
    have hnb15 := NB284_283.out
    have hnc15 := NB283_284.out
    have hcz16_0 : w5.cell? ⟨gb284, 0, none⟩ = some (.bool false) := (blk_cell BK284.out 0).trans rfl
    have hcz16_1 : w5.cell? ⟨gb284, 1, none⟩ = some (.bool a1_1) := (blk_cell BK284.out 1).trans rfl
    have hcz16_2 : w5.cell? ⟨gb284, 2, none⟩ = some (.bool false) := (blk_cell BK284.out 2).trans rfl
    have hcz16_3 : w5.cell? ⟨gb284, 3, none⟩ = some (.int .u64 a1_3) := (blk_cell BK284.out 3).trans rfl
    have hcz16_4 : w5.cell? ⟨gb284, 4, none⟩ = some (.int .i64 a1_4) := (blk_cell BK284.out 4).trans rfl
    have hfz16_0 := blk_frozen BK284.out 0
    have hfz16_1 := blk_frozen BK284.out 1
    have hfz16_2 := blk_frozen BK284.out 2
    have hfz16_3 := blk_frozen BK284.out 3
    have hfz16_4 := blk_frozen BK284.out 4
    go_wp2
    go_meet
    case rel => exact ⟨_, (false), (by first | rfl | (simp; done) | (simp [*]; done)), H', ⟨by first | omega | exact Nat.le_refl _⟩, ⟨by (with_reducible repeat (first | refine blk_drewN ?_ _ | refine blk_drew ?_ | refine blk_alloc ?_ _)); exact BK283.out⟩, ⟨by (with_reducible repeat (first | refine blk_drewN ?_ _ | refine blk_drew ?_ | refine blk_alloc ?_ _)); exact BK284.out⟩, ⟨by repeat (first | (with_reducible first | exact HB.out | apply below_alloc | apply pw_below_drewN | apply below_drew1 | refine below_set ?_ GE283.out | refine below_set ?_ GE284.out) | exact HB.out)⟩⟩
 case rest =>
  clear HC3
  try clear c1
  try clear p2
  try clear c6
  try clear c7
  try clear c9
  try clear c10
  try clear c11
  try clear c13
  try clear c15
  try clear hcz12_0 hcz12_1 hcz12_2 hcz12_3 hcz12_4
  try clear hcz14_0 hcz14_1 hcz14_2 hcz14_3 hcz14_4
  try clear hcz16_0 hcz16_1 hcz16_2 hcz16_3 hcz16_4
  try clear hcz8_0 hcz8_1 hcz8_2 hcz8_3 hcz8_4
  try clear hfz12_0 hfz12_1 hfz12_2 hfz12_3 hfz12_4
  try clear hfz14_0 hfz14_1 hfz14_2 hfz14_3 hfz14_4
  try clear hfz16_0 hfz16_1 hfz16_2 hfz16_3 hfz16_4
  try clear hfz8_0 hfz8_1 hfz8_2 hfz8_3 hfz8_4
  obtain ⟨kq, x8_2, rfl, HA, HJ2, BK283, BK284, HB⟩ := hcut
  cases kq with
  | zero => exact absurd HA.out (by simp [spec_l4K_root.j0])
  | succ kj2 =>
   have H := HA.out
   clear HA
   simp only [spec_l4K_root.j0] at H
   by_cases c17 : x8_2 = true
   ·
    subst c17
    have H1 : ((spec_l4K_nan.f a0_0 a0_1).bind fun t285 => (some t285)) = some r := by rw [if_pos rfl] at H; exact H
    clear H
    have H := H1
    clear H1
    replace H := Option.bind_eq_some_iff.mp H
    obtain ⟨t285, A180, H⟩ := H
    replace H : (some t285) = some r := H
    have A18 := Aside0.mk A180
    clear A180
    obtain rfl := Option.some.inj H
    simp only [Option.some.injEq, Prod.mk.injEq] at H
    obtain ⟨rfl⟩ := H
    have hnb19 := NB283_284.out
    have hnc19 := NB284_283.out
    have hcz20_0 : wc.cell? ⟨gb283, 0, none⟩ = some (.int .u64 a0_0) := (blk_cell BK283.out 0).trans rfl
    have hcz20_1 : wc.cell? ⟨gb283, 1, none⟩ = some (.int .u64 a0_1) := (blk_cell BK283.out 1).trans rfl
    have hfz20_0 := blk_frozen BK283.out 0
    have hfz20_1 := blk_frozen BK283.out 1
    go_wp2_with (first | ((with_reducible refine gate_callee (f := 48) rfl ?_); refine goesL_ (some 25) rfl rfl Try.func48 (by kernel_rfl) rfl #[.agg #[.int .u64 a0_0, .int .u64 a0_1]] rfl (by (try simp only [List.map_toArray, List.map_cons, List.map_nil]); first | done | rfl | (simp only [List.length_drop, List.length_take]; rfl)) ?_; (with_reducible refine (spec_l4K_nan.calls a0_0 a0_1 t285 _ A18.out).mono ?_); rintro e w21 ⟨rfl, hb⟩; refine ⟨_, rfl, ?_⟩; have n0_ := Aside0.mk (blk_below (g := gb283) (o := .cells #[.int .u64 a0_0, .int .u64 a0_1] 52 (0, 0)) (by (with_reducible repeat (first | refine blk_drewN ?_ _ | refine blk_drew ?_ | refine blk_alloc ?_ _)); exact BK283.out) hb); have n1_ := Aside0.mk (blk_below (g := gb284) (o := .cells #[.bool a1_0, .bool a1_1, .bool a1_2, .int .u64 a1_3, .int .i64 a1_4] 56 (0, 0)) (by (with_reducible repeat (first | refine blk_drewN ?_ _ | refine blk_drew ?_ | refine blk_alloc ?_ _)); exact BK284.out) hb); have n2_ := Aside0.mk (below_step (by repeat (first | (with_reducible first | exact HB.out | apply below_alloc | apply pw_below_drewN | apply below_drew1 | refine below_set ?_ GE283.out | refine below_set ?_ GE284.out) | exact HB.out)) hb); clear BK283; clear BK284; clear HB; have BK283 := n0_; have BK284 := n1_; have HB := n2_; clear n0_ n1_ n2_; (try clear hb); (try clear hb2); (try clear hk); (try clear hi)))
    go_ret
    exact ⟨by first | rfl | (simp [errW_none, errW_some] <;> rfl) | (simp [*, errW_none, errW_some] <;> rfl), by repeat (first | (with_reducible first | exact HB.out | apply below_alloc | apply pw_below_drewN | apply below_drew1 | refine below_set ?_ GE283.out | refine below_set ?_ GE284.out) | exact HB.out)⟩
   ·
    replace c17 := Bool.eq_false_iff.mpr c17
    subst c17
    have H1 : (if a1_1 = true then ((spec_l4K_inf.f a0_0 a0_1 false).bind fun t286 => (some t286)) else (if a1_3 = 0 then ((spec_l4K_sign.f a0_0 a0_1 a1_0).bind fun t287 => (some t287)) else ((spec_l4K_full.f kj2 a0_0 a0_1 a1_0 a1_1 a1_2 a1_3 a1_4).bind fun bt288 => ((spec_l4Len.f kj2 bt288.2.2.2.1).bind fun t293 => (if (Int.tmod (wrap64 (bt288.2.2.2.2 - (wrap64 (58 - t293)))) 2) = 0 then (if 0 ≤ (IntKind.u64.wrap (wrap64 (58 - t293))) then ((spec_l4Root.f kj2 (shl .u64 bt288.2.2.2.1 (IntKind.u64.wrap (wrap64 (58 - t293))))).bind fun t294 => ((spec_l4K_round.f kj2 a0_0 a0_1 false t294 (wrap64 (Int.tdiv (wrap64 (bt288.2.2.2.2 - (wrap64 (58 - t293)))) 2)) ((IntKind.u64.wrap (t294 * t294)) != (shl .u64 bt288.2.2.2.1 (IntKind.u64.wrap (wrap64 (58 - t293)))))).bind fun t295 => (some t295))) else (none)) else (if 0 ≤ (IntKind.u64.wrap (wrap64 ((wrap64 (58 - t293)) - 1))) then ((spec_l4Root.f kj2 (shl .u64 bt288.2.2.2.1 (IntKind.u64.wrap (wrap64 ((wrap64 (58 - t293)) - 1))))).bind fun t296 => ((spec_l4K_round.f kj2 a0_0 a0_1 false t296 (wrap64 (Int.tdiv (wrap64 (bt288.2.2.2.2 - (wrap64 ((wrap64 (58 - t293)) - 1)))) 2)) ((IntKind.u64.wrap (t296 * t296)) != (shl .u64 bt288.2.2.2.1 (IntKind.u64.wrap (wrap64 ((wrap64 (58 - t293)) - 1)))))).bind fun t297 => (some t297))) else (none))))))) = some r := by rw [if_neg (show ¬ (false = true) by decide)] at H; exact H
    clear H
    have H := H1
    clear H1
    by_cases c22 : a1_1 = true
    ·
     subst c22
     have H1 : ((spec_l4K_inf.f a0_0 a0_1 false).bind fun t286 => (some t286)) = some r := by rw [if_pos rfl] at H; exact H
     clear H
     have H := H1
     clear H1
     replace H := Option.bind_eq_some_iff.mp H
     obtain ⟨t286, A230, H⟩ := H
     replace H : (some t286) = some r := H
     have A23 := Aside0.mk A230
     clear A230
     obtain rfl := Option.some.inj H
     simp only [Option.some.injEq, Prod.mk.injEq] at H
     obtain ⟨rfl⟩ := H
     have hnb24 := NB284_283.out
     have hnc24 := NB283_284.out
     have hcz25_0 : wc.cell? ⟨gb284, 0, none⟩ = some (.bool a1_0) := (blk_cell BK284.out 0).trans rfl
     have hcz25_1 : wc.cell? ⟨gb284, 1, none⟩ = some (.bool true) := (blk_cell BK284.out 1).trans rfl
     have hcz25_2 : wc.cell? ⟨gb284, 2, none⟩ = some (.bool a1_2) := (blk_cell BK284.out 2).trans rfl
     have hcz25_3 : wc.cell? ⟨gb284, 3, none⟩ = some (.int .u64 a1_3) := (blk_cell BK284.out 3).trans rfl
     have hcz25_4 : wc.cell? ⟨gb284, 4, none⟩ = some (.int .i64 a1_4) := (blk_cell BK284.out 4).trans rfl
     have hfz25_0 := blk_frozen BK284.out 0
     have hfz25_1 := blk_frozen BK284.out 1
     have hfz25_2 := blk_frozen BK284.out 2
     have hfz25_3 := blk_frozen BK284.out 3
     have hfz25_4 := blk_frozen BK284.out 4
     have hcz26_0 : wc.cell? ⟨gb283, 0, none⟩ = some (.int .u64 a0_0) := (blk_cell BK283.out 0).trans rfl
     have hcz26_1 : wc.cell? ⟨gb283, 1, none⟩ = some (.int .u64 a0_1) := (blk_cell BK283.out 1).trans rfl
     have hfz26_0 := blk_frozen BK283.out 0
     have hfz26_1 := blk_frozen BK283.out 1
     go_wp2_with (first | ((with_reducible refine gate_callee (f := 49) rfl ?_); refine goesL_ (some 30) rfl rfl Try.func49 (by kernel_rfl) rfl #[.agg #[.int .u64 a0_0, .int .u64 a0_1], .bool false] rfl (by (try simp only [List.map_toArray, List.map_cons, List.map_nil]); first | done | rfl | (simp only [List.length_drop, List.length_take]; rfl)) ?_; (with_reducible refine (spec_l4K_inf.calls a0_0 a0_1 false t286 _ A23.out).mono ?_); rintro e w27 ⟨rfl, hb⟩; refine ⟨_, rfl, ?_⟩; have n0_ := Aside0.mk (blk_below (g := gb283) (o := .cells #[.int .u64 a0_0, .int .u64 a0_1] 52 (0, 0)) (by (with_reducible repeat (first | refine blk_drewN ?_ _ | refine blk_drew ?_ | refine blk_alloc ?_ _)); exact BK283.out) hb); have n1_ := Aside0.mk (blk_below (g := gb284) (o := .cells #[.bool a1_0, .bool true, .bool a1_2, .int .u64 a1_3, .int .i64 a1_4] 56 (0, 0)) (by (with_reducible repeat (first | refine blk_drewN ?_ _ | refine blk_drew ?_ | refine blk_alloc ?_ _)); exact BK284.out) hb); have n2_ := Aside0.mk (below_step (by repeat (first | (with_reducible first | exact HB.out | apply below_alloc | apply pw_below_drewN | apply below_drew1 | refine below_set ?_ GE283.out | refine below_set ?_ GE284.out) | exact HB.out)) hb); clear BK283; clear BK284; clear HB; have BK283 := n0_; have BK284 := n1_; have HB := n2_; clear n0_ n1_ n2_; (try clear hb); (try clear hb2); (try clear hk); (try clear hi)))
     go_ret
     exact ⟨by first | rfl | (simp [errW_none, errW_some] <;> rfl) | (simp [*, errW_none, errW_some] <;> rfl), by repeat (first | (with_reducible first | exact HB.out | apply below_alloc | apply pw_below_drewN | apply below_drew1 | refine below_set ?_ GE283.out | refine below_set ?_ GE284.out) | exact HB.out)⟩
    ·
     replace c22 := Bool.eq_false_iff.mpr c22
     subst c22
     have H1 : (if a1_3 = 0 then ((spec_l4K_sign.f a0_0 a0_1 a1_0).bind fun t287 => (some t287)) else ((spec_l4K_full.f kj2 a0_0 a0_1 a1_0 false a1_2 a1_3 a1_4).bind fun bt288 => ((spec_l4Len.f kj2 bt288.2.2.2.1).bind fun t293 => (if (Int.tmod (wrap64 (bt288.2.2.2.2 - (wrap64 (58 - t293)))) 2) = 0 then (if 0 ≤ (IntKind.u64.wrap (wrap64 (58 - t293))) then ((spec_l4Root.f kj2 (shl .u64 bt288.2.2.2.1 (IntKind.u64.wrap (wrap64 (58 - t293))))).bind fun t294 => ((spec_l4K_round.f kj2 a0_0 a0_1 false t294 (wrap64 (Int.tdiv (wrap64 (bt288.2.2.2.2 - (wrap64 (58 - t293)))) 2)) ((IntKind.u64.wrap (t294 * t294)) != (shl .u64 bt288.2.2.2.1 (IntKind.u64.wrap (wrap64 (58 - t293)))))).bind fun t295 => (some t295))) else (none)) else (if 0 ≤ (IntKind.u64.wrap (wrap64 ((wrap64 (58 - t293)) - 1))) then ((spec_l4Root.f kj2 (shl .u64 bt288.2.2.2.1 (IntKind.u64.wrap (wrap64 ((wrap64 (58 - t293)) - 1))))).bind fun t296 => ((spec_l4K_round.f kj2 a0_0 a0_1 false t296 (wrap64 (Int.tdiv (wrap64 (bt288.2.2.2.2 - (wrap64 ((wrap64 (58 - t293)) - 1)))) 2)) ((IntKind.u64.wrap (t296 * t296)) != (shl .u64 bt288.2.2.2.1 (IntKind.u64.wrap (wrap64 ((wrap64 (58 - t293)) - 1)))))).bind fun t297 => (some t297))) else (none)))))) = some r := by rw [if_neg (show ¬ (false = true) by decide)] at H; exact H
     clear H
     have H := H1
     clear H1
     by_cases c28 : a1_3 = 0
     ·
      rw [if_pos c28] at H
      have c28b0 : (a1_3 == 0) = true := beq_iff_eq.mpr c28
      have c28b1 : (a1_3 != 0) = false := bne_eq_false_iff_eq.mpr c28
      clear c28
      replace H := Option.bind_eq_some_iff.mp H
      obtain ⟨t287, A290, H⟩ := H
      replace H : (some t287) = some r := H
      have A29 := Aside0.mk A290
      clear A290
      obtain rfl := Option.some.inj H
      simp only [Option.some.injEq, Prod.mk.injEq] at H
      obtain ⟨rfl⟩ := H
      have hnb30 := NB284_283.out
      have hnc30 := NB283_284.out
      have hcz31_0 : wc.cell? ⟨gb284, 0, none⟩ = some (.bool a1_0) := (blk_cell BK284.out 0).trans rfl
      have hcz31_1 : wc.cell? ⟨gb284, 1, none⟩ = some (.bool false) := (blk_cell BK284.out 1).trans rfl
      have hcz31_2 : wc.cell? ⟨gb284, 2, none⟩ = some (.bool a1_2) := (blk_cell BK284.out 2).trans rfl
      have hcz31_3 : wc.cell? ⟨gb284, 3, none⟩ = some (.int .u64 a1_3) := (blk_cell BK284.out 3).trans rfl
      have hcz31_4 : wc.cell? ⟨gb284, 4, none⟩ = some (.int .i64 a1_4) := (blk_cell BK284.out 4).trans rfl
      have hfz31_0 := blk_frozen BK284.out 0
      have hfz31_1 := blk_frozen BK284.out 1
      have hfz31_2 := blk_frozen BK284.out 2
      have hfz31_3 := blk_frozen BK284.out 3
      have hfz31_4 := blk_frozen BK284.out 4
      have hcz32_0 : wc.cell? ⟨gb283, 0, none⟩ = some (.int .u64 a0_0) := (blk_cell BK283.out 0).trans rfl
      have hcz32_1 : wc.cell? ⟨gb283, 1, none⟩ = some (.int .u64 a0_1) := (blk_cell BK283.out 1).trans rfl
      have hfz32_0 := blk_frozen BK283.out 0
      have hfz32_1 := blk_frozen BK283.out 1
      go_wp2_with (first | ((with_reducible refine gate_callee (f := 83) rfl ?_); refine goesL_ (some 38) rfl rfl Try.func83 (by kernel_rfl) rfl #[.agg #[.int .u64 a0_0, .int .u64 a0_1], .bool a1_0] rfl (by (try simp only [List.map_toArray, List.map_cons, List.map_nil]); first | done | rfl | (simp only [List.length_drop, List.length_take]; rfl)) ?_; (with_reducible refine (spec_l4K_sign.calls a0_0 a0_1 a1_0 t287 _ A29.out).mono ?_); rintro e w33 ⟨rfl, hb⟩; refine ⟨_, rfl, ?_⟩; have n0_ := Aside0.mk (blk_below (g := gb283) (o := .cells #[.int .u64 a0_0, .int .u64 a0_1] 52 (0, 0)) (by (with_reducible repeat (first | refine blk_drewN ?_ _ | refine blk_drew ?_ | refine blk_alloc ?_ _)); exact BK283.out) hb); have n1_ := Aside0.mk (blk_below (g := gb284) (o := .cells #[.bool a1_0, .bool false, .bool a1_2, .int .u64 a1_3, .int .i64 a1_4] 56 (0, 0)) (by (with_reducible repeat (first | refine blk_drewN ?_ _ | refine blk_drew ?_ | refine blk_alloc ?_ _)); exact BK284.out) hb); have n2_ := Aside0.mk (below_step (by repeat (first | (with_reducible first | exact HB.out | apply below_alloc | apply pw_below_drewN | apply below_drew1 | refine below_set ?_ GE283.out | refine below_set ?_ GE284.out) | exact HB.out)) hb); clear BK283; clear BK284; clear HB; have BK283 := n0_; have BK284 := n1_; have HB := n2_; clear n0_ n1_ n2_; (try clear hb); (try clear hb2); (try clear hk); (try clear hi)))
      go_ret
      exact ⟨by first | rfl | (simp [errW_none, errW_some] <;> rfl) | (simp [*, errW_none, errW_some] <;> rfl), by repeat (first | (with_reducible first | exact HB.out | apply below_alloc | apply pw_below_drewN | apply below_drew1 | refine below_set ?_ GE283.out | refine below_set ?_ GE284.out) | exact HB.out)⟩
     ·
      rw [if_neg c28] at H
      have c28b0 : (a1_3 == 0) = false := beq_eq_false_iff_ne.mpr c28
      have c28b1 : (a1_3 != 0) = true := bne_iff_ne.mpr c28
      replace H := Option.bind_eq_some_iff.mp H
      obtain ⟨⟨t288, t289, t290, t291, t292⟩, A340, H⟩ := H
      replace H : ((spec_l4Len.f kj2 t291).bind fun t293 => (if (Int.tmod (wrap64 (t292 - (wrap64 (58 - t293)))) 2) = 0 then (if 0 ≤ (IntKind.u64.wrap (wrap64 (58 - t293))) then ((spec_l4Root.f kj2 (shl .u64 t291 (IntKind.u64.wrap (wrap64 (58 - t293))))).bind fun t294 => ((spec_l4K_round.f kj2 a0_0 a0_1 false t294 (wrap64 (Int.tdiv (wrap64 (t292 - (wrap64 (58 - t293)))) 2)) ((IntKind.u64.wrap (t294 * t294)) != (shl .u64 t291 (IntKind.u64.wrap (wrap64 (58 - t293)))))).bind fun t295 => (some t295))) else (none)) else (if 0 ≤ (IntKind.u64.wrap (wrap64 ((wrap64 (58 - t293)) - 1))) then ((spec_l4Root.f kj2 (shl .u64 t291 (IntKind.u64.wrap (wrap64 ((wrap64 (58 - t293)) - 1))))).bind fun t296 => ((spec_l4K_round.f kj2 a0_0 a0_1 false t296 (wrap64 (Int.tdiv (wrap64 (t292 - (wrap64 ((wrap64 (58 - t293)) - 1)))) 2)) ((IntKind.u64.wrap (t296 * t296)) != (shl .u64 t291 (IntKind.u64.wrap (wrap64 ((wrap64 (58 - t293)) - 1)))))).bind fun t297 => (some t297))) else (none)))) = some r := H
      have A34 := Aside0.mk A340
      clear A340
      replace H := Option.bind_eq_some_iff.mp H
      obtain ⟨t293, A350, H⟩ := H
      replace H : (if (Int.tmod (wrap64 (t292 - (wrap64 (58 - t293)))) 2) = 0 then (if 0 ≤ (IntKind.u64.wrap (wrap64 (58 - t293))) then ((spec_l4Root.f kj2 (shl .u64 t291 (IntKind.u64.wrap (wrap64 (58 - t293))))).bind fun t294 => ((spec_l4K_round.f kj2 a0_0 a0_1 false t294 (wrap64 (Int.tdiv (wrap64 (t292 - (wrap64 (58 - t293)))) 2)) ((IntKind.u64.wrap (t294 * t294)) != (shl .u64 t291 (IntKind.u64.wrap (wrap64 (58 - t293)))))).bind fun t295 => (some t295))) else (none)) else (if 0 ≤ (IntKind.u64.wrap (wrap64 ((wrap64 (58 - t293)) - 1))) then ((spec_l4Root.f kj2 (shl .u64 t291 (IntKind.u64.wrap (wrap64 ((wrap64 (58 - t293)) - 1))))).bind fun t296 => ((spec_l4K_round.f kj2 a0_0 a0_1 false t296 (wrap64 (Int.tdiv (wrap64 (t292 - (wrap64 ((wrap64 (58 - t293)) - 1)))) 2)) ((IntKind.u64.wrap (t296 * t296)) != (shl .u64 t291 (IntKind.u64.wrap (wrap64 ((wrap64 (58 - t293)) - 1)))))).bind fun t297 => (some t297))) else (none))) = some r := H
      have A35 := Aside0.mk A350
      clear A350
      by_cases c36 : (Int.tmod (wrap64 (t292 - (wrap64 (58 - t293)))) 2) = 0
      ·
       rw [if_pos c36] at H
       have c36b0 : ((Int.tmod (wrap64 (t292 - (wrap64 (58 - t293)))) 2) == 0) = true := beq_iff_eq.mpr c36
       have c36b1 : ((Int.tmod (wrap64 (t292 - (wrap64 (58 - t293)))) 2) != 0) = false := bne_eq_false_iff_eq.mpr c36
       clear c36
       obtain ⟨ji37, hji37⟩ : ∃ j_ : Int, (IntKind.u64.wrap (wrap64 (58 - t293))) = j_ := ⟨_, rfl⟩
       replace H : (if 0 ≤ (ji37) then ((spec_l4Root.f kj2 (shl .u64 t291 (ji37))).bind fun t294 => ((spec_l4K_round.f kj2 a0_0 a0_1 false t294 (wrap64 (Int.tdiv (wrap64 (t292 - (wrap64 (58 - t293)))) 2)) ((IntKind.u64.wrap (t294 * t294)) != (shl .u64 t291 (ji37)))).bind fun t295 => (some t295))) else (none)) = some r := by first | (rw [hji37] at H; exact H) | (simp only [hji37] at H ⊢; exact H)
       (try rw [hji37] at A34)
       (try rw [hji37] at A35)
       by_cases c38 : 0 ≤ (ji37)
       ·
        rw [if_pos c38] at H
        have c38b0 := eq_true c38
        have c38b1 : decide (0 ≤ (ji37)) = true := decide_eq_true c38
        clear c38
        obtain ⟨ji39, hji39⟩ : ∃ j_ : Int, (shl .u64 t291 (ji37)) = j_ := ⟨_, rfl⟩
        replace H : ((spec_l4Root.f kj2 (ji39)).bind fun t294 => ((spec_l4K_round.f kj2 a0_0 a0_1 false t294 (wrap64 (Int.tdiv (wrap64 (t292 - (wrap64 (58 - t293)))) 2)) ((IntKind.u64.wrap (t294 * t294)) != (ji39))).bind fun t295 => (some t295))) = some r := by first | (rw [hji39] at H; exact H) | (simp only [hji39] at H ⊢; exact H)
        (try rw [hji39] at A34)
        (try rw [hji39] at A35)
        have hji39_ : (IntKind.u64.wrap (t291 * 2 ^ min (ji37).toNat 64)) = ji39 := hji39
        have hji39z : (ji37) ≤ 64 → (IntKind.u64.wrap (t291 * 2 ^ (ji37).toNat)) = ji39 := shl_small hji39
        replace H := Option.bind_eq_some_iff.mp H
        obtain ⟨t294, A400, H⟩ := H
        replace H : ((spec_l4K_round.f kj2 a0_0 a0_1 false t294 (wrap64 (Int.tdiv (wrap64 (t292 - (wrap64 (58 - t293)))) 2)) ((IntKind.u64.wrap (t294 * t294)) != (ji39))).bind fun t295 => (some t295)) = some r := H
        have A40 := Aside0.mk A400
        clear A400
        replace H := Option.bind_eq_some_iff.mp H
        obtain ⟨t295, A410, H⟩ := H
        replace H : (some t295) = some r := H
        have A41 := Aside0.mk A410
        clear A410
        obtain rfl := Option.some.inj H
        simp only [Option.some.injEq, Prod.mk.injEq] at H
        obtain ⟨rfl⟩ := H
        have hnb42 := NB284_283.out
        have hnc42 := NB283_284.out
        have hcz43_0 : wc.cell? ⟨gb284, 0, none⟩ = some (.bool a1_0) := (blk_cell BK284.out 0).trans rfl
        have hcz43_1 : wc.cell? ⟨gb284, 1, none⟩ = some (.bool false) := (blk_cell BK284.out 1).trans rfl
        have hcz43_2 : wc.cell? ⟨gb284, 2, none⟩ = some (.bool a1_2) := (blk_cell BK284.out 2).trans rfl
        have hcz43_3 : wc.cell? ⟨gb284, 3, none⟩ = some (.int .u64 a1_3) := (blk_cell BK284.out 3).trans rfl
        have hcz43_4 : wc.cell? ⟨gb284, 4, none⟩ = some (.int .i64 a1_4) := (blk_cell BK284.out 4).trans rfl
        have hfz43_0 := blk_frozen BK284.out 0
        have hfz43_1 := blk_frozen BK284.out 1
        have hfz43_2 := blk_frozen BK284.out 2
        have hfz43_3 := blk_frozen BK284.out 3
        have hfz43_4 := blk_frozen BK284.out 4
        have hcz44_0 : wc.cell? ⟨gb283, 0, none⟩ = some (.int .u64 a0_0) := (blk_cell BK283.out 0).trans rfl
        have hcz44_1 : wc.cell? ⟨gb283, 1, none⟩ = some (.int .u64 a0_1) := (blk_cell BK283.out 1).trans rfl
        have hfz44_0 := blk_frozen BK283.out 0
        have hfz44_1 := blk_frozen BK283.out 1
        go_wp2_with (first | ((with_reducible refine gate_callee (f := 86) rfl ?_); refine goesL_ (some 41) rfl rfl Try.func86 (by kernel_rfl) rfl #[.agg #[.int .u64 a0_0, .int .u64 a0_1], .agg #[.bool a1_0, .bool false, .bool a1_2, .int .u64 a1_3, .int .i64 a1_4]] rfl (by (try simp only [List.map_toArray, List.map_cons, List.map_nil]); first | done | rfl | (simp only [List.length_drop, List.length_take]; rfl)) ?_; (with_reducible refine (spec_l4K_full.calls kj2 a0_0 a0_1 a1_0 false a1_2 a1_3 a1_4 t288 t289 t290 t291 t292 _ A34.out).mono ?_); rintro e w45 ⟨rfl, hb⟩; refine ⟨_, rfl, ?_⟩; have n0_ := Aside0.mk (blk_below (g := gb283) (o := .cells #[.int .u64 a0_0, .int .u64 a0_1] 52 (0, 0)) (by (with_reducible repeat (first | refine blk_drewN ?_ _ | refine blk_drew ?_ | refine blk_alloc ?_ _)); exact BK283.out) hb); have n1_ := Aside0.mk (blk_below (g := gb284) (o := .cells #[.bool a1_0, .bool false, .bool a1_2, .int .u64 a1_3, .int .i64 a1_4] 56 (0, 0)) (by (with_reducible repeat (first | refine blk_drewN ?_ _ | refine blk_drew ?_ | refine blk_alloc ?_ _)); exact BK284.out) hb); have n2_ := Aside0.mk (below_step (by repeat (first | (with_reducible first | exact HB.out | apply below_alloc | apply pw_below_drewN | apply below_drew1 | refine below_set ?_ GE283.out | refine below_set ?_ GE284.out) | exact HB.out)) hb); clear BK283; clear BK284; clear HB; have BK283 := n0_; have BK284 := n1_; have HB := n2_; clear n0_ n1_ n2_; (try clear hb); (try clear hb2); (try clear hk); (try clear hi); have hcz46_0 : w45.cell? ⟨gb284, 0, none⟩ = some (.bool a1_0) := (blk_cell BK284.out 0).trans rfl; have hcz46_1 : w45.cell? ⟨gb284, 1, none⟩ = some (.bool false) := (blk_cell BK284.out 1).trans rfl; have hcz46_2 : w45.cell? ⟨gb284, 2, none⟩ = some (.bool a1_2) := (blk_cell BK284.out 2).trans rfl; have hcz46_3 : w45.cell? ⟨gb284, 3, none⟩ = some (.int .u64 a1_3) := (blk_cell BK284.out 3).trans rfl; have hcz46_4 : w45.cell? ⟨gb284, 4, none⟩ = some (.int .i64 a1_4) := (blk_cell BK284.out 4).trans rfl; have hfz46_0 := blk_frozen BK284.out 0; have hfz46_1 := blk_frozen BK284.out 1; have hfz46_2 := blk_frozen BK284.out 2; have hfz46_3 := blk_frozen BK284.out 3; have hfz46_4 := blk_frozen BK284.out 4) | ((with_reducible refine gate_store (t := 56) (p := 3) rfl ?_); refine store_event (t := 56) (p := 3) (v := ?vo_w47) (w1 := (((((w45.setCell ⟨gb284, 0, none⟩ (.bool t288)).setCell ⟨gb284, 1, none⟩ (.bool t289)).setCell ⟨gb284, 2, none⟩ (.bool t290)).setCell ⟨gb284, 3, none⟩ (.int .u64 t291)).setCell ⟨gb284, 4, none⟩ (.int .i64 t292))) ?hg ?ho ?hn ?hr ?_; (case ho => rfl); (case hg => rfl); (case hn => rfl); (case hr => first | (go_simp; done) | (go_simp; rfl)); intro w47 hw; have n0_ : Aside0 (w47.heap[gb283]? = some (.cells #[.int .u64 a0_0, .int .u64 a0_1] 52 (0, 0))) := ⟨(by rw [hw]; exact (by (with_reducible repeat (first | refine blk_drewN ?_ _ | refine blk_drew ?_ | refine blk_alloc ?_ _)); refine blk_far ?_ NB283_284.out _; (with_reducible repeat (first | refine blk_drewN ?_ _ | refine blk_drew ?_ | refine blk_alloc ?_ _)); refine blk_far ?_ NB283_284.out _; (with_reducible repeat (first | refine blk_drewN ?_ _ | refine blk_drew ?_ | refine blk_alloc ?_ _)); refine blk_far ?_ NB283_284.out _; (with_reducible repeat (first | refine blk_drewN ?_ _ | refine blk_drew ?_ | refine blk_alloc ?_ _)); refine blk_far ?_ NB283_284.out _; (with_reducible repeat (first | refine blk_drewN ?_ _ | refine blk_drew ?_ | refine blk_alloc ?_ _)); refine blk_far ?_ NB283_284.out _; (with_reducible repeat (first | refine blk_drewN ?_ _ | refine blk_drew ?_ | refine blk_alloc ?_ _)); exact BK283.out))⟩; have n1_ : Aside0 (w47.heap[gb284]? = some (.cells #[.bool t288, .bool t289, .bool t290, .int .u64 t291, .int .i64 t292] 56 (0, 0))) := ⟨(by rw [hw]; exact (by (with_reducible repeat (first | refine blk_drewN ?_ _ | refine blk_drew ?_ | refine blk_alloc ?_ _)); refine blk_put (cs := #[.bool t288, .bool t289, .bool t290, .int .u64 t291, .int .i64 a1_4]) ?_ 4 _ rfl; (with_reducible repeat (first | refine blk_drewN ?_ _ | refine blk_drew ?_ | refine blk_alloc ?_ _)); refine blk_put (cs := #[.bool t288, .bool t289, .bool t290, .int .u64 a1_3, .int .i64 a1_4]) ?_ 3 _ rfl; (with_reducible repeat (first | refine blk_drewN ?_ _ | refine blk_drew ?_ | refine blk_alloc ?_ _)); refine blk_put (cs := #[.bool t288, .bool t289, .bool a1_2, .int .u64 a1_3, .int .i64 a1_4]) ?_ 2 _ rfl; (with_reducible repeat (first | refine blk_drewN ?_ _ | refine blk_drew ?_ | refine blk_alloc ?_ _)); refine blk_put (cs := #[.bool t288, .bool false, .bool a1_2, .int .u64 a1_3, .int .i64 a1_4]) ?_ 1 _ rfl; (with_reducible repeat (first | refine blk_drewN ?_ _ | refine blk_drew ?_ | refine blk_alloc ?_ _)); refine blk_put (cs := #[.bool a1_0, .bool false, .bool a1_2, .int .u64 a1_3, .int .i64 a1_4]) ?_ 0 _ rfl; (with_reducible repeat (first | refine blk_drewN ?_ _ | refine blk_drew ?_ | refine blk_alloc ?_ _)); exact BK284.out))⟩; have n2_ : Aside0 (Below w.heap.size w w47) := ⟨(by rw [hw]; exact (by repeat (first | (with_reducible first | exact HB.out | apply below_alloc | apply pw_below_drewN | apply below_drew1 | refine below_set ?_ GE283.out | refine below_set ?_ GE284.out) | exact HB.out)))⟩; clear hw; clear BK283; clear BK284; clear HB; have BK283 := n0_; have BK284 := n1_; have HB := n2_; clear n0_ n1_ n2_; have hcz48_0 : w47.cell? ⟨gb284, 0, none⟩ = some (.bool t288) := (blk_cell BK284.out 0).trans rfl; have hcz48_1 : w47.cell? ⟨gb284, 1, none⟩ = some (.bool t289) := (blk_cell BK284.out 1).trans rfl; have hcz48_2 : w47.cell? ⟨gb284, 2, none⟩ = some (.bool t290) := (blk_cell BK284.out 2).trans rfl; have hcz48_3 : w47.cell? ⟨gb284, 3, none⟩ = some (.int .u64 t291) := (blk_cell BK284.out 3).trans rfl; have hcz48_4 : w47.cell? ⟨gb284, 4, none⟩ = some (.int .i64 t292) := (blk_cell BK284.out 4).trans rfl; have hfz48_0 := blk_frozen BK284.out 0; have hfz48_1 := blk_frozen BK284.out 1; have hfz48_2 := blk_frozen BK284.out 2; have hfz48_3 := blk_frozen BK284.out 3; have hfz48_4 := blk_frozen BK284.out 4) | ((with_reducible refine gate_callee (f := 84) rfl ?_); refine goesL_ (some 44) rfl rfl Try.func84 (by kernel_rfl) rfl #[.int .u64 t291] rfl (by (try simp only [List.map_toArray, List.map_cons, List.map_nil]); first | done | rfl | (simp only [List.length_drop, List.length_take]; rfl)) ?_; (with_reducible refine (spec_l4Len.calls kj2 t291 t293 _ A35.out).mono ?_); rintro e w' ⟨rfl, ⟨nd, rfl⟩⟩; refine ⟨_, rfl, ?_⟩) | ((with_reducible refine gate_callee (f := 87) rfl ?_); refine goesL_ (some 60) rfl rfl Try.func87 (by kernel_rfl) rfl #[.int .u64 ji39] rfl (by (try simp only [List.map_toArray, List.map_cons, List.map_nil]); first | done | (simp only [hji39]; rfl) | rfl | (simp only [List.length_drop, List.length_take]; rfl)) ?_; (with_reducible refine (spec_l4Root.calls kj2 ji39 t294 _ A40.out).mono ?_); rintro e w' ⟨rfl, ⟨nd, rfl⟩⟩; refine ⟨_, rfl, ?_⟩; have hcz49_0 : w47.cell? ⟨gb283, 0, none⟩ = some (.int .u64 a0_0) := (blk_cell BK283.out 0).trans rfl; have hcz49_1 : w47.cell? ⟨gb283, 1, none⟩ = some (.int .u64 a0_1) := (blk_cell BK283.out 1).trans rfl; have hfz49_0 := blk_frozen BK283.out 0; have hfz49_1 := blk_frozen BK283.out 1) | ((with_reducible refine gate_callee (f := 50) rfl ?_); refine goesL_ (some 73) rfl rfl Try.func50 (by kernel_rfl) rfl #[.agg #[.int .u64 a0_0, .int .u64 a0_1], .bool false, .int .u64 t294, .int .i64 (wrap64 (Int.tdiv (wrap64 (t292 - (wrap64 (58 - t293)))) 2)), .bool ((IntKind.u64.wrap (t294 * t294)) != (ji39))] rfl (by (try simp only [List.map_toArray, List.map_cons, List.map_nil]); first | done | (simp only [hji39]; rfl) | rfl | (simp only [List.length_drop, List.length_take]; rfl)) ?_; (with_reducible refine (spec_l4K_round.calls kj2 a0_0 a0_1 false t294 (wrap64 (Int.tdiv (wrap64 (t292 - (wrap64 (58 - t293)))) 2)) ((IntKind.u64.wrap (t294 * t294)) != (ji39)) t295 _ A41.out).mono ?_); rintro e w50 ⟨rfl, hb⟩; refine ⟨_, rfl, ?_⟩; have n0_ := Aside0.mk (blk_below (g := gb283) (o := .cells #[.int .u64 a0_0, .int .u64 a0_1] 52 (0, 0)) (by (with_reducible repeat (first | refine blk_drewN ?_ _ | refine blk_drew ?_ | refine blk_alloc ?_ _)); exact BK283.out) hb); have n1_ := Aside0.mk (blk_below (g := gb284) (o := .cells #[.bool t288, .bool t289, .bool t290, .int .u64 t291, .int .i64 t292] 56 (0, 0)) (by (with_reducible repeat (first | refine blk_drewN ?_ _ | refine blk_drew ?_ | refine blk_alloc ?_ _)); exact BK284.out) hb); have n2_ := Aside0.mk (below_step (by repeat (first | (with_reducible first | exact HB.out | apply below_alloc | apply pw_below_drewN | apply below_drew1 | refine below_set ?_ GE283.out | refine below_set ?_ GE284.out) | exact HB.out)) hb); clear BK283; clear BK284; clear HB; have BK283 := n0_; have BK284 := n1_; have HB := n2_; clear n0_ n1_ n2_; (try clear hb); (try clear hb2); (try clear hk); (try clear hi)))
        go_ret
        exact ⟨by first | rfl | (simp [errW_none, errW_some] <;> rfl) | (simp only [← hji37, ← hji39]; first | rfl | (simp [errW_none, errW_some] <;> rfl)) | (simp [*, errW_none, errW_some] <;> rfl), by repeat (first | (with_reducible first | exact HB.out | apply below_alloc | apply pw_below_drewN | apply below_drew1 | refine below_set ?_ GE283.out | refine below_set ?_ GE284.out) | exact HB.out)⟩
       ·
        rw [if_neg c38] at H
        exact absurd H (by simp)
      ·
       rw [if_neg c36] at H
       have c36b0 : ((Int.tmod (wrap64 (t292 - (wrap64 (58 - t293)))) 2) == 0) = false := beq_eq_false_iff_ne.mpr c36
       have c36b1 : ((Int.tmod (wrap64 (t292 - (wrap64 (58 - t293)))) 2) != 0) = true := bne_iff_ne.mpr c36
       obtain ⟨ji51, hji51⟩ : ∃ j_ : Int, (IntKind.u64.wrap (wrap64 ((wrap64 (58 - t293)) - 1))) = j_ := ⟨_, rfl⟩
       replace H : (if 0 ≤ (ji51) then ((spec_l4Root.f kj2 (shl .u64 t291 (ji51))).bind fun t296 => ((spec_l4K_round.f kj2 a0_0 a0_1 false t296 (wrap64 (Int.tdiv (wrap64 (t292 - (wrap64 ((wrap64 (58 - t293)) - 1)))) 2)) ((IntKind.u64.wrap (t296 * t296)) != (shl .u64 t291 (ji51)))).bind fun t297 => (some t297))) else (none)) = some r := by first | (rw [hji51] at H; exact H) | (simp only [hji51] at H ⊢; exact H)
       (try rw [hji51] at A34)
       (try rw [hji51] at A35)
       by_cases c52 : 0 ≤ (ji51)
       ·
        rw [if_pos c52] at H
        have c52b0 := eq_true c52
        have c52b1 : decide (0 ≤ (ji51)) = true := decide_eq_true c52
        clear c52
        obtain ⟨ji53, hji53⟩ : ∃ j_ : Int, (shl .u64 t291 (ji51)) = j_ := ⟨_, rfl⟩
        replace H : ((spec_l4Root.f kj2 (ji53)).bind fun t296 => ((spec_l4K_round.f kj2 a0_0 a0_1 false t296 (wrap64 (Int.tdiv (wrap64 (t292 - (wrap64 ((wrap64 (58 - t293)) - 1)))) 2)) ((IntKind.u64.wrap (t296 * t296)) != (ji53))).bind fun t297 => (some t297))) = some r := by first | (rw [hji53] at H; exact H) | (simp only [hji53] at H ⊢; exact H)
        (try rw [hji53] at A34)
        (try rw [hji53] at A35)
        have hji53_ : (IntKind.u64.wrap (t291 * 2 ^ min (ji51).toNat 64)) = ji53 := hji53
        have hji53z : (ji51) ≤ 64 → (IntKind.u64.wrap (t291 * 2 ^ (ji51).toNat)) = ji53 := shl_small hji53
        replace H := Option.bind_eq_some_iff.mp H
        obtain ⟨t296, A540, H⟩ := H
        replace H : ((spec_l4K_round.f kj2 a0_0 a0_1 false t296 (wrap64 (Int.tdiv (wrap64 (t292 - (wrap64 ((wrap64 (58 - t293)) - 1)))) 2)) ((IntKind.u64.wrap (t296 * t296)) != (ji53))).bind fun t297 => (some t297)) = some r := H
        have A54 := Aside0.mk A540
        clear A540
        replace H := Option.bind_eq_some_iff.mp H
        obtain ⟨t297, A550, H⟩ := H
        replace H : (some t297) = some r := H
        have A55 := Aside0.mk A550
        clear A550
        obtain rfl := Option.some.inj H
        simp only [Option.some.injEq, Prod.mk.injEq] at H
        obtain ⟨rfl⟩ := H
        have hnb56 := NB284_283.out
        have hnc56 := NB283_284.out
        have hcz57_0 : wc.cell? ⟨gb284, 0, none⟩ = some (.bool a1_0) := (blk_cell BK284.out 0).trans rfl
        have hcz57_1 : wc.cell? ⟨gb284, 1, none⟩ = some (.bool false) := (blk_cell BK284.out 1).trans rfl
        have hcz57_2 : wc.cell? ⟨gb284, 2, none⟩ = some (.bool a1_2) := (blk_cell BK284.out 2).trans rfl
        have hcz57_3 : wc.cell? ⟨gb284, 3, none⟩ = some (.int .u64 a1_3) := (blk_cell BK284.out 3).trans rfl
        have hcz57_4 : wc.cell? ⟨gb284, 4, none⟩ = some (.int .i64 a1_4) := (blk_cell BK284.out 4).trans rfl
        have hfz57_0 := blk_frozen BK284.out 0
        have hfz57_1 := blk_frozen BK284.out 1
        have hfz57_2 := blk_frozen BK284.out 2
        have hfz57_3 := blk_frozen BK284.out 3
        have hfz57_4 := blk_frozen BK284.out 4
        have hcz58_0 : wc.cell? ⟨gb283, 0, none⟩ = some (.int .u64 a0_0) := (blk_cell BK283.out 0).trans rfl
        have hcz58_1 : wc.cell? ⟨gb283, 1, none⟩ = some (.int .u64 a0_1) := (blk_cell BK283.out 1).trans rfl
        have hfz58_0 := blk_frozen BK283.out 0
        have hfz58_1 := blk_frozen BK283.out 1
        go_wp2_with (first | ((with_reducible refine gate_callee (f := 86) rfl ?_); refine goesL_ (some 41) rfl rfl Try.func86 (by kernel_rfl) rfl #[.agg #[.int .u64 a0_0, .int .u64 a0_1], .agg #[.bool a1_0, .bool false, .bool a1_2, .int .u64 a1_3, .int .i64 a1_4]] rfl (by (try simp only [List.map_toArray, List.map_cons, List.map_nil]); first | done | rfl | (simp only [List.length_drop, List.length_take]; rfl)) ?_; (with_reducible refine (spec_l4K_full.calls kj2 a0_0 a0_1 a1_0 false a1_2 a1_3 a1_4 t288 t289 t290 t291 t292 _ A34.out).mono ?_); rintro e w59 ⟨rfl, hb⟩; refine ⟨_, rfl, ?_⟩; have n0_ := Aside0.mk (blk_below (g := gb283) (o := .cells #[.int .u64 a0_0, .int .u64 a0_1] 52 (0, 0)) (by (with_reducible repeat (first | refine blk_drewN ?_ _ | refine blk_drew ?_ | refine blk_alloc ?_ _)); exact BK283.out) hb); have n1_ := Aside0.mk (blk_below (g := gb284) (o := .cells #[.bool a1_0, .bool false, .bool a1_2, .int .u64 a1_3, .int .i64 a1_4] 56 (0, 0)) (by (with_reducible repeat (first | refine blk_drewN ?_ _ | refine blk_drew ?_ | refine blk_alloc ?_ _)); exact BK284.out) hb); have n2_ := Aside0.mk (below_step (by repeat (first | (with_reducible first | exact HB.out | apply below_alloc | apply pw_below_drewN | apply below_drew1 | refine below_set ?_ GE283.out | refine below_set ?_ GE284.out) | exact HB.out)) hb); clear BK283; clear BK284; clear HB; have BK283 := n0_; have BK284 := n1_; have HB := n2_; clear n0_ n1_ n2_; (try clear hb); (try clear hb2); (try clear hk); (try clear hi); have hcz60_0 : w59.cell? ⟨gb284, 0, none⟩ = some (.bool a1_0) := (blk_cell BK284.out 0).trans rfl; have hcz60_1 : w59.cell? ⟨gb284, 1, none⟩ = some (.bool false) := (blk_cell BK284.out 1).trans rfl; have hcz60_2 : w59.cell? ⟨gb284, 2, none⟩ = some (.bool a1_2) := (blk_cell BK284.out 2).trans rfl; have hcz60_3 : w59.cell? ⟨gb284, 3, none⟩ = some (.int .u64 a1_3) := (blk_cell BK284.out 3).trans rfl; have hcz60_4 : w59.cell? ⟨gb284, 4, none⟩ = some (.int .i64 a1_4) := (blk_cell BK284.out 4).trans rfl; have hfz60_0 := blk_frozen BK284.out 0; have hfz60_1 := blk_frozen BK284.out 1; have hfz60_2 := blk_frozen BK284.out 2; have hfz60_3 := blk_frozen BK284.out 3; have hfz60_4 := blk_frozen BK284.out 4) | ((with_reducible refine gate_store (t := 56) (p := 3) rfl ?_); refine store_event (t := 56) (p := 3) (v := ?vo_w61) (w1 := (((((w59.setCell ⟨gb284, 0, none⟩ (.bool t288)).setCell ⟨gb284, 1, none⟩ (.bool t289)).setCell ⟨gb284, 2, none⟩ (.bool t290)).setCell ⟨gb284, 3, none⟩ (.int .u64 t291)).setCell ⟨gb284, 4, none⟩ (.int .i64 t292))) ?hg ?ho ?hn ?hr ?_; (case ho => rfl); (case hg => rfl); (case hn => rfl); (case hr => first | (go_simp; done) | (go_simp; rfl)); intro w61 hw; have n0_ : Aside0 (w61.heap[gb283]? = some (.cells #[.int .u64 a0_0, .int .u64 a0_1] 52 (0, 0))) := ⟨(by rw [hw]; exact (by (with_reducible repeat (first | refine blk_drewN ?_ _ | refine blk_drew ?_ | refine blk_alloc ?_ _)); refine blk_far ?_ NB283_284.out _; (with_reducible repeat (first | refine blk_drewN ?_ _ | refine blk_drew ?_ | refine blk_alloc ?_ _)); refine blk_far ?_ NB283_284.out _; (with_reducible repeat (first | refine blk_drewN ?_ _ | refine blk_drew ?_ | refine blk_alloc ?_ _)); refine blk_far ?_ NB283_284.out _; (with_reducible repeat (first | refine blk_drewN ?_ _ | refine blk_drew ?_ | refine blk_alloc ?_ _)); refine blk_far ?_ NB283_284.out _; (with_reducible repeat (first | refine blk_drewN ?_ _ | refine blk_drew ?_ | refine blk_alloc ?_ _)); refine blk_far ?_ NB283_284.out _; (with_reducible repeat (first | refine blk_drewN ?_ _ | refine blk_drew ?_ | refine blk_alloc ?_ _)); exact BK283.out))⟩; have n1_ : Aside0 (w61.heap[gb284]? = some (.cells #[.bool t288, .bool t289, .bool t290, .int .u64 t291, .int .i64 t292] 56 (0, 0))) := ⟨(by rw [hw]; exact (by (with_reducible repeat (first | refine blk_drewN ?_ _ | refine blk_drew ?_ | refine blk_alloc ?_ _)); refine blk_put (cs := #[.bool t288, .bool t289, .bool t290, .int .u64 t291, .int .i64 a1_4]) ?_ 4 _ rfl; (with_reducible repeat (first | refine blk_drewN ?_ _ | refine blk_drew ?_ | refine blk_alloc ?_ _)); refine blk_put (cs := #[.bool t288, .bool t289, .bool t290, .int .u64 a1_3, .int .i64 a1_4]) ?_ 3 _ rfl; (with_reducible repeat (first | refine blk_drewN ?_ _ | refine blk_drew ?_ | refine blk_alloc ?_ _)); refine blk_put (cs := #[.bool t288, .bool t289, .bool a1_2, .int .u64 a1_3, .int .i64 a1_4]) ?_ 2 _ rfl; (with_reducible repeat (first | refine blk_drewN ?_ _ | refine blk_drew ?_ | refine blk_alloc ?_ _)); refine blk_put (cs := #[.bool t288, .bool false, .bool a1_2, .int .u64 a1_3, .int .i64 a1_4]) ?_ 1 _ rfl; (with_reducible repeat (first | refine blk_drewN ?_ _ | refine blk_drew ?_ | refine blk_alloc ?_ _)); refine blk_put (cs := #[.bool a1_0, .bool false, .bool a1_2, .int .u64 a1_3, .int .i64 a1_4]) ?_ 0 _ rfl; (with_reducible repeat (first | refine blk_drewN ?_ _ | refine blk_drew ?_ | refine blk_alloc ?_ _)); exact BK284.out))⟩; have n2_ : Aside0 (Below w.heap.size w w61) := ⟨(by rw [hw]; exact (by repeat (first | (with_reducible first | exact HB.out | apply below_alloc | apply pw_below_drewN | apply below_drew1 | refine below_set ?_ GE283.out | refine below_set ?_ GE284.out) | exact HB.out)))⟩; clear hw; clear BK283; clear BK284; clear HB; have BK283 := n0_; have BK284 := n1_; have HB := n2_; clear n0_ n1_ n2_; have hcz62_0 : w61.cell? ⟨gb284, 0, none⟩ = some (.bool t288) := (blk_cell BK284.out 0).trans rfl; have hcz62_1 : w61.cell? ⟨gb284, 1, none⟩ = some (.bool t289) := (blk_cell BK284.out 1).trans rfl; have hcz62_2 : w61.cell? ⟨gb284, 2, none⟩ = some (.bool t290) := (blk_cell BK284.out 2).trans rfl; have hcz62_3 : w61.cell? ⟨gb284, 3, none⟩ = some (.int .u64 t291) := (blk_cell BK284.out 3).trans rfl; have hcz62_4 : w61.cell? ⟨gb284, 4, none⟩ = some (.int .i64 t292) := (blk_cell BK284.out 4).trans rfl; have hfz62_0 := blk_frozen BK284.out 0; have hfz62_1 := blk_frozen BK284.out 1; have hfz62_2 := blk_frozen BK284.out 2; have hfz62_3 := blk_frozen BK284.out 3; have hfz62_4 := blk_frozen BK284.out 4) | ((with_reducible refine gate_callee (f := 84) rfl ?_); refine goesL_ (some 44) rfl rfl Try.func84 (by kernel_rfl) rfl #[.int .u64 t291] rfl (by (try simp only [List.map_toArray, List.map_cons, List.map_nil]); first | done | rfl | (simp only [List.length_drop, List.length_take]; rfl)) ?_; (with_reducible refine (spec_l4Len.calls kj2 t291 t293 _ A35.out).mono ?_); rintro e w' ⟨rfl, ⟨nd, rfl⟩⟩; refine ⟨_, rfl, ?_⟩) | ((with_reducible refine gate_callee (f := 87) rfl ?_); refine goesL_ (some 60) rfl rfl Try.func87 (by kernel_rfl) rfl #[.int .u64 ji53] rfl (by (try simp only [List.map_toArray, List.map_cons, List.map_nil]); first | done | (simp only [hji53]; rfl) | rfl | (simp only [List.length_drop, List.length_take]; rfl)) ?_; (with_reducible refine (spec_l4Root.calls kj2 ji53 t296 _ A54.out).mono ?_); rintro e w' ⟨rfl, ⟨nd, rfl⟩⟩; refine ⟨_, rfl, ?_⟩; have hcz63_0 : w61.cell? ⟨gb283, 0, none⟩ = some (.int .u64 a0_0) := (blk_cell BK283.out 0).trans rfl; have hcz63_1 : w61.cell? ⟨gb283, 1, none⟩ = some (.int .u64 a0_1) := (blk_cell BK283.out 1).trans rfl; have hfz63_0 := blk_frozen BK283.out 0; have hfz63_1 := blk_frozen BK283.out 1) | ((with_reducible refine gate_callee (f := 50) rfl ?_); refine goesL_ (some 73) rfl rfl Try.func50 (by kernel_rfl) rfl #[.agg #[.int .u64 a0_0, .int .u64 a0_1], .bool false, .int .u64 t296, .int .i64 (wrap64 (Int.tdiv (wrap64 (t292 - (wrap64 ((wrap64 (58 - t293)) - 1)))) 2)), .bool ((IntKind.u64.wrap (t296 * t296)) != (ji53))] rfl (by (try simp only [List.map_toArray, List.map_cons, List.map_nil]); first | done | (simp only [hji53]; rfl) | rfl | (simp only [List.length_drop, List.length_take]; rfl)) ?_; (with_reducible refine (spec_l4K_round.calls kj2 a0_0 a0_1 false t296 (wrap64 (Int.tdiv (wrap64 (t292 - (wrap64 ((wrap64 (58 - t293)) - 1)))) 2)) ((IntKind.u64.wrap (t296 * t296)) != (ji53)) t297 _ A55.out).mono ?_); rintro e w64 ⟨rfl, hb⟩; refine ⟨_, rfl, ?_⟩; have n0_ := Aside0.mk (blk_below (g := gb283) (o := .cells #[.int .u64 a0_0, .int .u64 a0_1] 52 (0, 0)) (by (with_reducible repeat (first | refine blk_drewN ?_ _ | refine blk_drew ?_ | refine blk_alloc ?_ _)); exact BK283.out) hb); have n1_ := Aside0.mk (blk_below (g := gb284) (o := .cells #[.bool t288, .bool t289, .bool t290, .int .u64 t291, .int .i64 t292] 56 (0, 0)) (by (with_reducible repeat (first | refine blk_drewN ?_ _ | refine blk_drew ?_ | refine blk_alloc ?_ _)); exact BK284.out) hb); have n2_ := Aside0.mk (below_step (by repeat (first | (with_reducible first | exact HB.out | apply below_alloc | apply pw_below_drewN | apply below_drew1 | refine below_set ?_ GE283.out | refine below_set ?_ GE284.out) | exact HB.out)) hb); clear BK283; clear BK284; clear HB; have BK283 := n0_; have BK284 := n1_; have HB := n2_; clear n0_ n1_ n2_; (try clear hb); (try clear hb2); (try clear hk); (try clear hi)))
        go_ret
        exact ⟨by first | rfl | (simp [errW_none, errW_some] <;> rfl) | (simp only [← hji51, ← hji53]; first | rfl | (simp [errW_none, errW_some] <;> rfl)) | (simp [*, errW_none, errW_some] <;> rfl), by repeat (first | (with_reducible first | exact HB.out | apply below_alloc | apply pw_below_drewN | apply below_drew1 | refine below_set ?_ GE283.out | refine below_set ?_ GE284.out) | exact HB.out)⟩
       ·
        rw [if_neg c52] at H
        exact absurd H (by simp)

end Go.Proofs.Ytdeogandkgiggaa.Q
