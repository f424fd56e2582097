-- Written by a program of this session; it walks the functions that the law reaches.
import Derived.Test.YtdeogandkgiggaaQx0
namespace Go.Proofs.Ytdeogandkgiggaa.Q
open Go.RowKit Go.Proofs.YtdeogandkgiggaaW.PrintWords Go.Proofs.YtdeogandkgiggaaW.PrintLast Go.Proofs.YtdeogandkgiggaaW.PrintMore
attribute [local go_sem] max2_int min2_int max_two min_two max_three min_three max_four min_four   -- for this text's walks alone
set_option linter.unusedVariables false
set_option linter.unusedSimpArgs false

/-! ### spec_l4K_full: function 86 -/
def spec_l4K_full.l0 : Nat → Int → Int → Bool → Bool → Bool → Int → Int → Option (Bool × Bool × Bool × Int × Int)
 | 0, _, _, _, _, _, _, _ => none
 | k + 1, x226000, x226001, x227000, x227001, x227002, x227003, x227004 => if x227003 = 0 then (some (x227000, x227001, x227002, x227003, x227004)) else (if 0 ≤ x226001 then (if x227003 < (shl .u64 1 x226001) then (spec_l4K_full.l0 k x226000 x226001 x227000 x227001 x227002 (IntKind.u64.wrap (x227003 * 2)) (wrap64 (x227004 - 1))) else (some (x227000, x227001, x227002, x227003, x227004))) else (none))
def spec_l4K_full.f (k : Nat) (a0_0 : Int) (a0_1 : Int) (a1_0 : Bool) (a1_1 : Bool) (a1_2 : Bool) (a1_3 : Int) (a1_4 : Int) : Option (Bool × Bool × Bool × Int × Int) := spec_l4K_full.l0 k a0_0 a0_1 a1_0 a1_1 a1_2 a1_3 a1_4
theorem spec_l4K_full.mono_l : ∀ k, (∀ y0 y1 y2 y3 y4 y5 y6, LeO (spec_l4K_full.l0 k y0 y1 y2 y3 y4 y5 y6) (spec_l4K_full.l0 (k + 1) y0 y1 y2 y3 y4 y5 y6))
 | 0 => fun _ _ _ _ _ _ _ r h => by simp [spec_l4K_full.l0] at h
 | k + 1 => by
  have ih0 := spec_l4K_full.mono_l k
  ·
   intro y0 y1 y2 y3 y4 y5 y6
   unfold spec_l4K_full.l0
   repeat' first
   | (with_reducible exact ih0 _ _ _ _ _ _ _)
   | (with_reducible exact LeO.refl _)
   | (with_reducible exact LeO.none _)
   | (with_reducible refine LeO.ite ?_ ?_)
   | (with_reducible refine LeO.bind ?_ (fun _ => ?_))
   | exact ih0 _ _ _ _ _ _ _
   | exact LeO.none _
   | refine LeO.ite ?_ ?_
   | refine LeO.bind ?_ (fun _ => ?_)
theorem spec_l4K_full.mono : ∀ a0 a1 a2 a3 a4 a5 a6 k, LeO (spec_l4K_full.f k a0 a1 a2 a3 a4 a5 a6) (spec_l4K_full.f (k + 1) a0 a1 a2 a3 a4 a5 a6) := by
 intro a0 a1 a2 a3 a4 a5 a6 k
 have ih0 := spec_l4K_full.mono_l k
 unfold spec_l4K_full.f
 repeat' first
   | (with_reducible exact ih0 _ _ _ _ _ _ _)
   | (with_reducible exact LeO.refl _)
   | (with_reducible exact LeO.none _)
   | (with_reducible refine LeO.ite ?_ ?_)
   | (with_reducible refine LeO.bind ?_ (fun _ => ?_))
   | exact ih0 _ _ _ _ _ _ _
   | exact LeO.none _
   | refine LeO.ite ?_ ?_
   | refine LeO.bind ?_ (fun _ => ?_)
set_option maxHeartbeats 8000000 in
set_option maxRecDepth 100000 in
theorem spec_l4K_full.calls (k : Nat) (a0_0 : Int) (a0_1 : Int) (a1_0 : Bool) (a1_1 : Bool) (a1_2 : Bool) (a1_3 : Int) (a1_4 : Int) (r1 : Bool) (r2 : Bool) (r3 : Bool) (r4 : Int) (r5 : Int) (w : World) (h : spec_l4K_full.f k a0_0 a0_1 a1_0 a1_1 a1_2 a1_3 a1_4 = some (r1, r2, r3, r4, r5)) :
  Calls Try.prog 86 #[.agg #[.int .u64 a0_0, .int .u64 a0_1], .agg #[.bool a1_0, .bool a1_1, .bool a1_2, .int .u64 a1_3, .int .i64 a1_4]] w fun e w' => e = .returned (.agg #[.bool r1, .bool r2, .bool r3, .int .u64 r4, .int .i64 r5]) ∧ Below w.heap.size w w' := by
 have hu52 := Try.underlying52
 have hu56 := Try.underlying56
 have HB := Aside0.mk (Below.refl w.heap.size w)
 have H : (spec_l4K_full.l0 k a0_0 a0_1 a1_0 a1_1 a1_2 a1_3 a1_4) = some (r1, r2, r3, r4, r5) := h
 clear h
 have H' := Aside0.mk H
 clear H
 go_enter Try.func86, Try.ntmps86
 go_wp2_with (first | ((with_reducible refine gate_dst (N := 2) rfl ?_); refine box_event ?hg (N := 2) ?hd (cs := #[.int .u64 a0_0, .int .u64 a0_1]) (t := 52) ?hr ?_; (case hd => rfl); (case hg => rfl); (case hr => first | (go_simp; done) | (go_simp; rfl)); intro gb225 hg w3 hbox hb; have n0_ := Aside0.mk (below_step (by repeat (first | (with_reducible first | exact HB.out | apply below_alloc | apply pw_below_drewN | apply below_drew1) | exact HB.out)) hb); have n1_ := Aside0.mk (hbox); have n2_ := Aside0.mk ((by rw [hg]; exact (below_size (by repeat (first | (with_reducible first | exact HB.out | apply below_alloc | apply pw_below_drewN | apply below_drew1) | exact HB.out))) : w.heap.size ≤ gb225)); have n3_ := Aside0.mk ((by rw [hg]; exact (below_size (by repeat (first | (with_reducible first | exact HB.out | apply below_alloc | apply pw_below_drewN | apply below_drew1) | exact HB.out))) : w.heap.size ≤ gb225)); clear HB; have HB := n0_; have BK225 := n1_; have GW225 := n2_; have GE225 := n3_; clear n0_ n1_ n2_ n3_; clear hb hbox hg) | ((with_reducible refine gate_dst (N := 3) rfl ?_); refine box_event ?hg (N := 3) ?hd (cs := #[.bool a1_0, .bool a1_1, .bool a1_2, .int .u64 a1_3, .int .i64 a1_4]) (t := 56) ?hr ?_; (case hd => rfl); (case hg => rfl); (case hr => first | (go_simp; done) | (go_simp; rfl)); intro gb226 hg w4 hbox hb; have n0_ := Aside0.mk (blk_below (g := gb225) (o := .cells #[.int .u64 a0_0, .int .u64 a0_1] 52 (0, 0)) (by (with_reducible repeat (first | refine blk_drewN ?_ _ | refine blk_drew ?_ | refine blk_alloc ?_ _)); exact BK225.out) hb); have n1_ := Aside0.mk (below_step (by repeat (first | (with_reducible first | exact HB.out | apply below_alloc | apply pw_below_drewN | apply below_drew1 | refine below_set ?_ GE225.out) | exact HB.out)) hb); have n2_ := Aside0.mk (hbox); have n3_ := Aside0.mk ((by rw [hg]; exact (below_size (by repeat (first | (with_reducible first | exact HB.out | apply below_alloc | apply pw_below_drewN | apply below_drew1 | refine below_set ?_ GE225.out) | exact HB.out))) : w.heap.size ≤ gb226)); have n4_ := Aside0.mk ((by rw [hg]; exact (below_size (by repeat (first | (with_reducible first | exact HB.out | apply below_alloc | apply pw_below_drewN | apply below_drew1 | refine below_set ?_ GE225.out) | exact HB.out))) : w.heap.size ≤ gb226)); have n5_ := Aside0.mk ((by rw [hg]; exact Nat.ne_of_lt (blk_lt (g := gb225) (o := .cells #[.int .u64 a0_0, .int .u64 a0_1] 52 (0, 0)) (by (with_reducible repeat (first | refine blk_drewN ?_ _ | refine blk_drew ?_ | refine blk_alloc ?_ _)); exact BK225.out)) : gb225 ≠ gb226)); have n6_ := Aside0.mk ((by rw [hg]; exact Nat.ne_of_gt (blk_lt (g := gb225) (o := .cells #[.int .u64 a0_0, .int .u64 a0_1] 52 (0, 0)) (by (with_reducible repeat (first | refine blk_drewN ?_ _ | refine blk_drew ?_ | refine blk_alloc ?_ _)); exact BK225.out)) : gb226 ≠ gb225)); clear BK225; clear HB; have BK225 := n0_; have HB := n1_; have BK226 := n2_; have GW226 := n3_; have GE226 := n4_; have NB225_226 := n5_; have NB226_225 := n6_; clear n0_ n1_ n2_ n3_ n4_ n5_ n6_; clear hb hbox hg) | ((with_reducible refine gate_dst (N := 4) rfl ?_); refine box_event ?hg (N := 4) ?hd (cs := #[.bool false, .bool false, .bool false, .int .u64 0, .int .i64 0]) (t := 56) ?hr ?_; (case hd => rfl); (case hg => rfl); (case hr => first | (go_simp; done) | (go_simp; rfl)); intro gb227 hg w5 hbox hb; have n0_ := Aside0.mk (blk_below (g := gb225) (o := .cells #[.int .u64 a0_0, .int .u64 a0_1] 52 (0, 0)) (by (with_reducible repeat (first | refine blk_drewN ?_ _ | refine blk_drew ?_ | refine blk_alloc ?_ _)); exact BK225.out) hb); have n1_ := Aside0.mk (blk_below (g := gb226) (o := .cells #[.bool a1_0, .bool a1_1, .bool a1_2, .int .u64 a1_3, .int .i64 a1_4] 56 (0, 0)) (by (with_reducible repeat (first | refine blk_drewN ?_ _ | refine blk_drew ?_ | refine blk_alloc ?_ _)); exact BK226.out) hb); have n2_ := Aside0.mk (below_step (by repeat (first | (with_reducible first | exact HB.out | apply below_alloc | apply pw_below_drewN | apply below_drew1 | refine below_set ?_ GE225.out | refine below_set ?_ GE226.out) | exact HB.out)) hb); have n3_ := Aside0.mk (hbox); have n4_ := Aside0.mk ((by rw [hg]; exact (below_size (by repeat (first | (with_reducible first | exact HB.out | apply below_alloc | apply pw_below_drewN | apply below_drew1 | refine below_set ?_ GE225.out | refine below_set ?_ GE226.out) | exact HB.out))) : w.heap.size ≤ gb227)); have n5_ := Aside0.mk ((by rw [hg]; exact (below_size (by repeat (first | (with_reducible first | exact HB.out | apply below_alloc | apply pw_below_drewN | apply below_drew1 | refine below_set ?_ GE225.out | refine below_set ?_ GE226.out) | exact HB.out))) : w.heap.size ≤ gb227)); have n6_ := Aside0.mk ((by rw [hg]; exact Nat.ne_of_lt (blk_lt (g := gb225) (o := .cells #[.int .u64 a0_0, .int .u64 a0_1] 52 (0, 0)) (by (with_reducible repeat (first | refine blk_drewN ?_ _ | refine blk_drew ?_ | refine blk_alloc ?_ _)); exact BK225.out)) : gb225 ≠ gb227)); have n7_ := Aside0.mk ((by rw [hg]; exact Nat.ne_of_gt (blk_lt (g := gb225) (o := .cells #[.int .u64 a0_0, .int .u64 a0_1] 52 (0, 0)) (by (with_reducible repeat (first | refine blk_drewN ?_ _ | refine blk_drew ?_ | refine blk_alloc ?_ _)); exact BK225.out)) : gb227 ≠ gb225)); have n8_ := Aside0.mk ((by rw [hg]; exact Nat.ne_of_lt (blk_lt (g := gb226) (o := .cells #[.bool a1_0, .bool a1_1, .bool a1_2, .int .u64 a1_3, .int .i64 a1_4] 56 (0, 0)) (by (with_reducible repeat (first | refine blk_drewN ?_ _ | refine blk_drew ?_ | refine blk_alloc ?_ _)); exact BK226.out)) : gb226 ≠ gb227)); have n9_ := Aside0.mk ((by rw [hg]; exact Nat.ne_of_gt (blk_lt (g := gb226) (o := .cells #[.bool a1_0, .bool a1_1, .bool a1_2, .int .u64 a1_3, .int .i64 a1_4] 56 (0, 0)) (by (with_reducible repeat (first | refine blk_drewN ?_ _ | refine blk_drew ?_ | refine blk_alloc ?_ _)); exact BK226.out)) : gb227 ≠ gb226)); clear BK225; clear BK226; clear HB; have BK225 := n0_; have BK226 := n1_; have HB := n2_; have BK227 := n3_; have GW227 := n4_; have GE227 := n5_; have NB225_227 := n6_; have NB227_225 := n7_; have NB226_227 := n8_; have NB227_226 := n9_; clear n0_ n1_ n2_ n3_ n4_ n5_ n6_ n7_ n8_ n9_; clear hb hbox hg))
 (try simp only [Act.put, List.setIfInBounds_toArray, List.set_cons_zero, List.set_cons_succ])
 go_loopg [] k (fun kq w' => ∃ (x227003_1 : Int) (x227004_1 : Int), Aside0 (spec_l4K_full.l0 kq a0_0 a0_1 a1_0 a1_1 a1_2 x227003_1 x227004_1 = some (r1, r2, r3, r4, r5)) ∧ Aside0 (kq ≤ k) ∧ Aside0 (w'.heap[gb225]? = some (.cells #[.int .u64 a0_0, .int .u64 a0_1] 52 (0, 0))) ∧ Aside0 (w'.heap[gb226]? = some (.cells #[.bool a1_0, .bool a1_1, .bool a1_2, .int .u64 x227003_1, .int .i64 x227004_1] 56 (0, 0))) ∧ Aside0 (w'.heap[gb227]? = some (.cells #[.bool false, .bool false, .bool false, .int .u64 0, .int .i64 0] 56 (0, 0))) ∧ Aside0 (Below w.heap.size w w'))
 case atStart => exact ⟨(a1_3), (a1_4), H', ⟨Nat.le_refl _⟩, ⟨by (with_reducible repeat (first | refine blk_drewN ?_ _ | refine blk_drew ?_ | refine blk_alloc ?_ _)); exact BK225.out⟩, ⟨by (with_reducible repeat (first | refine blk_drewN ?_ _ | refine blk_drew ?_ | refine blk_alloc ?_ _)); exact BK226.out⟩, ⟨by (with_reducible repeat (first | refine blk_drewN ?_ _ | refine blk_drew ?_ | refine blk_alloc ?_ _)); exact BK227.out⟩, ⟨by repeat (first | (with_reducible first | exact HB.out | apply below_alloc | apply pw_below_drewN | apply below_drew1 | refine below_set ?_ GE225.out | refine below_set ?_ GE226.out | refine below_set ?_ GE227.out) | exact HB.out)⟩⟩
 case round =>
  clear H'
  try clear p2
  obtain ⟨x227003_1, x227004_1, HA, HK1, BK225, BK226, BK227, HB⟩ := hrel
  cases gk with
  | zero => exact absurd HA.out (by simp [spec_l4K_full.l0])
  | succ k1 =>
   have H := HA.out
   clear HA
   simp only [spec_l4K_full.l0] at H
   by_cases c6 : x227003_1 = 0
   ·
    rw [if_pos c6] at H
    have c6b0 : (x227003_1 == 0) = true := beq_iff_eq.mpr c6
    have c6b1 : (x227003_1 != 0) = false := bne_eq_false_iff_eq.mpr c6
    clear c6
    simp only [Option.some.injEq, Prod.mk.injEq] at H
    obtain ⟨rfl, rfl, rfl, rfl, rfl⟩ := H
    have hnb7 := NB226_225.out
    have hnc7 := NB225_226.out
    have hnb8 := NB226_227.out
    have hnc8 := NB227_226.out
    have hcz9_0 : wr.cell? ⟨gb226, 0, none⟩ = some (.bool a1_0) := (blk_cell BK226.out 0).trans rfl
    have hcz9_1 : wr.cell? ⟨gb226, 1, none⟩ = some (.bool a1_1) := (blk_cell BK226.out 1).trans rfl
    have hcz9_2 : wr.cell? ⟨gb226, 2, none⟩ = some (.bool a1_2) := (blk_cell BK226.out 2).trans rfl
    have hcz9_3 : wr.cell? ⟨gb226, 3, none⟩ = some (.int .u64 x227003_1) := (blk_cell BK226.out 3).trans rfl
    have hcz9_4 : wr.cell? ⟨gb226, 4, none⟩ = some (.int .i64 x227004_1) := (blk_cell BK226.out 4).trans rfl
    have hfz9_0 := blk_frozen BK226.out 0
    have hfz9_1 := blk_frozen BK226.out 1
    have hfz9_2 := blk_frozen BK226.out 2
    have hfz9_3 := blk_frozen BK226.out 3
    have hfz9_4 := blk_frozen BK226.out 4
    have hnb10 := NB227_225.out
    have hnc10 := NB225_227.out
    have hcz11_0 : wr.cell? ⟨gb227, 0, none⟩ = some (.bool false) := (blk_cell BK227.out 0).trans rfl
    have hcz11_1 : wr.cell? ⟨gb227, 1, none⟩ = some (.bool false) := (blk_cell BK227.out 1).trans rfl
    have hcz11_2 : wr.cell? ⟨gb227, 2, none⟩ = some (.bool false) := (blk_cell BK227.out 2).trans rfl
    have hcz11_3 : wr.cell? ⟨gb227, 3, none⟩ = some (.int .u64 0) := (blk_cell BK227.out 3).trans rfl
    have hcz11_4 : wr.cell? ⟨gb227, 4, none⟩ = some (.int .i64 0) := (blk_cell BK227.out 4).trans rfl
    have hfz11_0 := blk_frozen BK227.out 0
    have hfz11_1 := blk_frozen BK227.out 1
    have hfz11_2 := blk_frozen BK227.out 2
    have hfz11_3 := blk_frozen BK227.out 3
    have hfz11_4 := blk_frozen BK227.out 4
    go_wp2_with (first | ((with_reducible refine gate_store (t := 56) (p := 4) rfl ?_); refine store_event (t := 56) (p := 4) (v := ?vo_w12) (w1 := (((((wr.setCell ⟨gb227, 0, none⟩ (.bool a1_0)).setCell ⟨gb227, 1, none⟩ (.bool a1_1)).setCell ⟨gb227, 2, none⟩ (.bool a1_2)).setCell ⟨gb227, 3, none⟩ (.int .u64 x227003_1)).setCell ⟨gb227, 4, none⟩ (.int .i64 x227004_1))) ?hg ?ho ?hn ?hr ?_; (case ho => rfl); (case hg => rfl); (case hn => rfl); (case hr => first | (go_simp; done) | (go_simp; rfl)); intro w12 hw; have n0_ : Aside0 (w12.heap[gb225]? = some (.cells #[.int .u64 a0_0, .int .u64 a0_1] 52 (0, 0))) := ⟨(by rw [hw]; exact (by (with_reducible repeat (first | refine blk_drewN ?_ _ | refine blk_drew ?_ | refine blk_alloc ?_ _)); refine blk_far ?_ NB225_227.out _; (with_reducible repeat (first | refine blk_drewN ?_ _ | refine blk_drew ?_ | refine blk_alloc ?_ _)); refine blk_far ?_ NB225_227.out _; (with_reducible repeat (first | refine blk_drewN ?_ _ | refine blk_drew ?_ | refine blk_alloc ?_ _)); refine blk_far ?_ NB225_227.out _; (with_reducible repeat (first | refine blk_drewN ?_ _ | refine blk_drew ?_ | refine blk_alloc ?_ _)); refine blk_far ?_ NB225_227.out _; (with_reducible repeat (first | refine blk_drewN ?_ _ | refine blk_drew ?_ | refine blk_alloc ?_ _)); refine blk_far ?_ NB225_227.out _; (with_reducible repeat (first | refine blk_drewN ?_ _ | refine blk_drew ?_ | refine blk_alloc ?_ _)); exact BK225.out))⟩; have n1_ : Aside0 (w12.heap[gb226]? = some (.cells #[.bool a1_0, .bool a1_1, .bool a1_2, .int .u64 x227003_1, .int .i64 x227004_1] 56 (0, 0))) := ⟨(by rw [hw]; exact (by (with_reducible repeat (first | refine blk_drewN ?_ _ | refine blk_drew ?_ | refine blk_alloc ?_ _)); refine blk_far ?_ NB226_227.out _; (with_reducible repeat (first | refine blk_drewN ?_ _ | refine blk_drew ?_ | refine blk_alloc ?_ _)); refine blk_far ?_ NB226_227.out _; (with_reducible repeat (first | refine blk_drewN ?_ _ | refine blk_drew ?_ | refine blk_alloc ?_ _)); refine blk_far ?_ NB226_227.out _; (with_reducible repeat (first | refine blk_drewN ?_ _ | refine blk_drew ?_ | refine blk_alloc ?_ _)); refine blk_far ?_ NB226_227.out _; (with_reducible repeat (first | refine blk_drewN ?_ _ | refine blk_drew ?_ | refine blk_alloc ?_ _)); refine blk_far ?_ NB226_227.out _; (with_reducible repeat (first | refine blk_drewN ?_ _ | refine blk_drew ?_ | refine blk_alloc ?_ _)); exact BK226.out))⟩; have n2_ : Aside0 (w12.heap[gb227]? = some (.cells #[.bool a1_0, .bool a1_1, .bool a1_2, .int .u64 x227003_1, .int .i64 x227004_1] 56 (0, 0))) := ⟨(by rw [hw]; exact (by (with_reducible repeat (first | refine blk_drewN ?_ _ | refine blk_drew ?_ | refine blk_alloc ?_ _)); refine blk_put (cs := #[.bool a1_0, .bool a1_1, .bool a1_2, .int .u64 x227003_1, .int .i64 0]) ?_ 4 _ rfl; (with_reducible repeat (first | refine blk_drewN ?_ _ | refine blk_drew ?_ | refine blk_alloc ?_ _)); refine blk_put (cs := #[.bool a1_0, .bool a1_1, .bool a1_2, .int .u64 0, .int .i64 0]) ?_ 3 _ rfl; (with_reducible repeat (first | refine blk_drewN ?_ _ | refine blk_drew ?_ | refine blk_alloc ?_ _)); refine blk_put (cs := #[.bool a1_0, .bool a1_1, .bool false, .int .u64 0, .int .i64 0]) ?_ 2 _ rfl; (with_reducible repeat (first | refine blk_drewN ?_ _ | refine blk_drew ?_ | refine blk_alloc ?_ _)); refine blk_put (cs := #[.bool a1_0, .bool false, .bool false, .int .u64 0, .int .i64 0]) ?_ 1 _ rfl; (with_reducible repeat (first | refine blk_drewN ?_ _ | refine blk_drew ?_ | refine blk_alloc ?_ _)); refine blk_put (cs := #[.bool false, .bool false, .bool false, .int .u64 0, .int .i64 0]) ?_ 0 _ rfl; (with_reducible repeat (first | refine blk_drewN ?_ _ | refine blk_drew ?_ | refine blk_alloc ?_ _)); exact BK227.out))⟩; have n3_ : Aside0 (Below w.heap.size w w12) := ⟨(by rw [hw]; exact (by repeat (first | (with_reducible first | exact HB.out | apply below_alloc | apply pw_below_drewN | apply below_drew1 | refine below_set ?_ GE225.out | refine below_set ?_ GE226.out | refine below_set ?_ GE227.out) | exact HB.out)))⟩; clear hw; clear BK225; clear BK226; clear BK227; clear HB; have BK225 := n0_; have BK226 := n1_; have BK227 := n2_; have HB := n3_; clear n0_ n1_ n2_ n3_))
    refine bodyPost_ret (results_cell_row rfl _ _ gb227 56 #[.bool a1_0, .bool a1_1, .bool a1_2, .int .u64 x227003_1, .int .i64 x227004_1] (0, 0) _ rfl (by (with_reducible repeat (first | refine blk_drewN ?_ _ | refine blk_drew ?_ | refine blk_alloc ?_ _)); exact BK227.out) Try.underlying56 rfl (by kernel_rfl)) rfl ?_
    exact ⟨by first | rfl | (simp [errW_none, errW_some] <;> rfl) | (simp [*, errW_none, errW_some] <;> rfl), by repeat (first | (with_reducible first | exact HB.out | apply below_alloc | apply pw_below_drewN | apply below_drew1 | refine below_set ?_ GE225.out | refine below_set ?_ GE226.out | refine below_set ?_ GE227.out) | exact HB.out)⟩
   ·
    rw [if_neg c6] at H
    have c6b0 : (x227003_1 == 0) = false := beq_eq_false_iff_ne.mpr c6
    have c6b1 : (x227003_1 != 0) = true := bne_iff_ne.mpr c6
    by_cases c13 : 0 ≤ a0_1
    ·
     rw [if_pos c13] at H
     have c13b0 := eq_true c13
     have c13b1 : decide (0 ≤ a0_1) = true := decide_eq_true c13
     clear c13
     obtain ⟨ji14, hji14⟩ : ∃ j_ : Int, (shl .u64 1 a0_1) = j_ := ⟨_, rfl⟩
     replace H : (if x227003_1 < (ji14) then (spec_l4K_full.l0 k1 a0_0 a0_1 a1_0 a1_1 a1_2 (IntKind.u64.wrap (x227003_1 * 2)) (wrap64 (x227004_1 - 1))) else (some (a1_0, a1_1, a1_2, x227003_1, x227004_1))) = some (r1, r2, r3, r4, r5) := by first | (rw [hji14] at H; exact H) | (simp only [hji14] at H ⊢; exact H)
     have hji14_ : (IntKind.u64.wrap (1 * 2 ^ min a0_1.toNat 64)) = ji14 := hji14
     have hji14z : a0_1 ≤ 64 → (IntKind.u64.wrap (1 * 2 ^ a0_1.toNat)) = ji14 := shl_small hji14
     have hji14u : (IntKind.u64.wrap (2 ^ min a0_1.toNat 64)) = ji14 := by have h_ := hji14_; rw [Int.one_mul] at h_; exact h_
     have hji14v : a0_1 ≤ 64 → (IntKind.u64.wrap (2 ^ a0_1.toNat)) = ji14 := fun hle_ => by have h_ := hji14z hle_; rw [Int.one_mul] at h_; exact h_
     by_cases c15 : x227003_1 < (ji14)
     ·
      rw [if_pos c15] at H
      have c15b0 : decide (x227003_1 < (ji14)) = true := decide_eq_true c15
      clear c15
      have H' := Aside0.mk H
      clear H
      have hnb16 := NB226_225.out
      have hnc16 := NB225_226.out
      have hnb17 := NB226_227.out
      have hnc17 := NB227_226.out
      have hcz18_0 : wr.cell? ⟨gb226, 0, none⟩ = some (.bool a1_0) := (blk_cell BK226.out 0).trans rfl
      have hcz18_1 : wr.cell? ⟨gb226, 1, none⟩ = some (.bool a1_1) := (blk_cell BK226.out 1).trans rfl
      have hcz18_2 : wr.cell? ⟨gb226, 2, none⟩ = some (.bool a1_2) := (blk_cell BK226.out 2).trans rfl
      have hcz18_3 : wr.cell? ⟨gb226, 3, none⟩ = some (.int .u64 x227003_1) := (blk_cell BK226.out 3).trans rfl
      have hcz18_4 : wr.cell? ⟨gb226, 4, none⟩ = some (.int .i64 x227004_1) := (blk_cell BK226.out 4).trans rfl
      have hfz18_0 := blk_frozen BK226.out 0
      have hfz18_1 := blk_frozen BK226.out 1
      have hfz18_2 := blk_frozen BK226.out 2
      have hfz18_3 := blk_frozen BK226.out 3
      have hfz18_4 := blk_frozen BK226.out 4
      have hnb19 := NB225_227.out
      have hnc19 := NB227_225.out
      have hcz20_0 : wr.cell? ⟨gb225, 0, none⟩ = some (.int .u64 a0_0) := (blk_cell BK225.out 0).trans rfl
      have hcz20_1 : wr.cell? ⟨gb225, 1, none⟩ = some (.int .u64 a0_1) := (blk_cell BK225.out 1).trans rfl
      have hfz20_0 := blk_frozen BK225.out 0
      have hfz20_1 := blk_frozen BK225.out 1
      go_wp2
      go_roundg k1
      case measure => have := HK1.out; omega
      case rel => exact ⟨(IntKind.u64.wrap (x227003_1 * 2)), (wrap64 (x227004_1 - 1)), H', ⟨by have := HK1.out; omega⟩, ⟨by (with_reducible repeat (first | refine blk_drewN ?_ _ | refine blk_drew ?_ | refine blk_alloc ?_ _)); refine blk_far ?_ NB225_226.out _; (with_reducible repeat (first | refine blk_drewN ?_ _ | refine blk_drew ?_ | refine blk_alloc ?_ _)); refine blk_far ?_ NB225_226.out _; (with_reducible repeat (first | refine blk_drewN ?_ _ | refine blk_drew ?_ | refine blk_alloc ?_ _)); exact BK225.out⟩, ⟨by (with_reducible repeat (first | refine blk_drewN ?_ _ | refine blk_drew ?_ | refine blk_alloc ?_ _)); refine blk_put (cs := #[.bool a1_0, .bool a1_1, .bool a1_2, .int .u64 (IntKind.u64.wrap (x227003_1 * 2)), .int .i64 x227004_1]) ?_ 4 _ rfl; (with_reducible repeat (first | refine blk_drewN ?_ _ | refine blk_drew ?_ | refine blk_alloc ?_ _)); refine blk_put (cs := #[.bool a1_0, .bool a1_1, .bool a1_2, .int .u64 x227003_1, .int .i64 x227004_1]) ?_ 3 _ rfl; (with_reducible repeat (first | refine blk_drewN ?_ _ | refine blk_drew ?_ | refine blk_alloc ?_ _)); exact BK226.out⟩, ⟨by (with_reducible repeat (first | refine blk_drewN ?_ _ | refine blk_drew ?_ | refine blk_alloc ?_ _)); refine blk_far ?_ NB227_226.out _; (with_reducible repeat (first | refine blk_drewN ?_ _ | refine blk_drew ?_ | refine blk_alloc ?_ _)); refine blk_far ?_ NB227_226.out _; (with_reducible repeat (first | refine blk_drewN ?_ _ | refine blk_drew ?_ | refine blk_alloc ?_ _)); exact BK227.out⟩, ⟨by repeat (first | (with_reducible first | exact HB.out | apply below_alloc | apply pw_below_drewN | apply below_drew1 | refine below_set ?_ GE225.out | refine below_set ?_ GE226.out | refine below_set ?_ GE227.out) | exact HB.out)⟩⟩
     ·
      rw [if_neg c15] at H
      have c15b0 : decide (x227003_1 < (ji14)) = false := decide_eq_false c15
      clear c15
      simp only [Option.some.injEq, Prod.mk.injEq] at H
      obtain ⟨rfl, rfl, rfl, rfl, rfl⟩ := H
      have hnb21 := NB226_225.out
      have hnc21 := NB225_226.out
      have hnb22 := NB226_227.out
      have hnc22 := NB227_226.out
      have hcz23_0 : wr.cell? ⟨gb226, 0, none⟩ = some (.bool a1_0) := (blk_cell BK226.out 0).trans rfl
      have hcz23_1 : wr.cell? ⟨gb226, 1, none⟩ = some (.bool a1_1) := (blk_cell BK226.out 1).trans rfl
      have hcz23_2 : wr.cell? ⟨gb226, 2, none⟩ = some (.bool a1_2) := (blk_cell BK226.out 2).trans rfl
      have hcz23_3 : wr.cell? ⟨gb226, 3, none⟩ = some (.int .u64 x227003_1) := (blk_cell BK226.out 3).trans rfl
      have hcz23_4 : wr.cell? ⟨gb226, 4, none⟩ = some (.int .i64 x227004_1) := (blk_cell BK226.out 4).trans rfl
      have hfz23_0 := blk_frozen BK226.out 0
      have hfz23_1 := blk_frozen BK226.out 1
      have hfz23_2 := blk_frozen BK226.out 2
      have hfz23_3 := blk_frozen BK226.out 3
      have hfz23_4 := blk_frozen BK226.out 4
      have hnb24 := NB225_227.out
      have hnc24 := NB227_225.out
      have hcz25_0 : wr.cell? ⟨gb225, 0, none⟩ = some (.int .u64 a0_0) := (blk_cell BK225.out 0).trans rfl
      have hcz25_1 : wr.cell? ⟨gb225, 1, none⟩ = some (.int .u64 a0_1) := (blk_cell BK225.out 1).trans rfl
      have hfz25_0 := blk_frozen BK225.out 0
      have hfz25_1 := blk_frozen BK225.out 1
      have hcz26_0 : wr.cell? ⟨gb227, 0, none⟩ = some (.bool false) := (blk_cell BK227.out 0).trans rfl
      have hcz26_1 : wr.cell? ⟨gb227, 1, none⟩ = some (.bool false) := (blk_cell BK227.out 1).trans rfl
      have hcz26_2 : wr.cell? ⟨gb227, 2, none⟩ = some (.bool false) := (blk_cell BK227.out 2).trans rfl
      have hcz26_3 : wr.cell? ⟨gb227, 3, none⟩ = some (.int .u64 0) := (blk_cell BK227.out 3).trans rfl
      have hcz26_4 : wr.cell? ⟨gb227, 4, none⟩ = some (.int .i64 0) := (blk_cell BK227.out 4).trans rfl
      have hfz26_0 := blk_frozen BK227.out 0
      have hfz26_1 := blk_frozen BK227.out 1
      have hfz26_2 := blk_frozen BK227.out 2
      have hfz26_3 := blk_frozen BK227.out 3
      have hfz26_4 := blk_frozen BK227.out 4
      go_wp2_with (first | ((with_reducible refine gate_store (t := 56) (p := 4) rfl ?_); refine store_event (t := 56) (p := 4) (v := ?vo_w27) (w1 := (((((wr.setCell ⟨gb227, 0, none⟩ (.bool a1_0)).setCell ⟨gb227, 1, none⟩ (.bool a1_1)).setCell ⟨gb227, 2, none⟩ (.bool a1_2)).setCell ⟨gb227, 3, none⟩ (.int .u64 x227003_1)).setCell ⟨gb227, 4, none⟩ (.int .i64 x227004_1))) ?hg ?ho ?hn ?hr ?_; (case ho => rfl); (case hg => rfl); (case hn => rfl); (case hr => first | (go_simp; done) | (go_simp; rfl)); intro w27 hw; have n0_ : Aside0 (w27.heap[gb225]? = some (.cells #[.int .u64 a0_0, .int .u64 a0_1] 52 (0, 0))) := ⟨(by rw [hw]; exact (by (with_reducible repeat (first | refine blk_drewN ?_ _ | refine blk_drew ?_ | refine blk_alloc ?_ _)); refine blk_far ?_ NB225_227.out _; (with_reducible repeat (first | refine blk_drewN ?_ _ | refine blk_drew ?_ | refine blk_alloc ?_ _)); refine blk_far ?_ NB225_227.out _; (with_reducible repeat (first | refine blk_drewN ?_ _ | refine blk_drew ?_ | refine blk_alloc ?_ _)); refine blk_far ?_ NB225_227.out _; (with_reducible repeat (first | refine blk_drewN ?_ _ | refine blk_drew ?_ | refine blk_alloc ?_ _)); refine blk_far ?_ NB225_227.out _; (with_reducible repeat (first | refine blk_drewN ?_ _ | refine blk_drew ?_ | refine blk_alloc ?_ _)); refine blk_far ?_ NB225_227.out _; (with_reducible repeat (first | refine blk_drewN ?_ _ | refine blk_drew ?_ | refine blk_alloc ?_ _)); exact BK225.out))⟩; have n1_ : Aside0 (w27.heap[gb226]? = some (.cells #[.bool a1_0, .bool a1_1, .bool a1_2, .int .u64 x227003_1, .int .i64 x227004_1] 56 (0, 0))) := ⟨(by rw [hw]; exact (by (with_reducible repeat (first | refine blk_drewN ?_ _ | refine blk_drew ?_ | refine blk_alloc ?_ _)); refine blk_far ?_ NB226_227.out _; (with_reducible repeat (first | refine blk_drewN ?_ _ | refine blk_drew ?_ | refine blk_alloc ?_ _)); refine blk_far ?_ NB226_227.out _; (with_reducible repeat (first | refine blk_drewN ?_ _ | refine blk_drew ?_ | refine blk_alloc ?_ _)); refine blk_far ?_ NB226_227.out _; (with_reducible repeat (first | refine blk_drewN ?_ _ | refine blk_drew ?_ | refine blk_alloc ?_ _)); refine blk_far ?_ NB226_227.out _; (with_reducible repeat (first | refine blk_drewN ?_ _ | refine blk_drew ?_ | refine blk_alloc ?_ _)); refine blk_far ?_ NB226_227.out _; (with_reducible repeat (first | refine blk_drewN ?_ _ | refine blk_drew ?_ | refine blk_alloc ?_ _)); exact BK226.out))⟩; have n2_ : Aside0 (w27.heap[gb227]? = some (.cells #[.bool a1_0, .bool a1_1, .bool a1_2, .int .u64 x227003_1, .int .i64 x227004_1] 56 (0, 0))) := ⟨(by rw [hw]; exact (by (with_reducible repeat (first | refine blk_drewN ?_ _ | refine blk_drew ?_ | refine blk_alloc ?_ _)); refine blk_put (cs := #[.bool a1_0, .bool a1_1, .bool a1_2, .int .u64 x227003_1, .int .i64 0]) ?_ 4 _ rfl; (with_reducible repeat (first | refine blk_drewN ?_ _ | refine blk_drew ?_ | refine blk_alloc ?_ _)); refine blk_put (cs := #[.bool a1_0, .bool a1_1, .bool a1_2, .int .u64 0, .int .i64 0]) ?_ 3 _ rfl; (with_reducible repeat (first | refine blk_drewN ?_ _ | refine blk_drew ?_ | refine blk_alloc ?_ _)); refine blk_put (cs := #[.bool a1_0, .bool a1_1, .bool false, .int .u64 0, .int .i64 0]) ?_ 2 _ rfl; (with_reducible repeat (first | refine blk_drewN ?_ _ | refine blk_drew ?_ | refine blk_alloc ?_ _)); refine blk_put (cs := #[.bool a1_0, .bool false, .bool false, .int .u64 0, .int .i64 0]) ?_ 1 _ rfl; (with_reducible repeat (first | refine blk_drewN ?_ _ | refine blk_drew ?_ | refine blk_alloc ?_ _)); refine blk_put (cs := #[.bool false, .bool false, .bool false, .int .u64 0, .int .i64 0]) ?_ 0 _ rfl; (with_reducible repeat (first | refine blk_drewN ?_ _ | refine blk_drew ?_ | refine blk_alloc ?_ _)); exact BK227.out))⟩; have n3_ : Aside0 (Below w.heap.size w w27) := ⟨(by rw [hw]; exact (by repeat (first | (with_reducible first | exact HB.out | apply below_alloc | apply pw_below_drewN | apply below_drew1 | refine below_set ?_ GE225.out | refine below_set ?_ GE226.out | refine below_set ?_ GE227.out) | exact HB.out)))⟩; clear hw; clear BK225; clear BK226; clear BK227; clear HB; have BK225 := n0_; have BK226 := n1_; have BK227 := n2_; have HB := n3_; clear n0_ n1_ n2_ n3_))
      refine bodyPost_ret (results_cell_row rfl _ _ gb227 56 #[.bool a1_0, .bool a1_1, .bool a1_2, .int .u64 x227003_1, .int .i64 x227004_1] (0, 0) _ rfl (by (with_reducible repeat (first | refine blk_drewN ?_ _ | refine blk_drew ?_ | refine blk_alloc ?_ _)); exact BK227.out) Try.underlying56 rfl (by kernel_rfl)) rfl ?_
      exact ⟨by first | rfl | (simp [errW_none, errW_some] <;> rfl) | (simp only [← hji14]; first | rfl | (simp [errW_none, errW_some] <;> rfl)) | (simp [*, errW_none, errW_some] <;> rfl), by repeat (first | (with_reducible first | exact HB.out | apply below_alloc | apply pw_below_drewN | apply below_drew1 | refine below_set ?_ GE225.out | refine below_set ?_ GE226.out | refine below_set ?_ GE227.out) | exact HB.out)⟩
    ·
     rw [if_neg c13] at H
     exact absurd H (by simp)

end Go.Proofs.Ytdeogandkgiggaa.Q
