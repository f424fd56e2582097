-- Written by a program of this session; it walks the functions that the law reaches.
import Derived.Test.YtdeogandkgiggaaQx0
import Derived.Test.YtdeogandkgiggaaQx1
namespace Go.Proofs.Ytdeogandkgiggaa.Q
open Go.RowKit Go.Proofs.YtdeogandkgiggaaW.PrintWords Go.Proofs.YtdeogandkgiggaaW.PrintLast Go.Proofs.YtdeogandkgiggaaW.PrintMore
attribute [local go_sem] max2_int min2_int max_two min_two max_three min_three max_four min_four   -- for this text's walks alone
set_option linter.unusedVariables false
set_option linter.unusedSimpArgs false

/-! ### spec_l4K_whole: function 63 -/
def spec_l4K_whole.j0 : Nat → Int → Int → Int → Int → Int → Int → Bool → Bool → Bool → Int → Int → Option (Int)
 | 0, _, _, _, _, _, _, _, _, _, _, _ => none
 | k + 1, x1, x8, x9, x10, x124000, x124001, x125000, x125001, x125002, x125003, x125004 => if x1 = 1 then (if x8 = 0 then ((spec_l4K_round.f k x124000 x124001 x125000 x9 0 false).bind fun t130 => (some t130)) else (if x125000 = true then ((spec_l4K_round.f k x124000 x124001 x125000 x9 0 false).bind fun t131 => (some t131)) else ((spec_l4K_round.f k x124000 x124001 x125000 (IntKind.u64.wrap (x9 + 1)) 0 false).bind fun t132 => (some t132)))) else (if x1 = 2 then (if x8 = 0 then ((spec_l4K_round.f k x124000 x124001 x125000 x9 0 false).bind fun t133 => (some t133)) else (if x125000 = true then ((spec_l4K_round.f k x124000 x124001 x125000 (IntKind.u64.wrap (x9 + 1)) 0 false).bind fun t134 => (some t134)) else ((spec_l4K_round.f k x124000 x124001 x125000 x9 0 false).bind fun t135 => (some t135)))) else (if x1 = 4 then (if x10 > 0 then ((spec_l4K_round.f k x124000 x124001 x125000 (IntKind.u64.wrap (x9 + 1)) 0 false).bind fun t136 => (some t136)) else (if x10 = 0 then (if (Go.bits .and .u64 x9 1) = 1 then ((spec_l4K_round.f k x124000 x124001 x125000 (IntKind.u64.wrap (x9 + 1)) 0 false).bind fun t137 => (some t137)) else ((spec_l4K_round.f k x124000 x124001 x125000 x9 0 false).bind fun t138 => (some t138))) else ((spec_l4K_round.f k x124000 x124001 x125000 x9 0 false).bind fun t139 => (some t139)))) else ((spec_l4K_round.f k x124000 x124001 x125000 x9 0 false).bind fun t140 => (some t140))))
def spec_l4K_whole.f (k : Nat) (a0_0 : Int) (a0_1 : Int) (a1 : Int) (a2_0 : Bool) (a2_1 : Bool) (a2_2 : Bool) (a2_3 : Int) (a2_4 : Int) : Option (Int) := if a2_2 = true then ((spec_l4K_nan.f a0_0 a0_1).bind fun t125 => (some t125)) else (if a2_1 = true then ((spec_l4K_inf.f a0_0 a0_1 a2_0).bind fun t126 => (some t126)) else (if a2_4 ≥ 0 then ((spec_l4K_round.f k a0_0 a0_1 a2_0 a2_3 a2_4 false).bind fun t127 => (some t127)) else (if a2_3 = 0 then ((spec_l4K_round.f k a0_0 a0_1 a2_0 a2_3 a2_4 false).bind fun t128 => (some t128)) else (if (IntKind.u64.wrap (wrap64 (-a2_4))) < 60 then (if 0 ≤ (IntKind.u64.wrap (wrap64 (-a2_4))) then (if 0 ≤ (IntKind.u64.wrap ((IntKind.u64.wrap (wrap64 (-a2_4))) - 1)) then ((spec_l4Side.f (Go.bits .and .u64 a2_3 (IntKind.u64.wrap ((shl .u64 1 (IntKind.u64.wrap (wrap64 (-a2_4)))) - 1))) (shl .u64 1 (IntKind.u64.wrap ((IntKind.u64.wrap (wrap64 (-a2_4))) - 1)))).bind fun t129 => (spec_l4K_whole.j0 k a1 (Go.bits .and .u64 a2_3 (IntKind.u64.wrap ((shl .u64 1 (IntKind.u64.wrap (wrap64 (-a2_4)))) - 1))) (shr .u64 a2_3 (IntKind.u64.wrap (wrap64 (-a2_4)))) t129 a0_0 a0_1 a2_0 a2_1 a2_2 a2_3 a2_4)) else (none)) else (none)) else (spec_l4K_whole.j0 k a1 a2_3 0 (-1) a0_0 a0_1 a2_0 a2_1 a2_2 a2_3 a2_4)))))
theorem spec_l4K_whole.mono_l : ∀ k, (∀ y0 y1 y2 y3 y4 y5 y6 y7 y8 y9 y10, LeO (spec_l4K_whole.j0 k y0 y1 y2 y3 y4 y5 y6 y7 y8 y9 y10) (spec_l4K_whole.j0 (k + 1) y0 y1 y2 y3 y4 y5 y6 y7 y8 y9 y10))
 | 0 => fun _ _ _ _ _ _ _ _ _ _ _ r h => by simp [spec_l4K_whole.j0] at h
 | k + 1 => by
  have ih0 := spec_l4K_whole.mono_l k
  ·
   intro y0 y1 y2 y3 y4 y5 y6 y7 y8 y9 y10
   unfold spec_l4K_whole.j0
   repeat' first
   | (with_reducible exact ih0 _ _ _ _ _ _ _ _ _ _ _)
   | (with_reducible exact spec_l4K_round.mono _ _ _ _ _ _ _)
   | (with_reducible exact LeO.refl _)
   | (with_reducible exact LeO.none _)
   | (with_reducible refine LeO.ite ?_ ?_)
   | (with_reducible refine LeO.bind ?_ (fun _ => ?_))
   | exact ih0 _ _ _ _ _ _ _ _ _ _ _
   | exact spec_l4K_round.mono _ _ _ _ _ _ _
   | exact LeO.none _
   | refine LeO.ite ?_ ?_
   | refine LeO.bind ?_ (fun _ => ?_)
theorem spec_l4K_whole.mono : ∀ a0 a1 a2 a3 a4 a5 a6 a7 k, LeO (spec_l4K_whole.f k a0 a1 a2 a3 a4 a5 a6 a7) (spec_l4K_whole.f (k + 1) a0 a1 a2 a3 a4 a5 a6 a7) := by
 intro a0 a1 a2 a3 a4 a5 a6 a7 k
 have ih0 := spec_l4K_whole.mono_l k
 unfold spec_l4K_whole.f
 repeat' first
   | (with_reducible exact ih0 _ _ _ _ _ _ _ _ _ _ _)
   | (with_reducible exact spec_l4K_round.mono _ _ _ _ _ _ _)
   | (with_reducible exact LeO.refl _)
   | (with_reducible exact LeO.none _)
   | (with_reducible refine LeO.ite ?_ ?_)
   | (with_reducible refine LeO.bind ?_ (fun _ => ?_))
   | exact ih0 _ _ _ _ _ _ _ _ _ _ _
   | exact spec_l4K_round.mono _ _ _ _ _ _ _
   | exact LeO.none _
   | refine LeO.ite ?_ ?_
   | refine LeO.bind ?_ (fun _ => ?_)
set_option maxHeartbeats 8000000 in
set_option maxRecDepth 100000 in
theorem spec_l4K_whole.calls (k : Nat) (a0_0 : Int) (a0_1 : Int) (a1 : Int) (a2_0 : Bool) (a2_1 : Bool) (a2_2 : Bool) (a2_3 : Int) (a2_4 : Int) (r : Int) (w : World) (h : spec_l4K_whole.f k a0_0 a0_1 a1 a2_0 a2_1 a2_2 a2_3 a2_4 = some r) :
  Calls Try.prog 63 #[.agg #[.int .u64 a0_0, .int .u64 a0_1], .int .i64 a1, .agg #[.bool a2_0, .bool a2_1, .bool a2_2, .int .u64 a2_3, .int .i64 a2_4]] w fun e w' => e = .returned (.int .u32 r) ∧ Below w.heap.size w w' := by
 have hu52 := Try.underlying52
 have hu56 := Try.underlying56
 have HB := Aside0.mk (Below.refl w.heap.size w)
 have H : (if a2_2 = true then ((spec_l4K_nan.f a0_0 a0_1).bind fun t125 => (some t125)) else (if a2_1 = true then ((spec_l4K_inf.f a0_0 a0_1 a2_0).bind fun t126 => (some t126)) else (if a2_4 ≥ 0 then ((spec_l4K_round.f k a0_0 a0_1 a2_0 a2_3 a2_4 false).bind fun t127 => (some t127)) else (if a2_3 = 0 then ((spec_l4K_round.f k a0_0 a0_1 a2_0 a2_3 a2_4 false).bind fun t128 => (some t128)) else (if (IntKind.u64.wrap (wrap64 (-a2_4))) < 60 then (if 0 ≤ (IntKind.u64.wrap (wrap64 (-a2_4))) then (if 0 ≤ (IntKind.u64.wrap ((IntKind.u64.wrap (wrap64 (-a2_4))) - 1)) then ((spec_l4Side.f (Go.bits .and .u64 a2_3 (IntKind.u64.wrap ((shl .u64 1 (IntKind.u64.wrap (wrap64 (-a2_4)))) - 1))) (shl .u64 1 (IntKind.u64.wrap ((IntKind.u64.wrap (wrap64 (-a2_4))) - 1)))).bind fun t129 => (spec_l4K_whole.j0 k a1 (Go.bits .and .u64 a2_3 (IntKind.u64.wrap ((shl .u64 1 (IntKind.u64.wrap (wrap64 (-a2_4)))) - 1))) (shr .u64 a2_3 (IntKind.u64.wrap (wrap64 (-a2_4)))) t129 a0_0 a0_1 a2_0 a2_1 a2_2 a2_3 a2_4)) else (none)) else (none)) else (spec_l4K_whole.j0 k a1 a2_3 0 (-1) a0_0 a0_1 a2_0 a2_1 a2_2 a2_3 a2_4)))))) = some r := h
 clear h
 by_cases c4 : a2_2 = true
 ·
  subst c4
  have H1 : ((spec_l4K_nan.f a0_0 a0_1).bind fun t125 => (some t125)) = some r := by rw [if_pos rfl] at H; exact H
  clear H
  have H := H1
  clear H1
  replace H := Option.bind_eq_some_iff.mp H
  obtain ⟨t125, A50, H⟩ := H
  replace H : (some t125) = some r := H
  have A5 := Aside0.mk A50
  clear A50
  obtain rfl := Option.some.inj H
  simp only [Option.some.injEq, Prod.mk.injEq] at H
  obtain ⟨rfl⟩ := H
  go_enter Try.func63, Try.ntmps63
  go_wp2_with (first | ((with_reducible refine gate_dst (N := 3) rfl ?_); refine box_event ?hg (N := 3) ?hd (cs := #[.int .u64 a0_0, .int .u64 a0_1]) (t := 52) ?hr ?_; (case hd => rfl); (case hg => rfl); (case hr => first | (go_simp; done) | (go_simp; rfl)); intro gb123 hg w6 hbox hb; have n0_ := Aside0.mk (below_step (bw HB.out) hb); have n1_ := Aside0.mk (hbox); have n2_ := Aside0.mk ((by rw [hg]; exact (below_size (bw HB.out)) : w.heap.size ≤ gb123)); have n3_ := Aside0.mk ((by rw [hg]; exact (below_size (bw HB.out)) : w.heap.size ≤ gb123)); clear HB; have HB := n0_; have BK123 := n1_; have GW123 := n2_; have GE123 := n3_; clear n0_ n1_ n2_ n3_; clear hb hbox hg) | ((with_reducible refine gate_dst (N := 5) rfl ?_); refine box_event ?hg (N := 5) ?hd (cs := #[.bool a2_0, .bool a2_1, .bool true, .int .u64 a2_3, .int .i64 a2_4]) (t := 56) ?hr ?_; (case hd => rfl); (case hg => rfl); (case hr => first | (go_simp; done) | (go_simp; rfl)); intro gb124 hg w7 hbox hb; have n0_ := Aside0.mk (blk_below (g := gb123) (o := .cells #[.int .u64 a0_0, .int .u64 a0_1] 52 (0, 0)) (bk BK123.out) hb); have n1_ := Aside0.mk (below_step (bw HB.out) hb); have n2_ := Aside0.mk (hbox); have n3_ := Aside0.mk ((by rw [hg]; exact (below_size (bw HB.out)) : w.heap.size ≤ gb124)); have n4_ := Aside0.mk ((by rw [hg]; exact (below_size (bw HB.out)) : w.heap.size ≤ gb124)); have n5_ := Aside0.mk ((by rw [hg]; exact Nat.ne_of_lt (blk_lt (g := gb123) (o := .cells #[.int .u64 a0_0, .int .u64 a0_1] 52 (0, 0)) (bk BK123.out)) : gb123 ≠ gb124)); have n6_ := Aside0.mk ((by rw [hg]; exact Nat.ne_of_gt (blk_lt (g := gb123) (o := .cells #[.int .u64 a0_0, .int .u64 a0_1] 52 (0, 0)) (bk BK123.out)) : gb124 ≠ gb123)); clear BK123; clear HB; have BK123 := n0_; have HB := n1_; have BK124 := n2_; have GW124 := n3_; have GE124 := n4_; have NB123_124 := n5_; have NB124_123 := n6_; clear n0_ n1_ n2_ n3_ n4_ n5_ n6_; clear hb hbox hg; have hnb8 := NB124_123.out; have hnc8 := NB123_124.out; have hcz9_0 : w7.cell? ⟨gb124, 0, none⟩ = some (.bool a2_0) := (blk_cell BK124.out 0).trans rfl; have hcz9_1 : w7.cell? ⟨gb124, 1, none⟩ = some (.bool a2_1) := (blk_cell BK124.out 1).trans rfl; have hcz9_2 : w7.cell? ⟨gb124, 2, none⟩ = some (.bool true) := (blk_cell BK124.out 2).trans rfl; have hcz9_3 : w7.cell? ⟨gb124, 3, none⟩ = some (.int .u64 a2_3) := (blk_cell BK124.out 3).trans rfl; have hcz9_4 : w7.cell? ⟨gb124, 4, none⟩ = some (.int .i64 a2_4) := (blk_cell BK124.out 4).trans rfl; have hfz9_0 := blk_frozen BK124.out 0; have hfz9_1 := blk_frozen BK124.out 1; have hfz9_2 := blk_frozen BK124.out 2; have hfz9_3 := blk_frozen BK124.out 3; have hfz9_4 := blk_frozen BK124.out 4; have hcz10_0 : w7.cell? ⟨gb123, 0, none⟩ = some (.int .u64 a0_0) := (blk_cell BK123.out 0).trans rfl; have hcz10_1 : w7.cell? ⟨gb123, 1, none⟩ = some (.int .u64 a0_1) := (blk_cell BK123.out 1).trans rfl; have hfz10_0 := blk_frozen BK123.out 0; have hfz10_1 := blk_frozen BK123.out 1) | ((with_reducible refine gate_callee (f := 48) rfl ?_); refine goesL_ (some 15) rfl rfl Try.func48 (by kernel_rfl) rfl #[.agg #[.int .u64 a0_0, .int .u64 a0_1]] rfl ar ?_; (with_reducible refine (spec_l4K_nan.calls a0_0 a0_1 t125 _ A5.out).mono ?_); rintro e w11 ⟨rfl, hb⟩; refine ⟨_, rfl, ?_⟩; have n0_ := Aside0.mk (blk_below (g := gb123) (o := .cells #[.int .u64 a0_0, .int .u64 a0_1] 52 (0, 0)) (bk BK123.out) hb); have n1_ := Aside0.mk (blk_below (g := gb124) (o := .cells #[.bool a2_0, .bool a2_1, .bool true, .int .u64 a2_3, .int .i64 a2_4] 56 (0, 0)) (bk BK124.out) hb); have n2_ := Aside0.mk (below_step (bw HB.out) hb); clear BK123; clear BK124; clear HB; have BK123 := n0_; have BK124 := n1_; have HB := n2_; clear n0_ n1_ n2_; (try clear hb)))
  go_ret
  exact ⟨by first | rfl | (simp [errW_none, errW_some] <;> rfl) | (simp [*, errW_none, errW_some] <;> rfl), bw HB.out⟩
 ·
  replace c4 := Bool.eq_false_iff.mpr c4
  subst c4
  have H1 : (if a2_1 = true then ((spec_l4K_inf.f a0_0 a0_1 a2_0).bind fun t126 => (some t126)) else (if a2_4 ≥ 0 then ((spec_l4K_round.f k a0_0 a0_1 a2_0 a2_3 a2_4 false).bind fun t127 => (some t127)) else (if a2_3 = 0 then ((spec_l4K_round.f k a0_0 a0_1 a2_0 a2_3 a2_4 false).bind fun t128 => (some t128)) else (if (IntKind.u64.wrap (wrap64 (-a2_4))) < 60 then (if 0 ≤ (IntKind.u64.wrap (wrap64 (-a2_4))) then (if 0 ≤ (IntKind.u64.wrap ((IntKind.u64.wrap (wrap64 (-a2_4))) - 1)) then ((spec_l4Side.f (Go.bits .and .u64 a2_3 (IntKind.u64.wrap ((shl .u64 1 (IntKind.u64.wrap (wrap64 (-a2_4)))) - 1))) (shl .u64 1 (IntKind.u64.wrap ((IntKind.u64.wrap (wrap64 (-a2_4))) - 1)))).bind fun t129 => (spec_l4K_whole.j0 k a1 (Go.bits .and .u64 a2_3 (IntKind.u64.wrap ((shl .u64 1 (IntKind.u64.wrap (wrap64 (-a2_4)))) - 1))) (shr .u64 a2_3 (IntKind.u64.wrap (wrap64 (-a2_4)))) t129 a0_0 a0_1 a2_0 a2_1 false a2_3 a2_4)) else (none)) else (none)) else (spec_l4K_whole.j0 k a1 a2_3 0 (-1) a0_0 a0_1 a2_0 a2_1 false a2_3 a2_4))))) = some r := by rw [if_neg (show ¬ (false = true) by decide)] at H; exact H
  clear H
  have H := H1
  clear H1
  by_cases c12 : a2_1 = true
  ·
   subst c12
   have H1 : ((spec_l4K_inf.f a0_0 a0_1 a2_0).bind fun t126 => (some t126)) = some r := by rw [if_pos rfl] at H; exact H
   clear H
   have H := H1
   clear H1
   replace H := Option.bind_eq_some_iff.mp H
   obtain ⟨t126, A130, H⟩ := H
   replace H : (some t126) = some r := H
   have A13 := Aside0.mk A130
   clear A130
   obtain rfl := Option.some.inj H
   simp only [Option.some.injEq, Prod.mk.injEq] at H
   obtain ⟨rfl⟩ := H
   go_enter Try.func63, Try.ntmps63
   go_wp2_with (first | ((with_reducible refine gate_dst (N := 3) rfl ?_); refine box_event ?hg (N := 3) ?hd (cs := #[.int .u64 a0_0, .int .u64 a0_1]) (t := 52) ?hr ?_; (case hd => rfl); (case hg => rfl); (case hr => first | (go_simp; done) | (go_simp; rfl)); intro gb123 hg w14 hbox hb; have n0_ := Aside0.mk (below_step (bw HB.out) hb); have n1_ := Aside0.mk (hbox); have n2_ := Aside0.mk ((by rw [hg]; exact (below_size (bw HB.out)) : w.heap.size ≤ gb123)); have n3_ := Aside0.mk ((by rw [hg]; exact (below_size (bw HB.out)) : w.heap.size ≤ gb123)); clear HB; have HB := n0_; have BK123 := n1_; have GW123 := n2_; have GE123 := n3_; clear n0_ n1_ n2_ n3_; clear hb hbox hg) | ((with_reducible refine gate_dst (N := 5) rfl ?_); refine box_event ?hg (N := 5) ?hd (cs := #[.bool a2_0, .bool true, .bool false, .int .u64 a2_3, .int .i64 a2_4]) (t := 56) ?hr ?_; (case hd => rfl); (case hg => rfl); (case hr => first | (go_simp; done) | (go_simp; rfl)); intro gb124 hg w15 hbox hb; have n0_ := Aside0.mk (blk_below (g := gb123) (o := .cells #[.int .u64 a0_0, .int .u64 a0_1] 52 (0, 0)) (bk BK123.out) hb); have n1_ := Aside0.mk (below_step (bw HB.out) hb); have n2_ := Aside0.mk (hbox); have n3_ := Aside0.mk ((by rw [hg]; exact (below_size (bw HB.out)) : w.heap.size ≤ gb124)); have n4_ := Aside0.mk ((by rw [hg]; exact (below_size (bw HB.out)) : w.heap.size ≤ gb124)); have n5_ := Aside0.mk ((by rw [hg]; exact Nat.ne_of_lt (blk_lt (g := gb123) (o := .cells #[.int .u64 a0_0, .int .u64 a0_1] 52 (0, 0)) (bk BK123.out)) : gb123 ≠ gb124)); have n6_ := Aside0.mk ((by rw [hg]; exact Nat.ne_of_gt (blk_lt (g := gb123) (o := .cells #[.int .u64 a0_0, .int .u64 a0_1] 52 (0, 0)) (bk BK123.out)) : gb124 ≠ gb123)); clear BK123; clear HB; have BK123 := n0_; have HB := n1_; have BK124 := n2_; have GW124 := n3_; have GE124 := n4_; have NB123_124 := n5_; have NB124_123 := n6_; clear n0_ n1_ n2_ n3_ n4_ n5_ n6_; clear hb hbox hg; have hnb16 := NB124_123.out; have hnc16 := NB123_124.out; have hcz17_0 : w15.cell? ⟨gb124, 0, none⟩ = some (.bool a2_0) := (blk_cell BK124.out 0).trans rfl; have hcz17_1 : w15.cell? ⟨gb124, 1, none⟩ = some (.bool true) := (blk_cell BK124.out 1).trans rfl; have hcz17_2 : w15.cell? ⟨gb124, 2, none⟩ = some (.bool false) := (blk_cell BK124.out 2).trans rfl; have hcz17_3 : w15.cell? ⟨gb124, 3, none⟩ = some (.int .u64 a2_3) := (blk_cell BK124.out 3).trans rfl; have hcz17_4 : w15.cell? ⟨gb124, 4, none⟩ = some (.int .i64 a2_4) := (blk_cell BK124.out 4).trans rfl; have hfz17_0 := blk_frozen BK124.out 0; have hfz17_1 := blk_frozen BK124.out 1; have hfz17_2 := blk_frozen BK124.out 2; have hfz17_3 := blk_frozen BK124.out 3; have hfz17_4 := blk_frozen BK124.out 4; have hcz18_0 : w15.cell? ⟨gb123, 0, none⟩ = some (.int .u64 a0_0) := (blk_cell BK123.out 0).trans rfl; have hcz18_1 : w15.cell? ⟨gb123, 1, none⟩ = some (.int .u64 a0_1) := (blk_cell BK123.out 1).trans rfl; have hfz18_0 := blk_frozen BK123.out 0; have hfz18_1 := blk_frozen BK123.out 1) | ((with_reducible refine gate_callee (f := 49) rfl ?_); refine goesL_ (some 22) rfl rfl Try.func49 (by kernel_rfl) rfl #[.agg #[.int .u64 a0_0, .int .u64 a0_1], .bool a2_0] rfl ar ?_; (with_reducible refine (spec_l4K_inf.calls a0_0 a0_1 a2_0 t126 _ A13.out).mono ?_); rintro e w19 ⟨rfl, hb⟩; refine ⟨_, rfl, ?_⟩; have n0_ := Aside0.mk (blk_below (g := gb123) (o := .cells #[.int .u64 a0_0, .int .u64 a0_1] 52 (0, 0)) (bk BK123.out) hb); have n1_ := Aside0.mk (blk_below (g := gb124) (o := .cells #[.bool a2_0, .bool true, .bool false, .int .u64 a2_3, .int .i64 a2_4] 56 (0, 0)) (bk BK124.out) hb); have n2_ := Aside0.mk (below_step (bw HB.out) hb); clear BK123; clear BK124; clear HB; have BK123 := n0_; have BK124 := n1_; have HB := n2_; clear n0_ n1_ n2_; (try clear hb)))
   go_ret
   exact ⟨by first | rfl | (simp [errW_none, errW_some] <;> rfl) | (simp [*, errW_none, errW_some] <;> rfl), bw HB.out⟩
  ·
   replace c12 := Bool.eq_false_iff.mpr c12
   subst c12
   have H1 : (if a2_4 ≥ 0 then ((spec_l4K_round.f k a0_0 a0_1 a2_0 a2_3 a2_4 false).bind fun t127 => (some t127)) else (if a2_3 = 0 then ((spec_l4K_round.f k a0_0 a0_1 a2_0 a2_3 a2_4 false).bind fun t128 => (some t128)) else (if (IntKind.u64.wrap (wrap64 (-a2_4))) < 60 then (if 0 ≤ (IntKind.u64.wrap (wrap64 (-a2_4))) then (if 0 ≤ (IntKind.u64.wrap ((IntKind.u64.wrap (wrap64 (-a2_4))) - 1)) then ((spec_l4Side.f (Go.bits .and .u64 a2_3 (IntKind.u64.wrap ((shl .u64 1 (IntKind.u64.wrap (wrap64 (-a2_4)))) - 1))) (shl .u64 1 (IntKind.u64.wrap ((IntKind.u64.wrap (wrap64 (-a2_4))) - 1)))).bind fun t129 => (spec_l4K_whole.j0 k a1 (Go.bits .and .u64 a2_3 (IntKind.u64.wrap ((shl .u64 1 (IntKind.u64.wrap (wrap64 (-a2_4)))) - 1))) (shr .u64 a2_3 (IntKind.u64.wrap (wrap64 (-a2_4)))) t129 a0_0 a0_1 a2_0 false false a2_3 a2_4)) else (none)) else (none)) else (spec_l4K_whole.j0 k a1 a2_3 0 (-1) a0_0 a0_1 a2_0 false false a2_3 a2_4)))) = some r := by rw [if_neg (show ¬ (false = true) by decide)] at H; exact H
   clear H
   have H := H1
   clear H1
   by_cases c20 : a2_4 ≥ 0
   ·
    rw [if_pos c20] at H
    have c20b0 : decide (0 ≤ a2_4) = true := decide_eq_true c20
    clear c20
    replace H := Option.bind_eq_some_iff.mp H
    obtain ⟨t127, A210, H⟩ := H
    replace H : (some t127) = some r := H
    have A21 := Aside0.mk A210
    clear A210
    obtain rfl := Option.some.inj H
    simp only [Option.some.injEq, Prod.mk.injEq] at H
    obtain ⟨rfl⟩ := H
    go_enter Try.func63, Try.ntmps63
    go_wp2_with (first | ((with_reducible refine gate_dst (N := 3) rfl ?_); refine box_event ?hg (N := 3) ?hd (cs := #[.int .u64 a0_0, .int .u64 a0_1]) (t := 52) ?hr ?_; (case hd => rfl); (case hg => rfl); (case hr => first | (go_simp; done) | (go_simp; rfl)); intro gb123 hg w22 hbox hb; have n0_ := Aside0.mk (below_step (bw HB.out) hb); have n1_ := Aside0.mk (hbox); have n2_ := Aside0.mk ((by rw [hg]; exact (below_size (bw HB.out)) : w.heap.size ≤ gb123)); have n3_ := Aside0.mk ((by rw [hg]; exact (below_size (bw HB.out)) : w.heap.size ≤ gb123)); clear HB; have HB := n0_; have BK123 := n1_; have GW123 := n2_; have GE123 := n3_; clear n0_ n1_ n2_ n3_; clear hb hbox hg) | ((with_reducible refine gate_dst (N := 5) rfl ?_); refine box_event ?hg (N := 5) ?hd (cs := #[.bool a2_0, .bool false, .bool false, .int .u64 a2_3, .int .i64 a2_4]) (t := 56) ?hr ?_; (case hd => rfl); (case hg => rfl); (case hr => first | (go_simp; done) | (go_simp; rfl)); intro gb124 hg w23 hbox hb; have n0_ := Aside0.mk (blk_below (g := gb123) (o := .cells #[.int .u64 a0_0, .int .u64 a0_1] 52 (0, 0)) (bk BK123.out) hb); have n1_ := Aside0.mk (below_step (bw HB.out) hb); have n2_ := Aside0.mk (hbox); have n3_ := Aside0.mk ((by rw [hg]; exact (below_size (bw HB.out)) : w.heap.size ≤ gb124)); have n4_ := Aside0.mk ((by rw [hg]; exact (below_size (bw HB.out)) : w.heap.size ≤ gb124)); have n5_ := Aside0.mk ((by rw [hg]; exact Nat.ne_of_lt (blk_lt (g := gb123) (o := .cells #[.int .u64 a0_0, .int .u64 a0_1] 52 (0, 0)) (bk BK123.out)) : gb123 ≠ gb124)); have n6_ := Aside0.mk ((by rw [hg]; exact Nat.ne_of_gt (blk_lt (g := gb123) (o := .cells #[.int .u64 a0_0, .int .u64 a0_1] 52 (0, 0)) (bk BK123.out)) : gb124 ≠ gb123)); clear BK123; clear HB; have BK123 := n0_; have HB := n1_; have BK124 := n2_; have GW124 := n3_; have GE124 := n4_; have NB123_124 := n5_; have NB124_123 := n6_; clear n0_ n1_ n2_ n3_ n4_ n5_ n6_; clear hb hbox hg; have hnb24 := NB124_123.out; have hnc24 := NB123_124.out; have hcz25_0 : w23.cell? ⟨gb124, 0, none⟩ = some (.bool a2_0) := (blk_cell BK124.out 0).trans rfl; have hcz25_1 : w23.cell? ⟨gb124, 1, none⟩ = some (.bool false) := (blk_cell BK124.out 1).trans rfl; have hcz25_2 : w23.cell? ⟨gb124, 2, none⟩ = some (.bool false) := (blk_cell BK124.out 2).trans rfl; have hcz25_3 : w23.cell? ⟨gb124, 3, none⟩ = some (.int .u64 a2_3) := (blk_cell BK124.out 3).trans rfl; have hcz25_4 : w23.cell? ⟨gb124, 4, none⟩ = some (.int .i64 a2_4) := (blk_cell BK124.out 4).trans rfl; have hfz25_0 := blk_frozen BK124.out 0; have hfz25_1 := blk_frozen BK124.out 1; have hfz25_2 := blk_frozen BK124.out 2; have hfz25_3 := blk_frozen BK124.out 3; have hfz25_4 := blk_frozen BK124.out 4; have hcz26_0 : w23.cell? ⟨gb123, 0, none⟩ = some (.int .u64 a0_0) := (blk_cell BK123.out 0).trans rfl; have hcz26_1 : w23.cell? ⟨gb123, 1, none⟩ = some (.int .u64 a0_1) := (blk_cell BK123.out 1).trans rfl; have hfz26_0 := blk_frozen BK123.out 0; have hfz26_1 := blk_frozen BK123.out 1) | ((with_reducible refine gate_callee (f := 50) rfl ?_); refine goesL_ (some 39) rfl rfl Try.func50 (by kernel_rfl) rfl #[.agg #[.int .u64 a0_0, .int .u64 a0_1], .bool a2_0, .int .u64 a2_3, .int .i64 a2_4, .bool false] rfl ar ?_; (with_reducible refine (spec_l4K_round.calls k a0_0 a0_1 a2_0 a2_3 a2_4 false t127 _ A21.out).mono ?_); rintro e w27 ⟨rfl, hb⟩; refine ⟨_, rfl, ?_⟩; have n0_ := Aside0.mk (blk_below (g := gb123) (o := .cells #[.int .u64 a0_0, .int .u64 a0_1] 52 (0, 0)) (bk BK123.out) hb); have n1_ := Aside0.mk (blk_below (g := gb124) (o := .cells #[.bool a2_0, .bool false, .bool false, .int .u64 a2_3, .int .i64 a2_4] 56 (0, 0)) (bk BK124.out) hb); have n2_ := Aside0.mk (below_step (bw HB.out) hb); clear BK123; clear BK124; clear HB; have BK123 := n0_; have BK124 := n1_; have HB := n2_; clear n0_ n1_ n2_; (try clear hb)))
    go_ret
    exact ⟨by first | rfl | (simp [errW_none, errW_some] <;> rfl) | (simp [*, errW_none, errW_some] <;> rfl), bw HB.out⟩
   ·
    rw [if_neg c20] at H
    have c20b0 : decide (0 ≤ a2_4) = false := decide_eq_false c20
    clear c20
    by_cases c28 : a2_3 = 0
    ·
     rw [if_pos c28] at H
     have c28b0 : (a2_3 == 0) = true := beq_iff_eq.mpr c28
     have c28b1 : (a2_3 != 0) = false := bne_eq_false_iff_eq.mpr c28
     clear c28
     replace H := Option.bind_eq_some_iff.mp H
     obtain ⟨t128, A290, H⟩ := H
     replace H : (some t128) = some r := H
     have A29 := Aside0.mk A290
     clear A290
     obtain rfl := Option.some.inj H
     simp only [Option.some.injEq, Prod.mk.injEq] at H
     obtain ⟨rfl⟩ := H
     go_enter Try.func63, Try.ntmps63
     go_wp2_with (first | ((with_reducible refine gate_dst (N := 3) rfl ?_); refine box_event ?hg (N := 3) ?hd (cs := #[.int .u64 a0_0, .int .u64 a0_1]) (t := 52) ?hr ?_; (case hd => rfl); (case hg => rfl); (case hr => first | (go_simp; done) | (go_simp; rfl)); intro gb123 hg w30 hbox hb; have n0_ := Aside0.mk (below_step (bw HB.out) hb); have n1_ := Aside0.mk (hbox); have n2_ := Aside0.mk ((by rw [hg]; exact (below_size (bw HB.out)) : w.heap.size ≤ gb123)); have n3_ := Aside0.mk ((by rw [hg]; exact (below_size (bw HB.out)) : w.heap.size ≤ gb123)); clear HB; have HB := n0_; have BK123 := n1_; have GW123 := n2_; have GE123 := n3_; clear n0_ n1_ n2_ n3_; clear hb hbox hg) | ((with_reducible refine gate_dst (N := 5) rfl ?_); refine box_event ?hg (N := 5) ?hd (cs := #[.bool a2_0, .bool false, .bool false, .int .u64 a2_3, .int .i64 a2_4]) (t := 56) ?hr ?_; (case hd => rfl); (case hg => rfl); (case hr => first | (go_simp; done) | (go_simp; rfl)); intro gb124 hg w31 hbox hb; have n0_ := Aside0.mk (blk_below (g := gb123) (o := .cells #[.int .u64 a0_0, .int .u64 a0_1] 52 (0, 0)) (bk BK123.out) hb); have n1_ := Aside0.mk (below_step (bw HB.out) hb); have n2_ := Aside0.mk (hbox); have n3_ := Aside0.mk ((by rw [hg]; exact (below_size (bw HB.out)) : w.heap.size ≤ gb124)); have n4_ := Aside0.mk ((by rw [hg]; exact (below_size (bw HB.out)) : w.heap.size ≤ gb124)); have n5_ := Aside0.mk ((by rw [hg]; exact Nat.ne_of_lt (blk_lt (g := gb123) (o := .cells #[.int .u64 a0_0, .int .u64 a0_1] 52 (0, 0)) (bk BK123.out)) : gb123 ≠ gb124)); have n6_ := Aside0.mk ((by rw [hg]; exact Nat.ne_of_gt (blk_lt (g := gb123) (o := .cells #[.int .u64 a0_0, .int .u64 a0_1] 52 (0, 0)) (bk BK123.out)) : gb124 ≠ gb123)); clear BK123; clear HB; have BK123 := n0_; have HB := n1_; have BK124 := n2_; have GW124 := n3_; have GE124 := n4_; have NB123_124 := n5_; have NB124_123 := n6_; clear n0_ n1_ n2_ n3_ n4_ n5_ n6_; clear hb hbox hg; have hnb32 := NB124_123.out; have hnc32 := NB123_124.out; have hcz33_0 : w31.cell? ⟨gb124, 0, none⟩ = some (.bool a2_0) := (blk_cell BK124.out 0).trans rfl; have hcz33_1 : w31.cell? ⟨gb124, 1, none⟩ = some (.bool false) := (blk_cell BK124.out 1).trans rfl; have hcz33_2 : w31.cell? ⟨gb124, 2, none⟩ = some (.bool false) := (blk_cell BK124.out 2).trans rfl; have hcz33_3 : w31.cell? ⟨gb124, 3, none⟩ = some (.int .u64 a2_3) := (blk_cell BK124.out 3).trans rfl; have hcz33_4 : w31.cell? ⟨gb124, 4, none⟩ = some (.int .i64 a2_4) := (blk_cell BK124.out 4).trans rfl; have hfz33_0 := blk_frozen BK124.out 0; have hfz33_1 := blk_frozen BK124.out 1; have hfz33_2 := blk_frozen BK124.out 2; have hfz33_3 := blk_frozen BK124.out 3; have hfz33_4 := blk_frozen BK124.out 4; have hcz34_0 : w31.cell? ⟨gb123, 0, none⟩ = some (.int .u64 a0_0) := (blk_cell BK123.out 0).trans rfl; have hcz34_1 : w31.cell? ⟨gb123, 1, none⟩ = some (.int .u64 a0_1) := (blk_cell BK123.out 1).trans rfl; have hfz34_0 := blk_frozen BK123.out 0; have hfz34_1 := blk_frozen BK123.out 1) | ((with_reducible refine gate_callee (f := 50) rfl ?_); refine goesL_ (some 39) rfl rfl Try.func50 (by kernel_rfl) rfl #[.agg #[.int .u64 a0_0, .int .u64 a0_1], .bool a2_0, .int .u64 a2_3, .int .i64 a2_4, .bool false] rfl ar ?_; (with_reducible refine (spec_l4K_round.calls k a0_0 a0_1 a2_0 a2_3 a2_4 false t128 _ A29.out).mono ?_); rintro e w35 ⟨rfl, hb⟩; refine ⟨_, rfl, ?_⟩; have n0_ := Aside0.mk (blk_below (g := gb123) (o := .cells #[.int .u64 a0_0, .int .u64 a0_1] 52 (0, 0)) (bk BK123.out) hb); have n1_ := Aside0.mk (blk_below (g := gb124) (o := .cells #[.bool a2_0, .bool false, .bool false, .int .u64 a2_3, .int .i64 a2_4] 56 (0, 0)) (bk BK124.out) hb); have n2_ := Aside0.mk (below_step (bw HB.out) hb); clear BK123; clear BK124; clear HB; have BK123 := n0_; have BK124 := n1_; have HB := n2_; clear n0_ n1_ n2_; (try clear hb)))
     go_ret
     exact ⟨by first | rfl | (simp [errW_none, errW_some] <;> rfl) | (simp [*, errW_none, errW_some] <;> rfl), bw HB.out⟩
    ·
     rw [if_neg c28] at H
     have c28b0 : (a2_3 == 0) = false := beq_eq_false_iff_ne.mpr c28
     have c28b1 : (a2_3 != 0) = true := bne_iff_ne.mpr c28
     have HC36 := Aside0.mk H
     clear H
     go_enter Try.func63, Try.ntmps63
     go_upto_if 47 with (first | ((with_reducible refine gate_dst (N := 3) rfl ?_); refine box_event ?hg (N := 3) ?hd (cs := #[.int .u64 a0_0, .int .u64 a0_1]) (t := 52) ?hr ?_; (case hd => rfl); (case hg => rfl); (case hr => first | (go_simp; done) | (go_simp; rfl)); intro gb123 hg w37 hbox hb; have n0_ := Aside0.mk (below_step (bw HB.out) hb); have n1_ := Aside0.mk (hbox); have n2_ := Aside0.mk ((by rw [hg]; exact (below_size (bw HB.out)) : w.heap.size ≤ gb123)); have n3_ := Aside0.mk ((by rw [hg]; exact (below_size (bw HB.out)) : w.heap.size ≤ gb123)); clear HB; have HB := n0_; have BK123 := n1_; have GW123 := n2_; have GE123 := n3_; clear n0_ n1_ n2_ n3_; clear hb hbox hg) | ((with_reducible refine gate_dst (N := 5) rfl ?_); refine box_event ?hg (N := 5) ?hd (cs := #[.bool a2_0, .bool false, .bool false, .int .u64 a2_3, .int .i64 a2_4]) (t := 56) ?hr ?_; (case hd => rfl); (case hg => rfl); (case hr => first | (go_simp; done) | (go_simp; rfl)); intro gb124 hg w38 hbox hb; have n0_ := Aside0.mk (blk_below (g := gb123) (o := .cells #[.int .u64 a0_0, .int .u64 a0_1] 52 (0, 0)) (bk BK123.out) hb); have n1_ := Aside0.mk (below_step (bw HB.out) hb); have n2_ := Aside0.mk (hbox); have n3_ := Aside0.mk ((by rw [hg]; exact (below_size (bw HB.out)) : w.heap.size ≤ gb124)); have n4_ := Aside0.mk ((by rw [hg]; exact (below_size (bw HB.out)) : w.heap.size ≤ gb124)); have n5_ := Aside0.mk ((by rw [hg]; exact Nat.ne_of_lt (blk_lt (g := gb123) (o := .cells #[.int .u64 a0_0, .int .u64 a0_1] 52 (0, 0)) (bk BK123.out)) : gb123 ≠ gb124)); have n6_ := Aside0.mk ((by rw [hg]; exact Nat.ne_of_gt (blk_lt (g := gb123) (o := .cells #[.int .u64 a0_0, .int .u64 a0_1] 52 (0, 0)) (bk BK123.out)) : gb124 ≠ gb123)); clear BK123; clear HB; have BK123 := n0_; have HB := n1_; have BK124 := n2_; have GW124 := n3_; have GE124 := n4_; have NB123_124 := n5_; have NB124_123 := n6_; clear n0_ n1_ n2_ n3_ n4_ n5_ n6_; clear hb hbox hg; have hnb39 := NB124_123.out; have hnc39 := NB123_124.out; have hcz40_0 : w38.cell? ⟨gb124, 0, none⟩ = some (.bool a2_0) := (blk_cell BK124.out 0).trans rfl; have hcz40_1 : w38.cell? ⟨gb124, 1, none⟩ = some (.bool false) := (blk_cell BK124.out 1).trans rfl; have hcz40_2 : w38.cell? ⟨gb124, 2, none⟩ = some (.bool false) := (blk_cell BK124.out 2).trans rfl; have hcz40_3 : w38.cell? ⟨gb124, 3, none⟩ = some (.int .u64 a2_3) := (blk_cell BK124.out 3).trans rfl; have hcz40_4 : w38.cell? ⟨gb124, 4, none⟩ = some (.int .i64 a2_4) := (blk_cell BK124.out 4).trans rfl; have hfz40_0 := blk_frozen BK124.out 0; have hfz40_1 := blk_frozen BK124.out 1; have hfz40_2 := blk_frozen BK124.out 2; have hfz40_3 := blk_frozen BK124.out 3; have hfz40_4 := blk_frozen BK124.out 4))
     (try simp only [Act.put, List.setIfInBounds_toArray, List.set_cons_zero, List.set_cons_succ])
     go_cut [8, 9, 10] (fun v8 v9 v10 wc => ∃ (kq : Nat) (x8_35 : Int) (x9_35 : Int) (x10_35 : Int), v8 = .int .u64 x8_35 ∧ v9 = .int .u64 x9_35 ∧ v10 = .int .i64 x10_35 ∧ Aside0 (spec_l4K_whole.j0 kq a1 x8_35 x9_35 x10_35 a0_0 a0_1 a2_0 false false a2_3 a2_4 = some r) ∧ Aside0 (kq ≤ k) ∧ Aside0 (wc.heap[gb123]? = some (.cells #[.int .u64 a0_0, .int .u64 a0_1] 52 (0, 0))) ∧ Aside0 (wc.heap[gb124]? = some (.cells #[.bool a2_0, .bool false, .bool false, .int .u64 a2_3, .int .i64 a2_4] 56 (0, 0))) ∧ Aside0 (Below w.heap.size w wc))
     case first =>
      have H := HC36.out
      clear HC36
      by_cases c41 : (IntKind.u64.wrap (wrap64 (-a2_4))) < 60
      ·
       rw [if_pos c41] at H
       have c41b0 : decide ((IntKind.u64.wrap (wrap64 (-a2_4))) < 60) = true := decide_eq_true c41
       clear c41
       (first | rw [c41b0] | (simp only [i64_w, i32_w]; rw [c41b0]) | skip)
       obtain ⟨ji42, hji42⟩ : ∃ j_ : Int, (IntKind.u64.wrap (wrap64 (-a2_4))) = j_ := ⟨_, rfl⟩
       replace H : (if 0 ≤ (ji42) then (if 0 ≤ (IntKind.u64.wrap ((ji42) - 1)) then ((spec_l4Side.f (Go.bits .and .u64 a2_3 (IntKind.u64.wrap ((shl .u64 1 (ji42)) - 1))) (shl .u64 1 (IntKind.u64.wrap ((ji42) - 1)))).bind fun t129 => (spec_l4K_whole.j0 k a1 (Go.bits .and .u64 a2_3 (IntKind.u64.wrap ((shl .u64 1 (ji42)) - 1))) (shr .u64 a2_3 (ji42)) t129 a0_0 a0_1 a2_0 false false a2_3 a2_4)) else (none)) else (none)) = some r := by first | (rw [hji42] at H; exact H) | (simp only [hji42] at H ⊢; exact H)
       (try rw [hji42] at c41b0)
       by_cases c43 : 0 ≤ (ji42)
       ·
        rw [if_pos c43] at H
        have c43b0 := eq_true c43
        have c43b1 : decide (0 ≤ (ji42)) = true := decide_eq_true c43
        clear c43
        obtain ⟨ji44, hji44⟩ : ∃ j_ : Int, (shr .u64 a2_3 (ji42)) = j_ := ⟨_, rfl⟩
        replace H : (if 0 ≤ (IntKind.u64.wrap ((ji42) - 1)) then ((spec_l4Side.f (Go.bits .and .u64 a2_3 (IntKind.u64.wrap ((shl .u64 1 (ji42)) - 1))) (shl .u64 1 (IntKind.u64.wrap ((ji42) - 1)))).bind fun t129 => (spec_l4K_whole.j0 k a1 (Go.bits .and .u64 a2_3 (IntKind.u64.wrap ((shl .u64 1 (ji42)) - 1))) ji44 t129 a0_0 a0_1 a2_0 false false a2_3 a2_4)) else (none)) = some r := by first | (rw [hji44] at H; exact H) | (simp only [hji44] at H ⊢; exact H)
        have hji44_ : (a2_3 / 2 ^ min (ji42).toNat 64) = ji44 := hji44
        have hji44z : (ji42) ≤ 64 → (a2_3 / 2 ^ (ji42).toNat) = ji44 := shr_small hji44
        have c45b0 := eq_true (of_decide_eq_true (by first | (with_reducible assumption) | assumption) : 0 ≤ (ji42))
        obtain ⟨ji46, hji46⟩ : ∃ j_ : Int, (shl .u64 1 (ji42)) = j_ := ⟨_, rfl⟩
        replace H : (if 0 ≤ (IntKind.u64.wrap ((ji42) - 1)) then ((spec_l4Side.f (Go.bits .and .u64 a2_3 (IntKind.u64.wrap ((ji46) - 1))) (shl .u64 1 (IntKind.u64.wrap ((ji42) - 1)))).bind fun t129 => (spec_l4K_whole.j0 k a1 (Go.bits .and .u64 a2_3 (IntKind.u64.wrap ((ji46) - 1))) ji44 t129 a0_0 a0_1 a2_0 false false a2_3 a2_4)) else (none)) = some r := by first | (rw [hji46] at H; exact H) | (simp only [hji46] at H ⊢; exact H)
        have hji46_ : (IntKind.u64.wrap (1 * 2 ^ min (ji42).toNat 64)) = ji46 := hji46
        have hji46z : (ji42) ≤ 64 → (IntKind.u64.wrap (1 * 2 ^ (ji42).toNat)) = ji46 := shl_small hji46
        have hji46u : (IntKind.u64.wrap (2 ^ min (ji42).toNat 64)) = ji46 := by have h_ := hji46_; rw [Int.one_mul] at h_; exact h_
        have hji46v : (ji42) ≤ 64 → (IntKind.u64.wrap (2 ^ (ji42).toNat)) = ji46 := fun hle_ => by have h_ := hji46z hle_; rw [Int.one_mul] at h_; exact h_
        obtain ⟨ji47, hji47⟩ : ∃ j_ : Int, (IntKind.u64.wrap ((ji42) - 1)) = j_ := ⟨_, rfl⟩
        replace H : (if 0 ≤ (ji47) then ((spec_l4Side.f (Go.bits .and .u64 a2_3 (IntKind.u64.wrap ((ji46) - 1))) (shl .u64 1 (ji47))).bind fun t129 => (spec_l4K_whole.j0 k a1 (Go.bits .and .u64 a2_3 (IntKind.u64.wrap ((ji46) - 1))) ji44 t129 a0_0 a0_1 a2_0 false false a2_3 a2_4)) else (none)) = some r := by first | (rw [hji47] at H; exact H) | (simp only [hji47] at H ⊢; exact H)
        by_cases c48 : 0 ≤ (ji47)
        ·
         rw [if_pos c48] at H
         have c48b0 := eq_true c48
         have c48b1 : decide (0 ≤ (ji47)) = true := decide_eq_true c48
         clear c48
         obtain ⟨ji49, hji49⟩ : ∃ j_ : Int, (shl .u64 1 (ji47)) = j_ := ⟨_, rfl⟩
         replace H : ((spec_l4Side.f (Go.bits .and .u64 a2_3 (IntKind.u64.wrap ((ji46) - 1))) (ji49)).bind fun t129 => (spec_l4K_whole.j0 k a1 (Go.bits .and .u64 a2_3 (IntKind.u64.wrap ((ji46) - 1))) ji44 t129 a0_0 a0_1 a2_0 false false a2_3 a2_4)) = some r := by first | (rw [hji49] at H; exact H) | (simp only [hji49] at H ⊢; exact H)
         have hji49_ : (IntKind.u64.wrap (1 * 2 ^ min (ji47).toNat 64)) = ji49 := hji49
         have hji49z : (ji47) ≤ 64 → (IntKind.u64.wrap (1 * 2 ^ (ji47).toNat)) = ji49 := shl_small hji49
         have hji49u : (IntKind.u64.wrap (2 ^ min (ji47).toNat 64)) = ji49 := by have h_ := hji49_; rw [Int.one_mul] at h_; exact h_
         have hji49v : (ji47) ≤ 64 → (IntKind.u64.wrap (2 ^ (ji47).toNat)) = ji49 := fun hle_ => by have h_ := hji49z hle_; rw [Int.one_mul] at h_; exact h_
         replace H := Option.bind_eq_some_iff.mp H
         obtain ⟨t129, A500, H⟩ := H
         replace H : (spec_l4K_whole.j0 k a1 (Go.bits .and .u64 a2_3 (IntKind.u64.wrap ((ji46) - 1))) ji44 t129 a0_0 a0_1 a2_0 false false a2_3 a2_4) = some r := H
         have A50 := Aside0.mk A500
         clear A500
         have H' := Aside0.mk H
         clear H
         have hnb51 := NB124_123.out
         have hnc51 := NB123_124.out
         have hcz52_0 : w38.cell? ⟨gb124, 0, none⟩ = some (.bool a2_0) := (blk_cell BK124.out 0).trans rfl
         have hcz52_1 : w38.cell? ⟨gb124, 1, none⟩ = some (.bool false) := (blk_cell BK124.out 1).trans rfl
         have hcz52_2 : w38.cell? ⟨gb124, 2, none⟩ = some (.bool false) := (blk_cell BK124.out 2).trans rfl
         have hcz52_3 : w38.cell? ⟨gb124, 3, none⟩ = some (.int .u64 a2_3) := (blk_cell BK124.out 3).trans rfl
         have hcz52_4 : w38.cell? ⟨gb124, 4, none⟩ = some (.int .i64 a2_4) := (blk_cell BK124.out 4).trans rfl
         have hfz52_0 := blk_frozen BK124.out 0
         have hfz52_1 := blk_frozen BK124.out 1
         have hfz52_2 := blk_frozen BK124.out 2
         have hfz52_3 := blk_frozen BK124.out 3
         have hfz52_4 := blk_frozen BK124.out 4
         go_wp2_with (first | ((with_reducible refine gate_callee (f := 88) rfl ?_); refine goesL_ (some 62) rfl rfl Try.func88 (by kernel_rfl) rfl #[.int .u64 (Go.bits .and .u64 a2_3 (IntKind.u64.wrap ((ji46) - 1))), .int .u64 ji49] rfl (by (try simp only [List.map_toArray, List.map_cons, List.map_nil]); first | done | (simp only [hji46, hji49]; rfl) | rfl | (simp only [List.length_drop, List.length_take]; rfl)) ?_; (with_reducible refine (spec_l4Side.calls (Go.bits .and .u64 a2_3 (IntKind.u64.wrap ((ji46) - 1))) ji49 t129 _ A50.out).mono ?_); rintro e w' ⟨rfl, ⟨nd, rfl⟩⟩; refine ⟨_, rfl, ?_⟩))
         first | go_meet | ((simp only [← hji49]); go_meet) | ((simp only [← hji47]); go_meet) | ((simp only [← hji46]); go_meet) | ((simp only [← hji44]); go_meet) | ((simp only [← hji42]); go_meet) | ((simp only [← hji49, ← hji47, ← hji46, ← hji44, ← hji42]); go_meet)
         case rel => exact ⟨_, (Go.bits .and .u64 a2_3 (IntKind.u64.wrap ((ji46) - 1))), (ji44), (t129), (by first | rfl | (simp; done) | (simp only [← hji46] <;> (first | rfl | simp)) | (simp [*]; done)), (by first | rfl | (simp; done) | (simp only [← hji44] <;> (first | rfl | simp)) | (simp [*]; done)), (by first | rfl | (simp; done) | (simp [*]; done)), H', ⟨by first | omega | exact Nat.le_refl _⟩, ⟨bk BK123.out⟩, ⟨bk BK124.out⟩, ⟨bw HB.out⟩⟩
        ·
         rw [if_neg c48] at H
         exact absurd H (by simp)
       ·
        rw [if_neg c43] at H
        exact absurd H (by simp)
      ·
       rw [if_neg c41] at H
       have c41b0 : decide ((IntKind.u64.wrap (wrap64 (-a2_4))) < 60) = false := decide_eq_false c41
       clear c41
       (first | rw [c41b0] | (simp only [i64_w, i32_w]; rw [c41b0]) | skip)
       have H' := Aside0.mk H
       clear H
       go_wp2
       go_meet
       case rel => exact ⟨_, (a2_3), (0), ((-1)), (by first | rfl | (simp; done) | (simp [*]; done)), (by first | rfl | (simp; done) | (simp [*]; done)), (by first | rfl | (simp; done) | (simp [*]; done)), H', ⟨by first | omega | exact Nat.le_refl _⟩, ⟨bk BK123.out⟩, ⟨bk BK124.out⟩, ⟨bw HB.out⟩⟩
     case rest =>
      clear HC36
      try clear c1
      try clear c2
      try clear p2
      try clear c3
      try clear c4
      try clear c5
      try clear c6
      try clear p6
      try clear c8
      try clear c12
      try clear c16
      try clear c20
      try clear c20b0
      try clear c24
      try clear c28
      try clear c28b0
      try clear c28b1
      try clear c32
      try clear c39
      try clear c41
      try clear c41b0
      try clear c43
      try clear c43b0
      try clear c43b1
      try clear c45
      try clear c45b0
      try clear c48
      try clear c48b0
      try clear c48b1
      try clear c49
      try clear c50
      try clear c51
      try clear hcz10_0 hcz10_1
      try clear hcz17_0 hcz17_1 hcz17_2 hcz17_3 hcz17_4
      try clear hcz18_0 hcz18_1
      try clear hcz25_0 hcz25_1 hcz25_2 hcz25_3 hcz25_4
      try clear hcz26_0 hcz26_1
      try clear hcz33_0 hcz33_1 hcz33_2 hcz33_3 hcz33_4
      try clear hcz34_0 hcz34_1
      try clear hcz40_0 hcz40_1 hcz40_2 hcz40_3 hcz40_4
      try clear hcz52_0 hcz52_1 hcz52_2 hcz52_3 hcz52_4
      try clear hcz9_0 hcz9_1 hcz9_2 hcz9_3 hcz9_4
      try clear hfz10_0 hfz10_1
      try clear hfz17_0 hfz17_1 hfz17_2 hfz17_3 hfz17_4
      try clear hfz18_0 hfz18_1
      try clear hfz25_0 hfz25_1 hfz25_2 hfz25_3 hfz25_4
      try clear hfz26_0 hfz26_1
      try clear hfz33_0 hfz33_1 hfz33_2 hfz33_3 hfz33_4
      try clear hfz34_0 hfz34_1
      try clear hfz40_0 hfz40_1 hfz40_2 hfz40_3 hfz40_4
      try clear hfz52_0 hfz52_1 hfz52_2 hfz52_3 hfz52_4
      try clear hfz9_0 hfz9_1 hfz9_2 hfz9_3 hfz9_4
      obtain ⟨kq, x8_35, x9_35, x10_35, rfl, rfl, rfl, HA, HJ35, BK123, BK124, HB⟩ := hcut
      cases kq with
      | zero => exact absurd HA.out (by simp [spec_l4K_whole.j0])
      | succ kj35 =>
       have H := HA.out
       clear HA
       simp only [spec_l4K_whole.j0] at H
       by_cases c53 : a1 = 1
       ·
        rw [if_pos c53] at H
        have c53b0 : (a1 == 1) = true := beq_iff_eq.mpr c53
        have c53b1 : (a1 != 1) = false := bne_eq_false_iff_eq.mpr c53
        clear c53
        by_cases c54 : x8_35 = 0
        ·
         rw [if_pos c54] at H
         have c54b0 : (x8_35 == 0) = true := beq_iff_eq.mpr c54
         have c54b1 : (x8_35 != 0) = false := bne_eq_false_iff_eq.mpr c54
         clear c54
         replace H := Option.bind_eq_some_iff.mp H
         obtain ⟨t130, A550, H⟩ := H
         replace H : (some t130) = some r := H
         have A55 := Aside0.mk A550
         clear A550
         obtain rfl := Option.some.inj H
         simp only [Option.some.injEq, Prod.mk.injEq] at H
         obtain ⟨rfl⟩ := H
         have hnb56 := NB123_124.out
         have hnc56 := NB124_123.out
         have hcz57_0 : wc.cell? ⟨gb123, 0, none⟩ = some (.int .u64 a0_0) := (blk_cell BK123.out 0).trans rfl
         have hcz57_1 : wc.cell? ⟨gb123, 1, none⟩ = some (.int .u64 a0_1) := (blk_cell BK123.out 1).trans rfl
         have hfz57_0 := blk_frozen BK123.out 0
         have hfz57_1 := blk_frozen BK123.out 1
         have hcz58_0 : wc.cell? ⟨gb124, 0, none⟩ = some (.bool a2_0) := (blk_cell BK124.out 0).trans rfl
         have hcz58_1 : wc.cell? ⟨gb124, 1, none⟩ = some (.bool false) := (blk_cell BK124.out 1).trans rfl
         have hcz58_2 : wc.cell? ⟨gb124, 2, none⟩ = some (.bool false) := (blk_cell BK124.out 2).trans rfl
         have hcz58_3 : wc.cell? ⟨gb124, 3, none⟩ = some (.int .u64 a2_3) := (blk_cell BK124.out 3).trans rfl
         have hcz58_4 : wc.cell? ⟨gb124, 4, none⟩ = some (.int .i64 a2_4) := (blk_cell BK124.out 4).trans rfl
         have hfz58_0 := blk_frozen BK124.out 0
         have hfz58_1 := blk_frozen BK124.out 1
         have hfz58_2 := blk_frozen BK124.out 2
         have hfz58_3 := blk_frozen BK124.out 3
         have hfz58_4 := blk_frozen BK124.out 4
         go_wp2_with (first | ((with_reducible refine gate_callee (f := 50) rfl ?_); refine goesL_ (some 104) rfl rfl Try.func50 (by kernel_rfl) rfl #[.agg #[.int .u64 a0_0, .int .u64 a0_1], .bool a2_0, .int .u64 x9_35, .int .i64 0, .bool false] rfl ar ?_; (with_reducible refine (spec_l4K_round.calls kj35 a0_0 a0_1 a2_0 x9_35 0 false t130 _ A55.out).mono ?_); rintro e w59 ⟨rfl, hb⟩; refine ⟨_, rfl, ?_⟩; have n0_ := Aside0.mk (blk_below (g := gb123) (o := .cells #[.int .u64 a0_0, .int .u64 a0_1] 52 (0, 0)) (bk BK123.out) hb); have n1_ := Aside0.mk (blk_below (g := gb124) (o := .cells #[.bool a2_0, .bool false, .bool false, .int .u64 a2_3, .int .i64 a2_4] 56 (0, 0)) (bk BK124.out) hb); have n2_ := Aside0.mk (below_step (bw HB.out) hb); clear BK123; clear BK124; clear HB; have BK123 := n0_; have BK124 := n1_; have HB := n2_; clear n0_ n1_ n2_; (try clear hb)))
         go_ret
         exact ⟨by first | rfl | (simp [errW_none, errW_some] <;> rfl) | (simp [*, errW_none, errW_some] <;> rfl), bw HB.out⟩
        ·
         rw [if_neg c54] at H
         have c54b0 : (x8_35 == 0) = false := beq_eq_false_iff_ne.mpr c54
         have c54b1 : (x8_35 != 0) = true := bne_iff_ne.mpr c54
         by_cases c60 : a2_0 = true
         ·
          subst c60
          have H1 : ((spec_l4K_round.f kj35 a0_0 a0_1 true x9_35 0 false).bind fun t131 => (some t131)) = some r := by rw [if_pos rfl] at H; exact H
          clear H
          have H := H1
          clear H1
          replace H := Option.bind_eq_some_iff.mp H
          obtain ⟨t131, A610, H⟩ := H
          replace H : (some t131) = some r := H
          have A61 := Aside0.mk A610
          clear A610
          obtain rfl := Option.some.inj H
          simp only [Option.some.injEq, Prod.mk.injEq] at H
          obtain ⟨rfl⟩ := H
          have hnb62 := NB124_123.out
          have hnc62 := NB123_124.out
          have hcz63_0 : wc.cell? ⟨gb124, 0, none⟩ = some (.bool true) := (blk_cell BK124.out 0).trans rfl
          have hcz63_1 : wc.cell? ⟨gb124, 1, none⟩ = some (.bool false) := (blk_cell BK124.out 1).trans rfl
          have hcz63_2 : wc.cell? ⟨gb124, 2, none⟩ = some (.bool false) := (blk_cell BK124.out 2).trans rfl
          have hcz63_3 : wc.cell? ⟨gb124, 3, none⟩ = some (.int .u64 a2_3) := (blk_cell BK124.out 3).trans rfl
          have hcz63_4 : wc.cell? ⟨gb124, 4, none⟩ = some (.int .i64 a2_4) := (blk_cell BK124.out 4).trans rfl
          have hfz63_0 := blk_frozen BK124.out 0
          have hfz63_1 := blk_frozen BK124.out 1
          have hfz63_2 := blk_frozen BK124.out 2
          have hfz63_3 := blk_frozen BK124.out 3
          have hfz63_4 := blk_frozen BK124.out 4
          have hcz64_0 : wc.cell? ⟨gb123, 0, none⟩ = some (.int .u64 a0_0) := (blk_cell BK123.out 0).trans rfl
          have hcz64_1 : wc.cell? ⟨gb123, 1, none⟩ = some (.int .u64 a0_1) := (blk_cell BK123.out 1).trans rfl
          have hfz64_0 := blk_frozen BK123.out 0
          have hfz64_1 := blk_frozen BK123.out 1
          go_wp2_with (first | ((with_reducible refine gate_callee (f := 50) rfl ?_); refine goesL_ (some 104) rfl rfl Try.func50 (by kernel_rfl) rfl #[.agg #[.int .u64 a0_0, .int .u64 a0_1], .bool true, .int .u64 x9_35, .int .i64 0, .bool false] rfl ar ?_; (with_reducible refine (spec_l4K_round.calls kj35 a0_0 a0_1 true x9_35 0 false t131 _ A61.out).mono ?_); rintro e w65 ⟨rfl, hb⟩; refine ⟨_, rfl, ?_⟩; have n0_ := Aside0.mk (blk_below (g := gb123) (o := .cells #[.int .u64 a0_0, .int .u64 a0_1] 52 (0, 0)) (bk BK123.out) hb); have n1_ := Aside0.mk (blk_below (g := gb124) (o := .cells #[.bool true, .bool false, .bool false, .int .u64 a2_3, .int .i64 a2_4] 56 (0, 0)) (bk BK124.out) hb); have n2_ := Aside0.mk (below_step (bw HB.out) hb); clear BK123; clear BK124; clear HB; have BK123 := n0_; have BK124 := n1_; have HB := n2_; clear n0_ n1_ n2_; (try clear hb)))
          go_ret
          exact ⟨by first | rfl | (simp [errW_none, errW_some] <;> rfl) | (simp [*, errW_none, errW_some] <;> rfl), bw HB.out⟩
         ·
          replace c60 := Bool.eq_false_iff.mpr c60
          subst c60
          have H1 : ((spec_l4K_round.f kj35 a0_0 a0_1 false (IntKind.u64.wrap (x9_35 + 1)) 0 false).bind fun t132 => (some t132)) = some r := by rw [if_neg (show ¬ (false = true) by decide)] at H; exact H
          clear H
          have H := H1
          clear H1
          replace H := Option.bind_eq_some_iff.mp H
          obtain ⟨t132, A660, H⟩ := H
          replace H : (some t132) = some r := H
          have A66 := Aside0.mk A660
          clear A660
          obtain rfl := Option.some.inj H
          simp only [Option.some.injEq, Prod.mk.injEq] at H
          obtain ⟨rfl⟩ := H
          have hnb67 := NB124_123.out
          have hnc67 := NB123_124.out
          have hcz68_0 : wc.cell? ⟨gb124, 0, none⟩ = some (.bool false) := (blk_cell BK124.out 0).trans rfl
          have hcz68_1 : wc.cell? ⟨gb124, 1, none⟩ = some (.bool false) := (blk_cell BK124.out 1).trans rfl
          have hcz68_2 : wc.cell? ⟨gb124, 2, none⟩ = some (.bool false) := (blk_cell BK124.out 2).trans rfl
          have hcz68_3 : wc.cell? ⟨gb124, 3, none⟩ = some (.int .u64 a2_3) := (blk_cell BK124.out 3).trans rfl
          have hcz68_4 : wc.cell? ⟨gb124, 4, none⟩ = some (.int .i64 a2_4) := (blk_cell BK124.out 4).trans rfl
          have hfz68_0 := blk_frozen BK124.out 0
          have hfz68_1 := blk_frozen BK124.out 1
          have hfz68_2 := blk_frozen BK124.out 2
          have hfz68_3 := blk_frozen BK124.out 3
          have hfz68_4 := blk_frozen BK124.out 4
          have hcz69_0 : wc.cell? ⟨gb123, 0, none⟩ = some (.int .u64 a0_0) := (blk_cell BK123.out 0).trans rfl
          have hcz69_1 : wc.cell? ⟨gb123, 1, none⟩ = some (.int .u64 a0_1) := (blk_cell BK123.out 1).trans rfl
          have hfz69_0 := blk_frozen BK123.out 0
          have hfz69_1 := blk_frozen BK123.out 1
          go_wp2_with (first | ((with_reducible refine gate_callee (f := 50) rfl ?_); refine goesL_ (some 104) rfl rfl Try.func50 (by kernel_rfl) rfl #[.agg #[.int .u64 a0_0, .int .u64 a0_1], .bool false, .int .u64 (IntKind.u64.wrap (x9_35 + 1)), .int .i64 0, .bool false] rfl ar ?_; (with_reducible refine (spec_l4K_round.calls kj35 a0_0 a0_1 false (IntKind.u64.wrap (x9_35 + 1)) 0 false t132 _ A66.out).mono ?_); rintro e w70 ⟨rfl, hb⟩; refine ⟨_, rfl, ?_⟩; have n0_ := Aside0.mk (blk_below (g := gb123) (o := .cells #[.int .u64 a0_0, .int .u64 a0_1] 52 (0, 0)) (bk BK123.out) hb); have n1_ := Aside0.mk (blk_below (g := gb124) (o := .cells #[.bool false, .bool false, .bool false, .int .u64 a2_3, .int .i64 a2_4] 56 (0, 0)) (bk BK124.out) hb); have n2_ := Aside0.mk (below_step (bw HB.out) hb); clear BK123; clear BK124; clear HB; have BK123 := n0_; have BK124 := n1_; have HB := n2_; clear n0_ n1_ n2_; (try clear hb)))
          go_ret
          exact ⟨by first | rfl | (simp [errW_none, errW_some] <;> rfl) | (simp [*, errW_none, errW_some] <;> rfl), bw HB.out⟩
       ·
        rw [if_neg c53] at H
        have c53b0 : (a1 == 1) = false := beq_eq_false_iff_ne.mpr c53
        have c53b1 : (a1 != 1) = true := bne_iff_ne.mpr c53
        by_cases c71 : a1 = 2
        ·
         rw [if_pos c71] at H
         have c71b0 : (a1 == 2) = true := beq_iff_eq.mpr c71
         have c71b1 : (a1 != 2) = false := bne_eq_false_iff_eq.mpr c71
         clear c71
         by_cases c72 : x8_35 = 0
         ·
          rw [if_pos c72] at H
          have c72b0 : (x8_35 == 0) = true := beq_iff_eq.mpr c72
          have c72b1 : (x8_35 != 0) = false := bne_eq_false_iff_eq.mpr c72
          clear c72
          replace H := Option.bind_eq_some_iff.mp H
          obtain ⟨t133, A730, H⟩ := H
          replace H : (some t133) = some r := H
          have A73 := Aside0.mk A730
          clear A730
          obtain rfl := Option.some.inj H
          simp only [Option.some.injEq, Prod.mk.injEq] at H
          obtain ⟨rfl⟩ := H
          have hnb74 := NB123_124.out
          have hnc74 := NB124_123.out
          have hcz75_0 : wc.cell? ⟨gb123, 0, none⟩ = some (.int .u64 a0_0) := (blk_cell BK123.out 0).trans rfl
          have hcz75_1 : wc.cell? ⟨gb123, 1, none⟩ = some (.int .u64 a0_1) := (blk_cell BK123.out 1).trans rfl
          have hfz75_0 := blk_frozen BK123.out 0
          have hfz75_1 := blk_frozen BK123.out 1
          have hcz76_0 : wc.cell? ⟨gb124, 0, none⟩ = some (.bool a2_0) := (blk_cell BK124.out 0).trans rfl
          have hcz76_1 : wc.cell? ⟨gb124, 1, none⟩ = some (.bool false) := (blk_cell BK124.out 1).trans rfl
          have hcz76_2 : wc.cell? ⟨gb124, 2, none⟩ = some (.bool false) := (blk_cell BK124.out 2).trans rfl
          have hcz76_3 : wc.cell? ⟨gb124, 3, none⟩ = some (.int .u64 a2_3) := (blk_cell BK124.out 3).trans rfl
          have hcz76_4 : wc.cell? ⟨gb124, 4, none⟩ = some (.int .i64 a2_4) := (blk_cell BK124.out 4).trans rfl
          have hfz76_0 := blk_frozen BK124.out 0
          have hfz76_1 := blk_frozen BK124.out 1
          have hfz76_2 := blk_frozen BK124.out 2
          have hfz76_3 := blk_frozen BK124.out 3
          have hfz76_4 := blk_frozen BK124.out 4
          go_wp2_with (first | ((with_reducible refine gate_callee (f := 50) rfl ?_); refine goesL_ (some 104) rfl rfl Try.func50 (by kernel_rfl) rfl #[.agg #[.int .u64 a0_0, .int .u64 a0_1], .bool a2_0, .int .u64 x9_35, .int .i64 0, .bool false] rfl ar ?_; (with_reducible refine (spec_l4K_round.calls kj35 a0_0 a0_1 a2_0 x9_35 0 false t133 _ A73.out).mono ?_); rintro e w77 ⟨rfl, hb⟩; refine ⟨_, rfl, ?_⟩; have n0_ := Aside0.mk (blk_below (g := gb123) (o := .cells #[.int .u64 a0_0, .int .u64 a0_1] 52 (0, 0)) (bk BK123.out) hb); have n1_ := Aside0.mk (blk_below (g := gb124) (o := .cells #[.bool a2_0, .bool false, .bool false, .int .u64 a2_3, .int .i64 a2_4] 56 (0, 0)) (bk BK124.out) hb); have n2_ := Aside0.mk (below_step (bw HB.out) hb); clear BK123; clear BK124; clear HB; have BK123 := n0_; have BK124 := n1_; have HB := n2_; clear n0_ n1_ n2_; (try clear hb)))
          go_ret
          exact ⟨by first | rfl | (simp [errW_none, errW_some] <;> rfl) | (simp [*, errW_none, errW_some] <;> rfl), bw HB.out⟩
         ·
          rw [if_neg c72] at H
          have c72b0 : (x8_35 == 0) = false := beq_eq_false_iff_ne.mpr c72
          have c72b1 : (x8_35 != 0) = true := bne_iff_ne.mpr c72
          by_cases c78 : a2_0 = true
          ·
           subst c78
           have H1 : ((spec_l4K_round.f kj35 a0_0 a0_1 true (IntKind.u64.wrap (x9_35 + 1)) 0 false).bind fun t134 => (some t134)) = some r := by rw [if_pos rfl] at H; exact H
           clear H
           have H := H1
           clear H1
           replace H := Option.bind_eq_some_iff.mp H
           obtain ⟨t134, A790, H⟩ := H
           replace H : (some t134) = some r := H
           have A79 := Aside0.mk A790
           clear A790
           obtain rfl := Option.some.inj H
           simp only [Option.some.injEq, Prod.mk.injEq] at H
           obtain ⟨rfl⟩ := H
           have hnb80 := NB124_123.out
           have hnc80 := NB123_124.out
           have hcz81_0 : wc.cell? ⟨gb124, 0, none⟩ = some (.bool true) := (blk_cell BK124.out 0).trans rfl
           have hcz81_1 : wc.cell? ⟨gb124, 1, none⟩ = some (.bool false) := (blk_cell BK124.out 1).trans rfl
           have hcz81_2 : wc.cell? ⟨gb124, 2, none⟩ = some (.bool false) := (blk_cell BK124.out 2).trans rfl
           have hcz81_3 : wc.cell? ⟨gb124, 3, none⟩ = some (.int .u64 a2_3) := (blk_cell BK124.out 3).trans rfl
           have hcz81_4 : wc.cell? ⟨gb124, 4, none⟩ = some (.int .i64 a2_4) := (blk_cell BK124.out 4).trans rfl
           have hfz81_0 := blk_frozen BK124.out 0
           have hfz81_1 := blk_frozen BK124.out 1
           have hfz81_2 := blk_frozen BK124.out 2
           have hfz81_3 := blk_frozen BK124.out 3
           have hfz81_4 := blk_frozen BK124.out 4
           have hcz82_0 : wc.cell? ⟨gb123, 0, none⟩ = some (.int .u64 a0_0) := (blk_cell BK123.out 0).trans rfl
           have hcz82_1 : wc.cell? ⟨gb123, 1, none⟩ = some (.int .u64 a0_1) := (blk_cell BK123.out 1).trans rfl
           have hfz82_0 := blk_frozen BK123.out 0
           have hfz82_1 := blk_frozen BK123.out 1
           go_wp2_with (first | ((with_reducible refine gate_callee (f := 50) rfl ?_); refine goesL_ (some 104) rfl rfl Try.func50 (by kernel_rfl) rfl #[.agg #[.int .u64 a0_0, .int .u64 a0_1], .bool true, .int .u64 (IntKind.u64.wrap (x9_35 + 1)), .int .i64 0, .bool false] rfl ar ?_; (with_reducible refine (spec_l4K_round.calls kj35 a0_0 a0_1 true (IntKind.u64.wrap (x9_35 + 1)) 0 false t134 _ A79.out).mono ?_); rintro e w83 ⟨rfl, hb⟩; refine ⟨_, rfl, ?_⟩; have n0_ := Aside0.mk (blk_below (g := gb123) (o := .cells #[.int .u64 a0_0, .int .u64 a0_1] 52 (0, 0)) (bk BK123.out) hb); have n1_ := Aside0.mk (blk_below (g := gb124) (o := .cells #[.bool true, .bool false, .bool false, .int .u64 a2_3, .int .i64 a2_4] 56 (0, 0)) (bk BK124.out) hb); have n2_ := Aside0.mk (below_step (bw HB.out) hb); clear BK123; clear BK124; clear HB; have BK123 := n0_; have BK124 := n1_; have HB := n2_; clear n0_ n1_ n2_; (try clear hb)))
           go_ret
           exact ⟨by first | rfl | (simp [errW_none, errW_some] <;> rfl) | (simp [*, errW_none, errW_some] <;> rfl), bw HB.out⟩
          ·
           replace c78 := Bool.eq_false_iff.mpr c78
           subst c78
           have H1 : ((spec_l4K_round.f kj35 a0_0 a0_1 false x9_35 0 false).bind fun t135 => (some t135)) = some r := by rw [if_neg (show ¬ (false = true) by decide)] at H; exact H
           clear H
           have H := H1
           clear H1
           replace H := Option.bind_eq_some_iff.mp H
           obtain ⟨t135, A840, H⟩ := H
           replace H : (some t135) = some r := H
           have A84 := Aside0.mk A840
           clear A840
           obtain rfl := Option.some.inj H
           simp only [Option.some.injEq, Prod.mk.injEq] at H
           obtain ⟨rfl⟩ := H
           have hnb85 := NB124_123.out
           have hnc85 := NB123_124.out
           have hcz86_0 : wc.cell? ⟨gb124, 0, none⟩ = some (.bool false) := (blk_cell BK124.out 0).trans rfl
           have hcz86_1 : wc.cell? ⟨gb124, 1, none⟩ = some (.bool false) := (blk_cell BK124.out 1).trans rfl
           have hcz86_2 : wc.cell? ⟨gb124, 2, none⟩ = some (.bool false) := (blk_cell BK124.out 2).trans rfl
           have hcz86_3 : wc.cell? ⟨gb124, 3, none⟩ = some (.int .u64 a2_3) := (blk_cell BK124.out 3).trans rfl
           have hcz86_4 : wc.cell? ⟨gb124, 4, none⟩ = some (.int .i64 a2_4) := (blk_cell BK124.out 4).trans rfl
           have hfz86_0 := blk_frozen BK124.out 0
           have hfz86_1 := blk_frozen BK124.out 1
           have hfz86_2 := blk_frozen BK124.out 2
           have hfz86_3 := blk_frozen BK124.out 3
           have hfz86_4 := blk_frozen BK124.out 4
           have hcz87_0 : wc.cell? ⟨gb123, 0, none⟩ = some (.int .u64 a0_0) := (blk_cell BK123.out 0).trans rfl
           have hcz87_1 : wc.cell? ⟨gb123, 1, none⟩ = some (.int .u64 a0_1) := (blk_cell BK123.out 1).trans rfl
           have hfz87_0 := blk_frozen BK123.out 0
           have hfz87_1 := blk_frozen BK123.out 1
           go_wp2_with (first | ((with_reducible refine gate_callee (f := 50) rfl ?_); refine goesL_ (some 104) rfl rfl Try.func50 (by kernel_rfl) rfl #[.agg #[.int .u64 a0_0, .int .u64 a0_1], .bool false, .int .u64 x9_35, .int .i64 0, .bool false] rfl ar ?_; (with_reducible refine (spec_l4K_round.calls kj35 a0_0 a0_1 false x9_35 0 false t135 _ A84.out).mono ?_); rintro e w88 ⟨rfl, hb⟩; refine ⟨_, rfl, ?_⟩; have n0_ := Aside0.mk (blk_below (g := gb123) (o := .cells #[.int .u64 a0_0, .int .u64 a0_1] 52 (0, 0)) (bk BK123.out) hb); have n1_ := Aside0.mk (blk_below (g := gb124) (o := .cells #[.bool false, .bool false, .bool false, .int .u64 a2_3, .int .i64 a2_4] 56 (0, 0)) (bk BK124.out) hb); have n2_ := Aside0.mk (below_step (bw HB.out) hb); clear BK123; clear BK124; clear HB; have BK123 := n0_; have BK124 := n1_; have HB := n2_; clear n0_ n1_ n2_; (try clear hb)))
           go_ret
           exact ⟨by first | rfl | (simp [errW_none, errW_some] <;> rfl) | (simp [*, errW_none, errW_some] <;> rfl), bw HB.out⟩
        ·
         rw [if_neg c71] at H
         have c71b0 : (a1 == 2) = false := beq_eq_false_iff_ne.mpr c71
         have c71b1 : (a1 != 2) = true := bne_iff_ne.mpr c71
         by_cases c89 : a1 = 4
         ·
          rw [if_pos c89] at H
          have c89b0 : (a1 == 4) = true := beq_iff_eq.mpr c89
          have c89b1 : (a1 != 4) = false := bne_eq_false_iff_eq.mpr c89
          clear c89
          by_cases c90 : x10_35 > 0
          ·
           rw [if_pos c90] at H
           have c90b0 : decide (0 < x10_35) = true := decide_eq_true c90
           clear c90
           replace H := Option.bind_eq_some_iff.mp H
           obtain ⟨t136, A910, H⟩ := H
           replace H : (some t136) = some r := H
           have A91 := Aside0.mk A910
           clear A910
           obtain rfl := Option.some.inj H
           simp only [Option.some.injEq, Prod.mk.injEq] at H
           obtain ⟨rfl⟩ := H
           have hnb92 := NB123_124.out
           have hnc92 := NB124_123.out
           have hcz93_0 : wc.cell? ⟨gb123, 0, none⟩ = some (.int .u64 a0_0) := (blk_cell BK123.out 0).trans rfl
           have hcz93_1 : wc.cell? ⟨gb123, 1, none⟩ = some (.int .u64 a0_1) := (blk_cell BK123.out 1).trans rfl
           have hfz93_0 := blk_frozen BK123.out 0
           have hfz93_1 := blk_frozen BK123.out 1
           have hcz94_0 : wc.cell? ⟨gb124, 0, none⟩ = some (.bool a2_0) := (blk_cell BK124.out 0).trans rfl
           have hcz94_1 : wc.cell? ⟨gb124, 1, none⟩ = some (.bool false) := (blk_cell BK124.out 1).trans rfl
           have hcz94_2 : wc.cell? ⟨gb124, 2, none⟩ = some (.bool false) := (blk_cell BK124.out 2).trans rfl
           have hcz94_3 : wc.cell? ⟨gb124, 3, none⟩ = some (.int .u64 a2_3) := (blk_cell BK124.out 3).trans rfl
           have hcz94_4 : wc.cell? ⟨gb124, 4, none⟩ = some (.int .i64 a2_4) := (blk_cell BK124.out 4).trans rfl
           have hfz94_0 := blk_frozen BK124.out 0
           have hfz94_1 := blk_frozen BK124.out 1
           have hfz94_2 := blk_frozen BK124.out 2
           have hfz94_3 := blk_frozen BK124.out 3
           have hfz94_4 := blk_frozen BK124.out 4
           go_wp2_with (first | ((with_reducible refine gate_callee (f := 50) rfl ?_); refine goesL_ (some 104) rfl rfl Try.func50 (by kernel_rfl) rfl #[.agg #[.int .u64 a0_0, .int .u64 a0_1], .bool a2_0, .int .u64 (IntKind.u64.wrap (x9_35 + 1)), .int .i64 0, .bool false] rfl ar ?_; (with_reducible refine (spec_l4K_round.calls kj35 a0_0 a0_1 a2_0 (IntKind.u64.wrap (x9_35 + 1)) 0 false t136 _ A91.out).mono ?_); rintro e w95 ⟨rfl, hb⟩; refine ⟨_, rfl, ?_⟩; have n0_ := Aside0.mk (blk_below (g := gb123) (o := .cells #[.int .u64 a0_0, .int .u64 a0_1] 52 (0, 0)) (bk BK123.out) hb); have n1_ := Aside0.mk (blk_below (g := gb124) (o := .cells #[.bool a2_0, .bool false, .bool false, .int .u64 a2_3, .int .i64 a2_4] 56 (0, 0)) (bk BK124.out) hb); have n2_ := Aside0.mk (below_step (bw HB.out) hb); clear BK123; clear BK124; clear HB; have BK123 := n0_; have BK124 := n1_; have HB := n2_; clear n0_ n1_ n2_; (try clear hb)))
           go_ret
           exact ⟨by first | rfl | (simp [errW_none, errW_some] <;> rfl) | (simp [*, errW_none, errW_some] <;> rfl), bw HB.out⟩
          ·
           rw [if_neg c90] at H
           have c90b0 : decide (0 < x10_35) = false := decide_eq_false c90
           clear c90
           by_cases c96 : x10_35 = 0
           ·
            rw [if_pos c96] at H
            have c96b0 : (x10_35 == 0) = true := beq_iff_eq.mpr c96
            have c96b1 : (x10_35 != 0) = false := bne_eq_false_iff_eq.mpr c96
            clear c96
            by_cases c97 : (Go.bits .and .u64 x9_35 1) = 1
            ·
             rw [if_pos c97] at H
             have c97b0 : ((Go.bits .and .u64 x9_35 1) == 1) = true := beq_iff_eq.mpr c97
             have c97b1 : ((Go.bits .and .u64 x9_35 1) != 1) = false := bne_eq_false_iff_eq.mpr c97
             clear c97
             replace H := Option.bind_eq_some_iff.mp H
             obtain ⟨t137, A980, H⟩ := H
             replace H : (some t137) = some r := H
             have A98 := Aside0.mk A980
             clear A980
             obtain rfl := Option.some.inj H
             simp only [Option.some.injEq, Prod.mk.injEq] at H
             obtain ⟨rfl⟩ := H
             have hnb99 := NB123_124.out
             have hnc99 := NB124_123.out
             have hcz100_0 : wc.cell? ⟨gb123, 0, none⟩ = some (.int .u64 a0_0) := (blk_cell BK123.out 0).trans rfl
             have hcz100_1 : wc.cell? ⟨gb123, 1, none⟩ = some (.int .u64 a0_1) := (blk_cell BK123.out 1).trans rfl
             have hfz100_0 := blk_frozen BK123.out 0
             have hfz100_1 := blk_frozen BK123.out 1
             have hcz101_0 : wc.cell? ⟨gb124, 0, none⟩ = some (.bool a2_0) := (blk_cell BK124.out 0).trans rfl
             have hcz101_1 : wc.cell? ⟨gb124, 1, none⟩ = some (.bool false) := (blk_cell BK124.out 1).trans rfl
             have hcz101_2 : wc.cell? ⟨gb124, 2, none⟩ = some (.bool false) := (blk_cell BK124.out 2).trans rfl
             have hcz101_3 : wc.cell? ⟨gb124, 3, none⟩ = some (.int .u64 a2_3) := (blk_cell BK124.out 3).trans rfl
             have hcz101_4 : wc.cell? ⟨gb124, 4, none⟩ = some (.int .i64 a2_4) := (blk_cell BK124.out 4).trans rfl
             have hfz101_0 := blk_frozen BK124.out 0
             have hfz101_1 := blk_frozen BK124.out 1
             have hfz101_2 := blk_frozen BK124.out 2
             have hfz101_3 := blk_frozen BK124.out 3
             have hfz101_4 := blk_frozen BK124.out 4
             go_wp2_with (first | ((with_reducible refine gate_callee (f := 50) rfl ?_); refine goesL_ (some 104) rfl rfl Try.func50 (by kernel_rfl) rfl #[.agg #[.int .u64 a0_0, .int .u64 a0_1], .bool a2_0, .int .u64 (IntKind.u64.wrap (x9_35 + 1)), .int .i64 0, .bool false] rfl ar ?_; (with_reducible refine (spec_l4K_round.calls kj35 a0_0 a0_1 a2_0 (IntKind.u64.wrap (x9_35 + 1)) 0 false t137 _ A98.out).mono ?_); rintro e w102 ⟨rfl, hb⟩; refine ⟨_, rfl, ?_⟩; have n0_ := Aside0.mk (blk_below (g := gb123) (o := .cells #[.int .u64 a0_0, .int .u64 a0_1] 52 (0, 0)) (bk BK123.out) hb); have n1_ := Aside0.mk (blk_below (g := gb124) (o := .cells #[.bool a2_0, .bool false, .bool false, .int .u64 a2_3, .int .i64 a2_4] 56 (0, 0)) (bk BK124.out) hb); have n2_ := Aside0.mk (below_step (bw HB.out) hb); clear BK123; clear BK124; clear HB; have BK123 := n0_; have BK124 := n1_; have HB := n2_; clear n0_ n1_ n2_; (try clear hb)))
             go_ret
             exact ⟨by first | rfl | (simp [errW_none, errW_some] <;> rfl) | (simp [*, errW_none, errW_some] <;> rfl), bw HB.out⟩
            ·
             rw [if_neg c97] at H
             have c97b0 : ((Go.bits .and .u64 x9_35 1) == 1) = false := beq_eq_false_iff_ne.mpr c97
             have c97b1 : ((Go.bits .and .u64 x9_35 1) != 1) = true := bne_iff_ne.mpr c97
             replace H := Option.bind_eq_some_iff.mp H
             obtain ⟨t138, A1030, H⟩ := H
             replace H : (some t138) = some r := H
             have A103 := Aside0.mk A1030
             clear A1030
             obtain rfl := Option.some.inj H
             simp only [Option.some.injEq, Prod.mk.injEq] at H
             obtain ⟨rfl⟩ := H
             have hnb104 := NB123_124.out
             have hnc104 := NB124_123.out
             have hcz105_0 : wc.cell? ⟨gb123, 0, none⟩ = some (.int .u64 a0_0) := (blk_cell BK123.out 0).trans rfl
             have hcz105_1 : wc.cell? ⟨gb123, 1, none⟩ = some (.int .u64 a0_1) := (blk_cell BK123.out 1).trans rfl
             have hfz105_0 := blk_frozen BK123.out 0
             have hfz105_1 := blk_frozen BK123.out 1
             have hcz106_0 : wc.cell? ⟨gb124, 0, none⟩ = some (.bool a2_0) := (blk_cell BK124.out 0).trans rfl
             have hcz106_1 : wc.cell? ⟨gb124, 1, none⟩ = some (.bool false) := (blk_cell BK124.out 1).trans rfl
             have hcz106_2 : wc.cell? ⟨gb124, 2, none⟩ = some (.bool false) := (blk_cell BK124.out 2).trans rfl
             have hcz106_3 : wc.cell? ⟨gb124, 3, none⟩ = some (.int .u64 a2_3) := (blk_cell BK124.out 3).trans rfl
             have hcz106_4 : wc.cell? ⟨gb124, 4, none⟩ = some (.int .i64 a2_4) := (blk_cell BK124.out 4).trans rfl
             have hfz106_0 := blk_frozen BK124.out 0
             have hfz106_1 := blk_frozen BK124.out 1
             have hfz106_2 := blk_frozen BK124.out 2
             have hfz106_3 := blk_frozen BK124.out 3
             have hfz106_4 := blk_frozen BK124.out 4
             go_wp2_with (first | ((with_reducible refine gate_callee (f := 50) rfl ?_); refine goesL_ (some 104) rfl rfl Try.func50 (by kernel_rfl) rfl #[.agg #[.int .u64 a0_0, .int .u64 a0_1], .bool a2_0, .int .u64 x9_35, .int .i64 0, .bool false] rfl ar ?_; (with_reducible refine (spec_l4K_round.calls kj35 a0_0 a0_1 a2_0 x9_35 0 false t138 _ A103.out).mono ?_); rintro e w107 ⟨rfl, hb⟩; refine ⟨_, rfl, ?_⟩; have n0_ := Aside0.mk (blk_below (g := gb123) (o := .cells #[.int .u64 a0_0, .int .u64 a0_1] 52 (0, 0)) (bk BK123.out) hb); have n1_ := Aside0.mk (blk_below (g := gb124) (o := .cells #[.bool a2_0, .bool false, .bool false, .int .u64 a2_3, .int .i64 a2_4] 56 (0, 0)) (bk BK124.out) hb); have n2_ := Aside0.mk (below_step (bw HB.out) hb); clear BK123; clear BK124; clear HB; have BK123 := n0_; have BK124 := n1_; have HB := n2_; clear n0_ n1_ n2_; (try clear hb)))
             go_ret
             exact ⟨by first | rfl | (simp [errW_none, errW_some] <;> rfl) | (simp [*, errW_none, errW_some] <;> rfl), bw HB.out⟩
           ·
            rw [if_neg c96] at H
            have c96b0 : (x10_35 == 0) = false := beq_eq_false_iff_ne.mpr c96
            have c96b1 : (x10_35 != 0) = true := bne_iff_ne.mpr c96
            replace H := Option.bind_eq_some_iff.mp H
            obtain ⟨t139, A1080, H⟩ := H
            replace H : (some t139) = some r := H
            have A108 := Aside0.mk A1080
            clear A1080
            obtain rfl := Option.some.inj H
            simp only [Option.some.injEq, Prod.mk.injEq] at H
            obtain ⟨rfl⟩ := H
            have hnb109 := NB123_124.out
            have hnc109 := NB124_123.out
            have hcz110_0 : wc.cell? ⟨gb123, 0, none⟩ = some (.int .u64 a0_0) := (blk_cell BK123.out 0).trans rfl
            have hcz110_1 : wc.cell? ⟨gb123, 1, none⟩ = some (.int .u64 a0_1) := (blk_cell BK123.out 1).trans rfl
            have hfz110_0 := blk_frozen BK123.out 0
            have hfz110_1 := blk_frozen BK123.out 1
            have hcz111_0 : wc.cell? ⟨gb124, 0, none⟩ = some (.bool a2_0) := (blk_cell BK124.out 0).trans rfl
            have hcz111_1 : wc.cell? ⟨gb124, 1, none⟩ = some (.bool false) := (blk_cell BK124.out 1).trans rfl
            have hcz111_2 : wc.cell? ⟨gb124, 2, none⟩ = some (.bool false) := (blk_cell BK124.out 2).trans rfl
            have hcz111_3 : wc.cell? ⟨gb124, 3, none⟩ = some (.int .u64 a2_3) := (blk_cell BK124.out 3).trans rfl
            have hcz111_4 : wc.cell? ⟨gb124, 4, none⟩ = some (.int .i64 a2_4) := (blk_cell BK124.out 4).trans rfl
            have hfz111_0 := blk_frozen BK124.out 0
            have hfz111_1 := blk_frozen BK124.out 1
            have hfz111_2 := blk_frozen BK124.out 2
            have hfz111_3 := blk_frozen BK124.out 3
            have hfz111_4 := blk_frozen BK124.out 4
            go_wp2_with (first | ((with_reducible refine gate_callee (f := 50) rfl ?_); refine goesL_ (some 104) rfl rfl Try.func50 (by kernel_rfl) rfl #[.agg #[.int .u64 a0_0, .int .u64 a0_1], .bool a2_0, .int .u64 x9_35, .int .i64 0, .bool false] rfl ar ?_; (with_reducible refine (spec_l4K_round.calls kj35 a0_0 a0_1 a2_0 x9_35 0 false t139 _ A108.out).mono ?_); rintro e w112 ⟨rfl, hb⟩; refine ⟨_, rfl, ?_⟩; have n0_ := Aside0.mk (blk_below (g := gb123) (o := .cells #[.int .u64 a0_0, .int .u64 a0_1] 52 (0, 0)) (bk BK123.out) hb); have n1_ := Aside0.mk (blk_below (g := gb124) (o := .cells #[.bool a2_0, .bool false, .bool false, .int .u64 a2_3, .int .i64 a2_4] 56 (0, 0)) (bk BK124.out) hb); have n2_ := Aside0.mk (below_step (bw HB.out) hb); clear BK123; clear BK124; clear HB; have BK123 := n0_; have BK124 := n1_; have HB := n2_; clear n0_ n1_ n2_; (try clear hb)))
            go_ret
            exact ⟨by first | rfl | (simp [errW_none, errW_some] <;> rfl) | (simp [*, errW_none, errW_some] <;> rfl), bw HB.out⟩
         ·
          rw [if_neg c89] at H
          have c89b0 : (a1 == 4) = false := beq_eq_false_iff_ne.mpr c89
          have c89b1 : (a1 != 4) = true := bne_iff_ne.mpr c89
          replace H := Option.bind_eq_some_iff.mp H
          obtain ⟨t140, A1130, H⟩ := H
          replace H : (some t140) = some r := H
          have A113 := Aside0.mk A1130
          clear A1130
          obtain rfl := Option.some.inj H
          simp only [Option.some.injEq, Prod.mk.injEq] at H
          obtain ⟨rfl⟩ := H
          have hnb114 := NB123_124.out
          have hnc114 := NB124_123.out
          have hcz115_0 : wc.cell? ⟨gb123, 0, none⟩ = some (.int .u64 a0_0) := (blk_cell BK123.out 0).trans rfl
          have hcz115_1 : wc.cell? ⟨gb123, 1, none⟩ = some (.int .u64 a0_1) := (blk_cell BK123.out 1).trans rfl
          have hfz115_0 := blk_frozen BK123.out 0
          have hfz115_1 := blk_frozen BK123.out 1
          have hcz116_0 : wc.cell? ⟨gb124, 0, none⟩ = some (.bool a2_0) := (blk_cell BK124.out 0).trans rfl
          have hcz116_1 : wc.cell? ⟨gb124, 1, none⟩ = some (.bool false) := (blk_cell BK124.out 1).trans rfl
          have hcz116_2 : wc.cell? ⟨gb124, 2, none⟩ = some (.bool false) := (blk_cell BK124.out 2).trans rfl
          have hcz116_3 : wc.cell? ⟨gb124, 3, none⟩ = some (.int .u64 a2_3) := (blk_cell BK124.out 3).trans rfl
          have hcz116_4 : wc.cell? ⟨gb124, 4, none⟩ = some (.int .i64 a2_4) := (blk_cell BK124.out 4).trans rfl
          have hfz116_0 := blk_frozen BK124.out 0
          have hfz116_1 := blk_frozen BK124.out 1
          have hfz116_2 := blk_frozen BK124.out 2
          have hfz116_3 := blk_frozen BK124.out 3
          have hfz116_4 := blk_frozen BK124.out 4
          go_wp2_with (first | ((with_reducible refine gate_callee (f := 50) rfl ?_); refine goesL_ (some 104) rfl rfl Try.func50 (by kernel_rfl) rfl #[.agg #[.int .u64 a0_0, .int .u64 a0_1], .bool a2_0, .int .u64 x9_35, .int .i64 0, .bool false] rfl ar ?_; (with_reducible refine (spec_l4K_round.calls kj35 a0_0 a0_1 a2_0 x9_35 0 false t140 _ A113.out).mono ?_); rintro e w117 ⟨rfl, hb⟩; refine ⟨_, rfl, ?_⟩; have n0_ := Aside0.mk (blk_below (g := gb123) (o := .cells #[.int .u64 a0_0, .int .u64 a0_1] 52 (0, 0)) (bk BK123.out) hb); have n1_ := Aside0.mk (blk_below (g := gb124) (o := .cells #[.bool a2_0, .bool false, .bool false, .int .u64 a2_3, .int .i64 a2_4] 56 (0, 0)) (bk BK124.out) hb); have n2_ := Aside0.mk (below_step (bw HB.out) hb); clear BK123; clear BK124; clear HB; have BK123 := n0_; have BK124 := n1_; have HB := n2_; clear n0_ n1_ n2_; (try clear hb)))
          go_ret
          exact ⟨by first | rfl | (simp [errW_none, errW_some] <;> rfl) | (simp [*, errW_none, errW_some] <;> rfl), bw HB.out⟩

end Go.Proofs.Ytdeogandkgiggaa.Q

namespace Go.Proofs.Ytdeogandkgiggaa.Q
open Go.RowKit Go.Proofs.YtdeogandkgiggaaW.PrintWords Go.Proofs.YtdeogandkgiggaaW.PrintLast Go.Proofs.YtdeogandkgiggaaW.PrintMore
attribute [local go_sem] max2_int min2_int max_two min_two max_three min_three max_four min_four   -- for this text's walks alone
set_option linter.unusedVariables false
set_option linter.unusedSimpArgs false

/-! ### impl_formatOf: function 51 -/
def impl_formatOf.f (a0 : Int) : Option (Int × Int × Bool) := if a0 = 16 then (some (10, 15, true)) else (if a0 = 32 then (some (23, 127, true)) else (some (0, 0, false)))
set_option maxHeartbeats 8000000 in
set_option maxRecDepth 100000 in
theorem impl_formatOf.calls (a0 : Int) (r1 : Int) (r2 : Int) (r3 : Bool) (w : World) (h : impl_formatOf.f a0 = some (r1, r2, r3)) :
  Calls Try.prog 51 #[.int .i64 a0] w fun e w' => e = .returned (.tuple #[.agg #[.int .i64 r1, .int .i64 r2], .bool r3]) ∧ Below w.heap.size w w' := by
 have hu62 := Try.underlying62
 have HB := Aside0.mk (Below.refl w.heap.size w)
 have H : (if a0 = 16 then (some (10, 15, true)) else (if a0 = 32 then (some (23, 127, true)) else (some (0, 0, false)))) = some (r1, r2, r3) := h
 clear h
 by_cases c2 : a0 = 16
 ·
  rw [if_pos c2] at H
  have c2b0 : (a0 == 16) = true := beq_iff_eq.mpr c2
  have c2b1 : (a0 != 16) = false := bne_eq_false_iff_eq.mpr c2
  clear c2
  simp only [Option.some.injEq, Prod.mk.injEq] at H
  obtain ⟨rfl, rfl, rfl⟩ := H
  go_enter Try.func51, Try.ntmps51
  go_wp2_with (first | ((with_reducible refine gate_dst (N := 2) rfl ?_); refine box_event ?hg (N := 2) ?hd (cs := #[.int .i64 0, .int .i64 0]) (t := 62) ?hr ?_; (case hd => rfl); (case hg => rfl); (case hr => first | (go_simp; done) | (go_simp; rfl)); intro gb152 hg w3 hbox hb; have n0_ := Aside0.mk (below_step (bw HB.out) hb); have n1_ := Aside0.mk (hbox); have n2_ := Aside0.mk ((by rw [hg]; exact (below_size (bw HB.out)) : w.heap.size ≤ gb152)); have n3_ := Aside0.mk ((by rw [hg]; exact (below_size (bw HB.out)) : w.heap.size ≤ gb152)); clear HB; have HB := n0_; have BK152 := n1_; have GW152 := n2_; have GE152 := n3_; clear n0_ n1_ n2_ n3_; clear hb hbox hg; have hcz4_0 : w3.cell? ⟨gb152, 0, none⟩ = some (.int .i64 0) := (blk_cell BK152.out 0).trans rfl; have hcz4_1 : w3.cell? ⟨gb152, 1, none⟩ = some (.int .i64 0) := (blk_cell BK152.out 1).trans rfl; have hfz4_0 := blk_frozen BK152.out 0; have hfz4_1 := blk_frozen BK152.out 1))
  refine bodyPost_ret (results_ct rfl _ _ gb152 62 #[.int .i64 10, .int .i64 15] (0, 0) _ rfl (by (with_reducible repeat (first | refine blk_drewN ?_ _ | refine blk_drew ?_ | refine blk_alloc ?_ _)); refine blk_put (cs := #[.int .i64 10, .int .i64 0]) ?_ 1 _ rfl; (with_reducible repeat (first | refine blk_drewN ?_ _ | refine blk_drew ?_ | refine blk_alloc ?_ _)); refine blk_put (cs := #[.int .i64 0, .int .i64 0]) ?_ 0 _ rfl; (with_reducible repeat (first | refine blk_drewN ?_ _ | refine blk_drew ?_ | refine blk_alloc ?_ _)); exact BK152.out) Try.underlying62 rfl (by kernel_rfl)) rfl ?_
  exact ⟨by first | rfl | (simp [errW_none, errW_some] <;> rfl) | (simp [*, errW_none, errW_some] <;> rfl), bw HB.out⟩
 ·
  rw [if_neg c2] at H
  have c2b0 : (a0 == 16) = false := beq_eq_false_iff_ne.mpr c2
  have c2b1 : (a0 != 16) = true := bne_iff_ne.mpr c2
  by_cases c5 : a0 = 32
  ·
   rw [if_pos c5] at H
   have c5b0 : (a0 == 32) = true := beq_iff_eq.mpr c5
   have c5b1 : (a0 != 32) = false := bne_eq_false_iff_eq.mpr c5
   clear c5
   simp only [Option.some.injEq, Prod.mk.injEq] at H
   obtain ⟨rfl, rfl, rfl⟩ := H
   go_enter Try.func51, Try.ntmps51
   go_wp2_with (first | ((with_reducible refine gate_dst (N := 2) rfl ?_); refine box_event ?hg (N := 2) ?hd (cs := #[.int .i64 0, .int .i64 0]) (t := 62) ?hr ?_; (case hd => rfl); (case hg => rfl); (case hr => first | (go_simp; done) | (go_simp; rfl)); intro gb152 hg w6 hbox hb; have n0_ := Aside0.mk (below_step (bw HB.out) hb); have n1_ := Aside0.mk (hbox); have n2_ := Aside0.mk ((by rw [hg]; exact (below_size (bw HB.out)) : w.heap.size ≤ gb152)); have n3_ := Aside0.mk ((by rw [hg]; exact (below_size (bw HB.out)) : w.heap.size ≤ gb152)); clear HB; have HB := n0_; have BK152 := n1_; have GW152 := n2_; have GE152 := n3_; clear n0_ n1_ n2_ n3_; clear hb hbox hg; have hcz7_0 : w6.cell? ⟨gb152, 0, none⟩ = some (.int .i64 0) := (blk_cell BK152.out 0).trans rfl; have hcz7_1 : w6.cell? ⟨gb152, 1, none⟩ = some (.int .i64 0) := (blk_cell BK152.out 1).trans rfl; have hfz7_0 := blk_frozen BK152.out 0; have hfz7_1 := blk_frozen BK152.out 1))
   refine bodyPost_ret (results_ct rfl _ _ gb152 62 #[.int .i64 23, .int .i64 127] (0, 0) _ rfl (by (with_reducible repeat (first | refine blk_drewN ?_ _ | refine blk_drew ?_ | refine blk_alloc ?_ _)); refine blk_put (cs := #[.int .i64 23, .int .i64 0]) ?_ 1 _ rfl; (with_reducible repeat (first | refine blk_drewN ?_ _ | refine blk_drew ?_ | refine blk_alloc ?_ _)); refine blk_put (cs := #[.int .i64 0, .int .i64 0]) ?_ 0 _ rfl; (with_reducible repeat (first | refine blk_drewN ?_ _ | refine blk_drew ?_ | refine blk_alloc ?_ _)); exact BK152.out) Try.underlying62 rfl (by kernel_rfl)) rfl ?_
   exact ⟨by first | rfl | (simp [errW_none, errW_some] <;> rfl) | (simp [*, errW_none, errW_some] <;> rfl), bw HB.out⟩
  ·
   rw [if_neg c5] at H
   have c5b0 : (a0 == 32) = false := beq_eq_false_iff_ne.mpr c5
   have c5b1 : (a0 != 32) = true := bne_iff_ne.mpr c5
   simp only [Option.some.injEq, Prod.mk.injEq] at H
   obtain ⟨rfl, rfl, rfl⟩ := H
   go_enter Try.func51, Try.ntmps51
   go_wp2_with (first | ((with_reducible refine gate_dst (N := 2) rfl ?_); refine box_event ?hg (N := 2) ?hd (cs := #[.int .i64 0, .int .i64 0]) (t := 62) ?hr ?_; (case hd => rfl); (case hg => rfl); (case hr => first | (go_simp; done) | (go_simp; rfl)); intro gb152 hg w8 hbox hb; have n0_ := Aside0.mk (below_step (bw HB.out) hb); have n1_ := Aside0.mk (hbox); have n2_ := Aside0.mk ((by rw [hg]; exact (below_size (bw HB.out)) : w.heap.size ≤ gb152)); have n3_ := Aside0.mk ((by rw [hg]; exact (below_size (bw HB.out)) : w.heap.size ≤ gb152)); clear HB; have HB := n0_; have BK152 := n1_; have GW152 := n2_; have GE152 := n3_; clear n0_ n1_ n2_ n3_; clear hb hbox hg; have hcz9_0 : w8.cell? ⟨gb152, 0, none⟩ = some (.int .i64 0) := (blk_cell BK152.out 0).trans rfl; have hcz9_1 : w8.cell? ⟨gb152, 1, none⟩ = some (.int .i64 0) := (blk_cell BK152.out 1).trans rfl; have hfz9_0 := blk_frozen BK152.out 0; have hfz9_1 := blk_frozen BK152.out 1))
   refine bodyPost_ret (results_ct rfl _ _ gb152 62 #[.int .i64 0, .int .i64 0] (0, 0) _ rfl (by (with_reducible repeat (first | refine blk_drewN ?_ _ | refine blk_drew ?_ | refine blk_alloc ?_ _)); refine blk_put (cs := #[.int .i64 0, .int .i64 0]) ?_ 1 _ rfl; (with_reducible repeat (first | refine blk_drewN ?_ _ | refine blk_drew ?_ | refine blk_alloc ?_ _)); refine blk_put (cs := #[.int .i64 0, .int .i64 0]) ?_ 0 _ rfl; (with_reducible repeat (first | refine blk_drewN ?_ _ | refine blk_drew ?_ | refine blk_alloc ?_ _)); exact BK152.out) Try.underlying62 rfl (by kernel_rfl)) rfl ?_
   exact ⟨by first | rfl | (simp [errW_none, errW_some] <;> rfl) | (simp [*, errW_none, errW_some] <;> rfl), bw HB.out⟩

end Go.Proofs.Ytdeogandkgiggaa.Q

namespace Go.Proofs.Ytdeogandkgiggaa.Q
open Go.RowKit Go.Proofs.YtdeogandkgiggaaW.PrintWords Go.Proofs.YtdeogandkgiggaaW.PrintLast Go.Proofs.YtdeogandkgiggaaW.PrintMore
attribute [local go_sem] max2_int min2_int max_two min_two max_three min_three max_four min_four   -- for this text's walks alone
set_option linter.unusedVariables false
set_option linter.unusedSimpArgs false

/-! ### impl_format_top: function 85 -/
def impl_format_top.f (a0_0 : Int) (a0_1 : Int) : Option (Int) := some ((wrap64 ((wrap64 (2 * a0_1)) + 1)) % 4294967296)
set_option maxHeartbeats 8000000 in
set_option maxRecDepth 100000 in
theorem impl_format_top.calls (a0_0 : Int) (a0_1 : Int) (r : Int) (w : World) (h : impl_format_top.f a0_0 a0_1 = some r) :
  Calls Try.prog 85 #[.agg #[.int .i64 a0_0, .int .i64 a0_1]] w fun e w' => e = .returned (.int .u32 r) ∧ Below w.heap.size w w' := by
 have hu62 := Try.underlying62
 have HB := Aside0.mk (Below.refl w.heap.size w)
 have H : (some ((wrap64 ((wrap64 (2 * a0_1)) + 1)) % 4294967296)) = some r := h
 clear h
 obtain rfl := Option.some.inj H
 simp only [Option.some.injEq, Prod.mk.injEq] at H
 obtain ⟨rfl⟩ := H
 go_enter Try.func85, Try.ntmps85
 go_wp2_with (first | ((with_reducible refine gate_dst (N := 1) rfl ?_); refine box_event ?hg (N := 1) ?hd (cs := #[.int .i64 a0_0, .int .i64 a0_1]) (t := 62) ?hr ?_; (case hd => rfl); (case hg => rfl); (case hr => first | (go_simp; done) | (go_simp; rfl)); intro gb153 hg w2 hbox hb; have n0_ := Aside0.mk (below_step (bw HB.out) hb); have n1_ := Aside0.mk (hbox); have n2_ := Aside0.mk ((by rw [hg]; exact (below_size (bw HB.out)) : w.heap.size ≤ gb153)); have n3_ := Aside0.mk ((by rw [hg]; exact (below_size (bw HB.out)) : w.heap.size ≤ gb153)); clear HB; have HB := n0_; have BK153 := n1_; have GW153 := n2_; have GE153 := n3_; clear n0_ n1_ n2_ n3_; clear hb hbox hg; have hcz3_0 : w2.cell? ⟨gb153, 0, none⟩ = some (.int .i64 a0_0) := (blk_cell BK153.out 0).trans rfl; have hcz3_1 : w2.cell? ⟨gb153, 1, none⟩ = some (.int .i64 a0_1) := (blk_cell BK153.out 1).trans rfl; have hfz3_0 := blk_frozen BK153.out 0; have hfz3_1 := blk_frozen BK153.out 1))
 go_ret
 exact ⟨by first | rfl | (simp [errW_none, errW_some] <;> rfl) | (simp [*, errW_none, errW_some] <;> rfl), bw HB.out⟩

end Go.Proofs.Ytdeogandkgiggaa.Q

namespace Go.Proofs.Ytdeogandkgiggaa.Q
open Go.RowKit Go.Proofs.YtdeogandkgiggaaW.PrintWords Go.Proofs.YtdeogandkgiggaaW.PrintLast Go.Proofs.YtdeogandkgiggaaW.PrintMore
attribute [local go_sem] max2_int min2_int max_two min_two max_three min_three max_four min_four   -- for this text's walks alone
set_option linter.unusedVariables false
set_option linter.unusedSimpArgs false

/-! ### impl_format_sign: function 72 -/
def impl_format_sign.f (a0_0 : Int) (a0_1 : Int) : Option (Int) := (impl_format_top.f a0_0 a0_1).bind fun t155 => (if 0 ≤ a0_0 then (some (shl .u32 ((t155 + 1) % 4294967296) a0_0)) else (none))
set_option maxHeartbeats 8000000 in
set_option maxRecDepth 100000 in
theorem impl_format_sign.calls (a0_0 : Int) (a0_1 : Int) (r : Int) (w : World) (h : impl_format_sign.f a0_0 a0_1 = some r) :
  Calls Try.prog 72 #[.agg #[.int .i64 a0_0, .int .i64 a0_1]] w fun e w' => e = .returned (.int .u32 r) ∧ Below w.heap.size w w' := by
 have hu62 := Try.underlying62
 have HB := Aside0.mk (Below.refl w.heap.size w)
 have H : ((impl_format_top.f a0_0 a0_1).bind fun t155 => (if 0 ≤ a0_0 then (some (shl .u32 ((t155 + 1) % 4294967296) a0_0)) else (none))) = some r := h
 clear h
 replace H := Option.bind_eq_some_iff.mp H
 obtain ⟨t155, A20, H⟩ := H
 replace H : (if 0 ≤ a0_0 then (some (shl .u32 ((t155 + 1) % 4294967296) a0_0)) else (none)) = some r := H
 have A2 := Aside0.mk A20
 clear A20
 by_cases c3 : 0 ≤ a0_0
 ·
  rw [if_pos c3] at H
  have c3b0 := eq_true c3
  have c3b1 : decide (0 ≤ a0_0) = true := decide_eq_true c3
  clear c3
  obtain ⟨ji4, hji4⟩ : ∃ j_ : Int, (shl .u32 ((t155 + 1) % 4294967296) a0_0) = j_ := ⟨_, rfl⟩
  replace H : (some ji4) = some r := by first | (rw [hji4] at H; exact H) | (simp only [hji4] at H ⊢; exact H)
  (try rw [hji4] at A2)
  have hji4_ : (IntKind.u32.wrap (((t155 + 1) % 4294967296) * 2 ^ min a0_0.toNat 32)) = ji4 := hji4
  have hji4z : a0_0 ≤ 32 → (IntKind.u32.wrap (((t155 + 1) % 4294967296) * 2 ^ a0_0.toNat)) = ji4 := shl_small hji4
  obtain rfl := Option.some.inj H
  simp only [Option.some.injEq, Prod.mk.injEq] at H
  obtain ⟨rfl⟩ := H
  go_enter Try.func72, Try.ntmps72
  try go_wp2_with (first | ((with_reducible refine gate_dst (N := 1) rfl ?_); refine box_event ?hg (N := 1) ?hd (cs := #[.int .i64 a0_0, .int .i64 a0_1]) (t := 62) ?hr ?_; (case hd => rfl); (case hg => rfl); (case hr => first | (go_simp; done) | (go_simp; rfl)); intro gb154 hg w5 hbox hb; have n0_ := Aside0.mk (below_step (bw HB.out) hb); have n1_ := Aside0.mk (hbox); have n2_ := Aside0.mk ((by rw [hg]; exact (below_size (bw HB.out)) : w.heap.size ≤ gb154)); have n3_ := Aside0.mk ((by rw [hg]; exact (below_size (bw HB.out)) : w.heap.size ≤ gb154)); clear HB; have HB := n0_; have BK154 := n1_; have GW154 := n2_; have GE154 := n3_; clear n0_ n1_ n2_ n3_; clear hb hbox hg))
  have n0_ := Aside0.mk (blk_drew BK154.out)
  have n1_ := Aside0.mk (below_drew1 HB.out)
  clear BK154
  clear HB
  have BK154 := n0_
  have HB := n1_
  clear n0_ n1_
  refine start_ (n := 7) (S := fun w' => w'.cell? ⟨gb154, 0, none⟩ = some (.int .i64 a0_0) ∧ w'.cell? ⟨gb154, 1, none⟩ = some (.int .i64 a0_1)) (ds := []) #[false, false, false, false, false, false, false] (by kernel_rfl) rfl rfl ⟨(blk_cell BK154.out 0).trans rfl, (blk_cell BK154.out 1).trans rfl⟩ (fun hHeld => ?_)
  generalize w5.drew = w6 at BK154 HB hHeld ⊢
  refine pure_ (i := 3) (N := some 6) (v := ?_) (a' := ?_) #[false, false, false, true, false, false, false] rfl rfl (by kernel_rfl) (fun _ _ _ h => h) (Or.inl ⟨by rfl, ?_⟩) ?_ ?_
  rotate_left
  ·
   intro w'
   go_simp
   with_reducible rfl
  rotate_left
  ·
   simp only [Act.put, List.setIfInBounds_toArray, List.set_cons_zero, List.set_cons_succ, i64_w, i32_w]
   rfl
  refine take_ (i := 0) (N := some 3) (v := ?_) (a' := ?_) #[true, false, false, true, false, false, false] rfl rfl (by kernel_rfl) (fun _ _ _ h => h) (Or.inl ⟨by rfl, ?_⟩) hHeld ?_ ?_
  rotate_left
  ·
   rintro w' ⟨s0, s1⟩
   go_simp
   with_reducible rfl
  rotate_left
  ·
   simp only [Act.put, List.setIfInBounds_toArray, List.set_cons_zero, List.set_cons_succ, i64_w, i32_w]
   rfl
  refine take_ (i := 4) (N := some 7) (v := ?_) (a' := ?_) #[true, false, false, true, true, false, false] rfl rfl (by kernel_rfl) (fun _ _ _ h => h) (Or.inl ⟨by rfl, ?_⟩) hHeld ?_ ?_
  rotate_left
  ·
   rintro w' ⟨s0, s1⟩
   go_simp
   with_reducible rfl
  rotate_left
  ·
   simp only [Act.put, List.setIfInBounds_toArray, List.set_cons_zero, List.set_cons_succ, i64_w, i32_w]
   rfl
  refine one_ (i := 1) (N := some 4) #[true, true, false, true, true, false, false] rfl rfl (by kernel_rfl) (by decide) (fun K hK => ?_)
  refine goes_ Try.func85 (by kernel_rfl) rfl #[.agg #[.int .i64 a0_0, .int .i64 a0_1]] (by rfl) rfl rfl ar ?_
  with_reducible refine (impl_format_top.calls a0_0 a0_1 t155 _ A2.out).mono ?_
  rintro e w7 ⟨rfl, hb⟩
  refine ⟨_, rfl, ?_⟩
  have n0_ := Aside0.mk (blk_below (g := gb154) (o := .cells #[.int .i64 a0_0, .int .i64 a0_1] 62 (0, 0)) (bk BK154.out) hb)
  have n1_ := Aside0.mk (below_step (bw HB.out) hb)
  clear BK154
  clear HB
  have BK154 := n0_
  have HB := n1_
  clear n0_ n1_
  (try clear hb)
  (try clear hb2)
  (try clear hk)
  (try clear hi)
  refine hK.out _ _ ⟨(blk_cell BK154.out 0).trans rfl, (blk_cell BK154.out 1).trans rfl⟩ (fun hHeld => ?_)
  clear hK K
  refine norm_ (a' := ?_) ?_ ?_
  rotate_left
  ·
   show Act.put _ (some 4) _ = _
   simp only [Act.put, List.setIfInBounds_toArray, List.set_cons_zero, List.set_cons_succ, i64_w, i32_w]
   rfl
  refine pure_ (i := 2) (N := some 5) (v := ?_) (a' := ?_) #[true, true, true, true, true, false, false] rfl rfl (by kernel_rfl) (fun _ _ _ h => h) (Or.inl ⟨by rfl, ?_⟩) ?_ ?_
  rotate_left
  ·
   intro w'
   go_simp
   with_reducible rfl
  rotate_left
  ·
   simp only [Act.put, List.setIfInBounds_toArray, List.set_cons_zero, List.set_cons_succ, i64_w, i32_w]
   rfl
  refine pure_ (i := 5) (N := some 8) (v := ?_) (a' := ?_) #[true, true, true, true, true, true, false] rfl rfl (by kernel_rfl) (fun _ _ _ h => h) (Or.inl ⟨by rfl, ?_⟩) ?_ ?_
  rotate_left
  ·
   intro w'
   go_simp
   with_reducible rfl
  rotate_left
  ·
   simp only [Act.put, List.setIfInBounds_toArray, List.set_cons_zero, List.set_cons_succ, i64_w, i32_w]
   rfl
  refine pure_ (i := 6) (N := some 2) (v := ?_) (a' := ?_) #[true, true, true, true, true, true, true] rfl rfl (by kernel_rfl) (fun _ _ _ h => h) (Or.inl ⟨by rfl, ?_⟩) ?_ ?_
  rotate_left
  ·
   intro w'
   go_simp
   with_reducible rfl
  rotate_left
  ·
   simp only [Act.put, List.setIfInBounds_toArray, List.set_cons_zero, List.set_cons_succ, i64_w, i32_w]
   rfl
  refine done_ (by kernel_rfl) ?_
  try go_wp2
  go_ret
  exact ⟨by first | rfl | (simp [errW_none, errW_some] <;> rfl) | (simp only [← hji4]; first | rfl | (simp [errW_none, errW_some] <;> rfl)) | (simp [*, errW_none, errW_some] <;> rfl), bw HB.out⟩
 ·
  rw [if_neg c3] at H
  exact absurd H (by simp)

end Go.Proofs.Ytdeogandkgiggaa.Q

namespace Go.Proofs.Ytdeogandkgiggaa.Q
open Go.RowKit Go.Proofs.YtdeogandkgiggaaW.PrintWords Go.Proofs.YtdeogandkgiggaaW.PrintLast Go.Proofs.YtdeogandkgiggaaW.PrintMore
attribute [local go_sem] max2_int min2_int max_two min_two max_three min_three max_four min_four   -- for this text's walks alone
set_option linter.unusedVariables false
set_option linter.unusedSimpArgs false

/-! ### impl_format_open: function 52 -/
def impl_format_open.f (a0_0 : Int) (a0_1 : Int) (a1 : Int) : Option (Bool × Bool × Bool × Int × Int) := if 0 ≤ a0_0 then ((impl_format_top.f a0_0 a0_1).bind fun t158 => ((impl_format_sign.f a0_0 a0_1).bind fun t159 => ((impl_format_top.f a0_0 a0_1).bind fun t161 => (if (Go.bits .and .u32 (shr .u32 a1 a0_0) t158) = t161 then (some (((Go.bits .and .u32 a1 t159) != 0), ((IntKind.u64.wrap (Go.bits .and .u32 a1 (((shl .u32 1 a0_0) - 1) % 4294967296))) != 0), ((IntKind.u64.wrap (Go.bits .and .u32 a1 (((shl .u32 1 a0_0) - 1) % 4294967296))) == 0), 0, 0)) else (if (Go.bits .and .u32 (shr .u32 a1 a0_0) t158) = 0 then (some (((Go.bits .and .u32 a1 t159) != 0), false, false, IntKind.u64.wrap (Go.bits .and .u32 a1 (((shl .u32 1 a0_0) - 1) % 4294967296)), wrap64 ((wrap64 (1 - a0_1)) - a0_0))) else (some (((Go.bits .and .u32 a1 t159) != 0), false, false, IntKind.u64.wrap ((IntKind.u64.wrap (Go.bits .and .u32 a1 (((shl .u32 1 a0_0) - 1) % 4294967296))) + (shl .u64 1 a0_0)), wrap64 ((wrap64 ((wrap64 (Go.bits .and .u32 (shr .u32 a1 a0_0) t158)) - a0_1)) - a0_0)))))))) else (none)
def impl_format_open.T1 : Bool × List (List Nat × List Nat) := (true, [([], []), ([], []), ([1], [1]), ([0, 2], [0, 2]), ([], []), ([4], [4]), ([3, 5], [3, 5]), ([6, 5, 0, 1, 2, 3, 4, 5, 6], [6])])
def impl_format_open.B1 : List Nat := [0, 0, 2, 7, 0, 16, 63, 127]
theorem impl_format_open.tab1 : rtab .any (opsOf Try.f52 1) = impl_format_open.T1 := by kernel_rfl
theorem impl_format_open.bits1 : waitsOk impl_format_open.T1.2 impl_format_open.B1 = true := by kernel_rfl
def impl_format_open.T4 : Bool × List (List Nat × List Nat) := (true, [([], []), ([], []), ([1], [1]), ([2], [2]), ([0, 3], [0, 3]), ([], []), ([5], [5]), ([], []), ([7], [7]), ([6, 8], [6, 8]), ([], []), ([10], [10]), ([9, 11], [9, 11]), ([0, 1, 2, 3, 4], []), ([13, 4, 0, 1, 2, 3, 4], [4, 13]), ([0, 1, 2, 3, 4, 5, 6, 7, 8, 9, 10, 11, 12, 13, 14], []), ([15, 12, 14, 0, 1, 2, 3, 4, 5, 6, 7, 8, 9, 10, 11, 12, 13, 14], [12, 15])])
def impl_format_open.B4 : List Nat := [0, 0, 2, 6, 15, 0, 32, 0, 128, 480, 0, 1024, 4064, 31, 8223, 32767, 65535]
theorem impl_format_open.tab4 : rtab .any (opsOf Try.f52 4) = impl_format_open.T4 := by kernel_rfl
theorem impl_format_open.bits4 : waitsOk impl_format_open.T4.2 impl_format_open.B4 = true := by kernel_rfl
def impl_format_open.T8 : Bool × List (List Nat × List Nat) := (true, [([], []), ([], []), ([1], [1]), ([2], [2]), ([], []), ([4], [4]), ([3, 5], [3, 5]), ([0], []), ([7, 0, 0], [0, 7]), ([0, 1, 2, 3, 4, 5, 6, 7, 8], []), ([9, 6, 8, 0, 1, 2, 3, 4, 5, 6, 7, 8], [6, 9])])
def impl_format_open.B8 : List Nat := [0, 0, 2, 6, 0, 16, 62, 1, 129, 511, 1023]
theorem impl_format_open.tab8 : rtab .any (opsOf Try.f52 8) = impl_format_open.T8 := by kernel_rfl
theorem impl_format_open.bits8 : waitsOk impl_format_open.T8.2 impl_format_open.B8 = true := by kernel_rfl
set_option maxHeartbeats 8000000 in
set_option maxRecDepth 100000 in
theorem impl_format_open.calls (a0_0 : Int) (a0_1 : Int) (a1 : Int) (r1 : Bool) (r2 : Bool) (r3 : Bool) (r4 : Int) (r5 : Int) (w : World) (h : impl_format_open.f a0_0 a0_1 a1 = some (r1, r2, r3, r4, r5)) :
  Calls Try.prog 52 #[.agg #[.int .i64 a0_0, .int .i64 a0_1], .int .u32 a1] w fun e w' => e = .returned (.agg #[.bool r1, .bool r2, .bool r3, .int .u64 r4, .int .i64 r5]) ∧ Below w.heap.size w w' := by
 have hu62 := Try.underlying62
 have hu66 := Try.underlying66
 have HB := Aside0.mk (Below.refl w.heap.size w)
 have H : (if 0 ≤ a0_0 then ((impl_format_top.f a0_0 a0_1).bind fun t158 => ((impl_format_sign.f a0_0 a0_1).bind fun t159 => ((impl_format_top.f a0_0 a0_1).bind fun t161 => (if (Go.bits .and .u32 (shr .u32 a1 a0_0) t158) = t161 then (some (((Go.bits .and .u32 a1 t159) != 0), ((IntKind.u64.wrap (Go.bits .and .u32 a1 (((shl .u32 1 a0_0) - 1) % 4294967296))) != 0), ((IntKind.u64.wrap (Go.bits .and .u32 a1 (((shl .u32 1 a0_0) - 1) % 4294967296))) == 0), 0, 0)) else (if (Go.bits .and .u32 (shr .u32 a1 a0_0) t158) = 0 then (some (((Go.bits .and .u32 a1 t159) != 0), false, false, IntKind.u64.wrap (Go.bits .and .u32 a1 (((shl .u32 1 a0_0) - 1) % 4294967296)), wrap64 ((wrap64 (1 - a0_1)) - a0_0))) else (some (((Go.bits .and .u32 a1 t159) != 0), false, false, IntKind.u64.wrap ((IntKind.u64.wrap (Go.bits .and .u32 a1 (((shl .u32 1 a0_0) - 1) % 4294967296))) + (shl .u64 1 a0_0)), wrap64 ((wrap64 ((wrap64 (Go.bits .and .u32 (shr .u32 a1 a0_0) t158)) - a0_1)) - a0_0)))))))) else (none)) = some (r1, r2, r3, r4, r5) := h
 clear h
 by_cases c3 : 0 ≤ a0_0
 ·
  rw [if_pos c3] at H
  have c3b0 := eq_true c3
  have c3b1 : decide (0 ≤ a0_0) = true := decide_eq_true c3
  clear c3
  obtain ⟨ji4, hji4⟩ : ∃ j_ : Int, (shr .u32 a1 a0_0) = j_ := ⟨_, rfl⟩
  replace H : ((impl_format_top.f a0_0 a0_1).bind fun t158 => ((impl_format_sign.f a0_0 a0_1).bind fun t159 => ((impl_format_top.f a0_0 a0_1).bind fun t161 => (if (Go.bits .and .u32 (ji4) t158) = t161 then (some (((Go.bits .and .u32 a1 t159) != 0), ((IntKind.u64.wrap (Go.bits .and .u32 a1 (((shl .u32 1 a0_0) - 1) % 4294967296))) != 0), ((IntKind.u64.wrap (Go.bits .and .u32 a1 (((shl .u32 1 a0_0) - 1) % 4294967296))) == 0), 0, 0)) else (if (Go.bits .and .u32 (ji4) t158) = 0 then (some (((Go.bits .and .u32 a1 t159) != 0), false, false, IntKind.u64.wrap (Go.bits .and .u32 a1 (((shl .u32 1 a0_0) - 1) % 4294967296)), wrap64 ((wrap64 (1 - a0_1)) - a0_0))) else (some (((Go.bits .and .u32 a1 t159) != 0), false, false, IntKind.u64.wrap ((IntKind.u64.wrap (Go.bits .and .u32 a1 (((shl .u32 1 a0_0) - 1) % 4294967296))) + (shl .u64 1 a0_0)), wrap64 ((wrap64 ((wrap64 (Go.bits .and .u32 (ji4) t158)) - a0_1)) - a0_0)))))))) = some (r1, r2, r3, r4, r5) := by first | (rw [hji4] at H; exact H) | (simp only [hji4] at H ⊢; exact H)
  have hji4_ : (a1 / 2 ^ min a0_0.toNat 32) = ji4 := hji4
  have hji4z : a0_0 ≤ 32 → (a1 / 2 ^ a0_0.toNat) = ji4 := shr_small hji4
  replace H := Option.bind_eq_some_iff.mp H
  obtain ⟨t158, A50, H⟩ := H
  replace H : ((impl_format_sign.f a0_0 a0_1).bind fun t159 => ((impl_format_top.f a0_0 a0_1).bind fun t161 => (if (Go.bits .and .u32 (ji4) t158) = t161 then (some (((Go.bits .and .u32 a1 t159) != 0), ((IntKind.u64.wrap (Go.bits .and .u32 a1 (((shl .u32 1 a0_0) - 1) % 4294967296))) != 0), ((IntKind.u64.wrap (Go.bits .and .u32 a1 (((shl .u32 1 a0_0) - 1) % 4294967296))) == 0), 0, 0)) else (if (Go.bits .and .u32 (ji4) t158) = 0 then (some (((Go.bits .and .u32 a1 t159) != 0), false, false, IntKind.u64.wrap (Go.bits .and .u32 a1 (((shl .u32 1 a0_0) - 1) % 4294967296)), wrap64 ((wrap64 (1 - a0_1)) - a0_0))) else (some (((Go.bits .and .u32 a1 t159) != 0), false, false, IntKind.u64.wrap ((IntKind.u64.wrap (Go.bits .and .u32 a1 (((shl .u32 1 a0_0) - 1) % 4294967296))) + (shl .u64 1 a0_0)), wrap64 ((wrap64 ((wrap64 (Go.bits .and .u32 (ji4) t158)) - a0_1)) - a0_0))))))) = some (r1, r2, r3, r4, r5) := H
  have A5 := Aside0.mk A50
  clear A50
  have c6b0 := eq_true (of_decide_eq_true (by first | (with_reducible assumption) | assumption) : 0 ≤ a0_0)
  obtain ⟨ji7, hji7⟩ : ∃ j_ : Int, (shl .u32 1 a0_0) = j_ := ⟨_, rfl⟩
  replace H : ((impl_format_sign.f a0_0 a0_1).bind fun t159 => ((impl_format_top.f a0_0 a0_1).bind fun t161 => (if (Go.bits .and .u32 (ji4) t158) = t161 then (some (((Go.bits .and .u32 a1 t159) != 0), ((IntKind.u64.wrap (Go.bits .and .u32 a1 (((ji7) - 1) % 4294967296))) != 0), ((IntKind.u64.wrap (Go.bits .and .u32 a1 (((ji7) - 1) % 4294967296))) == 0), 0, 0)) else (if (Go.bits .and .u32 (ji4) t158) = 0 then (some (((Go.bits .and .u32 a1 t159) != 0), false, false, IntKind.u64.wrap (Go.bits .and .u32 a1 (((ji7) - 1) % 4294967296)), wrap64 ((wrap64 (1 - a0_1)) - a0_0))) else (some (((Go.bits .and .u32 a1 t159) != 0), false, false, IntKind.u64.wrap ((IntKind.u64.wrap (Go.bits .and .u32 a1 (((ji7) - 1) % 4294967296))) + (shl .u64 1 a0_0)), wrap64 ((wrap64 ((wrap64 (Go.bits .and .u32 (ji4) t158)) - a0_1)) - a0_0))))))) = some (r1, r2, r3, r4, r5) := by first | (rw [hji7] at H; exact H) | (simp only [hji7] at H ⊢; exact H)
  (try rw [hji7] at A5)
  have hji7_ : (IntKind.u32.wrap (1 * 2 ^ min a0_0.toNat 32)) = ji7 := hji7
  have hji7z : a0_0 ≤ 32 → (IntKind.u32.wrap (1 * 2 ^ a0_0.toNat)) = ji7 := shl_small hji7
  have hji7u : (IntKind.u32.wrap (2 ^ min a0_0.toNat 32)) = ji7 := by have h_ := hji7_; rw [Int.one_mul] at h_; exact h_
  have hji7v : a0_0 ≤ 32 → (IntKind.u32.wrap (2 ^ a0_0.toNat)) = ji7 := fun hle_ => by have h_ := hji7z hle_; rw [Int.one_mul] at h_; exact h_
  replace H := Option.bind_eq_some_iff.mp H
  obtain ⟨t159, A80, H⟩ := H
  replace H : ((impl_format_top.f a0_0 a0_1).bind fun t161 => (if (Go.bits .and .u32 (ji4) t158) = t161 then (some (((Go.bits .and .u32 a1 t159) != 0), ((IntKind.u64.wrap (Go.bits .and .u32 a1 (((ji7) - 1) % 4294967296))) != 0), ((IntKind.u64.wrap (Go.bits .and .u32 a1 (((ji7) - 1) % 4294967296))) == 0), 0, 0)) else (if (Go.bits .and .u32 (ji4) t158) = 0 then (some (((Go.bits .and .u32 a1 t159) != 0), false, false, IntKind.u64.wrap (Go.bits .and .u32 a1 (((ji7) - 1) % 4294967296)), wrap64 ((wrap64 (1 - a0_1)) - a0_0))) else (some (((Go.bits .and .u32 a1 t159) != 0), false, false, IntKind.u64.wrap ((IntKind.u64.wrap (Go.bits .and .u32 a1 (((ji7) - 1) % 4294967296))) + (shl .u64 1 a0_0)), wrap64 ((wrap64 ((wrap64 (Go.bits .and .u32 (ji4) t158)) - a0_1)) - a0_0)))))) = some (r1, r2, r3, r4, r5) := H
  have A8 := Aside0.mk A80
  clear A80
  replace H := Option.bind_eq_some_iff.mp H
  obtain ⟨t161, A90, H⟩ := H
  replace H : (if (Go.bits .and .u32 (ji4) t158) = t161 then (some (((Go.bits .and .u32 a1 t159) != 0), ((IntKind.u64.wrap (Go.bits .and .u32 a1 (((ji7) - 1) % 4294967296))) != 0), ((IntKind.u64.wrap (Go.bits .and .u32 a1 (((ji7) - 1) % 4294967296))) == 0), 0, 0)) else (if (Go.bits .and .u32 (ji4) t158) = 0 then (some (((Go.bits .and .u32 a1 t159) != 0), false, false, IntKind.u64.wrap (Go.bits .and .u32 a1 (((ji7) - 1) % 4294967296)), wrap64 ((wrap64 (1 - a0_1)) - a0_0))) else (some (((Go.bits .and .u32 a1 t159) != 0), false, false, IntKind.u64.wrap ((IntKind.u64.wrap (Go.bits .and .u32 a1 (((ji7) - 1) % 4294967296))) + (shl .u64 1 a0_0)), wrap64 ((wrap64 ((wrap64 (Go.bits .and .u32 (ji4) t158)) - a0_1)) - a0_0))))) = some (r1, r2, r3, r4, r5) := H
  have A9 := Aside0.mk A90
  clear A90
  by_cases c10 : (Go.bits .and .u32 (ji4) t158) = t161
  ·
   rw [if_pos c10] at H
   have c10b0 : ((Go.bits .and .u32 (ji4) t158) == t161) = true := beq_iff_eq.mpr c10
   have c10b1 : ((Go.bits .and .u32 (ji4) t158) != t161) = false := bne_eq_false_iff_eq.mpr c10
   clear c10
   obtain ⟨jb11, hjb11⟩ : ∃ b_ : Bool, ((Go.bits .and .u32 a1 t159) != 0) = b_ := ⟨_, rfl⟩
   replace H : (some (jb11, ((IntKind.u64.wrap (Go.bits .and .u32 a1 (((ji7) - 1) % 4294967296))) != 0), ((IntKind.u64.wrap (Go.bits .and .u32 a1 (((ji7) - 1) % 4294967296))) == 0), 0, 0)) = some (r1, r2, r3, r4, r5) := by first | (rw [hjb11] at H; exact H) | exact H
   obtain ⟨jb12, hjb12⟩ : ∃ b_ : Bool, ((IntKind.u64.wrap (Go.bits .and .u32 a1 (((ji7) - 1) % 4294967296))) != 0) = b_ := ⟨_, rfl⟩
   replace H : (some (jb11, jb12, ((IntKind.u64.wrap (Go.bits .and .u32 a1 (((ji7) - 1) % 4294967296))) == 0), 0, 0)) = some (r1, r2, r3, r4, r5) := by first | (rw [hjb12] at H; exact H) | exact H
   obtain ⟨jb13, hjb13⟩ : ∃ b_ : Bool, ((IntKind.u64.wrap (Go.bits .and .u32 a1 (((ji7) - 1) % 4294967296))) == 0) = b_ := ⟨_, rfl⟩
   replace H : (some (jb11, jb12, jb13, 0, 0)) = some (r1, r2, r3, r4, r5) := by first | (rw [hjb13] at H; exact H) | exact H
   simp only [Option.some.injEq, Prod.mk.injEq] at H
   obtain ⟨rfl, rfl, rfl, rfl, rfl⟩ := H
   go_enter Try.func52, Try.ntmps52
   try go_wp2_with (first | ((with_reducible refine gate_dst (N := 2) rfl ?_); refine box_event ?hg (N := 2) ?hd (cs := #[.int .i64 a0_0, .int .i64 a0_1]) (t := 62) ?hr ?_; (case hd => rfl); (case hg => rfl); (case hr => first | (go_simp; done) | (go_simp; rfl)); intro gb156 hg w14 hbox hb; have n0_ := Aside0.mk (below_step (bw HB.out) hb); have n1_ := Aside0.mk (hbox); have n2_ := Aside0.mk ((by rw [hg]; exact (below_size (bw HB.out)) : w.heap.size ≤ gb156)); have n3_ := Aside0.mk ((by rw [hg]; exact (below_size (bw HB.out)) : w.heap.size ≤ gb156)); clear HB; have HB := n0_; have BK156 := n1_; have GW156 := n2_; have GE156 := n3_; clear n0_ n1_ n2_ n3_; clear hb hbox hg) | ((with_reducible refine gate_dst (N := 4) rfl ?_); refine box_event ?hg (N := 4) ?hd (cs := #[.bool false, .bool false, .bool false, .int .u64 0, .int .i64 0]) (t := 66) ?hr ?_; (case hd => rfl); (case hg => rfl); (case hr => first | (go_simp; done) | (go_simp; rfl)); intro gb157 hg w15 hbox hb; have n0_ := Aside0.mk (blk_below (g := gb156) (o := .cells #[.int .i64 a0_0, .int .i64 a0_1] 62 (0, 0)) (bk BK156.out) hb); have n1_ := Aside0.mk (below_step (bw HB.out) hb); have n2_ := Aside0.mk (hbox); have n3_ := Aside0.mk ((by rw [hg]; exact (below_size (bw HB.out)) : w.heap.size ≤ gb157)); have n4_ := Aside0.mk ((by rw [hg]; exact (below_size (bw HB.out)) : w.heap.size ≤ gb157)); have n5_ := Aside0.mk ((by rw [hg]; exact Nat.ne_of_lt (blk_lt (g := gb156) (o := .cells #[.int .i64 a0_0, .int .i64 a0_1] 62 (0, 0)) (bk BK156.out)) : gb156 ≠ gb157)); have n6_ := Aside0.mk ((by rw [hg]; exact Nat.ne_of_gt (blk_lt (g := gb156) (o := .cells #[.int .i64 a0_0, .int .i64 a0_1] 62 (0, 0)) (bk BK156.out)) : gb157 ≠ gb156)); clear BK156; clear HB; have BK156 := n0_; have HB := n1_; have BK157 := n2_; have GW157 := n3_; have GE157 := n4_; have NB156_157 := n5_; have NB157_156 := n6_; clear n0_ n1_ n2_ n3_ n4_ n5_ n6_; clear hb hbox hg))
   have n0_ := Aside0.mk (blk_drew BK156.out)
   have n1_ := Aside0.mk (blk_drew BK157.out)
   have n2_ := Aside0.mk (below_drew1 HB.out)
   clear BK156
   clear BK157
   clear HB
   have BK156 := n0_
   have BK157 := n1_
   have HB := n2_
   clear n0_ n1_ n2_
   refine start_ (n := 8) (S := fun w' => w'.cell? ⟨gb156, 0, none⟩ = some (.int .i64 a0_0) ∧ w'.cell? ⟨gb156, 1, none⟩ = some (.int .i64 a0_1)) (ds := []) #[false, false, false, false, false, false, false, false] (by kernel_rfl) rfl rfl ⟨(blk_cell BK156.out 0).trans rfl, (blk_cell BK156.out 1).trans rfl⟩ (fun hHeld => ?_); refine with_tabW impl_format_open.tab1 impl_format_open.bits1 (fun HT_ HW_ => ?_)
   generalize w15.drew = w16 at BK156 BK157 HB hHeld ⊢
   refine pure_ (i := 0) (N := some 8) (v := ?_) (a' := ?_) #[true, false, false, false, false, false, false, false] rfl rfl (any_of HT_.out (by kernel_rfl)) (fun _ _ _ h => h) (Or.inl ⟨by rfl, ?_⟩) ?_ ?_
   rotate_left
   ·
    intro w'
    go_simp
    with_reducible rfl
   rotate_left
   ·
    simp only [Act.put, List.setIfInBounds_toArray, List.set_cons_zero, List.set_cons_succ, i64_w, i32_w]
    rfl
   refine pure_ (i := 1) (N := some 9) (v := ?_) (a' := ?_) #[true, true, false, false, false, false, false, false] rfl rfl (any_of HT_.out (by kernel_rfl)) (fun _ _ _ h => h) (Or.inl ⟨by rfl, ?_⟩) ?_ ?_
   rotate_left
   ·
    intro w'
    go_simp
    with_reducible rfl
   rotate_left
   ·
    simp only [Act.put, List.setIfInBounds_toArray, List.set_cons_zero, List.set_cons_succ, i64_w, i32_w]
    rfl
   refine take_ (i := 2) (N := some 10) (v := ?_) (a' := ?_) #[true, true, true, false, false, false, false, false] rfl rfl (take_ofW HT_.out HW_.out (by kernel_rfl)) (fun _ _ _ h => h) (Or.inl ⟨by rfl, ?_⟩) hHeld ?_ ?_
   rotate_left
   ·
    rintro w' ⟨s0, s1⟩
    go_simp
    with_reducible rfl
   rotate_left
   ·
    simp only [Act.put, List.setIfInBounds_toArray, List.set_cons_zero, List.set_cons_succ, i64_w, i32_w]
    rfl
   refine pure_ (i := 3) (N := some 11) (v := ?_) (a' := ?_) #[true, true, true, true, false, false, false, false] rfl rfl (any_of HT_.out (by kernel_rfl)) (fun _ _ _ h => h) (Or.inl ⟨by rfl, ?_⟩) ?_ ?_
   rotate_left
   ·
    intro w'
    go_simp
    with_reducible rfl
   rotate_left
   ·
    simp only [Act.put, List.setIfInBounds_toArray, List.set_cons_zero, List.set_cons_succ, i64_w, i32_w]
    rfl
   refine take_ (i := 4) (N := some 12) (v := ?_) (a' := ?_) #[true, true, true, true, true, false, false, false] rfl rfl (take_ofW HT_.out HW_.out (by kernel_rfl)) (fun _ _ _ h => h) (Or.inl ⟨by rfl, ?_⟩) hHeld ?_ ?_
   rotate_left
   ·
    rintro w' ⟨s0, s1⟩
    go_simp
    with_reducible rfl
   rotate_left
   ·
    simp only [Act.put, List.setIfInBounds_toArray, List.set_cons_zero, List.set_cons_succ, i64_w, i32_w]
    rfl
   refine one_ (i := 5) (N := some 13) #[true, true, true, true, true, true, false, false] rfl rfl (one_of HT_.out (by kernel_rfl)) (by decide) (fun K hK => ?_)
   refine goes_ Try.func85 (by kernel_rfl) rfl #[.agg #[.int .i64 a0_0, .int .i64 a0_1]] (by rfl) rfl rfl ar ?_
   with_reducible refine (impl_format_top.calls a0_0 a0_1 t158 _ A5.out).mono ?_
   rintro e w17 ⟨rfl, hb⟩
   refine ⟨_, rfl, ?_⟩
   have n0_ := Aside0.mk (blk_below (g := gb156) (o := .cells #[.int .i64 a0_0, .int .i64 a0_1] 62 (0, 0)) (bk BK156.out) hb)
   have n1_ := Aside0.mk (blk_below (g := gb157) (o := .cells #[.bool false, .bool false, .bool false, .int .u64 0, .int .i64 0] 66 (0, 0)) (bk BK157.out) hb)
   have n2_ := Aside0.mk (below_step (bw HB.out) hb)
   clear BK156
   clear BK157
   clear HB
   have BK156 := n0_
   have BK157 := n1_
   have HB := n2_
   clear n0_ n1_ n2_
   (try clear hb)
   (try clear hb2)
   (try clear hk)
   (try clear hi)
   refine hK.out _ _ ⟨(blk_cell BK156.out 0).trans rfl, (blk_cell BK156.out 1).trans rfl⟩ (fun hHeld => ?_)
   clear hK K
   refine norm_ (a' := ?_) ?_ ?_
   rotate_left
   ·
    show Act.put _ (some 13) _ = _
    simp only [Act.put, List.setIfInBounds_toArray, List.set_cons_zero, List.set_cons_succ, i64_w, i32_w]
    rfl
   refine pure_ (i := 6) (N := some 14) (v := ?_) (a' := ?_) #[true, true, true, true, true, true, true, false] rfl rfl (any_of HT_.out (by kernel_rfl)) (fun _ _ _ h => h) (Or.inl ⟨by rfl, ?_⟩) ?_ ?_
   rotate_left
   ·
    intro w'
    go_simp
    with_reducible rfl
   rotate_left
   ·
    simp only [Act.put, List.setIfInBounds_toArray, List.set_cons_zero, List.set_cons_succ, i64_w, i32_w]
    rfl
   refine pure_ (i := 7) (N := some 5) (v := ?_) (a' := ?_) #[true, true, true, true, true, true, true, true] rfl rfl (any_of HT_.out (by kernel_rfl)) (fun _ _ _ h => h) (Or.inl ⟨by rfl, ?_⟩) ?_ ?_
   rotate_left
   ·
    intro w'
    go_simp
    with_reducible rfl
   rotate_left
   ·
    simp only [Act.put, List.setIfInBounds_toArray, List.set_cons_zero, List.set_cons_succ, i64_w, i32_w]
    rfl
   refine done_ (done_of HT_.out (by kernel_rfl)) ?_
   have hnb18 := NB156_157.out
   have hnc18 := NB157_156.out
   have hcz19_0 : w17.cell? ⟨gb156, 0, none⟩ = some (.int .i64 a0_0) := (blk_cell BK156.out 0).trans rfl
   have hcz19_1 : w17.cell? ⟨gb156, 1, none⟩ = some (.int .i64 a0_1) := (blk_cell BK156.out 1).trans rfl
   have hfz19_0 := blk_frozen BK156.out 0
   have hfz19_1 := blk_frozen BK156.out 1
   try go_wp2_with (first | ((with_reducible refine gate_callee (f := 72) rfl ?_); refine goesL_ (some 24) rfl rfl Try.func72 (by kernel_rfl) rfl #[.agg #[.int .i64 a0_0, .int .i64 a0_1]] rfl ar ?_; (with_reducible refine (impl_format_sign.calls a0_0 a0_1 t159 _ A8.out).mono ?_); rintro e w20 ⟨rfl, hb⟩; refine ⟨_, rfl, ?_⟩; have n0_ := Aside0.mk (blk_below (g := gb156) (o := .cells #[.int .i64 a0_0, .int .i64 a0_1] 62 (0, 0)) (bk BK156.out) hb); have n1_ := Aside0.mk (blk_below (g := gb157) (o := .cells #[.bool false, .bool false, .bool false, .int .u64 0, .int .i64 0] 66 (0, 0)) (bk BK157.out) hb); have n2_ := Aside0.mk (below_step (bw HB.out) hb); clear BK156; clear BK157; clear HB; have BK156 := n0_; have BK157 := n1_; have HB := n2_; clear n0_ n1_ n2_; (try clear hb)) | ((with_reducible refine gate_dst (N := 7) rfl ?_); refine box_event ?hg (N := 7) ?hd (cs := #[.bool false, .bool false, .bool false, .int .u64 0, .int .i64 0]) (t := 66) ?hr ?_; (case hd => rfl); (case hg => rfl); (case hr => first | (go_simp; done) | (go_simp; rfl)); intro gb160 hg w21 hbox hb; have n0_ := Aside0.mk (blk_below (g := gb156) (o := .cells #[.int .i64 a0_0, .int .i64 a0_1] 62 (0, 0)) (bk BK156.out) hb); have n1_ := Aside0.mk (blk_below (g := gb157) (o := .cells #[.bool false, .bool false, .bool false, .int .u64 0, .int .i64 0] 66 (0, 0)) (bk BK157.out) hb); have n2_ := Aside0.mk (below_step (bw HB.out) hb); have n3_ := Aside0.mk (hbox); have n4_ := Aside0.mk ((by rw [hg]; exact (below_size (bw HB.out)) : w.heap.size ≤ gb160)); have n5_ := Aside0.mk ((by rw [hg]; exact (below_size (bw HB.out)) : w.heap.size ≤ gb160)); have n6_ := Aside0.mk ((by rw [hg]; exact Nat.ne_of_lt (blk_lt (g := gb156) (o := .cells #[.int .i64 a0_0, .int .i64 a0_1] 62 (0, 0)) (bk BK156.out)) : gb156 ≠ gb160)); have n7_ := Aside0.mk ((by rw [hg]; exact Nat.ne_of_gt (blk_lt (g := gb156) (o := .cells #[.int .i64 a0_0, .int .i64 a0_1] 62 (0, 0)) (bk BK156.out)) : gb160 ≠ gb156)); have n8_ := Aside0.mk ((by rw [hg]; exact Nat.ne_of_lt (blk_lt (g := gb157) (o := .cells #[.bool false, .bool false, .bool false, .int .u64 0, .int .i64 0] 66 (0, 0)) (bk BK157.out)) : gb157 ≠ gb160)); have n9_ := Aside0.mk ((by rw [hg]; exact Nat.ne_of_gt (blk_lt (g := gb157) (o := .cells #[.bool false, .bool false, .bool false, .int .u64 0, .int .i64 0] 66 (0, 0)) (bk BK157.out)) : gb160 ≠ gb157)); clear BK156; clear BK157; clear HB; have BK156 := n0_; have BK157 := n1_; have HB := n2_; have BK160 := n3_; have GW160 := n4_; have GE160 := n5_; have NB156_160 := n6_; have NB160_156 := n7_; have NB157_160 := n8_; have NB160_157 := n9_; clear n0_ n1_ n2_ n3_ n4_ n5_ n6_ n7_ n8_ n9_; clear hb hbox hg; have hnb22 := NB160_156.out; have hnc22 := NB156_160.out; have hnb23 := NB160_157.out; have hnc23 := NB157_160.out; have hcz24_0 : w21.cell? ⟨gb160, 0, none⟩ = some (.bool false) := (blk_cell BK160.out 0).trans rfl; have hcz24_1 : w21.cell? ⟨gb160, 1, none⟩ = some (.bool false) := (blk_cell BK160.out 1).trans rfl; have hcz24_2 : w21.cell? ⟨gb160, 2, none⟩ = some (.bool false) := (blk_cell BK160.out 2).trans rfl; have hcz24_3 : w21.cell? ⟨gb160, 3, none⟩ = some (.int .u64 0) := (blk_cell BK160.out 3).trans rfl; have hcz24_4 : w21.cell? ⟨gb160, 4, none⟩ = some (.int .i64 0) := (blk_cell BK160.out 4).trans rfl; have hfz24_0 := blk_frozen BK160.out 0; have hfz24_1 := blk_frozen BK160.out 1; have hfz24_2 := blk_frozen BK160.out 2; have hfz24_3 := blk_frozen BK160.out 3; have hfz24_4 := blk_frozen BK160.out 4) | ((with_reducible refine gate_store (t := 66) (p := 7) rfl ?_); refine store_event (t := 66) (p := 7) (v := ?vo_w25) (w1 := (((((w21.setCell ⟨gb160, 0, none⟩ (.bool jb11)).setCell ⟨gb160, 1, none⟩ (.bool false)).setCell ⟨gb160, 2, none⟩ (.bool false)).setCell ⟨gb160, 3, none⟩ (.int .u64 0)).setCell ⟨gb160, 4, none⟩ (.int .i64 0))) ?hg ?ho ?hn ?hr ?_; (case ho => rfl); (case hg => rfl); (case hn => rfl); (case hr => first | (go_simp; done) | (go_simp; rfl)); intro w25 hw; have n0_ : Aside0 (w25.heap[gb156]? = some (.cells #[.int .i64 a0_0, .int .i64 a0_1] 62 (0, 0))) := ⟨(by rw [hw]; exact (by (with_reducible repeat (first | refine blk_drewN ?_ _ | refine blk_drew ?_ | refine blk_alloc ?_ _)); refine blk_far ?_ NB156_160.out _; (with_reducible repeat (first | refine blk_drewN ?_ _ | refine blk_drew ?_ | refine blk_alloc ?_ _)); refine blk_far ?_ NB156_160.out _; (with_reducible repeat (first | refine blk_drewN ?_ _ | refine blk_drew ?_ | refine blk_alloc ?_ _)); refine blk_far ?_ NB156_160.out _; (with_reducible repeat (first | refine blk_drewN ?_ _ | refine blk_drew ?_ | refine blk_alloc ?_ _)); refine blk_far ?_ NB156_160.out _; (with_reducible repeat (first | refine blk_drewN ?_ _ | refine blk_drew ?_ | refine blk_alloc ?_ _)); refine blk_far ?_ NB156_160.out _; (with_reducible repeat (first | refine blk_drewN ?_ _ | refine blk_drew ?_ | refine blk_alloc ?_ _)); exact BK156.out))⟩; have n1_ : Aside0 (w25.heap[gb157]? = some (.cells #[.bool false, .bool false, .bool false, .int .u64 0, .int .i64 0] 66 (0, 0))) := ⟨(by rw [hw]; exact (by (with_reducible repeat (first | refine blk_drewN ?_ _ | refine blk_drew ?_ | refine blk_alloc ?_ _)); refine blk_far ?_ NB157_160.out _; (with_reducible repeat (first | refine blk_drewN ?_ _ | refine blk_drew ?_ | refine blk_alloc ?_ _)); refine blk_far ?_ NB157_160.out _; (with_reducible repeat (first | refine blk_drewN ?_ _ | refine blk_drew ?_ | refine blk_alloc ?_ _)); refine blk_far ?_ NB157_160.out _; (with_reducible repeat (first | refine blk_drewN ?_ _ | refine blk_drew ?_ | refine blk_alloc ?_ _)); refine blk_far ?_ NB157_160.out _; (with_reducible repeat (first | refine blk_drewN ?_ _ | refine blk_drew ?_ | refine blk_alloc ?_ _)); refine blk_far ?_ NB157_160.out _; (with_reducible repeat (first | refine blk_drewN ?_ _ | refine blk_drew ?_ | refine blk_alloc ?_ _)); exact BK157.out))⟩; have n2_ : Aside0 (w25.heap[gb160]? = some (.cells #[.bool jb11, .bool false, .bool false, .int .u64 0, .int .i64 0] 66 (0, 0))) := ⟨(by rw [hw]; exact (by (with_reducible repeat (first | refine blk_drewN ?_ _ | refine blk_drew ?_ | refine blk_alloc ?_ _)); refine blk_put (cs := #[.bool jb11, .bool false, .bool false, .int .u64 0, .int .i64 0]) ?_ 4 _ rfl; (with_reducible repeat (first | refine blk_drewN ?_ _ | refine blk_drew ?_ | refine blk_alloc ?_ _)); refine blk_put (cs := #[.bool jb11, .bool false, .bool false, .int .u64 0, .int .i64 0]) ?_ 3 _ rfl; (with_reducible repeat (first | refine blk_drewN ?_ _ | refine blk_drew ?_ | refine blk_alloc ?_ _)); refine blk_put (cs := #[.bool jb11, .bool false, .bool false, .int .u64 0, .int .i64 0]) ?_ 2 _ rfl; (with_reducible repeat (first | refine blk_drewN ?_ _ | refine blk_drew ?_ | refine blk_alloc ?_ _)); refine blk_put (cs := #[.bool jb11, .bool false, .bool false, .int .u64 0, .int .i64 0]) ?_ 1 _ rfl; (with_reducible repeat (first | refine blk_drewN ?_ _ | refine blk_drew ?_ | refine blk_alloc ?_ _)); refine blk_put (cs := #[.bool false, .bool false, .bool false, .int .u64 0, .int .i64 0]) ?_ 0 _ rfl; (with_reducible repeat (first | refine blk_drewN ?_ _ | refine blk_drew ?_ | refine blk_alloc ?_ _)); exact BK160.out))⟩; have n3_ : Aside0 (Below w.heap.size w w25) := ⟨(by rw [hw]; exact (bw HB.out))⟩; clear hw; clear BK156; clear BK157; clear BK160; clear HB; have BK156 := n0_; have BK157 := n1_; have BK160 := n2_; have HB := n3_; clear n0_ n1_ n2_ n3_; have hcz26_0 : w25.cell? ⟨gb156, 0, none⟩ = some (.int .i64 a0_0) := (blk_cell BK156.out 0).trans rfl; have hcz26_1 : w25.cell? ⟨gb156, 1, none⟩ = some (.int .i64 a0_1) := (blk_cell BK156.out 1).trans rfl; have hfz26_0 := blk_frozen BK156.out 0; have hfz26_1 := blk_frozen BK156.out 1) | ((with_reducible refine gate_callee (f := 85) rfl ?_); refine goesL_ (some 46) rfl rfl Try.func85 (by kernel_rfl) rfl #[.agg #[.int .i64 a0_0, .int .i64 a0_1]] rfl ar ?_; (with_reducible refine (impl_format_top.calls a0_0 a0_1 t161 _ A9.out).mono ?_); rintro e w27 ⟨rfl, hb⟩; refine ⟨_, rfl, ?_⟩; have n0_ := Aside0.mk (blk_below (g := gb156) (o := .cells #[.int .i64 a0_0, .int .i64 a0_1] 62 (0, 0)) (bk BK156.out) hb); have n1_ := Aside0.mk (blk_below (g := gb157) (o := .cells #[.bool false, .bool false, .bool false, .int .u64 0, .int .i64 0] 66 (0, 0)) (bk BK157.out) hb); have n2_ := Aside0.mk (blk_below (g := gb160) (o := .cells #[.bool jb11, .bool false, .bool false, .int .u64 0, .int .i64 0] 66 (0, 0)) (bk BK160.out) hb); have n3_ := Aside0.mk (below_step (bw HB.out) hb); clear BK156; clear BK157; clear BK160; clear HB; have BK156 := n0_; have BK157 := n1_; have BK160 := n2_; have HB := n3_; clear n0_ n1_ n2_ n3_; (try clear hb); have hcz28_0 : w27.cell? ⟨gb160, 0, none⟩ = some (.bool jb11) := (blk_cell BK160.out 0).trans rfl; have hcz28_1 : w27.cell? ⟨gb160, 1, none⟩ = some (.bool false) := (blk_cell BK160.out 1).trans rfl; have hcz28_2 : w27.cell? ⟨gb160, 2, none⟩ = some (.bool false) := (blk_cell BK160.out 2).trans rfl; have hcz28_3 : w27.cell? ⟨gb160, 3, none⟩ = some (.int .u64 0) := (blk_cell BK160.out 3).trans rfl; have hcz28_4 : w27.cell? ⟨gb160, 4, none⟩ = some (.int .i64 0) := (blk_cell BK160.out 4).trans rfl; have hfz28_0 := blk_frozen BK160.out 0; have hfz28_1 := blk_frozen BK160.out 1; have hfz28_2 := blk_frozen BK160.out 2; have hfz28_3 := blk_frozen BK160.out 3; have hfz28_4 := blk_frozen BK160.out 4; have hcz29_0 : w27.cell? ⟨gb157, 0, none⟩ = some (.bool false) := (blk_cell BK157.out 0).trans rfl; have hcz29_1 : w27.cell? ⟨gb157, 1, none⟩ = some (.bool false) := (blk_cell BK157.out 1).trans rfl; have hcz29_2 : w27.cell? ⟨gb157, 2, none⟩ = some (.bool false) := (blk_cell BK157.out 2).trans rfl; have hcz29_3 : w27.cell? ⟨gb157, 3, none⟩ = some (.int .u64 0) := (blk_cell BK157.out 3).trans rfl; have hcz29_4 : w27.cell? ⟨gb157, 4, none⟩ = some (.int .i64 0) := (blk_cell BK157.out 4).trans rfl; have hfz29_0 := blk_frozen BK157.out 0; have hfz29_1 := blk_frozen BK157.out 1; have hfz29_2 := blk_frozen BK157.out 2; have hfz29_3 := blk_frozen BK157.out 3; have hfz29_4 := blk_frozen BK157.out 4) | ((with_reducible refine gate_store (t := 66) (p := 4) rfl ?_); refine store_event (t := 66) (p := 4) (v := ?vo_w30) (w1 := (((((((w27.setCell ⟨gb160, 1, none⟩ (.bool jb12)).setCell ⟨gb160, 2, none⟩ (.bool jb13)).setCell ⟨gb157, 0, none⟩ (.bool jb11)).setCell ⟨gb157, 1, none⟩ (.bool jb12)).setCell ⟨gb157, 2, none⟩ (.bool jb13)).setCell ⟨gb157, 3, none⟩ (.int .u64 0)).setCell ⟨gb157, 4, none⟩ (.int .i64 0))) ?hg ?ho ?hn ?hr ?_; (case ho => rfl); (case hg => rfl); (case hn => rfl); (case hr => first | (go_simp; done) | (go_simp; rfl)); intro w30 hw; have n0_ : Aside0 (w30.heap[gb156]? = some (.cells #[.int .i64 a0_0, .int .i64 a0_1] 62 (0, 0))) := ⟨(by rw [hw]; exact (by (with_reducible repeat (first | refine blk_drewN ?_ _ | refine blk_drew ?_ | refine blk_alloc ?_ _)); refine blk_far ?_ NB156_157.out _; (with_reducible repeat (first | refine blk_drewN ?_ _ | refine blk_drew ?_ | refine blk_alloc ?_ _)); refine blk_far ?_ NB156_157.out _; (with_reducible repeat (first | refine blk_drewN ?_ _ | refine blk_drew ?_ | refine blk_alloc ?_ _)); refine blk_far ?_ NB156_157.out _; (with_reducible repeat (first | refine blk_drewN ?_ _ | refine blk_drew ?_ | refine blk_alloc ?_ _)); refine blk_far ?_ NB156_157.out _; (with_reducible repeat (first | refine blk_drewN ?_ _ | refine blk_drew ?_ | refine blk_alloc ?_ _)); refine blk_far ?_ NB156_157.out _; (with_reducible repeat (first | refine blk_drewN ?_ _ | refine blk_drew ?_ | refine blk_alloc ?_ _)); refine blk_far ?_ NB156_160.out _; (with_reducible repeat (first | refine blk_drewN ?_ _ | refine blk_drew ?_ | refine blk_alloc ?_ _)); refine blk_far ?_ NB156_160.out _; (with_reducible repeat (first | refine blk_drewN ?_ _ | refine blk_drew ?_ | refine blk_alloc ?_ _)); exact BK156.out))⟩; have n1_ : Aside0 (w30.heap[gb157]? = some (.cells #[.bool jb11, .bool jb12, .bool jb13, .int .u64 0, .int .i64 0] 66 (0, 0))) := ⟨(by rw [hw]; exact (by (with_reducible repeat (first | refine blk_drewN ?_ _ | refine blk_drew ?_ | refine blk_alloc ?_ _)); refine blk_put (cs := #[.bool jb11, .bool jb12, .bool jb13, .int .u64 0, .int .i64 0]) ?_ 4 _ rfl; (with_reducible repeat (first | refine blk_drewN ?_ _ | refine blk_drew ?_ | refine blk_alloc ?_ _)); refine blk_put (cs := #[.bool jb11, .bool jb12, .bool jb13, .int .u64 0, .int .i64 0]) ?_ 3 _ rfl; (with_reducible repeat (first | refine blk_drewN ?_ _ | refine blk_drew ?_ | refine blk_alloc ?_ _)); refine blk_put (cs := #[.bool jb11, .bool jb12, .bool false, .int .u64 0, .int .i64 0]) ?_ 2 _ rfl; (with_reducible repeat (first | refine blk_drewN ?_ _ | refine blk_drew ?_ | refine blk_alloc ?_ _)); refine blk_put (cs := #[.bool jb11, .bool false, .bool false, .int .u64 0, .int .i64 0]) ?_ 1 _ rfl; (with_reducible repeat (first | refine blk_drewN ?_ _ | refine blk_drew ?_ | refine blk_alloc ?_ _)); refine blk_put (cs := #[.bool false, .bool false, .bool false, .int .u64 0, .int .i64 0]) ?_ 0 _ rfl; (with_reducible repeat (first | refine blk_drewN ?_ _ | refine blk_drew ?_ | refine blk_alloc ?_ _)); refine blk_far ?_ NB157_160.out _; (with_reducible repeat (first | refine blk_drewN ?_ _ | refine blk_drew ?_ | refine blk_alloc ?_ _)); refine blk_far ?_ NB157_160.out _; (with_reducible repeat (first | refine blk_drewN ?_ _ | refine blk_drew ?_ | refine blk_alloc ?_ _)); exact BK157.out))⟩; have n2_ : Aside0 (w30.heap[gb160]? = some (.cells #[.bool jb11, .bool jb12, .bool jb13, .int .u64 0, .int .i64 0] 66 (0, 0))) := ⟨(by rw [hw]; exact (by (with_reducible repeat (first | refine blk_drewN ?_ _ | refine blk_drew ?_ | refine blk_alloc ?_ _)); refine blk_far ?_ NB160_157.out _; (with_reducible repeat (first | refine blk_drewN ?_ _ | refine blk_drew ?_ | refine blk_alloc ?_ _)); refine blk_far ?_ NB160_157.out _; (with_reducible repeat (first | refine blk_drewN ?_ _ | refine blk_drew ?_ | refine blk_alloc ?_ _)); refine blk_far ?_ NB160_157.out _; (with_reducible repeat (first | refine blk_drewN ?_ _ | refine blk_drew ?_ | refine blk_alloc ?_ _)); refine blk_far ?_ NB160_157.out _; (with_reducible repeat (first | refine blk_drewN ?_ _ | refine blk_drew ?_ | refine blk_alloc ?_ _)); refine blk_far ?_ NB160_157.out _; (with_reducible repeat (first | refine blk_drewN ?_ _ | refine blk_drew ?_ | refine blk_alloc ?_ _)); refine blk_put (cs := #[.bool jb11, .bool jb12, .bool false, .int .u64 0, .int .i64 0]) ?_ 2 _ rfl; (with_reducible repeat (first | refine blk_drewN ?_ _ | refine blk_drew ?_ | refine blk_alloc ?_ _)); refine blk_put (cs := #[.bool jb11, .bool false, .bool false, .int .u64 0, .int .i64 0]) ?_ 1 _ rfl; (with_reducible repeat (first | refine blk_drewN ?_ _ | refine blk_drew ?_ | refine blk_alloc ?_ _)); exact BK160.out))⟩; have n3_ : Aside0 (Below w.heap.size w w30) := ⟨(by rw [hw]; exact (bw HB.out))⟩; clear hw; clear BK156; clear BK157; clear BK160; clear HB; have BK156 := n0_; have BK157 := n1_; have BK160 := n2_; have HB := n3_; clear n0_ n1_ n2_ n3_))
   refine bodyPost_ret (results_cell_row rfl _ _ gb157 66 #[.bool jb11, .bool jb12, .bool jb13, .int .u64 0, .int .i64 0] (0, 0) _ rfl (bk BK157.out) Try.underlying66 rfl (by kernel_rfl)) rfl ?_
   exact ⟨by first | rfl | (simp [errW_none, errW_some] <;> rfl) | (simp only [← hji4, ← hji7]; first | rfl | (simp [errW_none, errW_some] <;> rfl)) | (simp [*, errW_none, errW_some] <;> rfl), bw HB.out⟩
  ·
   rw [if_neg c10] at H
   have c10b0 : ((Go.bits .and .u32 (ji4) t158) == t161) = false := beq_eq_false_iff_ne.mpr c10
   have c10b1 : ((Go.bits .and .u32 (ji4) t158) != t161) = true := bne_iff_ne.mpr c10
   by_cases c31 : (Go.bits .and .u32 (ji4) t158) = 0
   ·
    rw [if_pos c31] at H
    have c31b0 : ((Go.bits .and .u32 (ji4) t158) == 0) = true := beq_iff_eq.mpr c31
    have c31b1 : ((Go.bits .and .u32 (ji4) t158) != 0) = false := bne_eq_false_iff_eq.mpr c31
    clear c31
    obtain ⟨jb32, hjb32⟩ : ∃ b_ : Bool, ((Go.bits .and .u32 a1 t159) != 0) = b_ := ⟨_, rfl⟩
    replace H : (some (jb32, false, false, IntKind.u64.wrap (Go.bits .and .u32 a1 (((ji7) - 1) % 4294967296)), wrap64 ((wrap64 (1 - a0_1)) - a0_0))) = some (r1, r2, r3, r4, r5) := by first | (rw [hjb32] at H; exact H) | exact H
    simp only [Option.some.injEq, Prod.mk.injEq] at H
    obtain ⟨rfl, rfl, rfl, rfl, rfl⟩ := H
    go_enter Try.func52, Try.ntmps52
    try go_wp2_with (first | ((with_reducible refine gate_dst (N := 2) rfl ?_); refine box_event ?hg (N := 2) ?hd (cs := #[.int .i64 a0_0, .int .i64 a0_1]) (t := 62) ?hr ?_; (case hd => rfl); (case hg => rfl); (case hr => first | (go_simp; done) | (go_simp; rfl)); intro gb156 hg w33 hbox hb; have n0_ := Aside0.mk (below_step (bw HB.out) hb); have n1_ := Aside0.mk (hbox); have n2_ := Aside0.mk ((by rw [hg]; exact (below_size (bw HB.out)) : w.heap.size ≤ gb156)); have n3_ := Aside0.mk ((by rw [hg]; exact (below_size (bw HB.out)) : w.heap.size ≤ gb156)); clear HB; have HB := n0_; have BK156 := n1_; have GW156 := n2_; have GE156 := n3_; clear n0_ n1_ n2_ n3_; clear hb hbox hg) | ((with_reducible refine gate_dst (N := 4) rfl ?_); refine box_event ?hg (N := 4) ?hd (cs := #[.bool false, .bool false, .bool false, .int .u64 0, .int .i64 0]) (t := 66) ?hr ?_; (case hd => rfl); (case hg => rfl); (case hr => first | (go_simp; done) | (go_simp; rfl)); intro gb157 hg w34 hbox hb; have n0_ := Aside0.mk (blk_below (g := gb156) (o := .cells #[.int .i64 a0_0, .int .i64 a0_1] 62 (0, 0)) (bk BK156.out) hb); have n1_ := Aside0.mk (below_step (bw HB.out) hb); have n2_ := Aside0.mk (hbox); have n3_ := Aside0.mk ((by rw [hg]; exact (below_size (bw HB.out)) : w.heap.size ≤ gb157)); have n4_ := Aside0.mk ((by rw [hg]; exact (below_size (bw HB.out)) : w.heap.size ≤ gb157)); have n5_ := Aside0.mk ((by rw [hg]; exact Nat.ne_of_lt (blk_lt (g := gb156) (o := .cells #[.int .i64 a0_0, .int .i64 a0_1] 62 (0, 0)) (bk BK156.out)) : gb156 ≠ gb157)); have n6_ := Aside0.mk ((by rw [hg]; exact Nat.ne_of_gt (blk_lt (g := gb156) (o := .cells #[.int .i64 a0_0, .int .i64 a0_1] 62 (0, 0)) (bk BK156.out)) : gb157 ≠ gb156)); clear BK156; clear HB; have BK156 := n0_; have HB := n1_; have BK157 := n2_; have GW157 := n3_; have GE157 := n4_; have NB156_157 := n5_; have NB157_156 := n6_; clear n0_ n1_ n2_ n3_ n4_ n5_ n6_; clear hb hbox hg))
    have n0_ := Aside0.mk (blk_drew BK156.out)
    have n1_ := Aside0.mk (blk_drew BK157.out)
    have n2_ := Aside0.mk (below_drew1 HB.out)
    clear BK156
    clear BK157
    clear HB
    have BK156 := n0_
    have BK157 := n1_
    have HB := n2_
    clear n0_ n1_ n2_
    refine start_ (n := 8) (S := fun w' => w'.cell? ⟨gb156, 0, none⟩ = some (.int .i64 a0_0) ∧ w'.cell? ⟨gb156, 1, none⟩ = some (.int .i64 a0_1)) (ds := []) #[false, false, false, false, false, false, false, false] (by kernel_rfl) rfl rfl ⟨(blk_cell BK156.out 0).trans rfl, (blk_cell BK156.out 1).trans rfl⟩ (fun hHeld => ?_); refine with_tabW impl_format_open.tab1 impl_format_open.bits1 (fun HT_ HW_ => ?_)
    generalize w34.drew = w35 at BK156 BK157 HB hHeld ⊢
    refine pure_ (i := 0) (N := some 8) (v := ?_) (a' := ?_) #[true, false, false, false, false, false, false, false] rfl rfl (any_of HT_.out (by kernel_rfl)) (fun _ _ _ h => h) (Or.inl ⟨by rfl, ?_⟩) ?_ ?_
    rotate_left
    ·
     intro w'
     go_simp
     with_reducible rfl
    rotate_left
    ·
     simp only [Act.put, List.setIfInBounds_toArray, List.set_cons_zero, List.set_cons_succ, i64_w, i32_w]
     rfl
    refine pure_ (i := 1) (N := some 9) (v := ?_) (a' := ?_) #[true, true, false, false, false, false, false, false] rfl rfl (any_of HT_.out (by kernel_rfl)) (fun _ _ _ h => h) (Or.inl ⟨by rfl, ?_⟩) ?_ ?_
    rotate_left
    ·
     intro w'
     go_simp
     with_reducible rfl
    rotate_left
    ·
     simp only [Act.put, List.setIfInBounds_toArray, List.set_cons_zero, List.set_cons_succ, i64_w, i32_w]
     rfl
    refine take_ (i := 2) (N := some 10) (v := ?_) (a' := ?_) #[true, true, true, false, false, false, false, false] rfl rfl (take_ofW HT_.out HW_.out (by kernel_rfl)) (fun _ _ _ h => h) (Or.inl ⟨by rfl, ?_⟩) hHeld ?_ ?_
    rotate_left
    ·
     rintro w' ⟨s0, s1⟩
     go_simp
     with_reducible rfl
    rotate_left
    ·
     simp only [Act.put, List.setIfInBounds_toArray, List.set_cons_zero, List.set_cons_succ, i64_w, i32_w]
     rfl
    refine pure_ (i := 3) (N := some 11) (v := ?_) (a' := ?_) #[true, true, true, true, false, false, false, false] rfl rfl (any_of HT_.out (by kernel_rfl)) (fun _ _ _ h => h) (Or.inl ⟨by rfl, ?_⟩) ?_ ?_
    rotate_left
    ·
     intro w'
     go_simp
     with_reducible rfl
    rotate_left
    ·
     simp only [Act.put, List.setIfInBounds_toArray, List.set_cons_zero, List.set_cons_succ, i64_w, i32_w]
     rfl
    refine take_ (i := 4) (N := some 12) (v := ?_) (a' := ?_) #[true, true, true, true, true, false, false, false] rfl rfl (take_ofW HT_.out HW_.out (by kernel_rfl)) (fun _ _ _ h => h) (Or.inl ⟨by rfl, ?_⟩) hHeld ?_ ?_
    rotate_left
    ·
     rintro w' ⟨s0, s1⟩
     go_simp
     with_reducible rfl
    rotate_left
    ·
     simp only [Act.put, List.setIfInBounds_toArray, List.set_cons_zero, List.set_cons_succ, i64_w, i32_w]
     rfl
    refine one_ (i := 5) (N := some 13) #[true, true, true, true, true, true, false, false] rfl rfl (one_of HT_.out (by kernel_rfl)) (by decide) (fun K hK => ?_)
    refine goes_ Try.func85 (by kernel_rfl) rfl #[.agg #[.int .i64 a0_0, .int .i64 a0_1]] (by rfl) rfl rfl ar ?_
    with_reducible refine (impl_format_top.calls a0_0 a0_1 t158 _ A5.out).mono ?_
    rintro e w36 ⟨rfl, hb⟩
    refine ⟨_, rfl, ?_⟩
    have n0_ := Aside0.mk (blk_below (g := gb156) (o := .cells #[.int .i64 a0_0, .int .i64 a0_1] 62 (0, 0)) (bk BK156.out) hb)
    have n1_ := Aside0.mk (blk_below (g := gb157) (o := .cells #[.bool false, .bool false, .bool false, .int .u64 0, .int .i64 0] 66 (0, 0)) (bk BK157.out) hb)
    have n2_ := Aside0.mk (below_step (bw HB.out) hb)
    clear BK156
    clear BK157
    clear HB
    have BK156 := n0_
    have BK157 := n1_
    have HB := n2_
    clear n0_ n1_ n2_
    (try clear hb)
    (try clear hb2)
    (try clear hk)
    (try clear hi)
    refine hK.out _ _ ⟨(blk_cell BK156.out 0).trans rfl, (blk_cell BK156.out 1).trans rfl⟩ (fun hHeld => ?_)
    clear hK K
    refine norm_ (a' := ?_) ?_ ?_
    rotate_left
    ·
     show Act.put _ (some 13) _ = _
     simp only [Act.put, List.setIfInBounds_toArray, List.set_cons_zero, List.set_cons_succ, i64_w, i32_w]
     rfl
    refine pure_ (i := 6) (N := some 14) (v := ?_) (a' := ?_) #[true, true, true, true, true, true, true, false] rfl rfl (any_of HT_.out (by kernel_rfl)) (fun _ _ _ h => h) (Or.inl ⟨by rfl, ?_⟩) ?_ ?_
    rotate_left
    ·
     intro w'
     go_simp
     with_reducible rfl
    rotate_left
    ·
     simp only [Act.put, List.setIfInBounds_toArray, List.set_cons_zero, List.set_cons_succ, i64_w, i32_w]
     rfl
    refine pure_ (i := 7) (N := some 5) (v := ?_) (a' := ?_) #[true, true, true, true, true, true, true, true] rfl rfl (any_of HT_.out (by kernel_rfl)) (fun _ _ _ h => h) (Or.inl ⟨by rfl, ?_⟩) ?_ ?_
    rotate_left
    ·
     intro w'
     go_simp
     with_reducible rfl
    rotate_left
    ·
     simp only [Act.put, List.setIfInBounds_toArray, List.set_cons_zero, List.set_cons_succ, i64_w, i32_w]
     rfl
    refine done_ (done_of HT_.out (by kernel_rfl)) ?_
    have hnb37 := NB156_157.out
    have hnc37 := NB157_156.out
    have hcz38_0 : w36.cell? ⟨gb156, 0, none⟩ = some (.int .i64 a0_0) := (blk_cell BK156.out 0).trans rfl
    have hcz38_1 : w36.cell? ⟨gb156, 1, none⟩ = some (.int .i64 a0_1) := (blk_cell BK156.out 1).trans rfl
    have hfz38_0 := blk_frozen BK156.out 0
    have hfz38_1 := blk_frozen BK156.out 1
    try go_wp2_with (first | ((with_reducible refine gate_callee (f := 72) rfl ?_); refine goesL_ (some 24) rfl rfl Try.func72 (by kernel_rfl) rfl #[.agg #[.int .i64 a0_0, .int .i64 a0_1]] rfl ar ?_; (with_reducible refine (impl_format_sign.calls a0_0 a0_1 t159 _ A8.out).mono ?_); rintro e w39 ⟨rfl, hb⟩; refine ⟨_, rfl, ?_⟩; have n0_ := Aside0.mk (blk_below (g := gb156) (o := .cells #[.int .i64 a0_0, .int .i64 a0_1] 62 (0, 0)) (bk BK156.out) hb); have n1_ := Aside0.mk (blk_below (g := gb157) (o := .cells #[.bool false, .bool false, .bool false, .int .u64 0, .int .i64 0] 66 (0, 0)) (bk BK157.out) hb); have n2_ := Aside0.mk (below_step (bw HB.out) hb); clear BK156; clear BK157; clear HB; have BK156 := n0_; have BK157 := n1_; have HB := n2_; clear n0_ n1_ n2_; (try clear hb)) | ((with_reducible refine gate_dst (N := 7) rfl ?_); refine box_event ?hg (N := 7) ?hd (cs := #[.bool false, .bool false, .bool false, .int .u64 0, .int .i64 0]) (t := 66) ?hr ?_; (case hd => rfl); (case hg => rfl); (case hr => first | (go_simp; done) | (go_simp; rfl)); intro gb160 hg w40 hbox hb; have n0_ := Aside0.mk (blk_below (g := gb156) (o := .cells #[.int .i64 a0_0, .int .i64 a0_1] 62 (0, 0)) (bk BK156.out) hb); have n1_ := Aside0.mk (blk_below (g := gb157) (o := .cells #[.bool false, .bool false, .bool false, .int .u64 0, .int .i64 0] 66 (0, 0)) (bk BK157.out) hb); have n2_ := Aside0.mk (below_step (bw HB.out) hb); have n3_ := Aside0.mk (hbox); have n4_ := Aside0.mk ((by rw [hg]; exact (below_size (bw HB.out)) : w.heap.size ≤ gb160)); have n5_ := Aside0.mk ((by rw [hg]; exact (below_size (bw HB.out)) : w.heap.size ≤ gb160)); have n6_ := Aside0.mk ((by rw [hg]; exact Nat.ne_of_lt (blk_lt (g := gb156) (o := .cells #[.int .i64 a0_0, .int .i64 a0_1] 62 (0, 0)) (bk BK156.out)) : gb156 ≠ gb160)); have n7_ := Aside0.mk ((by rw [hg]; exact Nat.ne_of_gt (blk_lt (g := gb156) (o := .cells #[.int .i64 a0_0, .int .i64 a0_1] 62 (0, 0)) (bk BK156.out)) : gb160 ≠ gb156)); have n8_ := Aside0.mk ((by rw [hg]; exact Nat.ne_of_lt (blk_lt (g := gb157) (o := .cells #[.bool false, .bool false, .bool false, .int .u64 0, .int .i64 0] 66 (0, 0)) (bk BK157.out)) : gb157 ≠ gb160)); have n9_ := Aside0.mk ((by rw [hg]; exact Nat.ne_of_gt (blk_lt (g := gb157) (o := .cells #[.bool false, .bool false, .bool false, .int .u64 0, .int .i64 0] 66 (0, 0)) (bk BK157.out)) : gb160 ≠ gb157)); clear BK156; clear BK157; clear HB; have BK156 := n0_; have BK157 := n1_; have HB := n2_; have BK160 := n3_; have GW160 := n4_; have GE160 := n5_; have NB156_160 := n6_; have NB160_156 := n7_; have NB157_160 := n8_; have NB160_157 := n9_; clear n0_ n1_ n2_ n3_ n4_ n5_ n6_ n7_ n8_ n9_; clear hb hbox hg; have hnb41 := NB160_156.out; have hnc41 := NB156_160.out; have hnb42 := NB160_157.out; have hnc42 := NB157_160.out; have hcz43_0 : w40.cell? ⟨gb160, 0, none⟩ = some (.bool false) := (blk_cell BK160.out 0).trans rfl; have hcz43_1 : w40.cell? ⟨gb160, 1, none⟩ = some (.bool false) := (blk_cell BK160.out 1).trans rfl; have hcz43_2 : w40.cell? ⟨gb160, 2, none⟩ = some (.bool false) := (blk_cell BK160.out 2).trans rfl; have hcz43_3 : w40.cell? ⟨gb160, 3, none⟩ = some (.int .u64 0) := (blk_cell BK160.out 3).trans rfl; have hcz43_4 : w40.cell? ⟨gb160, 4, none⟩ = some (.int .i64 0) := (blk_cell BK160.out 4).trans rfl; have hfz43_0 := blk_frozen BK160.out 0; have hfz43_1 := blk_frozen BK160.out 1; have hfz43_2 := blk_frozen BK160.out 2; have hfz43_3 := blk_frozen BK160.out 3; have hfz43_4 := blk_frozen BK160.out 4) | ((with_reducible refine gate_store (t := 66) (p := 7) rfl ?_); refine store_event (t := 66) (p := 7) (v := ?vo_w44) (w1 := (((((w40.setCell ⟨gb160, 0, none⟩ (.bool jb32)).setCell ⟨gb160, 1, none⟩ (.bool false)).setCell ⟨gb160, 2, none⟩ (.bool false)).setCell ⟨gb160, 3, none⟩ (.int .u64 0)).setCell ⟨gb160, 4, none⟩ (.int .i64 0))) ?hg ?ho ?hn ?hr ?_; (case ho => rfl); (case hg => rfl); (case hn => rfl); (case hr => first | (go_simp; done) | (go_simp; rfl)); intro w44 hw; have n0_ : Aside0 (w44.heap[gb156]? = some (.cells #[.int .i64 a0_0, .int .i64 a0_1] 62 (0, 0))) := ⟨(by rw [hw]; exact (by (with_reducible repeat (first | refine blk_drewN ?_ _ | refine blk_drew ?_ | refine blk_alloc ?_ _)); refine blk_far ?_ NB156_160.out _; (with_reducible repeat (first | refine blk_drewN ?_ _ | refine blk_drew ?_ | refine blk_alloc ?_ _)); refine blk_far ?_ NB156_160.out _; (with_reducible repeat (first | refine blk_drewN ?_ _ | refine blk_drew ?_ | refine blk_alloc ?_ _)); refine blk_far ?_ NB156_160.out _; (with_reducible repeat (first | refine blk_drewN ?_ _ | refine blk_drew ?_ | refine blk_alloc ?_ _)); refine blk_far ?_ NB156_160.out _; (with_reducible repeat (first | refine blk_drewN ?_ _ | refine blk_drew ?_ | refine blk_alloc ?_ _)); refine blk_far ?_ NB156_160.out _; (with_reducible repeat (first | refine blk_drewN ?_ _ | refine blk_drew ?_ | refine blk_alloc ?_ _)); exact BK156.out))⟩; have n1_ : Aside0 (w44.heap[gb157]? = some (.cells #[.bool false, .bool false, .bool false, .int .u64 0, .int .i64 0] 66 (0, 0))) := ⟨(by rw [hw]; exact (by (with_reducible repeat (first | refine blk_drewN ?_ _ | refine blk_drew ?_ | refine blk_alloc ?_ _)); refine blk_far ?_ NB157_160.out _; (with_reducible repeat (first | refine blk_drewN ?_ _ | refine blk_drew ?_ | refine blk_alloc ?_ _)); refine blk_far ?_ NB157_160.out _; (with_reducible repeat (first | refine blk_drewN ?_ _ | refine blk_drew ?_ | refine blk_alloc ?_ _)); refine blk_far ?_ NB157_160.out _; (with_reducible repeat (first | refine blk_drewN ?_ _ | refine blk_drew ?_ | refine blk_alloc ?_ _)); refine blk_far ?_ NB157_160.out _; (with_reducible repeat (first | refine blk_drewN ?_ _ | refine blk_drew ?_ | refine blk_alloc ?_ _)); refine blk_far ?_ NB157_160.out _; (with_reducible repeat (first | refine blk_drewN ?_ _ | refine blk_drew ?_ | refine blk_alloc ?_ _)); exact BK157.out))⟩; have n2_ : Aside0 (w44.heap[gb160]? = some (.cells #[.bool jb32, .bool false, .bool false, .int .u64 0, .int .i64 0] 66 (0, 0))) := ⟨(by rw [hw]; exact (by (with_reducible repeat (first | refine blk_drewN ?_ _ | refine blk_drew ?_ | refine blk_alloc ?_ _)); refine blk_put (cs := #[.bool jb32, .bool false, .bool false, .int .u64 0, .int .i64 0]) ?_ 4 _ rfl; (with_reducible repeat (first | refine blk_drewN ?_ _ | refine blk_drew ?_ | refine blk_alloc ?_ _)); refine blk_put (cs := #[.bool jb32, .bool false, .bool false, .int .u64 0, .int .i64 0]) ?_ 3 _ rfl; (with_reducible repeat (first | refine blk_drewN ?_ _ | refine blk_drew ?_ | refine blk_alloc ?_ _)); refine blk_put (cs := #[.bool jb32, .bool false, .bool false, .int .u64 0, .int .i64 0]) ?_ 2 _ rfl; (with_reducible repeat (first | refine blk_drewN ?_ _ | refine blk_drew ?_ | refine blk_alloc ?_ _)); refine blk_put (cs := #[.bool jb32, .bool false, .bool false, .int .u64 0, .int .i64 0]) ?_ 1 _ rfl; (with_reducible repeat (first | refine blk_drewN ?_ _ | refine blk_drew ?_ | refine blk_alloc ?_ _)); refine blk_put (cs := #[.bool false, .bool false, .bool false, .int .u64 0, .int .i64 0]) ?_ 0 _ rfl; (with_reducible repeat (first | refine blk_drewN ?_ _ | refine blk_drew ?_ | refine blk_alloc ?_ _)); exact BK160.out))⟩; have n3_ : Aside0 (Below w.heap.size w w44) := ⟨(by rw [hw]; exact (bw HB.out))⟩; clear hw; clear BK156; clear BK157; clear BK160; clear HB; have BK156 := n0_; have BK157 := n1_; have BK160 := n2_; have HB := n3_; clear n0_ n1_ n2_ n3_; have hcz45_0 : w44.cell? ⟨gb156, 0, none⟩ = some (.int .i64 a0_0) := (blk_cell BK156.out 0).trans rfl; have hcz45_1 : w44.cell? ⟨gb156, 1, none⟩ = some (.int .i64 a0_1) := (blk_cell BK156.out 1).trans rfl; have hfz45_0 := blk_frozen BK156.out 0; have hfz45_1 := blk_frozen BK156.out 1) | ((with_reducible refine gate_callee (f := 85) rfl ?_); refine goesL_ (some 46) rfl rfl Try.func85 (by kernel_rfl) rfl #[.agg #[.int .i64 a0_0, .int .i64 a0_1]] rfl ar ?_; (with_reducible refine (impl_format_top.calls a0_0 a0_1 t161 _ A9.out).mono ?_); rintro e w46 ⟨rfl, hb⟩; refine ⟨_, rfl, ?_⟩; have n0_ := Aside0.mk (blk_below (g := gb156) (o := .cells #[.int .i64 a0_0, .int .i64 a0_1] 62 (0, 0)) (bk BK156.out) hb); have n1_ := Aside0.mk (blk_below (g := gb157) (o := .cells #[.bool false, .bool false, .bool false, .int .u64 0, .int .i64 0] 66 (0, 0)) (bk BK157.out) hb); have n2_ := Aside0.mk (blk_below (g := gb160) (o := .cells #[.bool jb32, .bool false, .bool false, .int .u64 0, .int .i64 0] 66 (0, 0)) (bk BK160.out) hb); have n3_ := Aside0.mk (below_step (bw HB.out) hb); clear BK156; clear BK157; clear BK160; clear HB; have BK156 := n0_; have BK157 := n1_; have BK160 := n2_; have HB := n3_; clear n0_ n1_ n2_ n3_; (try clear hb)))
    have n0_ := Aside0.mk (blk_drew BK156.out)
    have n1_ := Aside0.mk (blk_drew BK157.out)
    have n2_ := Aside0.mk (blk_drew BK160.out)
    have n3_ := Aside0.mk (below_drew1 HB.out)
    clear BK156
    clear BK157
    clear BK160
    clear HB
    have BK156 := n0_
    have BK157 := n1_
    have BK160 := n2_
    have HB := n3_
    clear n0_ n1_ n2_ n3_
    refine start_ (n := 11) (S := fun w' => w'.cell? ⟨gb156, 0, none⟩ = some (.int .i64 a0_0) ∧ w'.cell? ⟨gb156, 1, none⟩ = some (.int .i64 a0_1)) (ds := []) #[false, false, false, false, false, false, false, false, false, false, false] (by kernel_rfl) rfl rfl ⟨(blk_cell BK156.out 0).trans rfl, (blk_cell BK156.out 1).trans rfl⟩ (fun hHeld => ?_); refine with_tabW impl_format_open.tab8 impl_format_open.bits8 (fun HT_ HW_ => ?_)
    generalize w46.drew = w47 at BK156 BK157 BK160 HB hHeld ⊢
    refine pure_ (i := 0) (N := some 57) (v := ?_) (a' := ?_) #[true, false, false, false, false, false, false, false, false, false, false] rfl rfl (any_of HT_.out (by kernel_rfl)) (fun _ _ _ h => h) (Or.inl ⟨by rfl, ?_⟩) ?_ ?_
    rotate_left
    ·
     intro w'
     go_simp
     with_reducible rfl
    rotate_left
    ·
     simp only [Act.put, List.setIfInBounds_toArray, List.set_cons_zero, List.set_cons_succ, i64_w, i32_w]
     rfl
    refine pure_ (i := 1) (N := some 58) (v := ?_) (a' := ?_) #[true, true, false, false, false, false, false, false, false, false, false] rfl rfl (any_of HT_.out (by kernel_rfl)) (fun _ _ _ h => h) (Or.inl ⟨by rfl, ?_⟩) ?_ ?_
    rotate_left
    ·
     intro w'
     go_simp
     with_reducible rfl
    rotate_left
    ·
     simp only [Act.put, List.setIfInBounds_toArray, List.set_cons_zero, List.set_cons_succ, i64_w, i32_w]
     rfl
    refine pure_ (i := 4) (N := some 61) (v := ?_) (a' := ?_) #[true, true, false, false, true, false, false, false, false, false, false] rfl rfl (any_of HT_.out (by kernel_rfl)) (fun _ _ _ h => h) (Or.inl ⟨by rfl, ?_⟩) ?_ ?_
    rotate_left
    ·
     intro w'
     go_simp
     with_reducible rfl
    rotate_left
    ·
     simp only [Act.put, List.setIfInBounds_toArray, List.set_cons_zero, List.set_cons_succ, i64_w, i32_w]
     rfl
    refine pure_ (i := 7) (N := some 64) (v := ?_) (a' := ?_) #[true, true, false, false, true, false, false, true, false, false, false] rfl rfl (any_of HT_.out (by kernel_rfl)) (fun _ _ _ h => h) (Or.inl ⟨by rfl, ?_⟩) ?_ ?_
    rotate_left
    ·
     intro w'
     go_simp
     with_reducible rfl
    rotate_left
    ·
     simp only [Act.put, List.setIfInBounds_toArray, List.set_cons_zero, List.set_cons_succ, i64_w, i32_w]
     rfl
    refine take_ (i := 2) (N := some 59) (v := ?_) (a' := ?_) #[true, true, true, false, true, false, false, true, false, false, false] rfl rfl (take_ofW HT_.out HW_.out (by kernel_rfl)) (fun _ _ _ h => h) (Or.inl ⟨by rfl, ?_⟩) hHeld ?_ ?_
    rotate_left
    ·
     rintro w' ⟨s0, s1⟩
     go_simp
     with_reducible rfl
    rotate_left
    ·
     simp only [Act.put, List.setIfInBounds_toArray, List.set_cons_zero, List.set_cons_succ, i64_w, i32_w]
     rfl
    refine pure_ (i := 3) (N := some 60) (v := ?_) (a' := ?_) #[true, true, true, true, true, false, false, true, false, false, false] rfl rfl (any_of HT_.out (by kernel_rfl)) (fun _ _ _ h => h) (Or.inl ⟨by rfl, ?_⟩) ?_ ?_
    rotate_left
    ·
     intro w'
     go_simp
     with_reducible rfl
    rotate_left
    ·
     simp only [Act.put, List.setIfInBounds_toArray, List.set_cons_zero, List.set_cons_succ, i64_w, i32_w]
     rfl
    refine take_ (i := 5) (N := some 62) (v := ?_) (a' := ?_) #[true, true, true, true, true, true, false, true, false, false, false] rfl rfl (take_ofW HT_.out HW_.out (by kernel_rfl)) (fun _ _ _ h => h) (Or.inl ⟨by rfl, ?_⟩) hHeld ?_ ?_
    rotate_left
    ·
     rintro w' ⟨s0, s1⟩
     go_simp
     with_reducible rfl
    rotate_left
    ·
     simp only [Act.put, List.setIfInBounds_toArray, List.set_cons_zero, List.set_cons_succ, i64_w, i32_w]
     rfl
    refine pure_ (i := 6) (N := some 63) (v := ?_) (a' := ?_) #[true, true, true, true, true, true, true, true, false, false, false] rfl rfl (any_of HT_.out (by kernel_rfl)) (fun _ _ _ h => h) (Or.inl ⟨by rfl, ?_⟩) ?_ ?_
    rotate_left
    ·
     intro w'
     go_simp
     with_reducible rfl
    rotate_left
    ·
     simp only [Act.put, List.setIfInBounds_toArray, List.set_cons_zero, List.set_cons_succ, i64_w, i32_w]
     rfl
    refine one_ (i := 8) (N := none) #[true, true, true, true, true, true, true, true, true, false, false] rfl rfl (one_of HT_.out (by kernel_rfl)) (by decide) (fun K hK => ?_)
    have hs48 : w47.cell? ⟨gb160, 3, none⟩ = some (.int .u64 0) := (blk_cell BK160.out 3).trans rfl
    have hfs48 := blk_frozen BK160.out 3
    have hns48_0 := NB156_160.out
    have hns48_1 := NB157_160.out
    have hms48_0 := NB160_156.out
    have hms48_1 := NB160_157.out
    refine skip_ (w1 := ?_) (by rfl) rfl ?_ ?_
    rotate_left
    ·
     go_simp
     rfl
    refine hK.out _ _ ⟨((cell_far (p := ⟨gb160, _, none⟩) NB156_160.out _).trans (hHeld.1)), ((cell_far (p := ⟨gb160, _, none⟩) NB156_160.out _).trans (hHeld.2))⟩ (fun hHeld => ?_)
    clear hK K
    refine pure_ (i := 9) (N := some 65) (v := ?_) (a' := ?_) #[true, true, true, true, true, true, true, true, true, true, false] rfl rfl (any_of HT_.out (by kernel_rfl)) (fun _ _ _ h => h) (Or.inl ⟨by rfl, ?_⟩) ?_ ?_
    rotate_left
    ·
     intro w'
     go_simp
     with_reducible rfl
    rotate_left
    ·
     simp only [Act.put, List.setIfInBounds_toArray, List.set_cons_zero, List.set_cons_succ, i64_w, i32_w]
     rfl
    refine one_ (i := 10) (N := none) #[true, true, true, true, true, true, true, true, true, true, true] rfl rfl (one_of HT_.out (by kernel_rfl)) (by decide) (fun K hK => ?_)
    have hs49 : w47.cell? ⟨gb160, 4, none⟩ = some (.int .i64 0) := (blk_cell BK160.out 4).trans rfl
    have hfs49 := blk_frozen BK160.out 4
    have hns49_0 := NB156_160.out
    have hns49_1 := NB157_160.out
    have hms49_0 := NB160_156.out
    have hms49_1 := NB160_157.out
    refine skip_ (w1 := ?_) (by rfl) rfl ?_ ?_
    rotate_left
    ·
     go_simp
     rfl
    refine hK.out _ _ ⟨((cell_far (p := ⟨gb160, _, none⟩) NB156_160.out _).trans (hHeld.1)), ((cell_far (p := ⟨gb160, _, none⟩) NB156_160.out _).trans (hHeld.2))⟩ (fun hHeld => ?_)
    clear hK K
    refine done_ (done_of HT_.out (by kernel_rfl)) ?_
    have hcz50_0 : w47.cell? ⟨gb160, 0, none⟩ = some (.bool jb32) := (blk_cell BK160.out 0).trans rfl
    have hcz50_1 : w47.cell? ⟨gb160, 1, none⟩ = some (.bool false) := (blk_cell BK160.out 1).trans rfl
    have hcz50_2 : w47.cell? ⟨gb160, 2, none⟩ = some (.bool false) := (blk_cell BK160.out 2).trans rfl
    have hcz50_3 : w47.cell? ⟨gb160, 3, none⟩ = some (.int .u64 0) := (blk_cell BK160.out 3).trans rfl
    have hcz50_4 : w47.cell? ⟨gb160, 4, none⟩ = some (.int .i64 0) := (blk_cell BK160.out 4).trans rfl
    have hfz50_0 := blk_frozen BK160.out 0
    have hfz50_1 := blk_frozen BK160.out 1
    have hfz50_2 := blk_frozen BK160.out 2
    have hfz50_3 := blk_frozen BK160.out 3
    have hfz50_4 := blk_frozen BK160.out 4
    have hcz51_0 : w47.cell? ⟨gb157, 0, none⟩ = some (.bool false) := (blk_cell BK157.out 0).trans rfl
    have hcz51_1 : w47.cell? ⟨gb157, 1, none⟩ = some (.bool false) := (blk_cell BK157.out 1).trans rfl
    have hcz51_2 : w47.cell? ⟨gb157, 2, none⟩ = some (.bool false) := (blk_cell BK157.out 2).trans rfl
    have hcz51_3 : w47.cell? ⟨gb157, 3, none⟩ = some (.int .u64 0) := (blk_cell BK157.out 3).trans rfl
    have hcz51_4 : w47.cell? ⟨gb157, 4, none⟩ = some (.int .i64 0) := (blk_cell BK157.out 4).trans rfl
    have hfz51_0 := blk_frozen BK157.out 0
    have hfz51_1 := blk_frozen BK157.out 1
    have hfz51_2 := blk_frozen BK157.out 2
    have hfz51_3 := blk_frozen BK157.out 3
    have hfz51_4 := blk_frozen BK157.out 4
    try go_wp2_with (first | ((with_reducible refine gate_store (t := 66) (p := 4) rfl ?_); refine store_event (t := 66) (p := 4) (v := ?vo_w52) (w1 := (((((((w47.setCell ⟨gb160, 3, none⟩ (.int .u64 (IntKind.u64.wrap (Go.bits .and .u32 a1 (((ji7) - 1) % 4294967296))))).setCell ⟨gb160, 4, none⟩ (.int .i64 (wrap64 ((wrap64 (1 - a0_1)) - a0_0)))).setCell ⟨gb157, 0, none⟩ (.bool jb32)).setCell ⟨gb157, 1, none⟩ (.bool false)).setCell ⟨gb157, 2, none⟩ (.bool false)).setCell ⟨gb157, 3, none⟩ (.int .u64 (IntKind.u64.wrap (Go.bits .and .u32 a1 (((ji7) - 1) % 4294967296))))).setCell ⟨gb157, 4, none⟩ (.int .i64 (wrap64 ((wrap64 (1 - a0_1)) - a0_0))))) ?hg ?ho ?hn ?hr ?_; (case ho => rfl); (case hg => rfl); (case hn => rfl); (case hr => first | (go_simp; done) | (go_simp; rfl)); intro w52 hw; have n0_ : Aside0 (w52.heap[gb156]? = some (.cells #[.int .i64 a0_0, .int .i64 a0_1] 62 (0, 0))) := ⟨(by rw [hw]; exact (by (with_reducible repeat (first | refine blk_drewN ?_ _ | refine blk_drew ?_ | refine blk_alloc ?_ _)); refine blk_far ?_ NB156_157.out _; (with_reducible repeat (first | refine blk_drewN ?_ _ | refine blk_drew ?_ | refine blk_alloc ?_ _)); refine blk_far ?_ NB156_157.out _; (with_reducible repeat (first | refine blk_drewN ?_ _ | refine blk_drew ?_ | refine blk_alloc ?_ _)); refine blk_far ?_ NB156_157.out _; (with_reducible repeat (first | refine blk_drewN ?_ _ | refine blk_drew ?_ | refine blk_alloc ?_ _)); refine blk_far ?_ NB156_157.out _; (with_reducible repeat (first | refine blk_drewN ?_ _ | refine blk_drew ?_ | refine blk_alloc ?_ _)); refine blk_far ?_ NB156_157.out _; (with_reducible repeat (first | refine blk_drewN ?_ _ | refine blk_drew ?_ | refine blk_alloc ?_ _)); refine blk_far ?_ NB156_160.out _; (with_reducible repeat (first | refine blk_drewN ?_ _ | refine blk_drew ?_ | refine blk_alloc ?_ _)); refine blk_far ?_ NB156_160.out _; (with_reducible repeat (first | refine blk_drewN ?_ _ | refine blk_drew ?_ | refine blk_alloc ?_ _)); exact BK156.out))⟩; have n1_ : Aside0 (w52.heap[gb157]? = some (.cells #[.bool jb32, .bool false, .bool false, .int .u64 (IntKind.u64.wrap (Go.bits .and .u32 a1 (((ji7) - 1) % 4294967296))), .int .i64 (wrap64 ((wrap64 (1 - a0_1)) - a0_0))] 66 (0, 0))) := ⟨(by rw [hw]; exact (by (with_reducible repeat (first | refine blk_drewN ?_ _ | refine blk_drew ?_ | refine blk_alloc ?_ _)); refine blk_put (cs := #[.bool jb32, .bool false, .bool false, .int .u64 (IntKind.u64.wrap (Go.bits .and .u32 a1 (((ji7) - 1) % 4294967296))), .int .i64 0]) ?_ 4 _ rfl; (with_reducible repeat (first | refine blk_drewN ?_ _ | refine blk_drew ?_ | refine blk_alloc ?_ _)); refine blk_put (cs := #[.bool jb32, .bool false, .bool false, .int .u64 0, .int .i64 0]) ?_ 3 _ rfl; (with_reducible repeat (first | refine blk_drewN ?_ _ | refine blk_drew ?_ | refine blk_alloc ?_ _)); refine blk_put (cs := #[.bool jb32, .bool false, .bool false, .int .u64 0, .int .i64 0]) ?_ 2 _ rfl; (with_reducible repeat (first | refine blk_drewN ?_ _ | refine blk_drew ?_ | refine blk_alloc ?_ _)); refine blk_put (cs := #[.bool jb32, .bool false, .bool false, .int .u64 0, .int .i64 0]) ?_ 1 _ rfl; (with_reducible repeat (first | refine blk_drewN ?_ _ | refine blk_drew ?_ | refine blk_alloc ?_ _)); refine blk_put (cs := #[.bool false, .bool false, .bool false, .int .u64 0, .int .i64 0]) ?_ 0 _ rfl; (with_reducible repeat (first | refine blk_drewN ?_ _ | refine blk_drew ?_ | refine blk_alloc ?_ _)); refine blk_far ?_ NB157_160.out _; (with_reducible repeat (first | refine blk_drewN ?_ _ | refine blk_drew ?_ | refine blk_alloc ?_ _)); refine blk_far ?_ NB157_160.out _; (with_reducible repeat (first | refine blk_drewN ?_ _ | refine blk_drew ?_ | refine blk_alloc ?_ _)); exact BK157.out))⟩; have n2_ : Aside0 (w52.heap[gb160]? = some (.cells #[.bool jb32, .bool false, .bool false, .int .u64 (IntKind.u64.wrap (Go.bits .and .u32 a1 (((ji7) - 1) % 4294967296))), .int .i64 (wrap64 ((wrap64 (1 - a0_1)) - a0_0))] 66 (0, 0))) := ⟨(by rw [hw]; exact (by (with_reducible repeat (first | refine blk_drewN ?_ _ | refine blk_drew ?_ | refine blk_alloc ?_ _)); refine blk_far ?_ NB160_157.out _; (with_reducible repeat (first | refine blk_drewN ?_ _ | refine blk_drew ?_ | refine blk_alloc ?_ _)); refine blk_far ?_ NB160_157.out _; (with_reducible repeat (first | refine blk_drewN ?_ _ | refine blk_drew ?_ | refine blk_alloc ?_ _)); refine blk_far ?_ NB160_157.out _; (with_reducible repeat (first | refine blk_drewN ?_ _ | refine blk_drew ?_ | refine blk_alloc ?_ _)); refine blk_far ?_ NB160_157.out _; (with_reducible repeat (first | refine blk_drewN ?_ _ | refine blk_drew ?_ | refine blk_alloc ?_ _)); refine blk_far ?_ NB160_157.out _; (with_reducible repeat (first | refine blk_drewN ?_ _ | refine blk_drew ?_ | refine blk_alloc ?_ _)); refine blk_put (cs := #[.bool jb32, .bool false, .bool false, .int .u64 (IntKind.u64.wrap (Go.bits .and .u32 a1 (((ji7) - 1) % 4294967296))), .int .i64 0]) ?_ 4 _ rfl; (with_reducible repeat (first | refine blk_drewN ?_ _ | refine blk_drew ?_ | refine blk_alloc ?_ _)); refine blk_put (cs := #[.bool jb32, .bool false, .bool false, .int .u64 0, .int .i64 0]) ?_ 3 _ rfl; (with_reducible repeat (first | refine blk_drewN ?_ _ | refine blk_drew ?_ | refine blk_alloc ?_ _)); exact BK160.out))⟩; have n3_ : Aside0 (Below w.heap.size w w52) := ⟨(by rw [hw]; exact (bw HB.out))⟩; clear hw; clear BK156; clear BK157; clear BK160; clear HB; have BK156 := n0_; have BK157 := n1_; have BK160 := n2_; have HB := n3_; clear n0_ n1_ n2_ n3_))
    refine bodyPost_ret (results_cell_row rfl _ _ gb157 66 #[.bool jb32, .bool false, .bool false, .int .u64 (IntKind.u64.wrap (Go.bits .and .u32 a1 (((ji7) - 1) % 4294967296))), .int .i64 (wrap64 ((wrap64 (1 - a0_1)) - a0_0))] (0, 0) _ rfl (bk BK157.out) Try.underlying66 rfl (by kernel_rfl)) rfl ?_
    exact ⟨by first | rfl | (simp [errW_none, errW_some] <;> rfl) | (simp only [← hji4, ← hji7]; first | rfl | (simp [errW_none, errW_some] <;> rfl)) | (simp [*, errW_none, errW_some] <;> rfl), bw HB.out⟩
   ·
    rw [if_neg c31] at H
    have c31b0 : ((Go.bits .and .u32 (ji4) t158) == 0) = false := beq_eq_false_iff_ne.mpr c31
    have c31b1 : ((Go.bits .and .u32 (ji4) t158) != 0) = true := bne_iff_ne.mpr c31
    have c53b0 := eq_true (of_decide_eq_true (by first | (with_reducible assumption) | assumption) : 0 ≤ a0_0)
    obtain ⟨ji54, hji54⟩ : ∃ j_ : Int, (shl .u64 1 a0_0) = j_ := ⟨_, rfl⟩
    replace H : (some (((Go.bits .and .u32 a1 t159) != 0), false, false, IntKind.u64.wrap ((IntKind.u64.wrap (Go.bits .and .u32 a1 (((ji7) - 1) % 4294967296))) + (ji54)), wrap64 ((wrap64 ((wrap64 (Go.bits .and .u32 (ji4) t158)) - a0_1)) - a0_0))) = some (r1, r2, r3, r4, r5) := by first | (rw [hji54] at H; exact H) | (simp only [hji54] at H ⊢; exact H)
    (try rw [hji54] at A5)
    (try rw [hji54] at A8)
    (try rw [hji54] at A9)
    have hji54_ : (IntKind.u64.wrap (1 * 2 ^ min a0_0.toNat 64)) = ji54 := hji54
    have hji54z : a0_0 ≤ 64 → (IntKind.u64.wrap (1 * 2 ^ a0_0.toNat)) = ji54 := shl_small hji54
    have hji54u : (IntKind.u64.wrap (2 ^ min a0_0.toNat 64)) = ji54 := by have h_ := hji54_; rw [Int.one_mul] at h_; exact h_
    have hji54v : a0_0 ≤ 64 → (IntKind.u64.wrap (2 ^ a0_0.toNat)) = ji54 := fun hle_ => by have h_ := hji54z hle_; rw [Int.one_mul] at h_; exact h_
    obtain ⟨jb55, hjb55⟩ : ∃ b_ : Bool, ((Go.bits .and .u32 a1 t159) != 0) = b_ := ⟨_, rfl⟩
    replace H : (some (jb55, false, false, IntKind.u64.wrap ((IntKind.u64.wrap (Go.bits .and .u32 a1 (((ji7) - 1) % 4294967296))) + (ji54)), wrap64 ((wrap64 ((wrap64 (Go.bits .and .u32 (ji4) t158)) - a0_1)) - a0_0))) = some (r1, r2, r3, r4, r5) := by first | (rw [hjb55] at H; exact H) | exact H
    simp only [Option.some.injEq, Prod.mk.injEq] at H
    obtain ⟨rfl, rfl, rfl, rfl, rfl⟩ := H
    go_enter Try.func52, Try.ntmps52
    try go_wp2_with (first | ((with_reducible refine gate_dst (N := 2) rfl ?_); refine box_event ?hg (N := 2) ?hd (cs := #[.int .i64 a0_0, .int .i64 a0_1]) (t := 62) ?hr ?_; (case hd => rfl); (case hg => rfl); (case hr => first | (go_simp; done) | (go_simp; rfl)); intro gb156 hg w56 hbox hb; have n0_ := Aside0.mk (below_step (bw HB.out) hb); have n1_ := Aside0.mk (hbox); have n2_ := Aside0.mk ((by rw [hg]; exact (below_size (bw HB.out)) : w.heap.size ≤ gb156)); have n3_ := Aside0.mk ((by rw [hg]; exact (below_size (bw HB.out)) : w.heap.size ≤ gb156)); clear HB; have HB := n0_; have BK156 := n1_; have GW156 := n2_; have GE156 := n3_; clear n0_ n1_ n2_ n3_; clear hb hbox hg) | ((with_reducible refine gate_dst (N := 4) rfl ?_); refine box_event ?hg (N := 4) ?hd (cs := #[.bool false, .bool false, .bool false, .int .u64 0, .int .i64 0]) (t := 66) ?hr ?_; (case hd => rfl); (case hg => rfl); (case hr => first | (go_simp; done) | (go_simp; rfl)); intro gb157 hg w57 hbox hb; have n0_ := Aside0.mk (blk_below (g := gb156) (o := .cells #[.int .i64 a0_0, .int .i64 a0_1] 62 (0, 0)) (bk BK156.out) hb); have n1_ := Aside0.mk (below_step (bw HB.out) hb); have n2_ := Aside0.mk (hbox); have n3_ := Aside0.mk ((by rw [hg]; exact (below_size (bw HB.out)) : w.heap.size ≤ gb157)); have n4_ := Aside0.mk ((by rw [hg]; exact (below_size (bw HB.out)) : w.heap.size ≤ gb157)); have n5_ := Aside0.mk ((by rw [hg]; exact Nat.ne_of_lt (blk_lt (g := gb156) (o := .cells #[.int .i64 a0_0, .int .i64 a0_1] 62 (0, 0)) (bk BK156.out)) : gb156 ≠ gb157)); have n6_ := Aside0.mk ((by rw [hg]; exact Nat.ne_of_gt (blk_lt (g := gb156) (o := .cells #[.int .i64 a0_0, .int .i64 a0_1] 62 (0, 0)) (bk BK156.out)) : gb157 ≠ gb156)); clear BK156; clear HB; have BK156 := n0_; have HB := n1_; have BK157 := n2_; have GW157 := n3_; have GE157 := n4_; have NB156_157 := n5_; have NB157_156 := n6_; clear n0_ n1_ n2_ n3_ n4_ n5_ n6_; clear hb hbox hg))
    have n0_ := Aside0.mk (blk_drew BK156.out)
    have n1_ := Aside0.mk (blk_drew BK157.out)
    have n2_ := Aside0.mk (below_drew1 HB.out)
    clear BK156
    clear BK157
    clear HB
    have BK156 := n0_
    have BK157 := n1_
    have HB := n2_
    clear n0_ n1_ n2_
    refine start_ (n := 8) (S := fun w' => w'.cell? ⟨gb156, 0, none⟩ = some (.int .i64 a0_0) ∧ w'.cell? ⟨gb156, 1, none⟩ = some (.int .i64 a0_1)) (ds := []) #[false, false, false, false, false, false, false, false] (by kernel_rfl) rfl rfl ⟨(blk_cell BK156.out 0).trans rfl, (blk_cell BK156.out 1).trans rfl⟩ (fun hHeld => ?_); refine with_tabW impl_format_open.tab1 impl_format_open.bits1 (fun HT_ HW_ => ?_)
    generalize w57.drew = w58 at BK156 BK157 HB hHeld ⊢
    refine pure_ (i := 0) (N := some 8) (v := ?_) (a' := ?_) #[true, false, false, false, false, false, false, false] rfl rfl (any_of HT_.out (by kernel_rfl)) (fun _ _ _ h => h) (Or.inl ⟨by rfl, ?_⟩) ?_ ?_
    rotate_left
    ·
     intro w'
     go_simp
     with_reducible rfl
    rotate_left
    ·
     simp only [Act.put, List.setIfInBounds_toArray, List.set_cons_zero, List.set_cons_succ, i64_w, i32_w]
     rfl
    refine pure_ (i := 1) (N := some 9) (v := ?_) (a' := ?_) #[true, true, false, false, false, false, false, false] rfl rfl (any_of HT_.out (by kernel_rfl)) (fun _ _ _ h => h) (Or.inl ⟨by rfl, ?_⟩) ?_ ?_
    rotate_left
    ·
     intro w'
     go_simp
     with_reducible rfl
    rotate_left
    ·
     simp only [Act.put, List.setIfInBounds_toArray, List.set_cons_zero, List.set_cons_succ, i64_w, i32_w]
     rfl
    refine take_ (i := 2) (N := some 10) (v := ?_) (a' := ?_) #[true, true, true, false, false, false, false, false] rfl rfl (take_ofW HT_.out HW_.out (by kernel_rfl)) (fun _ _ _ h => h) (Or.inl ⟨by rfl, ?_⟩) hHeld ?_ ?_
    rotate_left
    ·
     rintro w' ⟨s0, s1⟩
     go_simp
     with_reducible rfl
    rotate_left
    ·
     simp only [Act.put, List.setIfInBounds_toArray, List.set_cons_zero, List.set_cons_succ, i64_w, i32_w]
     rfl
    refine pure_ (i := 3) (N := some 11) (v := ?_) (a' := ?_) #[true, true, true, true, false, false, false, false] rfl rfl (any_of HT_.out (by kernel_rfl)) (fun _ _ _ h => h) (Or.inl ⟨by rfl, ?_⟩) ?_ ?_
    rotate_left
    ·
     intro w'
     go_simp
     with_reducible rfl
    rotate_left
    ·
     simp only [Act.put, List.setIfInBounds_toArray, List.set_cons_zero, List.set_cons_succ, i64_w, i32_w]
     rfl
    refine take_ (i := 4) (N := some 12) (v := ?_) (a' := ?_) #[true, true, true, true, true, false, false, false] rfl rfl (take_ofW HT_.out HW_.out (by kernel_rfl)) (fun _ _ _ h => h) (Or.inl ⟨by rfl, ?_⟩) hHeld ?_ ?_
    rotate_left
    ·
     rintro w' ⟨s0, s1⟩
     go_simp
     with_reducible rfl
    rotate_left
    ·
     simp only [Act.put, List.setIfInBounds_toArray, List.set_cons_zero, List.set_cons_succ, i64_w, i32_w]
     rfl
    refine one_ (i := 5) (N := some 13) #[true, true, true, true, true, true, false, false] rfl rfl (one_of HT_.out (by kernel_rfl)) (by decide) (fun K hK => ?_)
    refine goes_ Try.func85 (by kernel_rfl) rfl #[.agg #[.int .i64 a0_0, .int .i64 a0_1]] (by rfl) rfl rfl ar ?_
    with_reducible refine (impl_format_top.calls a0_0 a0_1 t158 _ A5.out).mono ?_
    rintro e w59 ⟨rfl, hb⟩
    refine ⟨_, rfl, ?_⟩
    have n0_ := Aside0.mk (blk_below (g := gb156) (o := .cells #[.int .i64 a0_0, .int .i64 a0_1] 62 (0, 0)) (bk BK156.out) hb)
    have n1_ := Aside0.mk (blk_below (g := gb157) (o := .cells #[.bool false, .bool false, .bool false, .int .u64 0, .int .i64 0] 66 (0, 0)) (bk BK157.out) hb)
    have n2_ := Aside0.mk (below_step (bw HB.out) hb)
    clear BK156
    clear BK157
    clear HB
    have BK156 := n0_
    have BK157 := n1_
    have HB := n2_
    clear n0_ n1_ n2_
    (try clear hb)
    (try clear hb2)
    (try clear hk)
    (try clear hi)
    refine hK.out _ _ ⟨(blk_cell BK156.out 0).trans rfl, (blk_cell BK156.out 1).trans rfl⟩ (fun hHeld => ?_)
    clear hK K
    refine norm_ (a' := ?_) ?_ ?_
    rotate_left
    ·
     show Act.put _ (some 13) _ = _
     simp only [Act.put, List.setIfInBounds_toArray, List.set_cons_zero, List.set_cons_succ, i64_w, i32_w]
     rfl
    refine pure_ (i := 6) (N := some 14) (v := ?_) (a' := ?_) #[true, true, true, true, true, true, true, false] rfl rfl (any_of HT_.out (by kernel_rfl)) (fun _ _ _ h => h) (Or.inl ⟨by rfl, ?_⟩) ?_ ?_
    rotate_left
    ·
     intro w'
     go_simp
     with_reducible rfl
    rotate_left
    ·
     simp only [Act.put, List.setIfInBounds_toArray, List.set_cons_zero, List.set_cons_succ, i64_w, i32_w]
     rfl
    refine pure_ (i := 7) (N := some 5) (v := ?_) (a' := ?_) #[true, true, true, true, true, true, true, true] rfl rfl (any_of HT_.out (by kernel_rfl)) (fun _ _ _ h => h) (Or.inl ⟨by rfl, ?_⟩) ?_ ?_
    rotate_left
    ·
     intro w'
     go_simp
     with_reducible rfl
    rotate_left
    ·
     simp only [Act.put, List.setIfInBounds_toArray, List.set_cons_zero, List.set_cons_succ, i64_w, i32_w]
     rfl
    refine done_ (done_of HT_.out (by kernel_rfl)) ?_
    have hnb60 := NB156_157.out
    have hnc60 := NB157_156.out
    have hcz61_0 : w59.cell? ⟨gb156, 0, none⟩ = some (.int .i64 a0_0) := (blk_cell BK156.out 0).trans rfl
    have hcz61_1 : w59.cell? ⟨gb156, 1, none⟩ = some (.int .i64 a0_1) := (blk_cell BK156.out 1).trans rfl
    have hfz61_0 := blk_frozen BK156.out 0
    have hfz61_1 := blk_frozen BK156.out 1
    try go_wp2_with (first | ((with_reducible refine gate_callee (f := 72) rfl ?_); refine goesL_ (some 24) rfl rfl Try.func72 (by kernel_rfl) rfl #[.agg #[.int .i64 a0_0, .int .i64 a0_1]] rfl ar ?_; (with_reducible refine (impl_format_sign.calls a0_0 a0_1 t159 _ A8.out).mono ?_); rintro e w62 ⟨rfl, hb⟩; refine ⟨_, rfl, ?_⟩; have n0_ := Aside0.mk (blk_below (g := gb156) (o := .cells #[.int .i64 a0_0, .int .i64 a0_1] 62 (0, 0)) (bk BK156.out) hb); have n1_ := Aside0.mk (blk_below (g := gb157) (o := .cells #[.bool false, .bool false, .bool false, .int .u64 0, .int .i64 0] 66 (0, 0)) (bk BK157.out) hb); have n2_ := Aside0.mk (below_step (bw HB.out) hb); clear BK156; clear BK157; clear HB; have BK156 := n0_; have BK157 := n1_; have HB := n2_; clear n0_ n1_ n2_; (try clear hb)) | ((with_reducible refine gate_dst (N := 7) rfl ?_); refine box_event ?hg (N := 7) ?hd (cs := #[.bool false, .bool false, .bool false, .int .u64 0, .int .i64 0]) (t := 66) ?hr ?_; (case hd => rfl); (case hg => rfl); (case hr => first | (go_simp; done) | (go_simp; rfl)); intro gb160 hg w63 hbox hb; have n0_ := Aside0.mk (blk_below (g := gb156) (o := .cells #[.int .i64 a0_0, .int .i64 a0_1] 62 (0, 0)) (bk BK156.out) hb); have n1_ := Aside0.mk (blk_below (g := gb157) (o := .cells #[.bool false, .bool false, .bool false, .int .u64 0, .int .i64 0] 66 (0, 0)) (bk BK157.out) hb); have n2_ := Aside0.mk (below_step (bw HB.out) hb); have n3_ := Aside0.mk (hbox); have n4_ := Aside0.mk ((by rw [hg]; exact (below_size (bw HB.out)) : w.heap.size ≤ gb160)); have n5_ := Aside0.mk ((by rw [hg]; exact (below_size (bw HB.out)) : w.heap.size ≤ gb160)); have n6_ := Aside0.mk ((by rw [hg]; exact Nat.ne_of_lt (blk_lt (g := gb156) (o := .cells #[.int .i64 a0_0, .int .i64 a0_1] 62 (0, 0)) (bk BK156.out)) : gb156 ≠ gb160)); have n7_ := Aside0.mk ((by rw [hg]; exact Nat.ne_of_gt (blk_lt (g := gb156) (o := .cells #[.int .i64 a0_0, .int .i64 a0_1] 62 (0, 0)) (bk BK156.out)) : gb160 ≠ gb156)); have n8_ := Aside0.mk ((by rw [hg]; exact Nat.ne_of_lt (blk_lt (g := gb157) (o := .cells #[.bool false, .bool false, .bool false, .int .u64 0, .int .i64 0] 66 (0, 0)) (bk BK157.out)) : gb157 ≠ gb160)); have n9_ := Aside0.mk ((by rw [hg]; exact Nat.ne_of_gt (blk_lt (g := gb157) (o := .cells #[.bool false, .bool false, .bool false, .int .u64 0, .int .i64 0] 66 (0, 0)) (bk BK157.out)) : gb160 ≠ gb157)); clear BK156; clear BK157; clear HB; have BK156 := n0_; have BK157 := n1_; have HB := n2_; have BK160 := n3_; have GW160 := n4_; have GE160 := n5_; have NB156_160 := n6_; have NB160_156 := n7_; have NB157_160 := n8_; have NB160_157 := n9_; clear n0_ n1_ n2_ n3_ n4_ n5_ n6_ n7_ n8_ n9_; clear hb hbox hg; have hnb64 := NB160_156.out; have hnc64 := NB156_160.out; have hnb65 := NB160_157.out; have hnc65 := NB157_160.out; have hcz66_0 : w63.cell? ⟨gb160, 0, none⟩ = some (.bool false) := (blk_cell BK160.out 0).trans rfl; have hcz66_1 : w63.cell? ⟨gb160, 1, none⟩ = some (.bool false) := (blk_cell BK160.out 1).trans rfl; have hcz66_2 : w63.cell? ⟨gb160, 2, none⟩ = some (.bool false) := (blk_cell BK160.out 2).trans rfl; have hcz66_3 : w63.cell? ⟨gb160, 3, none⟩ = some (.int .u64 0) := (blk_cell BK160.out 3).trans rfl; have hcz66_4 : w63.cell? ⟨gb160, 4, none⟩ = some (.int .i64 0) := (blk_cell BK160.out 4).trans rfl; have hfz66_0 := blk_frozen BK160.out 0; have hfz66_1 := blk_frozen BK160.out 1; have hfz66_2 := blk_frozen BK160.out 2; have hfz66_3 := blk_frozen BK160.out 3; have hfz66_4 := blk_frozen BK160.out 4) | ((with_reducible refine gate_store (t := 66) (p := 7) rfl ?_); refine store_event (t := 66) (p := 7) (v := ?vo_w67) (w1 := (((((w63.setCell ⟨gb160, 0, none⟩ (.bool jb55)).setCell ⟨gb160, 1, none⟩ (.bool false)).setCell ⟨gb160, 2, none⟩ (.bool false)).setCell ⟨gb160, 3, none⟩ (.int .u64 0)).setCell ⟨gb160, 4, none⟩ (.int .i64 0))) ?hg ?ho ?hn ?hr ?_; (case ho => rfl); (case hg => rfl); (case hn => rfl); (case hr => first | (go_simp; done) | (go_simp; rfl)); intro w67 hw; have n0_ : Aside0 (w67.heap[gb156]? = some (.cells #[.int .i64 a0_0, .int .i64 a0_1] 62 (0, 0))) := ⟨(by rw [hw]; exact (by (with_reducible repeat (first | refine blk_drewN ?_ _ | refine blk_drew ?_ | refine blk_alloc ?_ _)); refine blk_far ?_ NB156_160.out _; (with_reducible repeat (first | refine blk_drewN ?_ _ | refine blk_drew ?_ | refine blk_alloc ?_ _)); refine blk_far ?_ NB156_160.out _; (with_reducible repeat (first | refine blk_drewN ?_ _ | refine blk_drew ?_ | refine blk_alloc ?_ _)); refine blk_far ?_ NB156_160.out _; (with_reducible repeat (first | refine blk_drewN ?_ _ | refine blk_drew ?_ | refine blk_alloc ?_ _)); refine blk_far ?_ NB156_160.out _; (with_reducible repeat (first | refine blk_drewN ?_ _ | refine blk_drew ?_ | refine blk_alloc ?_ _)); refine blk_far ?_ NB156_160.out _; (with_reducible repeat (first | refine blk_drewN ?_ _ | refine blk_drew ?_ | refine blk_alloc ?_ _)); exact BK156.out))⟩; have n1_ : Aside0 (w67.heap[gb157]? = some (.cells #[.bool false, .bool false, .bool false, .int .u64 0, .int .i64 0] 66 (0, 0))) := ⟨(by rw [hw]; exact (by (with_reducible repeat (first | refine blk_drewN ?_ _ | refine blk_drew ?_ | refine blk_alloc ?_ _)); refine blk_far ?_ NB157_160.out _; (with_reducible repeat (first | refine blk_drewN ?_ _ | refine blk_drew ?_ | refine blk_alloc ?_ _)); refine blk_far ?_ NB157_160.out _; (with_reducible repeat (first | refine blk_drewN ?_ _ | refine blk_drew ?_ | refine blk_alloc ?_ _)); refine blk_far ?_ NB157_160.out _; (with_reducible repeat (first | refine blk_drewN ?_ _ | refine blk_drew ?_ | refine blk_alloc ?_ _)); refine blk_far ?_ NB157_160.out _; (with_reducible repeat (first | refine blk_drewN ?_ _ | refine blk_drew ?_ | refine blk_alloc ?_ _)); refine blk_far ?_ NB157_160.out _; (with_reducible repeat (first | refine blk_drewN ?_ _ | refine blk_drew ?_ | refine blk_alloc ?_ _)); exact BK157.out))⟩; have n2_ : Aside0 (w67.heap[gb160]? = some (.cells #[.bool jb55, .bool false, .bool false, .int .u64 0, .int .i64 0] 66 (0, 0))) := ⟨(by rw [hw]; exact (by (with_reducible repeat (first | refine blk_drewN ?_ _ | refine blk_drew ?_ | refine blk_alloc ?_ _)); refine blk_put (cs := #[.bool jb55, .bool false, .bool false, .int .u64 0, .int .i64 0]) ?_ 4 _ rfl; (with_reducible repeat (first | refine blk_drewN ?_ _ | refine blk_drew ?_ | refine blk_alloc ?_ _)); refine blk_put (cs := #[.bool jb55, .bool false, .bool false, .int .u64 0, .int .i64 0]) ?_ 3 _ rfl; (with_reducible repeat (first | refine blk_drewN ?_ _ | refine blk_drew ?_ | refine blk_alloc ?_ _)); refine blk_put (cs := #[.bool jb55, .bool false, .bool false, .int .u64 0, .int .i64 0]) ?_ 2 _ rfl; (with_reducible repeat (first | refine blk_drewN ?_ _ | refine blk_drew ?_ | refine blk_alloc ?_ _)); refine blk_put (cs := #[.bool jb55, .bool false, .bool false, .int .u64 0, .int .i64 0]) ?_ 1 _ rfl; (with_reducible repeat (first | refine blk_drewN ?_ _ | refine blk_drew ?_ | refine blk_alloc ?_ _)); refine blk_put (cs := #[.bool false, .bool false, .bool false, .int .u64 0, .int .i64 0]) ?_ 0 _ rfl; (with_reducible repeat (first | refine blk_drewN ?_ _ | refine blk_drew ?_ | refine blk_alloc ?_ _)); exact BK160.out))⟩; have n3_ : Aside0 (Below w.heap.size w w67) := ⟨(by rw [hw]; exact (bw HB.out))⟩; clear hw; clear BK156; clear BK157; clear BK160; clear HB; have BK156 := n0_; have BK157 := n1_; have BK160 := n2_; have HB := n3_; clear n0_ n1_ n2_ n3_; have hcz68_0 : w67.cell? ⟨gb156, 0, none⟩ = some (.int .i64 a0_0) := (blk_cell BK156.out 0).trans rfl; have hcz68_1 : w67.cell? ⟨gb156, 1, none⟩ = some (.int .i64 a0_1) := (blk_cell BK156.out 1).trans rfl; have hfz68_0 := blk_frozen BK156.out 0; have hfz68_1 := blk_frozen BK156.out 1) | ((with_reducible refine gate_callee (f := 85) rfl ?_); refine goesL_ (some 46) rfl rfl Try.func85 (by kernel_rfl) rfl #[.agg #[.int .i64 a0_0, .int .i64 a0_1]] rfl ar ?_; (with_reducible refine (impl_format_top.calls a0_0 a0_1 t161 _ A9.out).mono ?_); rintro e w69 ⟨rfl, hb⟩; refine ⟨_, rfl, ?_⟩; have n0_ := Aside0.mk (blk_below (g := gb156) (o := .cells #[.int .i64 a0_0, .int .i64 a0_1] 62 (0, 0)) (bk BK156.out) hb); have n1_ := Aside0.mk (blk_below (g := gb157) (o := .cells #[.bool false, .bool false, .bool false, .int .u64 0, .int .i64 0] 66 (0, 0)) (bk BK157.out) hb); have n2_ := Aside0.mk (blk_below (g := gb160) (o := .cells #[.bool jb55, .bool false, .bool false, .int .u64 0, .int .i64 0] 66 (0, 0)) (bk BK160.out) hb); have n3_ := Aside0.mk (below_step (bw HB.out) hb); clear BK156; clear BK157; clear BK160; clear HB; have BK156 := n0_; have BK157 := n1_; have BK160 := n2_; have HB := n3_; clear n0_ n1_ n2_ n3_; (try clear hb)))
    have n0_ := Aside0.mk (blk_drew BK156.out)
    have n1_ := Aside0.mk (blk_drew BK157.out)
    have n2_ := Aside0.mk (blk_drew BK160.out)
    have n3_ := Aside0.mk (below_drew1 HB.out)
    clear BK156
    clear BK157
    clear BK160
    clear HB
    have BK156 := n0_
    have BK157 := n1_
    have BK160 := n2_
    have HB := n3_
    clear n0_ n1_ n2_ n3_
    refine start_ (n := 17) (S := fun w' => w'.cell? ⟨gb156, 0, none⟩ = some (.int .i64 a0_0) ∧ w'.cell? ⟨gb156, 1, none⟩ = some (.int .i64 a0_1)) (ds := []) #[false, false, false, false, false, false, false, false, false, false, false, false, false, false, false, false, false] (by kernel_rfl) rfl rfl ⟨(blk_cell BK156.out 0).trans rfl, (blk_cell BK156.out 1).trans rfl⟩ (fun hHeld => ?_); refine with_tabW impl_format_open.tab4 impl_format_open.bits4 (fun HT_ HW_ => ?_)
    generalize w69.drew = w70 at BK156 BK157 BK160 HB hHeld ⊢
    refine pure_ (i := 0) (N := some 28) (v := ?_) (a' := ?_) #[true, false, false, false, false, false, false, false, false, false, false, false, false, false, false, false, false] rfl rfl (any_of HT_.out (by kernel_rfl)) (fun _ _ _ h => h) (Or.inl ⟨by rfl, ?_⟩) ?_ ?_
    rotate_left
    ·
     intro w'
     go_simp
     with_reducible rfl
    rotate_left
    ·
     simp only [Act.put, List.setIfInBounds_toArray, List.set_cons_zero, List.set_cons_succ, i64_w, i32_w]
     rfl
    refine pure_ (i := 1) (N := some 29) (v := ?_) (a' := ?_) #[true, true, false, false, false, false, false, false, false, false, false, false, false, false, false, false, false] rfl rfl (any_of HT_.out (by kernel_rfl)) (fun _ _ _ h => h) (Or.inl ⟨by rfl, ?_⟩) ?_ ?_
    rotate_left
    ·
     intro w'
     go_simp
     with_reducible rfl
    rotate_left
    ·
     simp only [Act.put, List.setIfInBounds_toArray, List.set_cons_zero, List.set_cons_succ, i64_w, i32_w]
     rfl
    refine pure_ (i := 5) (N := some 33) (v := ?_) (a' := ?_) #[true, true, false, false, false, true, false, false, false, false, false, false, false, false, false, false, false] rfl rfl (any_of HT_.out (by kernel_rfl)) (fun _ _ _ h => h) (Or.inl ⟨by rfl, ?_⟩) ?_ ?_
    rotate_left
    ·
     intro w'
     go_simp
     with_reducible rfl
    rotate_left
    ·
     simp only [Act.put, List.setIfInBounds_toArray, List.set_cons_zero, List.set_cons_succ, i64_w, i32_w]
     rfl
    refine pure_ (i := 6) (N := some 34) (v := ?_) (a' := ?_) #[true, true, false, false, false, true, true, false, false, false, false, false, false, false, false, false, false] rfl rfl (any_of HT_.out (by kernel_rfl)) (fun _ _ _ h => h) (Or.inl ⟨by rfl, ?_⟩) ?_ ?_
    rotate_left
    ·
     intro w'
     go_simp
     with_reducible rfl
    rotate_left
    ·
     simp only [Act.put, List.setIfInBounds_toArray, List.set_cons_zero, List.set_cons_succ, i64_w, i32_w]
     rfl
    refine pure_ (i := 7) (N := some 35) (v := ?_) (a' := ?_) #[true, true, false, false, false, true, true, true, false, false, false, false, false, false, false, false, false] rfl rfl (any_of HT_.out (by kernel_rfl)) (fun _ _ _ h => h) (Or.inl ⟨by rfl, ?_⟩) ?_ ?_
    rotate_left
    ·
     intro w'
     go_simp
     with_reducible rfl
    rotate_left
    ·
     simp only [Act.put, List.setIfInBounds_toArray, List.set_cons_zero, List.set_cons_succ, i64_w, i32_w]
     rfl
    refine pure_ (i := 10) (N := some 38) (v := ?_) (a' := ?_) #[true, true, false, false, false, true, true, true, false, false, true, false, false, false, false, false, false] rfl rfl (any_of HT_.out (by kernel_rfl)) (fun _ _ _ h => h) (Or.inl ⟨by rfl, ?_⟩) ?_ ?_
    rotate_left
    ·
     intro w'
     go_simp
     with_reducible rfl
    rotate_left
    ·
     simp only [Act.put, List.setIfInBounds_toArray, List.set_cons_zero, List.set_cons_succ, i64_w, i32_w]
     rfl
    refine take_ (i := 2) (N := some 30) (v := ?_) (a' := ?_) #[true, true, true, false, false, true, true, true, false, false, true, false, false, false, false, false, false] rfl rfl (take_ofW HT_.out HW_.out (by kernel_rfl)) (fun _ _ _ h => h) (Or.inl ⟨by rfl, ?_⟩) hHeld ?_ ?_
    rotate_left
    ·
     rintro w' ⟨s0, s1⟩
     go_simp
     with_reducible rfl
    rotate_left
    ·
     simp only [Act.put, List.setIfInBounds_toArray, List.set_cons_zero, List.set_cons_succ, i64_w, i32_w]
     rfl
    refine pure_ (i := 3) (N := some 31) (v := ?_) (a' := ?_) #[true, true, true, true, false, true, true, true, false, false, true, false, false, false, false, false, false] rfl rfl (any_of HT_.out (by kernel_rfl)) (fun _ _ _ h => h) (Or.inl ⟨by rfl, ?_⟩) ?_ ?_
    rotate_left
    ·
     intro w'
     go_simp
     with_reducible rfl
    rotate_left
    ·
     simp only [Act.put, List.setIfInBounds_toArray, List.set_cons_zero, List.set_cons_succ, i64_w, i32_w]
     rfl
    refine pure_ (i := 4) (N := some 32) (v := ?_) (a' := ?_) #[true, true, true, true, true, true, true, true, false, false, true, false, false, false, false, false, false] rfl rfl (any_of HT_.out (by kernel_rfl)) (fun _ _ _ h => h) (Or.inl ⟨by rfl, ?_⟩) ?_ ?_
    rotate_left
    ·
     intro w'
     go_simp
     with_reducible rfl
    rotate_left
    ·
     simp only [Act.put, List.setIfInBounds_toArray, List.set_cons_zero, List.set_cons_succ, i64_w, i32_w]
     rfl
    refine pure_ (i := 13) (N := some 41) (v := ?_) (a' := ?_) #[true, true, true, true, true, true, true, true, false, false, true, false, false, true, false, false, false] rfl rfl (any_of HT_.out (by kernel_rfl)) (fun _ _ _ h => h) (Or.inl ⟨by rfl, ?_⟩) ?_ ?_
    rotate_left
    ·
     intro w'
     go_simp
     with_reducible rfl
    rotate_left
    ·
     simp only [Act.put, List.setIfInBounds_toArray, List.set_cons_zero, List.set_cons_succ, i64_w, i32_w]
     rfl
    refine take_ (i := 8) (N := some 36) (v := ?_) (a' := ?_) #[true, true, true, true, true, true, true, true, true, false, true, false, false, true, false, false, false] rfl rfl (take_ofW HT_.out HW_.out (by kernel_rfl)) (fun _ _ _ h => h) (Or.inl ⟨by rfl, ?_⟩) hHeld ?_ ?_
    rotate_left
    ·
     rintro w' ⟨s0, s1⟩
     go_simp
     with_reducible rfl
    rotate_left
    ·
     simp only [Act.put, List.setIfInBounds_toArray, List.set_cons_zero, List.set_cons_succ, i64_w, i32_w]
     rfl
    refine pure_ (i := 9) (N := some 37) (v := ?_) (a' := ?_) #[true, true, true, true, true, true, true, true, true, true, true, false, false, true, false, false, false] rfl rfl (any_of HT_.out (by kernel_rfl)) (fun _ _ _ h => h) (Or.inl ⟨by rfl, ?_⟩) ?_ ?_
    rotate_left
    ·
     intro w'
     go_simp
     with_reducible rfl
    rotate_left
    ·
     simp only [Act.put, List.setIfInBounds_toArray, List.set_cons_zero, List.set_cons_succ, i64_w, i32_w]
     rfl
    refine take_ (i := 11) (N := some 39) (v := ?_) (a' := ?_) #[true, true, true, true, true, true, true, true, true, true, true, true, false, true, false, false, false] rfl rfl (take_ofW HT_.out HW_.out (by kernel_rfl)) (fun _ _ _ h => h) (Or.inl ⟨by rfl, ?_⟩) hHeld ?_ ?_
    rotate_left
    ·
     rintro w' ⟨s0, s1⟩
     go_simp
     with_reducible rfl
    rotate_left
    ·
     simp only [Act.put, List.setIfInBounds_toArray, List.set_cons_zero, List.set_cons_succ, i64_w, i32_w]
     rfl
    refine pure_ (i := 12) (N := some 40) (v := ?_) (a' := ?_) #[true, true, true, true, true, true, true, true, true, true, true, true, true, true, false, false, false] rfl rfl (any_of HT_.out (by kernel_rfl)) (fun _ _ _ h => h) (Or.inl ⟨by rfl, ?_⟩) ?_ ?_
    rotate_left
    ·
     intro w'
     go_simp
     with_reducible rfl
    rotate_left
    ·
     simp only [Act.put, List.setIfInBounds_toArray, List.set_cons_zero, List.set_cons_succ, i64_w, i32_w]
     rfl
    refine one_ (i := 14) (N := none) #[true, true, true, true, true, true, true, true, true, true, true, true, true, true, true, false, false] rfl rfl (one_of HT_.out (by kernel_rfl)) (by decide) (fun K hK => ?_)
    have hs71 : w70.cell? ⟨gb160, 3, none⟩ = some (.int .u64 0) := (blk_cell BK160.out 3).trans rfl
    have hfs71 := blk_frozen BK160.out 3
    have hns71_0 := NB156_160.out
    have hns71_1 := NB157_160.out
    have hms71_0 := NB160_156.out
    have hms71_1 := NB160_157.out
    refine skip_ (w1 := ?_) (by rfl) rfl ?_ ?_
    rotate_left
    ·
     go_simp
     rfl
    refine hK.out _ _ ⟨((cell_far (p := ⟨gb160, _, none⟩) NB156_160.out _).trans (hHeld.1)), ((cell_far (p := ⟨gb160, _, none⟩) NB156_160.out _).trans (hHeld.2))⟩ (fun hHeld => ?_)
    clear hK K
    refine pure_ (i := 15) (N := some 42) (v := ?_) (a' := ?_) #[true, true, true, true, true, true, true, true, true, true, true, true, true, true, true, true, false] rfl rfl (any_of HT_.out (by kernel_rfl)) (fun _ _ _ h => h) (Or.inl ⟨by rfl, ?_⟩) ?_ ?_
    rotate_left
    ·
     intro w'
     go_simp
     with_reducible rfl
    rotate_left
    ·
     simp only [Act.put, List.setIfInBounds_toArray, List.set_cons_zero, List.set_cons_succ, i64_w, i32_w]
     rfl
    refine one_ (i := 16) (N := none) #[true, true, true, true, true, true, true, true, true, true, true, true, true, true, true, true, true] rfl rfl (one_of HT_.out (by kernel_rfl)) (by decide) (fun K hK => ?_)
    have hs72 : w70.cell? ⟨gb160, 4, none⟩ = some (.int .i64 0) := (blk_cell BK160.out 4).trans rfl
    have hfs72 := blk_frozen BK160.out 4
    have hns72_0 := NB156_160.out
    have hns72_1 := NB157_160.out
    have hms72_0 := NB160_156.out
    have hms72_1 := NB160_157.out
    refine skip_ (w1 := ?_) (by rfl) rfl ?_ ?_
    rotate_left
    ·
     go_simp
     rfl
    refine hK.out _ _ ⟨((cell_far (p := ⟨gb160, _, none⟩) NB156_160.out _).trans (hHeld.1)), ((cell_far (p := ⟨gb160, _, none⟩) NB156_160.out _).trans (hHeld.2))⟩ (fun hHeld => ?_)
    clear hK K
    refine done_ (done_of HT_.out (by kernel_rfl)) ?_
    have hcz73_0 : w70.cell? ⟨gb160, 0, none⟩ = some (.bool jb55) := (blk_cell BK160.out 0).trans rfl
    have hcz73_1 : w70.cell? ⟨gb160, 1, none⟩ = some (.bool false) := (blk_cell BK160.out 1).trans rfl
    have hcz73_2 : w70.cell? ⟨gb160, 2, none⟩ = some (.bool false) := (blk_cell BK160.out 2).trans rfl
    have hcz73_3 : w70.cell? ⟨gb160, 3, none⟩ = some (.int .u64 0) := (blk_cell BK160.out 3).trans rfl
    have hcz73_4 : w70.cell? ⟨gb160, 4, none⟩ = some (.int .i64 0) := (blk_cell BK160.out 4).trans rfl
    have hfz73_0 := blk_frozen BK160.out 0
    have hfz73_1 := blk_frozen BK160.out 1
    have hfz73_2 := blk_frozen BK160.out 2
    have hfz73_3 := blk_frozen BK160.out 3
    have hfz73_4 := blk_frozen BK160.out 4
    have hcz74_0 : w70.cell? ⟨gb157, 0, none⟩ = some (.bool false) := (blk_cell BK157.out 0).trans rfl
    have hcz74_1 : w70.cell? ⟨gb157, 1, none⟩ = some (.bool false) := (blk_cell BK157.out 1).trans rfl
    have hcz74_2 : w70.cell? ⟨gb157, 2, none⟩ = some (.bool false) := (blk_cell BK157.out 2).trans rfl
    have hcz74_3 : w70.cell? ⟨gb157, 3, none⟩ = some (.int .u64 0) := (blk_cell BK157.out 3).trans rfl
    have hcz74_4 : w70.cell? ⟨gb157, 4, none⟩ = some (.int .i64 0) := (blk_cell BK157.out 4).trans rfl
    have hfz74_0 := blk_frozen BK157.out 0
    have hfz74_1 := blk_frozen BK157.out 1
    have hfz74_2 := blk_frozen BK157.out 2
    have hfz74_3 := blk_frozen BK157.out 3
    have hfz74_4 := blk_frozen BK157.out 4
    try go_wp2_with (first | ((with_reducible refine gate_store (t := 66) (p := 4) rfl ?_); refine store_event (t := 66) (p := 4) (v := ?vo_w75) (w1 := (((((((w70.setCell ⟨gb160, 3, none⟩ (.int .u64 (IntKind.u64.wrap ((IntKind.u64.wrap (Go.bits .and .u32 a1 (((ji7) - 1) % 4294967296))) + (ji54))))).setCell ⟨gb160, 4, none⟩ (.int .i64 (wrap64 ((wrap64 ((wrap64 (Go.bits .and .u32 (ji4) t158)) - a0_1)) - a0_0)))).setCell ⟨gb157, 0, none⟩ (.bool jb55)).setCell ⟨gb157, 1, none⟩ (.bool false)).setCell ⟨gb157, 2, none⟩ (.bool false)).setCell ⟨gb157, 3, none⟩ (.int .u64 (IntKind.u64.wrap ((IntKind.u64.wrap (Go.bits .and .u32 a1 (((ji7) - 1) % 4294967296))) + (ji54))))).setCell ⟨gb157, 4, none⟩ (.int .i64 (wrap64 ((wrap64 ((wrap64 (Go.bits .and .u32 (ji4) t158)) - a0_1)) - a0_0))))) ?hg ?ho ?hn ?hr ?_; (case ho => rfl); (case hg => rfl); (case hn => rfl); (case hr => first | (go_simp; done) | (go_simp; rfl)); intro w75 hw; have n0_ : Aside0 (w75.heap[gb156]? = some (.cells #[.int .i64 a0_0, .int .i64 a0_1] 62 (0, 0))) := ⟨(by rw [hw]; exact (by (with_reducible repeat (first | refine blk_drewN ?_ _ | refine blk_drew ?_ | refine blk_alloc ?_ _)); refine blk_far ?_ NB156_157.out _; (with_reducible repeat (first | refine blk_drewN ?_ _ | refine blk_drew ?_ | refine blk_alloc ?_ _)); refine blk_far ?_ NB156_157.out _; (with_reducible repeat (first | refine blk_drewN ?_ _ | refine blk_drew ?_ | refine blk_alloc ?_ _)); refine blk_far ?_ NB156_157.out _; (with_reducible repeat (first | refine blk_drewN ?_ _ | refine blk_drew ?_ | refine blk_alloc ?_ _)); refine blk_far ?_ NB156_157.out _; (with_reducible repeat (first | refine blk_drewN ?_ _ | refine blk_drew ?_ | refine blk_alloc ?_ _)); refine blk_far ?_ NB156_157.out _; (with_reducible repeat (first | refine blk_drewN ?_ _ | refine blk_drew ?_ | refine blk_alloc ?_ _)); refine blk_far ?_ NB156_160.out _; (with_reducible repeat (first | refine blk_drewN ?_ _ | refine blk_drew ?_ | refine blk_alloc ?_ _)); refine blk_far ?_ NB156_160.out _; (with_reducible repeat (first | refine blk_drewN ?_ _ | refine blk_drew ?_ | refine blk_alloc ?_ _)); exact BK156.out))⟩; have n1_ : Aside0 (w75.heap[gb157]? = some (.cells #[.bool jb55, .bool false, .bool false, .int .u64 (IntKind.u64.wrap ((IntKind.u64.wrap (Go.bits .and .u32 a1 (((ji7) - 1) % 4294967296))) + (ji54))), .int .i64 (wrap64 ((wrap64 ((wrap64 (Go.bits .and .u32 (ji4) t158)) - a0_1)) - a0_0))] 66 (0, 0))) := ⟨(by rw [hw]; exact (by (with_reducible repeat (first | refine blk_drewN ?_ _ | refine blk_drew ?_ | refine blk_alloc ?_ _)); refine blk_put (cs := #[.bool jb55, .bool false, .bool false, .int .u64 (IntKind.u64.wrap ((IntKind.u64.wrap (Go.bits .and .u32 a1 (((ji7) - 1) % 4294967296))) + (ji54))), .int .i64 0]) ?_ 4 _ rfl; (with_reducible repeat (first | refine blk_drewN ?_ _ | refine blk_drew ?_ | refine blk_alloc ?_ _)); refine blk_put (cs := #[.bool jb55, .bool false, .bool false, .int .u64 0, .int .i64 0]) ?_ 3 _ rfl; (with_reducible repeat (first | refine blk_drewN ?_ _ | refine blk_drew ?_ | refine blk_alloc ?_ _)); refine blk_put (cs := #[.bool jb55, .bool false, .bool false, .int .u64 0, .int .i64 0]) ?_ 2 _ rfl; (with_reducible repeat (first | refine blk_drewN ?_ _ | refine blk_drew ?_ | refine blk_alloc ?_ _)); refine blk_put (cs := #[.bool jb55, .bool false, .bool false, .int .u64 0, .int .i64 0]) ?_ 1 _ rfl; (with_reducible repeat (first | refine blk_drewN ?_ _ | refine blk_drew ?_ | refine blk_alloc ?_ _)); refine blk_put (cs := #[.bool false, .bool false, .bool false, .int .u64 0, .int .i64 0]) ?_ 0 _ rfl; (with_reducible repeat (first | refine blk_drewN ?_ _ | refine blk_drew ?_ | refine blk_alloc ?_ _)); refine blk_far ?_ NB157_160.out _; (with_reducible repeat (first | refine blk_drewN ?_ _ | refine blk_drew ?_ | refine blk_alloc ?_ _)); refine blk_far ?_ NB157_160.out _; (with_reducible repeat (first | refine blk_drewN ?_ _ | refine blk_drew ?_ | refine blk_alloc ?_ _)); exact BK157.out))⟩; have n2_ : Aside0 (w75.heap[gb160]? = some (.cells #[.bool jb55, .bool false, .bool false, .int .u64 (IntKind.u64.wrap ((IntKind.u64.wrap (Go.bits .and .u32 a1 (((ji7) - 1) % 4294967296))) + (ji54))), .int .i64 (wrap64 ((wrap64 ((wrap64 (Go.bits .and .u32 (ji4) t158)) - a0_1)) - a0_0))] 66 (0, 0))) := ⟨(by rw [hw]; exact (by (with_reducible repeat (first | refine blk_drewN ?_ _ | refine blk_drew ?_ | refine blk_alloc ?_ _)); refine blk_far ?_ NB160_157.out _; (with_reducible repeat (first | refine blk_drewN ?_ _ | refine blk_drew ?_ | refine blk_alloc ?_ _)); refine blk_far ?_ NB160_157.out _; (with_reducible repeat (first | refine blk_drewN ?_ _ | refine blk_drew ?_ | refine blk_alloc ?_ _)); refine blk_far ?_ NB160_157.out _; (with_reducible repeat (first | refine blk_drewN ?_ _ | refine blk_drew ?_ | refine blk_alloc ?_ _)); refine blk_far ?_ NB160_157.out _; (with_reducible repeat (first | refine blk_drewN ?_ _ | refine blk_drew ?_ | refine blk_alloc ?_ _)); refine blk_far ?_ NB160_157.out _; (with_reducible repeat (first | refine blk_drewN ?_ _ | refine blk_drew ?_ | refine blk_alloc ?_ _)); refine blk_put (cs := #[.bool jb55, .bool false, .bool false, .int .u64 (IntKind.u64.wrap ((IntKind.u64.wrap (Go.bits .and .u32 a1 (((ji7) - 1) % 4294967296))) + (ji54))), .int .i64 0]) ?_ 4 _ rfl; (with_reducible repeat (first | refine blk_drewN ?_ _ | refine blk_drew ?_ | refine blk_alloc ?_ _)); refine blk_put (cs := #[.bool jb55, .bool false, .bool false, .int .u64 0, .int .i64 0]) ?_ 3 _ rfl; (with_reducible repeat (first | refine blk_drewN ?_ _ | refine blk_drew ?_ | refine blk_alloc ?_ _)); exact BK160.out))⟩; have n3_ : Aside0 (Below w.heap.size w w75) := ⟨(by rw [hw]; exact (bw HB.out))⟩; clear hw; clear BK156; clear BK157; clear BK160; clear HB; have BK156 := n0_; have BK157 := n1_; have BK160 := n2_; have HB := n3_; clear n0_ n1_ n2_ n3_))
    refine bodyPost_ret (results_cell_row rfl _ _ gb157 66 #[.bool jb55, .bool false, .bool false, .int .u64 (IntKind.u64.wrap ((IntKind.u64.wrap (Go.bits .and .u32 a1 (((ji7) - 1) % 4294967296))) + (ji54))), .int .i64 (wrap64 ((wrap64 ((wrap64 (Go.bits .and .u32 (ji4) t158)) - a0_1)) - a0_0))] (0, 0) _ rfl (bk BK157.out) Try.underlying66 rfl (by kernel_rfl)) rfl ?_
    exact ⟨by first | rfl | (simp [errW_none, errW_some] <;> rfl) | (simp only [← hji4, ← hji7, ← hji54]; first | rfl | (simp [errW_none, errW_some] <;> rfl)) | (simp [*, errW_none, errW_some] <;> rfl), bw HB.out⟩
 ·
  rw [if_neg c3] at H
  exact absurd H (by simp)

end Go.Proofs.Ytdeogandkgiggaa.Q

namespace Go.Proofs.Ytdeogandkgiggaa.Q
open Go.RowKit Go.Proofs.YtdeogandkgiggaaW.PrintWords Go.Proofs.YtdeogandkgiggaaW.PrintLast Go.Proofs.YtdeogandkgiggaaW.PrintMore
attribute [local go_sem] max2_int min2_int max_two min_two max_three min_three max_four min_four   -- for this text's walks alone
set_option linter.unusedVariables false
set_option linter.unusedSimpArgs false

/-! ### impl_whole: function 65 -/
def impl_whole.j0 : Nat → Int → Bool → Int → Int → Bool → Bool → Option (Int)
 | 0, _, _, _, _, _, _ => none
 | k + 1, x0, x1, x9, x10, x11, x12 => if x0 = 1 then (if x10 = 0 then (some x9) else (if x1 = true then (some x9) else (some (IntKind.u64.wrap (x9 + 1))))) else (if x0 = 2 then (if x10 = 0 then (some x9) else (if x1 = true then (some (IntKind.u64.wrap (x9 + 1))) else (some x9))) else (if x0 = 4 then (if x12 = true then (some (IntKind.u64.wrap (x9 + 1))) else (if x11 = true then (if (Go.bits .and .u64 x9 1) = 1 then (some (IntKind.u64.wrap (x9 + 1))) else (some x9)) else (some x9))) else (some x9)))
def impl_whole.f (k : Nat) (a0 : Int) (a1 : Bool) (a2 : Int) (a3 : Int) : Option (Int) := if a3 > (-64) then (if 0 ≤ (wrap64 (-a3)) then (if 0 ≤ (wrap64 ((wrap64 (-a3)) - 1)) then (impl_whole.j0 k a0 a1 (shr .u64 a2 (wrap64 (-a3))) (IntKind.u64.wrap (a2 - (shl .u64 (shr .u64 a2 (wrap64 (-a3))) (wrap64 (-a3))))) ((IntKind.u64.wrap (a2 - (shl .u64 (shr .u64 a2 (wrap64 (-a3))) (wrap64 (-a3))))) == (shl .u64 1 (wrap64 ((wrap64 (-a3)) - 1)))) (decide ((IntKind.u64.wrap (a2 - (shl .u64 (shr .u64 a2 (wrap64 (-a3))) (wrap64 (-a3))))) > (shl .u64 1 (wrap64 ((wrap64 (-a3)) - 1)))))) else (none)) else (none)) else (impl_whole.j0 k a0 a1 0 a2 false false)
theorem impl_whole.mono_l : ∀ k, (∀ y0 y1 y2 y3 y4 y5, LeO (impl_whole.j0 k y0 y1 y2 y3 y4 y5) (impl_whole.j0 (k + 1) y0 y1 y2 y3 y4 y5))
 | 0 => fun _ _ _ _ _ _ r h => by simp [impl_whole.j0] at h
 | k + 1 => by
  have ih0 := impl_whole.mono_l k
  ·
   intro y0 y1 y2 y3 y4 y5
   unfold impl_whole.j0
   repeat' first
   | (with_reducible exact ih0 _ _ _ _ _ _)
   | (with_reducible exact LeO.refl _)
   | (with_reducible exact LeO.none _)
   | (with_reducible refine LeO.ite ?_ ?_)
   | (with_reducible refine LeO.bind ?_ (fun _ => ?_))
   | exact ih0 _ _ _ _ _ _
   | exact LeO.none _
   | refine LeO.ite ?_ ?_
   | refine LeO.bind ?_ (fun _ => ?_)
theorem impl_whole.mono : ∀ a0 a1 a2 a3 k, LeO (impl_whole.f k a0 a1 a2 a3) (impl_whole.f (k + 1) a0 a1 a2 a3) := by
 intro a0 a1 a2 a3 k
 have ih0 := impl_whole.mono_l k
 unfold impl_whole.f
 repeat' first
   | (with_reducible exact ih0 _ _ _ _ _ _)
   | (with_reducible exact LeO.refl _)
   | (with_reducible exact LeO.none _)
   | (with_reducible refine LeO.ite ?_ ?_)
   | (with_reducible refine LeO.bind ?_ (fun _ => ?_))
   | exact ih0 _ _ _ _ _ _
   | exact LeO.none _
   | refine LeO.ite ?_ ?_
   | refine LeO.bind ?_ (fun _ => ?_)
set_option maxHeartbeats 8000000 in
set_option maxRecDepth 100000 in
theorem impl_whole.calls (k : Nat) (a0 : Int) (a1 : Bool) (a2 : Int) (a3 : Int) (r : Int) (w : World) (h : impl_whole.f k a0 a1 a2 a3 = some r) :
  Calls Try.prog 65 #[.int .i64 a0, .bool a1, .int .u64 a2, .int .i64 a3] w fun e w' => e = .returned (.int .u64 r) ∧ Drawn0 w w' := by
 have H : (if a3 > (-64) then (if 0 ≤ (wrap64 (-a3)) then (if 0 ≤ (wrap64 ((wrap64 (-a3)) - 1)) then (impl_whole.j0 k a0 a1 (shr .u64 a2 (wrap64 (-a3))) (IntKind.u64.wrap (a2 - (shl .u64 (shr .u64 a2 (wrap64 (-a3))) (wrap64 (-a3))))) ((IntKind.u64.wrap (a2 - (shl .u64 (shr .u64 a2 (wrap64 (-a3))) (wrap64 (-a3))))) == (shl .u64 1 (wrap64 ((wrap64 (-a3)) - 1)))) (decide ((IntKind.u64.wrap (a2 - (shl .u64 (shr .u64 a2 (wrap64 (-a3))) (wrap64 (-a3))))) > (shl .u64 1 (wrap64 ((wrap64 (-a3)) - 1)))))) else (none)) else (none)) else (impl_whole.j0 k a0 a1 0 a2 false false)) = some r := h
 clear h
 have HC5 := Aside0.mk H
 clear H
 go_enter Try.func65, Try.ntmps65
 go_upto_if 17 with (fail)
 go_cut [9, 10, 11, 12] (fun v9 v10 v11 v12 wc => ∃ (kq : Nat) (x9_4 : Int) (x10_4 : Int) (x11_4 : Bool) (x12_4 : Bool), v9 = .int .u64 x9_4 ∧ v10 = .int .u64 x10_4 ∧ v11 = .bool x11_4 ∧ v12 = .bool x12_4 ∧ Aside0 (impl_whole.j0 kq a0 a1 x9_4 x10_4 x11_4 x12_4 = some r) ∧ Aside0 (kq ≤ k) ∧ Drawn0 w wc)
 case first =>
  have H := HC5.out
  clear HC5
  by_cases c6 : a3 > (-64)
  ·
   rw [if_pos c6] at H
   have c6b0 : decide ((-64) < a3) = true := decide_eq_true c6
   clear c6
   (first | rw [c6b0] | (simp only [i64_w, i32_w]; rw [c6b0]) | skip)
   obtain ⟨ji7, hji7⟩ : ∃ j_ : Int, (wrap64 (-a3)) = j_ := ⟨_, rfl⟩
   replace H : (if 0 ≤ (ji7) then (if 0 ≤ (wrap64 ((ji7) - 1)) then (impl_whole.j0 k a0 a1 (shr .u64 a2 (ji7)) (IntKind.u64.wrap (a2 - (shl .u64 (shr .u64 a2 (ji7)) (ji7)))) ((IntKind.u64.wrap (a2 - (shl .u64 (shr .u64 a2 (ji7)) (ji7)))) == (shl .u64 1 (wrap64 ((ji7) - 1)))) (decide ((IntKind.u64.wrap (a2 - (shl .u64 (shr .u64 a2 (ji7)) (ji7)))) > (shl .u64 1 (wrap64 ((ji7) - 1)))))) else (none)) else (none)) = some r := by first | (rw [hji7] at H; exact H) | (simp only [hji7] at H ⊢; exact H)
   have hji7w : (IntKind.i64.wrap (-a3)) = ji7 := (i64_w _).trans hji7
   by_cases c8 : 0 ≤ (ji7)
   ·
    rw [if_pos c8] at H
    have c8b0 := eq_true c8
    have c8b1 : decide (0 ≤ (ji7)) = true := decide_eq_true c8
    clear c8
    obtain ⟨ji9, hji9⟩ : ∃ j_ : Int, (shr .u64 a2 (ji7)) = j_ := ⟨_, rfl⟩
    replace H : (if 0 ≤ (wrap64 ((ji7) - 1)) then (impl_whole.j0 k a0 a1 ji9 (IntKind.u64.wrap (a2 - (shl .u64 (ji9) (ji7)))) ((IntKind.u64.wrap (a2 - (shl .u64 (ji9) (ji7)))) == (shl .u64 1 (wrap64 ((ji7) - 1)))) (decide ((IntKind.u64.wrap (a2 - (shl .u64 (ji9) (ji7)))) > (shl .u64 1 (wrap64 ((ji7) - 1)))))) else (none)) = some r := by first | (rw [hji9] at H; exact H) | (simp only [hji9] at H ⊢; exact H)
    have hji9_ : (a2 / 2 ^ min (ji7).toNat 64) = ji9 := hji9
    have hji9z : (ji7) ≤ 64 → (a2 / 2 ^ (ji7).toNat) = ji9 := shr_small hji9
    have c10b0 := eq_true (of_decide_eq_true (by first | (with_reducible assumption) | assumption) : 0 ≤ (ji7))
    obtain ⟨ji11, hji11⟩ : ∃ j_ : Int, (shl .u64 (ji9) (ji7)) = j_ := ⟨_, rfl⟩
    replace H : (if 0 ≤ (wrap64 ((ji7) - 1)) then (impl_whole.j0 k a0 a1 ji9 (IntKind.u64.wrap (a2 - (ji11))) ((IntKind.u64.wrap (a2 - (ji11))) == (shl .u64 1 (wrap64 ((ji7) - 1)))) (decide ((IntKind.u64.wrap (a2 - (ji11))) > (shl .u64 1 (wrap64 ((ji7) - 1)))))) else (none)) = some r := by first | (rw [hji11] at H; exact H) | (simp only [hji11] at H ⊢; exact H)
    have hji11_ : (IntKind.u64.wrap ((ji9) * 2 ^ min (ji7).toNat 64)) = ji11 := hji11
    have hji11z : (ji7) ≤ 64 → (IntKind.u64.wrap ((ji9) * 2 ^ (ji7).toNat)) = ji11 := shl_small hji11
    obtain ⟨ji12, hji12⟩ : ∃ j_ : Int, (wrap64 ((ji7) - 1)) = j_ := ⟨_, rfl⟩
    replace H : (if 0 ≤ (ji12) then (impl_whole.j0 k a0 a1 ji9 (IntKind.u64.wrap (a2 - (ji11))) ((IntKind.u64.wrap (a2 - (ji11))) == (shl .u64 1 (ji12))) (decide ((IntKind.u64.wrap (a2 - (ji11))) > (shl .u64 1 (ji12))))) else (none)) = some r := by first | (rw [hji12] at H; exact H) | (simp only [hji12] at H ⊢; exact H)
    have hji12w : (IntKind.i64.wrap ((ji7) - 1)) = ji12 := (i64_w _).trans hji12
    by_cases c13 : 0 ≤ (ji12)
    ·
     rw [if_pos c13] at H
     have c13b0 := eq_true c13
     have c13b1 : decide (0 ≤ (ji12)) = true := decide_eq_true c13
     clear c13
     obtain ⟨ji14, hji14⟩ : ∃ j_ : Int, (shl .u64 1 (ji12)) = j_ := ⟨_, rfl⟩
     replace H : (impl_whole.j0 k a0 a1 ji9 (IntKind.u64.wrap (a2 - (ji11))) ((IntKind.u64.wrap (a2 - (ji11))) == (ji14)) (decide ((IntKind.u64.wrap (a2 - (ji11))) > (ji14)))) = some r := by first | (rw [hji14] at H; exact H) | (simp only [hji14] at H ⊢; exact H)
     have hji14_ : (IntKind.u64.wrap (1 * 2 ^ min (ji12).toNat 64)) = ji14 := hji14
     have hji14z : (ji12) ≤ 64 → (IntKind.u64.wrap (1 * 2 ^ (ji12).toNat)) = ji14 := shl_small hji14
     have hji14u : (IntKind.u64.wrap (2 ^ min (ji12).toNat 64)) = ji14 := by have h_ := hji14_; rw [Int.one_mul] at h_; exact h_
     have hji14v : (ji12) ≤ 64 → (IntKind.u64.wrap (2 ^ (ji12).toNat)) = ji14 := fun hle_ => by have h_ := hji14z hle_; rw [Int.one_mul] at h_; exact h_
     have H' := Aside0.mk H
     clear H
     go_wp2
     first | go_meet | ((simp only [← hji14]); go_meet) | ((simp only [← hji12]); go_meet) | ((simp only [← hji11]); go_meet) | ((simp only [← hji9]); go_meet) | ((simp only [← hji7]); go_meet) | ((simp only [← hji14, ← hji12, ← hji11, ← hji9, ← hji7]); go_meet)
     case rel => exact ⟨_, (ji9), (IntKind.u64.wrap (a2 - (ji11))), (((IntKind.u64.wrap (a2 - (ji11))) == (ji14))), (decide ((IntKind.u64.wrap (a2 - (ji11))) > (ji14))), (by first | rfl | (simp; done) | (simp only [← hji9] <;> (first | rfl | simp)) | (simp [*]; done)), (by first | rfl | (simp; done) | (simp only [← hji11] <;> (first | rfl | simp)) | (simp [*]; done)), (by first | rfl | (simp; done) | (simp only [← hji11, ← hji14] <;> (first | rfl | simp)) | (simp [*]; done)), (by first | rfl | (simp; done) | (simp only [← hji11, ← hji14] <;> (first | rfl | simp)) | (simp [*]; done)), H', ⟨by first | omega | exact Nat.le_refl _⟩, by repeat (first | exact Drawn0.refl _ | apply Drawn0.step)⟩
    ·
     rw [if_neg c13] at H
     exact absurd H (by simp)
   ·
    rw [if_neg c8] at H
    exact absurd H (by simp)
  ·
   rw [if_neg c6] at H
   have c6b0 : decide ((-64) < a3) = false := decide_eq_false c6
   clear c6
   (first | rw [c6b0] | (simp only [i64_w, i32_w]; rw [c6b0]) | skip)
   have H' := Aside0.mk H
   clear H
   go_wp2
   go_meet
   case rel => exact ⟨_, (0), (a2), (false), (false), (by first | rfl | (simp; done) | (simp [*]; done)), (by first | rfl | (simp; done) | (simp [*]; done)), (by first | rfl | (simp; done) | (simp [*]; done)), (by first | rfl | (simp; done) | (simp [*]; done)), H', ⟨by first | omega | exact Nat.le_refl _⟩, by repeat (first | exact Drawn0.refl _ | apply Drawn0.step)⟩
 case rest =>
  clear HC5
  try clear c1
  try clear p2
  try clear c6
  try clear c6b0
  try clear p6
  try clear c8
  try clear c8b0
  try clear c8b1
  try clear c10
  try clear c10b0
  try clear c13
  try clear c13b0
  try clear c13b1
  obtain ⟨kq, x9_4, x10_4, x11_4, x12_4, rfl, rfl, rfl, rfl, HA, HJ4, ⟨mc4, rfl⟩⟩ := hcut
  cases kq with
  | zero => exact absurd HA.out (by simp [impl_whole.j0])
  | succ kj4 =>
   have H := HA.out
   clear HA
   simp only [impl_whole.j0] at H
   by_cases c15 : a0 = 1
   ·
    rw [if_pos c15] at H
    have c15b0 : (a0 == 1) = true := beq_iff_eq.mpr c15
    have c15b1 : (a0 != 1) = false := bne_eq_false_iff_eq.mpr c15
    clear c15
    by_cases c16 : x10_4 = 0
    ·
     rw [if_pos c16] at H
     have c16b0 : (x10_4 == 0) = true := beq_iff_eq.mpr c16
     have c16b1 : (x10_4 != 0) = false := bne_eq_false_iff_eq.mpr c16
     clear c16
     obtain rfl := Option.some.inj H
     simp only [Option.some.injEq, Prod.mk.injEq] at H
     obtain ⟨rfl⟩ := H
     go_wp2
     go_ret
     exact ⟨by first | rfl | (simp; done) | (simp [*]; done), by repeat (first | exact Drawn0.refl _ | apply Drawn0.step)⟩
    ·
     rw [if_neg c16] at H
     have c16b0 : (x10_4 == 0) = false := beq_eq_false_iff_ne.mpr c16
     have c16b1 : (x10_4 != 0) = true := bne_iff_ne.mpr c16
     by_cases c17 : a1 = true
     ·
      subst c17
      have H1 : (some x9_4) = some r := by rw [if_pos rfl] at H; exact H
      clear H
      have H := H1
      clear H1
      obtain rfl := Option.some.inj H
      simp only [Option.some.injEq, Prod.mk.injEq] at H
      obtain ⟨rfl⟩ := H
      go_wp2
      go_ret
      exact ⟨by first | rfl | (simp; done) | (simp [*]; done), by repeat (first | exact Drawn0.refl _ | apply Drawn0.step)⟩
     ·
      replace c17 := Bool.eq_false_iff.mpr c17
      subst c17
      have H1 : (some (IntKind.u64.wrap (x9_4 + 1))) = some r := by rw [if_neg (show ¬ (false = true) by decide)] at H; exact H
      clear H
      have H := H1
      clear H1
      obtain rfl := Option.some.inj H
      simp only [Option.some.injEq, Prod.mk.injEq] at H
      obtain ⟨rfl⟩ := H
      go_wp2
      go_ret
      exact ⟨by first | rfl | (simp; done) | (simp [*]; done), by repeat (first | exact Drawn0.refl _ | apply Drawn0.step)⟩
   ·
    rw [if_neg c15] at H
    have c15b0 : (a0 == 1) = false := beq_eq_false_iff_ne.mpr c15
    have c15b1 : (a0 != 1) = true := bne_iff_ne.mpr c15
    by_cases c18 : a0 = 2
    ·
     rw [if_pos c18] at H
     have c18b0 : (a0 == 2) = true := beq_iff_eq.mpr c18
     have c18b1 : (a0 != 2) = false := bne_eq_false_iff_eq.mpr c18
     clear c18
     by_cases c19 : x10_4 = 0
     ·
      rw [if_pos c19] at H
      have c19b0 : (x10_4 == 0) = true := beq_iff_eq.mpr c19
      have c19b1 : (x10_4 != 0) = false := bne_eq_false_iff_eq.mpr c19
      clear c19
      obtain rfl := Option.some.inj H
      simp only [Option.some.injEq, Prod.mk.injEq] at H
      obtain ⟨rfl⟩ := H
      go_wp2
      go_ret
      exact ⟨by first | rfl | (simp; done) | (simp [*]; done), by repeat (first | exact Drawn0.refl _ | apply Drawn0.step)⟩
     ·
      rw [if_neg c19] at H
      have c19b0 : (x10_4 == 0) = false := beq_eq_false_iff_ne.mpr c19
      have c19b1 : (x10_4 != 0) = true := bne_iff_ne.mpr c19
      by_cases c20 : a1 = true
      ·
       subst c20
       have H1 : (some (IntKind.u64.wrap (x9_4 + 1))) = some r := by rw [if_pos rfl] at H; exact H
       clear H
       have H := H1
       clear H1
       obtain rfl := Option.some.inj H
       simp only [Option.some.injEq, Prod.mk.injEq] at H
       obtain ⟨rfl⟩ := H
       go_wp2
       go_ret
       exact ⟨by first | rfl | (simp; done) | (simp [*]; done), by repeat (first | exact Drawn0.refl _ | apply Drawn0.step)⟩
      ·
       replace c20 := Bool.eq_false_iff.mpr c20
       subst c20
       have H1 : (some x9_4) = some r := by rw [if_neg (show ¬ (false = true) by decide)] at H; exact H
       clear H
       have H := H1
       clear H1
       obtain rfl := Option.some.inj H
       simp only [Option.some.injEq, Prod.mk.injEq] at H
       obtain ⟨rfl⟩ := H
       go_wp2
       go_ret
       exact ⟨by first | rfl | (simp; done) | (simp [*]; done), by repeat (first | exact Drawn0.refl _ | apply Drawn0.step)⟩
    ·
     rw [if_neg c18] at H
     have c18b0 : (a0 == 2) = false := beq_eq_false_iff_ne.mpr c18
     have c18b1 : (a0 != 2) = true := bne_iff_ne.mpr c18
     by_cases c21 : a0 = 4
     ·
      rw [if_pos c21] at H
      have c21b0 : (a0 == 4) = true := beq_iff_eq.mpr c21
      have c21b1 : (a0 != 4) = false := bne_eq_false_iff_eq.mpr c21
      clear c21
      by_cases c22 : x12_4 = true
      ·
       subst c22
       have H1 : (some (IntKind.u64.wrap (x9_4 + 1))) = some r := by rw [if_pos rfl] at H; exact H
       clear H
       have H := H1
       clear H1
       obtain rfl := Option.some.inj H
       simp only [Option.some.injEq, Prod.mk.injEq] at H
       obtain ⟨rfl⟩ := H
       go_wp2
       go_ret
       exact ⟨by first | rfl | (simp; done) | (simp [*]; done), by repeat (first | exact Drawn0.refl _ | apply Drawn0.step)⟩
      ·
       replace c22 := Bool.eq_false_iff.mpr c22
       subst c22
       have H1 : (if x11_4 = true then (if (Go.bits .and .u64 x9_4 1) = 1 then (some (IntKind.u64.wrap (x9_4 + 1))) else (some x9_4)) else (some x9_4)) = some r := by rw [if_neg (show ¬ (false = true) by decide)] at H; exact H
       clear H
       have H := H1
       clear H1
       by_cases c23 : x11_4 = true
       ·
        subst c23
        have H1 : (if (Go.bits .and .u64 x9_4 1) = 1 then (some (IntKind.u64.wrap (x9_4 + 1))) else (some x9_4)) = some r := by rw [if_pos rfl] at H; exact H
        clear H
        have H := H1
        clear H1
        by_cases c24 : (Go.bits .and .u64 x9_4 1) = 1
        ·
         rw [if_pos c24] at H
         have c24b0 : ((Go.bits .and .u64 x9_4 1) == 1) = true := beq_iff_eq.mpr c24
         have c24b1 : ((Go.bits .and .u64 x9_4 1) != 1) = false := bne_eq_false_iff_eq.mpr c24
         clear c24
         obtain rfl := Option.some.inj H
         simp only [Option.some.injEq, Prod.mk.injEq] at H
         obtain ⟨rfl⟩ := H
         go_wp2
         go_ret
         exact ⟨by first | rfl | (simp; done) | (simp [*]; done), by repeat (first | exact Drawn0.refl _ | apply Drawn0.step)⟩
        ·
         rw [if_neg c24] at H
         have c24b0 : ((Go.bits .and .u64 x9_4 1) == 1) = false := beq_eq_false_iff_ne.mpr c24
         have c24b1 : ((Go.bits .and .u64 x9_4 1) != 1) = true := bne_iff_ne.mpr c24
         obtain rfl := Option.some.inj H
         simp only [Option.some.injEq, Prod.mk.injEq] at H
         obtain ⟨rfl⟩ := H
         go_wp2
         go_ret
         exact ⟨by first | rfl | (simp; done) | (simp [*]; done), by repeat (first | exact Drawn0.refl _ | apply Drawn0.step)⟩
       ·
        replace c23 := Bool.eq_false_iff.mpr c23
        subst c23
        have H1 : (some x9_4) = some r := by rw [if_neg (show ¬ (false = true) by decide)] at H; exact H
        clear H
        have H := H1
        clear H1
        obtain rfl := Option.some.inj H
        simp only [Option.some.injEq, Prod.mk.injEq] at H
        obtain ⟨rfl⟩ := H
        go_wp2
        go_ret
        exact ⟨by first | rfl | (simp; done) | (simp [*]; done), by repeat (first | exact Drawn0.refl _ | apply Drawn0.step)⟩
     ·
      rw [if_neg c21] at H
      have c21b0 : (a0 == 4) = false := beq_eq_false_iff_ne.mpr c21
      have c21b1 : (a0 != 4) = true := bne_iff_ne.mpr c21
      obtain rfl := Option.some.inj H
      simp only [Option.some.injEq, Prod.mk.injEq] at H
      obtain ⟨rfl⟩ := H
      go_wp2
      go_ret
      exact ⟨by first | rfl | (simp; done) | (simp [*]; done), by repeat (first | exact Drawn0.refl _ | apply Drawn0.step)⟩

end Go.Proofs.Ytdeogandkgiggaa.Q

