-- Written by a program of this session; it walks the functions that the law reaches.
import Derived.Test.YtdeogandkgiggaaQx0
import Derived.Test.YtdeogandkgiggaaQx6
import Derived.Test.YtdeogandkgiggaaQx7
import Derived.Test.YtdeogandkgiggaaQx8
import Derived.Test.YtdeogandkgiggaaQx9
import Derived.Test.YtdeogandkgiggaaQx10
import Derived.Test.YtdeogandkgiggaaQx11
import Derived.Test.YtdeogandkgiggaaQx25
namespace Go.Proofs.Ytdeogandkgiggaa.Q
open Go.RowKit Go.Proofs.YtdeogandkgiggaaW.PrintWords Go.Proofs.YtdeogandkgiggaaW.PrintLast Go.Proofs.YtdeogandkgiggaaW.PrintMore
attribute [local go_sem] max2_int min2_int max_two min_two max_three min_three max_four min_four   -- for this text's walks alone
set_option linter.unusedVariables false
set_option linter.unusedSimpArgs false

/-! ### impl_FSqrt: function 23 -/
def impl_FSqrt.j0 : Nat → Bool → Int → Int → Bool → Bool → Bool → Int → Int → Option (Int)
 | 0, _, _, _, _, _, _, _, _ => none
 | k + 1, x26, x312000, x312001, x318000, x318001, x318002, x318003, x318004 => if x26 = true then ((impl_format_signed.f x312000 x312001 x318000 0).bind fun t319 => (some t319)) else (if x318000 = true then ((impl_format_noNumber.f x312000 x312001).bind fun t320 => (some t320)) else (if x318002 = true then ((impl_format_infinite.f x312000 x312001 false).bind fun t321 => (some t321)) else ((bits_Len64.f x318003).bind fun t322 => (if (Int.tmod (wrap64 (x318004 - (wrap64 (60 - t322)))) 2) = 0 then (if 0 ≤ (wrap64 (60 - t322)) then ((impl_root.f k (shl .u64 x318003 (wrap64 (60 - t322)))).bind fun t323 => ((impl_format_round.f k x312000 x312001 false t323 (wrap64 (Int.tdiv (wrap64 (x318004 - (wrap64 (60 - t322)))) 2)) ((IntKind.u64.wrap (t323 * t323)) != (shl .u64 x318003 (wrap64 (60 - t322))))).bind fun t324 => (some t324))) else (none)) else (if 0 ≤ (wrap64 ((wrap64 (60 - t322)) - 1)) then ((impl_root.f k (shl .u64 x318003 (wrap64 ((wrap64 (60 - t322)) - 1)))).bind fun t325 => ((impl_format_round.f k x312000 x312001 false t325 (wrap64 (Int.tdiv (wrap64 (x318004 - (wrap64 ((wrap64 (60 - t322)) - 1)))) 2)) ((IntKind.u64.wrap (t325 * t325)) != (shl .u64 x318003 (wrap64 ((wrap64 (60 - t322)) - 1))))).bind fun t326 => (some t326))) else (none))))))
def impl_FSqrt.f (k : Nat) (a0 : Int) (a1 : Int) : Option (Int) := (impl_formatOf.f a0).bind fun bt308 => (if bt308.2.2 = true then ((impl_format_open.f bt308.1 bt308.2.1 a1).bind fun bt312 => (if bt312.2.1 = true then ((impl_format_noNumber.f bt308.1 bt308.2.1).bind fun t318 => (some t318)) else (if bt312.2.2.1 = true then (impl_FSqrt.j0 k false bt308.1 bt308.2.1 bt312.1 bt312.2.1 bt312.2.2.1 bt312.2.2.2.1 bt312.2.2.2.2) else (impl_FSqrt.j0 k (bt312.2.2.2.1 == 0) bt308.1 bt308.2.1 bt312.1 bt312.2.1 bt312.2.2.1 bt312.2.2.2.1 bt312.2.2.2.2)))) else (some 0))
theorem impl_FSqrt.mono_l : ∀ k, (∀ y0 y1 y2 y3 y4 y5 y6 y7, LeO (impl_FSqrt.j0 k y0 y1 y2 y3 y4 y5 y6 y7) (impl_FSqrt.j0 (k + 1) y0 y1 y2 y3 y4 y5 y6 y7))
 | 0 => fun _ _ _ _ _ _ _ _ r h => by simp [impl_FSqrt.j0] at h
 | k + 1 => by
  have ih0 := impl_FSqrt.mono_l k
  ·
   intro y0 y1 y2 y3 y4 y5 y6 y7
   unfold impl_FSqrt.j0
   repeat' first
   | (with_reducible exact ih0 _ _ _ _ _ _ _ _)
   | (with_reducible exact impl_format_round.mono _ _ _ _ _ _ _)
   | (with_reducible exact impl_root.mono _ _)
   | (with_reducible exact LeO.refl _)
   | (with_reducible exact LeO.none _)
   | (with_reducible refine LeO.ite ?_ ?_)
   | (with_reducible refine LeO.bind ?_ (fun _ => ?_))
   | exact ih0 _ _ _ _ _ _ _ _
   | exact impl_format_round.mono _ _ _ _ _ _ _
   | exact impl_root.mono _ _
   | exact LeO.none _
   | refine LeO.ite ?_ ?_
   | refine LeO.bind ?_ (fun _ => ?_)
theorem impl_FSqrt.mono : ∀ a0 a1 k, LeO (impl_FSqrt.f k a0 a1) (impl_FSqrt.f (k + 1) a0 a1) := by
 intro a0 a1 k
 have ih0 := impl_FSqrt.mono_l k
 unfold impl_FSqrt.f
 repeat' first
   | (with_reducible exact ih0 _ _ _ _ _ _ _ _)
   | (with_reducible exact impl_format_round.mono _ _ _ _ _ _ _)
   | (with_reducible exact impl_root.mono _ _)
   | (with_reducible exact LeO.refl _)
   | (with_reducible exact LeO.none _)
   | (with_reducible refine LeO.ite ?_ ?_)
   | (with_reducible refine LeO.bind ?_ (fun _ => ?_))
   | exact ih0 _ _ _ _ _ _ _ _
   | exact impl_format_round.mono _ _ _ _ _ _ _
   | exact impl_root.mono _ _
   | exact LeO.none _
   | refine LeO.ite ?_ ?_
   | refine LeO.bind ?_ (fun _ => ?_)
set_option maxHeartbeats 8000000 in
set_option maxRecDepth 100000 in
theorem impl_FSqrt.calls (k : Nat) (a0 : Int) (a1 : Int) (r : Int) (w : World) (h : impl_FSqrt.f k a0 a1 = some r) :
  Calls Try.prog 23 #[.int .i64 a0, .int .u32 a1] w fun e w' => e = .returned (.int .u32 r) ∧ Below w.heap.size w w' := by
 have hu62 := Try.underlying62
 have hu66 := Try.underlying66
 have HB := Aside0.mk (Below.refl w.heap.size w)
 have H : ((impl_formatOf.f a0).bind fun bt308 => (if bt308.2.2 = true then ((impl_format_open.f bt308.1 bt308.2.1 a1).bind fun bt312 => (if bt312.2.1 = true then ((impl_format_noNumber.f bt308.1 bt308.2.1).bind fun t318 => (some t318)) else (if bt312.2.2.1 = true then (impl_FSqrt.j0 k false bt308.1 bt308.2.1 bt312.1 bt312.2.1 bt312.2.2.1 bt312.2.2.2.1 bt312.2.2.2.2) else (impl_FSqrt.j0 k (bt312.2.2.2.1 == 0) bt308.1 bt308.2.1 bt312.1 bt312.2.1 bt312.2.2.1 bt312.2.2.2.1 bt312.2.2.2.2)))) else (some 0))) = some r := h
 clear h
 replace H := Option.bind_eq_some_iff.mp H
 obtain ⟨⟨t308, t309, t310⟩, A30, H⟩ := H
 replace H : (if t310 = true then ((impl_format_open.f t308 t309 a1).bind fun bt312 => (if bt312.2.1 = true then ((impl_format_noNumber.f t308 t309).bind fun t318 => (some t318)) else (if bt312.2.2.1 = true then (impl_FSqrt.j0 k false t308 t309 bt312.1 bt312.2.1 bt312.2.2.1 bt312.2.2.2.1 bt312.2.2.2.2) else (impl_FSqrt.j0 k (bt312.2.2.2.1 == 0) t308 t309 bt312.1 bt312.2.1 bt312.2.2.1 bt312.2.2.2.1 bt312.2.2.2.2)))) else (some 0)) = some r := H
 have A3 := Aside0.mk A30
 clear A30
 by_cases c4 : t310 = true
 ·
  subst c4
  have H1 : ((impl_format_open.f t308 t309 a1).bind fun bt312 => (if bt312.2.1 = true then ((impl_format_noNumber.f t308 t309).bind fun t318 => (some t318)) else (if bt312.2.2.1 = true then (impl_FSqrt.j0 k false t308 t309 bt312.1 bt312.2.1 bt312.2.2.1 bt312.2.2.2.1 bt312.2.2.2.2) else (impl_FSqrt.j0 k (bt312.2.2.2.1 == 0) t308 t309 bt312.1 bt312.2.1 bt312.2.2.1 bt312.2.2.2.1 bt312.2.2.2.2)))) = some r := by rw [if_pos rfl] at H; exact H
  clear H
  have H := H1
  clear H1
  replace H := Option.bind_eq_some_iff.mp H
  obtain ⟨⟨t312, t313, t314, t315, t316⟩, A50, H⟩ := H
  replace H : (if t313 = true then ((impl_format_noNumber.f t308 t309).bind fun t318 => (some t318)) else (if t314 = true then (impl_FSqrt.j0 k false t308 t309 t312 t313 t314 t315 t316) else (impl_FSqrt.j0 k (t315 == 0) t308 t309 t312 t313 t314 t315 t316))) = some r := H
  have A5 := Aside0.mk A50
  clear A50
  by_cases c6 : t313 = true
  ·
   subst c6
   have H1 : ((impl_format_noNumber.f t308 t309).bind fun t318 => (some t318)) = some r := by rw [if_pos rfl] at H; exact H
   clear H
   have H := H1
   clear H1
   replace H := Option.bind_eq_some_iff.mp H
   obtain ⟨t318, A70, H⟩ := H
   replace H : (some t318) = some r := H
   have A7 := Aside0.mk A70
   clear A70
   obtain rfl := Option.some.inj H
   simp only [Option.some.injEq, Prod.mk.injEq] at H
   obtain ⟨rfl⟩ := H
   go_enter Try.func23, Try.ntmps23
   go_wp2_with (first | ((with_reducible refine gate_callee (f := 51) rfl ?_); refine goesL_ (some 13) rfl rfl Try.func51 (by kernel_rfl) rfl #[.int .i64 a0] rfl (by (try simp only [List.map_toArray, List.map_cons, List.map_nil]); first | done | rfl | (simp only [List.length_drop, List.length_take]; rfl)) ?_; (with_reducible refine (impl_formatOf.calls a0 t308 t309 true _ A3.out).mono ?_); rintro e w8 ⟨rfl, hb⟩; refine ⟨_, rfl, ?_⟩; have n0_ := Aside0.mk (below_step (by repeat (first | (with_reducible first | exact HB.out | apply below_alloc | apply pw_below_drewN | apply below_drew1) | exact HB.out)) hb); clear HB; have HB := n0_; clear n0_; (try clear hb); (try clear hb2); (try clear hk); (try clear hi)) | ((with_reducible refine gate_dst (N := 5) rfl ?_); refine box_event ?hg (N := 5) ?hd (cs := #[.int .i64 0, .int .i64 0]) (t := 62) ?hr ?_; (case hd => rfl); (case hg => rfl); (case hr => first | (go_simp; done) | (go_simp; rfl)); intro gb311 hg w9 hbox hb; have n0_ := Aside0.mk (below_step (by repeat (first | (with_reducible first | exact HB.out | apply below_alloc | apply pw_below_drewN | apply below_drew1) | exact HB.out)) hb); have n1_ := Aside0.mk (hbox); have n2_ := Aside0.mk ((by rw [hg]; exact (below_size (by repeat (first | (with_reducible first | exact HB.out | apply below_alloc | apply pw_below_drewN | apply below_drew1) | exact HB.out))) : w.heap.size ≤ gb311)); have n3_ := Aside0.mk ((by rw [hg]; exact (below_size (by repeat (first | (with_reducible first | exact HB.out | apply below_alloc | apply pw_below_drewN | apply below_drew1) | exact HB.out))) : w.heap.size ≤ gb311)); clear HB; have HB := n0_; have BK311 := n1_; have GW311 := n2_; have GE311 := n3_; clear n0_ n1_ n2_ n3_; clear hb hbox hg; have hcz10_0 : w9.cell? ⟨gb311, 0, none⟩ = some (.int .i64 0) := (blk_cell BK311.out 0).trans rfl; have hcz10_1 : w9.cell? ⟨gb311, 1, none⟩ = some (.int .i64 0) := (blk_cell BK311.out 1).trans rfl; have hfz10_0 := blk_frozen BK311.out 0; have hfz10_1 := blk_frozen BK311.out 1) | ((with_reducible refine gate_callee (f := 52) rfl ?_); refine goesL_ (some 20) rfl rfl Try.func52 (by kernel_rfl) rfl #[.agg #[.int .i64 t308, .int .i64 t309], .int .u32 a1] rfl (by (try simp only [List.map_toArray, List.map_cons, List.map_nil]); first | done | rfl | (simp only [List.length_drop, List.length_take]; rfl)) ?_; (with_reducible refine (impl_format_open.calls t308 t309 a1 t312 true t314 t315 t316 _ A5.out).mono ?_); rintro e w11 ⟨rfl, hb⟩; refine ⟨_, rfl, ?_⟩; have n0_ := Aside0.mk (blk_below (g := gb311) (o := .cells #[.int .i64 t308, .int .i64 t309] 62 (0, 0)) (by (with_reducible repeat (first | refine blk_drewN ?_ _ | refine blk_drew ?_ | refine blk_alloc ?_ _)); refine blk_put (cs := #[.int .i64 t308, .int .i64 0]) ?_ 1 _ rfl; (with_reducible repeat (first | refine blk_drewN ?_ _ | refine blk_drew ?_ | refine blk_alloc ?_ _)); refine blk_put (cs := #[.int .i64 0, .int .i64 0]) ?_ 0 _ rfl; (with_reducible repeat (first | refine blk_drewN ?_ _ | refine blk_drew ?_ | refine blk_alloc ?_ _)); exact BK311.out) hb); have n1_ := Aside0.mk (below_step (by repeat (first | (with_reducible first | exact HB.out | apply below_alloc | apply pw_below_drewN | apply below_drew1 | refine below_set ?_ GE311.out) | exact HB.out)) hb); clear BK311; clear HB; have BK311 := n0_; have HB := n1_; clear n0_ n1_; (try clear hb); (try clear hb2); (try clear hk); (try clear hi)) | ((with_reducible refine gate_dst (N := 7) rfl ?_); refine box_event ?hg (N := 7) ?hd (cs := #[.bool false, .bool false, .bool false, .int .u64 0, .int .i64 0]) (t := 66) ?hr ?_; (case hd => rfl); (case hg => rfl); (case hr => first | (go_simp; done) | (go_simp; rfl)); intro gb317 hg w12 hbox hb; have n0_ := Aside0.mk (blk_below (g := gb311) (o := .cells #[.int .i64 t308, .int .i64 t309] 62 (0, 0)) (by (with_reducible repeat (first | refine blk_drewN ?_ _ | refine blk_drew ?_ | refine blk_alloc ?_ _)); exact BK311.out) hb); have n1_ := Aside0.mk (below_step (by repeat (first | (with_reducible first | exact HB.out | apply below_alloc | apply pw_below_drewN | apply below_drew1 | refine below_set ?_ GE311.out) | exact HB.out)) hb); have n2_ := Aside0.mk (hbox); have n3_ := Aside0.mk ((by rw [hg]; exact (below_size (by repeat (first | (with_reducible first | exact HB.out | apply below_alloc | apply pw_below_drewN | apply below_drew1 | refine below_set ?_ GE311.out) | exact HB.out))) : w.heap.size ≤ gb317)); have n4_ := Aside0.mk ((by rw [hg]; exact (below_size (by repeat (first | (with_reducible first | exact HB.out | apply below_alloc | apply pw_below_drewN | apply below_drew1 | refine below_set ?_ GE311.out) | exact HB.out))) : w.heap.size ≤ gb317)); have n5_ := Aside0.mk ((by rw [hg]; exact Nat.ne_of_lt (blk_lt (g := gb311) (o := .cells #[.int .i64 t308, .int .i64 t309] 62 (0, 0)) (by (with_reducible repeat (first | refine blk_drewN ?_ _ | refine blk_drew ?_ | refine blk_alloc ?_ _)); exact BK311.out)) : gb311 ≠ gb317)); have n6_ := Aside0.mk ((by rw [hg]; exact Nat.ne_of_gt (blk_lt (g := gb311) (o := .cells #[.int .i64 t308, .int .i64 t309] 62 (0, 0)) (by (with_reducible repeat (first | refine blk_drewN ?_ _ | refine blk_drew ?_ | refine blk_alloc ?_ _)); exact BK311.out)) : gb317 ≠ gb311)); clear BK311; clear HB; have BK311 := n0_; have HB := n1_; have BK317 := n2_; have GW317 := n3_; have GE317 := n4_; have NB311_317 := n5_; have NB317_311 := n6_; clear n0_ n1_ n2_ n3_ n4_ n5_ n6_; clear hb hbox hg; have hnb13 := NB317_311.out; have hnc13 := NB311_317.out; have hcz14_0 : w12.cell? ⟨gb317, 0, none⟩ = some (.bool false) := (blk_cell BK317.out 0).trans rfl; have hcz14_1 : w12.cell? ⟨gb317, 1, none⟩ = some (.bool false) := (blk_cell BK317.out 1).trans rfl; have hcz14_2 : w12.cell? ⟨gb317, 2, none⟩ = some (.bool false) := (blk_cell BK317.out 2).trans rfl; have hcz14_3 : w12.cell? ⟨gb317, 3, none⟩ = some (.int .u64 0) := (blk_cell BK317.out 3).trans rfl; have hcz14_4 : w12.cell? ⟨gb317, 4, none⟩ = some (.int .i64 0) := (blk_cell BK317.out 4).trans rfl; have hfz14_0 := blk_frozen BK317.out 0; have hfz14_1 := blk_frozen BK317.out 1; have hfz14_2 := blk_frozen BK317.out 2; have hfz14_3 := blk_frozen BK317.out 3; have hfz14_4 := blk_frozen BK317.out 4) | ((with_reducible refine gate_store (t := 66) (p := 7) rfl ?_); refine store_event (t := 66) (p := 7) (v := ?vo_w15) (w1 := (((((w12.setCell ⟨gb317, 0, none⟩ (.bool t312)).setCell ⟨gb317, 1, none⟩ (.bool true)).setCell ⟨gb317, 2, none⟩ (.bool t314)).setCell ⟨gb317, 3, none⟩ (.int .u64 t315)).setCell ⟨gb317, 4, none⟩ (.int .i64 t316))) ?hg ?ho ?hn ?hr ?_; (case ho => rfl); (case hg => rfl); (case hn => rfl); (case hr => first | (go_simp; done) | (go_simp; rfl)); intro w15 hw; have n0_ : Aside0 (w15.heap[gb311]? = some (.cells #[.int .i64 t308, .int .i64 t309] 62 (0, 0))) := ⟨(by rw [hw]; exact (by (with_reducible repeat (first | refine blk_drewN ?_ _ | refine blk_drew ?_ | refine blk_alloc ?_ _)); refine blk_far ?_ NB311_317.out _; (with_reducible repeat (first | refine blk_drewN ?_ _ | refine blk_drew ?_ | refine blk_alloc ?_ _)); refine blk_far ?_ NB311_317.out _; (with_reducible repeat (first | refine blk_drewN ?_ _ | refine blk_drew ?_ | refine blk_alloc ?_ _)); refine blk_far ?_ NB311_317.out _; (with_reducible repeat (first | refine blk_drewN ?_ _ | refine blk_drew ?_ | refine blk_alloc ?_ _)); refine blk_far ?_ NB311_317.out _; (with_reducible repeat (first | refine blk_drewN ?_ _ | refine blk_drew ?_ | refine blk_alloc ?_ _)); refine blk_far ?_ NB311_317.out _; (with_reducible repeat (first | refine blk_drewN ?_ _ | refine blk_drew ?_ | refine blk_alloc ?_ _)); exact BK311.out))⟩; have n1_ : Aside0 (w15.heap[gb317]? = some (.cells #[.bool t312, .bool true, .bool t314, .int .u64 t315, .int .i64 t316] 66 (0, 0))) := ⟨(by rw [hw]; exact (by (with_reducible repeat (first | refine blk_drewN ?_ _ | refine blk_drew ?_ | refine blk_alloc ?_ _)); refine blk_put (cs := #[.bool t312, .bool true, .bool t314, .int .u64 t315, .int .i64 0]) ?_ 4 _ rfl; (with_reducible repeat (first | refine blk_drewN ?_ _ | refine blk_drew ?_ | refine blk_alloc ?_ _)); refine blk_put (cs := #[.bool t312, .bool true, .bool t314, .int .u64 0, .int .i64 0]) ?_ 3 _ rfl; (with_reducible repeat (first | refine blk_drewN ?_ _ | refine blk_drew ?_ | refine blk_alloc ?_ _)); refine blk_put (cs := #[.bool t312, .bool true, .bool false, .int .u64 0, .int .i64 0]) ?_ 2 _ rfl; (with_reducible repeat (first | refine blk_drewN ?_ _ | refine blk_drew ?_ | refine blk_alloc ?_ _)); refine blk_put (cs := #[.bool t312, .bool false, .bool false, .int .u64 0, .int .i64 0]) ?_ 1 _ rfl; (with_reducible repeat (first | refine blk_drewN ?_ _ | refine blk_drew ?_ | refine blk_alloc ?_ _)); refine blk_put (cs := #[.bool false, .bool false, .bool false, .int .u64 0, .int .i64 0]) ?_ 0 _ rfl; (with_reducible repeat (first | refine blk_drewN ?_ _ | refine blk_drew ?_ | refine blk_alloc ?_ _)); exact BK317.out))⟩; have n2_ : Aside0 (Below w.heap.size w w15) := ⟨(by rw [hw]; exact (by repeat (first | (with_reducible first | exact HB.out | apply below_alloc | apply pw_below_drewN | apply below_drew1 | refine below_set ?_ GE311.out | refine below_set ?_ GE317.out) | exact HB.out)))⟩; clear hw; clear BK311; clear BK317; clear HB; have BK311 := n0_; have BK317 := n1_; have HB := n2_; clear n0_ n1_ n2_; have hcz16_0 : w15.cell? ⟨gb317, 0, none⟩ = some (.bool t312) := (blk_cell BK317.out 0).trans rfl; have hcz16_1 : w15.cell? ⟨gb317, 1, none⟩ = some (.bool true) := (blk_cell BK317.out 1).trans rfl; have hcz16_2 : w15.cell? ⟨gb317, 2, none⟩ = some (.bool t314) := (blk_cell BK317.out 2).trans rfl; have hcz16_3 : w15.cell? ⟨gb317, 3, none⟩ = some (.int .u64 t315) := (blk_cell BK317.out 3).trans rfl; have hcz16_4 : w15.cell? ⟨gb317, 4, none⟩ = some (.int .i64 t316) := (blk_cell BK317.out 4).trans rfl; have hfz16_0 := blk_frozen BK317.out 0; have hfz16_1 := blk_frozen BK317.out 1; have hfz16_2 := blk_frozen BK317.out 2; have hfz16_3 := blk_frozen BK317.out 3; have hfz16_4 := blk_frozen BK317.out 4; have hcz17_0 : w15.cell? ⟨gb311, 0, none⟩ = some (.int .i64 t308) := (blk_cell BK311.out 0).trans rfl; have hcz17_1 : w15.cell? ⟨gb311, 1, none⟩ = some (.int .i64 t309) := (blk_cell BK311.out 1).trans rfl; have hfz17_0 := blk_frozen BK311.out 0; have hfz17_1 := blk_frozen BK311.out 1) | ((with_reducible refine gate_callee (f := 53) rfl ?_); refine goesL_ (some 25) rfl rfl Try.func53 (by kernel_rfl) rfl #[.agg #[.int .i64 t308, .int .i64 t309]] rfl (by (try simp only [List.map_toArray, List.map_cons, List.map_nil]); first | done | rfl | (simp only [List.length_drop, List.length_take]; rfl)) ?_; (with_reducible refine (impl_format_noNumber.calls t308 t309 t318 _ A7.out).mono ?_); rintro e w18 ⟨rfl, hb⟩; refine ⟨_, rfl, ?_⟩; have n0_ := Aside0.mk (blk_below (g := gb311) (o := .cells #[.int .i64 t308, .int .i64 t309] 62 (0, 0)) (by (with_reducible repeat (first | refine blk_drewN ?_ _ | refine blk_drew ?_ | refine blk_alloc ?_ _)); exact BK311.out) hb); have n1_ := Aside0.mk (blk_below (g := gb317) (o := .cells #[.bool t312, .bool true, .bool t314, .int .u64 t315, .int .i64 t316] 66 (0, 0)) (by (with_reducible repeat (first | refine blk_drewN ?_ _ | refine blk_drew ?_ | refine blk_alloc ?_ _)); exact BK317.out) hb); have n2_ := Aside0.mk (below_step (by repeat (first | (with_reducible first | exact HB.out | apply below_alloc | apply pw_below_drewN | apply below_drew1 | refine below_set ?_ GE311.out | refine below_set ?_ GE317.out) | exact HB.out)) hb); clear BK311; clear BK317; clear HB; have BK311 := n0_; have BK317 := n1_; have HB := n2_; clear n0_ n1_ n2_; (try clear hb); (try clear hb2); (try clear hk); (try clear hi)))
   go_ret
   exact ⟨by first | rfl | (simp [errW_none, errW_some] <;> rfl) | (simp [*, errW_none, errW_some] <;> rfl), by repeat (first | (with_reducible first | exact HB.out | apply below_alloc | apply pw_below_drewN | apply below_drew1 | refine below_set ?_ GE311.out | refine below_set ?_ GE317.out) | exact HB.out)⟩
  ·
   replace c6 := Bool.eq_false_iff.mpr c6
   subst c6
   have H1 : (if t314 = true then (impl_FSqrt.j0 k false t308 t309 t312 false t314 t315 t316) else (impl_FSqrt.j0 k (t315 == 0) t308 t309 t312 false t314 t315 t316)) = some r := by rw [if_neg (show ¬ (false = true) by decide)] at H; exact H
   clear H
   have H := H1
   clear H1
   have HC19 := Aside0.mk H
   clear H
   go_enter Try.func23, Try.ntmps23
   go_upto_region 7 with (first | ((with_reducible refine gate_callee (f := 51) rfl ?_); refine goesL_ (some 13) rfl rfl Try.func51 (by kernel_rfl) rfl #[.int .i64 a0] rfl (by (try simp only [List.map_toArray, List.map_cons, List.map_nil]); first | done | rfl | (simp only [List.length_drop, List.length_take]; rfl)) ?_; (with_reducible refine (impl_formatOf.calls a0 t308 t309 true _ A3.out).mono ?_); rintro e w20 ⟨rfl, hb⟩; refine ⟨_, rfl, ?_⟩; have n0_ := Aside0.mk (below_step (by repeat (first | (with_reducible first | exact HB.out | apply below_alloc | apply pw_below_drewN | apply below_drew1) | exact HB.out)) hb); clear HB; have HB := n0_; clear n0_; (try clear hb); (try clear hb2); (try clear hk); (try clear hi)) | ((with_reducible refine gate_dst (N := 5) rfl ?_); refine box_event ?hg (N := 5) ?hd (cs := #[.int .i64 0, .int .i64 0]) (t := 62) ?hr ?_; (case hd => rfl); (case hg => rfl); (case hr => first | (go_simp; done) | (go_simp; rfl)); intro gb311 hg w21 hbox hb; have n0_ := Aside0.mk (below_step (by repeat (first | (with_reducible first | exact HB.out | apply below_alloc | apply pw_below_drewN | apply below_drew1) | exact HB.out)) hb); have n1_ := Aside0.mk (hbox); have n2_ := Aside0.mk ((by rw [hg]; exact (below_size (by repeat (first | (with_reducible first | exact HB.out | apply below_alloc | apply pw_below_drewN | apply below_drew1) | exact HB.out))) : w.heap.size ≤ gb311)); have n3_ := Aside0.mk ((by rw [hg]; exact (below_size (by repeat (first | (with_reducible first | exact HB.out | apply below_alloc | apply pw_below_drewN | apply below_drew1) | exact HB.out))) : w.heap.size ≤ gb311)); clear HB; have HB := n0_; have BK311 := n1_; have GW311 := n2_; have GE311 := n3_; clear n0_ n1_ n2_ n3_; clear hb hbox hg; have hcz22_0 : w21.cell? ⟨gb311, 0, none⟩ = some (.int .i64 0) := (blk_cell BK311.out 0).trans rfl; have hcz22_1 : w21.cell? ⟨gb311, 1, none⟩ = some (.int .i64 0) := (blk_cell BK311.out 1).trans rfl; have hfz22_0 := blk_frozen BK311.out 0; have hfz22_1 := blk_frozen BK311.out 1) | ((with_reducible refine gate_callee (f := 52) rfl ?_); refine goesL_ (some 20) rfl rfl Try.func52 (by kernel_rfl) rfl #[.agg #[.int .i64 t308, .int .i64 t309], .int .u32 a1] rfl (by (try simp only [List.map_toArray, List.map_cons, List.map_nil]); first | done | rfl | (simp only [List.length_drop, List.length_take]; rfl)) ?_; (with_reducible refine (impl_format_open.calls t308 t309 a1 t312 false t314 t315 t316 _ A5.out).mono ?_); rintro e w23 ⟨rfl, hb⟩; refine ⟨_, rfl, ?_⟩; have n0_ := Aside0.mk (blk_below (g := gb311) (o := .cells #[.int .i64 t308, .int .i64 t309] 62 (0, 0)) (by (with_reducible repeat (first | refine blk_drewN ?_ _ | refine blk_drew ?_ | refine blk_alloc ?_ _)); refine blk_put (cs := #[.int .i64 t308, .int .i64 0]) ?_ 1 _ rfl; (with_reducible repeat (first | refine blk_drewN ?_ _ | refine blk_drew ?_ | refine blk_alloc ?_ _)); refine blk_put (cs := #[.int .i64 0, .int .i64 0]) ?_ 0 _ rfl; (with_reducible repeat (first | refine blk_drewN ?_ _ | refine blk_drew ?_ | refine blk_alloc ?_ _)); exact BK311.out) hb); have n1_ := Aside0.mk (below_step (by repeat (first | (with_reducible first | exact HB.out | apply below_alloc | apply pw_below_drewN | apply below_drew1 | refine below_set ?_ GE311.out) | exact HB.out)) hb); clear BK311; clear HB; have BK311 := n0_; have HB := n1_; clear n0_ n1_; (try clear hb); (try clear hb2); (try clear hk); (try clear hi)) | ((with_reducible refine gate_dst (N := 7) rfl ?_); refine box_event ?hg (N := 7) ?hd (cs := #[.bool false, .bool false, .bool false, .int .u64 0, .int .i64 0]) (t := 66) ?hr ?_; (case hd => rfl); (case hg => rfl); (case hr => first | (go_simp; done) | (go_simp; rfl)); intro gb317 hg w24 hbox hb; have n0_ := Aside0.mk (blk_below (g := gb311) (o := .cells #[.int .i64 t308, .int .i64 t309] 62 (0, 0)) (by (with_reducible repeat (first | refine blk_drewN ?_ _ | refine blk_drew ?_ | refine blk_alloc ?_ _)); exact BK311.out) hb); have n1_ := Aside0.mk (below_step (by repeat (first | (with_reducible first | exact HB.out | apply below_alloc | apply pw_below_drewN | apply below_drew1 | refine below_set ?_ GE311.out) | exact HB.out)) hb); have n2_ := Aside0.mk (hbox); have n3_ := Aside0.mk ((by rw [hg]; exact (below_size (by repeat (first | (with_reducible first | exact HB.out | apply below_alloc | apply pw_below_drewN | apply below_drew1 | refine below_set ?_ GE311.out) | exact HB.out))) : w.heap.size ≤ gb317)); have n4_ := Aside0.mk ((by rw [hg]; exact (below_size (by repeat (first | (with_reducible first | exact HB.out | apply below_alloc | apply pw_below_drewN | apply below_drew1 | refine below_set ?_ GE311.out) | exact HB.out))) : w.heap.size ≤ gb317)); have n5_ := Aside0.mk ((by rw [hg]; exact Nat.ne_of_lt (blk_lt (g := gb311) (o := .cells #[.int .i64 t308, .int .i64 t309] 62 (0, 0)) (by (with_reducible repeat (first | refine blk_drewN ?_ _ | refine blk_drew ?_ | refine blk_alloc ?_ _)); exact BK311.out)) : gb311 ≠ gb317)); have n6_ := Aside0.mk ((by rw [hg]; exact Nat.ne_of_gt (blk_lt (g := gb311) (o := .cells #[.int .i64 t308, .int .i64 t309] 62 (0, 0)) (by (with_reducible repeat (first | refine blk_drewN ?_ _ | refine blk_drew ?_ | refine blk_alloc ?_ _)); exact BK311.out)) : gb317 ≠ gb311)); clear BK311; clear HB; have BK311 := n0_; have HB := n1_; have BK317 := n2_; have GW317 := n3_; have GE317 := n4_; have NB311_317 := n5_; have NB317_311 := n6_; clear n0_ n1_ n2_ n3_ n4_ n5_ n6_; clear hb hbox hg; have hnb25 := NB317_311.out; have hnc25 := NB311_317.out; have hcz26_0 : w24.cell? ⟨gb317, 0, none⟩ = some (.bool false) := (blk_cell BK317.out 0).trans rfl; have hcz26_1 : w24.cell? ⟨gb317, 1, none⟩ = some (.bool false) := (blk_cell BK317.out 1).trans rfl; have hcz26_2 : w24.cell? ⟨gb317, 2, none⟩ = some (.bool false) := (blk_cell BK317.out 2).trans rfl; have hcz26_3 : w24.cell? ⟨gb317, 3, none⟩ = some (.int .u64 0) := (blk_cell BK317.out 3).trans rfl; have hcz26_4 : w24.cell? ⟨gb317, 4, none⟩ = some (.int .i64 0) := (blk_cell BK317.out 4).trans rfl; have hfz26_0 := blk_frozen BK317.out 0; have hfz26_1 := blk_frozen BK317.out 1; have hfz26_2 := blk_frozen BK317.out 2; have hfz26_3 := blk_frozen BK317.out 3; have hfz26_4 := blk_frozen BK317.out 4) | ((with_reducible refine gate_store (t := 66) (p := 7) rfl ?_); refine store_event (t := 66) (p := 7) (v := ?vo_w27) (w1 := (((((w24.setCell ⟨gb317, 0, none⟩ (.bool t312)).setCell ⟨gb317, 1, none⟩ (.bool false)).setCell ⟨gb317, 2, none⟩ (.bool t314)).setCell ⟨gb317, 3, none⟩ (.int .u64 t315)).setCell ⟨gb317, 4, none⟩ (.int .i64 t316))) ?hg ?ho ?hn ?hr ?_; (case ho => rfl); (case hg => rfl); (case hn => rfl); (case hr => first | (go_simp; done) | (go_simp; rfl)); intro w27 hw; have n0_ : Aside0 (w27.heap[gb311]? = some (.cells #[.int .i64 t308, .int .i64 t309] 62 (0, 0))) := ⟨(by rw [hw]; exact (by (with_reducible repeat (first | refine blk_drewN ?_ _ | refine blk_drew ?_ | refine blk_alloc ?_ _)); refine blk_far ?_ NB311_317.out _; (with_reducible repeat (first | refine blk_drewN ?_ _ | refine blk_drew ?_ | refine blk_alloc ?_ _)); refine blk_far ?_ NB311_317.out _; (with_reducible repeat (first | refine blk_drewN ?_ _ | refine blk_drew ?_ | refine blk_alloc ?_ _)); refine blk_far ?_ NB311_317.out _; (with_reducible repeat (first | refine blk_drewN ?_ _ | refine blk_drew ?_ | refine blk_alloc ?_ _)); refine blk_far ?_ NB311_317.out _; (with_reducible repeat (first | refine blk_drewN ?_ _ | refine blk_drew ?_ | refine blk_alloc ?_ _)); refine blk_far ?_ NB311_317.out _; (with_reducible repeat (first | refine blk_drewN ?_ _ | refine blk_drew ?_ | refine blk_alloc ?_ _)); exact BK311.out))⟩; have n1_ : Aside0 (w27.heap[gb317]? = some (.cells #[.bool t312, .bool false, .bool t314, .int .u64 t315, .int .i64 t316] 66 (0, 0))) := ⟨(by rw [hw]; exact (by (with_reducible repeat (first | refine blk_drewN ?_ _ | refine blk_drew ?_ | refine blk_alloc ?_ _)); refine blk_put (cs := #[.bool t312, .bool false, .bool t314, .int .u64 t315, .int .i64 0]) ?_ 4 _ rfl; (with_reducible repeat (first | refine blk_drewN ?_ _ | refine blk_drew ?_ | refine blk_alloc ?_ _)); refine blk_put (cs := #[.bool t312, .bool false, .bool t314, .int .u64 0, .int .i64 0]) ?_ 3 _ rfl; (with_reducible repeat (first | refine blk_drewN ?_ _ | refine blk_drew ?_ | refine blk_alloc ?_ _)); refine blk_put (cs := #[.bool t312, .bool false, .bool false, .int .u64 0, .int .i64 0]) ?_ 2 _ rfl; (with_reducible repeat (first | refine blk_drewN ?_ _ | refine blk_drew ?_ | refine blk_alloc ?_ _)); refine blk_put (cs := #[.bool t312, .bool false, .bool false, .int .u64 0, .int .i64 0]) ?_ 1 _ rfl; (with_reducible repeat (first | refine blk_drewN ?_ _ | refine blk_drew ?_ | refine blk_alloc ?_ _)); refine blk_put (cs := #[.bool false, .bool false, .bool false, .int .u64 0, .int .i64 0]) ?_ 0 _ rfl; (with_reducible repeat (first | refine blk_drewN ?_ _ | refine blk_drew ?_ | refine blk_alloc ?_ _)); exact BK317.out))⟩; have n2_ : Aside0 (Below w.heap.size w w27) := ⟨(by rw [hw]; exact (by repeat (first | (with_reducible first | exact HB.out | apply below_alloc | apply pw_below_drewN | apply below_drew1 | refine below_set ?_ GE311.out | refine below_set ?_ GE317.out) | exact HB.out)))⟩; clear hw; clear BK311; clear BK317; clear HB; have BK311 := n0_; have BK317 := n1_; have HB := n2_; clear n0_ n1_ n2_; have hcz28_0 : w27.cell? ⟨gb317, 0, none⟩ = some (.bool t312) := (blk_cell BK317.out 0).trans rfl; have hcz28_1 : w27.cell? ⟨gb317, 1, none⟩ = some (.bool false) := (blk_cell BK317.out 1).trans rfl; have hcz28_2 : w27.cell? ⟨gb317, 2, none⟩ = some (.bool t314) := (blk_cell BK317.out 2).trans rfl; have hcz28_3 : w27.cell? ⟨gb317, 3, none⟩ = some (.int .u64 t315) := (blk_cell BK317.out 3).trans rfl; have hcz28_4 : w27.cell? ⟨gb317, 4, none⟩ = some (.int .i64 t316) := (blk_cell BK317.out 4).trans rfl; have hfz28_0 := blk_frozen BK317.out 0; have hfz28_1 := blk_frozen BK317.out 1; have hfz28_2 := blk_frozen BK317.out 2; have hfz28_3 := blk_frozen BK317.out 3; have hfz28_4 := blk_frozen BK317.out 4))
   (try simp only [Act.put, List.setIfInBounds_toArray, List.set_cons_zero, List.set_cons_succ])
   go_cut [26] (fun v26 wc => ∃ (kq : Nat) (x26_18 : Bool), v26 = .bool x26_18 ∧ Aside0 (impl_FSqrt.j0 kq x26_18 t308 t309 t312 false t314 t315 t316 = some r) ∧ Aside0 (kq ≤ k) ∧ Aside0 (wc.heap[gb311]? = some (.cells #[.int .i64 t308, .int .i64 t309] 62 (0, 0))) ∧ Aside0 (wc.heap[gb317]? = some (.cells #[.bool t312, .bool false, .bool t314, .int .u64 t315, .int .i64 t316] 66 (0, 0))) ∧ Aside0 (Below w.heap.size w wc))
   case first =>
    have H := HC19.out
    clear HC19
    by_cases c29 : t314 = true
    ·
     subst c29
     have H1 : (impl_FSqrt.j0 k false t308 t309 t312 false true t315 t316) = some r := by rw [if_pos rfl] at H; exact H
     clear H
     have H := H1
     clear H1
     have H' := Aside0.mk H
     clear H
     have hnb30 := NB317_311.out
     have hnc30 := NB311_317.out
     have hcz31_0 : w27.cell? ⟨gb317, 0, none⟩ = some (.bool t312) := (blk_cell BK317.out 0).trans rfl
     have hcz31_1 : w27.cell? ⟨gb317, 1, none⟩ = some (.bool false) := (blk_cell BK317.out 1).trans rfl
     have hcz31_2 : w27.cell? ⟨gb317, 2, none⟩ = some (.bool true) := (blk_cell BK317.out 2).trans rfl
     have hcz31_3 : w27.cell? ⟨gb317, 3, none⟩ = some (.int .u64 t315) := (blk_cell BK317.out 3).trans rfl
     have hcz31_4 : w27.cell? ⟨gb317, 4, none⟩ = some (.int .i64 t316) := (blk_cell BK317.out 4).trans rfl
     have hfz31_0 := blk_frozen BK317.out 0
     have hfz31_1 := blk_frozen BK317.out 1
     have hfz31_2 := blk_frozen BK317.out 2
     have hfz31_3 := blk_frozen BK317.out 3
     have hfz31_4 := blk_frozen BK317.out 4
     go_wp2
     go_meet
     case rel => exact ⟨_, (false), (by first | rfl | (simp; done) | (simp [*]; done)), H', ⟨by first | omega | exact Nat.le_refl _⟩, ⟨by (with_reducible repeat (first | refine blk_drewN ?_ _ | refine blk_drew ?_ | refine blk_alloc ?_ _)); exact BK311.out⟩, ⟨by (with_reducible repeat (first | refine blk_drewN ?_ _ | refine blk_drew ?_ | refine blk_alloc ?_ _)); exact BK317.out⟩, ⟨by repeat (first | (with_reducible first | exact HB.out | apply below_alloc | apply pw_below_drewN | apply below_drew1 | refine below_set ?_ GE311.out | refine below_set ?_ GE317.out) | exact HB.out)⟩⟩
    ·
     replace c29 := Bool.eq_false_iff.mpr c29
     subst c29
     have H1 : (impl_FSqrt.j0 k (t315 == 0) t308 t309 t312 false false t315 t316) = some r := by rw [if_neg (show ¬ (false = true) by decide)] at H; exact H
     clear H
     have H := H1
     clear H1
     have H' := Aside0.mk H
     clear H
     have hnb32 := NB317_311.out
     have hnc32 := NB311_317.out
     have hcz33_0 : w27.cell? ⟨gb317, 0, none⟩ = some (.bool t312) := (blk_cell BK317.out 0).trans rfl
     have hcz33_1 : w27.cell? ⟨gb317, 1, none⟩ = some (.bool false) := (blk_cell BK317.out 1).trans rfl
     have hcz33_2 : w27.cell? ⟨gb317, 2, none⟩ = some (.bool false) := (blk_cell BK317.out 2).trans rfl
     have hcz33_3 : w27.cell? ⟨gb317, 3, none⟩ = some (.int .u64 t315) := (blk_cell BK317.out 3).trans rfl
     have hcz33_4 : w27.cell? ⟨gb317, 4, none⟩ = some (.int .i64 t316) := (blk_cell BK317.out 4).trans rfl
     have hfz33_0 := blk_frozen BK317.out 0
     have hfz33_1 := blk_frozen BK317.out 1
     have hfz33_2 := blk_frozen BK317.out 2
     have hfz33_3 := blk_frozen BK317.out 3
     have hfz33_4 := blk_frozen BK317.out 4
     go_wp2
     go_meet
     case rel => exact ⟨_, ((t315 == 0)), (by first | rfl | (simp; done) | (simp [*]; done)), H', ⟨by first | omega | exact Nat.le_refl _⟩, ⟨by (with_reducible repeat (first | refine blk_drewN ?_ _ | refine blk_drew ?_ | refine blk_alloc ?_ _)); exact BK311.out⟩, ⟨by (with_reducible repeat (first | refine blk_drewN ?_ _ | refine blk_drew ?_ | refine blk_alloc ?_ _)); exact BK317.out⟩, ⟨by repeat (first | (with_reducible first | exact HB.out | apply below_alloc | apply pw_below_drewN | apply below_drew1 | refine below_set ?_ GE311.out | refine below_set ?_ GE317.out) | exact HB.out)⟩⟩
   case rest =>
    clear HC19
    try clear c1
    try clear c2
    try clear p2
    try clear c3
    try clear c4
    try clear c5
    try clear c6
    try clear c13
    try clear c23
    try clear c25
    try clear c29
    try clear c30
    try clear c32
    try clear hcz10_0 hcz10_1
    try clear hcz14_0 hcz14_1 hcz14_2 hcz14_3 hcz14_4
    try clear hcz16_0 hcz16_1 hcz16_2 hcz16_3 hcz16_4
    try clear hcz17_0 hcz17_1
    try clear hcz22_0 hcz22_1
    try clear hcz26_0 hcz26_1 hcz26_2 hcz26_3 hcz26_4
    try clear hcz28_0 hcz28_1 hcz28_2 hcz28_3 hcz28_4
    try clear hcz31_0 hcz31_1 hcz31_2 hcz31_3 hcz31_4
    try clear hcz33_0 hcz33_1 hcz33_2 hcz33_3 hcz33_4
    try clear hfz10_0 hfz10_1
    try clear hfz14_0 hfz14_1 hfz14_2 hfz14_3 hfz14_4
    try clear hfz16_0 hfz16_1 hfz16_2 hfz16_3 hfz16_4
    try clear hfz17_0 hfz17_1
    try clear hfz22_0 hfz22_1
    try clear hfz26_0 hfz26_1 hfz26_2 hfz26_3 hfz26_4
    try clear hfz28_0 hfz28_1 hfz28_2 hfz28_3 hfz28_4
    try clear hfz31_0 hfz31_1 hfz31_2 hfz31_3 hfz31_4
    try clear hfz33_0 hfz33_1 hfz33_2 hfz33_3 hfz33_4
    obtain ⟨kq, x26_18, rfl, HA, HJ18, BK311, BK317, HB⟩ := hcut
    cases kq with
    | zero => exact absurd HA.out (by simp [impl_FSqrt.j0])
    | succ kj18 =>
     have H := HA.out
     clear HA
     simp only [impl_FSqrt.j0] at H
     by_cases c34 : x26_18 = true
     ·
      subst c34
      have H1 : ((impl_format_signed.f t308 t309 t312 0).bind fun t319 => (some t319)) = some r := by rw [if_pos rfl] at H; exact H
      clear H
      have H := H1
      clear H1
      replace H := Option.bind_eq_some_iff.mp H
      obtain ⟨t319, A350, H⟩ := H
      replace H : (some t319) = some r := H
      have A35 := Aside0.mk A350
      clear A350
      obtain rfl := Option.some.inj H
      simp only [Option.some.injEq, Prod.mk.injEq] at H
      obtain ⟨rfl⟩ := H
      have hnb36 := NB311_317.out
      have hnc36 := NB317_311.out
      have hcz37_0 : wc.cell? ⟨gb311, 0, none⟩ = some (.int .i64 t308) := (blk_cell BK311.out 0).trans rfl
      have hcz37_1 : wc.cell? ⟨gb311, 1, none⟩ = some (.int .i64 t309) := (blk_cell BK311.out 1).trans rfl
      have hfz37_0 := blk_frozen BK311.out 0
      have hfz37_1 := blk_frozen BK311.out 1
      have hcz38_0 : wc.cell? ⟨gb317, 0, none⟩ = some (.bool t312) := (blk_cell BK317.out 0).trans rfl
      have hcz38_1 : wc.cell? ⟨gb317, 1, none⟩ = some (.bool false) := (blk_cell BK317.out 1).trans rfl
      have hcz38_2 : wc.cell? ⟨gb317, 2, none⟩ = some (.bool t314) := (blk_cell BK317.out 2).trans rfl
      have hcz38_3 : wc.cell? ⟨gb317, 3, none⟩ = some (.int .u64 t315) := (blk_cell BK317.out 3).trans rfl
      have hcz38_4 : wc.cell? ⟨gb317, 4, none⟩ = some (.int .i64 t316) := (blk_cell BK317.out 4).trans rfl
      have hfz38_0 := blk_frozen BK317.out 0
      have hfz38_1 := blk_frozen BK317.out 1
      have hfz38_2 := blk_frozen BK317.out 2
      have hfz38_3 := blk_frozen BK317.out 3
      have hfz38_4 := blk_frozen BK317.out 4
      go_wp2_with (first | ((with_reducible refine gate_callee (f := 58) rfl ?_); refine goesL_ (some 38) rfl rfl Try.func58 (by kernel_rfl) rfl #[.agg #[.int .i64 t308, .int .i64 t309], .bool t312, .int .u32 0] rfl (by (try simp only [List.map_toArray, List.map_cons, List.map_nil]); first | done | rfl | (simp only [List.length_drop, List.length_take]; rfl)) ?_; (with_reducible refine (impl_format_signed.calls t308 t309 t312 0 t319 _ A35.out).mono ?_); rintro e w39 ⟨rfl, hb⟩; refine ⟨_, rfl, ?_⟩; have n0_ := Aside0.mk (blk_below (g := gb311) (o := .cells #[.int .i64 t308, .int .i64 t309] 62 (0, 0)) (by (with_reducible repeat (first | refine blk_drewN ?_ _ | refine blk_drew ?_ | refine blk_alloc ?_ _)); exact BK311.out) hb); have n1_ := Aside0.mk (blk_below (g := gb317) (o := .cells #[.bool t312, .bool false, .bool t314, .int .u64 t315, .int .i64 t316] 66 (0, 0)) (by (with_reducible repeat (first | refine blk_drewN ?_ _ | refine blk_drew ?_ | refine blk_alloc ?_ _)); exact BK317.out) hb); have n2_ := Aside0.mk (below_step (by repeat (first | (with_reducible first | exact HB.out | apply below_alloc | apply pw_below_drewN | apply below_drew1 | refine below_set ?_ GE311.out | refine below_set ?_ GE317.out) | exact HB.out)) hb); clear BK311; clear BK317; clear HB; have BK311 := n0_; have BK317 := n1_; have HB := n2_; clear n0_ n1_ n2_; (try clear hb); (try clear hb2); (try clear hk); (try clear hi)))
      go_ret
      exact ⟨by first | rfl | (simp [errW_none, errW_some] <;> rfl) | (simp [*, errW_none, errW_some] <;> rfl), by repeat (first | (with_reducible first | exact HB.out | apply below_alloc | apply pw_below_drewN | apply below_drew1 | refine below_set ?_ GE311.out | refine below_set ?_ GE317.out) | exact HB.out)⟩
     ·
      replace c34 := Bool.eq_false_iff.mpr c34
      subst c34
      have H1 : (if t312 = true then ((impl_format_noNumber.f t308 t309).bind fun t320 => (some t320)) else (if t314 = true then ((impl_format_infinite.f t308 t309 false).bind fun t321 => (some t321)) else ((bits_Len64.f t315).bind fun t322 => (if (Int.tmod (wrap64 (t316 - (wrap64 (60 - t322)))) 2) = 0 then (if 0 ≤ (wrap64 (60 - t322)) then ((impl_root.f kj18 (shl .u64 t315 (wrap64 (60 - t322)))).bind fun t323 => ((impl_format_round.f kj18 t308 t309 false t323 (wrap64 (Int.tdiv (wrap64 (t316 - (wrap64 (60 - t322)))) 2)) ((IntKind.u64.wrap (t323 * t323)) != (shl .u64 t315 (wrap64 (60 - t322))))).bind fun t324 => (some t324))) else (none)) else (if 0 ≤ (wrap64 ((wrap64 (60 - t322)) - 1)) then ((impl_root.f kj18 (shl .u64 t315 (wrap64 ((wrap64 (60 - t322)) - 1)))).bind fun t325 => ((impl_format_round.f kj18 t308 t309 false t325 (wrap64 (Int.tdiv (wrap64 (t316 - (wrap64 ((wrap64 (60 - t322)) - 1)))) 2)) ((IntKind.u64.wrap (t325 * t325)) != (shl .u64 t315 (wrap64 ((wrap64 (60 - t322)) - 1))))).bind fun t326 => (some t326))) else (none)))))) = some r := by rw [if_neg (show ¬ (false = true) by decide)] at H; exact H
      clear H
      have H := H1
      clear H1
      by_cases c40 : t312 = true
      ·
       subst c40
       have H1 : ((impl_format_noNumber.f t308 t309).bind fun t320 => (some t320)) = some r := by rw [if_pos rfl] at H; exact H
       clear H
       have H := H1
       clear H1
       replace H := Option.bind_eq_some_iff.mp H
       obtain ⟨t320, A410, H⟩ := H
       replace H : (some t320) = some r := H
       have A41 := Aside0.mk A410
       clear A410
       obtain rfl := Option.some.inj H
       simp only [Option.some.injEq, Prod.mk.injEq] at H
       obtain ⟨rfl⟩ := H
       have hnb42 := NB317_311.out
       have hnc42 := NB311_317.out
       have hcz43_0 : wc.cell? ⟨gb317, 0, none⟩ = some (.bool true) := (blk_cell BK317.out 0).trans rfl
       have hcz43_1 : wc.cell? ⟨gb317, 1, none⟩ = some (.bool false) := (blk_cell BK317.out 1).trans rfl
       have hcz43_2 : wc.cell? ⟨gb317, 2, none⟩ = some (.bool t314) := (blk_cell BK317.out 2).trans rfl
       have hcz43_3 : wc.cell? ⟨gb317, 3, none⟩ = some (.int .u64 t315) := (blk_cell BK317.out 3).trans rfl
       have hcz43_4 : wc.cell? ⟨gb317, 4, none⟩ = some (.int .i64 t316) := (blk_cell BK317.out 4).trans rfl
       have hfz43_0 := blk_frozen BK317.out 0
       have hfz43_1 := blk_frozen BK317.out 1
       have hfz43_2 := blk_frozen BK317.out 2
       have hfz43_3 := blk_frozen BK317.out 3
       have hfz43_4 := blk_frozen BK317.out 4
       have hcz44_0 : wc.cell? ⟨gb311, 0, none⟩ = some (.int .i64 t308) := (blk_cell BK311.out 0).trans rfl
       have hcz44_1 : wc.cell? ⟨gb311, 1, none⟩ = some (.int .i64 t309) := (blk_cell BK311.out 1).trans rfl
       have hfz44_0 := blk_frozen BK311.out 0
       have hfz44_1 := blk_frozen BK311.out 1
       go_wp2_with (first | ((with_reducible refine gate_callee (f := 53) rfl ?_); refine goesL_ (some 43) rfl rfl Try.func53 (by kernel_rfl) rfl #[.agg #[.int .i64 t308, .int .i64 t309]] rfl (by (try simp only [List.map_toArray, List.map_cons, List.map_nil]); first | done | rfl | (simp only [List.length_drop, List.length_take]; rfl)) ?_; (with_reducible refine (impl_format_noNumber.calls t308 t309 t320 _ A41.out).mono ?_); rintro e w45 ⟨rfl, hb⟩; refine ⟨_, rfl, ?_⟩; have n0_ := Aside0.mk (blk_below (g := gb311) (o := .cells #[.int .i64 t308, .int .i64 t309] 62 (0, 0)) (by (with_reducible repeat (first | refine blk_drewN ?_ _ | refine blk_drew ?_ | refine blk_alloc ?_ _)); exact BK311.out) hb); have n1_ := Aside0.mk (blk_below (g := gb317) (o := .cells #[.bool true, .bool false, .bool t314, .int .u64 t315, .int .i64 t316] 66 (0, 0)) (by (with_reducible repeat (first | refine blk_drewN ?_ _ | refine blk_drew ?_ | refine blk_alloc ?_ _)); exact BK317.out) hb); have n2_ := Aside0.mk (below_step (by repeat (first | (with_reducible first | exact HB.out | apply below_alloc | apply pw_below_drewN | apply below_drew1 | refine below_set ?_ GE311.out | refine below_set ?_ GE317.out) | exact HB.out)) hb); clear BK311; clear BK317; clear HB; have BK311 := n0_; have BK317 := n1_; have HB := n2_; clear n0_ n1_ n2_; (try clear hb); (try clear hb2); (try clear hk); (try clear hi)))
       go_ret
       exact ⟨by first | rfl | (simp [errW_none, errW_some] <;> rfl) | (simp [*, errW_none, errW_some] <;> rfl), by repeat (first | (with_reducible first | exact HB.out | apply below_alloc | apply pw_below_drewN | apply below_drew1 | refine below_set ?_ GE311.out | refine below_set ?_ GE317.out) | exact HB.out)⟩
      ·
       replace c40 := Bool.eq_false_iff.mpr c40
       subst c40
       have H1 : (if t314 = true then ((impl_format_infinite.f t308 t309 false).bind fun t321 => (some t321)) else ((bits_Len64.f t315).bind fun t322 => (if (Int.tmod (wrap64 (t316 - (wrap64 (60 - t322)))) 2) = 0 then (if 0 ≤ (wrap64 (60 - t322)) then ((impl_root.f kj18 (shl .u64 t315 (wrap64 (60 - t322)))).bind fun t323 => ((impl_format_round.f kj18 t308 t309 false t323 (wrap64 (Int.tdiv (wrap64 (t316 - (wrap64 (60 - t322)))) 2)) ((IntKind.u64.wrap (t323 * t323)) != (shl .u64 t315 (wrap64 (60 - t322))))).bind fun t324 => (some t324))) else (none)) else (if 0 ≤ (wrap64 ((wrap64 (60 - t322)) - 1)) then ((impl_root.f kj18 (shl .u64 t315 (wrap64 ((wrap64 (60 - t322)) - 1)))).bind fun t325 => ((impl_format_round.f kj18 t308 t309 false t325 (wrap64 (Int.tdiv (wrap64 (t316 - (wrap64 ((wrap64 (60 - t322)) - 1)))) 2)) ((IntKind.u64.wrap (t325 * t325)) != (shl .u64 t315 (wrap64 ((wrap64 (60 - t322)) - 1))))).bind fun t326 => (some t326))) else (none))))) = some r := by rw [if_neg (show ¬ (false = true) by decide)] at H; exact H
       clear H
       have H := H1
       clear H1
       by_cases c46 : t314 = true
       ·
        subst c46
        have H1 : ((impl_format_infinite.f t308 t309 false).bind fun t321 => (some t321)) = some r := by rw [if_pos rfl] at H; exact H
        clear H
        have H := H1
        clear H1
        replace H := Option.bind_eq_some_iff.mp H
        obtain ⟨t321, A470, H⟩ := H
        replace H : (some t321) = some r := H
        have A47 := Aside0.mk A470
        clear A470
        obtain rfl := Option.some.inj H
        simp only [Option.some.injEq, Prod.mk.injEq] at H
        obtain ⟨rfl⟩ := H
        have hnb48 := NB317_311.out
        have hnc48 := NB311_317.out
        have hcz49_0 : wc.cell? ⟨gb317, 0, none⟩ = some (.bool false) := (blk_cell BK317.out 0).trans rfl
        have hcz49_1 : wc.cell? ⟨gb317, 1, none⟩ = some (.bool false) := (blk_cell BK317.out 1).trans rfl
        have hcz49_2 : wc.cell? ⟨gb317, 2, none⟩ = some (.bool true) := (blk_cell BK317.out 2).trans rfl
        have hcz49_3 : wc.cell? ⟨gb317, 3, none⟩ = some (.int .u64 t315) := (blk_cell BK317.out 3).trans rfl
        have hcz49_4 : wc.cell? ⟨gb317, 4, none⟩ = some (.int .i64 t316) := (blk_cell BK317.out 4).trans rfl
        have hfz49_0 := blk_frozen BK317.out 0
        have hfz49_1 := blk_frozen BK317.out 1
        have hfz49_2 := blk_frozen BK317.out 2
        have hfz49_3 := blk_frozen BK317.out 3
        have hfz49_4 := blk_frozen BK317.out 4
        have hcz50_0 : wc.cell? ⟨gb311, 0, none⟩ = some (.int .i64 t308) := (blk_cell BK311.out 0).trans rfl
        have hcz50_1 : wc.cell? ⟨gb311, 1, none⟩ = some (.int .i64 t309) := (blk_cell BK311.out 1).trans rfl
        have hfz50_0 := blk_frozen BK311.out 0
        have hfz50_1 := blk_frozen BK311.out 1
        go_wp2_with (first | ((with_reducible refine gate_callee (f := 54) rfl ?_); refine goesL_ (some 48) rfl rfl Try.func54 (by kernel_rfl) rfl #[.agg #[.int .i64 t308, .int .i64 t309], .bool false] rfl (by (try simp only [List.map_toArray, List.map_cons, List.map_nil]); first | done | rfl | (simp only [List.length_drop, List.length_take]; rfl)) ?_; (with_reducible refine (impl_format_infinite.calls t308 t309 false t321 _ A47.out).mono ?_); rintro e w51 ⟨rfl, hb⟩; refine ⟨_, rfl, ?_⟩; have n0_ := Aside0.mk (blk_below (g := gb311) (o := .cells #[.int .i64 t308, .int .i64 t309] 62 (0, 0)) (by (with_reducible repeat (first | refine blk_drewN ?_ _ | refine blk_drew ?_ | refine blk_alloc ?_ _)); exact BK311.out) hb); have n1_ := Aside0.mk (blk_below (g := gb317) (o := .cells #[.bool false, .bool false, .bool true, .int .u64 t315, .int .i64 t316] 66 (0, 0)) (by (with_reducible repeat (first | refine blk_drewN ?_ _ | refine blk_drew ?_ | refine blk_alloc ?_ _)); exact BK317.out) hb); have n2_ := Aside0.mk (below_step (by repeat (first | (with_reducible first | exact HB.out | apply below_alloc | apply pw_below_drewN | apply below_drew1 | refine below_set ?_ GE311.out | refine below_set ?_ GE317.out) | exact HB.out)) hb); clear BK311; clear BK317; clear HB; have BK311 := n0_; have BK317 := n1_; have HB := n2_; clear n0_ n1_ n2_; (try clear hb); (try clear hb2); (try clear hk); (try clear hi)))
        go_ret
        exact ⟨by first | rfl | (simp [errW_none, errW_some] <;> rfl) | (simp [*, errW_none, errW_some] <;> rfl), by repeat (first | (with_reducible first | exact HB.out | apply below_alloc | apply pw_below_drewN | apply below_drew1 | refine below_set ?_ GE311.out | refine below_set ?_ GE317.out) | exact HB.out)⟩
       ·
        replace c46 := Bool.eq_false_iff.mpr c46
        subst c46
        have H1 : ((bits_Len64.f t315).bind fun t322 => (if (Int.tmod (wrap64 (t316 - (wrap64 (60 - t322)))) 2) = 0 then (if 0 ≤ (wrap64 (60 - t322)) then ((impl_root.f kj18 (shl .u64 t315 (wrap64 (60 - t322)))).bind fun t323 => ((impl_format_round.f kj18 t308 t309 false t323 (wrap64 (Int.tdiv (wrap64 (t316 - (wrap64 (60 - t322)))) 2)) ((IntKind.u64.wrap (t323 * t323)) != (shl .u64 t315 (wrap64 (60 - t322))))).bind fun t324 => (some t324))) else (none)) else (if 0 ≤ (wrap64 ((wrap64 (60 - t322)) - 1)) then ((impl_root.f kj18 (shl .u64 t315 (wrap64 ((wrap64 (60 - t322)) - 1)))).bind fun t325 => ((impl_format_round.f kj18 t308 t309 false t325 (wrap64 (Int.tdiv (wrap64 (t316 - (wrap64 ((wrap64 (60 - t322)) - 1)))) 2)) ((IntKind.u64.wrap (t325 * t325)) != (shl .u64 t315 (wrap64 ((wrap64 (60 - t322)) - 1))))).bind fun t326 => (some t326))) else (none)))) = some r := by rw [if_neg (show ¬ (false = true) by decide)] at H; exact H
        clear H
        have H := H1
        clear H1
        replace H := Option.bind_eq_some_iff.mp H
        obtain ⟨t322, A520, H⟩ := H
        replace H : (if (Int.tmod (wrap64 (t316 - (wrap64 (60 - t322)))) 2) = 0 then (if 0 ≤ (wrap64 (60 - t322)) then ((impl_root.f kj18 (shl .u64 t315 (wrap64 (60 - t322)))).bind fun t323 => ((impl_format_round.f kj18 t308 t309 false t323 (wrap64 (Int.tdiv (wrap64 (t316 - (wrap64 (60 - t322)))) 2)) ((IntKind.u64.wrap (t323 * t323)) != (shl .u64 t315 (wrap64 (60 - t322))))).bind fun t324 => (some t324))) else (none)) else (if 0 ≤ (wrap64 ((wrap64 (60 - t322)) - 1)) then ((impl_root.f kj18 (shl .u64 t315 (wrap64 ((wrap64 (60 - t322)) - 1)))).bind fun t325 => ((impl_format_round.f kj18 t308 t309 false t325 (wrap64 (Int.tdiv (wrap64 (t316 - (wrap64 ((wrap64 (60 - t322)) - 1)))) 2)) ((IntKind.u64.wrap (t325 * t325)) != (shl .u64 t315 (wrap64 ((wrap64 (60 - t322)) - 1))))).bind fun t326 => (some t326))) else (none))) = some r := H
        have A52 := Aside0.mk A520
        clear A520
        by_cases c53 : (Int.tmod (wrap64 (t316 - (wrap64 (60 - t322)))) 2) = 0
        ·
         rw [if_pos c53] at H
         have c53b0 : ((Int.tmod (wrap64 (t316 - (wrap64 (60 - t322)))) 2) == 0) = true := beq_iff_eq.mpr c53
         have c53b1 : ((Int.tmod (wrap64 (t316 - (wrap64 (60 - t322)))) 2) != 0) = false := bne_eq_false_iff_eq.mpr c53
         clear c53
         obtain ⟨ji54, hji54⟩ : ∃ j_ : Int, (wrap64 (60 - t322)) = j_ := ⟨_, rfl⟩
         replace H : (if 0 ≤ (ji54) then ((impl_root.f kj18 (shl .u64 t315 (ji54))).bind fun t323 => ((impl_format_round.f kj18 t308 t309 false t323 (wrap64 (Int.tdiv (wrap64 (t316 - (ji54))) 2)) ((IntKind.u64.wrap (t323 * t323)) != (shl .u64 t315 (ji54)))).bind fun t324 => (some t324))) else (none)) = some r := by first | (rw [hji54] at H; exact H) | (simp only [hji54] at H ⊢; exact H)
         (try rw [hji54] at c53b0)
         (try rw [hji54] at c53b1)
         (try rw [hji54] at A52)
         have hji54w : (IntKind.i64.wrap (60 - t322)) = ji54 := (i64_w _).trans hji54
         by_cases c55 : 0 ≤ (ji54)
         ·
          rw [if_pos c55] at H
          have c55b0 := eq_true c55
          have c55b1 : decide (0 ≤ (ji54)) = true := decide_eq_true c55
          clear c55
          obtain ⟨ji56, hji56⟩ : ∃ j_ : Int, (shl .u64 t315 (ji54)) = j_ := ⟨_, rfl⟩
          replace H : ((impl_root.f kj18 (ji56)).bind fun t323 => ((impl_format_round.f kj18 t308 t309 false t323 (wrap64 (Int.tdiv (wrap64 (t316 - (ji54))) 2)) ((IntKind.u64.wrap (t323 * t323)) != (ji56))).bind fun t324 => (some t324))) = some r := by first | (rw [hji56] at H; exact H) | (simp only [hji56] at H ⊢; exact H)
          (try rw [hji56] at A52)
          have hji56_ : (IntKind.u64.wrap (t315 * 2 ^ min (ji54).toNat 64)) = ji56 := hji56
          have hji56z : (ji54) ≤ 64 → (IntKind.u64.wrap (t315 * 2 ^ (ji54).toNat)) = ji56 := shl_small hji56
          replace H := Option.bind_eq_some_iff.mp H
          obtain ⟨t323, A570, H⟩ := H
          replace H : ((impl_format_round.f kj18 t308 t309 false t323 (wrap64 (Int.tdiv (wrap64 (t316 - (ji54))) 2)) ((IntKind.u64.wrap (t323 * t323)) != (ji56))).bind fun t324 => (some t324)) = some r := H
          have A57 := Aside0.mk A570
          clear A570
          replace H := Option.bind_eq_some_iff.mp H
          obtain ⟨t324, A580, H⟩ := H
          replace H : (some t324) = some r := H
          have A58 := Aside0.mk A580
          clear A580
          obtain rfl := Option.some.inj H
          simp only [Option.some.injEq, Prod.mk.injEq] at H
          obtain ⟨rfl⟩ := H
          have hnb59 := NB317_311.out
          have hnc59 := NB311_317.out
          have hcz60_0 : wc.cell? ⟨gb317, 0, none⟩ = some (.bool false) := (blk_cell BK317.out 0).trans rfl
          have hcz60_1 : wc.cell? ⟨gb317, 1, none⟩ = some (.bool false) := (blk_cell BK317.out 1).trans rfl
          have hcz60_2 : wc.cell? ⟨gb317, 2, none⟩ = some (.bool false) := (blk_cell BK317.out 2).trans rfl
          have hcz60_3 : wc.cell? ⟨gb317, 3, none⟩ = some (.int .u64 t315) := (blk_cell BK317.out 3).trans rfl
          have hcz60_4 : wc.cell? ⟨gb317, 4, none⟩ = some (.int .i64 t316) := (blk_cell BK317.out 4).trans rfl
          have hfz60_0 := blk_frozen BK317.out 0
          have hfz60_1 := blk_frozen BK317.out 1
          have hfz60_2 := blk_frozen BK317.out 2
          have hfz60_3 := blk_frozen BK317.out 3
          have hfz60_4 := blk_frozen BK317.out 4
          go_wp2_with (first | ((with_reducible refine gate_callee (f := 59) rfl ?_); refine goesL_ (some 51) rfl rfl Try.func59 (by kernel_rfl) rfl #[.int .u64 t315] rfl (by (try simp only [List.map_toArray, List.map_cons, List.map_nil]); first | done | rfl | (simp only [List.length_drop, List.length_take]; rfl)) ?_; (with_reducible refine (bits_Len64.calls t315 t322 _ A52.out).mono ?_); rintro e w' ⟨rfl, ⟨nd, rfl⟩⟩; refine ⟨_, rfl, ?_⟩) | ((with_reducible refine gate_callee (f := 61) rfl ?_); refine goesL_ (some 66) rfl rfl Try.func61 (by kernel_rfl) rfl #[.int .u64 ji56] rfl (by (try simp only [List.map_toArray, List.map_cons, List.map_nil]); first | done | (simp only [hji56]; rfl) | rfl | (simp only [List.length_drop, List.length_take]; rfl)) ?_; (with_reducible refine (impl_root.calls kj18 ji56 t323 _ A57.out).mono ?_); rintro e w' ⟨rfl, ⟨nd, rfl⟩⟩; refine ⟨_, rfl, ?_⟩; have hcz61_0 : wc.cell? ⟨gb311, 0, none⟩ = some (.int .i64 t308) := (blk_cell BK311.out 0).trans rfl; have hcz61_1 : wc.cell? ⟨gb311, 1, none⟩ = some (.int .i64 t309) := (blk_cell BK311.out 1).trans rfl; have hfz61_0 := blk_frozen BK311.out 0; have hfz61_1 := blk_frozen BK311.out 1) | ((with_reducible refine gate_callee (f := 55) rfl ?_); refine goesL_ (some 79) rfl rfl Try.func55 (by kernel_rfl) rfl #[.agg #[.int .i64 t308, .int .i64 t309], .bool false, .int .u64 t323, .int .i64 (wrap64 (Int.tdiv (wrap64 (t316 - (ji54))) 2)), .bool ((IntKind.u64.wrap (t323 * t323)) != (ji56))] rfl (by (try simp only [List.map_toArray, List.map_cons, List.map_nil]); first | done | (simp only [hji54, hji56]; rfl) | rfl | (simp only [List.length_drop, List.length_take]; rfl)) ?_; (with_reducible refine (impl_format_round.calls kj18 t308 t309 false t323 (wrap64 (Int.tdiv (wrap64 (t316 - (ji54))) 2)) ((IntKind.u64.wrap (t323 * t323)) != (ji56)) t324 _ A58.out).mono ?_); rintro e w62 ⟨rfl, hb⟩; refine ⟨_, rfl, ?_⟩; have n0_ := Aside0.mk (blk_below (g := gb311) (o := .cells #[.int .i64 t308, .int .i64 t309] 62 (0, 0)) (by (with_reducible repeat (first | refine blk_drewN ?_ _ | refine blk_drew ?_ | refine blk_alloc ?_ _)); exact BK311.out) hb); have n1_ := Aside0.mk (blk_below (g := gb317) (o := .cells #[.bool false, .bool false, .bool false, .int .u64 t315, .int .i64 t316] 66 (0, 0)) (by (with_reducible repeat (first | refine blk_drewN ?_ _ | refine blk_drew ?_ | refine blk_alloc ?_ _)); exact BK317.out) hb); have n2_ := Aside0.mk (below_step (by repeat (first | (with_reducible first | exact HB.out | apply below_alloc | apply pw_below_drewN | apply below_drew1 | refine below_set ?_ GE311.out | refine below_set ?_ GE317.out) | exact HB.out)) hb); clear BK311; clear BK317; clear HB; have BK311 := n0_; have BK317 := n1_; have HB := n2_; clear n0_ n1_ n2_; (try clear hb); (try clear hb2); (try clear hk); (try clear hi)))
          go_ret
          exact ⟨by first | rfl | (simp [errW_none, errW_some] <;> rfl) | (simp only [← hji54, ← hji56]; first | rfl | (simp [errW_none, errW_some] <;> rfl)) | (simp [*, errW_none, errW_some] <;> rfl), by repeat (first | (with_reducible first | exact HB.out | apply below_alloc | apply pw_below_drewN | apply below_drew1 | refine below_set ?_ GE311.out | refine below_set ?_ GE317.out) | exact HB.out)⟩
         ·
          rw [if_neg c55] at H
          exact absurd H (by simp)
        ·
         rw [if_neg c53] at H
         have c53b0 : ((Int.tmod (wrap64 (t316 - (wrap64 (60 - t322)))) 2) == 0) = false := beq_eq_false_iff_ne.mpr c53
         have c53b1 : ((Int.tmod (wrap64 (t316 - (wrap64 (60 - t322)))) 2) != 0) = true := bne_iff_ne.mpr c53
         obtain ⟨ji63, hji63⟩ : ∃ j_ : Int, (wrap64 ((wrap64 (60 - t322)) - 1)) = j_ := ⟨_, rfl⟩
         replace H : (if 0 ≤ (ji63) then ((impl_root.f kj18 (shl .u64 t315 (ji63))).bind fun t325 => ((impl_format_round.f kj18 t308 t309 false t325 (wrap64 (Int.tdiv (wrap64 (t316 - (ji63))) 2)) ((IntKind.u64.wrap (t325 * t325)) != (shl .u64 t315 (ji63)))).bind fun t326 => (some t326))) else (none)) = some r := by first | (rw [hji63] at H; exact H) | (simp only [hji63] at H ⊢; exact H)
         (try rw [hji63] at A52)
         have hji63w : (IntKind.i64.wrap ((wrap64 (60 - t322)) - 1)) = ji63 := (i64_w _).trans hji63
         by_cases c64 : 0 ≤ (ji63)
         ·
          rw [if_pos c64] at H
          have c64b0 := eq_true c64
          have c64b1 : decide (0 ≤ (ji63)) = true := decide_eq_true c64
          clear c64
          obtain ⟨ji65, hji65⟩ : ∃ j_ : Int, (shl .u64 t315 (ji63)) = j_ := ⟨_, rfl⟩
          replace H : ((impl_root.f kj18 (ji65)).bind fun t325 => ((impl_format_round.f kj18 t308 t309 false t325 (wrap64 (Int.tdiv (wrap64 (t316 - (ji63))) 2)) ((IntKind.u64.wrap (t325 * t325)) != (ji65))).bind fun t326 => (some t326))) = some r := by first | (rw [hji65] at H; exact H) | (simp only [hji65] at H ⊢; exact H)
          (try rw [hji65] at A52)
          have hji65_ : (IntKind.u64.wrap (t315 * 2 ^ min (ji63).toNat 64)) = ji65 := hji65
          have hji65z : (ji63) ≤ 64 → (IntKind.u64.wrap (t315 * 2 ^ (ji63).toNat)) = ji65 := shl_small hji65
          replace H := Option.bind_eq_some_iff.mp H
          obtain ⟨t325, A660, H⟩ := H
          replace H : ((impl_format_round.f kj18 t308 t309 false t325 (wrap64 (Int.tdiv (wrap64 (t316 - (ji63))) 2)) ((IntKind.u64.wrap (t325 * t325)) != (ji65))).bind fun t326 => (some t326)) = some r := H
          have A66 := Aside0.mk A660
          clear A660
          replace H := Option.bind_eq_some_iff.mp H
          obtain ⟨t326, A670, H⟩ := H
          replace H : (some t326) = some r := H
          have A67 := Aside0.mk A670
          clear A670
          obtain rfl := Option.some.inj H
          simp only [Option.some.injEq, Prod.mk.injEq] at H
          obtain ⟨rfl⟩ := H
          have hnb68 := NB317_311.out
          have hnc68 := NB311_317.out
          have hcz69_0 : wc.cell? ⟨gb317, 0, none⟩ = some (.bool false) := (blk_cell BK317.out 0).trans rfl
          have hcz69_1 : wc.cell? ⟨gb317, 1, none⟩ = some (.bool false) := (blk_cell BK317.out 1).trans rfl
          have hcz69_2 : wc.cell? ⟨gb317, 2, none⟩ = some (.bool false) := (blk_cell BK317.out 2).trans rfl
          have hcz69_3 : wc.cell? ⟨gb317, 3, none⟩ = some (.int .u64 t315) := (blk_cell BK317.out 3).trans rfl
          have hcz69_4 : wc.cell? ⟨gb317, 4, none⟩ = some (.int .i64 t316) := (blk_cell BK317.out 4).trans rfl
          have hfz69_0 := blk_frozen BK317.out 0
          have hfz69_1 := blk_frozen BK317.out 1
          have hfz69_2 := blk_frozen BK317.out 2
          have hfz69_3 := blk_frozen BK317.out 3
          have hfz69_4 := blk_frozen BK317.out 4
          go_wp2_with (first | ((with_reducible refine gate_callee (f := 59) rfl ?_); refine goesL_ (some 51) rfl rfl Try.func59 (by kernel_rfl) rfl #[.int .u64 t315] rfl (by (try simp only [List.map_toArray, List.map_cons, List.map_nil]); first | done | rfl | (simp only [List.length_drop, List.length_take]; rfl)) ?_; (with_reducible refine (bits_Len64.calls t315 t322 _ A52.out).mono ?_); rintro e w' ⟨rfl, ⟨nd, rfl⟩⟩; refine ⟨_, rfl, ?_⟩) | ((with_reducible refine gate_callee (f := 61) rfl ?_); refine goesL_ (some 66) rfl rfl Try.func61 (by kernel_rfl) rfl #[.int .u64 ji65] rfl (by (try simp only [List.map_toArray, List.map_cons, List.map_nil]); first | done | (simp only [hji65]; rfl) | rfl | (simp only [List.length_drop, List.length_take]; rfl)) ?_; (with_reducible refine (impl_root.calls kj18 ji65 t325 _ A66.out).mono ?_); rintro e w' ⟨rfl, ⟨nd, rfl⟩⟩; refine ⟨_, rfl, ?_⟩; have hcz70_0 : wc.cell? ⟨gb311, 0, none⟩ = some (.int .i64 t308) := (blk_cell BK311.out 0).trans rfl; have hcz70_1 : wc.cell? ⟨gb311, 1, none⟩ = some (.int .i64 t309) := (blk_cell BK311.out 1).trans rfl; have hfz70_0 := blk_frozen BK311.out 0; have hfz70_1 := blk_frozen BK311.out 1) | ((with_reducible refine gate_callee (f := 55) rfl ?_); refine goesL_ (some 79) rfl rfl Try.func55 (by kernel_rfl) rfl #[.agg #[.int .i64 t308, .int .i64 t309], .bool false, .int .u64 t325, .int .i64 (wrap64 (Int.tdiv (wrap64 (t316 - (ji63))) 2)), .bool ((IntKind.u64.wrap (t325 * t325)) != (ji65))] rfl (by (try simp only [List.map_toArray, List.map_cons, List.map_nil]); first | done | (simp only [hji63, hji65]; rfl) | rfl | (simp only [List.length_drop, List.length_take]; rfl)) ?_; (with_reducible refine (impl_format_round.calls kj18 t308 t309 false t325 (wrap64 (Int.tdiv (wrap64 (t316 - (ji63))) 2)) ((IntKind.u64.wrap (t325 * t325)) != (ji65)) t326 _ A67.out).mono ?_); rintro e w71 ⟨rfl, hb⟩; refine ⟨_, rfl, ?_⟩; have n0_ := Aside0.mk (blk_below (g := gb311) (o := .cells #[.int .i64 t308, .int .i64 t309] 62 (0, 0)) (by (with_reducible repeat (first | refine blk_drewN ?_ _ | refine blk_drew ?_ | refine blk_alloc ?_ _)); exact BK311.out) hb); have n1_ := Aside0.mk (blk_below (g := gb317) (o := .cells #[.bool false, .bool false, .bool false, .int .u64 t315, .int .i64 t316] 66 (0, 0)) (by (with_reducible repeat (first | refine blk_drewN ?_ _ | refine blk_drew ?_ | refine blk_alloc ?_ _)); exact BK317.out) hb); have n2_ := Aside0.mk (below_step (by repeat (first | (with_reducible first | exact HB.out | apply below_alloc | apply pw_below_drewN | apply below_drew1 | refine below_set ?_ GE311.out | refine below_set ?_ GE317.out) | exact HB.out)) hb); clear BK311; clear BK317; clear HB; have BK311 := n0_; have BK317 := n1_; have HB := n2_; clear n0_ n1_ n2_; (try clear hb); (try clear hb2); (try clear hk); (try clear hi)))
          go_ret
          exact ⟨by first | rfl | (simp [errW_none, errW_some] <;> rfl) | (simp only [← hji63, ← hji65]; first | rfl | (simp [errW_none, errW_some] <;> rfl)) | (simp [*, errW_none, errW_some] <;> rfl), by repeat (first | (with_reducible first | exact HB.out | apply below_alloc | apply pw_below_drewN | apply below_drew1 | refine below_set ?_ GE311.out | refine below_set ?_ GE317.out) | exact HB.out)⟩
         ·
          rw [if_neg c64] at H
          exact absurd H (by simp)
 ·
  replace c4 := Bool.eq_false_iff.mpr c4
  subst c4
  have H1 : (some 0) = some r := by rw [if_neg (show ¬ (false = true) by decide)] at H; exact H
  clear H
  have H := H1
  clear H1
  obtain rfl := Option.some.inj H
  simp only [Option.some.injEq, Prod.mk.injEq] at H
  obtain ⟨rfl⟩ := H
  go_enter Try.func23, Try.ntmps23
  go_wp2_with (first | ((with_reducible refine gate_callee (f := 51) rfl ?_); refine goesL_ (some 13) rfl rfl Try.func51 (by kernel_rfl) rfl #[.int .i64 a0] rfl (by (try simp only [List.map_toArray, List.map_cons, List.map_nil]); first | done | rfl | (simp only [List.length_drop, List.length_take]; rfl)) ?_; (with_reducible refine (impl_formatOf.calls a0 t308 t309 false _ A3.out).mono ?_); rintro e w72 ⟨rfl, hb⟩; refine ⟨_, rfl, ?_⟩; have n0_ := Aside0.mk (below_step (by repeat (first | (with_reducible first | exact HB.out | apply below_alloc | apply pw_below_drewN | apply below_drew1) | exact HB.out)) hb); clear HB; have HB := n0_; clear n0_; (try clear hb); (try clear hb2); (try clear hk); (try clear hi)) | ((with_reducible refine gate_dst (N := 5) rfl ?_); refine box_event ?hg (N := 5) ?hd (cs := #[.int .i64 0, .int .i64 0]) (t := 62) ?hr ?_; (case hd => rfl); (case hg => rfl); (case hr => first | (go_simp; done) | (go_simp; rfl)); intro gb311 hg w73 hbox hb; have n0_ := Aside0.mk (below_step (by repeat (first | (with_reducible first | exact HB.out | apply below_alloc | apply pw_below_drewN | apply below_drew1) | exact HB.out)) hb); have n1_ := Aside0.mk (hbox); have n2_ := Aside0.mk ((by rw [hg]; exact (below_size (by repeat (first | (with_reducible first | exact HB.out | apply below_alloc | apply pw_below_drewN | apply below_drew1) | exact HB.out))) : w.heap.size ≤ gb311)); have n3_ := Aside0.mk ((by rw [hg]; exact (below_size (by repeat (first | (with_reducible first | exact HB.out | apply below_alloc | apply pw_below_drewN | apply below_drew1) | exact HB.out))) : w.heap.size ≤ gb311)); clear HB; have HB := n0_; have BK311 := n1_; have GW311 := n2_; have GE311 := n3_; clear n0_ n1_ n2_ n3_; clear hb hbox hg; have hcz74_0 : w73.cell? ⟨gb311, 0, none⟩ = some (.int .i64 0) := (blk_cell BK311.out 0).trans rfl; have hcz74_1 : w73.cell? ⟨gb311, 1, none⟩ = some (.int .i64 0) := (blk_cell BK311.out 1).trans rfl; have hfz74_0 := blk_frozen BK311.out 0; have hfz74_1 := blk_frozen BK311.out 1))
  go_ret
  exact ⟨by first | rfl | (simp [errW_none, errW_some] <;> rfl) | (simp [*, errW_none, errW_some] <;> rfl), by repeat (first | (with_reducible first | exact HB.out | apply below_alloc | apply pw_below_drewN | apply below_drew1 | refine below_set ?_ GE311.out) | exact HB.out)⟩

end Go.Proofs.Ytdeogandkgiggaa.Q
