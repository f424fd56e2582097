-- Written by a program of this session; it walks the functions that the law reaches.
import Derived.Test.YtdeogandkgiggaaQx0
import Derived.Test.YtdeogandkgiggaaQx2
import Derived.Test.YtdeogandkgiggaaQx3
import Derived.Test.YtdeogandkgiggaaQx4
namespace Go.Proofs.Ytdeogandkgiggaa.Q
open Go.RowKit Go.Proofs.YtdeogandkgiggaaW.PrintWords Go.Proofs.YtdeogandkgiggaaW.PrintLast Go.Proofs.YtdeogandkgiggaaW.PrintMore
attribute [local go_sem] max2_int min2_int max_two min_two max_three min_three max_four min_four   -- for this text's walks alone
set_option linter.unusedVariables false
set_option linter.unusedSimpArgs false

/-! ### spec_l4K_sum: function 66 -/
mutual
def spec_l4K_sum.j0 : Nat → Bool → Int → Int → Bool → Bool → Bool → Int → Int → Bool → Bool → Bool → Int → Int → Option (Int)
 | 0, _, _, _, _, _, _, _, _, _, _, _, _, _ => none
 | k + 1, x10, x378000, x378001, x379000, x379001, x379002, x379003, x379004, x380000, x380001, x380002, x380003, x380004 => if x10 = true then ((spec_l4K_nan.f x378000 x378001).bind fun t380 => (some t380)) else (if x379001 = true then ((spec_l4K_inf.f x378000 x378001 x379000).bind fun t381 => (some t381)) else (if x380001 = true then ((spec_l4K_inf.f x378000 x378001 x380000).bind fun t382 => (some t382)) else (if x379004 < x380004 then ((spec_l4K_sum.f k x378000 x378001 x380000 x380001 x380002 x380003 x380004 x379000 x379001 x379002 x379003 x379004).bind fun t383 => (some t383)) else (if (IntKind.u64.wrap (wrap64 (x379004 - x380004))) ≤ 30 then (if 0 ≤ (IntKind.u64.wrap (wrap64 (x379004 - x380004))) then (spec_l4K_sum.j1 k false x378000 x378001 x379000 x379001 x379002 (shl .u64 x379003 (IntKind.u64.wrap (wrap64 (x379004 - x380004)))) x379004 x380000 x380001 x380002 x380003 x380004) else (none)) else (if (IntKind.u64.wrap ((IntKind.u64.wrap (wrap64 (x379004 - x380004))) - 30)) > 60 then (spec_l4K_sum.j1 k (x380003 != 0) x378000 x378001 x379000 x379001 x379002 (IntKind.u64.wrap (x379003 * 1073741824)) x379004 x380000 x380001 x380002 0 (wrap64 (x379004 - 30))) else (if 0 ≤ (IntKind.u64.wrap ((IntKind.u64.wrap (wrap64 (x379004 - x380004))) - 30)) then (spec_l4K_sum.j1 k ((Go.bits .and .u64 x380003 (IntKind.u64.wrap ((shl .u64 1 (IntKind.u64.wrap ((IntKind.u64.wrap (wrap64 (x379004 - x380004))) - 30))) - 1))) != 0) x378000 x378001 x379000 x379001 x379002 (IntKind.u64.wrap (x379003 * 1073741824)) x379004 x380000 x380001 x380002 (shr .u64 x380003 (IntKind.u64.wrap ((IntKind.u64.wrap (wrap64 (x379004 - x380004))) - 30))) (wrap64 (x379004 - 30))) else (none)))))))
def spec_l4K_sum.j1 : Nat → Bool → Int → Int → Bool → Bool → Bool → Int → Int → Bool → Bool → Bool → Int → Int → Option (Int)
 | 0, _, _, _, _, _, _, _, _, _, _, _, _, _ => none
 | k + 1, x8, x378000, x378001, x379000, x379001, x379002, x379003, x379004, x380000, x380001, x380002, x380003, x380004 => if (x379000 == x380000) = true then ((spec_l4K_round.f k x378000 x378001 x379000 (IntKind.u64.wrap (x379003 + x380003)) x380004 x8).bind fun t384 => (some t384)) else (if x380003 > x379003 then ((spec_l4K_round.f k x378000 x378001 x380000 (IntKind.u64.wrap (x380003 - x379003)) x380004 x8).bind fun t385 => (some t385)) else (if x8 = true then (spec_l4K_sum.j2 k x8 (IntKind.u64.wrap ((IntKind.u64.wrap (x379003 - x380003)) - 1)) x378000 x378001 x379000 x379001 x379002 x379003 x379004 x380000 x380001 x380002 x380003 x380004) else (spec_l4K_sum.j2 k x8 (IntKind.u64.wrap (x379003 - x380003)) x378000 x378001 x379000 x379001 x379002 x379003 x379004 x380000 x380001 x380002 x380003 x380004)))
def spec_l4K_sum.j2 : Nat → Bool → Int → Int → Int → Bool → Bool → Bool → Int → Int → Bool → Bool → Bool → Int → Int → Option (Int)
 | 0, _, _, _, _, _, _, _, _, _, _, _, _, _, _ => none
 | k + 1, x8, x9, x378000, x378001, x379000, x379001, x379002, x379003, x379004, x380000, x380001, x380002, x380003, x380004 => if x9 = 0 then (spec_l4K_sum.j3 k x8 x9 (!x8) x378000 x378001 x379000 x379001 x379002 x379003 x379004 x380000 x380001 x380002 x380003 x380004) else (spec_l4K_sum.j3 k x8 x9 false x378000 x378001 x379000 x379001 x379002 x379003 x379004 x380000 x380001 x380002 x380003 x380004)
def spec_l4K_sum.j3 : Nat → Bool → Int → Bool → Int → Int → Bool → Bool → Bool → Int → Int → Bool → Bool → Bool → Int → Int → Option (Int)
 | 0, _, _, _, _, _, _, _, _, _, _, _, _, _, _, _ => none
 | k + 1, x8, x9, x148, x378000, x378001, x379000, x379001, x379002, x379003, x379004, x380000, x380001, x380002, x380003, x380004 => if x148 = true then ((spec_l4K_sign.f x378000 x378001 false).bind fun t386 => (some t386)) else ((spec_l4K_round.f k x378000 x378001 x379000 x9 x380004 x8).bind fun t387 => (some t387))
def spec_l4K_sum.f : Nat → Int → Int → Bool → Bool → Bool → Int → Int → Bool → Bool → Bool → Int → Int → Option (Int)
 | 0, _, _, _, _, _, _, _, _, _, _, _, _ => none
 | k + 1, a0_0, a0_1, a1_0, a1_1, a1_2, a1_3, a1_4, a2_0, a2_1, a2_2, a2_3, a2_4 => if a1_2 = true then (spec_l4K_sum.j0 k true a0_0 a0_1 a1_0 a1_1 a1_2 a1_3 a1_4 a2_0 a2_1 a2_2 a2_3 a2_4) else (if a2_2 = true then (spec_l4K_sum.j0 k true a0_0 a0_1 a1_0 a1_1 a1_2 a1_3 a1_4 a2_0 a2_1 a2_2 a2_3 a2_4) else (if a1_1 = true then (if a2_1 = true then (spec_l4K_sum.j0 k (a1_0 != a2_0) a0_0 a0_1 a1_0 a1_1 a1_2 a1_3 a1_4 a2_0 a2_1 a2_2 a2_3 a2_4) else (spec_l4K_sum.j0 k false a0_0 a0_1 a1_0 a1_1 a1_2 a1_3 a1_4 a2_0 a2_1 a2_2 a2_3 a2_4)) else (spec_l4K_sum.j0 k false a0_0 a0_1 a1_0 a1_1 a1_2 a1_3 a1_4 a2_0 a2_1 a2_2 a2_3 a2_4)))
end
theorem spec_l4K_sum.mono_l : ∀ k, (∀ y0 y1 y2 y3 y4 y5 y6 y7 y8 y9 y10 y11, LeO (spec_l4K_sum.f k y0 y1 y2 y3 y4 y5 y6 y7 y8 y9 y10 y11) (spec_l4K_sum.f (k + 1) y0 y1 y2 y3 y4 y5 y6 y7 y8 y9 y10 y11)) ∧ (∀ y0 y1 y2 y3 y4 y5 y6 y7 y8 y9 y10 y11 y12, LeO (spec_l4K_sum.j0 k y0 y1 y2 y3 y4 y5 y6 y7 y8 y9 y10 y11 y12) (spec_l4K_sum.j0 (k + 1) y0 y1 y2 y3 y4 y5 y6 y7 y8 y9 y10 y11 y12)) ∧ (∀ y0 y1 y2 y3 y4 y5 y6 y7 y8 y9 y10 y11 y12, LeO (spec_l4K_sum.j1 k y0 y1 y2 y3 y4 y5 y6 y7 y8 y9 y10 y11 y12) (spec_l4K_sum.j1 (k + 1) y0 y1 y2 y3 y4 y5 y6 y7 y8 y9 y10 y11 y12)) ∧ (∀ y0 y1 y2 y3 y4 y5 y6 y7 y8 y9 y10 y11 y12 y13, LeO (spec_l4K_sum.j2 k y0 y1 y2 y3 y4 y5 y6 y7 y8 y9 y10 y11 y12 y13) (spec_l4K_sum.j2 (k + 1) y0 y1 y2 y3 y4 y5 y6 y7 y8 y9 y10 y11 y12 y13)) ∧ (∀ y0 y1 y2 y3 y4 y5 y6 y7 y8 y9 y10 y11 y12 y13 y14, LeO (spec_l4K_sum.j3 k y0 y1 y2 y3 y4 y5 y6 y7 y8 y9 y10 y11 y12 y13 y14) (spec_l4K_sum.j3 (k + 1) y0 y1 y2 y3 y4 y5 y6 y7 y8 y9 y10 y11 y12 y13 y14))
 | 0 => ⟨fun _ _ _ _ _ _ _ _ _ _ _ _ r h => by simp [spec_l4K_sum.f] at h, fun _ _ _ _ _ _ _ _ _ _ _ _ _ r h => by simp [spec_l4K_sum.j0] at h, fun _ _ _ _ _ _ _ _ _ _ _ _ _ r h => by simp [spec_l4K_sum.j1] at h, fun _ _ _ _ _ _ _ _ _ _ _ _ _ _ r h => by simp [spec_l4K_sum.j2] at h, fun _ _ _ _ _ _ _ _ _ _ _ _ _ _ _ r h => by simp [spec_l4K_sum.j3] at h⟩
 | k + 1 => by
  obtain ⟨ih0, ih1, ih2, ih3, ih4⟩ := spec_l4K_sum.mono_l k
  refine ⟨?_, ?_, ?_, ?_, ?_⟩
  ·
   intro y0 y1 y2 y3 y4 y5 y6 y7 y8 y9 y10 y11
   unfold spec_l4K_sum.f
   repeat' first
   | (with_reducible exact ih0 _ _ _ _ _ _ _ _ _ _ _ _)
   | (with_reducible exact ih1 _ _ _ _ _ _ _ _ _ _ _ _ _)
   | (with_reducible exact ih2 _ _ _ _ _ _ _ _ _ _ _ _ _)
   | (with_reducible exact ih3 _ _ _ _ _ _ _ _ _ _ _ _ _ _)
   | (with_reducible exact ih4 _ _ _ _ _ _ _ _ _ _ _ _ _ _ _)
   | (with_reducible exact spec_l4K_round.mono _ _ _ _ _ _ _)
   | (with_reducible exact LeO.refl _)
   | (with_reducible exact LeO.none _)
   | (with_reducible refine LeO.ite ?_ ?_)
   | (with_reducible refine LeO.bind ?_ (fun _ => ?_))
   | exact ih0 _ _ _ _ _ _ _ _ _ _ _ _
   | exact ih1 _ _ _ _ _ _ _ _ _ _ _ _ _
   | exact ih2 _ _ _ _ _ _ _ _ _ _ _ _ _
   | exact ih3 _ _ _ _ _ _ _ _ _ _ _ _ _ _
   | exact ih4 _ _ _ _ _ _ _ _ _ _ _ _ _ _ _
   | exact spec_l4K_round.mono _ _ _ _ _ _ _
   | exact LeO.none _
   | refine LeO.ite ?_ ?_
   | refine LeO.bind ?_ (fun _ => ?_)
  ·
   intro y0 y1 y2 y3 y4 y5 y6 y7 y8 y9 y10 y11 y12
   unfold spec_l4K_sum.j0
   repeat' first
   | (with_reducible exact ih0 _ _ _ _ _ _ _ _ _ _ _ _)
   | (with_reducible exact ih1 _ _ _ _ _ _ _ _ _ _ _ _ _)
   | (with_reducible exact ih2 _ _ _ _ _ _ _ _ _ _ _ _ _)
   | (with_reducible exact ih3 _ _ _ _ _ _ _ _ _ _ _ _ _ _)
   | (with_reducible exact ih4 _ _ _ _ _ _ _ _ _ _ _ _ _ _ _)
   | (with_reducible exact spec_l4K_round.mono _ _ _ _ _ _ _)
   | (with_reducible exact LeO.refl _)
   | (with_reducible exact LeO.none _)
   | (with_reducible refine LeO.ite ?_ ?_)
   | (with_reducible refine LeO.bind ?_ (fun _ => ?_))
   | exact ih0 _ _ _ _ _ _ _ _ _ _ _ _
   | exact ih1 _ _ _ _ _ _ _ _ _ _ _ _ _
   | exact ih2 _ _ _ _ _ _ _ _ _ _ _ _ _
   | exact ih3 _ _ _ _ _ _ _ _ _ _ _ _ _ _
   | exact ih4 _ _ _ _ _ _ _ _ _ _ _ _ _ _ _
   | exact spec_l4K_round.mono _ _ _ _ _ _ _
   | exact LeO.none _
   | refine LeO.ite ?_ ?_
   | refine LeO.bind ?_ (fun _ => ?_)
  ·
   intro y0 y1 y2 y3 y4 y5 y6 y7 y8 y9 y10 y11 y12
   unfold spec_l4K_sum.j1
   repeat' first
   | (with_reducible exact ih0 _ _ _ _ _ _ _ _ _ _ _ _)
   | (with_reducible exact ih1 _ _ _ _ _ _ _ _ _ _ _ _ _)
   | (with_reducible exact ih2 _ _ _ _ _ _ _ _ _ _ _ _ _)
   | (with_reducible exact ih3 _ _ _ _ _ _ _ _ _ _ _ _ _ _)
   | (with_reducible exact ih4 _ _ _ _ _ _ _ _ _ _ _ _ _ _ _)
   | (with_reducible exact spec_l4K_round.mono _ _ _ _ _ _ _)
   | (with_reducible exact LeO.refl _)
   | (with_reducible exact LeO.none _)
   | (with_reducible refine LeO.ite ?_ ?_)
   | (with_reducible refine LeO.bind ?_ (fun _ => ?_))
   | exact ih0 _ _ _ _ _ _ _ _ _ _ _ _
   | exact ih1 _ _ _ _ _ _ _ _ _ _ _ _ _
   | exact ih2 _ _ _ _ _ _ _ _ _ _ _ _ _
   | exact ih3 _ _ _ _ _ _ _ _ _ _ _ _ _ _
   | exact ih4 _ _ _ _ _ _ _ _ _ _ _ _ _ _ _
   | exact spec_l4K_round.mono _ _ _ _ _ _ _
   | exact LeO.none _
   | refine LeO.ite ?_ ?_
   | refine LeO.bind ?_ (fun _ => ?_)
  ·
   intro y0 y1 y2 y3 y4 y5 y6 y7 y8 y9 y10 y11 y12 y13
   unfold spec_l4K_sum.j2
   repeat' first
   | (with_reducible exact ih0 _ _ _ _ _ _ _ _ _ _ _ _)
   | (with_reducible exact ih1 _ _ _ _ _ _ _ _ _ _ _ _ _)
   | (with_reducible exact ih2 _ _ _ _ _ _ _ _ _ _ _ _ _)
   | (with_reducible exact ih3 _ _ _ _ _ _ _ _ _ _ _ _ _ _)
   | (with_reducible exact ih4 _ _ _ _ _ _ _ _ _ _ _ _ _ _ _)
   | (with_reducible exact spec_l4K_round.mono _ _ _ _ _ _ _)
   | (with_reducible exact LeO.refl _)
   | (with_reducible exact LeO.none _)
   | (with_reducible refine LeO.ite ?_ ?_)
   | (with_reducible refine LeO.bind ?_ (fun _ => ?_))
   | exact ih0 _ _ _ _ _ _ _ _ _ _ _ _
   | exact ih1 _ _ _ _ _ _ _ _ _ _ _ _ _
   | exact ih2 _ _ _ _ _ _ _ _ _ _ _ _ _
   | exact ih3 _ _ _ _ _ _ _ _ _ _ _ _ _ _
   | exact ih4 _ _ _ _ _ _ _ _ _ _ _ _ _ _ _
   | exact spec_l4K_round.mono _ _ _ _ _ _ _
   | exact LeO.none _
   | refine LeO.ite ?_ ?_
   | refine LeO.bind ?_ (fun _ => ?_)
  ·
   intro y0 y1 y2 y3 y4 y5 y6 y7 y8 y9 y10 y11 y12 y13 y14
   unfold spec_l4K_sum.j3
   repeat' first
   | (with_reducible exact ih0 _ _ _ _ _ _ _ _ _ _ _ _)
   | (with_reducible exact ih1 _ _ _ _ _ _ _ _ _ _ _ _ _)
   | (with_reducible exact ih2 _ _ _ _ _ _ _ _ _ _ _ _ _)
   | (with_reducible exact ih3 _ _ _ _ _ _ _ _ _ _ _ _ _ _)
   | (with_reducible exact ih4 _ _ _ _ _ _ _ _ _ _ _ _ _ _ _)
   | (with_reducible exact spec_l4K_round.mono _ _ _ _ _ _ _)
   | (with_reducible exact LeO.refl _)
   | (with_reducible exact LeO.none _)
   | (with_reducible refine LeO.ite ?_ ?_)
   | (with_reducible refine LeO.bind ?_ (fun _ => ?_))
   | exact ih0 _ _ _ _ _ _ _ _ _ _ _ _
   | exact ih1 _ _ _ _ _ _ _ _ _ _ _ _ _
   | exact ih2 _ _ _ _ _ _ _ _ _ _ _ _ _
   | exact ih3 _ _ _ _ _ _ _ _ _ _ _ _ _ _
   | exact ih4 _ _ _ _ _ _ _ _ _ _ _ _ _ _ _
   | exact spec_l4K_round.mono _ _ _ _ _ _ _
   | exact LeO.none _
   | refine LeO.ite ?_ ?_
   | refine LeO.bind ?_ (fun _ => ?_)
theorem spec_l4K_sum.mono : ∀ a0 a1 a2 a3 a4 a5 a6 a7 a8 a9 a10 a11 k, LeO (spec_l4K_sum.f k a0 a1 a2 a3 a4 a5 a6 a7 a8 a9 a10 a11) (spec_l4K_sum.f (k + 1) a0 a1 a2 a3 a4 a5 a6 a7 a8 a9 a10 a11) := by
 intro a0 a1 a2 a3 a4 a5 a6 a7 a8 a9 a10 a11 k
 obtain ⟨ih0, ih1, ih2, ih3, ih4⟩ := spec_l4K_sum.mono_l k
 exact ih0 a0 a1 a2 a3 a4 a5 a6 a7 a8 a9 a10 a11
set_option maxHeartbeats 8000000 in
set_option maxRecDepth 100000 in
theorem spec_l4K_sum.calls (k : Nat) : ∀ (a0_0 : Int) (a0_1 : Int) (a1_0 : Bool) (a1_1 : Bool) (a1_2 : Bool) (a1_3 : Int) (a1_4 : Int) (a2_0 : Bool) (a2_1 : Bool) (a2_2 : Bool) (a2_3 : Int) (a2_4 : Int) (r : Int) (w : World) (h : spec_l4K_sum.f k a0_0 a0_1 a1_0 a1_1 a1_2 a1_3 a1_4 a2_0 a2_1 a2_2 a2_3 a2_4 = some r),
  Calls Try.prog 66 #[.agg #[.int .u64 a0_0, .int .u64 a0_1], .agg #[.bool a1_0, .bool a1_1, .bool a1_2, .int .u64 a1_3, .int .i64 a1_4], .agg #[.bool a2_0, .bool a2_1, .bool a2_2, .int .u64 a2_3, .int .i64 a2_4]] w fun e w' => e = .returned (.int .u32 r) ∧ Below w.heap.size w w' := by
 induction k using Nat.strongRecOn with
 | _ k ih =>
 intro a0_0 a0_1 a1_0 a1_1 a1_2 a1_3 a1_4 a2_0 a2_1 a2_2 a2_3 a2_4 r w h
 cases k with
 | zero => exact absurd h (by simp [spec_l4K_sum.f])
 | succ k =>
 simp only [spec_l4K_sum.f] at h
 have hu52 := Try.underlying52
 have hu56 := Try.underlying56
 have HB := Aside0.mk (Below.refl w.heap.size w)
 have H : (if a1_2 = true then (spec_l4K_sum.j0 k true a0_0 a0_1 a1_0 a1_1 a1_2 a1_3 a1_4 a2_0 a2_1 a2_2 a2_3 a2_4) else (if a2_2 = true then (spec_l4K_sum.j0 k true a0_0 a0_1 a1_0 a1_1 a1_2 a1_3 a1_4 a2_0 a2_1 a2_2 a2_3 a2_4) else (if a1_1 = true then (if a2_1 = true then (spec_l4K_sum.j0 k (a1_0 != a2_0) a0_0 a0_1 a1_0 a1_1 a1_2 a1_3 a1_4 a2_0 a2_1 a2_2 a2_3 a2_4) else (spec_l4K_sum.j0 k false a0_0 a0_1 a1_0 a1_1 a1_2 a1_3 a1_4 a2_0 a2_1 a2_2 a2_3 a2_4)) else (spec_l4K_sum.j0 k false a0_0 a0_1 a1_0 a1_1 a1_2 a1_3 a1_4 a2_0 a2_1 a2_2 a2_3 a2_4)))) = some r := h
 clear h
 have HC4 := Aside0.mk H
 clear H
 go_enter Try.func66, Try.ntmps66
 go_upto_region 1 with (first | ((with_reducible refine gate_dst (N := 3) rfl ?_); refine box_event ?hg (N := 3) ?hd (cs := #[.int .u64 a0_0, .int .u64 a0_1]) (t := 52) ?hr ?_; (case hd => rfl); (case hg => rfl); (case hr => first | (go_simp; done) | (go_simp; rfl)); intro gb377 hg w5 hbox hb; have n0_ := Aside0.mk (below_step (by repeat (first | (with_reducible first | exact HB.out | apply below_alloc | apply pw_below_drewN | apply below_drew1) | exact HB.out)) hb); have n1_ := Aside0.mk (hbox); have n2_ := Aside0.mk ((by rw [hg]; exact (below_size (by repeat (first | (with_reducible first | exact HB.out | apply below_alloc | apply pw_below_drewN | apply below_drew1) | exact HB.out))) : w.heap.size ≤ gb377)); have n3_ := Aside0.mk ((by rw [hg]; exact (below_size (by repeat (first | (with_reducible first | exact HB.out | apply below_alloc | apply pw_below_drewN | apply below_drew1) | exact HB.out))) : w.heap.size ≤ gb377)); clear HB; have HB := n0_; have BK377 := n1_; have GW377 := n2_; have GE377 := n3_; clear n0_ n1_ n2_ n3_; clear hb hbox hg) | ((with_reducible refine gate_dst (N := 4) rfl ?_); refine box_event ?hg (N := 4) ?hd (cs := #[.bool a1_0, .bool a1_1, .bool a1_2, .int .u64 a1_3, .int .i64 a1_4]) (t := 56) ?hr ?_; (case hd => rfl); (case hg => rfl); (case hr => first | (go_simp; done) | (go_simp; rfl)); intro gb378 hg w6 hbox hb; have n0_ := Aside0.mk (blk_below (g := gb377) (o := .cells #[.int .u64 a0_0, .int .u64 a0_1] 52 (0, 0)) (by (with_reducible repeat (first | refine blk_drewN ?_ _ | refine blk_drew ?_ | refine blk_alloc ?_ _)); exact BK377.out) hb); have n1_ := Aside0.mk (below_step (by repeat (first | (with_reducible first | exact HB.out | apply below_alloc | apply pw_below_drewN | apply below_drew1 | refine below_set ?_ GE377.out) | exact HB.out)) hb); have n2_ := Aside0.mk (hbox); have n3_ := Aside0.mk ((by rw [hg]; exact (below_size (by repeat (first | (with_reducible first | exact HB.out | apply below_alloc | apply pw_below_drewN | apply below_drew1 | refine below_set ?_ GE377.out) | exact HB.out))) : w.heap.size ≤ gb378)); have n4_ := Aside0.mk ((by rw [hg]; exact (below_size (by repeat (first | (with_reducible first | exact HB.out | apply below_alloc | apply pw_below_drewN | apply below_drew1 | refine below_set ?_ GE377.out) | exact HB.out))) : w.heap.size ≤ gb378)); have n5_ := Aside0.mk ((by rw [hg]; exact Nat.ne_of_lt (blk_lt (g := gb377) (o := .cells #[.int .u64 a0_0, .int .u64 a0_1] 52 (0, 0)) (by (with_reducible repeat (first | refine blk_drewN ?_ _ | refine blk_drew ?_ | refine blk_alloc ?_ _)); exact BK377.out)) : gb377 ≠ gb378)); have n6_ := Aside0.mk ((by rw [hg]; exact Nat.ne_of_gt (blk_lt (g := gb377) (o := .cells #[.int .u64 a0_0, .int .u64 a0_1] 52 (0, 0)) (by (with_reducible repeat (first | refine blk_drewN ?_ _ | refine blk_drew ?_ | refine blk_alloc ?_ _)); exact BK377.out)) : gb378 ≠ gb377)); clear BK377; clear HB; have BK377 := n0_; have HB := n1_; have BK378 := n2_; have GW378 := n3_; have GE378 := n4_; have NB377_378 := n5_; have NB378_377 := n6_; clear n0_ n1_ n2_ n3_ n4_ n5_ n6_; clear hb hbox hg) | ((with_reducible refine gate_dst (N := 5) rfl ?_); refine box_event ?hg (N := 5) ?hd (cs := #[.bool a2_0, .bool a2_1, .bool a2_2, .int .u64 a2_3, .int .i64 a2_4]) (t := 56) ?hr ?_; (case hd => rfl); (case hg => rfl); (case hr => first | (go_simp; done) | (go_simp; rfl)); intro gb379 hg w7 hbox hb; have n0_ := Aside0.mk (blk_below (g := gb377) (o := .cells #[.int .u64 a0_0, .int .u64 a0_1] 52 (0, 0)) (by (with_reducible repeat (first | refine blk_drewN ?_ _ | refine blk_drew ?_ | refine blk_alloc ?_ _)); exact BK377.out) hb); have n1_ := Aside0.mk (blk_below (g := gb378) (o := .cells #[.bool a1_0, .bool a1_1, .bool a1_2, .int .u64 a1_3, .int .i64 a1_4] 56 (0, 0)) (by (with_reducible repeat (first | refine blk_drewN ?_ _ | refine blk_drew ?_ | refine blk_alloc ?_ _)); exact BK378.out) hb); have n2_ := Aside0.mk (below_step (by repeat (first | (with_reducible first | exact HB.out | apply below_alloc | apply pw_below_drewN | apply below_drew1 | refine below_set ?_ GE377.out | refine below_set ?_ GE378.out) | exact HB.out)) hb); have n3_ := Aside0.mk (hbox); have n4_ := Aside0.mk ((by rw [hg]; exact (below_size (by repeat (first | (with_reducible first | exact HB.out | apply below_alloc | apply pw_below_drewN | apply below_drew1 | refine below_set ?_ GE377.out | refine below_set ?_ GE378.out) | exact HB.out))) : w.heap.size ≤ gb379)); have n5_ := Aside0.mk ((by rw [hg]; exact (below_size (by repeat (first | (with_reducible first | exact HB.out | apply below_alloc | apply pw_below_drewN | apply below_drew1 | refine below_set ?_ GE377.out | refine below_set ?_ GE378.out) | exact HB.out))) : w.heap.size ≤ gb379)); have n6_ := Aside0.mk ((by rw [hg]; exact Nat.ne_of_lt (blk_lt (g := gb377) (o := .cells #[.int .u64 a0_0, .int .u64 a0_1] 52 (0, 0)) (by (with_reducible repeat (first | refine blk_drewN ?_ _ | refine blk_drew ?_ | refine blk_alloc ?_ _)); exact BK377.out)) : gb377 ≠ gb379)); have n7_ := Aside0.mk ((by rw [hg]; exact Nat.ne_of_gt (blk_lt (g := gb377) (o := .cells #[.int .u64 a0_0, .int .u64 a0_1] 52 (0, 0)) (by (with_reducible repeat (first | refine blk_drewN ?_ _ | refine blk_drew ?_ | refine blk_alloc ?_ _)); exact BK377.out)) : gb379 ≠ gb377)); have n8_ := Aside0.mk ((by rw [hg]; exact Nat.ne_of_lt (blk_lt (g := gb378) (o := .cells #[.bool a1_0, .bool a1_1, .bool a1_2, .int .u64 a1_3, .int .i64 a1_4] 56 (0, 0)) (by (with_reducible repeat (first | refine blk_drewN ?_ _ | refine blk_drew ?_ | refine blk_alloc ?_ _)); exact BK378.out)) : gb378 ≠ gb379)); have n9_ := Aside0.mk ((by rw [hg]; exact Nat.ne_of_gt (blk_lt (g := gb378) (o := .cells #[.bool a1_0, .bool a1_1, .bool a1_2, .int .u64 a1_3, .int .i64 a1_4] 56 (0, 0)) (by (with_reducible repeat (first | refine blk_drewN ?_ _ | refine blk_drew ?_ | refine blk_alloc ?_ _)); exact BK378.out)) : gb379 ≠ gb378)); clear BK377; clear BK378; clear HB; have BK377 := n0_; have BK378 := n1_; have HB := n2_; have BK379 := n3_; have GW379 := n4_; have GE379 := n5_; have NB377_379 := n6_; have NB379_377 := n7_; have NB378_379 := n8_; have NB379_378 := n9_; clear n0_ n1_ n2_ n3_ n4_ n5_ n6_ n7_ n8_ n9_; clear hb hbox hg))
 (try simp only [Act.put, List.setIfInBounds_toArray, List.set_cons_zero, List.set_cons_succ])
 go_cut [10] (fun v10 wc => ∃ (kq : Nat) (x10_3 : Bool), v10 = .bool x10_3 ∧ Aside0 (spec_l4K_sum.j0 kq x10_3 a0_0 a0_1 a1_0 a1_1 a1_2 a1_3 a1_4 a2_0 a2_1 a2_2 a2_3 a2_4 = some r) ∧ Aside0 (kq ≤ k) ∧ Aside0 (wc.heap[gb377]? = some (.cells #[.int .u64 a0_0, .int .u64 a0_1] 52 (0, 0))) ∧ Aside0 (wc.heap[gb378]? = some (.cells #[.bool a1_0, .bool a1_1, .bool a1_2, .int .u64 a1_3, .int .i64 a1_4] 56 (0, 0))) ∧ Aside0 (wc.heap[gb379]? = some (.cells #[.bool a2_0, .bool a2_1, .bool a2_2, .int .u64 a2_3, .int .i64 a2_4] 56 (0, 0))) ∧ Aside0 (Below w.heap.size w wc))
 case first =>
  have H := HC4.out
  clear HC4
  by_cases c8 : a1_2 = true
  ·
   subst c8
   have H1 : (spec_l4K_sum.j0 k true a0_0 a0_1 a1_0 a1_1 true a1_3 a1_4 a2_0 a2_1 a2_2 a2_3 a2_4) = some r := by rw [if_pos rfl] at H; exact H
   clear H
   have H := H1
   clear H1
   have H' := Aside0.mk H
   clear H
   have hnb9 := NB378_377.out
   have hnc9 := NB377_378.out
   have hnb10 := NB378_379.out
   have hnc10 := NB379_378.out
   have hcz11_0 : w7.cell? ⟨gb378, 0, none⟩ = some (.bool a1_0) := (blk_cell BK378.out 0).trans rfl
   have hcz11_1 : w7.cell? ⟨gb378, 1, none⟩ = some (.bool a1_1) := (blk_cell BK378.out 1).trans rfl
   have hcz11_2 : w7.cell? ⟨gb378, 2, none⟩ = some (.bool true) := (blk_cell BK378.out 2).trans rfl
   have hcz11_3 : w7.cell? ⟨gb378, 3, none⟩ = some (.int .u64 a1_3) := (blk_cell BK378.out 3).trans rfl
   have hcz11_4 : w7.cell? ⟨gb378, 4, none⟩ = some (.int .i64 a1_4) := (blk_cell BK378.out 4).trans rfl
   have hfz11_0 := blk_frozen BK378.out 0
   have hfz11_1 := blk_frozen BK378.out 1
   have hfz11_2 := blk_frozen BK378.out 2
   have hfz11_3 := blk_frozen BK378.out 3
   have hfz11_4 := blk_frozen BK378.out 4
   go_wp2
   go_meet
   case rel => exact ⟨_, (true), (by first | rfl | (simp; done) | (simp [*]; done)), H', ⟨by first | omega | exact Nat.le_refl _⟩, ⟨by (with_reducible repeat (first | refine blk_drewN ?_ _ | refine blk_drew ?_ | refine blk_alloc ?_ _)); exact BK377.out⟩, ⟨by (with_reducible repeat (first | refine blk_drewN ?_ _ | refine blk_drew ?_ | refine blk_alloc ?_ _)); exact BK378.out⟩, ⟨by (with_reducible repeat (first | refine blk_drewN ?_ _ | refine blk_drew ?_ | refine blk_alloc ?_ _)); exact BK379.out⟩, ⟨by repeat (first | (with_reducible first | exact HB.out | apply below_alloc | apply pw_below_drewN | apply below_drew1 | refine below_set ?_ GE377.out | refine below_set ?_ GE378.out | refine below_set ?_ GE379.out) | exact HB.out)⟩⟩
  ·
   replace c8 := Bool.eq_false_iff.mpr c8
   subst c8
   have H1 : (if a2_2 = true then (spec_l4K_sum.j0 k true a0_0 a0_1 a1_0 a1_1 false a1_3 a1_4 a2_0 a2_1 a2_2 a2_3 a2_4) else (if a1_1 = true then (if a2_1 = true then (spec_l4K_sum.j0 k (a1_0 != a2_0) a0_0 a0_1 a1_0 a1_1 false a1_3 a1_4 a2_0 a2_1 a2_2 a2_3 a2_4) else (spec_l4K_sum.j0 k false a0_0 a0_1 a1_0 a1_1 false a1_3 a1_4 a2_0 a2_1 a2_2 a2_3 a2_4)) else (spec_l4K_sum.j0 k false a0_0 a0_1 a1_0 a1_1 false a1_3 a1_4 a2_0 a2_1 a2_2 a2_3 a2_4))) = some r := by rw [if_neg (show ¬ (false = true) by decide)] at H; exact H
   clear H
   have H := H1
   clear H1
   by_cases c12 : a2_2 = true
   ·
    subst c12
    have H1 : (spec_l4K_sum.j0 k true a0_0 a0_1 a1_0 a1_1 false a1_3 a1_4 a2_0 a2_1 true a2_3 a2_4) = some r := by rw [if_pos rfl] at H; exact H
    clear H
    have H := H1
    clear H1
    have H' := Aside0.mk H
    clear H
    have hnb13 := NB378_377.out
    have hnc13 := NB377_378.out
    have hnb14 := NB378_379.out
    have hnc14 := NB379_378.out
    have hcz15_0 : w7.cell? ⟨gb378, 0, none⟩ = some (.bool a1_0) := (blk_cell BK378.out 0).trans rfl
    have hcz15_1 : w7.cell? ⟨gb378, 1, none⟩ = some (.bool a1_1) := (blk_cell BK378.out 1).trans rfl
    have hcz15_2 : w7.cell? ⟨gb378, 2, none⟩ = some (.bool false) := (blk_cell BK378.out 2).trans rfl
    have hcz15_3 : w7.cell? ⟨gb378, 3, none⟩ = some (.int .u64 a1_3) := (blk_cell BK378.out 3).trans rfl
    have hcz15_4 : w7.cell? ⟨gb378, 4, none⟩ = some (.int .i64 a1_4) := (blk_cell BK378.out 4).trans rfl
    have hfz15_0 := blk_frozen BK378.out 0
    have hfz15_1 := blk_frozen BK378.out 1
    have hfz15_2 := blk_frozen BK378.out 2
    have hfz15_3 := blk_frozen BK378.out 3
    have hfz15_4 := blk_frozen BK378.out 4
    have hnb16 := NB379_377.out
    have hnc16 := NB377_379.out
    have hcz17_0 : w7.cell? ⟨gb379, 0, none⟩ = some (.bool a2_0) := (blk_cell BK379.out 0).trans rfl
    have hcz17_1 : w7.cell? ⟨gb379, 1, none⟩ = some (.bool a2_1) := (blk_cell BK379.out 1).trans rfl
    have hcz17_2 : w7.cell? ⟨gb379, 2, none⟩ = some (.bool true) := (blk_cell BK379.out 2).trans rfl
    have hcz17_3 : w7.cell? ⟨gb379, 3, none⟩ = some (.int .u64 a2_3) := (blk_cell BK379.out 3).trans rfl
    have hcz17_4 : w7.cell? ⟨gb379, 4, none⟩ = some (.int .i64 a2_4) := (blk_cell BK379.out 4).trans rfl
    have hfz17_0 := blk_frozen BK379.out 0
    have hfz17_1 := blk_frozen BK379.out 1
    have hfz17_2 := blk_frozen BK379.out 2
    have hfz17_3 := blk_frozen BK379.out 3
    have hfz17_4 := blk_frozen BK379.out 4
    go_wp2
    go_meet
    case rel => exact ⟨_, (true), (by first | rfl | (simp; done) | (simp [*]; done)), H', ⟨by first | omega | exact Nat.le_refl _⟩, ⟨by (with_reducible repeat (first | refine blk_drewN ?_ _ | refine blk_drew ?_ | refine blk_alloc ?_ _)); exact BK377.out⟩, ⟨by (with_reducible repeat (first | refine blk_drewN ?_ _ | refine blk_drew ?_ | refine blk_alloc ?_ _)); exact BK378.out⟩, ⟨by (with_reducible repeat (first | refine blk_drewN ?_ _ | refine blk_drew ?_ | refine blk_alloc ?_ _)); exact BK379.out⟩, ⟨by repeat (first | (with_reducible first | exact HB.out | apply below_alloc | apply pw_below_drewN | apply below_drew1 | refine below_set ?_ GE377.out | refine below_set ?_ GE378.out | refine below_set ?_ GE379.out) | exact HB.out)⟩⟩
   ·
    replace c12 := Bool.eq_false_iff.mpr c12
    subst c12
    have H1 : (if a1_1 = true then (if a2_1 = true then (spec_l4K_sum.j0 k (a1_0 != a2_0) a0_0 a0_1 a1_0 a1_1 false a1_3 a1_4 a2_0 a2_1 false a2_3 a2_4) else (spec_l4K_sum.j0 k false a0_0 a0_1 a1_0 a1_1 false a1_3 a1_4 a2_0 a2_1 false a2_3 a2_4)) else (spec_l4K_sum.j0 k false a0_0 a0_1 a1_0 a1_1 false a1_3 a1_4 a2_0 a2_1 false a2_3 a2_4)) = some r := by rw [if_neg (show ¬ (false = true) by decide)] at H; exact H
    clear H
    have H := H1
    clear H1
    by_cases c18 : a1_1 = true
    ·
     subst c18
     have H1 : (if a2_1 = true then (spec_l4K_sum.j0 k (a1_0 != a2_0) a0_0 a0_1 a1_0 true false a1_3 a1_4 a2_0 a2_1 false a2_3 a2_4) else (spec_l4K_sum.j0 k false a0_0 a0_1 a1_0 true false a1_3 a1_4 a2_0 a2_1 false a2_3 a2_4)) = some r := by rw [if_pos rfl] at H; exact H
     clear H
     have H := H1
     clear H1
     by_cases c19 : a2_1 = true
     ·
      subst c19
      have H1 : (spec_l4K_sum.j0 k (a1_0 != a2_0) a0_0 a0_1 a1_0 true false a1_3 a1_4 a2_0 true false a2_3 a2_4) = some r := by rw [if_pos rfl] at H; exact H
      clear H
      have H := H1
      clear H1
      have H' := Aside0.mk H
      clear H
      have hnb20 := NB378_377.out
      have hnc20 := NB377_378.out
      have hnb21 := NB378_379.out
      have hnc21 := NB379_378.out
      have hcz22_0 : w7.cell? ⟨gb378, 0, none⟩ = some (.bool a1_0) := (blk_cell BK378.out 0).trans rfl
      have hcz22_1 : w7.cell? ⟨gb378, 1, none⟩ = some (.bool true) := (blk_cell BK378.out 1).trans rfl
      have hcz22_2 : w7.cell? ⟨gb378, 2, none⟩ = some (.bool false) := (blk_cell BK378.out 2).trans rfl
      have hcz22_3 : w7.cell? ⟨gb378, 3, none⟩ = some (.int .u64 a1_3) := (blk_cell BK378.out 3).trans rfl
      have hcz22_4 : w7.cell? ⟨gb378, 4, none⟩ = some (.int .i64 a1_4) := (blk_cell BK378.out 4).trans rfl
      have hfz22_0 := blk_frozen BK378.out 0
      have hfz22_1 := blk_frozen BK378.out 1
      have hfz22_2 := blk_frozen BK378.out 2
      have hfz22_3 := blk_frozen BK378.out 3
      have hfz22_4 := blk_frozen BK378.out 4
      have hnb23 := NB379_377.out
      have hnc23 := NB377_379.out
      have hcz24_0 : w7.cell? ⟨gb379, 0, none⟩ = some (.bool a2_0) := (blk_cell BK379.out 0).trans rfl
      have hcz24_1 : w7.cell? ⟨gb379, 1, none⟩ = some (.bool true) := (blk_cell BK379.out 1).trans rfl
      have hcz24_2 : w7.cell? ⟨gb379, 2, none⟩ = some (.bool false) := (blk_cell BK379.out 2).trans rfl
      have hcz24_3 : w7.cell? ⟨gb379, 3, none⟩ = some (.int .u64 a2_3) := (blk_cell BK379.out 3).trans rfl
      have hcz24_4 : w7.cell? ⟨gb379, 4, none⟩ = some (.int .i64 a2_4) := (blk_cell BK379.out 4).trans rfl
      have hfz24_0 := blk_frozen BK379.out 0
      have hfz24_1 := blk_frozen BK379.out 1
      have hfz24_2 := blk_frozen BK379.out 2
      have hfz24_3 := blk_frozen BK379.out 3
      have hfz24_4 := blk_frozen BK379.out 4
      go_wp2
      go_meet
      case rel => exact ⟨_, ((a1_0 != a2_0)), (by first | rfl | (simp; done) | (simp [*]; done)), H', ⟨by first | omega | exact Nat.le_refl _⟩, ⟨by (with_reducible repeat (first | refine blk_drewN ?_ _ | refine blk_drew ?_ | refine blk_alloc ?_ _)); exact BK377.out⟩, ⟨by (with_reducible repeat (first | refine blk_drewN ?_ _ | refine blk_drew ?_ | refine blk_alloc ?_ _)); exact BK378.out⟩, ⟨by (with_reducible repeat (first | refine blk_drewN ?_ _ | refine blk_drew ?_ | refine blk_alloc ?_ _)); exact BK379.out⟩, ⟨by repeat (first | (with_reducible first | exact HB.out | apply below_alloc | apply pw_below_drewN | apply below_drew1 | refine below_set ?_ GE377.out | refine below_set ?_ GE378.out | refine below_set ?_ GE379.out) | exact HB.out)⟩⟩
     ·
      replace c19 := Bool.eq_false_iff.mpr c19
      subst c19
      have H1 : (spec_l4K_sum.j0 k false a0_0 a0_1 a1_0 true false a1_3 a1_4 a2_0 false false a2_3 a2_4) = some r := by rw [if_neg (show ¬ (false = true) by decide)] at H; exact H
      clear H
      have H := H1
      clear H1
      have H' := Aside0.mk H
      clear H
      have hnb25 := NB378_377.out
      have hnc25 := NB377_378.out
      have hnb26 := NB378_379.out
      have hnc26 := NB379_378.out
      have hcz27_0 : w7.cell? ⟨gb378, 0, none⟩ = some (.bool a1_0) := (blk_cell BK378.out 0).trans rfl
      have hcz27_1 : w7.cell? ⟨gb378, 1, none⟩ = some (.bool true) := (blk_cell BK378.out 1).trans rfl
      have hcz27_2 : w7.cell? ⟨gb378, 2, none⟩ = some (.bool false) := (blk_cell BK378.out 2).trans rfl
      have hcz27_3 : w7.cell? ⟨gb378, 3, none⟩ = some (.int .u64 a1_3) := (blk_cell BK378.out 3).trans rfl
      have hcz27_4 : w7.cell? ⟨gb378, 4, none⟩ = some (.int .i64 a1_4) := (blk_cell BK378.out 4).trans rfl
      have hfz27_0 := blk_frozen BK378.out 0
      have hfz27_1 := blk_frozen BK378.out 1
      have hfz27_2 := blk_frozen BK378.out 2
      have hfz27_3 := blk_frozen BK378.out 3
      have hfz27_4 := blk_frozen BK378.out 4
      have hnb28 := NB379_377.out
      have hnc28 := NB377_379.out
      have hcz29_0 : w7.cell? ⟨gb379, 0, none⟩ = some (.bool a2_0) := (blk_cell BK379.out 0).trans rfl
      have hcz29_1 : w7.cell? ⟨gb379, 1, none⟩ = some (.bool false) := (blk_cell BK379.out 1).trans rfl
      have hcz29_2 : w7.cell? ⟨gb379, 2, none⟩ = some (.bool false) := (blk_cell BK379.out 2).trans rfl
      have hcz29_3 : w7.cell? ⟨gb379, 3, none⟩ = some (.int .u64 a2_3) := (blk_cell BK379.out 3).trans rfl
      have hcz29_4 : w7.cell? ⟨gb379, 4, none⟩ = some (.int .i64 a2_4) := (blk_cell BK379.out 4).trans rfl
      have hfz29_0 := blk_frozen BK379.out 0
      have hfz29_1 := blk_frozen BK379.out 1
      have hfz29_2 := blk_frozen BK379.out 2
      have hfz29_3 := blk_frozen BK379.out 3
      have hfz29_4 := blk_frozen BK379.out 4
      go_wp2
      go_meet
      case rel => exact ⟨_, (false), (by first | rfl | (simp; done) | (simp [*]; done)), H', ⟨by first | omega | exact Nat.le_refl _⟩, ⟨by (with_reducible repeat (first | refine blk_drewN ?_ _ | refine blk_drew ?_ | refine blk_alloc ?_ _)); exact BK377.out⟩, ⟨by (with_reducible repeat (first | refine blk_drewN ?_ _ | refine blk_drew ?_ | refine blk_alloc ?_ _)); exact BK378.out⟩, ⟨by (with_reducible repeat (first | refine blk_drewN ?_ _ | refine blk_drew ?_ | refine blk_alloc ?_ _)); exact BK379.out⟩, ⟨by repeat (first | (with_reducible first | exact HB.out | apply below_alloc | apply pw_below_drewN | apply below_drew1 | refine below_set ?_ GE377.out | refine below_set ?_ GE378.out | refine below_set ?_ GE379.out) | exact HB.out)⟩⟩
    ·
     replace c18 := Bool.eq_false_iff.mpr c18
     subst c18
     have H1 : (spec_l4K_sum.j0 k false a0_0 a0_1 a1_0 false false a1_3 a1_4 a2_0 a2_1 false a2_3 a2_4) = some r := by rw [if_neg (show ¬ (false = true) by decide)] at H; exact H
     clear H
     have H := H1
     clear H1
     have H' := Aside0.mk H
     clear H
     have hnb30 := NB378_377.out
     have hnc30 := NB377_378.out
     have hnb31 := NB378_379.out
     have hnc31 := NB379_378.out
     have hcz32_0 : w7.cell? ⟨gb378, 0, none⟩ = some (.bool a1_0) := (blk_cell BK378.out 0).trans rfl
     have hcz32_1 : w7.cell? ⟨gb378, 1, none⟩ = some (.bool false) := (blk_cell BK378.out 1).trans rfl
     have hcz32_2 : w7.cell? ⟨gb378, 2, none⟩ = some (.bool false) := (blk_cell BK378.out 2).trans rfl
     have hcz32_3 : w7.cell? ⟨gb378, 3, none⟩ = some (.int .u64 a1_3) := (blk_cell BK378.out 3).trans rfl
     have hcz32_4 : w7.cell? ⟨gb378, 4, none⟩ = some (.int .i64 a1_4) := (blk_cell BK378.out 4).trans rfl
     have hfz32_0 := blk_frozen BK378.out 0
     have hfz32_1 := blk_frozen BK378.out 1
     have hfz32_2 := blk_frozen BK378.out 2
     have hfz32_3 := blk_frozen BK378.out 3
     have hfz32_4 := blk_frozen BK378.out 4
     have hnb33 := NB379_377.out
     have hnc33 := NB377_379.out
     have hcz34_0 : w7.cell? ⟨gb379, 0, none⟩ = some (.bool a2_0) := (blk_cell BK379.out 0).trans rfl
     have hcz34_1 : w7.cell? ⟨gb379, 1, none⟩ = some (.bool a2_1) := (blk_cell BK379.out 1).trans rfl
     have hcz34_2 : w7.cell? ⟨gb379, 2, none⟩ = some (.bool false) := (blk_cell BK379.out 2).trans rfl
     have hcz34_3 : w7.cell? ⟨gb379, 3, none⟩ = some (.int .u64 a2_3) := (blk_cell BK379.out 3).trans rfl
     have hcz34_4 : w7.cell? ⟨gb379, 4, none⟩ = some (.int .i64 a2_4) := (blk_cell BK379.out 4).trans rfl
     have hfz34_0 := blk_frozen BK379.out 0
     have hfz34_1 := blk_frozen BK379.out 1
     have hfz34_2 := blk_frozen BK379.out 2
     have hfz34_3 := blk_frozen BK379.out 3
     have hfz34_4 := blk_frozen BK379.out 4
     go_wp2
     go_meet
     case rel => exact ⟨_, (false), (by first | rfl | (simp; done) | (simp [*]; done)), H', ⟨by first | omega | exact Nat.le_refl _⟩, ⟨by (with_reducible repeat (first | refine blk_drewN ?_ _ | refine blk_drew ?_ | refine blk_alloc ?_ _)); exact BK377.out⟩, ⟨by (with_reducible repeat (first | refine blk_drewN ?_ _ | refine blk_drew ?_ | refine blk_alloc ?_ _)); exact BK378.out⟩, ⟨by (with_reducible repeat (first | refine blk_drewN ?_ _ | refine blk_drew ?_ | refine blk_alloc ?_ _)); exact BK379.out⟩, ⟨by repeat (first | (with_reducible first | exact HB.out | apply below_alloc | apply pw_below_drewN | apply below_drew1 | refine below_set ?_ GE377.out | refine below_set ?_ GE378.out | refine below_set ?_ GE379.out) | exact HB.out)⟩⟩
 case rest =>
  clear HC4
  try clear c1
  try clear c2
  try clear p2
  try clear c3
  try clear c6
  try clear c8
  try clear c9
  try clear c10
  try clear c12
  try clear c13
  try clear c14
  try clear c16
  try clear c18
  try clear c19
  try clear c20
  try clear c21
  try clear c23
  try clear c25
  try clear c26
  try clear c28
  try clear c30
  try clear c31
  try clear c33
  try clear hcz11_0 hcz11_1 hcz11_2 hcz11_3 hcz11_4
  try clear hcz15_0 hcz15_1 hcz15_2 hcz15_3 hcz15_4
  try clear hcz17_0 hcz17_1 hcz17_2 hcz17_3 hcz17_4
  try clear hcz22_0 hcz22_1 hcz22_2 hcz22_3 hcz22_4
  try clear hcz24_0 hcz24_1 hcz24_2 hcz24_3 hcz24_4
  try clear hcz27_0 hcz27_1 hcz27_2 hcz27_3 hcz27_4
  try clear hcz29_0 hcz29_1 hcz29_2 hcz29_3 hcz29_4
  try clear hcz32_0 hcz32_1 hcz32_2 hcz32_3 hcz32_4
  try clear hcz34_0 hcz34_1 hcz34_2 hcz34_3 hcz34_4
  try clear hfz11_0 hfz11_1 hfz11_2 hfz11_3 hfz11_4
  try clear hfz15_0 hfz15_1 hfz15_2 hfz15_3 hfz15_4
  try clear hfz17_0 hfz17_1 hfz17_2 hfz17_3 hfz17_4
  try clear hfz22_0 hfz22_1 hfz22_2 hfz22_3 hfz22_4
  try clear hfz24_0 hfz24_1 hfz24_2 hfz24_3 hfz24_4
  try clear hfz27_0 hfz27_1 hfz27_2 hfz27_3 hfz27_4
  try clear hfz29_0 hfz29_1 hfz29_2 hfz29_3 hfz29_4
  try clear hfz32_0 hfz32_1 hfz32_2 hfz32_3 hfz32_4
  try clear hfz34_0 hfz34_1 hfz34_2 hfz34_3 hfz34_4
  obtain ⟨kq, x10_3, rfl, HA, HJ3, BK377, BK378, BK379, HB⟩ := hcut
  cases kq with
  | zero => exact absurd HA.out (by simp [spec_l4K_sum.j0])
  | succ kj3 =>
   have H := HA.out
   clear HA
   simp only [spec_l4K_sum.j0] at H
   by_cases c35 : x10_3 = true
   ·
    subst c35
    have H1 : ((spec_l4K_nan.f a0_0 a0_1).bind fun t380 => (some t380)) = some r := by rw [if_pos rfl] at H; exact H
    clear H
    have H := H1
    clear H1
    replace H := Option.bind_eq_some_iff.mp H
    obtain ⟨t380, A360, H⟩ := H
    replace H : (some t380) = some r := H
    have A36 := Aside0.mk A360
    clear A360
    obtain rfl := Option.some.inj H
    simp only [Option.some.injEq, Prod.mk.injEq] at H
    obtain ⟨rfl⟩ := H
    have hnb37 := NB377_378.out
    have hnc37 := NB378_377.out
    have hnb38 := NB377_379.out
    have hnc38 := NB379_377.out
    have hcz39_0 : wc.cell? ⟨gb377, 0, none⟩ = some (.int .u64 a0_0) := (blk_cell BK377.out 0).trans rfl
    have hcz39_1 : wc.cell? ⟨gb377, 1, none⟩ = some (.int .u64 a0_1) := (blk_cell BK377.out 1).trans rfl
    have hfz39_0 := blk_frozen BK377.out 0
    have hfz39_1 := blk_frozen BK377.out 1
    go_wp2_with (first | ((with_reducible refine gate_callee (f := 48) rfl ?_); refine goesL_ (some 33) rfl rfl Try.func48 (by kernel_rfl) rfl #[.agg #[.int .u64 a0_0, .int .u64 a0_1]] rfl (by (try simp only [List.map_toArray, List.map_cons, List.map_nil]); first | done | rfl | (simp only [List.length_drop, List.length_take]; rfl)) ?_; (with_reducible refine (spec_l4K_nan.calls a0_0 a0_1 t380 _ A36.out).mono ?_); rintro e w40 ⟨rfl, hb⟩; refine ⟨_, rfl, ?_⟩; have n0_ := Aside0.mk (blk_below (g := gb377) (o := .cells #[.int .u64 a0_0, .int .u64 a0_1] 52 (0, 0)) (by (with_reducible repeat (first | refine blk_drewN ?_ _ | refine blk_drew ?_ | refine blk_alloc ?_ _)); exact BK377.out) hb); have n1_ := Aside0.mk (blk_below (g := gb378) (o := .cells #[.bool a1_0, .bool a1_1, .bool a1_2, .int .u64 a1_3, .int .i64 a1_4] 56 (0, 0)) (by (with_reducible repeat (first | refine blk_drewN ?_ _ | refine blk_drew ?_ | refine blk_alloc ?_ _)); exact BK378.out) hb); have n2_ := Aside0.mk (blk_below (g := gb379) (o := .cells #[.bool a2_0, .bool a2_1, .bool a2_2, .int .u64 a2_3, .int .i64 a2_4] 56 (0, 0)) (by (with_reducible repeat (first | refine blk_drewN ?_ _ | refine blk_drew ?_ | refine blk_alloc ?_ _)); exact BK379.out) hb); have n3_ := Aside0.mk (below_step (by repeat (first | (with_reducible first | exact HB.out | apply below_alloc | apply pw_below_drewN | apply below_drew1 | refine below_set ?_ GE377.out | refine below_set ?_ GE378.out | refine below_set ?_ GE379.out) | exact HB.out)) hb); clear BK377; clear BK378; clear BK379; clear HB; have BK377 := n0_; have BK378 := n1_; have BK379 := n2_; have HB := n3_; clear n0_ n1_ n2_ n3_; (try clear hb); (try clear hb2); (try clear hk); (try clear hi)))
    go_ret
    exact ⟨by first | rfl | (simp [errW_none, errW_some] <;> rfl) | (simp [*, errW_none, errW_some] <;> rfl), by repeat (first | (with_reducible first | exact HB.out | apply below_alloc | apply pw_below_drewN | apply below_drew1 | refine below_set ?_ GE377.out | refine below_set ?_ GE378.out | refine below_set ?_ GE379.out) | exact HB.out)⟩
   ·
    replace c35 := Bool.eq_false_iff.mpr c35
    subst c35
    have H1 : (if a1_1 = true then ((spec_l4K_inf.f a0_0 a0_1 a1_0).bind fun t381 => (some t381)) else (if a2_1 = true then ((spec_l4K_inf.f a0_0 a0_1 a2_0).bind fun t382 => (some t382)) else (if a1_4 < a2_4 then ((spec_l4K_sum.f kj3 a0_0 a0_1 a2_0 a2_1 a2_2 a2_3 a2_4 a1_0 a1_1 a1_2 a1_3 a1_4).bind fun t383 => (some t383)) else (if (IntKind.u64.wrap (wrap64 (a1_4 - a2_4))) ≤ 30 then (if 0 ≤ (IntKind.u64.wrap (wrap64 (a1_4 - a2_4))) then (spec_l4K_sum.j1 kj3 false a0_0 a0_1 a1_0 a1_1 a1_2 (shl .u64 a1_3 (IntKind.u64.wrap (wrap64 (a1_4 - a2_4)))) a1_4 a2_0 a2_1 a2_2 a2_3 a2_4) else (none)) else (if (IntKind.u64.wrap ((IntKind.u64.wrap (wrap64 (a1_4 - a2_4))) - 30)) > 60 then (spec_l4K_sum.j1 kj3 (a2_3 != 0) a0_0 a0_1 a1_0 a1_1 a1_2 (IntKind.u64.wrap (a1_3 * 1073741824)) a1_4 a2_0 a2_1 a2_2 0 (wrap64 (a1_4 - 30))) else (if 0 ≤ (IntKind.u64.wrap ((IntKind.u64.wrap (wrap64 (a1_4 - a2_4))) - 30)) then (spec_l4K_sum.j1 kj3 ((Go.bits .and .u64 a2_3 (IntKind.u64.wrap ((shl .u64 1 (IntKind.u64.wrap ((IntKind.u64.wrap (wrap64 (a1_4 - a2_4))) - 30))) - 1))) != 0) a0_0 a0_1 a1_0 a1_1 a1_2 (IntKind.u64.wrap (a1_3 * 1073741824)) a1_4 a2_0 a2_1 a2_2 (shr .u64 a2_3 (IntKind.u64.wrap ((IntKind.u64.wrap (wrap64 (a1_4 - a2_4))) - 30))) (wrap64 (a1_4 - 30))) else (none))))))) = some r := by rw [if_neg (show ¬ (false = true) by decide)] at H; exact H
    clear H
    have H := H1
    clear H1
    by_cases c41 : a1_1 = true
    ·
     subst c41
     have H1 : ((spec_l4K_inf.f a0_0 a0_1 a1_0).bind fun t381 => (some t381)) = some r := by rw [if_pos rfl] at H; exact H
     clear H
     have H := H1
     clear H1
     replace H := Option.bind_eq_some_iff.mp H
     obtain ⟨t381, A420, H⟩ := H
     replace H : (some t381) = some r := H
     have A42 := Aside0.mk A420
     clear A420
     obtain rfl := Option.some.inj H
     simp only [Option.some.injEq, Prod.mk.injEq] at H
     obtain ⟨rfl⟩ := H
     have hnb43 := NB378_377.out
     have hnc43 := NB377_378.out
     have hnb44 := NB378_379.out
     have hnc44 := NB379_378.out
     have hcz45_0 : wc.cell? ⟨gb378, 0, none⟩ = some (.bool a1_0) := (blk_cell BK378.out 0).trans rfl
     have hcz45_1 : wc.cell? ⟨gb378, 1, none⟩ = some (.bool true) := (blk_cell BK378.out 1).trans rfl
     have hcz45_2 : wc.cell? ⟨gb378, 2, none⟩ = some (.bool a1_2) := (blk_cell BK378.out 2).trans rfl
     have hcz45_3 : wc.cell? ⟨gb378, 3, none⟩ = some (.int .u64 a1_3) := (blk_cell BK378.out 3).trans rfl
     have hcz45_4 : wc.cell? ⟨gb378, 4, none⟩ = some (.int .i64 a1_4) := (blk_cell BK378.out 4).trans rfl
     have hfz45_0 := blk_frozen BK378.out 0
     have hfz45_1 := blk_frozen BK378.out 1
     have hfz45_2 := blk_frozen BK378.out 2
     have hfz45_3 := blk_frozen BK378.out 3
     have hfz45_4 := blk_frozen BK378.out 4
     have hnb46 := NB377_379.out
     have hnc46 := NB379_377.out
     have hcz47_0 : wc.cell? ⟨gb377, 0, none⟩ = some (.int .u64 a0_0) := (blk_cell BK377.out 0).trans rfl
     have hcz47_1 : wc.cell? ⟨gb377, 1, none⟩ = some (.int .u64 a0_1) := (blk_cell BK377.out 1).trans rfl
     have hfz47_0 := blk_frozen BK377.out 0
     have hfz47_1 := blk_frozen BK377.out 1
     go_wp2_with (first | ((with_reducible refine gate_callee (f := 49) rfl ?_); refine goesL_ (some 40) rfl rfl Try.func49 (by kernel_rfl) rfl #[.agg #[.int .u64 a0_0, .int .u64 a0_1], .bool a1_0] rfl (by (try simp only [List.map_toArray, List.map_cons, List.map_nil]); first | done | rfl | (simp only [List.length_drop, List.length_take]; rfl)) ?_; (with_reducible refine (spec_l4K_inf.calls a0_0 a0_1 a1_0 t381 _ A42.out).mono ?_); rintro e w48 ⟨rfl, hb⟩; refine ⟨_, rfl, ?_⟩; have n0_ := Aside0.mk (blk_below (g := gb377) (o := .cells #[.int .u64 a0_0, .int .u64 a0_1] 52 (0, 0)) (by (with_reducible repeat (first | refine blk_drewN ?_ _ | refine blk_drew ?_ | refine blk_alloc ?_ _)); exact BK377.out) hb); have n1_ := Aside0.mk (blk_below (g := gb378) (o := .cells #[.bool a1_0, .bool true, .bool a1_2, .int .u64 a1_3, .int .i64 a1_4] 56 (0, 0)) (by (with_reducible repeat (first | refine blk_drewN ?_ _ | refine blk_drew ?_ | refine blk_alloc ?_ _)); exact BK378.out) hb); have n2_ := Aside0.mk (blk_below (g := gb379) (o := .cells #[.bool a2_0, .bool a2_1, .bool a2_2, .int .u64 a2_3, .int .i64 a2_4] 56 (0, 0)) (by (with_reducible repeat (first | refine blk_drewN ?_ _ | refine blk_drew ?_ | refine blk_alloc ?_ _)); exact BK379.out) hb); have n3_ := Aside0.mk (below_step (by repeat (first | (with_reducible first | exact HB.out | apply below_alloc | apply pw_below_drewN | apply below_drew1 | refine below_set ?_ GE377.out | refine below_set ?_ GE378.out | refine below_set ?_ GE379.out) | exact HB.out)) hb); clear BK377; clear BK378; clear BK379; clear HB; have BK377 := n0_; have BK378 := n1_; have BK379 := n2_; have HB := n3_; clear n0_ n1_ n2_ n3_; (try clear hb); (try clear hb2); (try clear hk); (try clear hi)))
     go_ret
     exact ⟨by first | rfl | (simp [errW_none, errW_some] <;> rfl) | (simp [*, errW_none, errW_some] <;> rfl), by repeat (first | (with_reducible first | exact HB.out | apply below_alloc | apply pw_below_drewN | apply below_drew1 | refine below_set ?_ GE377.out | refine below_set ?_ GE378.out | refine below_set ?_ GE379.out) | exact HB.out)⟩
    ·
     replace c41 := Bool.eq_false_iff.mpr c41
     subst c41
     have H1 : (if a2_1 = true then ((spec_l4K_inf.f a0_0 a0_1 a2_0).bind fun t382 => (some t382)) else (if a1_4 < a2_4 then ((spec_l4K_sum.f kj3 a0_0 a0_1 a2_0 a2_1 a2_2 a2_3 a2_4 a1_0 false a1_2 a1_3 a1_4).bind fun t383 => (some t383)) else (if (IntKind.u64.wrap (wrap64 (a1_4 - a2_4))) ≤ 30 then (if 0 ≤ (IntKind.u64.wrap (wrap64 (a1_4 - a2_4))) then (spec_l4K_sum.j1 kj3 false a0_0 a0_1 a1_0 false a1_2 (shl .u64 a1_3 (IntKind.u64.wrap (wrap64 (a1_4 - a2_4)))) a1_4 a2_0 a2_1 a2_2 a2_3 a2_4) else (none)) else (if (IntKind.u64.wrap ((IntKind.u64.wrap (wrap64 (a1_4 - a2_4))) - 30)) > 60 then (spec_l4K_sum.j1 kj3 (a2_3 != 0) a0_0 a0_1 a1_0 false a1_2 (IntKind.u64.wrap (a1_3 * 1073741824)) a1_4 a2_0 a2_1 a2_2 0 (wrap64 (a1_4 - 30))) else (if 0 ≤ (IntKind.u64.wrap ((IntKind.u64.wrap (wrap64 (a1_4 - a2_4))) - 30)) then (spec_l4K_sum.j1 kj3 ((Go.bits .and .u64 a2_3 (IntKind.u64.wrap ((shl .u64 1 (IntKind.u64.wrap ((IntKind.u64.wrap (wrap64 (a1_4 - a2_4))) - 30))) - 1))) != 0) a0_0 a0_1 a1_0 false a1_2 (IntKind.u64.wrap (a1_3 * 1073741824)) a1_4 a2_0 a2_1 a2_2 (shr .u64 a2_3 (IntKind.u64.wrap ((IntKind.u64.wrap (wrap64 (a1_4 - a2_4))) - 30))) (wrap64 (a1_4 - 30))) else (none)))))) = some r := by rw [if_neg (show ¬ (false = true) by decide)] at H; exact H
     clear H
     have H := H1
     clear H1
     by_cases c49 : a2_1 = true
     ·
      subst c49
      have H1 : ((spec_l4K_inf.f a0_0 a0_1 a2_0).bind fun t382 => (some t382)) = some r := by rw [if_pos rfl] at H; exact H
      clear H
      have H := H1
      clear H1
      replace H := Option.bind_eq_some_iff.mp H
      obtain ⟨t382, A500, H⟩ := H
      replace H : (some t382) = some r := H
      have A50 := Aside0.mk A500
      clear A500
      obtain rfl := Option.some.inj H
      simp only [Option.some.injEq, Prod.mk.injEq] at H
      obtain ⟨rfl⟩ := H
      have hnb51 := NB378_377.out
      have hnc51 := NB377_378.out
      have hnb52 := NB378_379.out
      have hnc52 := NB379_378.out
      have hcz53_0 : wc.cell? ⟨gb378, 0, none⟩ = some (.bool a1_0) := (blk_cell BK378.out 0).trans rfl
      have hcz53_1 : wc.cell? ⟨gb378, 1, none⟩ = some (.bool false) := (blk_cell BK378.out 1).trans rfl
      have hcz53_2 : wc.cell? ⟨gb378, 2, none⟩ = some (.bool a1_2) := (blk_cell BK378.out 2).trans rfl
      have hcz53_3 : wc.cell? ⟨gb378, 3, none⟩ = some (.int .u64 a1_3) := (blk_cell BK378.out 3).trans rfl
      have hcz53_4 : wc.cell? ⟨gb378, 4, none⟩ = some (.int .i64 a1_4) := (blk_cell BK378.out 4).trans rfl
      have hfz53_0 := blk_frozen BK378.out 0
      have hfz53_1 := blk_frozen BK378.out 1
      have hfz53_2 := blk_frozen BK378.out 2
      have hfz53_3 := blk_frozen BK378.out 3
      have hfz53_4 := blk_frozen BK378.out 4
      have hnb54 := NB379_377.out
      have hnc54 := NB377_379.out
      have hcz55_0 : wc.cell? ⟨gb379, 0, none⟩ = some (.bool a2_0) := (blk_cell BK379.out 0).trans rfl
      have hcz55_1 : wc.cell? ⟨gb379, 1, none⟩ = some (.bool true) := (blk_cell BK379.out 1).trans rfl
      have hcz55_2 : wc.cell? ⟨gb379, 2, none⟩ = some (.bool a2_2) := (blk_cell BK379.out 2).trans rfl
      have hcz55_3 : wc.cell? ⟨gb379, 3, none⟩ = some (.int .u64 a2_3) := (blk_cell BK379.out 3).trans rfl
      have hcz55_4 : wc.cell? ⟨gb379, 4, none⟩ = some (.int .i64 a2_4) := (blk_cell BK379.out 4).trans rfl
      have hfz55_0 := blk_frozen BK379.out 0
      have hfz55_1 := blk_frozen BK379.out 1
      have hfz55_2 := blk_frozen BK379.out 2
      have hfz55_3 := blk_frozen BK379.out 3
      have hfz55_4 := blk_frozen BK379.out 4
      have hcz56_0 : wc.cell? ⟨gb377, 0, none⟩ = some (.int .u64 a0_0) := (blk_cell BK377.out 0).trans rfl
      have hcz56_1 : wc.cell? ⟨gb377, 1, none⟩ = some (.int .u64 a0_1) := (blk_cell BK377.out 1).trans rfl
      have hfz56_0 := blk_frozen BK377.out 0
      have hfz56_1 := blk_frozen BK377.out 1
      go_wp2_with (first | ((with_reducible refine gate_callee (f := 49) rfl ?_); refine goesL_ (some 47) rfl rfl Try.func49 (by kernel_rfl) rfl #[.agg #[.int .u64 a0_0, .int .u64 a0_1], .bool a2_0] rfl (by (try simp only [List.map_toArray, List.map_cons, List.map_nil]); first | done | rfl | (simp only [List.length_drop, List.length_take]; rfl)) ?_; (with_reducible refine (spec_l4K_inf.calls a0_0 a0_1 a2_0 t382 _ A50.out).mono ?_); rintro e w57 ⟨rfl, hb⟩; refine ⟨_, rfl, ?_⟩; have n0_ := Aside0.mk (blk_below (g := gb377) (o := .cells #[.int .u64 a0_0, .int .u64 a0_1] 52 (0, 0)) (by (with_reducible repeat (first | refine blk_drewN ?_ _ | refine blk_drew ?_ | refine blk_alloc ?_ _)); exact BK377.out) hb); have n1_ := Aside0.mk (blk_below (g := gb378) (o := .cells #[.bool a1_0, .bool false, .bool a1_2, .int .u64 a1_3, .int .i64 a1_4] 56 (0, 0)) (by (with_reducible repeat (first | refine blk_drewN ?_ _ | refine blk_drew ?_ | refine blk_alloc ?_ _)); exact BK378.out) hb); have n2_ := Aside0.mk (blk_below (g := gb379) (o := .cells #[.bool a2_0, .bool true, .bool a2_2, .int .u64 a2_3, .int .i64 a2_4] 56 (0, 0)) (by (with_reducible repeat (first | refine blk_drewN ?_ _ | refine blk_drew ?_ | refine blk_alloc ?_ _)); exact BK379.out) hb); have n3_ := Aside0.mk (below_step (by repeat (first | (with_reducible first | exact HB.out | apply below_alloc | apply pw_below_drewN | apply below_drew1 | refine below_set ?_ GE377.out | refine below_set ?_ GE378.out | refine below_set ?_ GE379.out) | exact HB.out)) hb); clear BK377; clear BK378; clear BK379; clear HB; have BK377 := n0_; have BK378 := n1_; have BK379 := n2_; have HB := n3_; clear n0_ n1_ n2_ n3_; (try clear hb); (try clear hb2); (try clear hk); (try clear hi)))
      go_ret
      exact ⟨by first | rfl | (simp [errW_none, errW_some] <;> rfl) | (simp [*, errW_none, errW_some] <;> rfl), by repeat (first | (with_reducible first | exact HB.out | apply below_alloc | apply pw_below_drewN | apply below_drew1 | refine below_set ?_ GE377.out | refine below_set ?_ GE378.out | refine below_set ?_ GE379.out) | exact HB.out)⟩
     ·
      replace c49 := Bool.eq_false_iff.mpr c49
      subst c49
      have H1 : (if a1_4 < a2_4 then ((spec_l4K_sum.f kj3 a0_0 a0_1 a2_0 false a2_2 a2_3 a2_4 a1_0 false a1_2 a1_3 a1_4).bind fun t383 => (some t383)) else (if (IntKind.u64.wrap (wrap64 (a1_4 - a2_4))) ≤ 30 then (if 0 ≤ (IntKind.u64.wrap (wrap64 (a1_4 - a2_4))) then (spec_l4K_sum.j1 kj3 false a0_0 a0_1 a1_0 false a1_2 (shl .u64 a1_3 (IntKind.u64.wrap (wrap64 (a1_4 - a2_4)))) a1_4 a2_0 false a2_2 a2_3 a2_4) else (none)) else (if (IntKind.u64.wrap ((IntKind.u64.wrap (wrap64 (a1_4 - a2_4))) - 30)) > 60 then (spec_l4K_sum.j1 kj3 (a2_3 != 0) a0_0 a0_1 a1_0 false a1_2 (IntKind.u64.wrap (a1_3 * 1073741824)) a1_4 a2_0 false a2_2 0 (wrap64 (a1_4 - 30))) else (if 0 ≤ (IntKind.u64.wrap ((IntKind.u64.wrap (wrap64 (a1_4 - a2_4))) - 30)) then (spec_l4K_sum.j1 kj3 ((Go.bits .and .u64 a2_3 (IntKind.u64.wrap ((shl .u64 1 (IntKind.u64.wrap ((IntKind.u64.wrap (wrap64 (a1_4 - a2_4))) - 30))) - 1))) != 0) a0_0 a0_1 a1_0 false a1_2 (IntKind.u64.wrap (a1_3 * 1073741824)) a1_4 a2_0 false a2_2 (shr .u64 a2_3 (IntKind.u64.wrap ((IntKind.u64.wrap (wrap64 (a1_4 - a2_4))) - 30))) (wrap64 (a1_4 - 30))) else (none))))) = some r := by rw [if_neg (show ¬ (false = true) by decide)] at H; exact H
      clear H
      have H := H1
      clear H1
      by_cases c58 : a1_4 < a2_4
      ·
       rw [if_pos c58] at H
       have c58b0 : decide (a1_4 < a2_4) = true := decide_eq_true c58
       clear c58
       replace H := Option.bind_eq_some_iff.mp H
       obtain ⟨t383, A590, H⟩ := H
       replace H : (some t383) = some r := H
       have A59 := Aside0.mk A590
       clear A590
       obtain rfl := Option.some.inj H
       simp only [Option.some.injEq, Prod.mk.injEq] at H
       obtain ⟨rfl⟩ := H
       have hnb60 := NB378_377.out
       have hnc60 := NB377_378.out
       have hnb61 := NB378_379.out
       have hnc61 := NB379_378.out
       have hcz62_0 : wc.cell? ⟨gb378, 0, none⟩ = some (.bool a1_0) := (blk_cell BK378.out 0).trans rfl
       have hcz62_1 : wc.cell? ⟨gb378, 1, none⟩ = some (.bool false) := (blk_cell BK378.out 1).trans rfl
       have hcz62_2 : wc.cell? ⟨gb378, 2, none⟩ = some (.bool a1_2) := (blk_cell BK378.out 2).trans rfl
       have hcz62_3 : wc.cell? ⟨gb378, 3, none⟩ = some (.int .u64 a1_3) := (blk_cell BK378.out 3).trans rfl
       have hcz62_4 : wc.cell? ⟨gb378, 4, none⟩ = some (.int .i64 a1_4) := (blk_cell BK378.out 4).trans rfl
       have hfz62_0 := blk_frozen BK378.out 0
       have hfz62_1 := blk_frozen BK378.out 1
       have hfz62_2 := blk_frozen BK378.out 2
       have hfz62_3 := blk_frozen BK378.out 3
       have hfz62_4 := blk_frozen BK378.out 4
       have hnb63 := NB379_377.out
       have hnc63 := NB377_379.out
       have hcz64_0 : wc.cell? ⟨gb379, 0, none⟩ = some (.bool a2_0) := (blk_cell BK379.out 0).trans rfl
       have hcz64_1 : wc.cell? ⟨gb379, 1, none⟩ = some (.bool false) := (blk_cell BK379.out 1).trans rfl
       have hcz64_2 : wc.cell? ⟨gb379, 2, none⟩ = some (.bool a2_2) := (blk_cell BK379.out 2).trans rfl
       have hcz64_3 : wc.cell? ⟨gb379, 3, none⟩ = some (.int .u64 a2_3) := (blk_cell BK379.out 3).trans rfl
       have hcz64_4 : wc.cell? ⟨gb379, 4, none⟩ = some (.int .i64 a2_4) := (blk_cell BK379.out 4).trans rfl
       have hfz64_0 := blk_frozen BK379.out 0
       have hfz64_1 := blk_frozen BK379.out 1
       have hfz64_2 := blk_frozen BK379.out 2
       have hfz64_3 := blk_frozen BK379.out 3
       have hfz64_4 := blk_frozen BK379.out 4
       have hcz65_0 : wc.cell? ⟨gb377, 0, none⟩ = some (.int .u64 a0_0) := (blk_cell BK377.out 0).trans rfl
       have hcz65_1 : wc.cell? ⟨gb377, 1, none⟩ = some (.int .u64 a0_1) := (blk_cell BK377.out 1).trans rfl
       have hfz65_0 := blk_frozen BK377.out 0
       have hfz65_1 := blk_frozen BK377.out 1
       go_wp2_with (first | ((with_reducible refine gate_callee (f := 66) rfl ?_); refine goesL_ (some 56) rfl rfl Try.func66 (by kernel_rfl) rfl #[.agg #[.int .u64 a0_0, .int .u64 a0_1], .agg #[.bool a2_0, .bool false, .bool a2_2, .int .u64 a2_3, .int .i64 a2_4], .agg #[.bool a1_0, .bool false, .bool a1_2, .int .u64 a1_3, .int .i64 a1_4]] rfl (by (try simp only [List.map_toArray, List.map_cons, List.map_nil]); first | done | rfl | (simp only [List.length_drop, List.length_take]; rfl)) ?_; (with_reducible refine (ih kj3 (by have := HJ3.out; omega) a0_0 a0_1 a2_0 false a2_2 a2_3 a2_4 a1_0 false a1_2 a1_3 a1_4 t383 _ A59.out).mono ?_); rintro e w66 ⟨rfl, hb⟩; refine ⟨_, rfl, ?_⟩; have n0_ := Aside0.mk (blk_below (g := gb377) (o := .cells #[.int .u64 a0_0, .int .u64 a0_1] 52 (0, 0)) (by (with_reducible repeat (first | refine blk_drewN ?_ _ | refine blk_drew ?_ | refine blk_alloc ?_ _)); exact BK377.out) hb); have n1_ := Aside0.mk (blk_below (g := gb378) (o := .cells #[.bool a1_0, .bool false, .bool a1_2, .int .u64 a1_3, .int .i64 a1_4] 56 (0, 0)) (by (with_reducible repeat (first | refine blk_drewN ?_ _ | refine blk_drew ?_ | refine blk_alloc ?_ _)); exact BK378.out) hb); have n2_ := Aside0.mk (blk_below (g := gb379) (o := .cells #[.bool a2_0, .bool false, .bool a2_2, .int .u64 a2_3, .int .i64 a2_4] 56 (0, 0)) (by (with_reducible repeat (first | refine blk_drewN ?_ _ | refine blk_drew ?_ | refine blk_alloc ?_ _)); exact BK379.out) hb); have n3_ := Aside0.mk (below_step (by repeat (first | (with_reducible first | exact HB.out | apply below_alloc | apply pw_below_drewN | apply below_drew1 | refine below_set ?_ GE377.out | refine below_set ?_ GE378.out | refine below_set ?_ GE379.out) | exact HB.out)) hb); clear BK377; clear BK378; clear BK379; clear HB; have BK377 := n0_; have BK378 := n1_; have BK379 := n2_; have HB := n3_; clear n0_ n1_ n2_ n3_; (try clear hb); (try clear hb2); (try clear hk); (try clear hi)))
       go_ret
       exact ⟨by first | rfl | (simp [errW_none, errW_some] <;> rfl) | (simp [*, errW_none, errW_some] <;> rfl), by repeat (first | (with_reducible first | exact HB.out | apply below_alloc | apply pw_below_drewN | apply below_drew1 | refine below_set ?_ GE377.out | refine below_set ?_ GE378.out | refine below_set ?_ GE379.out) | exact HB.out)⟩
      ·
       rw [if_neg c58] at H
       have c58b0 : decide (a1_4 < a2_4) = false := decide_eq_false c58
       clear c58
       have HC67 := Aside0.mk H
       clear H
       have hnb68 := NB378_377.out
       have hnc68 := NB377_378.out
       have hnb69 := NB378_379.out
       have hnc69 := NB379_378.out
       have hcz70_0 : wc.cell? ⟨gb378, 0, none⟩ = some (.bool a1_0) := (blk_cell BK378.out 0).trans rfl
       have hcz70_1 : wc.cell? ⟨gb378, 1, none⟩ = some (.bool false) := (blk_cell BK378.out 1).trans rfl
       have hcz70_2 : wc.cell? ⟨gb378, 2, none⟩ = some (.bool a1_2) := (blk_cell BK378.out 2).trans rfl
       have hcz70_3 : wc.cell? ⟨gb378, 3, none⟩ = some (.int .u64 a1_3) := (blk_cell BK378.out 3).trans rfl
       have hcz70_4 : wc.cell? ⟨gb378, 4, none⟩ = some (.int .i64 a1_4) := (blk_cell BK378.out 4).trans rfl
       have hfz70_0 := blk_frozen BK378.out 0
       have hfz70_1 := blk_frozen BK378.out 1
       have hfz70_2 := blk_frozen BK378.out 2
       have hfz70_3 := blk_frozen BK378.out 3
       have hfz70_4 := blk_frozen BK378.out 4
       have hnb71 := NB379_377.out
       have hnc71 := NB377_379.out
       have hcz72_0 : wc.cell? ⟨gb379, 0, none⟩ = some (.bool a2_0) := (blk_cell BK379.out 0).trans rfl
       have hcz72_1 : wc.cell? ⟨gb379, 1, none⟩ = some (.bool false) := (blk_cell BK379.out 1).trans rfl
       have hcz72_2 : wc.cell? ⟨gb379, 2, none⟩ = some (.bool a2_2) := (blk_cell BK379.out 2).trans rfl
       have hcz72_3 : wc.cell? ⟨gb379, 3, none⟩ = some (.int .u64 a2_3) := (blk_cell BK379.out 3).trans rfl
       have hcz72_4 : wc.cell? ⟨gb379, 4, none⟩ = some (.int .i64 a2_4) := (blk_cell BK379.out 4).trans rfl
       have hfz72_0 := blk_frozen BK379.out 0
       have hfz72_1 := blk_frozen BK379.out 1
       have hfz72_2 := blk_frozen BK379.out 2
       have hfz72_3 := blk_frozen BK379.out 3
       have hfz72_4 := blk_frozen BK379.out 4
       go_upto_if 64 with (fail)
       go_cut [8] (fun v8 wc => ∃ (kq : Nat) (x8_66 : Bool) (x379003_66 : Int) (x380003_66 : Int) (x380004_66 : Int), v8 = .bool x8_66 ∧ Aside0 (spec_l4K_sum.j1 kq x8_66 a0_0 a0_1 a1_0 false a1_2 x379003_66 a1_4 a2_0 false a2_2 x380003_66 x380004_66 = some r) ∧ Aside0 (kq ≤ kj3) ∧ Aside0 (wc.heap[gb377]? = some (.cells #[.int .u64 a0_0, .int .u64 a0_1] 52 (0, 0))) ∧ Aside0 (wc.heap[gb378]? = some (.cells #[.bool a1_0, .bool false, .bool a1_2, .int .u64 x379003_66, .int .i64 a1_4] 56 (0, 0))) ∧ Aside0 (wc.heap[gb379]? = some (.cells #[.bool a2_0, .bool false, .bool a2_2, .int .u64 x380003_66, .int .i64 x380004_66] 56 (0, 0))) ∧ Aside0 (Below w.heap.size w wc))
       case first =>
        have H := HC67.out
        clear HC67
        by_cases c73 : (IntKind.u64.wrap (wrap64 (a1_4 - a2_4))) ≤ 30
        ·
         rw [if_pos c73] at H
         have c73b0 : decide ((IntKind.u64.wrap (wrap64 (a1_4 - a2_4))) ≤ 30) = true := decide_eq_true c73
         clear c73
         (first | rw [c73b0] | (simp only [i64_w, i32_w]; rw [c73b0]) | skip)
         obtain ⟨ji74, hji74⟩ : ∃ j_ : Int, (IntKind.u64.wrap (wrap64 (a1_4 - a2_4))) = j_ := ⟨_, rfl⟩
         replace H : (if 0 ≤ (ji74) then (spec_l4K_sum.j1 kj3 false a0_0 a0_1 a1_0 false a1_2 (shl .u64 a1_3 (ji74)) a1_4 a2_0 false a2_2 a2_3 a2_4) else (none)) = some r := by first | (rw [hji74] at H; exact H) | (simp only [hji74] at H ⊢; exact H)
         (try rw [hji74] at c73b0)
         by_cases c75 : 0 ≤ (ji74)
         ·
          rw [if_pos c75] at H
          have c75b0 := eq_true c75
          have c75b1 : decide (0 ≤ (ji74)) = true := decide_eq_true c75
          clear c75
          obtain ⟨ji76, hji76⟩ : ∃ j_ : Int, (shl .u64 a1_3 (ji74)) = j_ := ⟨_, rfl⟩
          replace H : (spec_l4K_sum.j1 kj3 false a0_0 a0_1 a1_0 false a1_2 ji76 a1_4 a2_0 false a2_2 a2_3 a2_4) = some r := by first | (rw [hji76] at H; exact H) | (simp only [hji76] at H ⊢; exact H)
          have hji76_ : (IntKind.u64.wrap (a1_3 * 2 ^ min (ji74).toNat 64)) = ji76 := hji76
          have hji76z : (ji74) ≤ 64 → (IntKind.u64.wrap (a1_3 * 2 ^ (ji74).toNat)) = ji76 := shl_small hji76
          have H' := Aside0.mk H
          clear H
          have hnb77 := NB378_377.out
          have hnc77 := NB377_378.out
          have hnb78 := NB378_379.out
          have hnc78 := NB379_378.out
          have hcz79_0 : wc.cell? ⟨gb378, 0, none⟩ = some (.bool a1_0) := (blk_cell BK378.out 0).trans rfl
          have hcz79_1 : wc.cell? ⟨gb378, 1, none⟩ = some (.bool false) := (blk_cell BK378.out 1).trans rfl
          have hcz79_2 : wc.cell? ⟨gb378, 2, none⟩ = some (.bool a1_2) := (blk_cell BK378.out 2).trans rfl
          have hcz79_3 : wc.cell? ⟨gb378, 3, none⟩ = some (.int .u64 a1_3) := (blk_cell BK378.out 3).trans rfl
          have hcz79_4 : wc.cell? ⟨gb378, 4, none⟩ = some (.int .i64 a1_4) := (blk_cell BK378.out 4).trans rfl
          have hfz79_0 := blk_frozen BK378.out 0
          have hfz79_1 := blk_frozen BK378.out 1
          have hfz79_2 := blk_frozen BK378.out 2
          have hfz79_3 := blk_frozen BK378.out 3
          have hfz79_4 := blk_frozen BK378.out 4
          go_wp2
          first | go_meet | ((simp only [← hji76]); go_meet) | ((simp only [← hji74]); go_meet) | ((simp only [← hji76, ← hji74]); go_meet)
          case rel => exact ⟨_, (false), (ji76), (a2_3), (a2_4), (by first | rfl | (simp; done) | (simp [*]; done)), H', ⟨by have := HJ3.out; first | omega | exact Nat.le_refl _⟩, ⟨by (with_reducible repeat (first | refine blk_drewN ?_ _ | refine blk_drew ?_ | refine blk_alloc ?_ _)); refine blk_far ?_ NB377_378.out _; (with_reducible repeat (first | refine blk_drewN ?_ _ | refine blk_drew ?_ | refine blk_alloc ?_ _)); exact BK377.out⟩, ⟨by (with_reducible repeat (first | refine blk_drewN ?_ _ | refine blk_drew ?_ | refine blk_alloc ?_ _)); refine blk_put (cs := #[.bool a1_0, .bool false, .bool a1_2, .int .u64 a1_3, .int .i64 a1_4]) ?_ 3 _ rfl; (with_reducible repeat (first | refine blk_drewN ?_ _ | refine blk_drew ?_ | refine blk_alloc ?_ _)); exact BK378.out⟩, ⟨by (with_reducible repeat (first | refine blk_drewN ?_ _ | refine blk_drew ?_ | refine blk_alloc ?_ _)); refine blk_far ?_ NB379_378.out _; (with_reducible repeat (first | refine blk_drewN ?_ _ | refine blk_drew ?_ | refine blk_alloc ?_ _)); exact BK379.out⟩, ⟨by repeat (first | (with_reducible first | exact HB.out | apply below_alloc | apply pw_below_drewN | apply below_drew1 | refine below_set ?_ GE377.out | refine below_set ?_ GE378.out | refine below_set ?_ GE379.out) | exact HB.out)⟩⟩
         ·
          rw [if_neg c75] at H
          exact absurd H (by simp)
        ·
         rw [if_neg c73] at H
         have c73b0 : decide ((IntKind.u64.wrap (wrap64 (a1_4 - a2_4))) ≤ 30) = false := decide_eq_false c73
         clear c73
         (first | rw [c73b0] | (simp only [i64_w, i32_w]; rw [c73b0]) | skip)
         by_cases c80 : (IntKind.u64.wrap ((IntKind.u64.wrap (wrap64 (a1_4 - a2_4))) - 30)) > 60
         ·
          rw [if_pos c80] at H
          have c80b0 : decide (60 < (IntKind.u64.wrap ((IntKind.u64.wrap (wrap64 (a1_4 - a2_4))) - 30))) = true := decide_eq_true c80
          clear c80
          have H' := Aside0.mk H
          clear H
          have hnb81 := NB378_377.out
          have hnc81 := NB377_378.out
          have hnb82 := NB378_379.out
          have hnc82 := NB379_378.out
          have hcz83_0 : wc.cell? ⟨gb378, 0, none⟩ = some (.bool a1_0) := (blk_cell BK378.out 0).trans rfl
          have hcz83_1 : wc.cell? ⟨gb378, 1, none⟩ = some (.bool false) := (blk_cell BK378.out 1).trans rfl
          have hcz83_2 : wc.cell? ⟨gb378, 2, none⟩ = some (.bool a1_2) := (blk_cell BK378.out 2).trans rfl
          have hcz83_3 : wc.cell? ⟨gb378, 3, none⟩ = some (.int .u64 a1_3) := (blk_cell BK378.out 3).trans rfl
          have hcz83_4 : wc.cell? ⟨gb378, 4, none⟩ = some (.int .i64 a1_4) := (blk_cell BK378.out 4).trans rfl
          have hfz83_0 := blk_frozen BK378.out 0
          have hfz83_1 := blk_frozen BK378.out 1
          have hfz83_2 := blk_frozen BK378.out 2
          have hfz83_3 := blk_frozen BK378.out 3
          have hfz83_4 := blk_frozen BK378.out 4
          have hnb84 := NB379_377.out
          have hnc84 := NB377_379.out
          have hcz85_0 : wc.cell? ⟨gb379, 0, none⟩ = some (.bool a2_0) := (blk_cell BK379.out 0).trans rfl
          have hcz85_1 : wc.cell? ⟨gb379, 1, none⟩ = some (.bool false) := (blk_cell BK379.out 1).trans rfl
          have hcz85_2 : wc.cell? ⟨gb379, 2, none⟩ = some (.bool a2_2) := (blk_cell BK379.out 2).trans rfl
          have hcz85_3 : wc.cell? ⟨gb379, 3, none⟩ = some (.int .u64 a2_3) := (blk_cell BK379.out 3).trans rfl
          have hcz85_4 : wc.cell? ⟨gb379, 4, none⟩ = some (.int .i64 a2_4) := (blk_cell BK379.out 4).trans rfl
          have hfz85_0 := blk_frozen BK379.out 0
          have hfz85_1 := blk_frozen BK379.out 1
          have hfz85_2 := blk_frozen BK379.out 2
          have hfz85_3 := blk_frozen BK379.out 3
          have hfz85_4 := blk_frozen BK379.out 4
          go_wp2
          go_meet
          case rel => exact ⟨_, ((a2_3 != 0)), (IntKind.u64.wrap (a1_3 * 1073741824)), (0), (wrap64 (a1_4 - 30)), (by first | rfl | (simp; done) | (simp [*]; done)), H', ⟨by have := HJ3.out; first | omega | exact Nat.le_refl _⟩, ⟨by (with_reducible repeat (first | refine blk_drewN ?_ _ | refine blk_drew ?_ | refine blk_alloc ?_ _)); refine blk_far ?_ NB377_379.out _; (with_reducible repeat (first | refine blk_drewN ?_ _ | refine blk_drew ?_ | refine blk_alloc ?_ _)); refine blk_far ?_ NB377_379.out _; (with_reducible repeat (first | refine blk_drewN ?_ _ | refine blk_drew ?_ | refine blk_alloc ?_ _)); refine blk_far ?_ NB377_378.out _; (with_reducible repeat (first | refine blk_drewN ?_ _ | refine blk_drew ?_ | refine blk_alloc ?_ _)); exact BK377.out⟩, ⟨by (with_reducible repeat (first | refine blk_drewN ?_ _ | refine blk_drew ?_ | refine blk_alloc ?_ _)); refine blk_far ?_ NB378_379.out _; (with_reducible repeat (first | refine blk_drewN ?_ _ | refine blk_drew ?_ | refine blk_alloc ?_ _)); refine blk_far ?_ NB378_379.out _; (with_reducible repeat (first | refine blk_drewN ?_ _ | refine blk_drew ?_ | refine blk_alloc ?_ _)); refine blk_put (cs := #[.bool a1_0, .bool false, .bool a1_2, .int .u64 a1_3, .int .i64 a1_4]) ?_ 3 _ rfl; (with_reducible repeat (first | refine blk_drewN ?_ _ | refine blk_drew ?_ | refine blk_alloc ?_ _)); exact BK378.out⟩, ⟨by (with_reducible repeat (first | refine blk_drewN ?_ _ | refine blk_drew ?_ | refine blk_alloc ?_ _)); refine blk_put (cs := #[.bool a2_0, .bool false, .bool a2_2, .int .u64 0, .int .i64 a2_4]) ?_ 4 _ rfl; (with_reducible repeat (first | refine blk_drewN ?_ _ | refine blk_drew ?_ | refine blk_alloc ?_ _)); refine blk_put (cs := #[.bool a2_0, .bool false, .bool a2_2, .int .u64 a2_3, .int .i64 a2_4]) ?_ 3 _ rfl; (with_reducible repeat (first | refine blk_drewN ?_ _ | refine blk_drew ?_ | refine blk_alloc ?_ _)); refine blk_far ?_ NB379_378.out _; (with_reducible repeat (first | refine blk_drewN ?_ _ | refine blk_drew ?_ | refine blk_alloc ?_ _)); exact BK379.out⟩, ⟨by repeat (first | (with_reducible first | exact HB.out | apply below_alloc | apply pw_below_drewN | apply below_drew1 | refine below_set ?_ GE377.out | refine below_set ?_ GE378.out | refine below_set ?_ GE379.out) | exact HB.out)⟩⟩
         ·
          rw [if_neg c80] at H
          have c80b0 : decide (60 < (IntKind.u64.wrap ((IntKind.u64.wrap (wrap64 (a1_4 - a2_4))) - 30))) = false := decide_eq_false c80
          clear c80
          obtain ⟨ji86, hji86⟩ : ∃ j_ : Int, (IntKind.u64.wrap ((IntKind.u64.wrap (wrap64 (a1_4 - a2_4))) - 30)) = j_ := ⟨_, rfl⟩
          replace H : (if 0 ≤ (ji86) then (spec_l4K_sum.j1 kj3 ((Go.bits .and .u64 a2_3 (IntKind.u64.wrap ((shl .u64 1 (ji86)) - 1))) != 0) a0_0 a0_1 a1_0 false a1_2 (IntKind.u64.wrap (a1_3 * 1073741824)) a1_4 a2_0 false a2_2 (shr .u64 a2_3 (ji86)) (wrap64 (a1_4 - 30))) else (none)) = some r := by first | (rw [hji86] at H; exact H) | (simp only [hji86] at H ⊢; exact H)
          (try rw [hji86] at c80b0)
          by_cases c87 : 0 ≤ (ji86)
          ·
           rw [if_pos c87] at H
           have c87b0 := eq_true c87
           have c87b1 : decide (0 ≤ (ji86)) = true := decide_eq_true c87
           clear c87
           obtain ⟨ji88, hji88⟩ : ∃ j_ : Int, (shl .u64 1 (ji86)) = j_ := ⟨_, rfl⟩
           replace H : (spec_l4K_sum.j1 kj3 ((Go.bits .and .u64 a2_3 (IntKind.u64.wrap ((ji88) - 1))) != 0) a0_0 a0_1 a1_0 false a1_2 (IntKind.u64.wrap (a1_3 * 1073741824)) a1_4 a2_0 false a2_2 (shr .u64 a2_3 (ji86)) (wrap64 (a1_4 - 30))) = some r := by first | (rw [hji88] at H; exact H) | (simp only [hji88] at H ⊢; exact H)
           have hji88_ : (IntKind.u64.wrap (1 * 2 ^ min (ji86).toNat 64)) = ji88 := hji88
           have hji88z : (ji86) ≤ 64 → (IntKind.u64.wrap (1 * 2 ^ (ji86).toNat)) = ji88 := shl_small hji88
           have hji88u : (IntKind.u64.wrap (2 ^ min (ji86).toNat 64)) = ji88 := by have h_ := hji88_; rw [Int.one_mul] at h_; exact h_
           have hji88v : (ji86) ≤ 64 → (IntKind.u64.wrap (2 ^ (ji86).toNat)) = ji88 := fun hle_ => by have h_ := hji88z hle_; rw [Int.one_mul] at h_; exact h_
           have c89b0 := eq_true (of_decide_eq_true (by first | (with_reducible assumption) | assumption) : 0 ≤ (ji86))
           obtain ⟨ji90, hji90⟩ : ∃ j_ : Int, (shr .u64 a2_3 (ji86)) = j_ := ⟨_, rfl⟩
           replace H : (spec_l4K_sum.j1 kj3 ((Go.bits .and .u64 a2_3 (IntKind.u64.wrap ((ji88) - 1))) != 0) a0_0 a0_1 a1_0 false a1_2 (IntKind.u64.wrap (a1_3 * 1073741824)) a1_4 a2_0 false a2_2 ji90 (wrap64 (a1_4 - 30))) = some r := by first | (rw [hji90] at H; exact H) | (simp only [hji90] at H ⊢; exact H)
           have hji90_ : (a2_3 / 2 ^ min (ji86).toNat 64) = ji90 := hji90
           have hji90z : (ji86) ≤ 64 → (a2_3 / 2 ^ (ji86).toNat) = ji90 := shr_small hji90
           have H' := Aside0.mk H
           clear H
           have hnb91 := NB378_377.out
           have hnc91 := NB377_378.out
           have hnb92 := NB378_379.out
           have hnc92 := NB379_378.out
           have hcz93_0 : wc.cell? ⟨gb378, 0, none⟩ = some (.bool a1_0) := (blk_cell BK378.out 0).trans rfl
           have hcz93_1 : wc.cell? ⟨gb378, 1, none⟩ = some (.bool false) := (blk_cell BK378.out 1).trans rfl
           have hcz93_2 : wc.cell? ⟨gb378, 2, none⟩ = some (.bool a1_2) := (blk_cell BK378.out 2).trans rfl
           have hcz93_3 : wc.cell? ⟨gb378, 3, none⟩ = some (.int .u64 a1_3) := (blk_cell BK378.out 3).trans rfl
           have hcz93_4 : wc.cell? ⟨gb378, 4, none⟩ = some (.int .i64 a1_4) := (blk_cell BK378.out 4).trans rfl
           have hfz93_0 := blk_frozen BK378.out 0
           have hfz93_1 := blk_frozen BK378.out 1
           have hfz93_2 := blk_frozen BK378.out 2
           have hfz93_3 := blk_frozen BK378.out 3
           have hfz93_4 := blk_frozen BK378.out 4
           have hnb94 := NB379_377.out
           have hnc94 := NB377_379.out
           have hcz95_0 : wc.cell? ⟨gb379, 0, none⟩ = some (.bool a2_0) := (blk_cell BK379.out 0).trans rfl
           have hcz95_1 : wc.cell? ⟨gb379, 1, none⟩ = some (.bool false) := (blk_cell BK379.out 1).trans rfl
           have hcz95_2 : wc.cell? ⟨gb379, 2, none⟩ = some (.bool a2_2) := (blk_cell BK379.out 2).trans rfl
           have hcz95_3 : wc.cell? ⟨gb379, 3, none⟩ = some (.int .u64 a2_3) := (blk_cell BK379.out 3).trans rfl
           have hcz95_4 : wc.cell? ⟨gb379, 4, none⟩ = some (.int .i64 a2_4) := (blk_cell BK379.out 4).trans rfl
           have hfz95_0 := blk_frozen BK379.out 0
           have hfz95_1 := blk_frozen BK379.out 1
           have hfz95_2 := blk_frozen BK379.out 2
           have hfz95_3 := blk_frozen BK379.out 3
           have hfz95_4 := blk_frozen BK379.out 4
           go_wp2
           first | go_meet | ((simp only [← hji90]); go_meet) | ((simp only [← hji88]); go_meet) | ((simp only [← hji86]); go_meet) | ((simp only [← hji90, ← hji88, ← hji86]); go_meet)
           case rel => exact ⟨_, (((Go.bits .and .u64 a2_3 (IntKind.u64.wrap ((ji88) - 1))) != 0)), (IntKind.u64.wrap (a1_3 * 1073741824)), (ji90), (wrap64 (a1_4 - 30)), (by first | rfl | (simp; done) | (simp only [← hji88] <;> (first | rfl | simp)) | (simp [*]; done)), H', ⟨by have := HJ3.out; first | omega | exact Nat.le_refl _⟩, ⟨by (with_reducible repeat (first | refine blk_drewN ?_ _ | refine blk_drew ?_ | refine blk_alloc ?_ _)); refine blk_far ?_ NB377_379.out _; (with_reducible repeat (first | refine blk_drewN ?_ _ | refine blk_drew ?_ | refine blk_alloc ?_ _)); refine blk_far ?_ NB377_379.out _; (with_reducible repeat (first | refine blk_drewN ?_ _ | refine blk_drew ?_ | refine blk_alloc ?_ _)); refine blk_far ?_ NB377_378.out _; (with_reducible repeat (first | refine blk_drewN ?_ _ | refine blk_drew ?_ | refine blk_alloc ?_ _)); exact BK377.out⟩, ⟨by (with_reducible repeat (first | refine blk_drewN ?_ _ | refine blk_drew ?_ | refine blk_alloc ?_ _)); refine blk_far ?_ NB378_379.out _; (with_reducible repeat (first | refine blk_drewN ?_ _ | refine blk_drew ?_ | refine blk_alloc ?_ _)); refine blk_far ?_ NB378_379.out _; (with_reducible repeat (first | refine blk_drewN ?_ _ | refine blk_drew ?_ | refine blk_alloc ?_ _)); refine blk_put (cs := #[.bool a1_0, .bool false, .bool a1_2, .int .u64 a1_3, .int .i64 a1_4]) ?_ 3 _ rfl; (with_reducible repeat (first | refine blk_drewN ?_ _ | refine blk_drew ?_ | refine blk_alloc ?_ _)); exact BK378.out⟩, ⟨by (with_reducible repeat (first | refine blk_drewN ?_ _ | refine blk_drew ?_ | refine blk_alloc ?_ _)); refine blk_put (cs := #[.bool a2_0, .bool false, .bool a2_2, .int .u64 ji90, .int .i64 a2_4]) ?_ 4 _ rfl; (with_reducible repeat (first | refine blk_drewN ?_ _ | refine blk_drew ?_ | refine blk_alloc ?_ _)); refine blk_put (cs := #[.bool a2_0, .bool false, .bool a2_2, .int .u64 a2_3, .int .i64 a2_4]) ?_ 3 _ rfl; (with_reducible repeat (first | refine blk_drewN ?_ _ | refine blk_drew ?_ | refine blk_alloc ?_ _)); refine blk_far ?_ NB379_378.out _; (with_reducible repeat (first | refine blk_drewN ?_ _ | refine blk_drew ?_ | refine blk_alloc ?_ _)); exact BK379.out⟩, ⟨by repeat (first | (with_reducible first | exact HB.out | apply below_alloc | apply pw_below_drewN | apply below_drew1 | refine below_set ?_ GE377.out | refine below_set ?_ GE378.out | refine below_set ?_ GE379.out) | exact HB.out)⟩⟩
          ·
           rw [if_neg c87] at H
           exact absurd H (by simp)
       case rest =>
        clear HC67
        try clear c1
        try clear c2
        try clear p2
        try clear c3
        try clear c4
        try clear c5
        try clear c6
        try clear p6
        try clear c7
        try clear c8
        try clear c9
        try clear c10
        try clear c12
        try clear c13
        try clear c14
        try clear c16
        try clear c18
        try clear c19
        try clear c20
        try clear c21
        try clear c23
        try clear c25
        try clear c26
        try clear c28
        try clear c30
        try clear c31
        try clear c33
        try clear c35
        try clear c37
        try clear c38
        try clear c41
        try clear c43
        try clear c44
        try clear c46
        try clear c48
        try clear c49
        try clear c51
        try clear c52
        try clear c54
        try clear c58
        try clear c58b0
        try clear c60
        try clear c61
        try clear c63
        try clear p64
        try clear c66
        try clear c68
        try clear c69
        try clear c71
        try clear c73
        try clear c73b0
        try clear c75
        try clear c75b0
        try clear c75b1
        try clear c77
        try clear c78
        try clear c80
        try clear c80b0
        try clear c81
        try clear c82
        try clear c84
        try clear c87
        try clear c87b0
        try clear c87b1
        try clear c89
        try clear c89b0
        try clear c91
        try clear c92
        try clear c94
        try clear hcz11_0 hcz11_1 hcz11_2 hcz11_3 hcz11_4
        try clear hcz15_0 hcz15_1 hcz15_2 hcz15_3 hcz15_4
        try clear hcz17_0 hcz17_1 hcz17_2 hcz17_3 hcz17_4
        try clear hcz22_0 hcz22_1 hcz22_2 hcz22_3 hcz22_4
        try clear hcz24_0 hcz24_1 hcz24_2 hcz24_3 hcz24_4
        try clear hcz27_0 hcz27_1 hcz27_2 hcz27_3 hcz27_4
        try clear hcz29_0 hcz29_1 hcz29_2 hcz29_3 hcz29_4
        try clear hcz32_0 hcz32_1 hcz32_2 hcz32_3 hcz32_4
        try clear hcz34_0 hcz34_1 hcz34_2 hcz34_3 hcz34_4
        try clear hcz39_0 hcz39_1
        try clear hcz45_0 hcz45_1 hcz45_2 hcz45_3 hcz45_4
        try clear hcz47_0 hcz47_1
        try clear hcz53_0 hcz53_1 hcz53_2 hcz53_3 hcz53_4
        try clear hcz55_0 hcz55_1 hcz55_2 hcz55_3 hcz55_4
        try clear hcz56_0 hcz56_1
        try clear hcz62_0 hcz62_1 hcz62_2 hcz62_3 hcz62_4
        try clear hcz64_0 hcz64_1 hcz64_2 hcz64_3 hcz64_4
        try clear hcz65_0 hcz65_1
        try clear hcz70_0 hcz70_1 hcz70_2 hcz70_3 hcz70_4
        try clear hcz72_0 hcz72_1 hcz72_2 hcz72_3 hcz72_4
        try clear hcz79_0 hcz79_1 hcz79_2 hcz79_3 hcz79_4
        try clear hcz83_0 hcz83_1 hcz83_2 hcz83_3 hcz83_4
        try clear hcz85_0 hcz85_1 hcz85_2 hcz85_3 hcz85_4
        try clear hcz93_0 hcz93_1 hcz93_2 hcz93_3 hcz93_4
        try clear hcz95_0 hcz95_1 hcz95_2 hcz95_3 hcz95_4
        try clear hfz11_0 hfz11_1 hfz11_2 hfz11_3 hfz11_4
        try clear hfz15_0 hfz15_1 hfz15_2 hfz15_3 hfz15_4
        try clear hfz17_0 hfz17_1 hfz17_2 hfz17_3 hfz17_4
        try clear hfz22_0 hfz22_1 hfz22_2 hfz22_3 hfz22_4
        try clear hfz24_0 hfz24_1 hfz24_2 hfz24_3 hfz24_4
        try clear hfz27_0 hfz27_1 hfz27_2 hfz27_3 hfz27_4
        try clear hfz29_0 hfz29_1 hfz29_2 hfz29_3 hfz29_4
        try clear hfz32_0 hfz32_1 hfz32_2 hfz32_3 hfz32_4
        try clear hfz34_0 hfz34_1 hfz34_2 hfz34_3 hfz34_4
        try clear hfz39_0 hfz39_1
        try clear hfz45_0 hfz45_1 hfz45_2 hfz45_3 hfz45_4
        try clear hfz47_0 hfz47_1
        try clear hfz53_0 hfz53_1 hfz53_2 hfz53_3 hfz53_4
        try clear hfz55_0 hfz55_1 hfz55_2 hfz55_3 hfz55_4
        try clear hfz56_0 hfz56_1
        try clear hfz62_0 hfz62_1 hfz62_2 hfz62_3 hfz62_4
        try clear hfz64_0 hfz64_1 hfz64_2 hfz64_3 hfz64_4
        try clear hfz65_0 hfz65_1
        try clear hfz70_0 hfz70_1 hfz70_2 hfz70_3 hfz70_4
        try clear hfz72_0 hfz72_1 hfz72_2 hfz72_3 hfz72_4
        try clear hfz79_0 hfz79_1 hfz79_2 hfz79_3 hfz79_4
        try clear hfz83_0 hfz83_1 hfz83_2 hfz83_3 hfz83_4
        try clear hfz85_0 hfz85_1 hfz85_2 hfz85_3 hfz85_4
        try clear hfz93_0 hfz93_1 hfz93_2 hfz93_3 hfz93_4
        try clear hfz95_0 hfz95_1 hfz95_2 hfz95_3 hfz95_4
        try clear p2
        obtain ⟨kq, x8_66, x379003_66, x380003_66, x380004_66, rfl, HA, HJ66, BK377, BK378, BK379, HB⟩ := hcut
        cases kq with
        | zero => exact absurd HA.out (by simp [spec_l4K_sum.j1])
        | succ kj66 =>
         have H := HA.out
         clear HA
         simp only [spec_l4K_sum.j1] at H
         by_cases c96 : (a1_0 == a2_0) = true
         ·
          rw [if_pos c96] at H
          have c96b0 : (a1_0 == a2_0) = true := c96
          (try (have c96b1 : decide (a1_0 = a2_0) = true := by simpa using c96))
          (try (have c96b2 : (a1_0 == a2_0) = true := by simpa using c96))
          clear c96
          replace H := Option.bind_eq_some_iff.mp H
          obtain ⟨t384, A970, H⟩ := H
          replace H : (some t384) = some r := H
          have A97 := Aside0.mk A970
          clear A970
          obtain rfl := Option.some.inj H
          simp only [Option.some.injEq, Prod.mk.injEq] at H
          obtain ⟨rfl⟩ := H
          have hnb98 := NB378_377.out
          have hnc98 := NB377_378.out
          have hnb99 := NB378_379.out
          have hnc99 := NB379_378.out
          have hcz100_0 : wc.cell? ⟨gb378, 0, none⟩ = some (.bool a1_0) := (blk_cell BK378.out 0).trans rfl
          have hcz100_1 : wc.cell? ⟨gb378, 1, none⟩ = some (.bool false) := (blk_cell BK378.out 1).trans rfl
          have hcz100_2 : wc.cell? ⟨gb378, 2, none⟩ = some (.bool a1_2) := (blk_cell BK378.out 2).trans rfl
          have hcz100_3 : wc.cell? ⟨gb378, 3, none⟩ = some (.int .u64 x379003_66) := (blk_cell BK378.out 3).trans rfl
          have hcz100_4 : wc.cell? ⟨gb378, 4, none⟩ = some (.int .i64 a1_4) := (blk_cell BK378.out 4).trans rfl
          have hfz100_0 := blk_frozen BK378.out 0
          have hfz100_1 := blk_frozen BK378.out 1
          have hfz100_2 := blk_frozen BK378.out 2
          have hfz100_3 := blk_frozen BK378.out 3
          have hfz100_4 := blk_frozen BK378.out 4
          have hnb101 := NB379_377.out
          have hnc101 := NB377_379.out
          have hcz102_0 : wc.cell? ⟨gb379, 0, none⟩ = some (.bool a2_0) := (blk_cell BK379.out 0).trans rfl
          have hcz102_1 : wc.cell? ⟨gb379, 1, none⟩ = some (.bool false) := (blk_cell BK379.out 1).trans rfl
          have hcz102_2 : wc.cell? ⟨gb379, 2, none⟩ = some (.bool a2_2) := (blk_cell BK379.out 2).trans rfl
          have hcz102_3 : wc.cell? ⟨gb379, 3, none⟩ = some (.int .u64 x380003_66) := (blk_cell BK379.out 3).trans rfl
          have hcz102_4 : wc.cell? ⟨gb379, 4, none⟩ = some (.int .i64 x380004_66) := (blk_cell BK379.out 4).trans rfl
          have hfz102_0 := blk_frozen BK379.out 0
          have hfz102_1 := blk_frozen BK379.out 1
          have hfz102_2 := blk_frozen BK379.out 2
          have hfz102_3 := blk_frozen BK379.out 3
          have hfz102_4 := blk_frozen BK379.out 4
          have hcz103_0 : wc.cell? ⟨gb377, 0, none⟩ = some (.int .u64 a0_0) := (blk_cell BK377.out 0).trans rfl
          have hcz103_1 : wc.cell? ⟨gb377, 1, none⟩ = some (.int .u64 a0_1) := (blk_cell BK377.out 1).trans rfl
          have hfz103_0 := blk_frozen BK377.out 0
          have hfz103_1 := blk_frozen BK377.out 1
          go_wp2_with (first | ((with_reducible refine gate_callee (f := 50) rfl ?_); refine goesL_ (some 116) rfl rfl Try.func50 (by kernel_rfl) rfl #[.agg #[.int .u64 a0_0, .int .u64 a0_1], .bool a1_0, .int .u64 (IntKind.u64.wrap (x379003_66 + x380003_66)), .int .i64 x380004_66, .bool x8_66] rfl (by (try simp only [List.map_toArray, List.map_cons, List.map_nil]); first | done | rfl | (simp only [List.length_drop, List.length_take]; rfl)) ?_; (with_reducible refine (spec_l4K_round.calls kj66 a0_0 a0_1 a1_0 (IntKind.u64.wrap (x379003_66 + x380003_66)) x380004_66 x8_66 t384 _ A97.out).mono ?_); rintro e w104 ⟨rfl, hb⟩; refine ⟨_, rfl, ?_⟩; have n0_ := Aside0.mk (blk_below (g := gb377) (o := .cells #[.int .u64 a0_0, .int .u64 a0_1] 52 (0, 0)) (by (with_reducible repeat (first | refine blk_drewN ?_ _ | refine blk_drew ?_ | refine blk_alloc ?_ _)); exact BK377.out) hb); have n1_ := Aside0.mk (blk_below (g := gb378) (o := .cells #[.bool a1_0, .bool false, .bool a1_2, .int .u64 x379003_66, .int .i64 a1_4] 56 (0, 0)) (by (with_reducible repeat (first | refine blk_drewN ?_ _ | refine blk_drew ?_ | refine blk_alloc ?_ _)); exact BK378.out) hb); have n2_ := Aside0.mk (blk_below (g := gb379) (o := .cells #[.bool a2_0, .bool false, .bool a2_2, .int .u64 x380003_66, .int .i64 x380004_66] 56 (0, 0)) (by (with_reducible repeat (first | refine blk_drewN ?_ _ | refine blk_drew ?_ | refine blk_alloc ?_ _)); exact BK379.out) hb); have n3_ := Aside0.mk (below_step (by repeat (first | (with_reducible first | exact HB.out | apply below_alloc | apply pw_below_drewN | apply below_drew1 | refine below_set ?_ GE377.out | refine below_set ?_ GE378.out | refine below_set ?_ GE379.out) | exact HB.out)) hb); clear BK377; clear BK378; clear BK379; clear HB; have BK377 := n0_; have BK378 := n1_; have BK379 := n2_; have HB := n3_; clear n0_ n1_ n2_ n3_; (try clear hb); (try clear hb2); (try clear hk); (try clear hi)))
          go_ret
          exact ⟨by first | rfl | (simp [errW_none, errW_some] <;> rfl) | (simp [*, errW_none, errW_some] <;> rfl), by repeat (first | (with_reducible first | exact HB.out | apply below_alloc | apply pw_below_drewN | apply below_drew1 | refine below_set ?_ GE377.out | refine below_set ?_ GE378.out | refine below_set ?_ GE379.out) | exact HB.out)⟩
         ·
          rw [if_neg c96] at H
          have c96b0 : (a1_0 == a2_0) = false := by simpa using c96
          (try (have c96b1 : decide (a1_0 = a2_0) = false := by simpa using c96))
          (try (have c96b2 : (a1_0 == a2_0) = false := by simpa using c96))
          (try (have c96b3 : ¬ (a1_0 = a2_0) := by simpa using c96))
          clear c96
          by_cases c105 : x380003_66 > x379003_66
          ·
           rw [if_pos c105] at H
           have c105b0 : decide (x379003_66 < x380003_66) = true := decide_eq_true c105
           clear c105
           replace H := Option.bind_eq_some_iff.mp H
           obtain ⟨t385, A1060, H⟩ := H
           replace H : (some t385) = some r := H
           have A106 := Aside0.mk A1060
           clear A1060
           obtain rfl := Option.some.inj H
           simp only [Option.some.injEq, Prod.mk.injEq] at H
           obtain ⟨rfl⟩ := H
           have hnb107 := NB378_377.out
           have hnc107 := NB377_378.out
           have hnb108 := NB378_379.out
           have hnc108 := NB379_378.out
           have hcz109_0 : wc.cell? ⟨gb378, 0, none⟩ = some (.bool a1_0) := (blk_cell BK378.out 0).trans rfl
           have hcz109_1 : wc.cell? ⟨gb378, 1, none⟩ = some (.bool false) := (blk_cell BK378.out 1).trans rfl
           have hcz109_2 : wc.cell? ⟨gb378, 2, none⟩ = some (.bool a1_2) := (blk_cell BK378.out 2).trans rfl
           have hcz109_3 : wc.cell? ⟨gb378, 3, none⟩ = some (.int .u64 x379003_66) := (blk_cell BK378.out 3).trans rfl
           have hcz109_4 : wc.cell? ⟨gb378, 4, none⟩ = some (.int .i64 a1_4) := (blk_cell BK378.out 4).trans rfl
           have hfz109_0 := blk_frozen BK378.out 0
           have hfz109_1 := blk_frozen BK378.out 1
           have hfz109_2 := blk_frozen BK378.out 2
           have hfz109_3 := blk_frozen BK378.out 3
           have hfz109_4 := blk_frozen BK378.out 4
           have hnb110 := NB379_377.out
           have hnc110 := NB377_379.out
           have hcz111_0 : wc.cell? ⟨gb379, 0, none⟩ = some (.bool a2_0) := (blk_cell BK379.out 0).trans rfl
           have hcz111_1 : wc.cell? ⟨gb379, 1, none⟩ = some (.bool false) := (blk_cell BK379.out 1).trans rfl
           have hcz111_2 : wc.cell? ⟨gb379, 2, none⟩ = some (.bool a2_2) := (blk_cell BK379.out 2).trans rfl
           have hcz111_3 : wc.cell? ⟨gb379, 3, none⟩ = some (.int .u64 x380003_66) := (blk_cell BK379.out 3).trans rfl
           have hcz111_4 : wc.cell? ⟨gb379, 4, none⟩ = some (.int .i64 x380004_66) := (blk_cell BK379.out 4).trans rfl
           have hfz111_0 := blk_frozen BK379.out 0
           have hfz111_1 := blk_frozen BK379.out 1
           have hfz111_2 := blk_frozen BK379.out 2
           have hfz111_3 := blk_frozen BK379.out 3
           have hfz111_4 := blk_frozen BK379.out 4
           have hcz112_0 : wc.cell? ⟨gb377, 0, none⟩ = some (.int .u64 a0_0) := (blk_cell BK377.out 0).trans rfl
           have hcz112_1 : wc.cell? ⟨gb377, 1, none⟩ = some (.int .u64 a0_1) := (blk_cell BK377.out 1).trans rfl
           have hfz112_0 := blk_frozen BK377.out 0
           have hfz112_1 := blk_frozen BK377.out 1
           go_wp2_with (first | ((with_reducible refine gate_callee (f := 50) rfl ?_); refine goesL_ (some 134) rfl rfl Try.func50 (by kernel_rfl) rfl #[.agg #[.int .u64 a0_0, .int .u64 a0_1], .bool a2_0, .int .u64 (IntKind.u64.wrap (x380003_66 - x379003_66)), .int .i64 x380004_66, .bool x8_66] rfl (by (try simp only [List.map_toArray, List.map_cons, List.map_nil]); first | done | rfl | (simp only [List.length_drop, List.length_take]; rfl)) ?_; (with_reducible refine (spec_l4K_round.calls kj66 a0_0 a0_1 a2_0 (IntKind.u64.wrap (x380003_66 - x379003_66)) x380004_66 x8_66 t385 _ A106.out).mono ?_); rintro e w113 ⟨rfl, hb⟩; refine ⟨_, rfl, ?_⟩; have n0_ := Aside0.mk (blk_below (g := gb377) (o := .cells #[.int .u64 a0_0, .int .u64 a0_1] 52 (0, 0)) (by (with_reducible repeat (first | refine blk_drewN ?_ _ | refine blk_drew ?_ | refine blk_alloc ?_ _)); exact BK377.out) hb); have n1_ := Aside0.mk (blk_below (g := gb378) (o := .cells #[.bool a1_0, .bool false, .bool a1_2, .int .u64 x379003_66, .int .i64 a1_4] 56 (0, 0)) (by (with_reducible repeat (first | refine blk_drewN ?_ _ | refine blk_drew ?_ | refine blk_alloc ?_ _)); exact BK378.out) hb); have n2_ := Aside0.mk (blk_below (g := gb379) (o := .cells #[.bool a2_0, .bool false, .bool a2_2, .int .u64 x380003_66, .int .i64 x380004_66] 56 (0, 0)) (by (with_reducible repeat (first | refine blk_drewN ?_ _ | refine blk_drew ?_ | refine blk_alloc ?_ _)); exact BK379.out) hb); have n3_ := Aside0.mk (below_step (by repeat (first | (with_reducible first | exact HB.out | apply below_alloc | apply pw_below_drewN | apply below_drew1 | refine below_set ?_ GE377.out | refine below_set ?_ GE378.out | refine below_set ?_ GE379.out) | exact HB.out)) hb); clear BK377; clear BK378; clear BK379; clear HB; have BK377 := n0_; have BK378 := n1_; have BK379 := n2_; have HB := n3_; clear n0_ n1_ n2_ n3_; (try clear hb); (try clear hb2); (try clear hk); (try clear hi)))
           go_ret
           exact ⟨by first | rfl | (simp [errW_none, errW_some] <;> rfl) | (simp [*, errW_none, errW_some] <;> rfl), by repeat (first | (with_reducible first | exact HB.out | apply below_alloc | apply pw_below_drewN | apply below_drew1 | refine below_set ?_ GE377.out | refine below_set ?_ GE378.out | refine below_set ?_ GE379.out) | exact HB.out)⟩
          ·
           rw [if_neg c105] at H
           have c105b0 : decide (x379003_66 < x380003_66) = false := decide_eq_false c105
           clear c105
           have HC114 := Aside0.mk H
           clear H
           have hnb115 := NB378_377.out
           have hnc115 := NB377_378.out
           have hnb116 := NB378_379.out
           have hnc116 := NB379_378.out
           have hcz117_0 : wc.cell? ⟨gb378, 0, none⟩ = some (.bool a1_0) := (blk_cell BK378.out 0).trans rfl
           have hcz117_1 : wc.cell? ⟨gb378, 1, none⟩ = some (.bool false) := (blk_cell BK378.out 1).trans rfl
           have hcz117_2 : wc.cell? ⟨gb378, 2, none⟩ = some (.bool a1_2) := (blk_cell BK378.out 2).trans rfl
           have hcz117_3 : wc.cell? ⟨gb378, 3, none⟩ = some (.int .u64 x379003_66) := (blk_cell BK378.out 3).trans rfl
           have hcz117_4 : wc.cell? ⟨gb378, 4, none⟩ = some (.int .i64 a1_4) := (blk_cell BK378.out 4).trans rfl
           have hfz117_0 := blk_frozen BK378.out 0
           have hfz117_1 := blk_frozen BK378.out 1
           have hfz117_2 := blk_frozen BK378.out 2
           have hfz117_3 := blk_frozen BK378.out 3
           have hfz117_4 := blk_frozen BK378.out 4
           have hnb118 := NB379_377.out
           have hnc118 := NB377_379.out
           have hcz119_0 : wc.cell? ⟨gb379, 0, none⟩ = some (.bool a2_0) := (blk_cell BK379.out 0).trans rfl
           have hcz119_1 : wc.cell? ⟨gb379, 1, none⟩ = some (.bool false) := (blk_cell BK379.out 1).trans rfl
           have hcz119_2 : wc.cell? ⟨gb379, 2, none⟩ = some (.bool a2_2) := (blk_cell BK379.out 2).trans rfl
           have hcz119_3 : wc.cell? ⟨gb379, 3, none⟩ = some (.int .u64 x380003_66) := (blk_cell BK379.out 3).trans rfl
           have hcz119_4 : wc.cell? ⟨gb379, 4, none⟩ = some (.int .i64 x380004_66) := (blk_cell BK379.out 4).trans rfl
           have hfz119_0 := blk_frozen BK379.out 0
           have hfz119_1 := blk_frozen BK379.out 1
           have hfz119_2 := blk_frozen BK379.out 2
           have hfz119_3 := blk_frozen BK379.out 3
           have hfz119_4 := blk_frozen BK379.out 4
           go_upto_if 140 with (fail)
           go_cut [9] (fun v9 wc => ∃ (kq : Nat) (x9_113 : Int), v9 = .int .u64 x9_113 ∧ Aside0 (spec_l4K_sum.j2 kq x8_66 x9_113 a0_0 a0_1 a1_0 false a1_2 x379003_66 a1_4 a2_0 false a2_2 x380003_66 x380004_66 = some r) ∧ Aside0 (kq ≤ kj66) ∧ Aside0 (wc.heap[gb377]? = some (.cells #[.int .u64 a0_0, .int .u64 a0_1] 52 (0, 0))) ∧ Aside0 (wc.heap[gb378]? = some (.cells #[.bool a1_0, .bool false, .bool a1_2, .int .u64 x379003_66, .int .i64 a1_4] 56 (0, 0))) ∧ Aside0 (wc.heap[gb379]? = some (.cells #[.bool a2_0, .bool false, .bool a2_2, .int .u64 x380003_66, .int .i64 x380004_66] 56 (0, 0))) ∧ Aside0 (Below w.heap.size w wc))
           case first =>
            have H := HC114.out
            clear HC114
            by_cases c120 : x8_66 = true
            ·
             subst c120
             have H1 : (spec_l4K_sum.j2 kj66 true (IntKind.u64.wrap ((IntKind.u64.wrap (x379003_66 - x380003_66)) - 1)) a0_0 a0_1 a1_0 false a1_2 x379003_66 a1_4 a2_0 false a2_2 x380003_66 x380004_66) = some r := by rw [if_pos rfl] at H; exact H
             clear H
             have H := H1
             clear H1
             have H' := Aside0.mk H
             clear H
             go_wp2
             go_meet
             case rel => exact ⟨_, (IntKind.u64.wrap ((IntKind.u64.wrap (x379003_66 - x380003_66)) - 1)), (by first | rfl | (simp; done) | (simp [*]; done)), H', ⟨by have := HJ3.out; have := HJ66.out; first | omega | exact Nat.le_refl _⟩, ⟨by (with_reducible repeat (first | refine blk_drewN ?_ _ | refine blk_drew ?_ | refine blk_alloc ?_ _)); exact BK377.out⟩, ⟨by (with_reducible repeat (first | refine blk_drewN ?_ _ | refine blk_drew ?_ | refine blk_alloc ?_ _)); exact BK378.out⟩, ⟨by (with_reducible repeat (first | refine blk_drewN ?_ _ | refine blk_drew ?_ | refine blk_alloc ?_ _)); exact BK379.out⟩, ⟨by repeat (first | (with_reducible first | exact HB.out | apply below_alloc | apply pw_below_drewN | apply below_drew1 | refine below_set ?_ GE377.out | refine below_set ?_ GE378.out | refine below_set ?_ GE379.out) | exact HB.out)⟩⟩
            ·
             replace c120 := Bool.eq_false_iff.mpr c120
             subst c120
             have H1 : (spec_l4K_sum.j2 kj66 false (IntKind.u64.wrap (x379003_66 - x380003_66)) a0_0 a0_1 a1_0 false a1_2 x379003_66 a1_4 a2_0 false a2_2 x380003_66 x380004_66) = some r := by rw [if_neg (show ¬ (false = true) by decide)] at H; exact H
             clear H
             have H := H1
             clear H1
             have H' := Aside0.mk H
             clear H
             go_wp2
             go_meet
             case rel => exact ⟨_, (IntKind.u64.wrap (x379003_66 - x380003_66)), (by first | rfl | (simp; done) | (simp [*]; done)), H', ⟨by have := HJ3.out; have := HJ66.out; first | omega | exact Nat.le_refl _⟩, ⟨by (with_reducible repeat (first | refine blk_drewN ?_ _ | refine blk_drew ?_ | refine blk_alloc ?_ _)); exact BK377.out⟩, ⟨by (with_reducible repeat (first | refine blk_drewN ?_ _ | refine blk_drew ?_ | refine blk_alloc ?_ _)); exact BK378.out⟩, ⟨by (with_reducible repeat (first | refine blk_drewN ?_ _ | refine blk_drew ?_ | refine blk_alloc ?_ _)); exact BK379.out⟩, ⟨by repeat (first | (with_reducible first | exact HB.out | apply below_alloc | apply pw_below_drewN | apply below_drew1 | refine below_set ?_ GE377.out | refine below_set ?_ GE378.out | refine below_set ?_ GE379.out) | exact HB.out)⟩⟩
           case rest =>
            clear HC114
            try clear c1
            try clear c2
            try clear p2
            try clear c3
            try clear c4
            try clear c5
            try clear c6
            try clear p6
            try clear c7
            try clear c8
            try clear c9
            try clear c10
            try clear c11
            try clear c12
            try clear c13
            try clear c14
            try clear c16
            try clear c18
            try clear c19
            try clear c20
            try clear c21
            try clear c23
            try clear c25
            try clear c26
            try clear c28
            try clear c30
            try clear c31
            try clear c33
            try clear c35
            try clear c37
            try clear c38
            try clear c41
            try clear c43
            try clear c44
            try clear c46
            try clear c48
            try clear c49
            try clear c50
            try clear c51
            try clear c52
            try clear c54
            try clear c58
            try clear c58b0
            try clear c60
            try clear c61
            try clear c63
            try clear p64
            try clear c66
            try clear c68
            try clear c69
            try clear c71
            try clear c73
            try clear c73b0
            try clear c75
            try clear c75b0
            try clear c75b1
            try clear c77
            try clear c78
            try clear c80
            try clear c80b0
            try clear c81
            try clear c82
            try clear c84
            try clear c87
            try clear c87b0
            try clear c87b1
            try clear c89
            try clear c89b0
            try clear c91
            try clear c92
            try clear c94
            try clear c96
            try clear c96b0
            try clear c96b1
            try clear c96b2
            try clear c98
            try clear c99
            try clear c101
            try clear c105
            try clear c105b0
            try clear c107
            try clear c108
            try clear c110
            try clear c115
            try clear c116
            try clear c118
            try clear c120
            try clear hcz100_0 hcz100_1 hcz100_2 hcz100_3 hcz100_4
            try clear hcz102_0 hcz102_1 hcz102_2 hcz102_3 hcz102_4
            try clear hcz103_0 hcz103_1
            try clear hcz109_0 hcz109_1 hcz109_2 hcz109_3 hcz109_4
            try clear hcz111_0 hcz111_1 hcz111_2 hcz111_3 hcz111_4
            try clear hcz112_0 hcz112_1
            try clear hcz117_0 hcz117_1 hcz117_2 hcz117_3 hcz117_4
            try clear hcz119_0 hcz119_1 hcz119_2 hcz119_3 hcz119_4
            try clear hcz11_0 hcz11_1 hcz11_2 hcz11_3 hcz11_4
            try clear hcz15_0 hcz15_1 hcz15_2 hcz15_3 hcz15_4
            try clear hcz17_0 hcz17_1 hcz17_2 hcz17_3 hcz17_4
            try clear hcz22_0 hcz22_1 hcz22_2 hcz22_3 hcz22_4
            try clear hcz24_0 hcz24_1 hcz24_2 hcz24_3 hcz24_4
            try clear hcz27_0 hcz27_1 hcz27_2 hcz27_3 hcz27_4
            try clear hcz29_0 hcz29_1 hcz29_2 hcz29_3 hcz29_4
            try clear hcz32_0 hcz32_1 hcz32_2 hcz32_3 hcz32_4
            try clear hcz34_0 hcz34_1 hcz34_2 hcz34_3 hcz34_4
            try clear hcz39_0 hcz39_1
            try clear hcz45_0 hcz45_1 hcz45_2 hcz45_3 hcz45_4
            try clear hcz47_0 hcz47_1
            try clear hcz53_0 hcz53_1 hcz53_2 hcz53_3 hcz53_4
            try clear hcz55_0 hcz55_1 hcz55_2 hcz55_3 hcz55_4
            try clear hcz56_0 hcz56_1
            try clear hcz62_0 hcz62_1 hcz62_2 hcz62_3 hcz62_4
            try clear hcz64_0 hcz64_1 hcz64_2 hcz64_3 hcz64_4
            try clear hcz65_0 hcz65_1
            try clear hcz70_0 hcz70_1 hcz70_2 hcz70_3 hcz70_4
            try clear hcz72_0 hcz72_1 hcz72_2 hcz72_3 hcz72_4
            try clear hcz79_0 hcz79_1 hcz79_2 hcz79_3 hcz79_4
            try clear hcz83_0 hcz83_1 hcz83_2 hcz83_3 hcz83_4
            try clear hcz85_0 hcz85_1 hcz85_2 hcz85_3 hcz85_4
            try clear hcz93_0 hcz93_1 hcz93_2 hcz93_3 hcz93_4
            try clear hcz95_0 hcz95_1 hcz95_2 hcz95_3 hcz95_4
            try clear hfz100_0 hfz100_1 hfz100_2 hfz100_3 hfz100_4
            try clear hfz102_0 hfz102_1 hfz102_2 hfz102_3 hfz102_4
            try clear hfz103_0 hfz103_1
            try clear hfz109_0 hfz109_1 hfz109_2 hfz109_3 hfz109_4
            try clear hfz111_0 hfz111_1 hfz111_2 hfz111_3 hfz111_4
            try clear hfz112_0 hfz112_1
            try clear hfz117_0 hfz117_1 hfz117_2 hfz117_3 hfz117_4
            try clear hfz119_0 hfz119_1 hfz119_2 hfz119_3 hfz119_4
            try clear hfz11_0 hfz11_1 hfz11_2 hfz11_3 hfz11_4
            try clear hfz15_0 hfz15_1 hfz15_2 hfz15_3 hfz15_4
            try clear hfz17_0 hfz17_1 hfz17_2 hfz17_3 hfz17_4
            try clear hfz22_0 hfz22_1 hfz22_2 hfz22_3 hfz22_4
            try clear hfz24_0 hfz24_1 hfz24_2 hfz24_3 hfz24_4
            try clear hfz27_0 hfz27_1 hfz27_2 hfz27_3 hfz27_4
            try clear hfz29_0 hfz29_1 hfz29_2 hfz29_3 hfz29_4
            try clear hfz32_0 hfz32_1 hfz32_2 hfz32_3 hfz32_4
            try clear hfz34_0 hfz34_1 hfz34_2 hfz34_3 hfz34_4
            try clear hfz39_0 hfz39_1
            try clear hfz45_0 hfz45_1 hfz45_2 hfz45_3 hfz45_4
            try clear hfz47_0 hfz47_1
            try clear hfz53_0 hfz53_1 hfz53_2 hfz53_3 hfz53_4
            try clear hfz55_0 hfz55_1 hfz55_2 hfz55_3 hfz55_4
            try clear hfz56_0 hfz56_1
            try clear hfz62_0 hfz62_1 hfz62_2 hfz62_3 hfz62_4
            try clear hfz64_0 hfz64_1 hfz64_2 hfz64_3 hfz64_4
            try clear hfz65_0 hfz65_1
            try clear hfz70_0 hfz70_1 hfz70_2 hfz70_3 hfz70_4
            try clear hfz72_0 hfz72_1 hfz72_2 hfz72_3 hfz72_4
            try clear hfz79_0 hfz79_1 hfz79_2 hfz79_3 hfz79_4
            try clear hfz83_0 hfz83_1 hfz83_2 hfz83_3 hfz83_4
            try clear hfz85_0 hfz85_1 hfz85_2 hfz85_3 hfz85_4
            try clear hfz93_0 hfz93_1 hfz93_2 hfz93_3 hfz93_4
            try clear hfz95_0 hfz95_1 hfz95_2 hfz95_3 hfz95_4
            try clear p2
            try clear p6
            try clear p64
            obtain ⟨kq, x9_113, rfl, HA, HJ113, BK377, BK378, BK379, HB⟩ := hcut
            cases kq with
            | zero => exact absurd HA.out (by simp [spec_l4K_sum.j2])
            | succ kj113 =>
             have H := HA.out
             clear HA
             simp only [spec_l4K_sum.j2] at H
             have HC121 := Aside0.mk H
             clear H
             go_upto_region 27 with (fail)
             go_cut [148] (fun v148 wc => ∃ (kq : Nat) (x148_120 : Bool), v148 = .bool x148_120 ∧ Aside0 (spec_l4K_sum.j3 kq x8_66 x9_113 x148_120 a0_0 a0_1 a1_0 false a1_2 x379003_66 a1_4 a2_0 false a2_2 x380003_66 x380004_66 = some r) ∧ Aside0 (kq ≤ kj113) ∧ Aside0 (wc.heap[gb377]? = some (.cells #[.int .u64 a0_0, .int .u64 a0_1] 52 (0, 0))) ∧ Aside0 (wc.heap[gb378]? = some (.cells #[.bool a1_0, .bool false, .bool a1_2, .int .u64 x379003_66, .int .i64 a1_4] 56 (0, 0))) ∧ Aside0 (wc.heap[gb379]? = some (.cells #[.bool a2_0, .bool false, .bool a2_2, .int .u64 x380003_66, .int .i64 x380004_66] 56 (0, 0))) ∧ Aside0 (Below w.heap.size w wc))
             case first =>
              have H := HC121.out
              clear HC121
              by_cases c122 : x9_113 = 0
              ·
               rw [if_pos c122] at H
               have c122b0 : (x9_113 == 0) = true := beq_iff_eq.mpr c122
               have c122b1 : (x9_113 != 0) = false := bne_eq_false_iff_eq.mpr c122
               clear c122
               (first | rw [c122b0] | (simp only [i64_w, i32_w]; rw [c122b0]) | skip)
               have H' := Aside0.mk H
               clear H
               go_wp2
               go_meet
               case rel => exact ⟨_, (!x8_66), (by first | rfl | (simp; done) | (simp [*]; done)), H', ⟨by have := HJ3.out; have := HJ66.out; have := HJ113.out; first | omega | exact Nat.le_refl _⟩, ⟨by (with_reducible repeat (first | refine blk_drewN ?_ _ | refine blk_drew ?_ | refine blk_alloc ?_ _)); exact BK377.out⟩, ⟨by (with_reducible repeat (first | refine blk_drewN ?_ _ | refine blk_drew ?_ | refine blk_alloc ?_ _)); exact BK378.out⟩, ⟨by (with_reducible repeat (first | refine blk_drewN ?_ _ | refine blk_drew ?_ | refine blk_alloc ?_ _)); exact BK379.out⟩, ⟨by repeat (first | (with_reducible first | exact HB.out | apply below_alloc | apply pw_below_drewN | apply below_drew1 | refine below_set ?_ GE377.out | refine below_set ?_ GE378.out | refine below_set ?_ GE379.out) | exact HB.out)⟩⟩
              ·
               rw [if_neg c122] at H
               have c122b0 : (x9_113 == 0) = false := beq_eq_false_iff_ne.mpr c122
               have c122b1 : (x9_113 != 0) = true := bne_iff_ne.mpr c122
               (first | rw [c122b0] | (simp only [i64_w, i32_w]; rw [c122b0]) | skip)
               have H' := Aside0.mk H
               clear H
               go_wp2
               go_meet
               case rel => exact ⟨_, (false), (by first | rfl | (simp; done) | (simp [*]; done)), H', ⟨by have := HJ3.out; have := HJ66.out; have := HJ113.out; first | omega | exact Nat.le_refl _⟩, ⟨by (with_reducible repeat (first | refine blk_drewN ?_ _ | refine blk_drew ?_ | refine blk_alloc ?_ _)); exact BK377.out⟩, ⟨by (with_reducible repeat (first | refine blk_drewN ?_ _ | refine blk_drew ?_ | refine blk_alloc ?_ _)); exact BK378.out⟩, ⟨by (with_reducible repeat (first | refine blk_drewN ?_ _ | refine blk_drew ?_ | refine blk_alloc ?_ _)); exact BK379.out⟩, ⟨by repeat (first | (with_reducible first | exact HB.out | apply below_alloc | apply pw_below_drewN | apply below_drew1 | refine below_set ?_ GE377.out | refine below_set ?_ GE378.out | refine below_set ?_ GE379.out) | exact HB.out)⟩⟩
             case rest =>
              clear HC121
              try clear c1
              try clear c2
              try clear p2
              try clear c3
              try clear c4
              try clear c5
              try clear c6
              try clear p6
              try clear c7
              try clear c8
              try clear c9
              try clear c10
              try clear c11
              try clear c12
              try clear c13
              try clear c14
              try clear c16
              try clear c18
              try clear c19
              try clear c20
              try clear c21
              try clear c23
              try clear c25
              try clear c26
              try clear c28
              try clear c30
              try clear c31
              try clear c33
              try clear c35
              try clear c37
              try clear c38
              try clear c41
              try clear c43
              try clear c44
              try clear c46
              try clear c48
              try clear c49
              try clear c50
              try clear c51
              try clear c52
              try clear c54
              try clear c58
              try clear c58b0
              try clear c60
              try clear c61
              try clear c63
              try clear p64
              try clear c66
              try clear c68
              try clear c69
              try clear c71
              try clear c73
              try clear c73b0
              try clear c75
              try clear c75b0
              try clear c75b1
              try clear c77
              try clear c78
              try clear c80
              try clear c80b0
              try clear c81
              try clear c82
              try clear c84
              try clear c87
              try clear c87b0
              try clear c87b1
              try clear c89
              try clear c89b0
              try clear c91
              try clear c92
              try clear c94
              try clear c96
              try clear c96b0
              try clear c96b1
              try clear c96b2
              try clear c98
              try clear c99
              try clear c101
              try clear c105
              try clear c105b0
              try clear c107
              try clear c108
              try clear c110
              try clear c115
              try clear c116
              try clear c118
              try clear c120
              try clear c122
              try clear c122b0
              try clear c122b1
              try clear hcz100_0 hcz100_1 hcz100_2 hcz100_3 hcz100_4
              try clear hcz102_0 hcz102_1 hcz102_2 hcz102_3 hcz102_4
              try clear hcz103_0 hcz103_1
              try clear hcz109_0 hcz109_1 hcz109_2 hcz109_3 hcz109_4
              try clear hcz111_0 hcz111_1 hcz111_2 hcz111_3 hcz111_4
              try clear hcz112_0 hcz112_1
              try clear hcz117_0 hcz117_1 hcz117_2 hcz117_3 hcz117_4
              try clear hcz119_0 hcz119_1 hcz119_2 hcz119_3 hcz119_4
              try clear hcz11_0 hcz11_1 hcz11_2 hcz11_3 hcz11_4
              try clear hcz15_0 hcz15_1 hcz15_2 hcz15_3 hcz15_4
              try clear hcz17_0 hcz17_1 hcz17_2 hcz17_3 hcz17_4
              try clear hcz22_0 hcz22_1 hcz22_2 hcz22_3 hcz22_4
              try clear hcz24_0 hcz24_1 hcz24_2 hcz24_3 hcz24_4
              try clear hcz27_0 hcz27_1 hcz27_2 hcz27_3 hcz27_4
              try clear hcz29_0 hcz29_1 hcz29_2 hcz29_3 hcz29_4
              try clear hcz32_0 hcz32_1 hcz32_2 hcz32_3 hcz32_4
              try clear hcz34_0 hcz34_1 hcz34_2 hcz34_3 hcz34_4
              try clear hcz39_0 hcz39_1
              try clear hcz45_0 hcz45_1 hcz45_2 hcz45_3 hcz45_4
              try clear hcz47_0 hcz47_1
              try clear hcz53_0 hcz53_1 hcz53_2 hcz53_3 hcz53_4
              try clear hcz55_0 hcz55_1 hcz55_2 hcz55_3 hcz55_4
              try clear hcz56_0 hcz56_1
              try clear hcz62_0 hcz62_1 hcz62_2 hcz62_3 hcz62_4
              try clear hcz64_0 hcz64_1 hcz64_2 hcz64_3 hcz64_4
              try clear hcz65_0 hcz65_1
              try clear hcz70_0 hcz70_1 hcz70_2 hcz70_3 hcz70_4
              try clear hcz72_0 hcz72_1 hcz72_2 hcz72_3 hcz72_4
              try clear hcz79_0 hcz79_1 hcz79_2 hcz79_3 hcz79_4
              try clear hcz83_0 hcz83_1 hcz83_2 hcz83_3 hcz83_4
              try clear hcz85_0 hcz85_1 hcz85_2 hcz85_3 hcz85_4
              try clear hcz93_0 hcz93_1 hcz93_2 hcz93_3 hcz93_4
              try clear hcz95_0 hcz95_1 hcz95_2 hcz95_3 hcz95_4
              try clear hfz100_0 hfz100_1 hfz100_2 hfz100_3 hfz100_4
              try clear hfz102_0 hfz102_1 hfz102_2 hfz102_3 hfz102_4
              try clear hfz103_0 hfz103_1
              try clear hfz109_0 hfz109_1 hfz109_2 hfz109_3 hfz109_4
              try clear hfz111_0 hfz111_1 hfz111_2 hfz111_3 hfz111_4
              try clear hfz112_0 hfz112_1
              try clear hfz117_0 hfz117_1 hfz117_2 hfz117_3 hfz117_4
              try clear hfz119_0 hfz119_1 hfz119_2 hfz119_3 hfz119_4
              try clear hfz11_0 hfz11_1 hfz11_2 hfz11_3 hfz11_4
              try clear hfz15_0 hfz15_1 hfz15_2 hfz15_3 hfz15_4
              try clear hfz17_0 hfz17_1 hfz17_2 hfz17_3 hfz17_4
              try clear hfz22_0 hfz22_1 hfz22_2 hfz22_3 hfz22_4
              try clear hfz24_0 hfz24_1 hfz24_2 hfz24_3 hfz24_4
              try clear hfz27_0 hfz27_1 hfz27_2 hfz27_3 hfz27_4
              try clear hfz29_0 hfz29_1 hfz29_2 hfz29_3 hfz29_4
              try clear hfz32_0 hfz32_1 hfz32_2 hfz32_3 hfz32_4
              try clear hfz34_0 hfz34_1 hfz34_2 hfz34_3 hfz34_4
              try clear hfz39_0 hfz39_1
              try clear hfz45_0 hfz45_1 hfz45_2 hfz45_3 hfz45_4
              try clear hfz47_0 hfz47_1
              try clear hfz53_0 hfz53_1 hfz53_2 hfz53_3 hfz53_4
              try clear hfz55_0 hfz55_1 hfz55_2 hfz55_3 hfz55_4
              try clear hfz56_0 hfz56_1
              try clear hfz62_0 hfz62_1 hfz62_2 hfz62_3 hfz62_4
              try clear hfz64_0 hfz64_1 hfz64_2 hfz64_3 hfz64_4
              try clear hfz65_0 hfz65_1
              try clear hfz70_0 hfz70_1 hfz70_2 hfz70_3 hfz70_4
              try clear hfz72_0 hfz72_1 hfz72_2 hfz72_3 hfz72_4
              try clear hfz79_0 hfz79_1 hfz79_2 hfz79_3 hfz79_4
              try clear hfz83_0 hfz83_1 hfz83_2 hfz83_3 hfz83_4
              try clear hfz85_0 hfz85_1 hfz85_2 hfz85_3 hfz85_4
              try clear hfz93_0 hfz93_1 hfz93_2 hfz93_3 hfz93_4
              try clear hfz95_0 hfz95_1 hfz95_2 hfz95_3 hfz95_4
              try clear p2
              try clear p6
              try clear p64
              obtain ⟨kq, x148_120, rfl, HA, HJ120, BK377, BK378, BK379, HB⟩ := hcut
              cases kq with
              | zero => exact absurd HA.out (by simp [spec_l4K_sum.j3])
              | succ kj120 =>
               have H := HA.out
               clear HA
               simp only [spec_l4K_sum.j3] at H
               by_cases c123 : x148_120 = true
               ·
                subst c123
                have H1 : ((spec_l4K_sign.f a0_0 a0_1 false).bind fun t386 => (some t386)) = some r := by rw [if_pos rfl] at H; exact H
                clear H
                have H := H1
                clear H1
                replace H := Option.bind_eq_some_iff.mp H
                obtain ⟨t386, A1240, H⟩ := H
                replace H : (some t386) = some r := H
                have A124 := Aside0.mk A1240
                clear A1240
                obtain rfl := Option.some.inj H
                simp only [Option.some.injEq, Prod.mk.injEq] at H
                obtain ⟨rfl⟩ := H
                have hnb125 := NB377_378.out
                have hnc125 := NB378_377.out
                have hnb126 := NB377_379.out
                have hnc126 := NB379_377.out
                have hcz127_0 : wc.cell? ⟨gb377, 0, none⟩ = some (.int .u64 a0_0) := (blk_cell BK377.out 0).trans rfl
                have hcz127_1 : wc.cell? ⟨gb377, 1, none⟩ = some (.int .u64 a0_1) := (blk_cell BK377.out 1).trans rfl
                have hfz127_0 := blk_frozen BK377.out 0
                have hfz127_1 := blk_frozen BK377.out 1
                go_wp2_with (first | ((with_reducible refine gate_callee (f := 83) rfl ?_); refine goesL_ (some 150) rfl rfl Try.func83 (by kernel_rfl) rfl #[.agg #[.int .u64 a0_0, .int .u64 a0_1], .bool false] rfl (by (try simp only [List.map_toArray, List.map_cons, List.map_nil]); first | done | rfl | (simp only [List.length_drop, List.length_take]; rfl)) ?_; (with_reducible refine (spec_l4K_sign.calls a0_0 a0_1 false t386 _ A124.out).mono ?_); rintro e w128 ⟨rfl, hb⟩; refine ⟨_, rfl, ?_⟩; have n0_ := Aside0.mk (blk_below (g := gb377) (o := .cells #[.int .u64 a0_0, .int .u64 a0_1] 52 (0, 0)) (by (with_reducible repeat (first | refine blk_drewN ?_ _ | refine blk_drew ?_ | refine blk_alloc ?_ _)); exact BK377.out) hb); have n1_ := Aside0.mk (blk_below (g := gb378) (o := .cells #[.bool a1_0, .bool false, .bool a1_2, .int .u64 x379003_66, .int .i64 a1_4] 56 (0, 0)) (by (with_reducible repeat (first | refine blk_drewN ?_ _ | refine blk_drew ?_ | refine blk_alloc ?_ _)); exact BK378.out) hb); have n2_ := Aside0.mk (blk_below (g := gb379) (o := .cells #[.bool a2_0, .bool false, .bool a2_2, .int .u64 x380003_66, .int .i64 x380004_66] 56 (0, 0)) (by (with_reducible repeat (first | refine blk_drewN ?_ _ | refine blk_drew ?_ | refine blk_alloc ?_ _)); exact BK379.out) hb); have n3_ := Aside0.mk (below_step (by repeat (first | (with_reducible first | exact HB.out | apply below_alloc | apply pw_below_drewN | apply below_drew1 | refine below_set ?_ GE377.out | refine below_set ?_ GE378.out | refine below_set ?_ GE379.out) | exact HB.out)) hb); clear BK377; clear BK378; clear BK379; clear HB; have BK377 := n0_; have BK378 := n1_; have BK379 := n2_; have HB := n3_; clear n0_ n1_ n2_ n3_; (try clear hb); (try clear hb2); (try clear hk); (try clear hi)))
                go_ret
                exact ⟨by first | rfl | (simp [errW_none, errW_some] <;> rfl) | (simp [*, errW_none, errW_some] <;> rfl), by repeat (first | (with_reducible first | exact HB.out | apply below_alloc | apply pw_below_drewN | apply below_drew1 | refine below_set ?_ GE377.out | refine below_set ?_ GE378.out | refine below_set ?_ GE379.out) | exact HB.out)⟩
               ·
                replace c123 := Bool.eq_false_iff.mpr c123
                subst c123
                have H1 : ((spec_l4K_round.f kj120 a0_0 a0_1 a1_0 x9_113 x380004_66 x8_66).bind fun t387 => (some t387)) = some r := by rw [if_neg (show ¬ (false = true) by decide)] at H; exact H
                clear H
                have H := H1
                clear H1
                replace H := Option.bind_eq_some_iff.mp H
                obtain ⟨t387, A1290, H⟩ := H
                replace H : (some t387) = some r := H
                have A129 := Aside0.mk A1290
                clear A1290
                obtain rfl := Option.some.inj H
                simp only [Option.some.injEq, Prod.mk.injEq] at H
                obtain ⟨rfl⟩ := H
                have hnb130 := NB377_378.out
                have hnc130 := NB378_377.out
                have hnb131 := NB377_379.out
                have hnc131 := NB379_377.out
                have hcz132_0 : wc.cell? ⟨gb377, 0, none⟩ = some (.int .u64 a0_0) := (blk_cell BK377.out 0).trans rfl
                have hcz132_1 : wc.cell? ⟨gb377, 1, none⟩ = some (.int .u64 a0_1) := (blk_cell BK377.out 1).trans rfl
                have hfz132_0 := blk_frozen BK377.out 0
                have hfz132_1 := blk_frozen BK377.out 1
                have hnb133 := NB378_379.out
                have hnc133 := NB379_378.out
                have hcz134_0 : wc.cell? ⟨gb378, 0, none⟩ = some (.bool a1_0) := (blk_cell BK378.out 0).trans rfl
                have hcz134_1 : wc.cell? ⟨gb378, 1, none⟩ = some (.bool false) := (blk_cell BK378.out 1).trans rfl
                have hcz134_2 : wc.cell? ⟨gb378, 2, none⟩ = some (.bool a1_2) := (blk_cell BK378.out 2).trans rfl
                have hcz134_3 : wc.cell? ⟨gb378, 3, none⟩ = some (.int .u64 x379003_66) := (blk_cell BK378.out 3).trans rfl
                have hcz134_4 : wc.cell? ⟨gb378, 4, none⟩ = some (.int .i64 a1_4) := (blk_cell BK378.out 4).trans rfl
                have hfz134_0 := blk_frozen BK378.out 0
                have hfz134_1 := blk_frozen BK378.out 1
                have hfz134_2 := blk_frozen BK378.out 2
                have hfz134_3 := blk_frozen BK378.out 3
                have hfz134_4 := blk_frozen BK378.out 4
                have hcz135_0 : wc.cell? ⟨gb379, 0, none⟩ = some (.bool a2_0) := (blk_cell BK379.out 0).trans rfl
                have hcz135_1 : wc.cell? ⟨gb379, 1, none⟩ = some (.bool false) := (blk_cell BK379.out 1).trans rfl
                have hcz135_2 : wc.cell? ⟨gb379, 2, none⟩ = some (.bool a2_2) := (blk_cell BK379.out 2).trans rfl
                have hcz135_3 : wc.cell? ⟨gb379, 3, none⟩ = some (.int .u64 x380003_66) := (blk_cell BK379.out 3).trans rfl
                have hcz135_4 : wc.cell? ⟨gb379, 4, none⟩ = some (.int .i64 x380004_66) := (blk_cell BK379.out 4).trans rfl
                have hfz135_0 := blk_frozen BK379.out 0
                have hfz135_1 := blk_frozen BK379.out 1
                have hfz135_2 := blk_frozen BK379.out 2
                have hfz135_3 := blk_frozen BK379.out 3
                have hfz135_4 := blk_frozen BK379.out 4
                go_wp2_with (first | ((with_reducible refine gate_callee (f := 50) rfl ?_); refine goesL_ (some 158) rfl rfl Try.func50 (by kernel_rfl) rfl #[.agg #[.int .u64 a0_0, .int .u64 a0_1], .bool a1_0, .int .u64 x9_113, .int .i64 x380004_66, .bool x8_66] rfl (by (try simp only [List.map_toArray, List.map_cons, List.map_nil]); first | done | rfl | (simp only [List.length_drop, List.length_take]; rfl)) ?_; (with_reducible refine (spec_l4K_round.calls kj120 a0_0 a0_1 a1_0 x9_113 x380004_66 x8_66 t387 _ A129.out).mono ?_); rintro e w136 ⟨rfl, hb⟩; refine ⟨_, rfl, ?_⟩; have n0_ := Aside0.mk (blk_below (g := gb377) (o := .cells #[.int .u64 a0_0, .int .u64 a0_1] 52 (0, 0)) (by (with_reducible repeat (first | refine blk_drewN ?_ _ | refine blk_drew ?_ | refine blk_alloc ?_ _)); exact BK377.out) hb); have n1_ := Aside0.mk (blk_below (g := gb378) (o := .cells #[.bool a1_0, .bool false, .bool a1_2, .int .u64 x379003_66, .int .i64 a1_4] 56 (0, 0)) (by (with_reducible repeat (first | refine blk_drewN ?_ _ | refine blk_drew ?_ | refine blk_alloc ?_ _)); exact BK378.out) hb); have n2_ := Aside0.mk (blk_below (g := gb379) (o := .cells #[.bool a2_0, .bool false, .bool a2_2, .int .u64 x380003_66, .int .i64 x380004_66] 56 (0, 0)) (by (with_reducible repeat (first | refine blk_drewN ?_ _ | refine blk_drew ?_ | refine blk_alloc ?_ _)); exact BK379.out) hb); have n3_ := Aside0.mk (below_step (by repeat (first | (with_reducible first | exact HB.out | apply below_alloc | apply pw_below_drewN | apply below_drew1 | refine below_set ?_ GE377.out | refine below_set ?_ GE378.out | refine below_set ?_ GE379.out) | exact HB.out)) hb); clear BK377; clear BK378; clear BK379; clear HB; have BK377 := n0_; have BK378 := n1_; have BK379 := n2_; have HB := n3_; clear n0_ n1_ n2_ n3_; (try clear hb); (try clear hb2); (try clear hk); (try clear hi)))
                go_ret
                exact ⟨by first | rfl | (simp [errW_none, errW_some] <;> rfl) | (simp [*, errW_none, errW_some] <;> rfl), by repeat (first | (with_reducible first | exact HB.out | apply below_alloc | apply pw_below_drewN | apply below_drew1 | refine below_set ?_ GE377.out | refine below_set ?_ GE378.out | refine below_set ?_ GE379.out) | exact HB.out)⟩

end Go.Proofs.Ytdeogandkgiggaa.Q
