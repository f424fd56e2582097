-- Written by a program of this session; it walks the functions that the law reaches.
import Derived.Test.YtdeogandkgiggaaQx0
import Derived.Test.YtdeogandkgiggaaQx1
import Derived.Test.YtdeogandkgiggaaQx5
namespace Go.Proofs.Ytdeogandkgiggaa.Q
open Go.RowKit Go.Proofs.YtdeogandkgiggaaW.PrintWords Go.Proofs.YtdeogandkgiggaaW.PrintLast Go.Proofs.YtdeogandkgiggaaW.PrintMore
attribute [local go_sem] max2_int min2_int max_two min_two max_three min_three max_four min_four   -- for this text's walks alone
set_option linter.unusedVariables false
set_option linter.unusedSimpArgs false

/-! ### spec_l4K_sum: function 66 -/
mutual
def spec_l4K_sum.j0 : Nat → Bool → Int → Int → Bool → Bool → Bool → Int → Int → Bool → Bool → Bool → Int → Int → Option (Int)
 | 0, _, _, _, _, _, _, _, _, _, _, _, _, _ => none
 | k + 1, x10, x196000, x196001, x197000, x197001, x197002, x197003, x197004, x198000, x198001, x198002, x198003, x198004 => if x10 = true then ((spec_l4K_nan.f x196000 x196001).bind fun t198 => (some t198)) else (if x197001 = true then ((spec_l4K_inf.f x196000 x196001 x197000).bind fun t199 => (some t199)) else (if x198001 = true then ((spec_l4K_inf.f x196000 x196001 x198000).bind fun t200 => (some t200)) else (if x197004 < x198004 then ((spec_l4K_sum.f k x196000 x196001 x198000 x198001 x198002 x198003 x198004 x197000 x197001 x197002 x197003 x197004).bind fun t201 => (some t201)) else (if (IntKind.u64.wrap (wrap64 (x197004 - x198004))) ≤ 30 then (if 0 ≤ (IntKind.u64.wrap (wrap64 (x197004 - x198004))) then (spec_l4K_sum.j1 k false x196000 x196001 x197000 x197001 x197002 (shl .u64 x197003 (IntKind.u64.wrap (wrap64 (x197004 - x198004)))) x197004 x198000 x198001 x198002 x198003 x198004) else (none)) else (if (IntKind.u64.wrap ((IntKind.u64.wrap (wrap64 (x197004 - x198004))) - 30)) > 60 then (spec_l4K_sum.j1 k (x198003 != 0) x196000 x196001 x197000 x197001 x197002 (IntKind.u64.wrap (x197003 * 1073741824)) x197004 x198000 x198001 x198002 0 (wrap64 (x197004 - 30))) else (if 0 ≤ (IntKind.u64.wrap ((IntKind.u64.wrap (wrap64 (x197004 - x198004))) - 30)) then (spec_l4K_sum.j1 k ((Go.bits .and .u64 x198003 (IntKind.u64.wrap ((shl .u64 1 (IntKind.u64.wrap ((IntKind.u64.wrap (wrap64 (x197004 - x198004))) - 30))) - 1))) != 0) x196000 x196001 x197000 x197001 x197002 (IntKind.u64.wrap (x197003 * 1073741824)) x197004 x198000 x198001 x198002 (shr .u64 x198003 (IntKind.u64.wrap ((IntKind.u64.wrap (wrap64 (x197004 - x198004))) - 30))) (wrap64 (x197004 - 30))) else (none)))))))
def spec_l4K_sum.j1 : Nat → Bool → Int → Int → Bool → Bool → Bool → Int → Int → Bool → Bool → Bool → Int → Int → Option (Int)
 | 0, _, _, _, _, _, _, _, _, _, _, _, _, _ => none
 | k + 1, x8, x196000, x196001, x197000, x197001, x197002, x197003, x197004, x198000, x198001, x198002, x198003, x198004 => if (x197000 == x198000) = true then ((spec_l4K_round.f k x196000 x196001 x197000 (IntKind.u64.wrap (x197003 + x198003)) x198004 x8).bind fun t202 => (some t202)) else (if x198003 > x197003 then ((spec_l4K_round.f k x196000 x196001 x198000 (IntKind.u64.wrap (x198003 - x197003)) x198004 x8).bind fun t203 => (some t203)) else (if x8 = true then (spec_l4K_sum.j2 k x8 (IntKind.u64.wrap ((IntKind.u64.wrap (x197003 - x198003)) - 1)) x196000 x196001 x197000 x197001 x197002 x197003 x197004 x198000 x198001 x198002 x198003 x198004) else (spec_l4K_sum.j2 k x8 (IntKind.u64.wrap (x197003 - x198003)) x196000 x196001 x197000 x197001 x197002 x197003 x197004 x198000 x198001 x198002 x198003 x198004)))
def spec_l4K_sum.j2 : Nat → Bool → Int → Int → Int → Bool → Bool → Bool → Int → Int → Bool → Bool → Bool → Int → Int → Option (Int)
 | 0, _, _, _, _, _, _, _, _, _, _, _, _, _, _ => none
 | k + 1, x8, x9, x196000, x196001, x197000, x197001, x197002, x197003, x197004, x198000, x198001, x198002, x198003, x198004 => if x9 = 0 then (spec_l4K_sum.j3 k x8 x9 (!x8) x196000 x196001 x197000 x197001 x197002 x197003 x197004 x198000 x198001 x198002 x198003 x198004) else (spec_l4K_sum.j3 k x8 x9 false x196000 x196001 x197000 x197001 x197002 x197003 x197004 x198000 x198001 x198002 x198003 x198004)
def spec_l4K_sum.j3 : Nat → Bool → Int → Bool → Int → Int → Bool → Bool → Bool → Int → Int → Bool → Bool → Bool → Int → Int → Option (Int)
 | 0, _, _, _, _, _, _, _, _, _, _, _, _, _, _, _ => none
 | k + 1, x8, x9, x148, x196000, x196001, x197000, x197001, x197002, x197003, x197004, x198000, x198001, x198002, x198003, x198004 => if x148 = true then ((spec_l4K_sign.f x196000 x196001 false).bind fun t204 => (some t204)) else ((spec_l4K_round.f k x196000 x196001 x197000 x9 x198004 x8).bind fun t205 => (some t205))
def spec_l4K_sum.f : Nat → Int → Int → Bool → Bool → Bool → Int → Int → Bool → Bool → Bool → Int → Int → Option (Int)
 | 0, _, _, _, _, _, _, _, _, _, _, _, _ => none
 | k + 1, a0_0, a0_1, a1_0, a1_1, a1_2, a1_3, a1_4, a2_0, a2_1, a2_2, a2_3, a2_4 => if a1_2 = true then (spec_l4K_sum.j0 k true a0_0 a0_1 a1_0 a1_1 a1_2 a1_3 a1_4 a2_0 a2_1 a2_2 a2_3 a2_4) else (if a2_2 = true then (spec_l4K_sum.j0 k true a0_0 a0_1 a1_0 a1_1 a1_2 a1_3 a1_4 a2_0 a2_1 a2_2 a2_3 a2_4) else (if a1_1 = true then (if a2_1 = true then (spec_l4K_sum.j0 k (a1_0 != a2_0) a0_0 a0_1 a1_0 a1_1 a1_2 a1_3 a1_4 a2_0 a2_1 a2_2 a2_3 a2_4) else (spec_l4K_sum.j0 k false a0_0 a0_1 a1_0 a1_1 a1_2 a1_3 a1_4 a2_0 a2_1 a2_2 a2_3 a2_4)) else (spec_l4K_sum.j0 k false a0_0 a0_1 a1_0 a1_1 a1_2 a1_3 a1_4 a2_0 a2_1 a2_2 a2_3 a2_4)))
end
theorem spec_l4K_sum.mono_l : ∀ k, (∀ y0 y1 y2 y3 y4 y5 y6 y7 y8 y9 y10 y11, LeO (spec_l4K_sum.f k y0 y1 y2 y3 y4 y5 y6 y7 y8 y9 y10 y11) (spec_l4K_sum.f (k + 1) y0 y1 y2 y3 y4 y5 y6 y7 y8 y9 y10 y11)) ∧ (∀ y0 y1 y2 y3 y4 y5 y6 y7 y8 y9 y10 y11 y12, LeO (spec_l4K_sum.j0 k y0 y1 y2 y3 y4 y5 y6 y7 y8 y9 y10 y11 y12) (spec_l4K_sum.j0 (k + 1) y0 y1 y2 y3 y4 y5 y6 y7 y8 y9 y10 y11 y12)) ∧ (∀ y0 y1 y2 y3 y4 y5 y6 y7 y8 y9 y10 y11 y12, LeO (spec_l4K_sum.j1 k y0 y1 y2 y3 y4 y5 y6 y7 y8 y9 y10 y11 y12) (spec_l4K_sum.j1 (k + 1) y0 y1 y2 y3 y4 y5 y6 y7 y8 y9 y10 y11 y12)) ∧ (∀ y0 y1 y2 y3 y4 y5 y6 y7 y8 y9 y10 y11 y12 y13, LeO (spec_l4K_sum.j2 k y0 y1 y2 y3 y4 y5 y6 y7 y8 y9 y10 y11 y12 y13) (spec_l4K_sum.j2 (k + 1) y0 y1 y2 y3 y4 y5 y6 y7 y8 y9 y10 y11 y12 y13)) ∧ (∀ y0 y1 y2 y3 y4 y5 y6 y7 y8 y9 y10 y11 y12 y13 y14, LeO (spec_l4K_sum.j3 k y0 y1 y2 y3 y4 y5 y6 y7 y8 y9 y10 y11 y12 y13 y14) (spec_l4K_sum.j3 (k + 1) y0 y1 y2 y3 y4 y5 y6 y7 y8 y9 y10 y11 y12 y13 y14))
 | 0 => ⟨fun _ _ _ _ _ _ _ _ _ _ _ _ r h => by simp [spec_l4K_sum.f] at h, fun _ _ _ _ _ _ _ _ _ _ _ _ _ r h => by simp [spec_l4K_sum.j0] at h, fun _ _ _ _ _ _ _ _ _ _ _ _ _ r h => by simp [spec_l4K_sum.j1] at h, fun _ _ _ _ _ _ _ _ _ _ _ _ _ _ r h => by simp [spec_l4K_sum.j2] at h, fun _ _ _ _ _ _ _ _ _ _ _ _ _ _ _ r h => by simp [spec_l4K_sum.j3] at h⟩
 | k + 1 => by
  obtain ⟨ih0, ih1, ih2, ih3, ih4⟩ := spec_l4K_sum.mono_l k
  refine ⟨?_, ?_, ?_, ?_, ?_⟩
  ·
   intro y0 y1 y2 y3 y4 y5 y6 y7 y8 y9 y10 y11
   unfold spec_l4K_sum.f
   repeat' first
   | (with_reducible exact ih0 _ _ _ _ _ _ _ _ _ _ _ _)
   | (with_reducible exact ih1 _ _ _ _ _ _ _ _ _ _ _ _ _)
   | (with_reducible exact ih2 _ _ _ _ _ _ _ _ _ _ _ _ _)
   | (with_reducible exact ih3 _ _ _ _ _ _ _ _ _ _ _ _ _ _)
   | (with_reducible exact ih4 _ _ _ _ _ _ _ _ _ _ _ _ _ _ _)
   | (with_reducible exact spec_l4K_round.mono _ _ _ _ _ _ _)
   | (with_reducible exact LeO.refl _)
   | (with_reducible exact LeO.none _)
   | (with_reducible refine LeO.ite ?_ ?_)
   | (with_reducible refine LeO.bind ?_ (fun _ => ?_))
   | exact ih0 _ _ _ _ _ _ _ _ _ _ _ _
   | exact ih1 _ _ _ _ _ _ _ _ _ _ _ _ _
   | exact ih2 _ _ _ _ _ _ _ _ _ _ _ _ _
   | exact ih3 _ _ _ _ _ _ _ _ _ _ _ _ _ _
   | exact ih4 _ _ _ _ _ _ _ _ _ _ _ _ _ _ _
   | exact spec_l4K_round.mono _ _ _ _ _ _ _
   | exact LeO.none _
   | refine LeO.ite ?_ ?_
   | refine LeO.bind ?_ (fun _ => ?_)
  ·
   intro y0 y1 y2 y3 y4 y5 y6 y7 y8 y9 y10 y11 y12
   unfold spec_l4K_sum.j0
   repeat' first
   | (with_reducible exact ih0 _ _ _ _ _ _ _ _ _ _ _ _)
   | (with_reducible exact ih1 _ _ _ _ _ _ _ _ _ _ _ _ _)
   | (with_reducible exact ih2 _ _ _ _ _ _ _ _ _ _ _ _ _)
   | (with_reducible exact ih3 _ _ _ _ _ _ _ _ _ _ _ _ _ _)
   | (with_reducible exact ih4 _ _ _ _ _ _ _ _ _ _ _ _ _ _ _)
   | (with_reducible exact spec_l4K_round.mono _ _ _ _ _ _ _)
   | (with_reducible exact LeO.refl _)
   | (with_reducible exact LeO.none _)
   | (with_reducible refine LeO.ite ?_ ?_)
   | (with_reducible refine LeO.bind ?_ (fun _ => ?_))
   | exact ih0 _ _ _ _ _ _ _ _ _ _ _ _
   | exact ih1 _ _ _ _ _ _ _ _ _ _ _ _ _
   | exact ih2 _ _ _ _ _ _ _ _ _ _ _ _ _
   | exact ih3 _ _ _ _ _ _ _ _ _ _ _ _ _ _
   | exact ih4 _ _ _ _ _ _ _ _ _ _ _ _ _ _ _
   | exact spec_l4K_round.mono _ _ _ _ _ _ _
   | exact LeO.none _
   | refine LeO.ite ?_ ?_
   | refine LeO.bind ?_ (fun _ => ?_)
  ·
   intro y0 y1 y2 y3 y4 y5 y6 y7 y8 y9 y10 y11 y12
   unfold spec_l4K_sum.j1
   repeat' first
   | (with_reducible exact ih0 _ _ _ _ _ _ _ _ _ _ _ _)
   | (with_reducible exact ih1 _ _ _ _ _ _ _ _ _ _ _ _ _)
   | (with_reducible exact ih2 _ _ _ _ _ _ _ _ _ _ _ _ _)
   | (with_reducible exact ih3 _ _ _ _ _ _ _ _ _ _ _ _ _ _)
   | (with_reducible exact ih4 _ _ _ _ _ _ _ _ _ _ _ _ _ _ _)
   | (with_reducible exact spec_l4K_round.mono _ _ _ _ _ _ _)
   | (with_reducible exact LeO.refl _)
   | (with_reducible exact LeO.none _)
   | (with_reducible refine LeO.ite ?_ ?_)
   | (with_reducible refine LeO.bind ?_ (fun _ => ?_))
   | exact ih0 _ _ _ _ _ _ _ _ _ _ _ _
   | exact ih1 _ _ _ _ _ _ _ _ _ _ _ _ _
   | exact ih2 _ _ _ _ _ _ _ _ _ _ _ _ _
   | exact ih3 _ _ _ _ _ _ _ _ _ _ _ _ _ _
   | exact ih4 _ _ _ _ _ _ _ _ _ _ _ _ _ _ _
   | exact spec_l4K_round.mono _ _ _ _ _ _ _
   | exact LeO.none _
   | refine LeO.ite ?_ ?_
   | refine LeO.bind ?_ (fun _ => ?_)
  ·
   intro y0 y1 y2 y3 y4 y5 y6 y7 y8 y9 y10 y11 y12 y13
   unfold spec_l4K_sum.j2
   repeat' first
   | (with_reducible exact ih0 _ _ _ _ _ _ _ _ _ _ _ _)
   | (with_reducible exact ih1 _ _ _ _ _ _ _ _ _ _ _ _ _)
   | (with_reducible exact ih2 _ _ _ _ _ _ _ _ _ _ _ _ _)
   | (with_reducible exact ih3 _ _ _ _ _ _ _ _ _ _ _ _ _ _)
   | (with_reducible exact ih4 _ _ _ _ _ _ _ _ _ _ _ _ _ _ _)
   | (with_reducible exact spec_l4K_round.mono _ _ _ _ _ _ _)
   | (with_reducible exact LeO.refl _)
   | (with_reducible exact LeO.none _)
   | (with_reducible refine LeO.ite ?_ ?_)
   | (with_reducible refine LeO.bind ?_ (fun _ => ?_))
   | exact ih0 _ _ _ _ _ _ _ _ _ _ _ _
   | exact ih1 _ _ _ _ _ _ _ _ _ _ _ _ _
   | exact ih2 _ _ _ _ _ _ _ _ _ _ _ _ _
   | exact ih3 _ _ _ _ _ _ _ _ _ _ _ _ _ _
   | exact ih4 _ _ _ _ _ _ _ _ _ _ _ _ _ _ _
   | exact spec_l4K_round.mono _ _ _ _ _ _ _
   | exact LeO.none _
   | refine LeO.ite ?_ ?_
   | refine LeO.bind ?_ (fun _ => ?_)
  ·
   intro y0 y1 y2 y3 y4 y5 y6 y7 y8 y9 y10 y11 y12 y13 y14
   unfold spec_l4K_sum.j3
   repeat' first
   | (with_reducible exact ih0 _ _ _ _ _ _ _ _ _ _ _ _)
   | (with_reducible exact ih1 _ _ _ _ _ _ _ _ _ _ _ _ _)
   | (with_reducible exact ih2 _ _ _ _ _ _ _ _ _ _ _ _ _)
   | (with_reducible exact ih3 _ _ _ _ _ _ _ _ _ _ _ _ _ _)
   | (with_reducible exact ih4 _ _ _ _ _ _ _ _ _ _ _ _ _ _ _)
   | (with_reducible exact spec_l4K_round.mono _ _ _ _ _ _ _)
   | (with_reducible exact LeO.refl _)
   | (with_reducible exact LeO.none _)
   | (with_reducible refine LeO.ite ?_ ?_)
   | (with_reducible refine LeO.bind ?_ (fun _ => ?_))
   | exact ih0 _ _ _ _ _ _ _ _ _ _ _ _
   | exact ih1 _ _ _ _ _ _ _ _ _ _ _ _ _
   | exact ih2 _ _ _ _ _ _ _ _ _ _ _ _ _
   | exact ih3 _ _ _ _ _ _ _ _ _ _ _ _ _ _
   | exact ih4 _ _ _ _ _ _ _ _ _ _ _ _ _ _ _
   | exact spec_l4K_round.mono _ _ _ _ _ _ _
   | exact LeO.none _
   | refine LeO.ite ?_ ?_
   | refine LeO.bind ?_ (fun _ => ?_)
theorem spec_l4K_sum.mono : ∀ a0 a1 a2 a3 a4 a5 a6 a7 a8 a9 a10 a11 k, LeO (spec_l4K_sum.f k a0 a1 a2 a3 a4 a5 a6 a7 a8 a9 a10 a11) (spec_l4K_sum.f (k + 1) a0 a1 a2 a3 a4 a5 a6 a7 a8 a9 a10 a11) := by
 intro a0 a1 a2 a3 a4 a5 a6 a7 a8 a9 a10 a11 k
 obtain ⟨ih0, ih1, ih2, ih3, ih4⟩ := spec_l4K_sum.mono_l k
 exact ih0 a0 a1 a2 a3 a4 a5 a6 a7 a8 a9 a10 a11
set_option maxHeartbeats 8000000 in
set_option maxRecDepth 100000 in
theorem spec_l4K_sum.calls (k : Nat) : ∀ (a0_0 : Int) (a0_1 : Int) (a1_0 : Bool) (a1_1 : Bool) (a1_2 : Bool) (a1_3 : Int) (a1_4 : Int) (a2_0 : Bool) (a2_1 : Bool) (a2_2 : Bool) (a2_3 : Int) (a2_4 : Int) (r : Int) (w : World) (h : spec_l4K_sum.f k a0_0 a0_1 a1_0 a1_1 a1_2 a1_3 a1_4 a2_0 a2_1 a2_2 a2_3 a2_4 = some r),
  Calls Try.prog 66 #[.agg #[.int .u64 a0_0, .int .u64 a0_1], .agg #[.bool a1_0, .bool a1_1, .bool a1_2, .int .u64 a1_3, .int .i64 a1_4], .agg #[.bool a2_0, .bool a2_1, .bool a2_2, .int .u64 a2_3, .int .i64 a2_4]] w fun e w' => e = .returned (.int .u32 r) ∧ Below w.heap.size w w' := by
 induction k using Nat.strongRecOn with
 | _ k ih =>
 intro a0_0 a0_1 a1_0 a1_1 a1_2 a1_3 a1_4 a2_0 a2_1 a2_2 a2_3 a2_4 r w h
 cases k with
 | zero => exact absurd h (by simp [spec_l4K_sum.f])
 | succ k =>
 simp only [spec_l4K_sum.f] at h
 have hu52 := Try.underlying52
 have hu56 := Try.underlying56
 have HB := Aside0.mk (Below.refl w.heap.size w)
 have H : (if a1_2 = true then (spec_l4K_sum.j0 k true a0_0 a0_1 a1_0 a1_1 a1_2 a1_3 a1_4 a2_0 a2_1 a2_2 a2_3 a2_4) else (if a2_2 = true then (spec_l4K_sum.j0 k true a0_0 a0_1 a1_0 a1_1 a1_2 a1_3 a1_4 a2_0 a2_1 a2_2 a2_3 a2_4) else (if a1_1 = true then (if a2_1 = true then (spec_l4K_sum.j0 k (a1_0 != a2_0) a0_0 a0_1 a1_0 a1_1 a1_2 a1_3 a1_4 a2_0 a2_1 a2_2 a2_3 a2_4) else (spec_l4K_sum.j0 k false a0_0 a0_1 a1_0 a1_1 a1_2 a1_3 a1_4 a2_0 a2_1 a2_2 a2_3 a2_4)) else (spec_l4K_sum.j0 k false a0_0 a0_1 a1_0 a1_1 a1_2 a1_3 a1_4 a2_0 a2_1 a2_2 a2_3 a2_4)))) = some r := h
 clear h
 have HC4 := Aside0.mk H
 clear H
 go_enter Try.func66, Try.ntmps66
 go_upto_region 1 with (first | ((with_reducible refine gate_dst (N := 3) rfl ?_); refine box_event ?hg (N := 3) ?hd (cs := #[.int .u64 a0_0, .int .u64 a0_1]) (t := 52) ?hr ?_; (case hd => rfl); (case hg => rfl); (case hr => first | (go_simp; done) | (go_simp; rfl)); intro gb195 hg w5 hbox hb; have n0_ := Aside0.mk (below_step (bw HB.out) hb); have n1_ := Aside0.mk (hbox); have n2_ := Aside0.mk ((by rw [hg]; exact (below_size (bw HB.out)) : w.heap.size ≤ gb195)); have n3_ := Aside0.mk ((by rw [hg]; exact (below_size (bw HB.out)) : w.heap.size ≤ gb195)); clear HB; have HB := n0_; have BK195 := n1_; have GW195 := n2_; have GE195 := n3_; clear n0_ n1_ n2_ n3_; clear hb hbox hg) | ((with_reducible refine gate_dst (N := 4) rfl ?_); refine box_event ?hg (N := 4) ?hd (cs := #[.bool a1_0, .bool a1_1, .bool a1_2, .int .u64 a1_3, .int .i64 a1_4]) (t := 56) ?hr ?_; (case hd => rfl); (case hg => rfl); (case hr => first | (go_simp; done) | (go_simp; rfl)); intro gb196 hg w6 hbox hb; have n0_ := Aside0.mk (blk_below (g := gb195) (o := .cells #[.int .u64 a0_0, .int .u64 a0_1] 52 (0, 0)) (bk BK195.out) hb); have n1_ := Aside0.mk (below_step (bw HB.out) hb); have n2_ := Aside0.mk (hbox); have n3_ := Aside0.mk ((by rw [hg]; exact (below_size (bw HB.out)) : w.heap.size ≤ gb196)); have n4_ := Aside0.mk ((by rw [hg]; exact (below_size (bw HB.out)) : w.heap.size ≤ gb196)); have n5_ := Aside0.mk ((by rw [hg]; exact Nat.ne_of_lt (blk_lt (g := gb195) (o := .cells #[.int .u64 a0_0, .int .u64 a0_1] 52 (0, 0)) (bk BK195.out)) : gb195 ≠ gb196)); have n6_ := Aside0.mk ((by rw [hg]; exact Nat.ne_of_gt (blk_lt (g := gb195) (o := .cells #[.int .u64 a0_0, .int .u64 a0_1] 52 (0, 0)) (bk BK195.out)) : gb196 ≠ gb195)); clear BK195; clear HB; have BK195 := n0_; have HB := n1_; have BK196 := n2_; have GW196 := n3_; have GE196 := n4_; have NB195_196 := n5_; have NB196_195 := n6_; clear n0_ n1_ n2_ n3_ n4_ n5_ n6_; clear hb hbox hg) | ((with_reducible refine gate_dst (N := 5) rfl ?_); refine box_event ?hg (N := 5) ?hd (cs := #[.bool a2_0, .bool a2_1, .bool a2_2, .int .u64 a2_3, .int .i64 a2_4]) (t := 56) ?hr ?_; (case hd => rfl); (case hg => rfl); (case hr => first | (go_simp; done) | (go_simp; rfl)); intro gb197 hg w7 hbox hb; have n0_ := Aside0.mk (blk_below (g := gb195) (o := .cells #[.int .u64 a0_0, .int .u64 a0_1] 52 (0, 0)) (bk BK195.out) hb); have n1_ := Aside0.mk (blk_below (g := gb196) (o := .cells #[.bool a1_0, .bool a1_1, .bool a1_2, .int .u64 a1_3, .int .i64 a1_4] 56 (0, 0)) (bk BK196.out) hb); have n2_ := Aside0.mk (below_step (bw HB.out) hb); have n3_ := Aside0.mk (hbox); have n4_ := Aside0.mk ((by rw [hg]; exact (below_size (bw HB.out)) : w.heap.size ≤ gb197)); have n5_ := Aside0.mk ((by rw [hg]; exact (below_size (bw HB.out)) : w.heap.size ≤ gb197)); have n6_ := Aside0.mk ((by rw [hg]; exact Nat.ne_of_lt (blk_lt (g := gb195) (o := .cells #[.int .u64 a0_0, .int .u64 a0_1] 52 (0, 0)) (bk BK195.out)) : gb195 ≠ gb197)); have n7_ := Aside0.mk ((by rw [hg]; exact Nat.ne_of_gt (blk_lt (g := gb195) (o := .cells #[.int .u64 a0_0, .int .u64 a0_1] 52 (0, 0)) (bk BK195.out)) : gb197 ≠ gb195)); have n8_ := Aside0.mk ((by rw [hg]; exact Nat.ne_of_lt (blk_lt (g := gb196) (o := .cells #[.bool a1_0, .bool a1_1, .bool a1_2, .int .u64 a1_3, .int .i64 a1_4] 56 (0, 0)) (bk BK196.out)) : gb196 ≠ gb197)); have n9_ := Aside0.mk ((by rw [hg]; exact Nat.ne_of_gt (blk_lt (g := gb196) (o := .cells #[.bool a1_0, .bool a1_1, .bool a1_2, .int .u64 a1_3, .int .i64 a1_4] 56 (0, 0)) (bk BK196.out)) : gb197 ≠ gb196)); clear BK195; clear BK196; clear HB; have BK195 := n0_; have BK196 := n1_; have HB := n2_; have BK197 := n3_; have GW197 := n4_; have GE197 := n5_; have NB195_197 := n6_; have NB197_195 := n7_; have NB196_197 := n8_; have NB197_196 := n9_; clear n0_ n1_ n2_ n3_ n4_ n5_ n6_ n7_ n8_ n9_; clear hb hbox hg))
 (try simp only [Act.put, List.setIfInBounds_toArray, List.set_cons_zero, List.set_cons_succ])
 go_cut [10] (fun v10 wc => ∃ (kq : Nat) (x10_3 : Bool), v10 = .bool x10_3 ∧ Aside0 (spec_l4K_sum.j0 kq x10_3 a0_0 a0_1 a1_0 a1_1 a1_2 a1_3 a1_4 a2_0 a2_1 a2_2 a2_3 a2_4 = some r) ∧ Aside0 (kq ≤ k) ∧ Aside0 (wc.heap[gb195]? = some (.cells #[.int .u64 a0_0, .int .u64 a0_1] 52 (0, 0))) ∧ Aside0 (wc.heap[gb196]? = some (.cells #[.bool a1_0, .bool a1_1, .bool a1_2, .int .u64 a1_3, .int .i64 a1_4] 56 (0, 0))) ∧ Aside0 (wc.heap[gb197]? = some (.cells #[.bool a2_0, .bool a2_1, .bool a2_2, .int .u64 a2_3, .int .i64 a2_4] 56 (0, 0))) ∧ Aside0 (Below w.heap.size w wc))
 case first =>
  have H := HC4.out
  clear HC4
  by_cases c8 : a1_2 = true
  ·
   subst c8
   have H1 : (spec_l4K_sum.j0 k true a0_0 a0_1 a1_0 a1_1 true a1_3 a1_4 a2_0 a2_1 a2_2 a2_3 a2_4) = some r := by rw [if_pos rfl] at H; exact H
   clear H
   have H := H1
   clear H1
   have H' := Aside0.mk H
   clear H
   have hnb9 := NB196_195.out
   have hnc9 := NB195_196.out
   have hnb10 := NB196_197.out
   have hnc10 := NB197_196.out
   have hcz11_0 : w7.cell? ⟨gb196, 0, none⟩ = some (.bool a1_0) := (blk_cell BK196.out 0).trans rfl
   have hcz11_1 : w7.cell? ⟨gb196, 1, none⟩ = some (.bool a1_1) := (blk_cell BK196.out 1).trans rfl
   have hcz11_2 : w7.cell? ⟨gb196, 2, none⟩ = some (.bool true) := (blk_cell BK196.out 2).trans rfl
   have hcz11_3 : w7.cell? ⟨gb196, 3, none⟩ = some (.int .u64 a1_3) := (blk_cell BK196.out 3).trans rfl
   have hcz11_4 : w7.cell? ⟨gb196, 4, none⟩ = some (.int .i64 a1_4) := (blk_cell BK196.out 4).trans rfl
   have hfz11_0 := blk_frozen BK196.out 0
   have hfz11_1 := blk_frozen BK196.out 1
   have hfz11_2 := blk_frozen BK196.out 2
   have hfz11_3 := blk_frozen BK196.out 3
   have hfz11_4 := blk_frozen BK196.out 4
   go_wp2
   go_meet
   case rel => exact ⟨_, (true), (by first | rfl | (simp; done) | (simp [*]; done)), H', ⟨by first | omega | exact Nat.le_refl _⟩, ⟨bk BK195.out⟩, ⟨bk BK196.out⟩, ⟨bk BK197.out⟩, ⟨bw HB.out⟩⟩
  ·
   replace c8 := Bool.eq_false_iff.mpr c8
   subst c8
   have H1 : (if a2_2 = true then (spec_l4K_sum.j0 k true a0_0 a0_1 a1_0 a1_1 false a1_3 a1_4 a2_0 a2_1 a2_2 a2_3 a2_4) else (if a1_1 = true then (if a2_1 = true then (spec_l4K_sum.j0 k (a1_0 != a2_0) a0_0 a0_1 a1_0 a1_1 false a1_3 a1_4 a2_0 a2_1 a2_2 a2_3 a2_4) else (spec_l4K_sum.j0 k false a0_0 a0_1 a1_0 a1_1 false a1_3 a1_4 a2_0 a2_1 a2_2 a2_3 a2_4)) else (spec_l4K_sum.j0 k false a0_0 a0_1 a1_0 a1_1 false a1_3 a1_4 a2_0 a2_1 a2_2 a2_3 a2_4))) = some r := by rw [if_neg (show ¬ (false = true) by decide)] at H; exact H
   clear H
   have H := H1
   clear H1
   by_cases c12 : a2_2 = true
   ·
    subst c12
    have H1 : (spec_l4K_sum.j0 k true a0_0 a0_1 a1_0 a1_1 false a1_3 a1_4 a2_0 a2_1 true a2_3 a2_4) = some r := by rw [if_pos rfl] at H; exact H
    clear H
    have H := H1
    clear H1
    have H' := Aside0.mk H
    clear H
    have hnb13 := NB196_195.out
    have hnc13 := NB195_196.out
    have hnb14 := NB196_197.out
    have hnc14 := NB197_196.out
    have hcz15_0 : w7.cell? ⟨gb196, 0, none⟩ = some (.bool a1_0) := (blk_cell BK196.out 0).trans rfl
    have hcz15_1 : w7.cell? ⟨gb196, 1, none⟩ = some (.bool a1_1) := (blk_cell BK196.out 1).trans rfl
    have hcz15_2 : w7.cell? ⟨gb196, 2, none⟩ = some (.bool false) := (blk_cell BK196.out 2).trans rfl
    have hcz15_3 : w7.cell? ⟨gb196, 3, none⟩ = some (.int .u64 a1_3) := (blk_cell BK196.out 3).trans rfl
    have hcz15_4 : w7.cell? ⟨gb196, 4, none⟩ = some (.int .i64 a1_4) := (blk_cell BK196.out 4).trans rfl
    have hfz15_0 := blk_frozen BK196.out 0
    have hfz15_1 := blk_frozen BK196.out 1
    have hfz15_2 := blk_frozen BK196.out 2
    have hfz15_3 := blk_frozen BK196.out 3
    have hfz15_4 := blk_frozen BK196.out 4
    have hnb16 := NB197_195.out
    have hnc16 := NB195_197.out
    have hcz17_0 : w7.cell? ⟨gb197, 0, none⟩ = some (.bool a2_0) := (blk_cell BK197.out 0).trans rfl
    have hcz17_1 : w7.cell? ⟨gb197, 1, none⟩ = some (.bool a2_1) := (blk_cell BK197.out 1).trans rfl
    have hcz17_2 : w7.cell? ⟨gb197, 2, none⟩ = some (.bool true) := (blk_cell BK197.out 2).trans rfl
    have hcz17_3 : w7.cell? ⟨gb197, 3, none⟩ = some (.int .u64 a2_3) := (blk_cell BK197.out 3).trans rfl
    have hcz17_4 : w7.cell? ⟨gb197, 4, none⟩ = some (.int .i64 a2_4) := (blk_cell BK197.out 4).trans rfl
    have hfz17_0 := blk_frozen BK197.out 0
    have hfz17_1 := blk_frozen BK197.out 1
    have hfz17_2 := blk_frozen BK197.out 2
    have hfz17_3 := blk_frozen BK197.out 3
    have hfz17_4 := blk_frozen BK197.out 4
    go_wp2
    go_meet
    case rel => exact ⟨_, (true), (by first | rfl | (simp; done) | (simp [*]; done)), H', ⟨by first | omega | exact Nat.le_refl _⟩, ⟨bk BK195.out⟩, ⟨bk BK196.out⟩, ⟨bk BK197.out⟩, ⟨bw HB.out⟩⟩
   ·
    replace c12 := Bool.eq_false_iff.mpr c12
    subst c12
    have H1 : (if a1_1 = true then (if a2_1 = true then (spec_l4K_sum.j0 k (a1_0 != a2_0) a0_0 a0_1 a1_0 a1_1 false a1_3 a1_4 a2_0 a2_1 false a2_3 a2_4) else (spec_l4K_sum.j0 k false a0_0 a0_1 a1_0 a1_1 false a1_3 a1_4 a2_0 a2_1 false a2_3 a2_4)) else (spec_l4K_sum.j0 k false a0_0 a0_1 a1_0 a1_1 false a1_3 a1_4 a2_0 a2_1 false a2_3 a2_4)) = some r := by rw [if_neg (show ¬ (false = true) by decide)] at H; exact H
    clear H
    have H := H1
    clear H1
    by_cases c18 : a1_1 = true
    ·
     subst c18
     have H1 : (if a2_1 = true then (spec_l4K_sum.j0 k (a1_0 != a2_0) a0_0 a0_1 a1_0 true false a1_3 a1_4 a2_0 a2_1 false a2_3 a2_4) else (spec_l4K_sum.j0 k false a0_0 a0_1 a1_0 true false a1_3 a1_4 a2_0 a2_1 false a2_3 a2_4)) = some r := by rw [if_pos rfl] at H; exact H
     clear H
     have H := H1
     clear H1
     by_cases c19 : a2_1 = true
     ·
      subst c19
      have H1 : (spec_l4K_sum.j0 k (a1_0 != a2_0) a0_0 a0_1 a1_0 true false a1_3 a1_4 a2_0 true false a2_3 a2_4) = some r := by rw [if_pos rfl] at H; exact H
      clear H
      have H := H1
      clear H1
      have H' := Aside0.mk H
      clear H
      have hnb20 := NB196_195.out
      have hnc20 := NB195_196.out
      have hnb21 := NB196_197.out
      have hnc21 := NB197_196.out
      have hcz22_0 : w7.cell? ⟨gb196, 0, none⟩ = some (.bool a1_0) := (blk_cell BK196.out 0).trans rfl
      have hcz22_1 : w7.cell? ⟨gb196, 1, none⟩ = some (.bool true) := (blk_cell BK196.out 1).trans rfl
      have hcz22_2 : w7.cell? ⟨gb196, 2, none⟩ = some (.bool false) := (blk_cell BK196.out 2).trans rfl
      have hcz22_3 : w7.cell? ⟨gb196, 3, none⟩ = some (.int .u64 a1_3) := (blk_cell BK196.out 3).trans rfl
      have hcz22_4 : w7.cell? ⟨gb196, 4, none⟩ = some (.int .i64 a1_4) := (blk_cell BK196.out 4).trans rfl
      have hfz22_0 := blk_frozen BK196.out 0
      have hfz22_1 := blk_frozen BK196.out 1
      have hfz22_2 := blk_frozen BK196.out 2
      have hfz22_3 := blk_frozen BK196.out 3
      have hfz22_4 := blk_frozen BK196.out 4
      have hnb23 := NB197_195.out
      have hnc23 := NB195_197.out
      have hcz24_0 : w7.cell? ⟨gb197, 0, none⟩ = some (.bool a2_0) := (blk_cell BK197.out 0).trans rfl
      have hcz24_1 : w7.cell? ⟨gb197, 1, none⟩ = some (.bool true) := (blk_cell BK197.out 1).trans rfl
      have hcz24_2 : w7.cell? ⟨gb197, 2, none⟩ = some (.bool false) := (blk_cell BK197.out 2).trans rfl
      have hcz24_3 : w7.cell? ⟨gb197, 3, none⟩ = some (.int .u64 a2_3) := (blk_cell BK197.out 3).trans rfl
      have hcz24_4 : w7.cell? ⟨gb197, 4, none⟩ = some (.int .i64 a2_4) := (blk_cell BK197.out 4).trans rfl
      have hfz24_0 := blk_frozen BK197.out 0
      have hfz24_1 := blk_frozen BK197.out 1
      have hfz24_2 := blk_frozen BK197.out 2
      have hfz24_3 := blk_frozen BK197.out 3
      have hfz24_4 := blk_frozen BK197.out 4
      go_wp2
      go_meet
      case rel => exact ⟨_, ((a1_0 != a2_0)), (by first | rfl | (simp; done) | (simp [*]; done)), H', ⟨by first | omega | exact Nat.le_refl _⟩, ⟨bk BK195.out⟩, ⟨bk BK196.out⟩, ⟨bk BK197.out⟩, ⟨bw HB.out⟩⟩
     ·
      replace c19 := Bool.eq_false_iff.mpr c19
      subst c19
      have H1 : (spec_l4K_sum.j0 k false a0_0 a0_1 a1_0 true false a1_3 a1_4 a2_0 false false a2_3 a2_4) = some r := by rw [if_neg (show ¬ (false = true) by decide)] at H; exact H
      clear H
      have H := H1
      clear H1
      have H' := Aside0.mk H
      clear H
      have hnb25 := NB196_195.out
      have hnc25 := NB195_196.out
      have hnb26 := NB196_197.out
      have hnc26 := NB197_196.out
      have hcz27_0 : w7.cell? ⟨gb196, 0, none⟩ = some (.bool a1_0) := (blk_cell BK196.out 0).trans rfl
      have hcz27_1 : w7.cell? ⟨gb196, 1, none⟩ = some (.bool true) := (blk_cell BK196.out 1).trans rfl
      have hcz27_2 : w7.cell? ⟨gb196, 2, none⟩ = some (.bool false) := (blk_cell BK196.out 2).trans rfl
      have hcz27_3 : w7.cell? ⟨gb196, 3, none⟩ = some (.int .u64 a1_3) := (blk_cell BK196.out 3).trans rfl
      have hcz27_4 : w7.cell? ⟨gb196, 4, none⟩ = some (.int .i64 a1_4) := (blk_cell BK196.out 4).trans rfl
      have hfz27_0 := blk_frozen BK196.out 0
      have hfz27_1 := blk_frozen BK196.out 1
      have hfz27_2 := blk_frozen BK196.out 2
      have hfz27_3 := blk_frozen BK196.out 3
      have hfz27_4 := blk_frozen BK196.out 4
      have hnb28 := NB197_195.out
      have hnc28 := NB195_197.out
      have hcz29_0 : w7.cell? ⟨gb197, 0, none⟩ = some (.bool a2_0) := (blk_cell BK197.out 0).trans rfl
      have hcz29_1 : w7.cell? ⟨gb197, 1, none⟩ = some (.bool false) := (blk_cell BK197.out 1).trans rfl
      have hcz29_2 : w7.cell? ⟨gb197, 2, none⟩ = some (.bool false) := (blk_cell BK197.out 2).trans rfl
      have hcz29_3 : w7.cell? ⟨gb197, 3, none⟩ = some (.int .u64 a2_3) := (blk_cell BK197.out 3).trans rfl
      have hcz29_4 : w7.cell? ⟨gb197, 4, none⟩ = some (.int .i64 a2_4) := (blk_cell BK197.out 4).trans rfl
      have hfz29_0 := blk_frozen BK197.out 0
      have hfz29_1 := blk_frozen BK197.out 1
      have hfz29_2 := blk_frozen BK197.out 2
      have hfz29_3 := blk_frozen BK197.out 3
      have hfz29_4 := blk_frozen BK197.out 4
      go_wp2
      go_meet
      case rel => exact ⟨_, (false), (by first | rfl | (simp; done) | (simp [*]; done)), H', ⟨by first | omega | exact Nat.le_refl _⟩, ⟨bk BK195.out⟩, ⟨bk BK196.out⟩, ⟨bk BK197.out⟩, ⟨bw HB.out⟩⟩
    ·
     replace c18 := Bool.eq_false_iff.mpr c18
     subst c18
     have H1 : (spec_l4K_sum.j0 k false a0_0 a0_1 a1_0 false false a1_3 a1_4 a2_0 a2_1 false a2_3 a2_4) = some r := by rw [if_neg (show ¬ (false = true) by decide)] at H; exact H
     clear H
     have H := H1
     clear H1
     have H' := Aside0.mk H
     clear H
     have hnb30 := NB196_195.out
     have hnc30 := NB195_196.out
     have hnb31 := NB196_197.out
     have hnc31 := NB197_196.out
     have hcz32_0 : w7.cell? ⟨gb196, 0, none⟩ = some (.bool a1_0) := (blk_cell BK196.out 0).trans rfl
     have hcz32_1 : w7.cell? ⟨gb196, 1, none⟩ = some (.bool false) := (blk_cell BK196.out 1).trans rfl
     have hcz32_2 : w7.cell? ⟨gb196, 2, none⟩ = some (.bool false) := (blk_cell BK196.out 2).trans rfl
     have hcz32_3 : w7.cell? ⟨gb196, 3, none⟩ = some (.int .u64 a1_3) := (blk_cell BK196.out 3).trans rfl
     have hcz32_4 : w7.cell? ⟨gb196, 4, none⟩ = some (.int .i64 a1_4) := (blk_cell BK196.out 4).trans rfl
     have hfz32_0 := blk_frozen BK196.out 0
     have hfz32_1 := blk_frozen BK196.out 1
     have hfz32_2 := blk_frozen BK196.out 2
     have hfz32_3 := blk_frozen BK196.out 3
     have hfz32_4 := blk_frozen BK196.out 4
     have hnb33 := NB197_195.out
     have hnc33 := NB195_197.out
     have hcz34_0 : w7.cell? ⟨gb197, 0, none⟩ = some (.bool a2_0) := (blk_cell BK197.out 0).trans rfl
     have hcz34_1 : w7.cell? ⟨gb197, 1, none⟩ = some (.bool a2_1) := (blk_cell BK197.out 1).trans rfl
     have hcz34_2 : w7.cell? ⟨gb197, 2, none⟩ = some (.bool false) := (blk_cell BK197.out 2).trans rfl
     have hcz34_3 : w7.cell? ⟨gb197, 3, none⟩ = some (.int .u64 a2_3) := (blk_cell BK197.out 3).trans rfl
     have hcz34_4 : w7.cell? ⟨gb197, 4, none⟩ = some (.int .i64 a2_4) := (blk_cell BK197.out 4).trans rfl
     have hfz34_0 := blk_frozen BK197.out 0
     have hfz34_1 := blk_frozen BK197.out 1
     have hfz34_2 := blk_frozen BK197.out 2
     have hfz34_3 := blk_frozen BK197.out 3
     have hfz34_4 := blk_frozen BK197.out 4
     go_wp2
     go_meet
     case rel => exact ⟨_, (false), (by first | rfl | (simp; done) | (simp [*]; done)), H', ⟨by first | omega | exact Nat.le_refl _⟩, ⟨bk BK195.out⟩, ⟨bk BK196.out⟩, ⟨bk BK197.out⟩, ⟨bw HB.out⟩⟩
 case rest =>
  clear HC4
  try clear c1
  try clear c2
  try clear p2
  try clear c3
  try clear c6
  try clear c8
  try clear c9
  try clear c10
  try clear c12
  try clear c13
  try clear c14
  try clear c16
  try clear c18
  try clear c19
  try clear c20
  try clear c21
  try clear c23
  try clear c25
  try clear c26
  try clear c28
  try clear c30
  try clear c31
  try clear c33
  try clear hcz11_0 hcz11_1 hcz11_2 hcz11_3 hcz11_4
  try clear hcz15_0 hcz15_1 hcz15_2 hcz15_3 hcz15_4
  try clear hcz17_0 hcz17_1 hcz17_2 hcz17_3 hcz17_4
  try clear hcz22_0 hcz22_1 hcz22_2 hcz22_3 hcz22_4
  try clear hcz24_0 hcz24_1 hcz24_2 hcz24_3 hcz24_4
  try clear hcz27_0 hcz27_1 hcz27_2 hcz27_3 hcz27_4
  try clear hcz29_0 hcz29_1 hcz29_2 hcz29_3 hcz29_4
  try clear hcz32_0 hcz32_1 hcz32_2 hcz32_3 hcz32_4
  try clear hcz34_0 hcz34_1 hcz34_2 hcz34_3 hcz34_4
  try clear hfz11_0 hfz11_1 hfz11_2 hfz11_3 hfz11_4
  try clear hfz15_0 hfz15_1 hfz15_2 hfz15_3 hfz15_4
  try clear hfz17_0 hfz17_1 hfz17_2 hfz17_3 hfz17_4
  try clear hfz22_0 hfz22_1 hfz22_2 hfz22_3 hfz22_4
  try clear hfz24_0 hfz24_1 hfz24_2 hfz24_3 hfz24_4
  try clear hfz27_0 hfz27_1 hfz27_2 hfz27_3 hfz27_4
  try clear hfz29_0 hfz29_1 hfz29_2 hfz29_3 hfz29_4
  try clear hfz32_0 hfz32_1 hfz32_2 hfz32_3 hfz32_4
  try clear hfz34_0 hfz34_1 hfz34_2 hfz34_3 hfz34_4
  obtain ⟨kq, x10_3, rfl, HA, HJ3, BK195, BK196, BK197, HB⟩ := hcut
  cases kq with
  | zero => exact absurd HA.out (by simp [spec_l4K_sum.j0])
  | succ kj3 =>
   have H := HA.out
   clear HA
   simp only [spec_l4K_sum.j0] at H
   by_cases c35 : x10_3 = true
   ·
    subst c35
    have H1 : ((spec_l4K_nan.f a0_0 a0_1).bind fun t198 => (some t198)) = some r := by rw [if_pos rfl] at H; exact H
    clear H
    have H := H1
    clear H1
    replace H := Option.bind_eq_some_iff.mp H
    obtain ⟨t198, A360, H⟩ := H
    replace H : (some t198) = some r := H
    have A36 := Aside0.mk A360
    clear A360
    obtain rfl := Option.some.inj H
    simp only [Option.some.injEq, Prod.mk.injEq] at H
    obtain ⟨rfl⟩ := H
    have hnb37 := NB195_196.out
    have hnc37 := NB196_195.out
    have hnb38 := NB195_197.out
    have hnc38 := NB197_195.out
    have hcz39_0 : wc.cell? ⟨gb195, 0, none⟩ = some (.int .u64 a0_0) := (blk_cell BK195.out 0).trans rfl
    have hcz39_1 : wc.cell? ⟨gb195, 1, none⟩ = some (.int .u64 a0_1) := (blk_cell BK195.out 1).trans rfl
    have hfz39_0 := blk_frozen BK195.out 0
    have hfz39_1 := blk_frozen BK195.out 1
    go_wp2_with (first | ((with_reducible refine gate_callee (f := 48) rfl ?_); refine goesL_ (some 33) rfl rfl Try.func48 (by kernel_rfl) rfl #[.agg #[.int .u64 a0_0, .int .u64 a0_1]] rfl ar ?_; (with_reducible refine (spec_l4K_nan.calls a0_0 a0_1 t198 _ A36.out).mono ?_); rintro e w40 ⟨rfl, hb⟩; refine ⟨_, rfl, ?_⟩; have n0_ := Aside0.mk (blk_below (g := gb195) (o := .cells #[.int .u64 a0_0, .int .u64 a0_1] 52 (0, 0)) (bk BK195.out) hb); have n1_ := Aside0.mk (blk_below (g := gb196) (o := .cells #[.bool a1_0, .bool a1_1, .bool a1_2, .int .u64 a1_3, .int .i64 a1_4] 56 (0, 0)) (bk BK196.out) hb); have n2_ := Aside0.mk (blk_below (g := gb197) (o := .cells #[.bool a2_0, .bool a2_1, .bool a2_2, .int .u64 a2_3, .int .i64 a2_4] 56 (0, 0)) (bk BK197.out) hb); have n3_ := Aside0.mk (below_step (bw HB.out) hb); clear BK195; clear BK196; clear BK197; clear HB; have BK195 := n0_; have BK196 := n1_; have BK197 := n2_; have HB := n3_; clear n0_ n1_ n2_ n3_; (try clear hb)))
    go_ret
    exact ⟨by first | rfl | (simp [errW_none, errW_some] <;> rfl) | (simp [*, errW_none, errW_some] <;> rfl), bw HB.out⟩
   ·
    replace c35 := Bool.eq_false_iff.mpr c35
    subst c35
    have H1 : (if a1_1 = true then ((spec_l4K_inf.f a0_0 a0_1 a1_0).bind fun t199 => (some t199)) else (if a2_1 = true then ((spec_l4K_inf.f a0_0 a0_1 a2_0).bind fun t200 => (some t200)) else (if a1_4 < a2_4 then ((spec_l4K_sum.f kj3 a0_0 a0_1 a2_0 a2_1 a2_2 a2_3 a2_4 a1_0 a1_1 a1_2 a1_3 a1_4).bind fun t201 => (some t201)) else (if (IntKind.u64.wrap (wrap64 (a1_4 - a2_4))) ≤ 30 then (if 0 ≤ (IntKind.u64.wrap (wrap64 (a1_4 - a2_4))) then (spec_l4K_sum.j1 kj3 false a0_0 a0_1 a1_0 a1_1 a1_2 (shl .u64 a1_3 (IntKind.u64.wrap (wrap64 (a1_4 - a2_4)))) a1_4 a2_0 a2_1 a2_2 a2_3 a2_4) else (none)) else (if (IntKind.u64.wrap ((IntKind.u64.wrap (wrap64 (a1_4 - a2_4))) - 30)) > 60 then (spec_l4K_sum.j1 kj3 (a2_3 != 0) a0_0 a0_1 a1_0 a1_1 a1_2 (IntKind.u64.wrap (a1_3 * 1073741824)) a1_4 a2_0 a2_1 a2_2 0 (wrap64 (a1_4 - 30))) else (if 0 ≤ (IntKind.u64.wrap ((IntKind.u64.wrap (wrap64 (a1_4 - a2_4))) - 30)) then (spec_l4K_sum.j1 kj3 ((Go.bits .and .u64 a2_3 (IntKind.u64.wrap ((shl .u64 1 (IntKind.u64.wrap ((IntKind.u64.wrap (wrap64 (a1_4 - a2_4))) - 30))) - 1))) != 0) a0_0 a0_1 a1_0 a1_1 a1_2 (IntKind.u64.wrap (a1_3 * 1073741824)) a1_4 a2_0 a2_1 a2_2 (shr .u64 a2_3 (IntKind.u64.wrap ((IntKind.u64.wrap (wrap64 (a1_4 - a2_4))) - 30))) (wrap64 (a1_4 - 30))) else (none))))))) = some r := by rw [if_neg (show ¬ (false = true) by decide)] at H; exact H
    clear H
    have H := H1
    clear H1
    by_cases c41 : a1_1 = true
    ·
     subst c41
     have H1 : ((spec_l4K_inf.f a0_0 a0_1 a1_0).bind fun t199 => (some t199)) = some r := by rw [if_pos rfl] at H; exact H
     clear H
     have H := H1
     clear H1
     replace H := Option.bind_eq_some_iff.mp H
     obtain ⟨t199, A420, H⟩ := H
     replace H : (some t199) = some r := H
     have A42 := Aside0.mk A420
     clear A420
     obtain rfl := Option.some.inj H
     simp only [Option.some.injEq, Prod.mk.injEq] at H
     obtain ⟨rfl⟩ := H
     have hnb43 := NB196_195.out
     have hnc43 := NB195_196.out
     have hnb44 := NB196_197.out
     have hnc44 := NB197_196.out
     have hcz45_0 : wc.cell? ⟨gb196, 0, none⟩ = some (.bool a1_0) := (blk_cell BK196.out 0).trans rfl
     have hcz45_1 : wc.cell? ⟨gb196, 1, none⟩ = some (.bool true) := (blk_cell BK196.out 1).trans rfl
     have hcz45_2 : wc.cell? ⟨gb196, 2, none⟩ = some (.bool a1_2) := (blk_cell BK196.out 2).trans rfl
     have hcz45_3 : wc.cell? ⟨gb196, 3, none⟩ = some (.int .u64 a1_3) := (blk_cell BK196.out 3).trans rfl
     have hcz45_4 : wc.cell? ⟨gb196, 4, none⟩ = some (.int .i64 a1_4) := (blk_cell BK196.out 4).trans rfl
     have hfz45_0 := blk_frozen BK196.out 0
     have hfz45_1 := blk_frozen BK196.out 1
     have hfz45_2 := blk_frozen BK196.out 2
     have hfz45_3 := blk_frozen BK196.out 3
     have hfz45_4 := blk_frozen BK196.out 4
     have hnb46 := NB195_197.out
     have hnc46 := NB197_195.out
     have hcz47_0 : wc.cell? ⟨gb195, 0, none⟩ = some (.int .u64 a0_0) := (blk_cell BK195.out 0).trans rfl
     have hcz47_1 : wc.cell? ⟨gb195, 1, none⟩ = some (.int .u64 a0_1) := (blk_cell BK195.out 1).trans rfl
     have hfz47_0 := blk_frozen BK195.out 0
     have hfz47_1 := blk_frozen BK195.out 1
     go_wp2_with (first | ((with_reducible refine gate_callee (f := 49) rfl ?_); refine goesL_ (some 40) rfl rfl Try.func49 (by kernel_rfl) rfl #[.agg #[.int .u64 a0_0, .int .u64 a0_1], .bool a1_0] rfl ar ?_; (with_reducible refine (spec_l4K_inf.calls a0_0 a0_1 a1_0 t199 _ A42.out).mono ?_); rintro e w48 ⟨rfl, hb⟩; refine ⟨_, rfl, ?_⟩; have n0_ := Aside0.mk (blk_below (g := gb195) (o := .cells #[.int .u64 a0_0, .int .u64 a0_1] 52 (0, 0)) (bk BK195.out) hb); have n1_ := Aside0.mk (blk_below (g := gb196) (o := .cells #[.bool a1_0, .bool true, .bool a1_2, .int .u64 a1_3, .int .i64 a1_4] 56 (0, 0)) (bk BK196.out) hb); have n2_ := Aside0.mk (blk_below (g := gb197) (o := .cells #[.bool a2_0, .bool a2_1, .bool a2_2, .int .u64 a2_3, .int .i64 a2_4] 56 (0, 0)) (bk BK197.out) hb); have n3_ := Aside0.mk (below_step (bw HB.out) hb); clear BK195; clear BK196; clear BK197; clear HB; have BK195 := n0_; have BK196 := n1_; have BK197 := n2_; have HB := n3_; clear n0_ n1_ n2_ n3_; (try clear hb)))
     go_ret
     exact ⟨by first | rfl | (simp [errW_none, errW_some] <;> rfl) | (simp [*, errW_none, errW_some] <;> rfl), bw HB.out⟩
    ·
     replace c41 := Bool.eq_false_iff.mpr c41
     subst c41
     have H1 : (if a2_1 = true then ((spec_l4K_inf.f a0_0 a0_1 a2_0).bind fun t200 => (some t200)) else (if a1_4 < a2_4 then ((spec_l4K_sum.f kj3 a0_0 a0_1 a2_0 a2_1 a2_2 a2_3 a2_4 a1_0 false a1_2 a1_3 a1_4).bind fun t201 => (some t201)) else (if (IntKind.u64.wrap (wrap64 (a1_4 - a2_4))) ≤ 30 then (if 0 ≤ (IntKind.u64.wrap (wrap64 (a1_4 - a2_4))) then (spec_l4K_sum.j1 kj3 false a0_0 a0_1 a1_0 false a1_2 (shl .u64 a1_3 (IntKind.u64.wrap (wrap64 (a1_4 - a2_4)))) a1_4 a2_0 a2_1 a2_2 a2_3 a2_4) else (none)) else (if (IntKind.u64.wrap ((IntKind.u64.wrap (wrap64 (a1_4 - a2_4))) - 30)) > 60 then (spec_l4K_sum.j1 kj3 (a2_3 != 0) a0_0 a0_1 a1_0 false a1_2 (IntKind.u64.wrap (a1_3 * 1073741824)) a1_4 a2_0 a2_1 a2_2 0 (wrap64 (a1_4 - 30))) else (if 0 ≤ (IntKind.u64.wrap ((IntKind.u64.wrap (wrap64 (a1_4 - a2_4))) - 30)) then (spec_l4K_sum.j1 kj3 ((Go.bits .and .u64 a2_3 (IntKind.u64.wrap ((shl .u64 1 (IntKind.u64.wrap ((IntKind.u64.wrap (wrap64 (a1_4 - a2_4))) - 30))) - 1))) != 0) a0_0 a0_1 a1_0 false a1_2 (IntKind.u64.wrap (a1_3 * 1073741824)) a1_4 a2_0 a2_1 a2_2 (shr .u64 a2_3 (IntKind.u64.wrap ((IntKind.u64.wrap (wrap64 (a1_4 - a2_4))) - 30))) (wrap64 (a1_4 - 30))) else (none)))))) = some r := by rw [if_neg (show ¬ (false = true) by decide)] at H; exact H
     clear H
     have H := H1
     clear H1
     by_cases c49 : a2_1 = true
     ·
      subst c49
      have H1 : ((spec_l4K_inf.f a0_0 a0_1 a2_0).bind fun t200 => (some t200)) = some r := by rw [if_pos rfl] at H; exact H
      clear H
      have H := H1
      clear H1
      replace H := Option.bind_eq_some_iff.mp H
      obtain ⟨t200, A500, H⟩ := H
      replace H : (some t200) = some r := H
      have A50 := Aside0.mk A500
      clear A500
      obtain rfl := Option.some.inj H
      simp only [Option.some.injEq, Prod.mk.injEq] at H
      obtain ⟨rfl⟩ := H
      have hnb51 := NB196_195.out
      have hnc51 := NB195_196.out
      have hnb52 := NB196_197.out
      have hnc52 := NB197_196.out
      have hcz53_0 : wc.cell? ⟨gb196, 0, none⟩ = some (.bool a1_0) := (blk_cell BK196.out 0).trans rfl
      have hcz53_1 : wc.cell? ⟨gb196, 1, none⟩ = some (.bool false) := (blk_cell BK196.out 1).trans rfl
      have hcz53_2 : wc.cell? ⟨gb196, 2, none⟩ = some (.bool a1_2) := (blk_cell BK196.out 2).trans rfl
      have hcz53_3 : wc.cell? ⟨gb196, 3, none⟩ = some (.int .u64 a1_3) := (blk_cell BK196.out 3).trans rfl
      have hcz53_4 : wc.cell? ⟨gb196, 4, none⟩ = some (.int .i64 a1_4) := (blk_cell BK196.out 4).trans rfl
      have hfz53_0 := blk_frozen BK196.out 0
      have hfz53_1 := blk_frozen BK196.out 1
      have hfz53_2 := blk_frozen BK196.out 2
      have hfz53_3 := blk_frozen BK196.out 3
      have hfz53_4 := blk_frozen BK196.out 4
      have hnb54 := NB197_195.out
      have hnc54 := NB195_197.out
      have hcz55_0 : wc.cell? ⟨gb197, 0, none⟩ = some (.bool a2_0) := (blk_cell BK197.out 0).trans rfl
      have hcz55_1 : wc.cell? ⟨gb197, 1, none⟩ = some (.bool true) := (blk_cell BK197.out 1).trans rfl
      have hcz55_2 : wc.cell? ⟨gb197, 2, none⟩ = some (.bool a2_2) := (blk_cell BK197.out 2).trans rfl
      have hcz55_3 : wc.cell? ⟨gb197, 3, none⟩ = some (.int .u64 a2_3) := (blk_cell BK197.out 3).trans rfl
      have hcz55_4 : wc.cell? ⟨gb197, 4, none⟩ = some (.int .i64 a2_4) := (blk_cell BK197.out 4).trans rfl
      have hfz55_0 := blk_frozen BK197.out 0
      have hfz55_1 := blk_frozen BK197.out 1
      have hfz55_2 := blk_frozen BK197.out 2
      have hfz55_3 := blk_frozen BK197.out 3
      have hfz55_4 := blk_frozen BK197.out 4
      have hcz56_0 : wc.cell? ⟨gb195, 0, none⟩ = some (.int .u64 a0_0) := (blk_cell BK195.out 0).trans rfl
      have hcz56_1 : wc.cell? ⟨gb195, 1, none⟩ = some (.int .u64 a0_1) := (blk_cell BK195.out 1).trans rfl
      have hfz56_0 := blk_frozen BK195.out 0
      have hfz56_1 := blk_frozen BK195.out 1
      go_wp2_with (first | ((with_reducible refine gate_callee (f := 49) rfl ?_); refine goesL_ (some 47) rfl rfl Try.func49 (by kernel_rfl) rfl #[.agg #[.int .u64 a0_0, .int .u64 a0_1], .bool a2_0] rfl ar ?_; (with_reducible refine (spec_l4K_inf.calls a0_0 a0_1 a2_0 t200 _ A50.out).mono ?_); rintro e w57 ⟨rfl, hb⟩; refine ⟨_, rfl, ?_⟩; have n0_ := Aside0.mk (blk_below (g := gb195) (o := .cells #[.int .u64 a0_0, .int .u64 a0_1] 52 (0, 0)) (bk BK195.out) hb); have n1_ := Aside0.mk (blk_below (g := gb196) (o := .cells #[.bool a1_0, .bool false, .bool a1_2, .int .u64 a1_3, .int .i64 a1_4] 56 (0, 0)) (bk BK196.out) hb); have n2_ := Aside0.mk (blk_below (g := gb197) (o := .cells #[.bool a2_0, .bool true, .bool a2_2, .int .u64 a2_3, .int .i64 a2_4] 56 (0, 0)) (bk BK197.out) hb); have n3_ := Aside0.mk (below_step (bw HB.out) hb); clear BK195; clear BK196; clear BK197; clear HB; have BK195 := n0_; have BK196 := n1_; have BK197 := n2_; have HB := n3_; clear n0_ n1_ n2_ n3_; (try clear hb)))
      go_ret
      exact ⟨by first | rfl | (simp [errW_none, errW_some] <;> rfl) | (simp [*, errW_none, errW_some] <;> rfl), bw HB.out⟩
     ·
      replace c49 := Bool.eq_false_iff.mpr c49
      subst c49
      have H1 : (if a1_4 < a2_4 then ((spec_l4K_sum.f kj3 a0_0 a0_1 a2_0 false a2_2 a2_3 a2_4 a1_0 false a1_2 a1_3 a1_4).bind fun t201 => (some t201)) else (if (IntKind.u64.wrap (wrap64 (a1_4 - a2_4))) ≤ 30 then (if 0 ≤ (IntKind.u64.wrap (wrap64 (a1_4 - a2_4))) then (spec_l4K_sum.j1 kj3 false a0_0 a0_1 a1_0 false a1_2 (shl .u64 a1_3 (IntKind.u64.wrap (wrap64 (a1_4 - a2_4)))) a1_4 a2_0 false a2_2 a2_3 a2_4) else (none)) else (if (IntKind.u64.wrap ((IntKind.u64.wrap (wrap64 (a1_4 - a2_4))) - 30)) > 60 then (spec_l4K_sum.j1 kj3 (a2_3 != 0) a0_0 a0_1 a1_0 false a1_2 (IntKind.u64.wrap (a1_3 * 1073741824)) a1_4 a2_0 false a2_2 0 (wrap64 (a1_4 - 30))) else (if 0 ≤ (IntKind.u64.wrap ((IntKind.u64.wrap (wrap64 (a1_4 - a2_4))) - 30)) then (spec_l4K_sum.j1 kj3 ((Go.bits .and .u64 a2_3 (IntKind.u64.wrap ((shl .u64 1 (IntKind.u64.wrap ((IntKind.u64.wrap (wrap64 (a1_4 - a2_4))) - 30))) - 1))) != 0) a0_0 a0_1 a1_0 false a1_2 (IntKind.u64.wrap (a1_3 * 1073741824)) a1_4 a2_0 false a2_2 (shr .u64 a2_3 (IntKind.u64.wrap ((IntKind.u64.wrap (wrap64 (a1_4 - a2_4))) - 30))) (wrap64 (a1_4 - 30))) else (none))))) = some r := by rw [if_neg (show ¬ (false = true) by decide)] at H; exact H
      clear H
      have H := H1
      clear H1
      by_cases c58 : a1_4 < a2_4
      ·
       rw [if_pos c58] at H
       have c58b0 : decide (a1_4 < a2_4) = true := decide_eq_true c58
       clear c58
       replace H := Option.bind_eq_some_iff.mp H
       obtain ⟨t201, A590, H⟩ := H
       replace H : (some t201) = some r := H
       have A59 := Aside0.mk A590
       clear A590
       obtain rfl := Option.some.inj H
       simp only [Option.some.injEq, Prod.mk.injEq] at H
       obtain ⟨rfl⟩ := H
       have hnb60 := NB196_195.out
       have hnc60 := NB195_196.out
       have hnb61 := NB196_197.out
       have hnc61 := NB197_196.out
       have hcz62_0 : wc.cell? ⟨gb196, 0, none⟩ = some (.bool a1_0) := (blk_cell BK196.out 0).trans rfl
       have hcz62_1 : wc.cell? ⟨gb196, 1, none⟩ = some (.bool false) := (blk_cell BK196.out 1).trans rfl
       have hcz62_2 : wc.cell? ⟨gb196, 2, none⟩ = some (.bool a1_2) := (blk_cell BK196.out 2).trans rfl
       have hcz62_3 : wc.cell? ⟨gb196, 3, none⟩ = some (.int .u64 a1_3) := (blk_cell BK196.out 3).trans rfl
       have hcz62_4 : wc.cell? ⟨gb196, 4, none⟩ = some (.int .i64 a1_4) := (blk_cell BK196.out 4).trans rfl
       have hfz62_0 := blk_frozen BK196.out 0
       have hfz62_1 := blk_frozen BK196.out 1
       have hfz62_2 := blk_frozen BK196.out 2
       have hfz62_3 := blk_frozen BK196.out 3
       have hfz62_4 := blk_frozen BK196.out 4
       have hnb63 := NB197_195.out
       have hnc63 := NB195_197.out
       have hcz64_0 : wc.cell? ⟨gb197, 0, none⟩ = some (.bool a2_0) := (blk_cell BK197.out 0).trans rfl
       have hcz64_1 : wc.cell? ⟨gb197, 1, none⟩ = some (.bool false) := (blk_cell BK197.out 1).trans rfl
       have hcz64_2 : wc.cell? ⟨gb197, 2, none⟩ = some (.bool a2_2) := (blk_cell BK197.out 2).trans rfl
       have hcz64_3 : wc.cell? ⟨gb197, 3, none⟩ = some (.int .u64 a2_3) := (blk_cell BK197.out 3).trans rfl
       have hcz64_4 : wc.cell? ⟨gb197, 4, none⟩ = some (.int .i64 a2_4) := (blk_cell BK197.out 4).trans rfl
       have hfz64_0 := blk_frozen BK197.out 0
       have hfz64_1 := blk_frozen BK197.out 1
       have hfz64_2 := blk_frozen BK197.out 2
       have hfz64_3 := blk_frozen BK197.out 3
       have hfz64_4 := blk_frozen BK197.out 4
       have hcz65_0 : wc.cell? ⟨gb195, 0, none⟩ = some (.int .u64 a0_0) := (blk_cell BK195.out 0).trans rfl
       have hcz65_1 : wc.cell? ⟨gb195, 1, none⟩ = some (.int .u64 a0_1) := (blk_cell BK195.out 1).trans rfl
       have hfz65_0 := blk_frozen BK195.out 0
       have hfz65_1 := blk_frozen BK195.out 1
       go_wp2_with (first | ((with_reducible refine gate_callee (f := 66) rfl ?_); refine goesL_ (some 56) rfl rfl Try.func66 (by kernel_rfl) rfl #[.agg #[.int .u64 a0_0, .int .u64 a0_1], .agg #[.bool a2_0, .bool false, .bool a2_2, .int .u64 a2_3, .int .i64 a2_4], .agg #[.bool a1_0, .bool false, .bool a1_2, .int .u64 a1_3, .int .i64 a1_4]] rfl ar ?_; (with_reducible refine (ih kj3 (by have := HJ3.out; omega) a0_0 a0_1 a2_0 false a2_2 a2_3 a2_4 a1_0 false a1_2 a1_3 a1_4 t201 _ A59.out).mono ?_); rintro e w66 ⟨rfl, hb⟩; refine ⟨_, rfl, ?_⟩; have n0_ := Aside0.mk (blk_below (g := gb195) (o := .cells #[.int .u64 a0_0, .int .u64 a0_1] 52 (0, 0)) (bk BK195.out) hb); have n1_ := Aside0.mk (blk_below (g := gb196) (o := .cells #[.bool a1_0, .bool false, .bool a1_2, .int .u64 a1_3, .int .i64 a1_4] 56 (0, 0)) (bk BK196.out) hb); have n2_ := Aside0.mk (blk_below (g := gb197) (o := .cells #[.bool a2_0, .bool false, .bool a2_2, .int .u64 a2_3, .int .i64 a2_4] 56 (0, 0)) (bk BK197.out) hb); have n3_ := Aside0.mk (below_step (bw HB.out) hb); clear BK195; clear BK196; clear BK197; clear HB; have BK195 := n0_; have BK196 := n1_; have BK197 := n2_; have HB := n3_; clear n0_ n1_ n2_ n3_; (try clear hb)))
       go_ret
       exact ⟨by first | rfl | (simp [errW_none, errW_some] <;> rfl) | (simp [*, errW_none, errW_some] <;> rfl), bw HB.out⟩
      ·
       rw [if_neg c58] at H
       have c58b0 : decide (a1_4 < a2_4) = false := decide_eq_false c58
       clear c58
       have HC67 := Aside0.mk H
       clear H
       have hnb68 := NB196_195.out
       have hnc68 := NB195_196.out
       have hnb69 := NB196_197.out
       have hnc69 := NB197_196.out
       have hcz70_0 : wc.cell? ⟨gb196, 0, none⟩ = some (.bool a1_0) := (blk_cell BK196.out 0).trans rfl
       have hcz70_1 : wc.cell? ⟨gb196, 1, none⟩ = some (.bool false) := (blk_cell BK196.out 1).trans rfl
       have hcz70_2 : wc.cell? ⟨gb196, 2, none⟩ = some (.bool a1_2) := (blk_cell BK196.out 2).trans rfl
       have hcz70_3 : wc.cell? ⟨gb196, 3, none⟩ = some (.int .u64 a1_3) := (blk_cell BK196.out 3).trans rfl
       have hcz70_4 : wc.cell? ⟨gb196, 4, none⟩ = some (.int .i64 a1_4) := (blk_cell BK196.out 4).trans rfl
       have hfz70_0 := blk_frozen BK196.out 0
       have hfz70_1 := blk_frozen BK196.out 1
       have hfz70_2 := blk_frozen BK196.out 2
       have hfz70_3 := blk_frozen BK196.out 3
       have hfz70_4 := blk_frozen BK196.out 4
       have hnb71 := NB197_195.out
       have hnc71 := NB195_197.out
       have hcz72_0 : wc.cell? ⟨gb197, 0, none⟩ = some (.bool a2_0) := (blk_cell BK197.out 0).trans rfl
       have hcz72_1 : wc.cell? ⟨gb197, 1, none⟩ = some (.bool false) := (blk_cell BK197.out 1).trans rfl
       have hcz72_2 : wc.cell? ⟨gb197, 2, none⟩ = some (.bool a2_2) := (blk_cell BK197.out 2).trans rfl
       have hcz72_3 : wc.cell? ⟨gb197, 3, none⟩ = some (.int .u64 a2_3) := (blk_cell BK197.out 3).trans rfl
       have hcz72_4 : wc.cell? ⟨gb197, 4, none⟩ = some (.int .i64 a2_4) := (blk_cell BK197.out 4).trans rfl
       have hfz72_0 := blk_frozen BK197.out 0
       have hfz72_1 := blk_frozen BK197.out 1
       have hfz72_2 := blk_frozen BK197.out 2
       have hfz72_3 := blk_frozen BK197.out 3
       have hfz72_4 := blk_frozen BK197.out 4
       go_upto_if 64 with (fail)
       go_cut [8] (fun v8 wc => ∃ (kq : Nat) (x8_66 : Bool) (x197003_66 : Int) (x198003_66 : Int) (x198004_66 : Int), v8 = .bool x8_66 ∧ Aside0 (spec_l4K_sum.j1 kq x8_66 a0_0 a0_1 a1_0 false a1_2 x197003_66 a1_4 a2_0 false a2_2 x198003_66 x198004_66 = some r) ∧ Aside0 (kq ≤ kj3) ∧ Aside0 (wc.heap[gb195]? = some (.cells #[.int .u64 a0_0, .int .u64 a0_1] 52 (0, 0))) ∧ Aside0 (wc.heap[gb196]? = some (.cells #[.bool a1_0, .bool false, .bool a1_2, .int .u64 x197003_66, .int .i64 a1_4] 56 (0, 0))) ∧ Aside0 (wc.heap[gb197]? = some (.cells #[.bool a2_0, .bool false, .bool a2_2, .int .u64 x198003_66, .int .i64 x198004_66] 56 (0, 0))) ∧ Aside0 (Below w.heap.size w wc))
       case first =>
        have H := HC67.out
        clear HC67
        by_cases c73 : (IntKind.u64.wrap (wrap64 (a1_4 - a2_4))) ≤ 30
        ·
         rw [if_pos c73] at H
         have c73b0 : decide ((IntKind.u64.wrap (wrap64 (a1_4 - a2_4))) ≤ 30) = true := decide_eq_true c73
         clear c73
         (first | rw [c73b0] | (simp only [i64_w, i32_w]; rw [c73b0]) | skip)
         obtain ⟨ji74, hji74⟩ : ∃ j_ : Int, (IntKind.u64.wrap (wrap64 (a1_4 - a2_4))) = j_ := ⟨_, rfl⟩
         replace H : (if 0 ≤ (ji74) then (spec_l4K_sum.j1 kj3 false a0_0 a0_1 a1_0 false a1_2 (shl .u64 a1_3 (ji74)) a1_4 a2_0 false a2_2 a2_3 a2_4) else (none)) = some r := by first | (rw [hji74] at H; exact H) | (simp only [hji74] at H ⊢; exact H)
         (try rw [hji74] at c73b0)
         by_cases c75 : 0 ≤ (ji74)
         ·
          rw [if_pos c75] at H
          have c75b0 := eq_true c75
          have c75b1 : decide (0 ≤ (ji74)) = true := decide_eq_true c75
          clear c75
          obtain ⟨ji76, hji76⟩ : ∃ j_ : Int, (shl .u64 a1_3 (ji74)) = j_ := ⟨_, rfl⟩
          replace H : (spec_l4K_sum.j1 kj3 false a0_0 a0_1 a1_0 false a1_2 ji76 a1_4 a2_0 false a2_2 a2_3 a2_4) = some r := by first | (rw [hji76] at H; exact H) | (simp only [hji76] at H ⊢; exact H)
          have hji76_ : (IntKind.u64.wrap (a1_3 * 2 ^ min (ji74).toNat 64)) = ji76 := hji76
          have hji76z : (ji74) ≤ 64 → (IntKind.u64.wrap (a1_3 * 2 ^ (ji74).toNat)) = ji76 := shl_small hji76
          have H' := Aside0.mk H
          clear H
          have hnb77 := NB196_195.out
          have hnc77 := NB195_196.out
          have hnb78 := NB196_197.out
          have hnc78 := NB197_196.out
          have hcz79_0 : wc.cell? ⟨gb196, 0, none⟩ = some (.bool a1_0) := (blk_cell BK196.out 0).trans rfl
          have hcz79_1 : wc.cell? ⟨gb196, 1, none⟩ = some (.bool false) := (blk_cell BK196.out 1).trans rfl
          have hcz79_2 : wc.cell? ⟨gb196, 2, none⟩ = some (.bool a1_2) := (blk_cell BK196.out 2).trans rfl
          have hcz79_3 : wc.cell? ⟨gb196, 3, none⟩ = some (.int .u64 a1_3) := (blk_cell BK196.out 3).trans rfl
          have hcz79_4 : wc.cell? ⟨gb196, 4, none⟩ = some (.int .i64 a1_4) := (blk_cell BK196.out 4).trans rfl
          have hfz79_0 := blk_frozen BK196.out 0
          have hfz79_1 := blk_frozen BK196.out 1
          have hfz79_2 := blk_frozen BK196.out 2
          have hfz79_3 := blk_frozen BK196.out 3
          have hfz79_4 := blk_frozen BK196.out 4
          go_wp2
          first | go_meet | ((simp only [← hji76]); go_meet) | ((simp only [← hji74]); go_meet) | ((simp only [← hji76, ← hji74]); go_meet)
          case rel => exact ⟨_, (false), (ji76), (a2_3), (a2_4), (by first | rfl | (simp; done) | (simp [*]; done)), H', ⟨by have := HJ3.out; first | omega | exact Nat.le_refl _⟩, ⟨by (with_reducible repeat (first | refine blk_drewN ?_ _ | refine blk_drew ?_ | refine blk_alloc ?_ _)); refine blk_far ?_ NB195_196.out _; (with_reducible repeat (first | refine blk_drewN ?_ _ | refine blk_drew ?_ | refine blk_alloc ?_ _)); exact BK195.out⟩, ⟨by (with_reducible repeat (first | refine blk_drewN ?_ _ | refine blk_drew ?_ | refine blk_alloc ?_ _)); refine blk_put (cs := #[.bool a1_0, .bool false, .bool a1_2, .int .u64 a1_3, .int .i64 a1_4]) ?_ 3 _ rfl; (with_reducible repeat (first | refine blk_drewN ?_ _ | refine blk_drew ?_ | refine blk_alloc ?_ _)); exact BK196.out⟩, ⟨by (with_reducible repeat (first | refine blk_drewN ?_ _ | refine blk_drew ?_ | refine blk_alloc ?_ _)); refine blk_far ?_ NB197_196.out _; (with_reducible repeat (first | refine blk_drewN ?_ _ | refine blk_drew ?_ | refine blk_alloc ?_ _)); exact BK197.out⟩, ⟨bw HB.out⟩⟩
         ·
          rw [if_neg c75] at H
          exact absurd H (by simp)
        ·
         rw [if_neg c73] at H
         have c73b0 : decide ((IntKind.u64.wrap (wrap64 (a1_4 - a2_4))) ≤ 30) = false := decide_eq_false c73
         clear c73
         (first | rw [c73b0] | (simp only [i64_w, i32_w]; rw [c73b0]) | skip)
         by_cases c80 : (IntKind.u64.wrap ((IntKind.u64.wrap (wrap64 (a1_4 - a2_4))) - 30)) > 60
         ·
          rw [if_pos c80] at H
          have c80b0 : decide (60 < (IntKind.u64.wrap ((IntKind.u64.wrap (wrap64 (a1_4 - a2_4))) - 30))) = true := decide_eq_true c80
          clear c80
          have H' := Aside0.mk H
          clear H
          have hnb81 := NB196_195.out
          have hnc81 := NB195_196.out
          have hnb82 := NB196_197.out
          have hnc82 := NB197_196.out
          have hcz83_0 : wc.cell? ⟨gb196, 0, none⟩ = some (.bool a1_0) := (blk_cell BK196.out 0).trans rfl
          have hcz83_1 : wc.cell? ⟨gb196, 1, none⟩ = some (.bool false) := (blk_cell BK196.out 1).trans rfl
          have hcz83_2 : wc.cell? ⟨gb196, 2, none⟩ = some (.bool a1_2) := (blk_cell BK196.out 2).trans rfl
          have hcz83_3 : wc.cell? ⟨gb196, 3, none⟩ = some (.int .u64 a1_3) := (blk_cell BK196.out 3).trans rfl
          have hcz83_4 : wc.cell? ⟨gb196, 4, none⟩ = some (.int .i64 a1_4) := (blk_cell BK196.out 4).trans rfl
          have hfz83_0 := blk_frozen BK196.out 0
          have hfz83_1 := blk_frozen BK196.out 1
          have hfz83_2 := blk_frozen BK196.out 2
          have hfz83_3 := blk_frozen BK196.out 3
          have hfz83_4 := blk_frozen BK196.out 4
          have hnb84 := NB197_195.out
          have hnc84 := NB195_197.out
          have hcz85_0 : wc.cell? ⟨gb197, 0, none⟩ = some (.bool a2_0) := (blk_cell BK197.out 0).trans rfl
          have hcz85_1 : wc.cell? ⟨gb197, 1, none⟩ = some (.bool false) := (blk_cell BK197.out 1).trans rfl
          have hcz85_2 : wc.cell? ⟨gb197, 2, none⟩ = some (.bool a2_2) := (blk_cell BK197.out 2).trans rfl
          have hcz85_3 : wc.cell? ⟨gb197, 3, none⟩ = some (.int .u64 a2_3) := (blk_cell BK197.out 3).trans rfl
          have hcz85_4 : wc.cell? ⟨gb197, 4, none⟩ = some (.int .i64 a2_4) := (blk_cell BK197.out 4).trans rfl
          have hfz85_0 := blk_frozen BK197.out 0
          have hfz85_1 := blk_frozen BK197.out 1
          have hfz85_2 := blk_frozen BK197.out 2
          have hfz85_3 := blk_frozen BK197.out 3
          have hfz85_4 := blk_frozen BK197.out 4
          go_wp2
          go_meet
          case rel => exact ⟨_, ((a2_3 != 0)), (IntKind.u64.wrap (a1_3 * 1073741824)), (0), (wrap64 (a1_4 - 30)), (by first | rfl | (simp; done) | (simp [*]; done)), H', ⟨by have := HJ3.out; first | omega | exact Nat.le_refl _⟩, ⟨by (with_reducible repeat (first | refine blk_drewN ?_ _ | refine blk_drew ?_ | refine blk_alloc ?_ _)); refine blk_far ?_ NB195_197.out _; (with_reducible repeat (first | refine blk_drewN ?_ _ | refine blk_drew ?_ | refine blk_alloc ?_ _)); refine blk_far ?_ NB195_197.out _; (with_reducible repeat (first | refine blk_drewN ?_ _ | refine blk_drew ?_ | refine blk_alloc ?_ _)); refine blk_far ?_ NB195_196.out _; (with_reducible repeat (first | refine blk_drewN ?_ _ | refine blk_drew ?_ | refine blk_alloc ?_ _)); exact BK195.out⟩, ⟨by (with_reducible repeat (first | refine blk_drewN ?_ _ | refine blk_drew ?_ | refine blk_alloc ?_ _)); refine blk_far ?_ NB196_197.out _; (with_reducible repeat (first | refine blk_drewN ?_ _ | refine blk_drew ?_ | refine blk_alloc ?_ _)); refine blk_far ?_ NB196_197.out _; (with_reducible repeat (first | refine blk_drewN ?_ _ | refine blk_drew ?_ | refine blk_alloc ?_ _)); refine blk_put (cs := #[.bool a1_0, .bool false, .bool a1_2, .int .u64 a1_3, .int .i64 a1_4]) ?_ 3 _ rfl; (with_reducible repeat (first | refine blk_drewN ?_ _ | refine blk_drew ?_ | refine blk_alloc ?_ _)); exact BK196.out⟩, ⟨by (with_reducible repeat (first | refine blk_drewN ?_ _ | refine blk_drew ?_ | refine blk_alloc ?_ _)); refine blk_put (cs := #[.bool a2_0, .bool false, .bool a2_2, .int .u64 0, .int .i64 a2_4]) ?_ 4 _ rfl; (with_reducible repeat (first | refine blk_drewN ?_ _ | refine blk_drew ?_ | refine blk_alloc ?_ _)); refine blk_put (cs := #[.bool a2_0, .bool false, .bool a2_2, .int .u64 a2_3, .int .i64 a2_4]) ?_ 3 _ rfl; (with_reducible repeat (first | refine blk_drewN ?_ _ | refine blk_drew ?_ | refine blk_alloc ?_ _)); refine blk_far ?_ NB197_196.out _; (with_reducible repeat (first | refine blk_drewN ?_ _ | refine blk_drew ?_ | refine blk_alloc ?_ _)); exact BK197.out⟩, ⟨bw HB.out⟩⟩
         ·
          rw [if_neg c80] at H
          have c80b0 : decide (60 < (IntKind.u64.wrap ((IntKind.u64.wrap (wrap64 (a1_4 - a2_4))) - 30))) = false := decide_eq_false c80
          clear c80
          obtain ⟨ji86, hji86⟩ : ∃ j_ : Int, (IntKind.u64.wrap ((IntKind.u64.wrap (wrap64 (a1_4 - a2_4))) - 30)) = j_ := ⟨_, rfl⟩
          replace H : (if 0 ≤ (ji86) then (spec_l4K_sum.j1 kj3 ((Go.bits .and .u64 a2_3 (IntKind.u64.wrap ((shl .u64 1 (ji86)) - 1))) != 0) a0_0 a0_1 a1_0 false a1_2 (IntKind.u64.wrap (a1_3 * 1073741824)) a1_4 a2_0 false a2_2 (shr .u64 a2_3 (ji86)) (wrap64 (a1_4 - 30))) else (none)) = some r := by first | (rw [hji86] at H; exact H) | (simp only [hji86] at H ⊢; exact H)
          (try rw [hji86] at c80b0)
          by_cases c87 : 0 ≤ (ji86)
          ·
           rw [if_pos c87] at H
           have c87b0 := eq_true c87
           have c87b1 : decide (0 ≤ (ji86)) = true := decide_eq_true c87
           clear c87
           obtain ⟨ji88, hji88⟩ : ∃ j_ : Int, (shl .u64 1 (ji86)) = j_ := ⟨_, rfl⟩
           replace H : (spec_l4K_sum.j1 kj3 ((Go.bits .and .u64 a2_3 (IntKind.u64.wrap ((ji88) - 1))) != 0) a0_0 a0_1 a1_0 false a1_2 (IntKind.u64.wrap (a1_3 * 1073741824)) a1_4 a2_0 false a2_2 (shr .u64 a2_3 (ji86)) (wrap64 (a1_4 - 30))) = some r := by first | (rw [hji88] at H; exact H) | (simp only [hji88] at H ⊢; exact H)
           have hji88_ : (IntKind.u64.wrap (1 * 2 ^ min (ji86).toNat 64)) = ji88 := hji88
           have hji88z : (ji86) ≤ 64 → (IntKind.u64.wrap (1 * 2 ^ (ji86).toNat)) = ji88 := shl_small hji88
           have hji88u : (IntKind.u64.wrap (2 ^ min (ji86).toNat 64)) = ji88 := by have h_ := hji88_; rw [Int.one_mul] at h_; exact h_
           have hji88v : (ji86) ≤ 64 → (IntKind.u64.wrap (2 ^ (ji86).toNat)) = ji88 := fun hle_ => by have h_ := hji88z hle_; rw [Int.one_mul] at h_; exact h_
           have c89b0 := eq_true (of_decide_eq_true (by first | (with_reducible assumption) | assumption) : 0 ≤ (ji86))
           obtain ⟨ji90, hji90⟩ : ∃ j_ : Int, (shr .u64 a2_3 (ji86)) = j_ := ⟨_, rfl⟩
           replace H : (spec_l4K_sum.j1 kj3 ((Go.bits .and .u64 a2_3 (IntKind.u64.wrap ((ji88) - 1))) != 0) a0_0 a0_1 a1_0 false a1_2 (IntKind.u64.wrap (a1_3 * 1073741824)) a1_4 a2_0 false a2_2 ji90 (wrap64 (a1_4 - 30))) = some r := by first | (rw [hji90] at H; exact H) | (simp only [hji90] at H ⊢; exact H)
           have hji90_ : (a2_3 / 2 ^ min (ji86).toNat 64) = ji90 := hji90
           have hji90z : (ji86) ≤ 64 → (a2_3 / 2 ^ (ji86).toNat) = ji90 := shr_small hji90
           have H' := Aside0.mk H
           clear H
           have hnb91 := NB196_195.out
           have hnc91 := NB195_196.out
           have hnb92 := NB196_197.out
           have hnc92 := NB197_196.out
           have hcz93_0 : wc.cell? ⟨gb196, 0, none⟩ = some (.bool a1_0) := (blk_cell BK196.out 0).trans rfl
           have hcz93_1 : wc.cell? ⟨gb196, 1, none⟩ = some (.bool false) := (blk_cell BK196.out 1).trans rfl
           have hcz93_2 : wc.cell? ⟨gb196, 2, none⟩ = some (.bool a1_2) := (blk_cell BK196.out 2).trans rfl
           have hcz93_3 : wc.cell? ⟨gb196, 3, none⟩ = some (.int .u64 a1_3) := (blk_cell BK196.out 3).trans rfl
           have hcz93_4 : wc.cell? ⟨gb196, 4, none⟩ = some (.int .i64 a1_4) := (blk_cell BK196.out 4).trans rfl
           have hfz93_0 := blk_frozen BK196.out 0
           have hfz93_1 := blk_frozen BK196.out 1
           have hfz93_2 := blk_frozen BK196.out 2
           have hfz93_3 := blk_frozen BK196.out 3
           have hfz93_4 := blk_frozen BK196.out 4
           have hnb94 := NB197_195.out
           have hnc94 := NB195_197.out
           have hcz95_0 : wc.cell? ⟨gb197, 0, none⟩ = some (.bool a2_0) := (blk_cell BK197.out 0).trans rfl
           have hcz95_1 : wc.cell? ⟨gb197, 1, none⟩ = some (.bool false) := (blk_cell BK197.out 1).trans rfl
           have hcz95_2 : wc.cell? ⟨gb197, 2, none⟩ = some (.bool a2_2) := (blk_cell BK197.out 2).trans rfl
           have hcz95_3 : wc.cell? ⟨gb197, 3, none⟩ = some (.int .u64 a2_3) := (blk_cell BK197.out 3).trans rfl
           have hcz95_4 : wc.cell? ⟨gb197, 4, none⟩ = some (.int .i64 a2_4) := (blk_cell BK197.out 4).trans rfl
           have hfz95_0 := blk_frozen BK197.out 0
           have hfz95_1 := blk_frozen BK197.out 1
           have hfz95_2 := blk_frozen BK197.out 2
           have hfz95_3 := blk_frozen BK197.out 3
           have hfz95_4 := blk_frozen BK197.out 4
           go_wp2
           first | go_meet | ((simp only [← hji90]); go_meet) | ((simp only [← hji88]); go_meet) | ((simp only [← hji86]); go_meet) | ((simp only [← hji90, ← hji88, ← hji86]); go_meet)
           case rel => exact ⟨_, (((Go.bits .and .u64 a2_3 (IntKind.u64.wrap ((ji88) - 1))) != 0)), (IntKind.u64.wrap (a1_3 * 1073741824)), (ji90), (wrap64 (a1_4 - 30)), (by first | rfl | (simp; done) | (simp only [← hji88] <;> (first | rfl | simp)) | (simp [*]; done)), H', ⟨by have := HJ3.out; first | omega | exact Nat.le_refl _⟩, ⟨by (with_reducible repeat (first | refine blk_drewN ?_ _ | refine blk_drew ?_ | refine blk_alloc ?_ _)); refine blk_far ?_ NB195_197.out _; (with_reducible repeat (first | refine blk_drewN ?_ _ | refine blk_drew ?_ | refine blk_alloc ?_ _)); refine blk_far ?_ NB195_197.out _; (with_reducible repeat (first | refine blk_drewN ?_ _ | refine blk_drew ?_ | refine blk_alloc ?_ _)); refine blk_far ?_ NB195_196.out _; (with_reducible repeat (first | refine blk_drewN ?_ _ | refine blk_drew ?_ | refine blk_alloc ?_ _)); exact BK195.out⟩, ⟨by (with_reducible repeat (first | refine blk_drewN ?_ _ | refine blk_drew ?_ | refine blk_alloc ?_ _)); refine blk_far ?_ NB196_197.out _; (with_reducible repeat (first | refine blk_drewN ?_ _ | refine blk_drew ?_ | refine blk_alloc ?_ _)); refine blk_far ?_ NB196_197.out _; (with_reducible repeat (first | refine blk_drewN ?_ _ | refine blk_drew ?_ | refine blk_alloc ?_ _)); refine blk_put (cs := #[.bool a1_0, .bool false, .bool a1_2, .int .u64 a1_3, .int .i64 a1_4]) ?_ 3 _ rfl; (with_reducible repeat (first | refine blk_drewN ?_ _ | refine blk_drew ?_ | refine blk_alloc ?_ _)); exact BK196.out⟩, ⟨by (with_reducible repeat (first | refine blk_drewN ?_ _ | refine blk_drew ?_ | refine blk_alloc ?_ _)); refine blk_put (cs := #[.bool a2_0, .bool false, .bool a2_2, .int .u64 ji90, .int .i64 a2_4]) ?_ 4 _ rfl; (with_reducible repeat (first | refine blk_drewN ?_ _ | refine blk_drew ?_ | refine blk_alloc ?_ _)); refine blk_put (cs := #[.bool a2_0, .bool false, .bool a2_2, .int .u64 a2_3, .int .i64 a2_4]) ?_ 3 _ rfl; (with_reducible repeat (first | refine blk_drewN ?_ _ | refine blk_drew ?_ | refine blk_alloc ?_ _)); refine blk_far ?_ NB197_196.out _; (with_reducible repeat (first | refine blk_drewN ?_ _ | refine blk_drew ?_ | refine blk_alloc ?_ _)); exact BK197.out⟩, ⟨bw HB.out⟩⟩
          ·
           rw [if_neg c87] at H
           exact absurd H (by simp)
       case rest =>
        clear HC67
        try clear c1
        try clear c2
        try clear p2
        try clear c3
        try clear c4
        try clear c5
        try clear c6
        try clear p6
        try clear c7
        try clear c8
        try clear c9
        try clear c10
        try clear c12
        try clear c13
        try clear c14
        try clear c16
        try clear c18
        try clear c19
        try clear c20
        try clear c21
        try clear c23
        try clear c25
        try clear c26
        try clear c28
        try clear c30
        try clear c31
        try clear c33
        try clear c35
        try clear c37
        try clear c38
        try clear c41
        try clear c43
        try clear c44
        try clear c46
        try clear c48
        try clear c49
        try clear c51
        try clear c52
        try clear c54
        try clear c58
        try clear c58b0
        try clear c60
        try clear c61
        try clear c63
        try clear p64
        try clear c66
        try clear c68
        try clear c69
        try clear c71
        try clear c73
        try clear c73b0
        try clear c75
        try clear c75b0
        try clear c75b1
        try clear c77
        try clear c78
        try clear c80
        try clear c80b0
        try clear c81
        try clear c82
        try clear c84
        try clear c87
        try clear c87b0
        try clear c87b1
        try clear c89
        try clear c89b0
        try clear c91
        try clear c92
        try clear c94
        try clear hcz11_0 hcz11_1 hcz11_2 hcz11_3 hcz11_4
        try clear hcz15_0 hcz15_1 hcz15_2 hcz15_3 hcz15_4
        try clear hcz17_0 hcz17_1 hcz17_2 hcz17_3 hcz17_4
        try clear hcz22_0 hcz22_1 hcz22_2 hcz22_3 hcz22_4
        try clear hcz24_0 hcz24_1 hcz24_2 hcz24_3 hcz24_4
        try clear hcz27_0 hcz27_1 hcz27_2 hcz27_3 hcz27_4
        try clear hcz29_0 hcz29_1 hcz29_2 hcz29_3 hcz29_4
        try clear hcz32_0 hcz32_1 hcz32_2 hcz32_3 hcz32_4
        try clear hcz34_0 hcz34_1 hcz34_2 hcz34_3 hcz34_4
        try clear hcz39_0 hcz39_1
        try clear hcz45_0 hcz45_1 hcz45_2 hcz45_3 hcz45_4
        try clear hcz47_0 hcz47_1
        try clear hcz53_0 hcz53_1 hcz53_2 hcz53_3 hcz53_4
        try clear hcz55_0 hcz55_1 hcz55_2 hcz55_3 hcz55_4
        try clear hcz56_0 hcz56_1
        try clear hcz62_0 hcz62_1 hcz62_2 hcz62_3 hcz62_4
        try clear hcz64_0 hcz64_1 hcz64_2 hcz64_3 hcz64_4
        try clear hcz65_0 hcz65_1
        try clear hcz70_0 hcz70_1 hcz70_2 hcz70_3 hcz70_4
        try clear hcz72_0 hcz72_1 hcz72_2 hcz72_3 hcz72_4
        try clear hcz79_0 hcz79_1 hcz79_2 hcz79_3 hcz79_4
        try clear hcz83_0 hcz83_1 hcz83_2 hcz83_3 hcz83_4
        try clear hcz85_0 hcz85_1 hcz85_2 hcz85_3 hcz85_4
        try clear hcz93_0 hcz93_1 hcz93_2 hcz93_3 hcz93_4
        try clear hcz95_0 hcz95_1 hcz95_2 hcz95_3 hcz95_4
        try clear hfz11_0 hfz11_1 hfz11_2 hfz11_3 hfz11_4
        try clear hfz15_0 hfz15_1 hfz15_2 hfz15_3 hfz15_4
        try clear hfz17_0 hfz17_1 hfz17_2 hfz17_3 hfz17_4
        try clear hfz22_0 hfz22_1 hfz22_2 hfz22_3 hfz22_4
        try clear hfz24_0 hfz24_1 hfz24_2 hfz24_3 hfz24_4
        try clear hfz27_0 hfz27_1 hfz27_2 hfz27_3 hfz27_4
        try clear hfz29_0 hfz29_1 hfz29_2 hfz29_3 hfz29_4
        try clear hfz32_0 hfz32_1 hfz32_2 hfz32_3 hfz32_4
        try clear hfz34_0 hfz34_1 hfz34_2 hfz34_3 hfz34_4
        try clear hfz39_0 hfz39_1
        try clear hfz45_0 hfz45_1 hfz45_2 hfz45_3 hfz45_4
        try clear hfz47_0 hfz47_1
        try clear hfz53_0 hfz53_1 hfz53_2 hfz53_3 hfz53_4
        try clear hfz55_0 hfz55_1 hfz55_2 hfz55_3 hfz55_4
        try clear hfz56_0 hfz56_1
        try clear hfz62_0 hfz62_1 hfz62_2 hfz62_3 hfz62_4
        try clear hfz64_0 hfz64_1 hfz64_2 hfz64_3 hfz64_4
        try clear hfz65_0 hfz65_1
        try clear hfz70_0 hfz70_1 hfz70_2 hfz70_3 hfz70_4
        try clear hfz72_0 hfz72_1 hfz72_2 hfz72_3 hfz72_4
        try clear hfz79_0 hfz79_1 hfz79_2 hfz79_3 hfz79_4
        try clear hfz83_0 hfz83_1 hfz83_2 hfz83_3 hfz83_4
        try clear hfz85_0 hfz85_1 hfz85_2 hfz85_3 hfz85_4
        try clear hfz93_0 hfz93_1 hfz93_2 hfz93_3 hfz93_4
        try clear hfz95_0 hfz95_1 hfz95_2 hfz95_3 hfz95_4
        try clear p2
        obtain ⟨kq, x8_66, x197003_66, x198003_66, x198004_66, rfl, HA, HJ66, BK195, BK196, BK197, HB⟩ := hcut
        cases kq with
        | zero => exact absurd HA.out (by simp [spec_l4K_sum.j1])
        | succ kj66 =>
         have H := HA.out
         clear HA
         simp only [spec_l4K_sum.j1] at H
         by_cases c96 : (a1_0 == a2_0) = true
         ·
          rw [if_pos c96] at H
          have c96b0 : (a1_0 == a2_0) = true := c96
          (try (have c96b1 : decide (a1_0 = a2_0) = true := by simpa using c96))
          (try (have c96b2 : (a1_0 == a2_0) = true := by simpa using c96))
          clear c96
          replace H := Option.bind_eq_some_iff.mp H
          obtain ⟨t202, A970, H⟩ := H
          replace H : (some t202) = some r := H
          have A97 := Aside0.mk A970
          clear A970
          obtain rfl := Option.some.inj H
          simp only [Option.some.injEq, Prod.mk.injEq] at H
          obtain ⟨rfl⟩ := H
          have hnb98 := NB196_195.out
          have hnc98 := NB195_196.out
          have hnb99 := NB196_197.out
          have hnc99 := NB197_196.out
          have hcz100_0 : wc.cell? ⟨gb196, 0, none⟩ = some (.bool a1_0) := (blk_cell BK196.out 0).trans rfl
          have hcz100_1 : wc.cell? ⟨gb196, 1, none⟩ = some (.bool false) := (blk_cell BK196.out 1).trans rfl
          have hcz100_2 : wc.cell? ⟨gb196, 2, none⟩ = some (.bool a1_2) := (blk_cell BK196.out 2).trans rfl
          have hcz100_3 : wc.cell? ⟨gb196, 3, none⟩ = some (.int .u64 x197003_66) := (blk_cell BK196.out 3).trans rfl
          have hcz100_4 : wc.cell? ⟨gb196, 4, none⟩ = some (.int .i64 a1_4) := (blk_cell BK196.out 4).trans rfl
          have hfz100_0 := blk_frozen BK196.out 0
          have hfz100_1 := blk_frozen BK196.out 1
          have hfz100_2 := blk_frozen BK196.out 2
          have hfz100_3 := blk_frozen BK196.out 3
          have hfz100_4 := blk_frozen BK196.out 4
          have hnb101 := NB197_195.out
          have hnc101 := NB195_197.out
          have hcz102_0 : wc.cell? ⟨gb197, 0, none⟩ = some (.bool a2_0) := (blk_cell BK197.out 0).trans rfl
          have hcz102_1 : wc.cell? ⟨gb197, 1, none⟩ = some (.bool false) := (blk_cell BK197.out 1).trans rfl
          have hcz102_2 : wc.cell? ⟨gb197, 2, none⟩ = some (.bool a2_2) := (blk_cell BK197.out 2).trans rfl
          have hcz102_3 : wc.cell? ⟨gb197, 3, none⟩ = some (.int .u64 x198003_66) := (blk_cell BK197.out 3).trans rfl
          have hcz102_4 : wc.cell? ⟨gb197, 4, none⟩ = some (.int .i64 x198004_66) := (blk_cell BK197.out 4).trans rfl
          have hfz102_0 := blk_frozen BK197.out 0
          have hfz102_1 := blk_frozen BK197.out 1
          have hfz102_2 := blk_frozen BK197.out 2
          have hfz102_3 := blk_frozen BK197.out 3
          have hfz102_4 := blk_frozen BK197.out 4
          have hcz103_0 : wc.cell? ⟨gb195, 0, none⟩ = some (.int .u64 a0_0) := (blk_cell BK195.out 0).trans rfl
          have hcz103_1 : wc.cell? ⟨gb195, 1, none⟩ = some (.int .u64 a0_1) := (blk_cell BK195.out 1).trans rfl
          have hfz103_0 := blk_frozen BK195.out 0
          have hfz103_1 := blk_frozen BK195.out 1
          go_wp2_with (first | ((with_reducible refine gate_callee (f := 50) rfl ?_); refine goesL_ (some 116) rfl rfl Try.func50 (by kernel_rfl) rfl #[.agg #[.int .u64 a0_0, .int .u64 a0_1], .bool a1_0, .int .u64 (IntKind.u64.wrap (x197003_66 + x198003_66)), .int .i64 x198004_66, .bool x8_66] rfl ar ?_; (with_reducible refine (spec_l4K_round.calls kj66 a0_0 a0_1 a1_0 (IntKind.u64.wrap (x197003_66 + x198003_66)) x198004_66 x8_66 t202 _ A97.out).mono ?_); rintro e w104 ⟨rfl, hb⟩; refine ⟨_, rfl, ?_⟩; have n0_ := Aside0.mk (blk_below (g := gb195) (o := .cells #[.int .u64 a0_0, .int .u64 a0_1] 52 (0, 0)) (bk BK195.out) hb); have n1_ := Aside0.mk (blk_below (g := gb196) (o := .cells #[.bool a1_0, .bool false, .bool a1_2, .int .u64 x197003_66, .int .i64 a1_4] 56 (0, 0)) (bk BK196.out) hb); have n2_ := Aside0.mk (blk_below (g := gb197) (o := .cells #[.bool a2_0, .bool false, .bool a2_2, .int .u64 x198003_66, .int .i64 x198004_66] 56 (0, 0)) (bk BK197.out) hb); have n3_ := Aside0.mk (below_step (bw HB.out) hb); clear BK195; clear BK196; clear BK197; clear HB; have BK195 := n0_; have BK196 := n1_; have BK197 := n2_; have HB := n3_; clear n0_ n1_ n2_ n3_; (try clear hb)))
          go_ret
          exact ⟨by first | rfl | (simp [errW_none, errW_some] <;> rfl) | (simp [*, errW_none, errW_some] <;> rfl), bw HB.out⟩
         ·
          rw [if_neg c96] at H
          have c96b0 : (a1_0 == a2_0) = false := by simpa using c96
          (try (have c96b1 : decide (a1_0 = a2_0) = false := by simpa using c96))
          (try (have c96b2 : (a1_0 == a2_0) = false := by simpa using c96))
          (try (have c96b3 : ¬ (a1_0 = a2_0) := by simpa using c96))
          clear c96
          by_cases c105 : x198003_66 > x197003_66
          ·
           rw [if_pos c105] at H
           have c105b0 : decide (x197003_66 < x198003_66) = true := decide_eq_true c105
           clear c105
           replace H := Option.bind_eq_some_iff.mp H
           obtain ⟨t203, A1060, H⟩ := H
           replace H : (some t203) = some r := H
           have A106 := Aside0.mk A1060
           clear A1060
           obtain rfl := Option.some.inj H
           simp only [Option.some.injEq, Prod.mk.injEq] at H
           obtain ⟨rfl⟩ := H
           have hnb107 := NB196_195.out
           have hnc107 := NB195_196.out
           have hnb108 := NB196_197.out
           have hnc108 := NB197_196.out
           have hcz109_0 : wc.cell? ⟨gb196, 0, none⟩ = some (.bool a1_0) := (blk_cell BK196.out 0).trans rfl
           have hcz109_1 : wc.cell? ⟨gb196, 1, none⟩ = some (.bool false) := (blk_cell BK196.out 1).trans rfl
           have hcz109_2 : wc.cell? ⟨gb196, 2, none⟩ = some (.bool a1_2) := (blk_cell BK196.out 2).trans rfl
           have hcz109_3 : wc.cell? ⟨gb196, 3, none⟩ = some (.int .u64 x197003_66) := (blk_cell BK196.out 3).trans rfl
           have hcz109_4 : wc.cell? ⟨gb196, 4, none⟩ = some (.int .i64 a1_4) := (blk_cell BK196.out 4).trans rfl
           have hfz109_0 := blk_frozen BK196.out 0
           have hfz109_1 := blk_frozen BK196.out 1
           have hfz109_2 := blk_frozen BK196.out 2
           have hfz109_3 := blk_frozen BK196.out 3
           have hfz109_4 := blk_frozen BK196.out 4
           have hnb110 := NB197_195.out
           have hnc110 := NB195_197.out
           have hcz111_0 : wc.cell? ⟨gb197, 0, none⟩ = some (.bool a2_0) := (blk_cell BK197.out 0).trans rfl
           have hcz111_1 : wc.cell? ⟨gb197, 1, none⟩ = some (.bool false) := (blk_cell BK197.out 1).trans rfl
           have hcz111_2 : wc.cell? ⟨gb197, 2, none⟩ = some (.bool a2_2) := (blk_cell BK197.out 2).trans rfl
           have hcz111_3 : wc.cell? ⟨gb197, 3, none⟩ = some (.int .u64 x198003_66) := (blk_cell BK197.out 3).trans rfl
           have hcz111_4 : wc.cell? ⟨gb197, 4, none⟩ = some (.int .i64 x198004_66) := (blk_cell BK197.out 4).trans rfl
           have hfz111_0 := blk_frozen BK197.out 0
           have hfz111_1 := blk_frozen BK197.out 1
           have hfz111_2 := blk_frozen BK197.out 2
           have hfz111_3 := blk_frozen BK197.out 3
           have hfz111_4 := blk_frozen BK197.out 4
           have hcz112_0 : wc.cell? ⟨gb195, 0, none⟩ = some (.int .u64 a0_0) := (blk_cell BK195.out 0).trans rfl
           have hcz112_1 : wc.cell? ⟨gb195, 1, none⟩ = some (.int .u64 a0_1) := (blk_cell BK195.out 1).trans rfl
           have hfz112_0 := blk_frozen BK195.out 0
           have hfz112_1 := blk_frozen BK195.out 1
           go_wp2_with (first | ((with_reducible refine gate_callee (f := 50) rfl ?_); refine goesL_ (some 134) rfl rfl Try.func50 (by kernel_rfl) rfl #[.agg #[.int .u64 a0_0, .int .u64 a0_1], .bool a2_0, .int .u64 (IntKind.u64.wrap (x198003_66 - x197003_66)), .int .i64 x198004_66, .bool x8_66] rfl ar ?_; (with_reducible refine (spec_l4K_round.calls kj66 a0_0 a0_1 a2_0 (IntKind.u64.wrap (x198003_66 - x197003_66)) x198004_66 x8_66 t203 _ A106.out).mono ?_); rintro e w113 ⟨rfl, hb⟩; refine ⟨_, rfl, ?_⟩; have n0_ := Aside0.mk (blk_below (g := gb195) (o := .cells #[.int .u64 a0_0, .int .u64 a0_1] 52 (0, 0)) (bk BK195.out) hb); have n1_ := Aside0.mk (blk_below (g := gb196) (o := .cells #[.bool a1_0, .bool false, .bool a1_2, .int .u64 x197003_66, .int .i64 a1_4] 56 (0, 0)) (bk BK196.out) hb); have n2_ := Aside0.mk (blk_below (g := gb197) (o := .cells #[.bool a2_0, .bool false, .bool a2_2, .int .u64 x198003_66, .int .i64 x198004_66] 56 (0, 0)) (bk BK197.out) hb); have n3_ := Aside0.mk (below_step (bw HB.out) hb); clear BK195; clear BK196; clear BK197; clear HB; have BK195 := n0_; have BK196 := n1_; have BK197 := n2_; have HB := n3_; clear n0_ n1_ n2_ n3_; (try clear hb)))
           go_ret
           exact ⟨by first | rfl | (simp [errW_none, errW_some] <;> rfl) | (simp [*, errW_none, errW_some] <;> rfl), bw HB.out⟩
          ·
           rw [if_neg c105] at H
           have c105b0 : decide (x197003_66 < x198003_66) = false := decide_eq_false c105
           clear c105
           have HC114 := Aside0.mk H
           clear H
           have hnb115 := NB196_195.out
           have hnc115 := NB195_196.out
           have hnb116 := NB196_197.out
           have hnc116 := NB197_196.out
           have hcz117_0 : wc.cell? ⟨gb196, 0, none⟩ = some (.bool a1_0) := (blk_cell BK196.out 0).trans rfl
           have hcz117_1 : wc.cell? ⟨gb196, 1, none⟩ = some (.bool false) := (blk_cell BK196.out 1).trans rfl
           have hcz117_2 : wc.cell? ⟨gb196, 2, none⟩ = some (.bool a1_2) := (blk_cell BK196.out 2).trans rfl
           have hcz117_3 : wc.cell? ⟨gb196, 3, none⟩ = some (.int .u64 x197003_66) := (blk_cell BK196.out 3).trans rfl
           have hcz117_4 : wc.cell? ⟨gb196, 4, none⟩ = some (.int .i64 a1_4) := (blk_cell BK196.out 4).trans rfl
           have hfz117_0 := blk_frozen BK196.out 0
           have hfz117_1 := blk_frozen BK196.out 1
           have hfz117_2 := blk_frozen BK196.out 2
           have hfz117_3 := blk_frozen BK196.out 3
           have hfz117_4 := blk_frozen BK196.out 4
           have hnb118 := NB197_195.out
           have hnc118 := NB195_197.out
           have hcz119_0 : wc.cell? ⟨gb197, 0, none⟩ = some (.bool a2_0) := (blk_cell BK197.out 0).trans rfl
           have hcz119_1 : wc.cell? ⟨gb197, 1, none⟩ = some (.bool false) := (blk_cell BK197.out 1).trans rfl
           have hcz119_2 : wc.cell? ⟨gb197, 2, none⟩ = some (.bool a2_2) := (blk_cell BK197.out 2).trans rfl
           have hcz119_3 : wc.cell? ⟨gb197, 3, none⟩ = some (.int .u64 x198003_66) := (blk_cell BK197.out 3).trans rfl
           have hcz119_4 : wc.cell? ⟨gb197, 4, none⟩ = some (.int .i64 x198004_66) := (blk_cell BK197.out 4).trans rfl
           have hfz119_0 := blk_frozen BK197.out 0
           have hfz119_1 := blk_frozen BK197.out 1
           have hfz119_2 := blk_frozen BK197.out 2
           have hfz119_3 := blk_frozen BK197.out 3
           have hfz119_4 := blk_frozen BK197.out 4
           go_upto_if 140 with (fail)
           go_cut [9] (fun v9 wc => ∃ (kq : Nat) (x9_113 : Int), v9 = .int .u64 x9_113 ∧ Aside0 (spec_l4K_sum.j2 kq x8_66 x9_113 a0_0 a0_1 a1_0 false a1_2 x197003_66 a1_4 a2_0 false a2_2 x198003_66 x198004_66 = some r) ∧ Aside0 (kq ≤ kj66) ∧ Aside0 (wc.heap[gb195]? = some (.cells #[.int .u64 a0_0, .int .u64 a0_1] 52 (0, 0))) ∧ Aside0 (wc.heap[gb196]? = some (.cells #[.bool a1_0, .bool false, .bool a1_2, .int .u64 x197003_66, .int .i64 a1_4] 56 (0, 0))) ∧ Aside0 (wc.heap[gb197]? = some (.cells #[.bool a2_0, .bool false, .bool a2_2, .int .u64 x198003_66, .int .i64 x198004_66] 56 (0, 0))) ∧ Aside0 (Below w.heap.size w wc))
           case first =>
            have H := HC114.out
            clear HC114
            by_cases c120 : x8_66 = true
            ·
             subst c120
             have H1 : (spec_l4K_sum.j2 kj66 true (IntKind.u64.wrap ((IntKind.u64.wrap (x197003_66 - x198003_66)) - 1)) a0_0 a0_1 a1_0 false a1_2 x197003_66 a1_4 a2_0 false a2_2 x198003_66 x198004_66) = some r := by rw [if_pos rfl] at H; exact H
             clear H
             have H := H1
             clear H1
             have H' := Aside0.mk H
             clear H
             go_wp2
             go_meet
             case rel => exact ⟨_, (IntKind.u64.wrap ((IntKind.u64.wrap (x197003_66 - x198003_66)) - 1)), (by first | rfl | (simp; done) | (simp [*]; done)), H', ⟨by have := HJ3.out; have := HJ66.out; first | omega | exact Nat.le_refl _⟩, ⟨bk BK195.out⟩, ⟨bk BK196.out⟩, ⟨bk BK197.out⟩, ⟨bw HB.out⟩⟩
            ·
             replace c120 := Bool.eq_false_iff.mpr c120
             subst c120
             have H1 : (spec_l4K_sum.j2 kj66 false (IntKind.u64.wrap (x197003_66 - x198003_66)) a0_0 a0_1 a1_0 false a1_2 x197003_66 a1_4 a2_0 false a2_2 x198003_66 x198004_66) = some r := by rw [if_neg (show ¬ (false = true) by decide)] at H; exact H
             clear H
             have H := H1
             clear H1
             have H' := Aside0.mk H
             clear H
             go_wp2
             go_meet
             case rel => exact ⟨_, (IntKind.u64.wrap (x197003_66 - x198003_66)), (by first | rfl | (simp; done) | (simp [*]; done)), H', ⟨by have := HJ3.out; have := HJ66.out; first | omega | exact Nat.le_refl _⟩, ⟨bk BK195.out⟩, ⟨bk BK196.out⟩, ⟨bk BK197.out⟩, ⟨bw HB.out⟩⟩
           case rest =>
            clear HC114
            try clear c1
            try clear c2
            try clear p2
            try clear c3
            try clear c4
            try clear c5
            try clear c6
            try clear p6
            try clear c7
            try clear c8
            try clear c9
            try clear c10
            try clear c11
            try clear c12
            try clear c13
            try clear c14
            try clear c16
            try clear c18
            try clear c19
            try clear c20
            try clear c21
            try clear c23
            try clear c25
            try clear c26
            try clear c28
            try clear c30
            try clear c31
            try clear c33
            try clear c35
            try clear c37
            try clear c38
            try clear c41
            try clear c43
            try clear c44
            try clear c46
            try clear c48
            try clear c49
            try clear c50
            try clear c51
            try clear c52
            try clear c54
            try clear c58
            try clear c58b0
            try clear c60
            try clear c61
            try clear c63
            try clear p64
            try clear c66
            try clear c68
            try clear c69
            try clear c71
            try clear c73
            try clear c73b0
            try clear c75
            try clear c75b0
            try clear c75b1
            try clear c77
            try clear c78
            try clear c80
            try clear c80b0
            try clear c81
            try clear c82
            try clear c84
            try clear c87
            try clear c87b0
            try clear c87b1
            try clear c89
            try clear c89b0
            try clear c91
            try clear c92
            try clear c94
            try clear c96
            try clear c96b0
            try clear c96b1
            try clear c96b2
            try clear c98
            try clear c99
            try clear c101
            try clear c105
            try clear c105b0
            try clear c107
            try clear c108
            try clear c110
            try clear c115
            try clear c116
            try clear c118
            try clear c120
            try clear hcz100_0 hcz100_1 hcz100_2 hcz100_3 hcz100_4
            try clear hcz102_0 hcz102_1 hcz102_2 hcz102_3 hcz102_4
            try clear hcz103_0 hcz103_1
            try clear hcz109_0 hcz109_1 hcz109_2 hcz109_3 hcz109_4
            try clear hcz111_0 hcz111_1 hcz111_2 hcz111_3 hcz111_4
            try clear hcz112_0 hcz112_1
            try clear hcz117_0 hcz117_1 hcz117_2 hcz117_3 hcz117_4
            try clear hcz119_0 hcz119_1 hcz119_2 hcz119_3 hcz119_4
            try clear hcz11_0 hcz11_1 hcz11_2 hcz11_3 hcz11_4
            try clear hcz15_0 hcz15_1 hcz15_2 hcz15_3 hcz15_4
            try clear hcz17_0 hcz17_1 hcz17_2 hcz17_3 hcz17_4
            try clear hcz22_0 hcz22_1 hcz22_2 hcz22_3 hcz22_4
            try clear hcz24_0 hcz24_1 hcz24_2 hcz24_3 hcz24_4
            try clear hcz27_0 hcz27_1 hcz27_2 hcz27_3 hcz27_4
            try clear hcz29_0 hcz29_1 hcz29_2 hcz29_3 hcz29_4
            try clear hcz32_0 hcz32_1 hcz32_2 hcz32_3 hcz32_4
            try clear hcz34_0 hcz34_1 hcz34_2 hcz34_3 hcz34_4
            try clear hcz39_0 hcz39_1
            try clear hcz45_0 hcz45_1 hcz45_2 hcz45_3 hcz45_4
            try clear hcz47_0 hcz47_1
            try clear hcz53_0 hcz53_1 hcz53_2 hcz53_3 hcz53_4
            try clear hcz55_0 hcz55_1 hcz55_2 hcz55_3 hcz55_4
            try clear hcz56_0 hcz56_1
            try clear hcz62_0 hcz62_1 hcz62_2 hcz62_3 hcz62_4
            try clear hcz64_0 hcz64_1 hcz64_2 hcz64_3 hcz64_4
            try clear hcz65_0 hcz65_1
            try clear hcz70_0 hcz70_1 hcz70_2 hcz70_3 hcz70_4
            try clear hcz72_0 hcz72_1 hcz72_2 hcz72_3 hcz72_4
            try clear hcz79_0 hcz79_1 hcz79_2 hcz79_3 hcz79_4
            try clear hcz83_0 hcz83_1 hcz83_2 hcz83_3 hcz83_4
            try clear hcz85_0 hcz85_1 hcz85_2 hcz85_3 hcz85_4
            try clear hcz93_0 hcz93_1 hcz93_2 hcz93_3 hcz93_4
            try clear hcz95_0 hcz95_1 hcz95_2 hcz95_3 hcz95_4
            try clear hfz100_0 hfz100_1 hfz100_2 hfz100_3 hfz100_4
            try clear hfz102_0 hfz102_1 hfz102_2 hfz102_3 hfz102_4
            try clear hfz103_0 hfz103_1
            try clear hfz109_0 hfz109_1 hfz109_2 hfz109_3 hfz109_4
            try clear hfz111_0 hfz111_1 hfz111_2 hfz111_3 hfz111_4
            try clear hfz112_0 hfz112_1
            try clear hfz117_0 hfz117_1 hfz117_2 hfz117_3 hfz117_4
            try clear hfz119_0 hfz119_1 hfz119_2 hfz119_3 hfz119_4
            try clear hfz11_0 hfz11_1 hfz11_2 hfz11_3 hfz11_4
            try clear hfz15_0 hfz15_1 hfz15_2 hfz15_3 hfz15_4
            try clear hfz17_0 hfz17_1 hfz17_2 hfz17_3 hfz17_4
            try clear hfz22_0 hfz22_1 hfz22_2 hfz22_3 hfz22_4
            try clear hfz24_0 hfz24_1 hfz24_2 hfz24_3 hfz24_4
            try clear hfz27_0 hfz27_1 hfz27_2 hfz27_3 hfz27_4
            try clear hfz29_0 hfz29_1 hfz29_2 hfz29_3 hfz29_4
            try clear hfz32_0 hfz32_1 hfz32_2 hfz32_3 hfz32_4
            try clear hfz34_0 hfz34_1 hfz34_2 hfz34_3 hfz34_4
            try clear hfz39_0 hfz39_1
            try clear hfz45_0 hfz45_1 hfz45_2 hfz45_3 hfz45_4
            try clear hfz47_0 hfz47_1
            try clear hfz53_0 hfz53_1 hfz53_2 hfz53_3 hfz53_4
            try clear hfz55_0 hfz55_1 hfz55_2 hfz55_3 hfz55_4
            try clear hfz56_0 hfz56_1
            try clear hfz62_0 hfz62_1 hfz62_2 hfz62_3 hfz62_4
            try clear hfz64_0 hfz64_1 hfz64_2 hfz64_3 hfz64_4
            try clear hfz65_0 hfz65_1
            try clear hfz70_0 hfz70_1 hfz70_2 hfz70_3 hfz70_4
            try clear hfz72_0 hfz72_1 hfz72_2 hfz72_3 hfz72_4
            try clear hfz79_0 hfz79_1 hfz79_2 hfz79_3 hfz79_4
            try clear hfz83_0 hfz83_1 hfz83_2 hfz83_3 hfz83_4
            try clear hfz85_0 hfz85_1 hfz85_2 hfz85_3 hfz85_4
            try clear hfz93_0 hfz93_1 hfz93_2 hfz93_3 hfz93_4
            try clear hfz95_0 hfz95_1 hfz95_2 hfz95_3 hfz95_4
            try clear p2
            try clear p6
            try clear p64
            obtain ⟨kq, x9_113, rfl, HA, HJ113, BK195, BK196, BK197, HB⟩ := hcut
            cases kq with
            | zero => exact absurd HA.out (by simp [spec_l4K_sum.j2])
            | succ kj113 =>
             have H := HA.out
             clear HA
             simp only [spec_l4K_sum.j2] at H
             have HC121 := Aside0.mk H
             clear H
             go_upto_region 27 with (fail)
             go_cut [148] (fun v148 wc => ∃ (kq : Nat) (x148_120 : Bool), v148 = .bool x148_120 ∧ Aside0 (spec_l4K_sum.j3 kq x8_66 x9_113 x148_120 a0_0 a0_1 a1_0 false a1_2 x197003_66 a1_4 a2_0 false a2_2 x198003_66 x198004_66 = some r) ∧ Aside0 (kq ≤ kj113) ∧ Aside0 (wc.heap[gb195]? = some (.cells #[.int .u64 a0_0, .int .u64 a0_1] 52 (0, 0))) ∧ Aside0 (wc.heap[gb196]? = some (.cells #[.bool a1_0, .bool false, .bool a1_2, .int .u64 x197003_66, .int .i64 a1_4] 56 (0, 0))) ∧ Aside0 (wc.heap[gb197]? = some (.cells #[.bool a2_0, .bool false, .bool a2_2, .int .u64 x198003_66, .int .i64 x198004_66] 56 (0, 0))) ∧ Aside0 (Below w.heap.size w wc))
             case first =>
              have H := HC121.out
              clear HC121
              by_cases c122 : x9_113 = 0
              ·
               rw [if_pos c122] at H
               have c122b0 : (x9_113 == 0) = true := beq_iff_eq.mpr c122
               have c122b1 : (x9_113 != 0) = false := bne_eq_false_iff_eq.mpr c122
               clear c122
               (first | rw [c122b0] | (simp only [i64_w, i32_w]; rw [c122b0]) | skip)
               have H' := Aside0.mk H
               clear H
               go_wp2
               go_meet
               case rel => exact ⟨_, (!x8_66), (by first | rfl | (simp; done) | (simp [*]; done)), H', ⟨by have := HJ3.out; have := HJ66.out; have := HJ113.out; first | omega | exact Nat.le_refl _⟩, ⟨bk BK195.out⟩, ⟨bk BK196.out⟩, ⟨bk BK197.out⟩, ⟨bw HB.out⟩⟩
              ·
               rw [if_neg c122] at H
               have c122b0 : (x9_113 == 0) = false := beq_eq_false_iff_ne.mpr c122
               have c122b1 : (x9_113 != 0) = true := bne_iff_ne.mpr c122
               (first | rw [c122b0] | (simp only [i64_w, i32_w]; rw [c122b0]) | skip)
               have H' := Aside0.mk H
               clear H
               go_wp2
               go_meet
               case rel => exact ⟨_, (false), (by first | rfl | (simp; done) | (simp [*]; done)), H', ⟨by have := HJ3.out; have := HJ66.out; have := HJ113.out; first | omega | exact Nat.le_refl _⟩, ⟨bk BK195.out⟩, ⟨bk BK196.out⟩, ⟨bk BK197.out⟩, ⟨bw HB.out⟩⟩
             case rest =>
              clear HC121
              try clear c1
              try clear c2
              try clear p2
              try clear c3
              try clear c4
              try clear c5
              try clear c6
              try clear p6
              try clear c7
              try clear c8
              try clear c9
              try clear c10
              try clear c11
              try clear c12
              try clear c13
              try clear c14
              try clear c16
              try clear c18
              try clear c19
              try clear c20
              try clear c21
              try clear c23
              try clear c25
              try clear c26
              try clear c28
              try clear c30
              try clear c31
              try clear c33
              try clear c35
              try clear c37
              try clear c38
              try clear c41
              try clear c43
              try clear c44
              try clear c46
              try clear c48
              try clear c49
              try clear c50
              try clear c51
              try clear c52
              try clear c54
              try clear c58
              try clear c58b0
              try clear c60
              try clear c61
              try clear c63
              try clear p64
              try clear c66
              try clear c68
              try clear c69
              try clear c71
              try clear c73
              try clear c73b0
              try clear c75
              try clear c75b0
              try clear c75b1
              try clear c77
              try clear c78
              try clear c80
              try clear c80b0
              try clear c81
              try clear c82
              try clear c84
              try clear c87
              try clear c87b0
              try clear c87b1
              try clear c89
              try clear c89b0
              try clear c91
              try clear c92
              try clear c94
              try clear c96
              try clear c96b0
              try clear c96b1
              try clear c96b2
              try clear c98
              try clear c99
              try clear c101
              try clear c105
              try clear c105b0
              try clear c107
              try clear c108
              try clear c110
              try clear c115
              try clear c116
              try clear c118
              try clear c120
              try clear c122
              try clear c122b0
              try clear c122b1
              try clear hcz100_0 hcz100_1 hcz100_2 hcz100_3 hcz100_4
              try clear hcz102_0 hcz102_1 hcz102_2 hcz102_3 hcz102_4
              try clear hcz103_0 hcz103_1
              try clear hcz109_0 hcz109_1 hcz109_2 hcz109_3 hcz109_4
              try clear hcz111_0 hcz111_1 hcz111_2 hcz111_3 hcz111_4
              try clear hcz112_0 hcz112_1
              try clear hcz117_0 hcz117_1 hcz117_2 hcz117_3 hcz117_4
              try clear hcz119_0 hcz119_1 hcz119_2 hcz119_3 hcz119_4
              try clear hcz11_0 hcz11_1 hcz11_2 hcz11_3 hcz11_4
              try clear hcz15_0 hcz15_1 hcz15_2 hcz15_3 hcz15_4
              try clear hcz17_0 hcz17_1 hcz17_2 hcz17_3 hcz17_4
              try clear hcz22_0 hcz22_1 hcz22_2 hcz22_3 hcz22_4
              try clear hcz24_0 hcz24_1 hcz24_2 hcz24_3 hcz24_4
              try clear hcz27_0 hcz27_1 hcz27_2 hcz27_3 hcz27_4
              try clear hcz29_0 hcz29_1 hcz29_2 hcz29_3 hcz29_4
              try clear hcz32_0 hcz32_1 hcz32_2 hcz32_3 hcz32_4
              try clear hcz34_0 hcz34_1 hcz34_2 hcz34_3 hcz34_4
              try clear hcz39_0 hcz39_1
              try clear hcz45_0 hcz45_1 hcz45_2 hcz45_3 hcz45_4
              try clear hcz47_0 hcz47_1
              try clear hcz53_0 hcz53_1 hcz53_2 hcz53_3 hcz53_4
              try clear hcz55_0 hcz55_1 hcz55_2 hcz55_3 hcz55_4
              try clear hcz56_0 hcz56_1
              try clear hcz62_0 hcz62_1 hcz62_2 hcz62_3 hcz62_4
              try clear hcz64_0 hcz64_1 hcz64_2 hcz64_3 hcz64_4
              try clear hcz65_0 hcz65_1
              try clear hcz70_0 hcz70_1 hcz70_2 hcz70_3 hcz70_4
              try clear hcz72_0 hcz72_1 hcz72_2 hcz72_3 hcz72_4
              try clear hcz79_0 hcz79_1 hcz79_2 hcz79_3 hcz79_4
              try clear hcz83_0 hcz83_1 hcz83_2 hcz83_3 hcz83_4
              try clear hcz85_0 hcz85_1 hcz85_2 hcz85_3 hcz85_4
              try clear hcz93_0 hcz93_1 hcz93_2 hcz93_3 hcz93_4
              try clear hcz95_0 hcz95_1 hcz95_2 hcz95_3 hcz95_4
              try clear hfz100_0 hfz100_1 hfz100_2 hfz100_3 hfz100_4
              try clear hfz102_0 hfz102_1 hfz102_2 hfz102_3 hfz102_4
              try clear hfz103_0 hfz103_1
              try clear hfz109_0 hfz109_1 hfz109_2 hfz109_3 hfz109_4
              try clear hfz111_0 hfz111_1 hfz111_2 hfz111_3 hfz111_4
              try clear hfz112_0 hfz112_1
              try clear hfz117_0 hfz117_1 hfz117_2 hfz117_3 hfz117_4
              try clear hfz119_0 hfz119_1 hfz119_2 hfz119_3 hfz119_4
              try clear hfz11_0 hfz11_1 hfz11_2 hfz11_3 hfz11_4
              try clear hfz15_0 hfz15_1 hfz15_2 hfz15_3 hfz15_4
              try clear hfz17_0 hfz17_1 hfz17_2 hfz17_3 hfz17_4
              try clear hfz22_0 hfz22_1 hfz22_2 hfz22_3 hfz22_4
              try clear hfz24_0 hfz24_1 hfz24_2 hfz24_3 hfz24_4
              try clear hfz27_0 hfz27_1 hfz27_2 hfz27_3 hfz27_4
              try clear hfz29_0 hfz29_1 hfz29_2 hfz29_3 hfz29_4
              try clear hfz32_0 hfz32_1 hfz32_2 hfz32_3 hfz32_4
              try clear hfz34_0 hfz34_1 hfz34_2 hfz34_3 hfz34_4
              try clear hfz39_0 hfz39_1
              try clear hfz45_0 hfz45_1 hfz45_2 hfz45_3 hfz45_4
              try clear hfz47_0 hfz47_1
              try clear hfz53_0 hfz53_1 hfz53_2 hfz53_3 hfz53_4
              try clear hfz55_0 hfz55_1 hfz55_2 hfz55_3 hfz55_4
              try clear hfz56_0 hfz56_1
              try clear hfz62_0 hfz62_1 hfz62_2 hfz62_3 hfz62_4
              try clear hfz64_0 hfz64_1 hfz64_2 hfz64_3 hfz64_4
              try clear hfz65_0 hfz65_1
              try clear hfz70_0 hfz70_1 hfz70_2 hfz70_3 hfz70_4
              try clear hfz72_0 hfz72_1 hfz72_2 hfz72_3 hfz72_4
              try clear hfz79_0 hfz79_1 hfz79_2 hfz79_3 hfz79_4
              try clear hfz83_0 hfz83_1 hfz83_2 hfz83_3 hfz83_4
              try clear hfz85_0 hfz85_1 hfz85_2 hfz85_3 hfz85_4
              try clear hfz93_0 hfz93_1 hfz93_2 hfz93_3 hfz93_4
              try clear hfz95_0 hfz95_1 hfz95_2 hfz95_3 hfz95_4
              try clear p2
              try clear p6
              try clear p64
              obtain ⟨kq, x148_120, rfl, HA, HJ120, BK195, BK196, BK197, HB⟩ := hcut
              cases kq with
              | zero => exact absurd HA.out (by simp [spec_l4K_sum.j3])
              | succ kj120 =>
               have H := HA.out
               clear HA
               simp only [spec_l4K_sum.j3] at H
               by_cases c123 : x148_120 = true
               ·
                subst c123
                have H1 : ((spec_l4K_sign.f a0_0 a0_1 false).bind fun t204 => (some t204)) = some r := by rw [if_pos rfl] at H; exact H
                clear H
                have H := H1
                clear H1
                replace H := Option.bind_eq_some_iff.mp H
                obtain ⟨t204, A1240, H⟩ := H
                replace H : (some t204) = some r := H
                have A124 := Aside0.mk A1240
                clear A1240
                obtain rfl := Option.some.inj H
                simp only [Option.some.injEq, Prod.mk.injEq] at H
                obtain ⟨rfl⟩ := H
                have hnb125 := NB195_196.out
                have hnc125 := NB196_195.out
                have hnb126 := NB195_197.out
                have hnc126 := NB197_195.out
                have hcz127_0 : wc.cell? ⟨gb195, 0, none⟩ = some (.int .u64 a0_0) := (blk_cell BK195.out 0).trans rfl
                have hcz127_1 : wc.cell? ⟨gb195, 1, none⟩ = some (.int .u64 a0_1) := (blk_cell BK195.out 1).trans rfl
                have hfz127_0 := blk_frozen BK195.out 0
                have hfz127_1 := blk_frozen BK195.out 1
                go_wp2_with (first | ((with_reducible refine gate_callee (f := 83) rfl ?_); refine goesL_ (some 150) rfl rfl Try.func83 (by kernel_rfl) rfl #[.agg #[.int .u64 a0_0, .int .u64 a0_1], .bool false] rfl ar ?_; (with_reducible refine (spec_l4K_sign.calls a0_0 a0_1 false t204 _ A124.out).mono ?_); rintro e w128 ⟨rfl, hb⟩; refine ⟨_, rfl, ?_⟩; have n0_ := Aside0.mk (blk_below (g := gb195) (o := .cells #[.int .u64 a0_0, .int .u64 a0_1] 52 (0, 0)) (bk BK195.out) hb); have n1_ := Aside0.mk (blk_below (g := gb196) (o := .cells #[.bool a1_0, .bool false, .bool a1_2, .int .u64 x197003_66, .int .i64 a1_4] 56 (0, 0)) (bk BK196.out) hb); have n2_ := Aside0.mk (blk_below (g := gb197) (o := .cells #[.bool a2_0, .bool false, .bool a2_2, .int .u64 x198003_66, .int .i64 x198004_66] 56 (0, 0)) (bk BK197.out) hb); have n3_ := Aside0.mk (below_step (bw HB.out) hb); clear BK195; clear BK196; clear BK197; clear HB; have BK195 := n0_; have BK196 := n1_; have BK197 := n2_; have HB := n3_; clear n0_ n1_ n2_ n3_; (try clear hb)))
                go_ret
                exact ⟨by first | rfl | (simp [errW_none, errW_some] <;> rfl) | (simp [*, errW_none, errW_some] <;> rfl), bw HB.out⟩
               ·
                replace c123 := Bool.eq_false_iff.mpr c123
                subst c123
                have H1 : ((spec_l4K_round.f kj120 a0_0 a0_1 a1_0 x9_113 x198004_66 x8_66).bind fun t205 => (some t205)) = some r := by rw [if_neg (show ¬ (false = true) by decide)] at H; exact H
                clear H
                have H := H1
                clear H1
                replace H := Option.bind_eq_some_iff.mp H
                obtain ⟨t205, A1290, H⟩ := H
                replace H : (some t205) = some r := H
                have A129 := Aside0.mk A1290
                clear A1290
                obtain rfl := Option.some.inj H
                simp only [Option.some.injEq, Prod.mk.injEq] at H
                obtain ⟨rfl⟩ := H
                have hnb130 := NB195_196.out
                have hnc130 := NB196_195.out
                have hnb131 := NB195_197.out
                have hnc131 := NB197_195.out
                have hcz132_0 : wc.cell? ⟨gb195, 0, none⟩ = some (.int .u64 a0_0) := (blk_cell BK195.out 0).trans rfl
                have hcz132_1 : wc.cell? ⟨gb195, 1, none⟩ = some (.int .u64 a0_1) := (blk_cell BK195.out 1).trans rfl
                have hfz132_0 := blk_frozen BK195.out 0
                have hfz132_1 := blk_frozen BK195.out 1
                have hnb133 := NB196_197.out
                have hnc133 := NB197_196.out
                have hcz134_0 : wc.cell? ⟨gb196, 0, none⟩ = some (.bool a1_0) := (blk_cell BK196.out 0).trans rfl
                have hcz134_1 : wc.cell? ⟨gb196, 1, none⟩ = some (.bool false) := (blk_cell BK196.out 1).trans rfl
                have hcz134_2 : wc.cell? ⟨gb196, 2, none⟩ = some (.bool a1_2) := (blk_cell BK196.out 2).trans rfl
                have hcz134_3 : wc.cell? ⟨gb196, 3, none⟩ = some (.int .u64 x197003_66) := (blk_cell BK196.out 3).trans rfl
                have hcz134_4 : wc.cell? ⟨gb196, 4, none⟩ = some (.int .i64 a1_4) := (blk_cell BK196.out 4).trans rfl
                have hfz134_0 := blk_frozen BK196.out 0
                have hfz134_1 := blk_frozen BK196.out 1
                have hfz134_2 := blk_frozen BK196.out 2
                have hfz134_3 := blk_frozen BK196.out 3
                have hfz134_4 := blk_frozen BK196.out 4
                have hcz135_0 : wc.cell? ⟨gb197, 0, none⟩ = some (.bool a2_0) := (blk_cell BK197.out 0).trans rfl
                have hcz135_1 : wc.cell? ⟨gb197, 1, none⟩ = some (.bool false) := (blk_cell BK197.out 1).trans rfl
                have hcz135_2 : wc.cell? ⟨gb197, 2, none⟩ = some (.bool a2_2) := (blk_cell BK197.out 2).trans rfl
                have hcz135_3 : wc.cell? ⟨gb197, 3, none⟩ = some (.int .u64 x198003_66) := (blk_cell BK197.out 3).trans rfl
                have hcz135_4 : wc.cell? ⟨gb197, 4, none⟩ = some (.int .i64 x198004_66) := (blk_cell BK197.out 4).trans rfl
                have hfz135_0 := blk_frozen BK197.out 0
                have hfz135_1 := blk_frozen BK197.out 1
                have hfz135_2 := blk_frozen BK197.out 2
                have hfz135_3 := blk_frozen BK197.out 3
                have hfz135_4 := blk_frozen BK197.out 4
                go_wp2_with (first | ((with_reducible refine gate_callee (f := 50) rfl ?_); refine goesL_ (some 158) rfl rfl Try.func50 (by kernel_rfl) rfl #[.agg #[.int .u64 a0_0, .int .u64 a0_1], .bool a1_0, .int .u64 x9_113, .int .i64 x198004_66, .bool x8_66] rfl ar ?_; (with_reducible refine (spec_l4K_round.calls kj120 a0_0 a0_1 a1_0 x9_113 x198004_66 x8_66 t205 _ A129.out).mono ?_); rintro e w136 ⟨rfl, hb⟩; refine ⟨_, rfl, ?_⟩; have n0_ := Aside0.mk (blk_below (g := gb195) (o := .cells #[.int .u64 a0_0, .int .u64 a0_1] 52 (0, 0)) (bk BK195.out) hb); have n1_ := Aside0.mk (blk_below (g := gb196) (o := .cells #[.bool a1_0, .bool false, .bool a1_2, .int .u64 x197003_66, .int .i64 a1_4] 56 (0, 0)) (bk BK196.out) hb); have n2_ := Aside0.mk (blk_below (g := gb197) (o := .cells #[.bool a2_0, .bool false, .bool a2_2, .int .u64 x198003_66, .int .i64 x198004_66] 56 (0, 0)) (bk BK197.out) hb); have n3_ := Aside0.mk (below_step (bw HB.out) hb); clear BK195; clear BK196; clear BK197; clear HB; have BK195 := n0_; have BK196 := n1_; have BK197 := n2_; have HB := n3_; clear n0_ n1_ n2_ n3_; (try clear hb)))
                go_ret
                exact ⟨by first | rfl | (simp [errW_none, errW_some] <;> rfl) | (simp [*, errW_none, errW_some] <;> rfl), bw HB.out⟩

end Go.Proofs.Ytdeogandkgiggaa.Q

namespace Go.Proofs.Ytdeogandkgiggaa.Q
open Go.RowKit Go.Proofs.YtdeogandkgiggaaW.PrintWords Go.Proofs.YtdeogandkgiggaaW.PrintLast Go.Proofs.YtdeogandkgiggaaW.PrintMore
attribute [local go_sem] max2_int min2_int max_two min_two max_three min_three max_four min_four   -- for this text's walks alone
set_option linter.unusedVariables false
set_option linter.unusedSimpArgs false

/-! ### impl_format_sum: function 67 -/
mutual
def impl_format_sum.j0 : Nat → Int → Int → Bool → Bool → Bool → Int → Int → Bool → Bool → Bool → Int → Int → Option (Int)
 | 0, _, _, _, _, _, _, _, _, _, _, _, _ => none
 | k + 1, x222000, x222001, x223000, x223001, x223002, x223003, x223004, x224000, x224001, x224002, x224003, x224004 => if (wrap64 (x223004 - x224004)) ≤ 35 then (if 0 ≤ (wrap64 (x223004 - x224004)) then (if (x223000 == x224000) = true then ((impl_format_round.f k x222000 x222001 x223000 (IntKind.u64.wrap ((shl .u64 x223003 (wrap64 (x223004 - x224004))) + x224003)) x224004 false).bind fun t224 => (some t224)) else (if (shl .u64 x223003 (wrap64 (x223004 - x224004))) > x224003 then ((impl_format_round.f k x222000 x222001 x223000 (IntKind.u64.wrap ((shl .u64 x223003 (wrap64 (x223004 - x224004))) - x224003)) x224004 false).bind fun t225 => (some t225)) else (if (shl .u64 x223003 (wrap64 (x223004 - x224004))) < x224003 then ((impl_format_round.f k x222000 x222001 x224000 (IntKind.u64.wrap (x224003 - (shl .u64 x223003 (wrap64 (x223004 - x224004))))) x224004 false).bind fun t226 => (some t226)) else (some 0)))) else (none)) else (if (wrap64 ((wrap64 (x223004 - x224004)) - 35)) < 64 then (if 0 ≤ (wrap64 ((wrap64 (x223004 - x224004)) - 35)) then (impl_format_sum.j1 k (IntKind.u64.wrap (x223003 * 34359738368)) (shr .u64 x224003 (wrap64 ((wrap64 (x223004 - x224004)) - 35))) ((shl .u64 (shr .u64 x224003 (wrap64 ((wrap64 (x223004 - x224004)) - 35))) (wrap64 ((wrap64 (x223004 - x224004)) - 35))) != x224003) x222000 x222001 x223000 x223001 x223002 x223003 x223004 x224000 x224001 x224002 x224003 x224004) else (none)) else (impl_format_sum.j1 k (IntKind.u64.wrap (x223003 * 34359738368)) 0 (x224003 != 0) x222000 x222001 x223000 x223001 x223002 x223003 x223004 x224000 x224001 x224002 x224003 x224004))
def impl_format_sum.j1 : Nat → Int → Int → Bool → Int → Int → Bool → Bool → Bool → Int → Int → Bool → Bool → Bool → Int → Int → Option (Int)
 | 0, _, _, _, _, _, _, _, _, _, _, _, _, _, _, _ => none
 | k + 1, x8, x10, x11, x222000, x222001, x223000, x223001, x223002, x223003, x223004, x224000, x224001, x224002, x224003, x224004 => if (x223000 == x224000) = true then ((impl_format_round.f k x222000 x222001 x223000 (IntKind.u64.wrap (x8 + x10)) (wrap64 (x223004 - 35)) x11).bind fun t227 => (some t227)) else (if x11 = true then ((impl_format_round.f k x222000 x222001 x223000 (IntKind.u64.wrap ((IntKind.u64.wrap (x8 - x10)) - 1)) (wrap64 (x223004 - 35)) x11).bind fun t228 => (some t228)) else ((impl_format_round.f k x222000 x222001 x223000 (IntKind.u64.wrap (x8 - x10)) (wrap64 (x223004 - 35)) x11).bind fun t229 => (some t229)))
end
def impl_format_sum.f (k : Nat) (a0_0 : Int) (a0_1 : Int) (a1_0 : Bool) (a1_1 : Bool) (a1_2 : Bool) (a1_3 : Int) (a1_4 : Int) (a2_0 : Bool) (a2_1 : Bool) (a2_2 : Bool) (a2_3 : Int) (a2_4 : Int) : Option (Int) := if a1_4 < a2_4 then (impl_format_sum.j0 k a0_0 a0_1 a2_0 a2_1 a2_2 a2_3 a2_4 a1_0 a1_1 a1_2 a1_3 a1_4) else (impl_format_sum.j0 k a0_0 a0_1 a1_0 a1_1 a1_2 a1_3 a1_4 a2_0 a2_1 a2_2 a2_3 a2_4)
theorem impl_format_sum.mono_l : ∀ k, (∀ y0 y1 y2 y3 y4 y5 y6 y7 y8 y9 y10 y11, LeO (impl_format_sum.j0 k y0 y1 y2 y3 y4 y5 y6 y7 y8 y9 y10 y11) (impl_format_sum.j0 (k + 1) y0 y1 y2 y3 y4 y5 y6 y7 y8 y9 y10 y11)) ∧ (∀ y0 y1 y2 y3 y4 y5 y6 y7 y8 y9 y10 y11 y12 y13 y14, LeO (impl_format_sum.j1 k y0 y1 y2 y3 y4 y5 y6 y7 y8 y9 y10 y11 y12 y13 y14) (impl_format_sum.j1 (k + 1) y0 y1 y2 y3 y4 y5 y6 y7 y8 y9 y10 y11 y12 y13 y14))
 | 0 => ⟨fun _ _ _ _ _ _ _ _ _ _ _ _ r h => by simp [impl_format_sum.j0] at h, fun _ _ _ _ _ _ _ _ _ _ _ _ _ _ _ r h => by simp [impl_format_sum.j1] at h⟩
 | k + 1 => by
  obtain ⟨ih0, ih1⟩ := impl_format_sum.mono_l k
  refine ⟨?_, ?_⟩
  ·
   intro y0 y1 y2 y3 y4 y5 y6 y7 y8 y9 y10 y11
   unfold impl_format_sum.j0
   repeat' first
   | (with_reducible exact ih0 _ _ _ _ _ _ _ _ _ _ _ _)
   | (with_reducible exact ih1 _ _ _ _ _ _ _ _ _ _ _ _ _ _ _)
   | (with_reducible exact impl_format_round.mono _ _ _ _ _ _ _)
   | (with_reducible exact LeO.refl _)
   | (with_reducible exact LeO.none _)
   | (with_reducible refine LeO.ite ?_ ?_)
   | (with_reducible refine LeO.bind ?_ (fun _ => ?_))
   | exact ih0 _ _ _ _ _ _ _ _ _ _ _ _
   | exact ih1 _ _ _ _ _ _ _ _ _ _ _ _ _ _ _
   | exact impl_format_round.mono _ _ _ _ _ _ _
   | exact LeO.none _
   | refine LeO.ite ?_ ?_
   | refine LeO.bind ?_ (fun _ => ?_)
  ·
   intro y0 y1 y2 y3 y4 y5 y6 y7 y8 y9 y10 y11 y12 y13 y14
   unfold impl_format_sum.j1
   repeat' first
   | (with_reducible exact ih0 _ _ _ _ _ _ _ _ _ _ _ _)
   | (with_reducible exact ih1 _ _ _ _ _ _ _ _ _ _ _ _ _ _ _)
   | (with_reducible exact impl_format_round.mono _ _ _ _ _ _ _)
   | (with_reducible exact LeO.refl _)
   | (with_reducible exact LeO.none _)
   | (with_reducible refine LeO.ite ?_ ?_)
   | (with_reducible refine LeO.bind ?_ (fun _ => ?_))
   | exact ih0 _ _ _ _ _ _ _ _ _ _ _ _
   | exact ih1 _ _ _ _ _ _ _ _ _ _ _ _ _ _ _
   | exact impl_format_round.mono _ _ _ _ _ _ _
   | exact LeO.none _
   | refine LeO.ite ?_ ?_
   | refine LeO.bind ?_ (fun _ => ?_)
theorem impl_format_sum.mono : ∀ a0 a1 a2 a3 a4 a5 a6 a7 a8 a9 a10 a11 k, LeO (impl_format_sum.f k a0 a1 a2 a3 a4 a5 a6 a7 a8 a9 a10 a11) (impl_format_sum.f (k + 1) a0 a1 a2 a3 a4 a5 a6 a7 a8 a9 a10 a11) := by
 intro a0 a1 a2 a3 a4 a5 a6 a7 a8 a9 a10 a11 k
 obtain ⟨ih0, ih1⟩ := impl_format_sum.mono_l k
 unfold impl_format_sum.f
 repeat' first
   | (with_reducible exact ih0 _ _ _ _ _ _ _ _ _ _ _ _)
   | (with_reducible exact ih1 _ _ _ _ _ _ _ _ _ _ _ _ _ _ _)
   | (with_reducible exact impl_format_round.mono _ _ _ _ _ _ _)
   | (with_reducible exact LeO.refl _)
   | (with_reducible exact LeO.none _)
   | (with_reducible refine LeO.ite ?_ ?_)
   | (with_reducible refine LeO.bind ?_ (fun _ => ?_))
   | exact ih0 _ _ _ _ _ _ _ _ _ _ _ _
   | exact ih1 _ _ _ _ _ _ _ _ _ _ _ _ _ _ _
   | exact impl_format_round.mono _ _ _ _ _ _ _
   | exact LeO.none _
   | refine LeO.ite ?_ ?_
   | refine LeO.bind ?_ (fun _ => ?_)
set_option maxHeartbeats 8000000 in
set_option maxRecDepth 100000 in
theorem impl_format_sum.calls (k : Nat) (a0_0 : Int) (a0_1 : Int) (a1_0 : Bool) (a1_1 : Bool) (a1_2 : Bool) (a1_3 : Int) (a1_4 : Int) (a2_0 : Bool) (a2_1 : Bool) (a2_2 : Bool) (a2_3 : Int) (a2_4 : Int) (r : Int) (w : World) (h : impl_format_sum.f k a0_0 a0_1 a1_0 a1_1 a1_2 a1_3 a1_4 a2_0 a2_1 a2_2 a2_3 a2_4 = some r) :
  Calls Try.prog 67 #[.agg #[.int .i64 a0_0, .int .i64 a0_1], .agg #[.bool a1_0, .bool a1_1, .bool a1_2, .int .u64 a1_3, .int .i64 a1_4], .agg #[.bool a2_0, .bool a2_1, .bool a2_2, .int .u64 a2_3, .int .i64 a2_4]] w fun e w' => e = .returned (.int .u32 r) ∧ Below w.heap.size w w' := by
 have hu62 := Try.underlying62
 have hu66 := Try.underlying66
 have HB := Aside0.mk (Below.refl w.heap.size w)
 have H : (if a1_4 < a2_4 then (impl_format_sum.j0 k a0_0 a0_1 a2_0 a2_1 a2_2 a2_3 a2_4 a1_0 a1_1 a1_2 a1_3 a1_4) else (impl_format_sum.j0 k a0_0 a0_1 a1_0 a1_1 a1_2 a1_3 a1_4 a2_0 a2_1 a2_2 a2_3 a2_4)) = some r := h
 clear h
 have HC4 := Aside0.mk H
 clear H
 go_enter Try.func67, Try.ntmps67
 go_upto_if 16 with (first | ((with_reducible refine gate_dst (N := 3) rfl ?_); refine box_event ?hg (N := 3) ?hd (cs := #[.int .i64 a0_0, .int .i64 a0_1]) (t := 62) ?hr ?_; (case hd => rfl); (case hg => rfl); (case hr => first | (go_simp; done) | (go_simp; rfl)); intro gb221 hg w5 hbox hb; have n0_ := Aside0.mk (below_step (bw HB.out) hb); have n1_ := Aside0.mk (hbox); have n2_ := Aside0.mk ((by rw [hg]; exact (below_size (bw HB.out)) : w.heap.size ≤ gb221)); have n3_ := Aside0.mk ((by rw [hg]; exact (below_size (bw HB.out)) : w.heap.size ≤ gb221)); clear HB; have HB := n0_; have BK221 := n1_; have GW221 := n2_; have GE221 := n3_; clear n0_ n1_ n2_ n3_; clear hb hbox hg) | ((with_reducible refine gate_dst (N := 4) rfl ?_); refine box_event ?hg (N := 4) ?hd (cs := #[.bool a1_0, .bool a1_1, .bool a1_2, .int .u64 a1_3, .int .i64 a1_4]) (t := 66) ?hr ?_; (case hd => rfl); (case hg => rfl); (case hr => first | (go_simp; done) | (go_simp; rfl)); intro gb222 hg w6 hbox hb; have n0_ := Aside0.mk (blk_below (g := gb221) (o := .cells #[.int .i64 a0_0, .int .i64 a0_1] 62 (0, 0)) (bk BK221.out) hb); have n1_ := Aside0.mk (below_step (bw HB.out) hb); have n2_ := Aside0.mk (hbox); have n3_ := Aside0.mk ((by rw [hg]; exact (below_size (bw HB.out)) : w.heap.size ≤ gb222)); have n4_ := Aside0.mk ((by rw [hg]; exact (below_size (bw HB.out)) : w.heap.size ≤ gb222)); have n5_ := Aside0.mk ((by rw [hg]; exact Nat.ne_of_lt (blk_lt (g := gb221) (o := .cells #[.int .i64 a0_0, .int .i64 a0_1] 62 (0, 0)) (bk BK221.out)) : gb221 ≠ gb222)); have n6_ := Aside0.mk ((by rw [hg]; exact Nat.ne_of_gt (blk_lt (g := gb221) (o := .cells #[.int .i64 a0_0, .int .i64 a0_1] 62 (0, 0)) (bk BK221.out)) : gb222 ≠ gb221)); clear BK221; clear HB; have BK221 := n0_; have HB := n1_; have BK222 := n2_; have GW222 := n3_; have GE222 := n4_; have NB221_222 := n5_; have NB222_221 := n6_; clear n0_ n1_ n2_ n3_ n4_ n5_ n6_; clear hb hbox hg) | ((with_reducible refine gate_dst (N := 5) rfl ?_); refine box_event ?hg (N := 5) ?hd (cs := #[.bool a2_0, .bool a2_1, .bool a2_2, .int .u64 a2_3, .int .i64 a2_4]) (t := 66) ?hr ?_; (case hd => rfl); (case hg => rfl); (case hr => first | (go_simp; done) | (go_simp; rfl)); intro gb223 hg w7 hbox hb; have n0_ := Aside0.mk (blk_below (g := gb221) (o := .cells #[.int .i64 a0_0, .int .i64 a0_1] 62 (0, 0)) (bk BK221.out) hb); have n1_ := Aside0.mk (blk_below (g := gb222) (o := .cells #[.bool a1_0, .bool a1_1, .bool a1_2, .int .u64 a1_3, .int .i64 a1_4] 66 (0, 0)) (bk BK222.out) hb); have n2_ := Aside0.mk (below_step (bw HB.out) hb); have n3_ := Aside0.mk (hbox); have n4_ := Aside0.mk ((by rw [hg]; exact (below_size (bw HB.out)) : w.heap.size ≤ gb223)); have n5_ := Aside0.mk ((by rw [hg]; exact (below_size (bw HB.out)) : w.heap.size ≤ gb223)); have n6_ := Aside0.mk ((by rw [hg]; exact Nat.ne_of_lt (blk_lt (g := gb221) (o := .cells #[.int .i64 a0_0, .int .i64 a0_1] 62 (0, 0)) (bk BK221.out)) : gb221 ≠ gb223)); have n7_ := Aside0.mk ((by rw [hg]; exact Nat.ne_of_gt (blk_lt (g := gb221) (o := .cells #[.int .i64 a0_0, .int .i64 a0_1] 62 (0, 0)) (bk BK221.out)) : gb223 ≠ gb221)); have n8_ := Aside0.mk ((by rw [hg]; exact Nat.ne_of_lt (blk_lt (g := gb222) (o := .cells #[.bool a1_0, .bool a1_1, .bool a1_2, .int .u64 a1_3, .int .i64 a1_4] 66 (0, 0)) (bk BK222.out)) : gb222 ≠ gb223)); have n9_ := Aside0.mk ((by rw [hg]; exact Nat.ne_of_gt (blk_lt (g := gb222) (o := .cells #[.bool a1_0, .bool a1_1, .bool a1_2, .int .u64 a1_3, .int .i64 a1_4] 66 (0, 0)) (bk BK222.out)) : gb223 ≠ gb222)); clear BK221; clear BK222; clear HB; have BK221 := n0_; have BK222 := n1_; have HB := n2_; have BK223 := n3_; have GW223 := n4_; have GE223 := n5_; have NB221_223 := n6_; have NB223_221 := n7_; have NB222_223 := n8_; have NB223_222 := n9_; clear n0_ n1_ n2_ n3_ n4_ n5_ n6_ n7_ n8_ n9_; clear hb hbox hg; have hnb8 := NB222_221.out; have hnc8 := NB221_222.out; have hnb9 := NB222_223.out; have hnc9 := NB223_222.out; have hcz10_0 : w7.cell? ⟨gb222, 0, none⟩ = some (.bool a1_0) := (blk_cell BK222.out 0).trans rfl; have hcz10_1 : w7.cell? ⟨gb222, 1, none⟩ = some (.bool a1_1) := (blk_cell BK222.out 1).trans rfl; have hcz10_2 : w7.cell? ⟨gb222, 2, none⟩ = some (.bool a1_2) := (blk_cell BK222.out 2).trans rfl; have hcz10_3 : w7.cell? ⟨gb222, 3, none⟩ = some (.int .u64 a1_3) := (blk_cell BK222.out 3).trans rfl; have hcz10_4 : w7.cell? ⟨gb222, 4, none⟩ = some (.int .i64 a1_4) := (blk_cell BK222.out 4).trans rfl; have hfz10_0 := blk_frozen BK222.out 0; have hfz10_1 := blk_frozen BK222.out 1; have hfz10_2 := blk_frozen BK222.out 2; have hfz10_3 := blk_frozen BK222.out 3; have hfz10_4 := blk_frozen BK222.out 4; have hnb11 := NB223_221.out; have hnc11 := NB221_223.out; have hcz12_0 : w7.cell? ⟨gb223, 0, none⟩ = some (.bool a2_0) := (blk_cell BK223.out 0).trans rfl; have hcz12_1 : w7.cell? ⟨gb223, 1, none⟩ = some (.bool a2_1) := (blk_cell BK223.out 1).trans rfl; have hcz12_2 : w7.cell? ⟨gb223, 2, none⟩ = some (.bool a2_2) := (blk_cell BK223.out 2).trans rfl; have hcz12_3 : w7.cell? ⟨gb223, 3, none⟩ = some (.int .u64 a2_3) := (blk_cell BK223.out 3).trans rfl; have hcz12_4 : w7.cell? ⟨gb223, 4, none⟩ = some (.int .i64 a2_4) := (blk_cell BK223.out 4).trans rfl; have hfz12_0 := blk_frozen BK223.out 0; have hfz12_1 := blk_frozen BK223.out 1; have hfz12_2 := blk_frozen BK223.out 2; have hfz12_3 := blk_frozen BK223.out 3; have hfz12_4 := blk_frozen BK223.out 4))
 repeat (go_quiet (first | ((with_reducible refine gate_dst (N := 3) rfl ?_); refine box_event ?hg (N := 3) ?hd (cs := #[.int .i64 a0_0, .int .i64 a0_1]) (t := 62) ?hr ?_; (case hd => rfl); (case hg => rfl); (case hr => first | (go_simp; done) | (go_simp; rfl)); intro gb221 hg w5 hbox hb; have n0_ := Aside0.mk (below_step (bw HB.out) hb); have n1_ := Aside0.mk (hbox); have n2_ := Aside0.mk ((by rw [hg]; exact (below_size (bw HB.out)) : w.heap.size ≤ gb221)); have n3_ := Aside0.mk ((by rw [hg]; exact (below_size (bw HB.out)) : w.heap.size ≤ gb221)); clear HB; have HB := n0_; have BK221 := n1_; have GW221 := n2_; have GE221 := n3_; clear n0_ n1_ n2_ n3_; clear hb hbox hg) | ((with_reducible refine gate_dst (N := 4) rfl ?_); refine box_event ?hg (N := 4) ?hd (cs := #[.bool a1_0, .bool a1_1, .bool a1_2, .int .u64 a1_3, .int .i64 a1_4]) (t := 66) ?hr ?_; (case hd => rfl); (case hg => rfl); (case hr => first | (go_simp; done) | (go_simp; rfl)); intro gb222 hg w6 hbox hb; have n0_ := Aside0.mk (blk_below (g := gb221) (o := .cells #[.int .i64 a0_0, .int .i64 a0_1] 62 (0, 0)) (bk BK221.out) hb); have n1_ := Aside0.mk (below_step (bw HB.out) hb); have n2_ := Aside0.mk (hbox); have n3_ := Aside0.mk ((by rw [hg]; exact (below_size (bw HB.out)) : w.heap.size ≤ gb222)); have n4_ := Aside0.mk ((by rw [hg]; exact (below_size (bw HB.out)) : w.heap.size ≤ gb222)); have n5_ := Aside0.mk ((by rw [hg]; exact Nat.ne_of_lt (blk_lt (g := gb221) (o := .cells #[.int .i64 a0_0, .int .i64 a0_1] 62 (0, 0)) (bk BK221.out)) : gb221 ≠ gb222)); have n6_ := Aside0.mk ((by rw [hg]; exact Nat.ne_of_gt (blk_lt (g := gb221) (o := .cells #[.int .i64 a0_0, .int .i64 a0_1] 62 (0, 0)) (bk BK221.out)) : gb222 ≠ gb221)); clear BK221; clear HB; have BK221 := n0_; have HB := n1_; have BK222 := n2_; have GW222 := n3_; have GE222 := n4_; have NB221_222 := n5_; have NB222_221 := n6_; clear n0_ n1_ n2_ n3_ n4_ n5_ n6_; clear hb hbox hg) | ((with_reducible refine gate_dst (N := 5) rfl ?_); refine box_event ?hg (N := 5) ?hd (cs := #[.bool a2_0, .bool a2_1, .bool a2_2, .int .u64 a2_3, .int .i64 a2_4]) (t := 66) ?hr ?_; (case hd => rfl); (case hg => rfl); (case hr => first | (go_simp; done) | (go_simp; rfl)); intro gb223 hg w7 hbox hb; have n0_ := Aside0.mk (blk_below (g := gb221) (o := .cells #[.int .i64 a0_0, .int .i64 a0_1] 62 (0, 0)) (bk BK221.out) hb); have n1_ := Aside0.mk (blk_below (g := gb222) (o := .cells #[.bool a1_0, .bool a1_1, .bool a1_2, .int .u64 a1_3, .int .i64 a1_4] 66 (0, 0)) (bk BK222.out) hb); have n2_ := Aside0.mk (below_step (bw HB.out) hb); have n3_ := Aside0.mk (hbox); have n4_ := Aside0.mk ((by rw [hg]; exact (below_size (bw HB.out)) : w.heap.size ≤ gb223)); have n5_ := Aside0.mk ((by rw [hg]; exact (below_size (bw HB.out)) : w.heap.size ≤ gb223)); have n6_ := Aside0.mk ((by rw [hg]; exact Nat.ne_of_lt (blk_lt (g := gb221) (o := .cells #[.int .i64 a0_0, .int .i64 a0_1] 62 (0, 0)) (bk BK221.out)) : gb221 ≠ gb223)); have n7_ := Aside0.mk ((by rw [hg]; exact Nat.ne_of_gt (blk_lt (g := gb221) (o := .cells #[.int .i64 a0_0, .int .i64 a0_1] 62 (0, 0)) (bk BK221.out)) : gb223 ≠ gb221)); have n8_ := Aside0.mk ((by rw [hg]; exact Nat.ne_of_lt (blk_lt (g := gb222) (o := .cells #[.bool a1_0, .bool a1_1, .bool a1_2, .int .u64 a1_3, .int .i64 a1_4] 66 (0, 0)) (bk BK222.out)) : gb222 ≠ gb223)); have n9_ := Aside0.mk ((by rw [hg]; exact Nat.ne_of_gt (blk_lt (g := gb222) (o := .cells #[.bool a1_0, .bool a1_1, .bool a1_2, .int .u64 a1_3, .int .i64 a1_4] 66 (0, 0)) (bk BK222.out)) : gb223 ≠ gb222)); clear BK221; clear BK222; clear HB; have BK221 := n0_; have BK222 := n1_; have HB := n2_; have BK223 := n3_; have GW223 := n4_; have GE223 := n5_; have NB221_223 := n6_; have NB223_221 := n7_; have NB222_223 := n8_; have NB223_222 := n9_; clear n0_ n1_ n2_ n3_ n4_ n5_ n6_ n7_ n8_ n9_; clear hb hbox hg; have hnb8 := NB222_221.out; have hnc8 := NB221_222.out; have hnb9 := NB222_223.out; have hnc9 := NB223_222.out; have hcz10_0 : w7.cell? ⟨gb222, 0, none⟩ = some (.bool a1_0) := (blk_cell BK222.out 0).trans rfl; have hcz10_1 : w7.cell? ⟨gb222, 1, none⟩ = some (.bool a1_1) := (blk_cell BK222.out 1).trans rfl; have hcz10_2 : w7.cell? ⟨gb222, 2, none⟩ = some (.bool a1_2) := (blk_cell BK222.out 2).trans rfl; have hcz10_3 : w7.cell? ⟨gb222, 3, none⟩ = some (.int .u64 a1_3) := (blk_cell BK222.out 3).trans rfl; have hcz10_4 : w7.cell? ⟨gb222, 4, none⟩ = some (.int .i64 a1_4) := (blk_cell BK222.out 4).trans rfl; have hfz10_0 := blk_frozen BK222.out 0; have hfz10_1 := blk_frozen BK222.out 1; have hfz10_2 := blk_frozen BK222.out 2; have hfz10_3 := blk_frozen BK222.out 3; have hfz10_4 := blk_frozen BK222.out 4; have hnb11 := NB223_221.out; have hnc11 := NB221_223.out; have hcz12_0 : w7.cell? ⟨gb223, 0, none⟩ = some (.bool a2_0) := (blk_cell BK223.out 0).trans rfl; have hcz12_1 : w7.cell? ⟨gb223, 1, none⟩ = some (.bool a2_1) := (blk_cell BK223.out 1).trans rfl; have hcz12_2 : w7.cell? ⟨gb223, 2, none⟩ = some (.bool a2_2) := (blk_cell BK223.out 2).trans rfl; have hcz12_3 : w7.cell? ⟨gb223, 3, none⟩ = some (.int .u64 a2_3) := (blk_cell BK223.out 3).trans rfl; have hcz12_4 : w7.cell? ⟨gb223, 4, none⟩ = some (.int .i64 a2_4) := (blk_cell BK223.out 4).trans rfl; have hfz12_0 := blk_frozen BK223.out 0; have hfz12_1 := blk_frozen BK223.out 1; have hfz12_2 := blk_frozen BK223.out 2; have hfz12_3 := blk_frozen BK223.out 3; have hfz12_4 := blk_frozen BK223.out 4)); go_upto_if 16 with (first | ((with_reducible refine gate_dst (N := 3) rfl ?_); refine box_event ?hg (N := 3) ?hd (cs := #[.int .i64 a0_0, .int .i64 a0_1]) (t := 62) ?hr ?_; (case hd => rfl); (case hg => rfl); (case hr => first | (go_simp; done) | (go_simp; rfl)); intro gb221 hg w5 hbox hb; have n0_ := Aside0.mk (below_step (bw HB.out) hb); have n1_ := Aside0.mk (hbox); have n2_ := Aside0.mk ((by rw [hg]; exact (below_size (bw HB.out)) : w.heap.size ≤ gb221)); have n3_ := Aside0.mk ((by rw [hg]; exact (below_size (bw HB.out)) : w.heap.size ≤ gb221)); clear HB; have HB := n0_; have BK221 := n1_; have GW221 := n2_; have GE221 := n3_; clear n0_ n1_ n2_ n3_; clear hb hbox hg) | ((with_reducible refine gate_dst (N := 4) rfl ?_); refine box_event ?hg (N := 4) ?hd (cs := #[.bool a1_0, .bool a1_1, .bool a1_2, .int .u64 a1_3, .int .i64 a1_4]) (t := 66) ?hr ?_; (case hd => rfl); (case hg => rfl); (case hr => first | (go_simp; done) | (go_simp; rfl)); intro gb222 hg w6 hbox hb; have n0_ := Aside0.mk (blk_below (g := gb221) (o := .cells #[.int .i64 a0_0, .int .i64 a0_1] 62 (0, 0)) (bk BK221.out) hb); have n1_ := Aside0.mk (below_step (bw HB.out) hb); have n2_ := Aside0.mk (hbox); have n3_ := Aside0.mk ((by rw [hg]; exact (below_size (bw HB.out)) : w.heap.size ≤ gb222)); have n4_ := Aside0.mk ((by rw [hg]; exact (below_size (bw HB.out)) : w.heap.size ≤ gb222)); have n5_ := Aside0.mk ((by rw [hg]; exact Nat.ne_of_lt (blk_lt (g := gb221) (o := .cells #[.int .i64 a0_0, .int .i64 a0_1] 62 (0, 0)) (bk BK221.out)) : gb221 ≠ gb222)); have n6_ := Aside0.mk ((by rw [hg]; exact Nat.ne_of_gt (blk_lt (g := gb221) (o := .cells #[.int .i64 a0_0, .int .i64 a0_1] 62 (0, 0)) (bk BK221.out)) : gb222 ≠ gb221)); clear BK221; clear HB; have BK221 := n0_; have HB := n1_; have BK222 := n2_; have GW222 := n3_; have GE222 := n4_; have NB221_222 := n5_; have NB222_221 := n6_; clear n0_ n1_ n2_ n3_ n4_ n5_ n6_; clear hb hbox hg) | ((with_reducible refine gate_dst (N := 5) rfl ?_); refine box_event ?hg (N := 5) ?hd (cs := #[.bool a2_0, .bool a2_1, .bool a2_2, .int .u64 a2_3, .int .i64 a2_4]) (t := 66) ?hr ?_; (case hd => rfl); (case hg => rfl); (case hr => first | (go_simp; done) | (go_simp; rfl)); intro gb223 hg w7 hbox hb; have n0_ := Aside0.mk (blk_below (g := gb221) (o := .cells #[.int .i64 a0_0, .int .i64 a0_1] 62 (0, 0)) (bk BK221.out) hb); have n1_ := Aside0.mk (blk_below (g := gb222) (o := .cells #[.bool a1_0, .bool a1_1, .bool a1_2, .int .u64 a1_3, .int .i64 a1_4] 66 (0, 0)) (bk BK222.out) hb); have n2_ := Aside0.mk (below_step (bw HB.out) hb); have n3_ := Aside0.mk (hbox); have n4_ := Aside0.mk ((by rw [hg]; exact (below_size (bw HB.out)) : w.heap.size ≤ gb223)); have n5_ := Aside0.mk ((by rw [hg]; exact (below_size (bw HB.out)) : w.heap.size ≤ gb223)); have n6_ := Aside0.mk ((by rw [hg]; exact Nat.ne_of_lt (blk_lt (g := gb221) (o := .cells #[.int .i64 a0_0, .int .i64 a0_1] 62 (0, 0)) (bk BK221.out)) : gb221 ≠ gb223)); have n7_ := Aside0.mk ((by rw [hg]; exact Nat.ne_of_gt (blk_lt (g := gb221) (o := .cells #[.int .i64 a0_0, .int .i64 a0_1] 62 (0, 0)) (bk BK221.out)) : gb223 ≠ gb221)); have n8_ := Aside0.mk ((by rw [hg]; exact Nat.ne_of_lt (blk_lt (g := gb222) (o := .cells #[.bool a1_0, .bool a1_1, .bool a1_2, .int .u64 a1_3, .int .i64 a1_4] 66 (0, 0)) (bk BK222.out)) : gb222 ≠ gb223)); have n9_ := Aside0.mk ((by rw [hg]; exact Nat.ne_of_gt (blk_lt (g := gb222) (o := .cells #[.bool a1_0, .bool a1_1, .bool a1_2, .int .u64 a1_3, .int .i64 a1_4] 66 (0, 0)) (bk BK222.out)) : gb223 ≠ gb222)); clear BK221; clear BK222; clear HB; have BK221 := n0_; have BK222 := n1_; have HB := n2_; have BK223 := n3_; have GW223 := n4_; have GE223 := n5_; have NB221_223 := n6_; have NB223_221 := n7_; have NB222_223 := n8_; have NB223_222 := n9_; clear n0_ n1_ n2_ n3_ n4_ n5_ n6_ n7_ n8_ n9_; clear hb hbox hg; have hnb8 := NB222_221.out; have hnc8 := NB221_222.out; have hnb9 := NB222_223.out; have hnc9 := NB223_222.out; have hcz10_0 : w7.cell? ⟨gb222, 0, none⟩ = some (.bool a1_0) := (blk_cell BK222.out 0).trans rfl; have hcz10_1 : w7.cell? ⟨gb222, 1, none⟩ = some (.bool a1_1) := (blk_cell BK222.out 1).trans rfl; have hcz10_2 : w7.cell? ⟨gb222, 2, none⟩ = some (.bool a1_2) := (blk_cell BK222.out 2).trans rfl; have hcz10_3 : w7.cell? ⟨gb222, 3, none⟩ = some (.int .u64 a1_3) := (blk_cell BK222.out 3).trans rfl; have hcz10_4 : w7.cell? ⟨gb222, 4, none⟩ = some (.int .i64 a1_4) := (blk_cell BK222.out 4).trans rfl; have hfz10_0 := blk_frozen BK222.out 0; have hfz10_1 := blk_frozen BK222.out 1; have hfz10_2 := blk_frozen BK222.out 2; have hfz10_3 := blk_frozen BK222.out 3; have hfz10_4 := blk_frozen BK222.out 4; have hnb11 := NB223_221.out; have hnc11 := NB221_223.out; have hcz12_0 : w7.cell? ⟨gb223, 0, none⟩ = some (.bool a2_0) := (blk_cell BK223.out 0).trans rfl; have hcz12_1 : w7.cell? ⟨gb223, 1, none⟩ = some (.bool a2_1) := (blk_cell BK223.out 1).trans rfl; have hcz12_2 : w7.cell? ⟨gb223, 2, none⟩ = some (.bool a2_2) := (blk_cell BK223.out 2).trans rfl; have hcz12_3 : w7.cell? ⟨gb223, 3, none⟩ = some (.int .u64 a2_3) := (blk_cell BK223.out 3).trans rfl; have hcz12_4 : w7.cell? ⟨gb223, 4, none⟩ = some (.int .i64 a2_4) := (blk_cell BK223.out 4).trans rfl; have hfz12_0 := blk_frozen BK223.out 0; have hfz12_1 := blk_frozen BK223.out 1; have hfz12_2 := blk_frozen BK223.out 2; have hfz12_3 := blk_frozen BK223.out 3; have hfz12_4 := blk_frozen BK223.out 4)))
 (try simp only [Act.put, List.setIfInBounds_toArray, List.set_cons_zero, List.set_cons_succ])
 go_cut [] (fun wc => ∃ (kq : Nat) (x223000_3 : Bool) (x223001_3 : Bool) (x223002_3 : Bool) (x223003_3 : Int) (x223004_3 : Int) (x224000_3 : Bool) (x224001_3 : Bool) (x224002_3 : Bool) (x224003_3 : Int) (x224004_3 : Int), Aside0 (impl_format_sum.j0 kq a0_0 a0_1 x223000_3 x223001_3 x223002_3 x223003_3 x223004_3 x224000_3 x224001_3 x224002_3 x224003_3 x224004_3 = some r) ∧ Aside0 (kq ≤ k) ∧ Aside0 (wc.heap[gb221]? = some (.cells #[.int .i64 a0_0, .int .i64 a0_1] 62 (0, 0))) ∧ Aside0 (wc.heap[gb222]? = some (.cells #[.bool x223000_3, .bool x223001_3, .bool x223002_3, .int .u64 x223003_3, .int .i64 x223004_3] 66 (0, 0))) ∧ Aside0 (wc.heap[gb223]? = some (.cells #[.bool x224000_3, .bool x224001_3, .bool x224002_3, .int .u64 x224003_3, .int .i64 x224004_3] 66 (0, 0))) ∧ Aside0 (Below w.heap.size w wc))
 case first =>
  have H := HC4.out
  clear HC4
  by_cases c13 : a1_4 < a2_4
  ·
   rw [if_pos c13] at H
   have c13b0 : decide (a1_4 < a2_4) = true := decide_eq_true c13
   clear c13
   (first | rw [c13b0] | (simp only [i64_w, i32_w]; rw [c13b0]) | skip)
   have H' := Aside0.mk H
   clear H
   have hnb14 := NB223_221.out
   have hnc14 := NB221_223.out
   have hnb15 := NB223_222.out
   have hnc15 := NB222_223.out
   have hcz16_0 : w7.cell? ⟨gb223, 0, none⟩ = some (.bool a2_0) := (blk_cell BK223.out 0).trans rfl
   have hcz16_1 : w7.cell? ⟨gb223, 1, none⟩ = some (.bool a2_1) := (blk_cell BK223.out 1).trans rfl
   have hcz16_2 : w7.cell? ⟨gb223, 2, none⟩ = some (.bool a2_2) := (blk_cell BK223.out 2).trans rfl
   have hcz16_3 : w7.cell? ⟨gb223, 3, none⟩ = some (.int .u64 a2_3) := (blk_cell BK223.out 3).trans rfl
   have hcz16_4 : w7.cell? ⟨gb223, 4, none⟩ = some (.int .i64 a2_4) := (blk_cell BK223.out 4).trans rfl
   have hfz16_0 := blk_frozen BK223.out 0
   have hfz16_1 := blk_frozen BK223.out 1
   have hfz16_2 := blk_frozen BK223.out 2
   have hfz16_3 := blk_frozen BK223.out 3
   have hfz16_4 := blk_frozen BK223.out 4
   have hnb17 := NB222_221.out
   have hnc17 := NB221_222.out
   have hcz18_0 : w7.cell? ⟨gb222, 0, none⟩ = some (.bool a1_0) := (blk_cell BK222.out 0).trans rfl
   have hcz18_1 : w7.cell? ⟨gb222, 1, none⟩ = some (.bool a1_1) := (blk_cell BK222.out 1).trans rfl
   have hcz18_2 : w7.cell? ⟨gb222, 2, none⟩ = some (.bool a1_2) := (blk_cell BK222.out 2).trans rfl
   have hcz18_3 : w7.cell? ⟨gb222, 3, none⟩ = some (.int .u64 a1_3) := (blk_cell BK222.out 3).trans rfl
   have hcz18_4 : w7.cell? ⟨gb222, 4, none⟩ = some (.int .i64 a1_4) := (blk_cell BK222.out 4).trans rfl
   have hfz18_0 := blk_frozen BK222.out 0
   have hfz18_1 := blk_frozen BK222.out 1
   have hfz18_2 := blk_frozen BK222.out 2
   have hfz18_3 := blk_frozen BK222.out 3
   have hfz18_4 := blk_frozen BK222.out 4
   go_wp2_with (first | ((with_reducible refine gate_store (t := 66) (p := 4) rfl ?_); (try (rw [drewN_self w7]; generalize hq_ : World.drewN w7 _ = w7; have n0_ := Aside0.mk (blk_at hq_ BK221.out); have n1_ := Aside0.mk (blk_at hq_ BK222.out); have n2_ := Aside0.mk (blk_at hq_ BK223.out); have n3_ := Aside0.mk (below_at hq_ HB.out); clear hq_ BK221 BK222 BK223 HB; have BK221 := n0_; have BK222 := n1_; have BK223 := n2_; have HB := n3_; clear n0_ n1_ n2_ n3_)); refine store_event (t := 66) (p := 4) (v := ?vo_w19) (w1 := (((((w7.setCell ⟨gb222, 0, none⟩ (.bool a2_0)).setCell ⟨gb222, 1, none⟩ (.bool a2_1)).setCell ⟨gb222, 2, none⟩ (.bool a2_2)).setCell ⟨gb222, 3, none⟩ (.int .u64 a2_3)).setCell ⟨gb222, 4, none⟩ (.int .i64 a2_4))) ?hg ?ho ?hn ?hr ?_; (case ho => rfl); (case hg => rfl); (case hn => rfl); (case hr => first | (go_simp; done) | (go_simp; rfl)); intro w19 hw; have n0_ : Aside0 (w19.heap[gb221]? = some (.cells #[.int .i64 a0_0, .int .i64 a0_1] 62 (0, 0))) := ⟨(by rw [hw]; exact (by (with_reducible repeat (first | refine blk_drewN ?_ _ | refine blk_drew ?_ | refine blk_alloc ?_ _)); refine blk_far ?_ NB221_222.out _; (with_reducible repeat (first | refine blk_drewN ?_ _ | refine blk_drew ?_ | refine blk_alloc ?_ _)); refine blk_far ?_ NB221_222.out _; (with_reducible repeat (first | refine blk_drewN ?_ _ | refine blk_drew ?_ | refine blk_alloc ?_ _)); refine blk_far ?_ NB221_222.out _; (with_reducible repeat (first | refine blk_drewN ?_ _ | refine blk_drew ?_ | refine blk_alloc ?_ _)); refine blk_far ?_ NB221_222.out _; (with_reducible repeat (first | refine blk_drewN ?_ _ | refine blk_drew ?_ | refine blk_alloc ?_ _)); refine blk_far ?_ NB221_222.out _; (with_reducible repeat (first | refine blk_drewN ?_ _ | refine blk_drew ?_ | refine blk_alloc ?_ _)); exact BK221.out))⟩; have n1_ : Aside0 (w19.heap[gb222]? = some (.cells #[.bool a2_0, .bool a2_1, .bool a2_2, .int .u64 a2_3, .int .i64 a2_4] 66 (0, 0))) := ⟨(by rw [hw]; exact (by (with_reducible repeat (first | refine blk_drewN ?_ _ | refine blk_drew ?_ | refine blk_alloc ?_ _)); refine blk_put (cs := #[.bool a2_0, .bool a2_1, .bool a2_2, .int .u64 a2_3, .int .i64 a1_4]) ?_ 4 _ rfl; (with_reducible repeat (first | refine blk_drewN ?_ _ | refine blk_drew ?_ | refine blk_alloc ?_ _)); refine blk_put (cs := #[.bool a2_0, .bool a2_1, .bool a2_2, .int .u64 a1_3, .int .i64 a1_4]) ?_ 3 _ rfl; (with_reducible repeat (first | refine blk_drewN ?_ _ | refine blk_drew ?_ | refine blk_alloc ?_ _)); refine blk_put (cs := #[.bool a2_0, .bool a2_1, .bool a1_2, .int .u64 a1_3, .int .i64 a1_4]) ?_ 2 _ rfl; (with_reducible repeat (first | refine blk_drewN ?_ _ | refine blk_drew ?_ | refine blk_alloc ?_ _)); refine blk_put (cs := #[.bool a2_0, .bool a1_1, .bool a1_2, .int .u64 a1_3, .int .i64 a1_4]) ?_ 1 _ rfl; (with_reducible repeat (first | refine blk_drewN ?_ _ | refine blk_drew ?_ | refine blk_alloc ?_ _)); refine blk_put (cs := #[.bool a1_0, .bool a1_1, .bool a1_2, .int .u64 a1_3, .int .i64 a1_4]) ?_ 0 _ rfl; (with_reducible repeat (first | refine blk_drewN ?_ _ | refine blk_drew ?_ | refine blk_alloc ?_ _)); exact BK222.out))⟩; have n2_ : Aside0 (w19.heap[gb223]? = some (.cells #[.bool a2_0, .bool a2_1, .bool a2_2, .int .u64 a2_3, .int .i64 a2_4] 66 (0, 0))) := ⟨(by rw [hw]; exact (by (with_reducible repeat (first | refine blk_drewN ?_ _ | refine blk_drew ?_ | refine blk_alloc ?_ _)); refine blk_far ?_ NB223_222.out _; (with_reducible repeat (first | refine blk_drewN ?_ _ | refine blk_drew ?_ | refine blk_alloc ?_ _)); refine blk_far ?_ NB223_222.out _; (with_reducible repeat (first | refine blk_drewN ?_ _ | refine blk_drew ?_ | refine blk_alloc ?_ _)); refine blk_far ?_ NB223_222.out _; (with_reducible repeat (first | refine blk_drewN ?_ _ | refine blk_drew ?_ | refine blk_alloc ?_ _)); refine blk_far ?_ NB223_222.out _; (with_reducible repeat (first | refine blk_drewN ?_ _ | refine blk_drew ?_ | refine blk_alloc ?_ _)); refine blk_far ?_ NB223_222.out _; (with_reducible repeat (first | refine blk_drewN ?_ _ | refine blk_drew ?_ | refine blk_alloc ?_ _)); exact BK223.out))⟩; have n3_ : Aside0 (Below w.heap.size w w19) := ⟨(by rw [hw]; exact (bw HB.out))⟩; clear hw; clear BK221; clear BK222; clear BK223; clear HB; have BK221 := n0_; have BK222 := n1_; have BK223 := n2_; have HB := n3_; clear n0_ n1_ n2_ n3_; have hcz20_0 : w19.cell? ⟨gb223, 0, none⟩ = some (.bool a2_0) := (blk_cell BK223.out 0).trans rfl; have hcz20_1 : w19.cell? ⟨gb223, 1, none⟩ = some (.bool a2_1) := (blk_cell BK223.out 1).trans rfl; have hcz20_2 : w19.cell? ⟨gb223, 2, none⟩ = some (.bool a2_2) := (blk_cell BK223.out 2).trans rfl; have hcz20_3 : w19.cell? ⟨gb223, 3, none⟩ = some (.int .u64 a2_3) := (blk_cell BK223.out 3).trans rfl; have hcz20_4 : w19.cell? ⟨gb223, 4, none⟩ = some (.int .i64 a2_4) := (blk_cell BK223.out 4).trans rfl; have hfz20_0 := blk_frozen BK223.out 0; have hfz20_1 := blk_frozen BK223.out 1; have hfz20_2 := blk_frozen BK223.out 2; have hfz20_3 := blk_frozen BK223.out 3; have hfz20_4 := blk_frozen BK223.out 4) | ((with_reducible refine gate_store (t := 66) (p := 5) rfl ?_); (try (rw [drewN_self w19]; generalize hq_ : World.drewN w19 _ = w19; have n0_ := Aside0.mk (blk_at hq_ BK221.out); have n1_ := Aside0.mk (blk_at hq_ BK222.out); have n2_ := Aside0.mk (blk_at hq_ BK223.out); have n3_ := Aside0.mk (below_at hq_ HB.out); clear hq_ BK221 BK222 BK223 HB; have BK221 := n0_; have BK222 := n1_; have BK223 := n2_; have HB := n3_; clear n0_ n1_ n2_ n3_)); refine store_event (t := 66) (p := 5) (v := ?vo_w21) (w1 := (((((w19.setCell ⟨gb223, 0, none⟩ (.bool a1_0)).setCell ⟨gb223, 1, none⟩ (.bool a1_1)).setCell ⟨gb223, 2, none⟩ (.bool a1_2)).setCell ⟨gb223, 3, none⟩ (.int .u64 a1_3)).setCell ⟨gb223, 4, none⟩ (.int .i64 a1_4))) ?hg ?ho ?hn ?hr ?_; (case ho => rfl); (case hg => rfl); (case hn => rfl); (case hr => first | (go_simp; done) | (go_simp; rfl)); intro w21 hw; have n0_ : Aside0 (w21.heap[gb221]? = some (.cells #[.int .i64 a0_0, .int .i64 a0_1] 62 (0, 0))) := ⟨(by rw [hw]; exact (by (with_reducible repeat (first | refine blk_drewN ?_ _ | refine blk_drew ?_ | refine blk_alloc ?_ _)); refine blk_far ?_ NB221_223.out _; (with_reducible repeat (first | refine blk_drewN ?_ _ | refine blk_drew ?_ | refine blk_alloc ?_ _)); refine blk_far ?_ NB221_223.out _; (with_reducible repeat (first | refine blk_drewN ?_ _ | refine blk_drew ?_ | refine blk_alloc ?_ _)); refine blk_far ?_ NB221_223.out _; (with_reducible repeat (first | refine blk_drewN ?_ _ | refine blk_drew ?_ | refine blk_alloc ?_ _)); refine blk_far ?_ NB221_223.out _; (with_reducible repeat (first | refine blk_drewN ?_ _ | refine blk_drew ?_ | refine blk_alloc ?_ _)); refine blk_far ?_ NB221_223.out _; (with_reducible repeat (first | refine blk_drewN ?_ _ | refine blk_drew ?_ | refine blk_alloc ?_ _)); exact BK221.out))⟩; have n1_ : Aside0 (w21.heap[gb222]? = some (.cells #[.bool a2_0, .bool a2_1, .bool a2_2, .int .u64 a2_3, .int .i64 a2_4] 66 (0, 0))) := ⟨(by rw [hw]; exact (by (with_reducible repeat (first | refine blk_drewN ?_ _ | refine blk_drew ?_ | refine blk_alloc ?_ _)); refine blk_far ?_ NB222_223.out _; (with_reducible repeat (first | refine blk_drewN ?_ _ | refine blk_drew ?_ | refine blk_alloc ?_ _)); refine blk_far ?_ NB222_223.out _; (with_reducible repeat (first | refine blk_drewN ?_ _ | refine blk_drew ?_ | refine blk_alloc ?_ _)); refine blk_far ?_ NB222_223.out _; (with_reducible repeat (first | refine blk_drewN ?_ _ | refine blk_drew ?_ | refine blk_alloc ?_ _)); refine blk_far ?_ NB222_223.out _; (with_reducible repeat (first | refine blk_drewN ?_ _ | refine blk_drew ?_ | refine blk_alloc ?_ _)); refine blk_far ?_ NB222_223.out _; (with_reducible repeat (first | refine blk_drewN ?_ _ | refine blk_drew ?_ | refine blk_alloc ?_ _)); exact BK222.out))⟩; have n2_ : Aside0 (w21.heap[gb223]? = some (.cells #[.bool a1_0, .bool a1_1, .bool a1_2, .int .u64 a1_3, .int .i64 a1_4] 66 (0, 0))) := ⟨(by rw [hw]; exact (by (with_reducible repeat (first | refine blk_drewN ?_ _ | refine blk_drew ?_ | refine blk_alloc ?_ _)); refine blk_put (cs := #[.bool a1_0, .bool a1_1, .bool a1_2, .int .u64 a1_3, .int .i64 a2_4]) ?_ 4 _ rfl; (with_reducible repeat (first | refine blk_drewN ?_ _ | refine blk_drew ?_ | refine blk_alloc ?_ _)); refine blk_put (cs := #[.bool a1_0, .bool a1_1, .bool a1_2, .int .u64 a2_3, .int .i64 a2_4]) ?_ 3 _ rfl; (with_reducible repeat (first | refine blk_drewN ?_ _ | refine blk_drew ?_ | refine blk_alloc ?_ _)); refine blk_put (cs := #[.bool a1_0, .bool a1_1, .bool a2_2, .int .u64 a2_3, .int .i64 a2_4]) ?_ 2 _ rfl; (with_reducible repeat (first | refine blk_drewN ?_ _ | refine blk_drew ?_ | refine blk_alloc ?_ _)); refine blk_put (cs := #[.bool a1_0, .bool a2_1, .bool a2_2, .int .u64 a2_3, .int .i64 a2_4]) ?_ 1 _ rfl; (with_reducible repeat (first | refine blk_drewN ?_ _ | refine blk_drew ?_ | refine blk_alloc ?_ _)); refine blk_put (cs := #[.bool a2_0, .bool a2_1, .bool a2_2, .int .u64 a2_3, .int .i64 a2_4]) ?_ 0 _ rfl; (with_reducible repeat (first | refine blk_drewN ?_ _ | refine blk_drew ?_ | refine blk_alloc ?_ _)); exact BK223.out))⟩; have n3_ : Aside0 (Below w.heap.size w w21) := ⟨(by rw [hw]; exact (bw HB.out))⟩; clear hw; clear BK221; clear BK222; clear BK223; clear HB; have BK221 := n0_; have BK222 := n1_; have BK223 := n2_; have HB := n3_; clear n0_ n1_ n2_ n3_))
   repeat (go_quiet (first | ((with_reducible refine gate_store (t := 66) (p := 4) rfl ?_); (try (rw [drewN_self w7]; generalize hq_ : World.drewN w7 _ = w7; have n0_ := Aside0.mk (blk_at hq_ BK221.out); have n1_ := Aside0.mk (blk_at hq_ BK222.out); have n2_ := Aside0.mk (blk_at hq_ BK223.out); have n3_ := Aside0.mk (below_at hq_ HB.out); clear hq_ BK221 BK222 BK223 HB; have BK221 := n0_; have BK222 := n1_; have BK223 := n2_; have HB := n3_; clear n0_ n1_ n2_ n3_)); refine store_event (t := 66) (p := 4) (v := ?vo_w19) (w1 := (((((w7.setCell ⟨gb222, 0, none⟩ (.bool a2_0)).setCell ⟨gb222, 1, none⟩ (.bool a2_1)).setCell ⟨gb222, 2, none⟩ (.bool a2_2)).setCell ⟨gb222, 3, none⟩ (.int .u64 a2_3)).setCell ⟨gb222, 4, none⟩ (.int .i64 a2_4))) ?hg ?ho ?hn ?hr ?_; (case ho => rfl); (case hg => rfl); (case hn => rfl); (case hr => first | (go_simp; done) | (go_simp; rfl)); intro w19 hw; have n0_ : Aside0 (w19.heap[gb221]? = some (.cells #[.int .i64 a0_0, .int .i64 a0_1] 62 (0, 0))) := ⟨(by rw [hw]; exact (by (with_reducible repeat (first | refine blk_drewN ?_ _ | refine blk_drew ?_ | refine blk_alloc ?_ _)); refine blk_far ?_ NB221_222.out _; (with_reducible repeat (first | refine blk_drewN ?_ _ | refine blk_drew ?_ | refine blk_alloc ?_ _)); refine blk_far ?_ NB221_222.out _; (with_reducible repeat (first | refine blk_drewN ?_ _ | refine blk_drew ?_ | refine blk_alloc ?_ _)); refine blk_far ?_ NB221_222.out _; (with_reducible repeat (first | refine blk_drewN ?_ _ | refine blk_drew ?_ | refine blk_alloc ?_ _)); refine blk_far ?_ NB221_222.out _; (with_reducible repeat (first | refine blk_drewN ?_ _ | refine blk_drew ?_ | refine blk_alloc ?_ _)); refine blk_far ?_ NB221_222.out _; (with_reducible repeat (first | refine blk_drewN ?_ _ | refine blk_drew ?_ | refine blk_alloc ?_ _)); exact BK221.out))⟩; have n1_ : Aside0 (w19.heap[gb222]? = some (.cells #[.bool a2_0, .bool a2_1, .bool a2_2, .int .u64 a2_3, .int .i64 a2_4] 66 (0, 0))) := ⟨(by rw [hw]; exact (by (with_reducible repeat (first | refine blk_drewN ?_ _ | refine blk_drew ?_ | refine blk_alloc ?_ _)); refine blk_put (cs := #[.bool a2_0, .bool a2_1, .bool a2_2, .int .u64 a2_3, .int .i64 a1_4]) ?_ 4 _ rfl; (with_reducible repeat (first | refine blk_drewN ?_ _ | refine blk_drew ?_ | refine blk_alloc ?_ _)); refine blk_put (cs := #[.bool a2_0, .bool a2_1, .bool a2_2, .int .u64 a1_3, .int .i64 a1_4]) ?_ 3 _ rfl; (with_reducible repeat (first | refine blk_drewN ?_ _ | refine blk_drew ?_ | refine blk_alloc ?_ _)); refine blk_put (cs := #[.bool a2_0, .bool a2_1, .bool a1_2, .int .u64 a1_3, .int .i64 a1_4]) ?_ 2 _ rfl; (with_reducible repeat (first | refine blk_drewN ?_ _ | refine blk_drew ?_ | refine blk_alloc ?_ _)); refine blk_put (cs := #[.bool a2_0, .bool a1_1, .bool a1_2, .int .u64 a1_3, .int .i64 a1_4]) ?_ 1 _ rfl; (with_reducible repeat (first | refine blk_drewN ?_ _ | refine blk_drew ?_ | refine blk_alloc ?_ _)); refine blk_put (cs := #[.bool a1_0, .bool a1_1, .bool a1_2, .int .u64 a1_3, .int .i64 a1_4]) ?_ 0 _ rfl; (with_reducible repeat (first | refine blk_drewN ?_ _ | refine blk_drew ?_ | refine blk_alloc ?_ _)); exact BK222.out))⟩; have n2_ : Aside0 (w19.heap[gb223]? = some (.cells #[.bool a2_0, .bool a2_1, .bool a2_2, .int .u64 a2_3, .int .i64 a2_4] 66 (0, 0))) := ⟨(by rw [hw]; exact (by (with_reducible repeat (first | refine blk_drewN ?_ _ | refine blk_drew ?_ | refine blk_alloc ?_ _)); refine blk_far ?_ NB223_222.out _; (with_reducible repeat (first | refine blk_drewN ?_ _ | refine blk_drew ?_ | refine blk_alloc ?_ _)); refine blk_far ?_ NB223_222.out _; (with_reducible repeat (first | refine blk_drewN ?_ _ | refine blk_drew ?_ | refine blk_alloc ?_ _)); refine blk_far ?_ NB223_222.out _; (with_reducible repeat (first | refine blk_drewN ?_ _ | refine blk_drew ?_ | refine blk_alloc ?_ _)); refine blk_far ?_ NB223_222.out _; (with_reducible repeat (first | refine blk_drewN ?_ _ | refine blk_drew ?_ | refine blk_alloc ?_ _)); refine blk_far ?_ NB223_222.out _; (with_reducible repeat (first | refine blk_drewN ?_ _ | refine blk_drew ?_ | refine blk_alloc ?_ _)); exact BK223.out))⟩; have n3_ : Aside0 (Below w.heap.size w w19) := ⟨(by rw [hw]; exact (bw HB.out))⟩; clear hw; clear BK221; clear BK222; clear BK223; clear HB; have BK221 := n0_; have BK222 := n1_; have BK223 := n2_; have HB := n3_; clear n0_ n1_ n2_ n3_; have hcz20_0 : w19.cell? ⟨gb223, 0, none⟩ = some (.bool a2_0) := (blk_cell BK223.out 0).trans rfl; have hcz20_1 : w19.cell? ⟨gb223, 1, none⟩ = some (.bool a2_1) := (blk_cell BK223.out 1).trans rfl; have hcz20_2 : w19.cell? ⟨gb223, 2, none⟩ = some (.bool a2_2) := (blk_cell BK223.out 2).trans rfl; have hcz20_3 : w19.cell? ⟨gb223, 3, none⟩ = some (.int .u64 a2_3) := (blk_cell BK223.out 3).trans rfl; have hcz20_4 : w19.cell? ⟨gb223, 4, none⟩ = some (.int .i64 a2_4) := (blk_cell BK223.out 4).trans rfl; have hfz20_0 := blk_frozen BK223.out 0; have hfz20_1 := blk_frozen BK223.out 1; have hfz20_2 := blk_frozen BK223.out 2; have hfz20_3 := blk_frozen BK223.out 3; have hfz20_4 := blk_frozen BK223.out 4) | ((with_reducible refine gate_store (t := 66) (p := 5) rfl ?_); (try (rw [drewN_self w19]; generalize hq_ : World.drewN w19 _ = w19; have n0_ := Aside0.mk (blk_at hq_ BK221.out); have n1_ := Aside0.mk (blk_at hq_ BK222.out); have n2_ := Aside0.mk (blk_at hq_ BK223.out); have n3_ := Aside0.mk (below_at hq_ HB.out); clear hq_ BK221 BK222 BK223 HB; have BK221 := n0_; have BK222 := n1_; have BK223 := n2_; have HB := n3_; clear n0_ n1_ n2_ n3_)); refine store_event (t := 66) (p := 5) (v := ?vo_w21) (w1 := (((((w19.setCell ⟨gb223, 0, none⟩ (.bool a1_0)).setCell ⟨gb223, 1, none⟩ (.bool a1_1)).setCell ⟨gb223, 2, none⟩ (.bool a1_2)).setCell ⟨gb223, 3, none⟩ (.int .u64 a1_3)).setCell ⟨gb223, 4, none⟩ (.int .i64 a1_4))) ?hg ?ho ?hn ?hr ?_; (case ho => rfl); (case hg => rfl); (case hn => rfl); (case hr => first | (go_simp; done) | (go_simp; rfl)); intro w21 hw; have n0_ : Aside0 (w21.heap[gb221]? = some (.cells #[.int .i64 a0_0, .int .i64 a0_1] 62 (0, 0))) := ⟨(by rw [hw]; exact (by (with_reducible repeat (first | refine blk_drewN ?_ _ | refine blk_drew ?_ | refine blk_alloc ?_ _)); refine blk_far ?_ NB221_223.out _; (with_reducible repeat (first | refine blk_drewN ?_ _ | refine blk_drew ?_ | refine blk_alloc ?_ _)); refine blk_far ?_ NB221_223.out _; (with_reducible repeat (first | refine blk_drewN ?_ _ | refine blk_drew ?_ | refine blk_alloc ?_ _)); refine blk_far ?_ NB221_223.out _; (with_reducible repeat (first | refine blk_drewN ?_ _ | refine blk_drew ?_ | refine blk_alloc ?_ _)); refine blk_far ?_ NB221_223.out _; (with_reducible repeat (first | refine blk_drewN ?_ _ | refine blk_drew ?_ | refine blk_alloc ?_ _)); refine blk_far ?_ NB221_223.out _; (with_reducible repeat (first | refine blk_drewN ?_ _ | refine blk_drew ?_ | refine blk_alloc ?_ _)); exact BK221.out))⟩; have n1_ : Aside0 (w21.heap[gb222]? = some (.cells #[.bool a2_0, .bool a2_1, .bool a2_2, .int .u64 a2_3, .int .i64 a2_4] 66 (0, 0))) := ⟨(by rw [hw]; exact (by (with_reducible repeat (first | refine blk_drewN ?_ _ | refine blk_drew ?_ | refine blk_alloc ?_ _)); refine blk_far ?_ NB222_223.out _; (with_reducible repeat (first | refine blk_drewN ?_ _ | refine blk_drew ?_ | refine blk_alloc ?_ _)); refine blk_far ?_ NB222_223.out _; (with_reducible repeat (first | refine blk_drewN ?_ _ | refine blk_drew ?_ | refine blk_alloc ?_ _)); refine blk_far ?_ NB222_223.out _; (with_reducible repeat (first | refine blk_drewN ?_ _ | refine blk_drew ?_ | refine blk_alloc ?_ _)); refine blk_far ?_ NB222_223.out _; (with_reducible repeat (first | refine blk_drewN ?_ _ | refine blk_drew ?_ | refine blk_alloc ?_ _)); refine blk_far ?_ NB222_223.out _; (with_reducible repeat (first | refine blk_drewN ?_ _ | refine blk_drew ?_ | refine blk_alloc ?_ _)); exact BK222.out))⟩; have n2_ : Aside0 (w21.heap[gb223]? = some (.cells #[.bool a1_0, .bool a1_1, .bool a1_2, .int .u64 a1_3, .int .i64 a1_4] 66 (0, 0))) := ⟨(by rw [hw]; exact (by (with_reducible repeat (first | refine blk_drewN ?_ _ | refine blk_drew ?_ | refine blk_alloc ?_ _)); refine blk_put (cs := #[.bool a1_0, .bool a1_1, .bool a1_2, .int .u64 a1_3, .int .i64 a2_4]) ?_ 4 _ rfl; (with_reducible repeat (first | refine blk_drewN ?_ _ | refine blk_drew ?_ | refine blk_alloc ?_ _)); refine blk_put (cs := #[.bool a1_0, .bool a1_1, .bool a1_2, .int .u64 a2_3, .int .i64 a2_4]) ?_ 3 _ rfl; (with_reducible repeat (first | refine blk_drewN ?_ _ | refine blk_drew ?_ | refine blk_alloc ?_ _)); refine blk_put (cs := #[.bool a1_0, .bool a1_1, .bool a2_2, .int .u64 a2_3, .int .i64 a2_4]) ?_ 2 _ rfl; (with_reducible repeat (first | refine blk_drewN ?_ _ | refine blk_drew ?_ | refine blk_alloc ?_ _)); refine blk_put (cs := #[.bool a1_0, .bool a2_1, .bool a2_2, .int .u64 a2_3, .int .i64 a2_4]) ?_ 1 _ rfl; (with_reducible repeat (first | refine blk_drewN ?_ _ | refine blk_drew ?_ | refine blk_alloc ?_ _)); refine blk_put (cs := #[.bool a2_0, .bool a2_1, .bool a2_2, .int .u64 a2_3, .int .i64 a2_4]) ?_ 0 _ rfl; (with_reducible repeat (first | refine blk_drewN ?_ _ | refine blk_drew ?_ | refine blk_alloc ?_ _)); exact BK223.out))⟩; have n3_ : Aside0 (Below w.heap.size w w21) := ⟨(by rw [hw]; exact (bw HB.out))⟩; clear hw; clear BK221; clear BK222; clear BK223; clear HB; have BK221 := n0_; have BK222 := n1_; have BK223 := n2_; have HB := n3_; clear n0_ n1_ n2_ n3_)); try go_wp2_with (first | ((with_reducible refine gate_store (t := 66) (p := 4) rfl ?_); (try (rw [drewN_self w7]; generalize hq_ : World.drewN w7 _ = w7; have n0_ := Aside0.mk (blk_at hq_ BK221.out); have n1_ := Aside0.mk (blk_at hq_ BK222.out); have n2_ := Aside0.mk (blk_at hq_ BK223.out); have n3_ := Aside0.mk (below_at hq_ HB.out); clear hq_ BK221 BK222 BK223 HB; have BK221 := n0_; have BK222 := n1_; have BK223 := n2_; have HB := n3_; clear n0_ n1_ n2_ n3_)); refine store_event (t := 66) (p := 4) (v := ?vo_w19) (w1 := (((((w7.setCell ⟨gb222, 0, none⟩ (.bool a2_0)).setCell ⟨gb222, 1, none⟩ (.bool a2_1)).setCell ⟨gb222, 2, none⟩ (.bool a2_2)).setCell ⟨gb222, 3, none⟩ (.int .u64 a2_3)).setCell ⟨gb222, 4, none⟩ (.int .i64 a2_4))) ?hg ?ho ?hn ?hr ?_; (case ho => rfl); (case hg => rfl); (case hn => rfl); (case hr => first | (go_simp; done) | (go_simp; rfl)); intro w19 hw; have n0_ : Aside0 (w19.heap[gb221]? = some (.cells #[.int .i64 a0_0, .int .i64 a0_1] 62 (0, 0))) := ⟨(by rw [hw]; exact (by (with_reducible repeat (first | refine blk_drewN ?_ _ | refine blk_drew ?_ | refine blk_alloc ?_ _)); refine blk_far ?_ NB221_222.out _; (with_reducible repeat (first | refine blk_drewN ?_ _ | refine blk_drew ?_ | refine blk_alloc ?_ _)); refine blk_far ?_ NB221_222.out _; (with_reducible repeat (first | refine blk_drewN ?_ _ | refine blk_drew ?_ | refine blk_alloc ?_ _)); refine blk_far ?_ NB221_222.out _; (with_reducible repeat (first | refine blk_drewN ?_ _ | refine blk_drew ?_ | refine blk_alloc ?_ _)); refine blk_far ?_ NB221_222.out _; (with_reducible repeat (first | refine blk_drewN ?_ _ | refine blk_drew ?_ | refine blk_alloc ?_ _)); refine blk_far ?_ NB221_222.out _; (with_reducible repeat (first | refine blk_drewN ?_ _ | refine blk_drew ?_ | refine blk_alloc ?_ _)); exact BK221.out))⟩; have n1_ : Aside0 (w19.heap[gb222]? = some (.cells #[.bool a2_0, .bool a2_1, .bool a2_2, .int .u64 a2_3, .int .i64 a2_4] 66 (0, 0))) := ⟨(by rw [hw]; exact (by (with_reducible repeat (first | refine blk_drewN ?_ _ | refine blk_drew ?_ | refine blk_alloc ?_ _)); refine blk_put (cs := #[.bool a2_0, .bool a2_1, .bool a2_2, .int .u64 a2_3, .int .i64 a1_4]) ?_ 4 _ rfl; (with_reducible repeat (first | refine blk_drewN ?_ _ | refine blk_drew ?_ | refine blk_alloc ?_ _)); refine blk_put (cs := #[.bool a2_0, .bool a2_1, .bool a2_2, .int .u64 a1_3, .int .i64 a1_4]) ?_ 3 _ rfl; (with_reducible repeat (first | refine blk_drewN ?_ _ | refine blk_drew ?_ | refine blk_alloc ?_ _)); refine blk_put (cs := #[.bool a2_0, .bool a2_1, .bool a1_2, .int .u64 a1_3, .int .i64 a1_4]) ?_ 2 _ rfl; (with_reducible repeat (first | refine blk_drewN ?_ _ | refine blk_drew ?_ | refine blk_alloc ?_ _)); refine blk_put (cs := #[.bool a2_0, .bool a1_1, .bool a1_2, .int .u64 a1_3, .int .i64 a1_4]) ?_ 1 _ rfl; (with_reducible repeat (first | refine blk_drewN ?_ _ | refine blk_drew ?_ | refine blk_alloc ?_ _)); refine blk_put (cs := #[.bool a1_0, .bool a1_1, .bool a1_2, .int .u64 a1_3, .int .i64 a1_4]) ?_ 0 _ rfl; (with_reducible repeat (first | refine blk_drewN ?_ _ | refine blk_drew ?_ | refine blk_alloc ?_ _)); exact BK222.out))⟩; have n2_ : Aside0 (w19.heap[gb223]? = some (.cells #[.bool a2_0, .bool a2_1, .bool a2_2, .int .u64 a2_3, .int .i64 a2_4] 66 (0, 0))) := ⟨(by rw [hw]; exact (by (with_reducible repeat (first | refine blk_drewN ?_ _ | refine blk_drew ?_ | refine blk_alloc ?_ _)); refine blk_far ?_ NB223_222.out _; (with_reducible repeat (first | refine blk_drewN ?_ _ | refine blk_drew ?_ | refine blk_alloc ?_ _)); refine blk_far ?_ NB223_222.out _; (with_reducible repeat (first | refine blk_drewN ?_ _ | refine blk_drew ?_ | refine blk_alloc ?_ _)); refine blk_far ?_ NB223_222.out _; (with_reducible repeat (first | refine blk_drewN ?_ _ | refine blk_drew ?_ | refine blk_alloc ?_ _)); refine blk_far ?_ NB223_222.out _; (with_reducible repeat (first | refine blk_drewN ?_ _ | refine blk_drew ?_ | refine blk_alloc ?_ _)); refine blk_far ?_ NB223_222.out _; (with_reducible repeat (first | refine blk_drewN ?_ _ | refine blk_drew ?_ | refine blk_alloc ?_ _)); exact BK223.out))⟩; have n3_ : Aside0 (Below w.heap.size w w19) := ⟨(by rw [hw]; exact (bw HB.out))⟩; clear hw; clear BK221; clear BK222; clear BK223; clear HB; have BK221 := n0_; have BK222 := n1_; have BK223 := n2_; have HB := n3_; clear n0_ n1_ n2_ n3_; have hcz20_0 : w19.cell? ⟨gb223, 0, none⟩ = some (.bool a2_0) := (blk_cell BK223.out 0).trans rfl; have hcz20_1 : w19.cell? ⟨gb223, 1, none⟩ = some (.bool a2_1) := (blk_cell BK223.out 1).trans rfl; have hcz20_2 : w19.cell? ⟨gb223, 2, none⟩ = some (.bool a2_2) := (blk_cell BK223.out 2).trans rfl; have hcz20_3 : w19.cell? ⟨gb223, 3, none⟩ = some (.int .u64 a2_3) := (blk_cell BK223.out 3).trans rfl; have hcz20_4 : w19.cell? ⟨gb223, 4, none⟩ = some (.int .i64 a2_4) := (blk_cell BK223.out 4).trans rfl; have hfz20_0 := blk_frozen BK223.out 0; have hfz20_1 := blk_frozen BK223.out 1; have hfz20_2 := blk_frozen BK223.out 2; have hfz20_3 := blk_frozen BK223.out 3; have hfz20_4 := blk_frozen BK223.out 4) | ((with_reducible refine gate_store (t := 66) (p := 5) rfl ?_); (try (rw [drewN_self w19]; generalize hq_ : World.drewN w19 _ = w19; have n0_ := Aside0.mk (blk_at hq_ BK221.out); have n1_ := Aside0.mk (blk_at hq_ BK222.out); have n2_ := Aside0.mk (blk_at hq_ BK223.out); have n3_ := Aside0.mk (below_at hq_ HB.out); clear hq_ BK221 BK222 BK223 HB; have BK221 := n0_; have BK222 := n1_; have BK223 := n2_; have HB := n3_; clear n0_ n1_ n2_ n3_)); refine store_event (t := 66) (p := 5) (v := ?vo_w21) (w1 := (((((w19.setCell ⟨gb223, 0, none⟩ (.bool a1_0)).setCell ⟨gb223, 1, none⟩ (.bool a1_1)).setCell ⟨gb223, 2, none⟩ (.bool a1_2)).setCell ⟨gb223, 3, none⟩ (.int .u64 a1_3)).setCell ⟨gb223, 4, none⟩ (.int .i64 a1_4))) ?hg ?ho ?hn ?hr ?_; (case ho => rfl); (case hg => rfl); (case hn => rfl); (case hr => first | (go_simp; done) | (go_simp; rfl)); intro w21 hw; have n0_ : Aside0 (w21.heap[gb221]? = some (.cells #[.int .i64 a0_0, .int .i64 a0_1] 62 (0, 0))) := ⟨(by rw [hw]; exact (by (with_reducible repeat (first | refine blk_drewN ?_ _ | refine blk_drew ?_ | refine blk_alloc ?_ _)); refine blk_far ?_ NB221_223.out _; (with_reducible repeat (first | refine blk_drewN ?_ _ | refine blk_drew ?_ | refine blk_alloc ?_ _)); refine blk_far ?_ NB221_223.out _; (with_reducible repeat (first | refine blk_drewN ?_ _ | refine blk_drew ?_ | refine blk_alloc ?_ _)); refine blk_far ?_ NB221_223.out _; (with_reducible repeat (first | refine blk_drewN ?_ _ | refine blk_drew ?_ | refine blk_alloc ?_ _)); refine blk_far ?_ NB221_223.out _; (with_reducible repeat (first | refine blk_drewN ?_ _ | refine blk_drew ?_ | refine blk_alloc ?_ _)); refine blk_far ?_ NB221_223.out _; (with_reducible repeat (first | refine blk_drewN ?_ _ | refine blk_drew ?_ | refine blk_alloc ?_ _)); exact BK221.out))⟩; have n1_ : Aside0 (w21.heap[gb222]? = some (.cells #[.bool a2_0, .bool a2_1, .bool a2_2, .int .u64 a2_3, .int .i64 a2_4] 66 (0, 0))) := ⟨(by rw [hw]; exact (by (with_reducible repeat (first | refine blk_drewN ?_ _ | refine blk_drew ?_ | refine blk_alloc ?_ _)); refine blk_far ?_ NB222_223.out _; (with_reducible repeat (first | refine blk_drewN ?_ _ | refine blk_drew ?_ | refine blk_alloc ?_ _)); refine blk_far ?_ NB222_223.out _; (with_reducible repeat (first | refine blk_drewN ?_ _ | refine blk_drew ?_ | refine blk_alloc ?_ _)); refine blk_far ?_ NB222_223.out _; (with_reducible repeat (first | refine blk_drewN ?_ _ | refine blk_drew ?_ | refine blk_alloc ?_ _)); refine blk_far ?_ NB222_223.out _; (with_reducible repeat (first | refine blk_drewN ?_ _ | refine blk_drew ?_ | refine blk_alloc ?_ _)); refine blk_far ?_ NB222_223.out _; (with_reducible repeat (first | refine blk_drewN ?_ _ | refine blk_drew ?_ | refine blk_alloc ?_ _)); exact BK222.out))⟩; have n2_ : Aside0 (w21.heap[gb223]? = some (.cells #[.bool a1_0, .bool a1_1, .bool a1_2, .int .u64 a1_3, .int .i64 a1_4] 66 (0, 0))) := ⟨(by rw [hw]; exact (by (with_reducible repeat (first | refine blk_drewN ?_ _ | refine blk_drew ?_ | refine blk_alloc ?_ _)); refine blk_put (cs := #[.bool a1_0, .bool a1_1, .bool a1_2, .int .u64 a1_3, .int .i64 a2_4]) ?_ 4 _ rfl; (with_reducible repeat (first | refine blk_drewN ?_ _ | refine blk_drew ?_ | refine blk_alloc ?_ _)); refine blk_put (cs := #[.bool a1_0, .bool a1_1, .bool a1_2, .int .u64 a2_3, .int .i64 a2_4]) ?_ 3 _ rfl; (with_reducible repeat (first | refine blk_drewN ?_ _ | refine blk_drew ?_ | refine blk_alloc ?_ _)); refine blk_put (cs := #[.bool a1_0, .bool a1_1, .bool a2_2, .int .u64 a2_3, .int .i64 a2_4]) ?_ 2 _ rfl; (with_reducible repeat (first | refine blk_drewN ?_ _ | refine blk_drew ?_ | refine blk_alloc ?_ _)); refine blk_put (cs := #[.bool a1_0, .bool a2_1, .bool a2_2, .int .u64 a2_3, .int .i64 a2_4]) ?_ 1 _ rfl; (with_reducible repeat (first | refine blk_drewN ?_ _ | refine blk_drew ?_ | refine blk_alloc ?_ _)); refine blk_put (cs := #[.bool a2_0, .bool a2_1, .bool a2_2, .int .u64 a2_3, .int .i64 a2_4]) ?_ 0 _ rfl; (with_reducible repeat (first | refine blk_drewN ?_ _ | refine blk_drew ?_ | refine blk_alloc ?_ _)); exact BK223.out))⟩; have n3_ : Aside0 (Below w.heap.size w w21) := ⟨(by rw [hw]; exact (bw HB.out))⟩; clear hw; clear BK221; clear BK222; clear BK223; clear HB; have BK221 := n0_; have BK222 := n1_; have BK223 := n2_; have HB := n3_; clear n0_ n1_ n2_ n3_)))
   go_meet
   case rel => exact ⟨_, (a2_0), (a2_1), (a2_2), (a2_3), (a2_4), (a1_0), (a1_1), (a1_2), (a1_3), (a1_4), H', ⟨by first | omega | exact Nat.le_refl _⟩, ⟨bk BK221.out⟩, ⟨bk BK222.out⟩, ⟨bk BK223.out⟩, ⟨bw HB.out⟩⟩
  ·
   rw [if_neg c13] at H
   have c13b0 : decide (a1_4 < a2_4) = false := decide_eq_false c13
   clear c13
   (first | rw [c13b0] | (simp only [i64_w, i32_w]; rw [c13b0]) | skip)
   have H' := Aside0.mk H
   clear H
   go_wp2
   repeat (go_quiet (fail); try go_wp2)
   go_meet
   case rel => exact ⟨_, (a1_0), (a1_1), (a1_2), (a1_3), (a1_4), (a2_0), (a2_1), (a2_2), (a2_3), (a2_4), H', ⟨by first | omega | exact Nat.le_refl _⟩, ⟨bk BK221.out⟩, ⟨bk BK222.out⟩, ⟨bk BK223.out⟩, ⟨bw HB.out⟩⟩
 case rest =>
  clear HC4
  try clear c1
  try clear p2
  try clear c6
  try clear c8
  try clear c9
  try clear c11
  try clear c13
  try clear c13b0
  try clear c14
  try clear c15
  try clear c17
  try clear hcz10_0 hcz10_1 hcz10_2 hcz10_3 hcz10_4
  try clear hcz12_0 hcz12_1 hcz12_2 hcz12_3 hcz12_4
  try clear hcz16_0 hcz16_1 hcz16_2 hcz16_3 hcz16_4
  try clear hcz18_0 hcz18_1 hcz18_2 hcz18_3 hcz18_4
  try clear hcz20_0 hcz20_1 hcz20_2 hcz20_3 hcz20_4
  try clear hfz10_0 hfz10_1 hfz10_2 hfz10_3 hfz10_4
  try clear hfz12_0 hfz12_1 hfz12_2 hfz12_3 hfz12_4
  try clear hfz16_0 hfz16_1 hfz16_2 hfz16_3 hfz16_4
  try clear hfz18_0 hfz18_1 hfz18_2 hfz18_3 hfz18_4
  try clear hfz20_0 hfz20_1 hfz20_2 hfz20_3 hfz20_4
  obtain ⟨kq, x223000_3, x223001_3, x223002_3, x223003_3, x223004_3, x224000_3, x224001_3, x224002_3, x224003_3, x224004_3, HA, HJ3, BK221, BK222, BK223, HB⟩ := hcut
  cases kq with
  | zero => exact absurd HA.out (by simp [impl_format_sum.j0])
  | succ kj3 =>
   have H := HA.out
   clear HA
   simp only [impl_format_sum.j0] at H
   by_cases c22 : (wrap64 (x223004_3 - x224004_3)) ≤ 35
   ·
    rw [if_pos c22] at H
    have c22b0 : decide ((wrap64 (x223004_3 - x224004_3)) ≤ 35) = true := decide_eq_true c22
    clear c22
    obtain ⟨ji23, hji23⟩ : ∃ j_ : Int, (wrap64 (x223004_3 - x224004_3)) = j_ := ⟨_, rfl⟩
    replace H : (if 0 ≤ (ji23) then (if (x223000_3 == x224000_3) = true then ((impl_format_round.f kj3 a0_0 a0_1 x223000_3 (IntKind.u64.wrap ((shl .u64 x223003_3 (ji23)) + x224003_3)) x224004_3 false).bind fun t224 => (some t224)) else (if (shl .u64 x223003_3 (ji23)) > x224003_3 then ((impl_format_round.f kj3 a0_0 a0_1 x223000_3 (IntKind.u64.wrap ((shl .u64 x223003_3 (ji23)) - x224003_3)) x224004_3 false).bind fun t225 => (some t225)) else (if (shl .u64 x223003_3 (ji23)) < x224003_3 then ((impl_format_round.f kj3 a0_0 a0_1 x224000_3 (IntKind.u64.wrap (x224003_3 - (shl .u64 x223003_3 (ji23)))) x224004_3 false).bind fun t226 => (some t226)) else (some 0)))) else (none)) = some r := by first | (rw [hji23] at H; exact H) | (simp only [hji23] at H ⊢; exact H)
    (try rw [hji23] at c22b0)
    have hji23w : (IntKind.i64.wrap (x223004_3 - x224004_3)) = ji23 := (i64_w _).trans hji23
    by_cases c24 : 0 ≤ (ji23)
    ·
     rw [if_pos c24] at H
     have c24b0 := eq_true c24
     have c24b1 : decide (0 ≤ (ji23)) = true := decide_eq_true c24
     clear c24
     obtain ⟨ji25, hji25⟩ : ∃ j_ : Int, (shl .u64 x223003_3 (ji23)) = j_ := ⟨_, rfl⟩
     replace H : (if (x223000_3 == x224000_3) = true then ((impl_format_round.f kj3 a0_0 a0_1 x223000_3 (IntKind.u64.wrap ((ji25) + x224003_3)) x224004_3 false).bind fun t224 => (some t224)) else (if (ji25) > x224003_3 then ((impl_format_round.f kj3 a0_0 a0_1 x223000_3 (IntKind.u64.wrap ((ji25) - x224003_3)) x224004_3 false).bind fun t225 => (some t225)) else (if (ji25) < x224003_3 then ((impl_format_round.f kj3 a0_0 a0_1 x224000_3 (IntKind.u64.wrap (x224003_3 - (ji25))) x224004_3 false).bind fun t226 => (some t226)) else (some 0)))) = some r := by first | (rw [hji25] at H; exact H) | (simp only [hji25] at H ⊢; exact H)
     have hji25_ : (IntKind.u64.wrap (x223003_3 * 2 ^ min (ji23).toNat 64)) = ji25 := hji25
     have hji25z : (ji23) ≤ 64 → (IntKind.u64.wrap (x223003_3 * 2 ^ (ji23).toNat)) = ji25 := shl_small hji25
     by_cases c26 : (x223000_3 == x224000_3) = true
     ·
      rw [if_pos c26] at H
      have c26b0 : (x223000_3 == x224000_3) = true := c26
      (try (have c26b1 : decide (x223000_3 = x224000_3) = true := by simpa using c26))
      (try (have c26b2 : (x223000_3 == x224000_3) = true := by simpa using c26))
      clear c26
      replace H := Option.bind_eq_some_iff.mp H
      obtain ⟨t224, A270, H⟩ := H
      replace H : (some t224) = some r := H
      have A27 := Aside0.mk A270
      clear A270
      obtain rfl := Option.some.inj H
      simp only [Option.some.injEq, Prod.mk.injEq] at H
      obtain ⟨rfl⟩ := H
      have hnb28 := NB222_221.out
      have hnc28 := NB221_222.out
      have hnb29 := NB222_223.out
      have hnc29 := NB223_222.out
      have hcz30_0 : wc.cell? ⟨gb222, 0, none⟩ = some (.bool x223000_3) := (blk_cell BK222.out 0).trans rfl
      have hcz30_1 : wc.cell? ⟨gb222, 1, none⟩ = some (.bool x223001_3) := (blk_cell BK222.out 1).trans rfl
      have hcz30_2 : wc.cell? ⟨gb222, 2, none⟩ = some (.bool x223002_3) := (blk_cell BK222.out 2).trans rfl
      have hcz30_3 : wc.cell? ⟨gb222, 3, none⟩ = some (.int .u64 x223003_3) := (blk_cell BK222.out 3).trans rfl
      have hcz30_4 : wc.cell? ⟨gb222, 4, none⟩ = some (.int .i64 x223004_3) := (blk_cell BK222.out 4).trans rfl
      have hfz30_0 := blk_frozen BK222.out 0
      have hfz30_1 := blk_frozen BK222.out 1
      have hfz30_2 := blk_frozen BK222.out 2
      have hfz30_3 := blk_frozen BK222.out 3
      have hfz30_4 := blk_frozen BK222.out 4
      have hnb31 := NB223_221.out
      have hnc31 := NB221_223.out
      have hcz32_0 : wc.cell? ⟨gb223, 0, none⟩ = some (.bool x224000_3) := (blk_cell BK223.out 0).trans rfl
      have hcz32_1 : wc.cell? ⟨gb223, 1, none⟩ = some (.bool x224001_3) := (blk_cell BK223.out 1).trans rfl
      have hcz32_2 : wc.cell? ⟨gb223, 2, none⟩ = some (.bool x224002_3) := (blk_cell BK223.out 2).trans rfl
      have hcz32_3 : wc.cell? ⟨gb223, 3, none⟩ = some (.int .u64 x224003_3) := (blk_cell BK223.out 3).trans rfl
      have hcz32_4 : wc.cell? ⟨gb223, 4, none⟩ = some (.int .i64 x224004_3) := (blk_cell BK223.out 4).trans rfl
      have hfz32_0 := blk_frozen BK223.out 0
      have hfz32_1 := blk_frozen BK223.out 1
      have hfz32_2 := blk_frozen BK223.out 2
      have hfz32_3 := blk_frozen BK223.out 3
      have hfz32_4 := blk_frozen BK223.out 4
      have hcz33_0 : wc.cell? ⟨gb221, 0, none⟩ = some (.int .i64 a0_0) := (blk_cell BK221.out 0).trans rfl
      have hcz33_1 : wc.cell? ⟨gb221, 1, none⟩ = some (.int .i64 a0_1) := (blk_cell BK221.out 1).trans rfl
      have hfz33_0 := blk_frozen BK221.out 0
      have hfz33_1 := blk_frozen BK221.out 1
      go_wp2_with (first | (go_at_call 55; (with_reducible refine (impl_format_round.calls kj3 a0_0 a0_1 x223000_3 (IntKind.u64.wrap ((ji25) + x224003_3)) x224004_3 false t224 _ A27.out).mono ?_); rintro e w34 ⟨rfl, hb⟩; have n0_ := Aside0.mk (blk_below (g := gb221) (o := .cells #[.int .i64 a0_0, .int .i64 a0_1] 62 (0, 0)) (by (with_reducible repeat (first | refine blk_drewN ?_ _ | refine blk_drew ?_ | refine blk_alloc ?_ _)); refine blk_far ?_ NB221_222.out _; (with_reducible repeat (first | refine blk_drewN ?_ _ | refine blk_drew ?_ | refine blk_alloc ?_ _)); exact BK221.out) hb); have n1_ := Aside0.mk (blk_below (g := gb222) (o := .cells #[.bool x223000_3, .bool x223001_3, .bool x223002_3, .int .u64 ji25, .int .i64 x223004_3] 66 (0, 0)) (by (with_reducible repeat (first | refine blk_drewN ?_ _ | refine blk_drew ?_ | refine blk_alloc ?_ _)); refine blk_put (cs := #[.bool x223000_3, .bool x223001_3, .bool x223002_3, .int .u64 x223003_3, .int .i64 x223004_3]) ?_ 3 _ rfl; (with_reducible repeat (first | refine blk_drewN ?_ _ | refine blk_drew ?_ | refine blk_alloc ?_ _)); exact BK222.out) hb); have n2_ := Aside0.mk (blk_below (g := gb223) (o := .cells #[.bool x224000_3, .bool x224001_3, .bool x224002_3, .int .u64 x224003_3, .int .i64 x224004_3] 66 (0, 0)) (by (with_reducible repeat (first | refine blk_drewN ?_ _ | refine blk_drew ?_ | refine blk_alloc ?_ _)); refine blk_far ?_ NB223_222.out _; (with_reducible repeat (first | refine blk_drewN ?_ _ | refine blk_drew ?_ | refine blk_alloc ?_ _)); exact BK223.out) hb); have n3_ := Aside0.mk (below_step (bw HB.out) hb); clear BK221; clear BK222; clear BK223; clear HB; have BK221 := n0_; have BK222 := n1_; have BK223 := n2_; have HB := n3_; clear n0_ n1_ n2_ n3_; (try clear hb); (try clear hb2); (try clear hk); (try clear hi)))
      repeat (go_quiet (first | (go_at_call 55; (with_reducible refine (impl_format_round.calls kj3 a0_0 a0_1 x223000_3 (IntKind.u64.wrap ((ji25) + x224003_3)) x224004_3 false t224 _ A27.out).mono ?_); rintro e w34 ⟨rfl, hb⟩; have n0_ := Aside0.mk (blk_below (g := gb221) (o := .cells #[.int .i64 a0_0, .int .i64 a0_1] 62 (0, 0)) (by (with_reducible repeat (first | refine blk_drewN ?_ _ | refine blk_drew ?_ | refine blk_alloc ?_ _)); refine blk_far ?_ NB221_222.out _; (with_reducible repeat (first | refine blk_drewN ?_ _ | refine blk_drew ?_ | refine blk_alloc ?_ _)); exact BK221.out) hb); have n1_ := Aside0.mk (blk_below (g := gb222) (o := .cells #[.bool x223000_3, .bool x223001_3, .bool x223002_3, .int .u64 ji25, .int .i64 x223004_3] 66 (0, 0)) (by (with_reducible repeat (first | refine blk_drewN ?_ _ | refine blk_drew ?_ | refine blk_alloc ?_ _)); refine blk_put (cs := #[.bool x223000_3, .bool x223001_3, .bool x223002_3, .int .u64 x223003_3, .int .i64 x223004_3]) ?_ 3 _ rfl; (with_reducible repeat (first | refine blk_drewN ?_ _ | refine blk_drew ?_ | refine blk_alloc ?_ _)); exact BK222.out) hb); have n2_ := Aside0.mk (blk_below (g := gb223) (o := .cells #[.bool x224000_3, .bool x224001_3, .bool x224002_3, .int .u64 x224003_3, .int .i64 x224004_3] 66 (0, 0)) (by (with_reducible repeat (first | refine blk_drewN ?_ _ | refine blk_drew ?_ | refine blk_alloc ?_ _)); refine blk_far ?_ NB223_222.out _; (with_reducible repeat (first | refine blk_drewN ?_ _ | refine blk_drew ?_ | refine blk_alloc ?_ _)); exact BK223.out) hb); have n3_ := Aside0.mk (below_step (bw HB.out) hb); clear BK221; clear BK222; clear BK223; clear HB; have BK221 := n0_; have BK222 := n1_; have BK223 := n2_; have HB := n3_; clear n0_ n1_ n2_ n3_; (try clear hb); (try clear hb2); (try clear hk); (try clear hi))); try go_wp2_with (first | (go_at_call 55; (with_reducible refine (impl_format_round.calls kj3 a0_0 a0_1 x223000_3 (IntKind.u64.wrap ((ji25) + x224003_3)) x224004_3 false t224 _ A27.out).mono ?_); rintro e w34 ⟨rfl, hb⟩; have n0_ := Aside0.mk (blk_below (g := gb221) (o := .cells #[.int .i64 a0_0, .int .i64 a0_1] 62 (0, 0)) (by (with_reducible repeat (first | refine blk_drewN ?_ _ | refine blk_drew ?_ | refine blk_alloc ?_ _)); refine blk_far ?_ NB221_222.out _; (with_reducible repeat (first | refine blk_drewN ?_ _ | refine blk_drew ?_ | refine blk_alloc ?_ _)); exact BK221.out) hb); have n1_ := Aside0.mk (blk_below (g := gb222) (o := .cells #[.bool x223000_3, .bool x223001_3, .bool x223002_3, .int .u64 ji25, .int .i64 x223004_3] 66 (0, 0)) (by (with_reducible repeat (first | refine blk_drewN ?_ _ | refine blk_drew ?_ | refine blk_alloc ?_ _)); refine blk_put (cs := #[.bool x223000_3, .bool x223001_3, .bool x223002_3, .int .u64 x223003_3, .int .i64 x223004_3]) ?_ 3 _ rfl; (with_reducible repeat (first | refine blk_drewN ?_ _ | refine blk_drew ?_ | refine blk_alloc ?_ _)); exact BK222.out) hb); have n2_ := Aside0.mk (blk_below (g := gb223) (o := .cells #[.bool x224000_3, .bool x224001_3, .bool x224002_3, .int .u64 x224003_3, .int .i64 x224004_3] 66 (0, 0)) (by (with_reducible repeat (first | refine blk_drewN ?_ _ | refine blk_drew ?_ | refine blk_alloc ?_ _)); refine blk_far ?_ NB223_222.out _; (with_reducible repeat (first | refine blk_drewN ?_ _ | refine blk_drew ?_ | refine blk_alloc ?_ _)); exact BK223.out) hb); have n3_ := Aside0.mk (below_step (bw HB.out) hb); clear BK221; clear BK222; clear BK223; clear HB; have BK221 := n0_; have BK222 := n1_; have BK223 := n2_; have HB := n3_; clear n0_ n1_ n2_ n3_; (try clear hb); (try clear hb2); (try clear hk); (try clear hi))))
      go_ret
      exact ⟨by first | rfl | (simp [errW_none, errW_some] <;> rfl) | (simp only [← hji23, ← hji25]; first | rfl | (simp [errW_none, errW_some] <;> rfl)) | (simp [*, errW_none, errW_some] <;> rfl), bw HB.out⟩
     ·
      rw [if_neg c26] at H
      have c26b0 : (x223000_3 == x224000_3) = false := by simpa using c26
      (try (have c26b1 : decide (x223000_3 = x224000_3) = false := by simpa using c26))
      (try (have c26b2 : (x223000_3 == x224000_3) = false := by simpa using c26))
      (try (have c26b3 : ¬ (x223000_3 = x224000_3) := by simpa using c26))
      clear c26
      by_cases c35 : (ji25) > x224003_3
      ·
       rw [if_pos c35] at H
       have c35b0 : decide (x224003_3 < (ji25)) = true := decide_eq_true c35
       clear c35
       replace H := Option.bind_eq_some_iff.mp H
       obtain ⟨t225, A360, H⟩ := H
       replace H : (some t225) = some r := H
       have A36 := Aside0.mk A360
       clear A360
       obtain rfl := Option.some.inj H
       simp only [Option.some.injEq, Prod.mk.injEq] at H
       obtain ⟨rfl⟩ := H
       have hnb37 := NB222_221.out
       have hnc37 := NB221_222.out
       have hnb38 := NB222_223.out
       have hnc38 := NB223_222.out
       have hcz39_0 : wc.cell? ⟨gb222, 0, none⟩ = some (.bool x223000_3) := (blk_cell BK222.out 0).trans rfl
       have hcz39_1 : wc.cell? ⟨gb222, 1, none⟩ = some (.bool x223001_3) := (blk_cell BK222.out 1).trans rfl
       have hcz39_2 : wc.cell? ⟨gb222, 2, none⟩ = some (.bool x223002_3) := (blk_cell BK222.out 2).trans rfl
       have hcz39_3 : wc.cell? ⟨gb222, 3, none⟩ = some (.int .u64 x223003_3) := (blk_cell BK222.out 3).trans rfl
       have hcz39_4 : wc.cell? ⟨gb222, 4, none⟩ = some (.int .i64 x223004_3) := (blk_cell BK222.out 4).trans rfl
       have hfz39_0 := blk_frozen BK222.out 0
       have hfz39_1 := blk_frozen BK222.out 1
       have hfz39_2 := blk_frozen BK222.out 2
       have hfz39_3 := blk_frozen BK222.out 3
       have hfz39_4 := blk_frozen BK222.out 4
       have hnb40 := NB223_221.out
       have hnc40 := NB221_223.out
       have hcz41_0 : wc.cell? ⟨gb223, 0, none⟩ = some (.bool x224000_3) := (blk_cell BK223.out 0).trans rfl
       have hcz41_1 : wc.cell? ⟨gb223, 1, none⟩ = some (.bool x224001_3) := (blk_cell BK223.out 1).trans rfl
       have hcz41_2 : wc.cell? ⟨gb223, 2, none⟩ = some (.bool x224002_3) := (blk_cell BK223.out 2).trans rfl
       have hcz41_3 : wc.cell? ⟨gb223, 3, none⟩ = some (.int .u64 x224003_3) := (blk_cell BK223.out 3).trans rfl
       have hcz41_4 : wc.cell? ⟨gb223, 4, none⟩ = some (.int .i64 x224004_3) := (blk_cell BK223.out 4).trans rfl
       have hfz41_0 := blk_frozen BK223.out 0
       have hfz41_1 := blk_frozen BK223.out 1
       have hfz41_2 := blk_frozen BK223.out 2
       have hfz41_3 := blk_frozen BK223.out 3
       have hfz41_4 := blk_frozen BK223.out 4
       have hcz42_0 : wc.cell? ⟨gb221, 0, none⟩ = some (.int .i64 a0_0) := (blk_cell BK221.out 0).trans rfl
       have hcz42_1 : wc.cell? ⟨gb221, 1, none⟩ = some (.int .i64 a0_1) := (blk_cell BK221.out 1).trans rfl
       have hfz42_0 := blk_frozen BK221.out 0
       have hfz42_1 := blk_frozen BK221.out 1
       go_wp2_with (first | (go_at_call 55; (with_reducible refine (impl_format_round.calls kj3 a0_0 a0_1 x223000_3 (IntKind.u64.wrap ((ji25) - x224003_3)) x224004_3 false t225 _ A36.out).mono ?_); rintro e w43 ⟨rfl, hb⟩; have n0_ := Aside0.mk (blk_below (g := gb221) (o := .cells #[.int .i64 a0_0, .int .i64 a0_1] 62 (0, 0)) (by (with_reducible repeat (first | refine blk_drewN ?_ _ | refine blk_drew ?_ | refine blk_alloc ?_ _)); refine blk_far ?_ NB221_222.out _; (with_reducible repeat (first | refine blk_drewN ?_ _ | refine blk_drew ?_ | refine blk_alloc ?_ _)); exact BK221.out) hb); have n1_ := Aside0.mk (blk_below (g := gb222) (o := .cells #[.bool x223000_3, .bool x223001_3, .bool x223002_3, .int .u64 ji25, .int .i64 x223004_3] 66 (0, 0)) (by (with_reducible repeat (first | refine blk_drewN ?_ _ | refine blk_drew ?_ | refine blk_alloc ?_ _)); refine blk_put (cs := #[.bool x223000_3, .bool x223001_3, .bool x223002_3, .int .u64 x223003_3, .int .i64 x223004_3]) ?_ 3 _ rfl; (with_reducible repeat (first | refine blk_drewN ?_ _ | refine blk_drew ?_ | refine blk_alloc ?_ _)); exact BK222.out) hb); have n2_ := Aside0.mk (blk_below (g := gb223) (o := .cells #[.bool x224000_3, .bool x224001_3, .bool x224002_3, .int .u64 x224003_3, .int .i64 x224004_3] 66 (0, 0)) (by (with_reducible repeat (first | refine blk_drewN ?_ _ | refine blk_drew ?_ | refine blk_alloc ?_ _)); refine blk_far ?_ NB223_222.out _; (with_reducible repeat (first | refine blk_drewN ?_ _ | refine blk_drew ?_ | refine blk_alloc ?_ _)); exact BK223.out) hb); have n3_ := Aside0.mk (below_step (bw HB.out) hb); clear BK221; clear BK222; clear BK223; clear HB; have BK221 := n0_; have BK222 := n1_; have BK223 := n2_; have HB := n3_; clear n0_ n1_ n2_ n3_; (try clear hb); (try clear hb2); (try clear hk); (try clear hi)))
       repeat (go_quiet (first | (go_at_call 55; (with_reducible refine (impl_format_round.calls kj3 a0_0 a0_1 x223000_3 (IntKind.u64.wrap ((ji25) - x224003_3)) x224004_3 false t225 _ A36.out).mono ?_); rintro e w43 ⟨rfl, hb⟩; have n0_ := Aside0.mk (blk_below (g := gb221) (o := .cells #[.int .i64 a0_0, .int .i64 a0_1] 62 (0, 0)) (by (with_reducible repeat (first | refine blk_drewN ?_ _ | refine blk_drew ?_ | refine blk_alloc ?_ _)); refine blk_far ?_ NB221_222.out _; (with_reducible repeat (first | refine blk_drewN ?_ _ | refine blk_drew ?_ | refine blk_alloc ?_ _)); exact BK221.out) hb); have n1_ := Aside0.mk (blk_below (g := gb222) (o := .cells #[.bool x223000_3, .bool x223001_3, .bool x223002_3, .int .u64 ji25, .int .i64 x223004_3] 66 (0, 0)) (by (with_reducible repeat (first | refine blk_drewN ?_ _ | refine blk_drew ?_ | refine blk_alloc ?_ _)); refine blk_put (cs := #[.bool x223000_3, .bool x223001_3, .bool x223002_3, .int .u64 x223003_3, .int .i64 x223004_3]) ?_ 3 _ rfl; (with_reducible repeat (first | refine blk_drewN ?_ _ | refine blk_drew ?_ | refine blk_alloc ?_ _)); exact BK222.out) hb); have n2_ := Aside0.mk (blk_below (g := gb223) (o := .cells #[.bool x224000_3, .bool x224001_3, .bool x224002_3, .int .u64 x224003_3, .int .i64 x224004_3] 66 (0, 0)) (by (with_reducible repeat (first | refine blk_drewN ?_ _ | refine blk_drew ?_ | refine blk_alloc ?_ _)); refine blk_far ?_ NB223_222.out _; (with_reducible repeat (first | refine blk_drewN ?_ _ | refine blk_drew ?_ | refine blk_alloc ?_ _)); exact BK223.out) hb); have n3_ := Aside0.mk (below_step (bw HB.out) hb); clear BK221; clear BK222; clear BK223; clear HB; have BK221 := n0_; have BK222 := n1_; have BK223 := n2_; have HB := n3_; clear n0_ n1_ n2_ n3_; (try clear hb); (try clear hb2); (try clear hk); (try clear hi))); try go_wp2_with (first | (go_at_call 55; (with_reducible refine (impl_format_round.calls kj3 a0_0 a0_1 x223000_3 (IntKind.u64.wrap ((ji25) - x224003_3)) x224004_3 false t225 _ A36.out).mono ?_); rintro e w43 ⟨rfl, hb⟩; have n0_ := Aside0.mk (blk_below (g := gb221) (o := .cells #[.int .i64 a0_0, .int .i64 a0_1] 62 (0, 0)) (by (with_reducible repeat (first | refine blk_drewN ?_ _ | refine blk_drew ?_ | refine blk_alloc ?_ _)); refine blk_far ?_ NB221_222.out _; (with_reducible repeat (first | refine blk_drewN ?_ _ | refine blk_drew ?_ | refine blk_alloc ?_ _)); exact BK221.out) hb); have n1_ := Aside0.mk (blk_below (g := gb222) (o := .cells #[.bool x223000_3, .bool x223001_3, .bool x223002_3, .int .u64 ji25, .int .i64 x223004_3] 66 (0, 0)) (by (with_reducible repeat (first | refine blk_drewN ?_ _ | refine blk_drew ?_ | refine blk_alloc ?_ _)); refine blk_put (cs := #[.bool x223000_3, .bool x223001_3, .bool x223002_3, .int .u64 x223003_3, .int .i64 x223004_3]) ?_ 3 _ rfl; (with_reducible repeat (first | refine blk_drewN ?_ _ | refine blk_drew ?_ | refine blk_alloc ?_ _)); exact BK222.out) hb); have n2_ := Aside0.mk (blk_below (g := gb223) (o := .cells #[.bool x224000_3, .bool x224001_3, .bool x224002_3, .int .u64 x224003_3, .int .i64 x224004_3] 66 (0, 0)) (by (with_reducible repeat (first | refine blk_drewN ?_ _ | refine blk_drew ?_ | refine blk_alloc ?_ _)); refine blk_far ?_ NB223_222.out _; (with_reducible repeat (first | refine blk_drewN ?_ _ | refine blk_drew ?_ | refine blk_alloc ?_ _)); exact BK223.out) hb); have n3_ := Aside0.mk (below_step (bw HB.out) hb); clear BK221; clear BK222; clear BK223; clear HB; have BK221 := n0_; have BK222 := n1_; have BK223 := n2_; have HB := n3_; clear n0_ n1_ n2_ n3_; (try clear hb); (try clear hb2); (try clear hk); (try clear hi))))
       go_ret
       exact ⟨by first | rfl | (simp [errW_none, errW_some] <;> rfl) | (simp only [← hji23, ← hji25]; first | rfl | (simp [errW_none, errW_some] <;> rfl)) | (simp [*, errW_none, errW_some] <;> rfl), bw HB.out⟩
      ·
       rw [if_neg c35] at H
       have c35b0 : decide (x224003_3 < (ji25)) = false := decide_eq_false c35
       clear c35
       by_cases c44 : (ji25) < x224003_3
       ·
        rw [if_pos c44] at H
        have c44b0 : decide ((ji25) < x224003_3) = true := decide_eq_true c44
        clear c44
        replace H := Option.bind_eq_some_iff.mp H
        obtain ⟨t226, A450, H⟩ := H
        replace H : (some t226) = some r := H
        have A45 := Aside0.mk A450
        clear A450
        obtain rfl := Option.some.inj H
        simp only [Option.some.injEq, Prod.mk.injEq] at H
        obtain ⟨rfl⟩ := H
        have hnb46 := NB222_221.out
        have hnc46 := NB221_222.out
        have hnb47 := NB222_223.out
        have hnc47 := NB223_222.out
        have hcz48_0 : wc.cell? ⟨gb222, 0, none⟩ = some (.bool x223000_3) := (blk_cell BK222.out 0).trans rfl
        have hcz48_1 : wc.cell? ⟨gb222, 1, none⟩ = some (.bool x223001_3) := (blk_cell BK222.out 1).trans rfl
        have hcz48_2 : wc.cell? ⟨gb222, 2, none⟩ = some (.bool x223002_3) := (blk_cell BK222.out 2).trans rfl
        have hcz48_3 : wc.cell? ⟨gb222, 3, none⟩ = some (.int .u64 x223003_3) := (blk_cell BK222.out 3).trans rfl
        have hcz48_4 : wc.cell? ⟨gb222, 4, none⟩ = some (.int .i64 x223004_3) := (blk_cell BK222.out 4).trans rfl
        have hfz48_0 := blk_frozen BK222.out 0
        have hfz48_1 := blk_frozen BK222.out 1
        have hfz48_2 := blk_frozen BK222.out 2
        have hfz48_3 := blk_frozen BK222.out 3
        have hfz48_4 := blk_frozen BK222.out 4
        have hnb49 := NB223_221.out
        have hnc49 := NB221_223.out
        have hcz50_0 : wc.cell? ⟨gb223, 0, none⟩ = some (.bool x224000_3) := (blk_cell BK223.out 0).trans rfl
        have hcz50_1 : wc.cell? ⟨gb223, 1, none⟩ = some (.bool x224001_3) := (blk_cell BK223.out 1).trans rfl
        have hcz50_2 : wc.cell? ⟨gb223, 2, none⟩ = some (.bool x224002_3) := (blk_cell BK223.out 2).trans rfl
        have hcz50_3 : wc.cell? ⟨gb223, 3, none⟩ = some (.int .u64 x224003_3) := (blk_cell BK223.out 3).trans rfl
        have hcz50_4 : wc.cell? ⟨gb223, 4, none⟩ = some (.int .i64 x224004_3) := (blk_cell BK223.out 4).trans rfl
        have hfz50_0 := blk_frozen BK223.out 0
        have hfz50_1 := blk_frozen BK223.out 1
        have hfz50_2 := blk_frozen BK223.out 2
        have hfz50_3 := blk_frozen BK223.out 3
        have hfz50_4 := blk_frozen BK223.out 4
        have hcz51_0 : wc.cell? ⟨gb221, 0, none⟩ = some (.int .i64 a0_0) := (blk_cell BK221.out 0).trans rfl
        have hcz51_1 : wc.cell? ⟨gb221, 1, none⟩ = some (.int .i64 a0_1) := (blk_cell BK221.out 1).trans rfl
        have hfz51_0 := blk_frozen BK221.out 0
        have hfz51_1 := blk_frozen BK221.out 1
        go_wp2_with (first | (go_at_call 55; (with_reducible refine (impl_format_round.calls kj3 a0_0 a0_1 x224000_3 (IntKind.u64.wrap (x224003_3 - (ji25))) x224004_3 false t226 _ A45.out).mono ?_); rintro e w52 ⟨rfl, hb⟩; have n0_ := Aside0.mk (blk_below (g := gb221) (o := .cells #[.int .i64 a0_0, .int .i64 a0_1] 62 (0, 0)) (by (with_reducible repeat (first | refine blk_drewN ?_ _ | refine blk_drew ?_ | refine blk_alloc ?_ _)); refine blk_far ?_ NB221_222.out _; (with_reducible repeat (first | refine blk_drewN ?_ _ | refine blk_drew ?_ | refine blk_alloc ?_ _)); exact BK221.out) hb); have n1_ := Aside0.mk (blk_below (g := gb222) (o := .cells #[.bool x223000_3, .bool x223001_3, .bool x223002_3, .int .u64 ji25, .int .i64 x223004_3] 66 (0, 0)) (by (with_reducible repeat (first | refine blk_drewN ?_ _ | refine blk_drew ?_ | refine blk_alloc ?_ _)); refine blk_put (cs := #[.bool x223000_3, .bool x223001_3, .bool x223002_3, .int .u64 x223003_3, .int .i64 x223004_3]) ?_ 3 _ rfl; (with_reducible repeat (first | refine blk_drewN ?_ _ | refine blk_drew ?_ | refine blk_alloc ?_ _)); exact BK222.out) hb); have n2_ := Aside0.mk (blk_below (g := gb223) (o := .cells #[.bool x224000_3, .bool x224001_3, .bool x224002_3, .int .u64 x224003_3, .int .i64 x224004_3] 66 (0, 0)) (by (with_reducible repeat (first | refine blk_drewN ?_ _ | refine blk_drew ?_ | refine blk_alloc ?_ _)); refine blk_far ?_ NB223_222.out _; (with_reducible repeat (first | refine blk_drewN ?_ _ | refine blk_drew ?_ | refine blk_alloc ?_ _)); exact BK223.out) hb); have n3_ := Aside0.mk (below_step (bw HB.out) hb); clear BK221; clear BK222; clear BK223; clear HB; have BK221 := n0_; have BK222 := n1_; have BK223 := n2_; have HB := n3_; clear n0_ n1_ n2_ n3_; (try clear hb); (try clear hb2); (try clear hk); (try clear hi)))
        repeat (go_quiet (first | (go_at_call 55; (with_reducible refine (impl_format_round.calls kj3 a0_0 a0_1 x224000_3 (IntKind.u64.wrap (x224003_3 - (ji25))) x224004_3 false t226 _ A45.out).mono ?_); rintro e w52 ⟨rfl, hb⟩; have n0_ := Aside0.mk (blk_below (g := gb221) (o := .cells #[.int .i64 a0_0, .int .i64 a0_1] 62 (0, 0)) (by (with_reducible repeat (first | refine blk_drewN ?_ _ | refine blk_drew ?_ | refine blk_alloc ?_ _)); refine blk_far ?_ NB221_222.out _; (with_reducible repeat (first | refine blk_drewN ?_ _ | refine blk_drew ?_ | refine blk_alloc ?_ _)); exact BK221.out) hb); have n1_ := Aside0.mk (blk_below (g := gb222) (o := .cells #[.bool x223000_3, .bool x223001_3, .bool x223002_3, .int .u64 ji25, .int .i64 x223004_3] 66 (0, 0)) (by (with_reducible repeat (first | refine blk_drewN ?_ _ | refine blk_drew ?_ | refine blk_alloc ?_ _)); refine blk_put (cs := #[.bool x223000_3, .bool x223001_3, .bool x223002_3, .int .u64 x223003_3, .int .i64 x223004_3]) ?_ 3 _ rfl; (with_reducible repeat (first | refine blk_drewN ?_ _ | refine blk_drew ?_ | refine blk_alloc ?_ _)); exact BK222.out) hb); have n2_ := Aside0.mk (blk_below (g := gb223) (o := .cells #[.bool x224000_3, .bool x224001_3, .bool x224002_3, .int .u64 x224003_3, .int .i64 x224004_3] 66 (0, 0)) (by (with_reducible repeat (first | refine blk_drewN ?_ _ | refine blk_drew ?_ | refine blk_alloc ?_ _)); refine blk_far ?_ NB223_222.out _; (with_reducible repeat (first | refine blk_drewN ?_ _ | refine blk_drew ?_ | refine blk_alloc ?_ _)); exact BK223.out) hb); have n3_ := Aside0.mk (below_step (bw HB.out) hb); clear BK221; clear BK222; clear BK223; clear HB; have BK221 := n0_; have BK222 := n1_; have BK223 := n2_; have HB := n3_; clear n0_ n1_ n2_ n3_; (try clear hb); (try clear hb2); (try clear hk); (try clear hi))); try go_wp2_with (first | (go_at_call 55; (with_reducible refine (impl_format_round.calls kj3 a0_0 a0_1 x224000_3 (IntKind.u64.wrap (x224003_3 - (ji25))) x224004_3 false t226 _ A45.out).mono ?_); rintro e w52 ⟨rfl, hb⟩; have n0_ := Aside0.mk (blk_below (g := gb221) (o := .cells #[.int .i64 a0_0, .int .i64 a0_1] 62 (0, 0)) (by (with_reducible repeat (first | refine blk_drewN ?_ _ | refine blk_drew ?_ | refine blk_alloc ?_ _)); refine blk_far ?_ NB221_222.out _; (with_reducible repeat (first | refine blk_drewN ?_ _ | refine blk_drew ?_ | refine blk_alloc ?_ _)); exact BK221.out) hb); have n1_ := Aside0.mk (blk_below (g := gb222) (o := .cells #[.bool x223000_3, .bool x223001_3, .bool x223002_3, .int .u64 ji25, .int .i64 x223004_3] 66 (0, 0)) (by (with_reducible repeat (first | refine blk_drewN ?_ _ | refine blk_drew ?_ | refine blk_alloc ?_ _)); refine blk_put (cs := #[.bool x223000_3, .bool x223001_3, .bool x223002_3, .int .u64 x223003_3, .int .i64 x223004_3]) ?_ 3 _ rfl; (with_reducible repeat (first | refine blk_drewN ?_ _ | refine blk_drew ?_ | refine blk_alloc ?_ _)); exact BK222.out) hb); have n2_ := Aside0.mk (blk_below (g := gb223) (o := .cells #[.bool x224000_3, .bool x224001_3, .bool x224002_3, .int .u64 x224003_3, .int .i64 x224004_3] 66 (0, 0)) (by (with_reducible repeat (first | refine blk_drewN ?_ _ | refine blk_drew ?_ | refine blk_alloc ?_ _)); refine blk_far ?_ NB223_222.out _; (with_reducible repeat (first | refine blk_drewN ?_ _ | refine blk_drew ?_ | refine blk_alloc ?_ _)); exact BK223.out) hb); have n3_ := Aside0.mk (below_step (bw HB.out) hb); clear BK221; clear BK222; clear BK223; clear HB; have BK221 := n0_; have BK222 := n1_; have BK223 := n2_; have HB := n3_; clear n0_ n1_ n2_ n3_; (try clear hb); (try clear hb2); (try clear hk); (try clear hi))))
        go_ret
        exact ⟨by first | rfl | (simp [errW_none, errW_some] <;> rfl) | (simp only [← hji23, ← hji25]; first | rfl | (simp [errW_none, errW_some] <;> rfl)) | (simp [*, errW_none, errW_some] <;> rfl), bw HB.out⟩
       ·
        rw [if_neg c44] at H
        have c44b0 : decide ((ji25) < x224003_3) = false := decide_eq_false c44
        clear c44
        obtain rfl := Option.some.inj H
        simp only [Option.some.injEq, Prod.mk.injEq] at H
        obtain ⟨rfl⟩ := H
        have hnb53 := NB222_221.out
        have hnc53 := NB221_222.out
        have hnb54 := NB222_223.out
        have hnc54 := NB223_222.out
        have hcz55_0 : wc.cell? ⟨gb222, 0, none⟩ = some (.bool x223000_3) := (blk_cell BK222.out 0).trans rfl
        have hcz55_1 : wc.cell? ⟨gb222, 1, none⟩ = some (.bool x223001_3) := (blk_cell BK222.out 1).trans rfl
        have hcz55_2 : wc.cell? ⟨gb222, 2, none⟩ = some (.bool x223002_3) := (blk_cell BK222.out 2).trans rfl
        have hcz55_3 : wc.cell? ⟨gb222, 3, none⟩ = some (.int .u64 x223003_3) := (blk_cell BK222.out 3).trans rfl
        have hcz55_4 : wc.cell? ⟨gb222, 4, none⟩ = some (.int .i64 x223004_3) := (blk_cell BK222.out 4).trans rfl
        have hfz55_0 := blk_frozen BK222.out 0
        have hfz55_1 := blk_frozen BK222.out 1
        have hfz55_2 := blk_frozen BK222.out 2
        have hfz55_3 := blk_frozen BK222.out 3
        have hfz55_4 := blk_frozen BK222.out 4
        have hnb56 := NB223_221.out
        have hnc56 := NB221_223.out
        have hcz57_0 : wc.cell? ⟨gb223, 0, none⟩ = some (.bool x224000_3) := (blk_cell BK223.out 0).trans rfl
        have hcz57_1 : wc.cell? ⟨gb223, 1, none⟩ = some (.bool x224001_3) := (blk_cell BK223.out 1).trans rfl
        have hcz57_2 : wc.cell? ⟨gb223, 2, none⟩ = some (.bool x224002_3) := (blk_cell BK223.out 2).trans rfl
        have hcz57_3 : wc.cell? ⟨gb223, 3, none⟩ = some (.int .u64 x224003_3) := (blk_cell BK223.out 3).trans rfl
        have hcz57_4 : wc.cell? ⟨gb223, 4, none⟩ = some (.int .i64 x224004_3) := (blk_cell BK223.out 4).trans rfl
        have hfz57_0 := blk_frozen BK223.out 0
        have hfz57_1 := blk_frozen BK223.out 1
        have hfz57_2 := blk_frozen BK223.out 2
        have hfz57_3 := blk_frozen BK223.out 3
        have hfz57_4 := blk_frozen BK223.out 4
        go_wp2
        repeat (go_quiet (fail); try go_wp2)
        go_ret
        exact ⟨by first | rfl | (simp [errW_none, errW_some] <;> rfl) | (simp only [← hji23, ← hji25]; first | rfl | (simp [errW_none, errW_some] <;> rfl)) | (simp [*, errW_none, errW_some] <;> rfl), bw HB.out⟩
    ·
     rw [if_neg c24] at H
     exact absurd H (by simp)
   ·
    rw [if_neg c22] at H
    have c22b0 : decide ((wrap64 (x223004_3 - x224004_3)) ≤ 35) = false := decide_eq_false c22
    clear c22
    have HC58 := Aside0.mk H
    clear H
    have hnb59 := NB222_221.out
    have hnc59 := NB221_222.out
    have hnb60 := NB222_223.out
    have hnc60 := NB223_222.out
    have hcz61_0 : wc.cell? ⟨gb222, 0, none⟩ = some (.bool x223000_3) := (blk_cell BK222.out 0).trans rfl
    have hcz61_1 : wc.cell? ⟨gb222, 1, none⟩ = some (.bool x223001_3) := (blk_cell BK222.out 1).trans rfl
    have hcz61_2 : wc.cell? ⟨gb222, 2, none⟩ = some (.bool x223002_3) := (blk_cell BK222.out 2).trans rfl
    have hcz61_3 : wc.cell? ⟨gb222, 3, none⟩ = some (.int .u64 x223003_3) := (blk_cell BK222.out 3).trans rfl
    have hcz61_4 : wc.cell? ⟨gb222, 4, none⟩ = some (.int .i64 x223004_3) := (blk_cell BK222.out 4).trans rfl
    have hfz61_0 := blk_frozen BK222.out 0
    have hfz61_1 := blk_frozen BK222.out 1
    have hfz61_2 := blk_frozen BK222.out 2
    have hfz61_3 := blk_frozen BK222.out 3
    have hfz61_4 := blk_frozen BK222.out 4
    have hnb62 := NB223_221.out
    have hnc62 := NB221_223.out
    have hcz63_0 : wc.cell? ⟨gb223, 0, none⟩ = some (.bool x224000_3) := (blk_cell BK223.out 0).trans rfl
    have hcz63_1 : wc.cell? ⟨gb223, 1, none⟩ = some (.bool x224001_3) := (blk_cell BK223.out 1).trans rfl
    have hcz63_2 : wc.cell? ⟨gb223, 2, none⟩ = some (.bool x224002_3) := (blk_cell BK223.out 2).trans rfl
    have hcz63_3 : wc.cell? ⟨gb223, 3, none⟩ = some (.int .u64 x224003_3) := (blk_cell BK223.out 3).trans rfl
    have hcz63_4 : wc.cell? ⟨gb223, 4, none⟩ = some (.int .i64 x224004_3) := (blk_cell BK223.out 4).trans rfl
    have hfz63_0 := blk_frozen BK223.out 0
    have hfz63_1 := blk_frozen BK223.out 1
    have hfz63_2 := blk_frozen BK223.out 2
    have hfz63_3 := blk_frozen BK223.out 3
    have hfz63_4 := blk_frozen BK223.out 4
    go_upto_if 90 with (fail)
    repeat (go_quiet (fail); go_upto_if 90 with (fail))
    go_cut [10, 11] (fun v10 v11 wc => ∃ (kq : Nat) (x10_57 : Int) (x11_57 : Bool), v10 = .int .u64 x10_57 ∧ v11 = .bool x11_57 ∧ Aside0 (impl_format_sum.j1 kq (IntKind.u64.wrap (x223003_3 * 34359738368)) x10_57 x11_57 a0_0 a0_1 x223000_3 x223001_3 x223002_3 x223003_3 x223004_3 x224000_3 x224001_3 x224002_3 x224003_3 x224004_3 = some r) ∧ Aside0 (kq ≤ kj3) ∧ Aside0 (wc.heap[gb221]? = some (.cells #[.int .i64 a0_0, .int .i64 a0_1] 62 (0, 0))) ∧ Aside0 (wc.heap[gb222]? = some (.cells #[.bool x223000_3, .bool x223001_3, .bool x223002_3, .int .u64 x223003_3, .int .i64 x223004_3] 66 (0, 0))) ∧ Aside0 (wc.heap[gb223]? = some (.cells #[.bool x224000_3, .bool x224001_3, .bool x224002_3, .int .u64 x224003_3, .int .i64 x224004_3] 66 (0, 0))) ∧ Aside0 (Below w.heap.size w wc))
    case first =>
     have H := HC58.out
     clear HC58
     by_cases c64 : (wrap64 ((wrap64 (x223004_3 - x224004_3)) - 35)) < 64
     ·
      rw [if_pos c64] at H
      have c64b0 : decide ((wrap64 ((wrap64 (x223004_3 - x224004_3)) - 35)) < 64) = true := decide_eq_true c64
      clear c64
      (first | rw [c64b0] | (simp only [i64_w, i32_w]; rw [c64b0]) | skip)
      obtain ⟨ji65, hji65⟩ : ∃ j_ : Int, (wrap64 ((wrap64 (x223004_3 - x224004_3)) - 35)) = j_ := ⟨_, rfl⟩
      replace H : (if 0 ≤ (ji65) then (impl_format_sum.j1 kj3 (IntKind.u64.wrap (x223003_3 * 34359738368)) (shr .u64 x224003_3 (ji65)) ((shl .u64 (shr .u64 x224003_3 (ji65)) (ji65)) != x224003_3) a0_0 a0_1 x223000_3 x223001_3 x223002_3 x223003_3 x223004_3 x224000_3 x224001_3 x224002_3 x224003_3 x224004_3) else (none)) = some r := by first | (rw [hji65] at H; exact H) | (simp only [hji65] at H ⊢; exact H)
      (try rw [hji65] at c64b0)
      have hji65w : (IntKind.i64.wrap ((wrap64 (x223004_3 - x224004_3)) - 35)) = ji65 := (i64_w _).trans hji65
      by_cases c66 : 0 ≤ (ji65)
      ·
       rw [if_pos c66] at H
       have c66b0 := eq_true c66
       have c66b1 : decide (0 ≤ (ji65)) = true := decide_eq_true c66
       clear c66
       obtain ⟨ji67, hji67⟩ : ∃ j_ : Int, (shr .u64 x224003_3 (ji65)) = j_ := ⟨_, rfl⟩
       replace H : (impl_format_sum.j1 kj3 (IntKind.u64.wrap (x223003_3 * 34359738368)) ji67 ((shl .u64 (ji67) (ji65)) != x224003_3) a0_0 a0_1 x223000_3 x223001_3 x223002_3 x223003_3 x223004_3 x224000_3 x224001_3 x224002_3 x224003_3 x224004_3) = some r := by first | (rw [hji67] at H; exact H) | (simp only [hji67] at H ⊢; exact H)
       have hji67_ : (x224003_3 / 2 ^ min (ji65).toNat 64) = ji67 := hji67
       have hji67z : (ji65) ≤ 64 → (x224003_3 / 2 ^ (ji65).toNat) = ji67 := shr_small hji67
       have c68b0 := eq_true (of_decide_eq_true (by first | (with_reducible assumption) | assumption) : 0 ≤ (ji65))
       obtain ⟨ji69, hji69⟩ : ∃ j_ : Int, (shl .u64 (ji67) (ji65)) = j_ := ⟨_, rfl⟩
       replace H : (impl_format_sum.j1 kj3 (IntKind.u64.wrap (x223003_3 * 34359738368)) ji67 ((ji69) != x224003_3) a0_0 a0_1 x223000_3 x223001_3 x223002_3 x223003_3 x223004_3 x224000_3 x224001_3 x224002_3 x224003_3 x224004_3) = some r := by first | (rw [hji69] at H; exact H) | (simp only [hji69] at H ⊢; exact H)
       have hji69_ : (IntKind.u64.wrap ((ji67) * 2 ^ min (ji65).toNat 64)) = ji69 := hji69
       have hji69z : (ji65) ≤ 64 → (IntKind.u64.wrap ((ji67) * 2 ^ (ji65).toNat)) = ji69 := shl_small hji69
       have H' := Aside0.mk H
       clear H
       have hnb70 := NB223_221.out
       have hnc70 := NB221_223.out
       have hnb71 := NB223_222.out
       have hnc71 := NB222_223.out
       have hcz72_0 : wc.cell? ⟨gb223, 0, none⟩ = some (.bool x224000_3) := (blk_cell BK223.out 0).trans rfl
       have hcz72_1 : wc.cell? ⟨gb223, 1, none⟩ = some (.bool x224001_3) := (blk_cell BK223.out 1).trans rfl
       have hcz72_2 : wc.cell? ⟨gb223, 2, none⟩ = some (.bool x224002_3) := (blk_cell BK223.out 2).trans rfl
       have hcz72_3 : wc.cell? ⟨gb223, 3, none⟩ = some (.int .u64 x224003_3) := (blk_cell BK223.out 3).trans rfl
       have hcz72_4 : wc.cell? ⟨gb223, 4, none⟩ = some (.int .i64 x224004_3) := (blk_cell BK223.out 4).trans rfl
       have hfz72_0 := blk_frozen BK223.out 0
       have hfz72_1 := blk_frozen BK223.out 1
       have hfz72_2 := blk_frozen BK223.out 2
       have hfz72_3 := blk_frozen BK223.out 3
       have hfz72_4 := blk_frozen BK223.out 4
       go_wp2
       repeat (go_quiet (fail); try go_wp2)
       first | go_meet | ((simp only [← hji69]); go_meet) | ((simp only [← hji67]); go_meet) | ((simp only [← hji65]); go_meet) | ((simp only [← hji69, ← hji67, ← hji65]); go_meet)
       case rel => exact ⟨_, (ji67), (((ji69) != x224003_3)), (by first | rfl | (simp; done) | (simp only [← hji67] <;> (first | rfl | simp)) | (simp [*]; done)), (by first | rfl | (simp; done) | (simp only [← hji69] <;> (first | rfl | simp)) | (simp [*]; done)), H', ⟨by have := HJ3.out; first | omega | exact Nat.le_refl _⟩, ⟨bk BK221.out⟩, ⟨bk BK222.out⟩, ⟨bk BK223.out⟩, ⟨bw HB.out⟩⟩
      ·
       rw [if_neg c66] at H
       exact absurd H (by simp)
     ·
      rw [if_neg c64] at H
      have c64b0 : decide ((wrap64 ((wrap64 (x223004_3 - x224004_3)) - 35)) < 64) = false := decide_eq_false c64
      clear c64
      (first | rw [c64b0] | (simp only [i64_w, i32_w]; rw [c64b0]) | skip)
      have H' := Aside0.mk H
      clear H
      go_wp2
      repeat (go_quiet (fail); try go_wp2)
      go_meet
      case rel => exact ⟨_, (0), ((x224003_3 != 0)), (by first | rfl | (simp; done) | (simp [*]; done)), (by first | rfl | (simp; done) | (simp [*]; done)), H', ⟨by have := HJ3.out; first | omega | exact Nat.le_refl _⟩, ⟨bk BK221.out⟩, ⟨bk BK222.out⟩, ⟨bk BK223.out⟩, ⟨bw HB.out⟩⟩
    case rest =>
     clear HC58
     try clear c1
     try clear c2
     try clear p2
     try clear c3
     try clear c4
     try clear c5
     try clear c6
     try clear p6
     try clear c7
     try clear c8
     try clear c9
     try clear c11
     try clear c13
     try clear c13b0
     try clear c14
     try clear c15
     try clear c17
     try clear c22
     try clear c22b0
     try clear c24
     try clear c24b0
     try clear c24b1
     try clear c26
     try clear c26b0
     try clear c26b1
     try clear c26b2
     try clear c28
     try clear c29
     try clear c31
     try clear c35
     try clear c35b0
     try clear c37
     try clear c38
     try clear c40
     try clear c44
     try clear c44b0
     try clear c46
     try clear c47
     try clear c49
     try clear c53
     try clear c54
     try clear c56
     try clear c59
     try clear c60
     try clear c62
     try clear c64
     try clear c64b0
     try clear p64
     try clear c66
     try clear c66b0
     try clear c66b1
     try clear c67
     try clear c68
     try clear c68b0
     try clear c70
     try clear c71
     try clear hcz10_0 hcz10_1 hcz10_2 hcz10_3 hcz10_4
     try clear hcz12_0 hcz12_1 hcz12_2 hcz12_3 hcz12_4
     try clear hcz16_0 hcz16_1 hcz16_2 hcz16_3 hcz16_4
     try clear hcz18_0 hcz18_1 hcz18_2 hcz18_3 hcz18_4
     try clear hcz20_0 hcz20_1 hcz20_2 hcz20_3 hcz20_4
     try clear hcz30_0 hcz30_1 hcz30_2 hcz30_3 hcz30_4
     try clear hcz32_0 hcz32_1 hcz32_2 hcz32_3 hcz32_4
     try clear hcz33_0 hcz33_1
     try clear hcz39_0 hcz39_1 hcz39_2 hcz39_3 hcz39_4
     try clear hcz41_0 hcz41_1 hcz41_2 hcz41_3 hcz41_4
     try clear hcz42_0 hcz42_1
     try clear hcz48_0 hcz48_1 hcz48_2 hcz48_3 hcz48_4
     try clear hcz50_0 hcz50_1 hcz50_2 hcz50_3 hcz50_4
     try clear hcz51_0 hcz51_1
     try clear hcz55_0 hcz55_1 hcz55_2 hcz55_3 hcz55_4
     try clear hcz57_0 hcz57_1 hcz57_2 hcz57_3 hcz57_4
     try clear hcz61_0 hcz61_1 hcz61_2 hcz61_3 hcz61_4
     try clear hcz63_0 hcz63_1 hcz63_2 hcz63_3 hcz63_4
     try clear hcz72_0 hcz72_1 hcz72_2 hcz72_3 hcz72_4
     try clear hfz10_0 hfz10_1 hfz10_2 hfz10_3 hfz10_4
     try clear hfz12_0 hfz12_1 hfz12_2 hfz12_3 hfz12_4
     try clear hfz16_0 hfz16_1 hfz16_2 hfz16_3 hfz16_4
     try clear hfz18_0 hfz18_1 hfz18_2 hfz18_3 hfz18_4
     try clear hfz20_0 hfz20_1 hfz20_2 hfz20_3 hfz20_4
     try clear hfz30_0 hfz30_1 hfz30_2 hfz30_3 hfz30_4
     try clear hfz32_0 hfz32_1 hfz32_2 hfz32_3 hfz32_4
     try clear hfz33_0 hfz33_1
     try clear hfz39_0 hfz39_1 hfz39_2 hfz39_3 hfz39_4
     try clear hfz41_0 hfz41_1 hfz41_2 hfz41_3 hfz41_4
     try clear hfz42_0 hfz42_1
     try clear hfz48_0 hfz48_1 hfz48_2 hfz48_3 hfz48_4
     try clear hfz50_0 hfz50_1 hfz50_2 hfz50_3 hfz50_4
     try clear hfz51_0 hfz51_1
     try clear hfz55_0 hfz55_1 hfz55_2 hfz55_3 hfz55_4
     try clear hfz57_0 hfz57_1 hfz57_2 hfz57_3 hfz57_4
     try clear hfz61_0 hfz61_1 hfz61_2 hfz61_3 hfz61_4
     try clear hfz63_0 hfz63_1 hfz63_2 hfz63_3 hfz63_4
     try clear hfz72_0 hfz72_1 hfz72_2 hfz72_3 hfz72_4
     try clear p2
     obtain ⟨kq, x10_57, x11_57, rfl, rfl, HA, HJ57, BK221, BK222, BK223, HB⟩ := hcut
     cases kq with
     | zero => exact absurd HA.out (by simp [impl_format_sum.j1])
     | succ kj57 =>
      have H := HA.out
      clear HA
      simp only [impl_format_sum.j1] at H
      by_cases c73 : (x223000_3 == x224000_3) = true
      ·
       rw [if_pos c73] at H
       have c73b0 : (x223000_3 == x224000_3) = true := c73
       (try (have c73b1 : decide (x223000_3 = x224000_3) = true := by simpa using c73))
       (try (have c73b2 : (x223000_3 == x224000_3) = true := by simpa using c73))
       clear c73
       replace H := Option.bind_eq_some_iff.mp H
       obtain ⟨t227, A740, H⟩ := H
       replace H : (some t227) = some r := H
       have A74 := Aside0.mk A740
       clear A740
       obtain rfl := Option.some.inj H
       simp only [Option.some.injEq, Prod.mk.injEq] at H
       obtain ⟨rfl⟩ := H
       have hnb75 := NB222_221.out
       have hnc75 := NB221_222.out
       have hnb76 := NB222_223.out
       have hnc76 := NB223_222.out
       have hcz77_0 : wc.cell? ⟨gb222, 0, none⟩ = some (.bool x223000_3) := (blk_cell BK222.out 0).trans rfl
       have hcz77_1 : wc.cell? ⟨gb222, 1, none⟩ = some (.bool x223001_3) := (blk_cell BK222.out 1).trans rfl
       have hcz77_2 : wc.cell? ⟨gb222, 2, none⟩ = some (.bool x223002_3) := (blk_cell BK222.out 2).trans rfl
       have hcz77_3 : wc.cell? ⟨gb222, 3, none⟩ = some (.int .u64 x223003_3) := (blk_cell BK222.out 3).trans rfl
       have hcz77_4 : wc.cell? ⟨gb222, 4, none⟩ = some (.int .i64 x223004_3) := (blk_cell BK222.out 4).trans rfl
       have hfz77_0 := blk_frozen BK222.out 0
       have hfz77_1 := blk_frozen BK222.out 1
       have hfz77_2 := blk_frozen BK222.out 2
       have hfz77_3 := blk_frozen BK222.out 3
       have hfz77_4 := blk_frozen BK222.out 4
       have hnb78 := NB223_221.out
       have hnc78 := NB221_223.out
       have hcz79_0 : wc.cell? ⟨gb223, 0, none⟩ = some (.bool x224000_3) := (blk_cell BK223.out 0).trans rfl
       have hcz79_1 : wc.cell? ⟨gb223, 1, none⟩ = some (.bool x224001_3) := (blk_cell BK223.out 1).trans rfl
       have hcz79_2 : wc.cell? ⟨gb223, 2, none⟩ = some (.bool x224002_3) := (blk_cell BK223.out 2).trans rfl
       have hcz79_3 : wc.cell? ⟨gb223, 3, none⟩ = some (.int .u64 x224003_3) := (blk_cell BK223.out 3).trans rfl
       have hcz79_4 : wc.cell? ⟨gb223, 4, none⟩ = some (.int .i64 x224004_3) := (blk_cell BK223.out 4).trans rfl
       have hfz79_0 := blk_frozen BK223.out 0
       have hfz79_1 := blk_frozen BK223.out 1
       have hfz79_2 := blk_frozen BK223.out 2
       have hfz79_3 := blk_frozen BK223.out 3
       have hfz79_4 := blk_frozen BK223.out 4
       have hcz80_0 : wc.cell? ⟨gb221, 0, none⟩ = some (.int .i64 a0_0) := (blk_cell BK221.out 0).trans rfl
       have hcz80_1 : wc.cell? ⟨gb221, 1, none⟩ = some (.int .i64 a0_1) := (blk_cell BK221.out 1).trans rfl
       have hfz80_0 := blk_frozen BK221.out 0
       have hfz80_1 := blk_frozen BK221.out 1
       go_wp2_with (first | (go_at_call 55; (with_reducible refine (impl_format_round.calls kj57 a0_0 a0_1 x223000_3 (IntKind.u64.wrap ((IntKind.u64.wrap (x223003_3 * 34359738368)) + x10_57)) (wrap64 (x223004_3 - 35)) x11_57 t227 _ A74.out).mono ?_); rintro e w81 ⟨rfl, hb⟩; have n0_ := Aside0.mk (blk_below (g := gb221) (o := .cells #[.int .i64 a0_0, .int .i64 a0_1] 62 (0, 0)) (bk BK221.out) hb); have n1_ := Aside0.mk (blk_below (g := gb222) (o := .cells #[.bool x223000_3, .bool x223001_3, .bool x223002_3, .int .u64 x223003_3, .int .i64 x223004_3] 66 (0, 0)) (bk BK222.out) hb); have n2_ := Aside0.mk (blk_below (g := gb223) (o := .cells #[.bool x224000_3, .bool x224001_3, .bool x224002_3, .int .u64 x224003_3, .int .i64 x224004_3] 66 (0, 0)) (bk BK223.out) hb); have n3_ := Aside0.mk (below_step (bw HB.out) hb); clear BK221; clear BK222; clear BK223; clear HB; have BK221 := n0_; have BK222 := n1_; have BK223 := n2_; have HB := n3_; clear n0_ n1_ n2_ n3_; (try clear hb); (try clear hb2); (try clear hk); (try clear hi)))
       repeat (go_quiet (first | (go_at_call 55; (with_reducible refine (impl_format_round.calls kj57 a0_0 a0_1 x223000_3 (IntKind.u64.wrap ((IntKind.u64.wrap (x223003_3 * 34359738368)) + x10_57)) (wrap64 (x223004_3 - 35)) x11_57 t227 _ A74.out).mono ?_); rintro e w81 ⟨rfl, hb⟩; have n0_ := Aside0.mk (blk_below (g := gb221) (o := .cells #[.int .i64 a0_0, .int .i64 a0_1] 62 (0, 0)) (bk BK221.out) hb); have n1_ := Aside0.mk (blk_below (g := gb222) (o := .cells #[.bool x223000_3, .bool x223001_3, .bool x223002_3, .int .u64 x223003_3, .int .i64 x223004_3] 66 (0, 0)) (bk BK222.out) hb); have n2_ := Aside0.mk (blk_below (g := gb223) (o := .cells #[.bool x224000_3, .bool x224001_3, .bool x224002_3, .int .u64 x224003_3, .int .i64 x224004_3] 66 (0, 0)) (bk BK223.out) hb); have n3_ := Aside0.mk (below_step (bw HB.out) hb); clear BK221; clear BK222; clear BK223; clear HB; have BK221 := n0_; have BK222 := n1_; have BK223 := n2_; have HB := n3_; clear n0_ n1_ n2_ n3_; (try clear hb); (try clear hb2); (try clear hk); (try clear hi))); try go_wp2_with (first | (go_at_call 55; (with_reducible refine (impl_format_round.calls kj57 a0_0 a0_1 x223000_3 (IntKind.u64.wrap ((IntKind.u64.wrap (x223003_3 * 34359738368)) + x10_57)) (wrap64 (x223004_3 - 35)) x11_57 t227 _ A74.out).mono ?_); rintro e w81 ⟨rfl, hb⟩; have n0_ := Aside0.mk (blk_below (g := gb221) (o := .cells #[.int .i64 a0_0, .int .i64 a0_1] 62 (0, 0)) (bk BK221.out) hb); have n1_ := Aside0.mk (blk_below (g := gb222) (o := .cells #[.bool x223000_3, .bool x223001_3, .bool x223002_3, .int .u64 x223003_3, .int .i64 x223004_3] 66 (0, 0)) (bk BK222.out) hb); have n2_ := Aside0.mk (blk_below (g := gb223) (o := .cells #[.bool x224000_3, .bool x224001_3, .bool x224002_3, .int .u64 x224003_3, .int .i64 x224004_3] 66 (0, 0)) (bk BK223.out) hb); have n3_ := Aside0.mk (below_step (bw HB.out) hb); clear BK221; clear BK222; clear BK223; clear HB; have BK221 := n0_; have BK222 := n1_; have BK223 := n2_; have HB := n3_; clear n0_ n1_ n2_ n3_; (try clear hb); (try clear hb2); (try clear hk); (try clear hi))))
       go_ret
       exact ⟨by first | rfl | (simp [errW_none, errW_some] <;> rfl) | (simp [*, errW_none, errW_some] <;> rfl), bw HB.out⟩
      ·
       rw [if_neg c73] at H
       have c73b0 : (x223000_3 == x224000_3) = false := by simpa using c73
       (try (have c73b1 : decide (x223000_3 = x224000_3) = false := by simpa using c73))
       (try (have c73b2 : (x223000_3 == x224000_3) = false := by simpa using c73))
       (try (have c73b3 : ¬ (x223000_3 = x224000_3) := by simpa using c73))
       clear c73
       by_cases c82 : x11_57 = true
       ·
        subst c82
        have H1 : ((impl_format_round.f kj57 a0_0 a0_1 x223000_3 (IntKind.u64.wrap ((IntKind.u64.wrap ((IntKind.u64.wrap (x223003_3 * 34359738368)) - x10_57)) - 1)) (wrap64 (x223004_3 - 35)) true).bind fun t228 => (some t228)) = some r := by rw [if_pos rfl] at H; exact H
        clear H
        have H := H1
        clear H1
        replace H := Option.bind_eq_some_iff.mp H
        obtain ⟨t228, A830, H⟩ := H
        replace H : (some t228) = some r := H
        have A83 := Aside0.mk A830
        clear A830
        obtain rfl := Option.some.inj H
        simp only [Option.some.injEq, Prod.mk.injEq] at H
        obtain ⟨rfl⟩ := H
        have hnb84 := NB222_221.out
        have hnc84 := NB221_222.out
        have hnb85 := NB222_223.out
        have hnc85 := NB223_222.out
        have hcz86_0 : wc.cell? ⟨gb222, 0, none⟩ = some (.bool x223000_3) := (blk_cell BK222.out 0).trans rfl
        have hcz86_1 : wc.cell? ⟨gb222, 1, none⟩ = some (.bool x223001_3) := (blk_cell BK222.out 1).trans rfl
        have hcz86_2 : wc.cell? ⟨gb222, 2, none⟩ = some (.bool x223002_3) := (blk_cell BK222.out 2).trans rfl
        have hcz86_3 : wc.cell? ⟨gb222, 3, none⟩ = some (.int .u64 x223003_3) := (blk_cell BK222.out 3).trans rfl
        have hcz86_4 : wc.cell? ⟨gb222, 4, none⟩ = some (.int .i64 x223004_3) := (blk_cell BK222.out 4).trans rfl
        have hfz86_0 := blk_frozen BK222.out 0
        have hfz86_1 := blk_frozen BK222.out 1
        have hfz86_2 := blk_frozen BK222.out 2
        have hfz86_3 := blk_frozen BK222.out 3
        have hfz86_4 := blk_frozen BK222.out 4
        have hnb87 := NB223_221.out
        have hnc87 := NB221_223.out
        have hcz88_0 : wc.cell? ⟨gb223, 0, none⟩ = some (.bool x224000_3) := (blk_cell BK223.out 0).trans rfl
        have hcz88_1 : wc.cell? ⟨gb223, 1, none⟩ = some (.bool x224001_3) := (blk_cell BK223.out 1).trans rfl
        have hcz88_2 : wc.cell? ⟨gb223, 2, none⟩ = some (.bool x224002_3) := (blk_cell BK223.out 2).trans rfl
        have hcz88_3 : wc.cell? ⟨gb223, 3, none⟩ = some (.int .u64 x224003_3) := (blk_cell BK223.out 3).trans rfl
        have hcz88_4 : wc.cell? ⟨gb223, 4, none⟩ = some (.int .i64 x224004_3) := (blk_cell BK223.out 4).trans rfl
        have hfz88_0 := blk_frozen BK223.out 0
        have hfz88_1 := blk_frozen BK223.out 1
        have hfz88_2 := blk_frozen BK223.out 2
        have hfz88_3 := blk_frozen BK223.out 3
        have hfz88_4 := blk_frozen BK223.out 4
        have hcz89_0 : wc.cell? ⟨gb221, 0, none⟩ = some (.int .i64 a0_0) := (blk_cell BK221.out 0).trans rfl
        have hcz89_1 : wc.cell? ⟨gb221, 1, none⟩ = some (.int .i64 a0_1) := (blk_cell BK221.out 1).trans rfl
        have hfz89_0 := blk_frozen BK221.out 0
        have hfz89_1 := blk_frozen BK221.out 1
        go_wp2_with (first | (go_at_call 55; (with_reducible refine (impl_format_round.calls kj57 a0_0 a0_1 x223000_3 (IntKind.u64.wrap ((IntKind.u64.wrap ((IntKind.u64.wrap (x223003_3 * 34359738368)) - x10_57)) - 1)) (wrap64 (x223004_3 - 35)) true t228 _ A83.out).mono ?_); rintro e w90 ⟨rfl, hb⟩; have n0_ := Aside0.mk (blk_below (g := gb221) (o := .cells #[.int .i64 a0_0, .int .i64 a0_1] 62 (0, 0)) (bk BK221.out) hb); have n1_ := Aside0.mk (blk_below (g := gb222) (o := .cells #[.bool x223000_3, .bool x223001_3, .bool x223002_3, .int .u64 x223003_3, .int .i64 x223004_3] 66 (0, 0)) (bk BK222.out) hb); have n2_ := Aside0.mk (blk_below (g := gb223) (o := .cells #[.bool x224000_3, .bool x224001_3, .bool x224002_3, .int .u64 x224003_3, .int .i64 x224004_3] 66 (0, 0)) (bk BK223.out) hb); have n3_ := Aside0.mk (below_step (bw HB.out) hb); clear BK221; clear BK222; clear BK223; clear HB; have BK221 := n0_; have BK222 := n1_; have BK223 := n2_; have HB := n3_; clear n0_ n1_ n2_ n3_; (try clear hb); (try clear hb2); (try clear hk); (try clear hi)))
        repeat (go_quiet (first | (go_at_call 55; (with_reducible refine (impl_format_round.calls kj57 a0_0 a0_1 x223000_3 (IntKind.u64.wrap ((IntKind.u64.wrap ((IntKind.u64.wrap (x223003_3 * 34359738368)) - x10_57)) - 1)) (wrap64 (x223004_3 - 35)) true t228 _ A83.out).mono ?_); rintro e w90 ⟨rfl, hb⟩; have n0_ := Aside0.mk (blk_below (g := gb221) (o := .cells #[.int .i64 a0_0, .int .i64 a0_1] 62 (0, 0)) (bk BK221.out) hb); have n1_ := Aside0.mk (blk_below (g := gb222) (o := .cells #[.bool x223000_3, .bool x223001_3, .bool x223002_3, .int .u64 x223003_3, .int .i64 x223004_3] 66 (0, 0)) (bk BK222.out) hb); have n2_ := Aside0.mk (blk_below (g := gb223) (o := .cells #[.bool x224000_3, .bool x224001_3, .bool x224002_3, .int .u64 x224003_3, .int .i64 x224004_3] 66 (0, 0)) (bk BK223.out) hb); have n3_ := Aside0.mk (below_step (bw HB.out) hb); clear BK221; clear BK222; clear BK223; clear HB; have BK221 := n0_; have BK222 := n1_; have BK223 := n2_; have HB := n3_; clear n0_ n1_ n2_ n3_; (try clear hb); (try clear hb2); (try clear hk); (try clear hi))); try go_wp2_with (first | (go_at_call 55; (with_reducible refine (impl_format_round.calls kj57 a0_0 a0_1 x223000_3 (IntKind.u64.wrap ((IntKind.u64.wrap ((IntKind.u64.wrap (x223003_3 * 34359738368)) - x10_57)) - 1)) (wrap64 (x223004_3 - 35)) true t228 _ A83.out).mono ?_); rintro e w90 ⟨rfl, hb⟩; have n0_ := Aside0.mk (blk_below (g := gb221) (o := .cells #[.int .i64 a0_0, .int .i64 a0_1] 62 (0, 0)) (bk BK221.out) hb); have n1_ := Aside0.mk (blk_below (g := gb222) (o := .cells #[.bool x223000_3, .bool x223001_3, .bool x223002_3, .int .u64 x223003_3, .int .i64 x223004_3] 66 (0, 0)) (bk BK222.out) hb); have n2_ := Aside0.mk (blk_below (g := gb223) (o := .cells #[.bool x224000_3, .bool x224001_3, .bool x224002_3, .int .u64 x224003_3, .int .i64 x224004_3] 66 (0, 0)) (bk BK223.out) hb); have n3_ := Aside0.mk (below_step (bw HB.out) hb); clear BK221; clear BK222; clear BK223; clear HB; have BK221 := n0_; have BK222 := n1_; have BK223 := n2_; have HB := n3_; clear n0_ n1_ n2_ n3_; (try clear hb); (try clear hb2); (try clear hk); (try clear hi))))
        go_ret
        exact ⟨by first | rfl | (simp [errW_none, errW_some] <;> rfl) | (simp [*, errW_none, errW_some] <;> rfl), bw HB.out⟩
       ·
        replace c82 := Bool.eq_false_iff.mpr c82
        subst c82
        have H1 : ((impl_format_round.f kj57 a0_0 a0_1 x223000_3 (IntKind.u64.wrap ((IntKind.u64.wrap (x223003_3 * 34359738368)) - x10_57)) (wrap64 (x223004_3 - 35)) false).bind fun t229 => (some t229)) = some r := by rw [if_neg (show ¬ (false = true) by decide)] at H; exact H
        clear H
        have H := H1
        clear H1
        replace H := Option.bind_eq_some_iff.mp H
        obtain ⟨t229, A910, H⟩ := H
        replace H : (some t229) = some r := H
        have A91 := Aside0.mk A910
        clear A910
        obtain rfl := Option.some.inj H
        simp only [Option.some.injEq, Prod.mk.injEq] at H
        obtain ⟨rfl⟩ := H
        have hnb92 := NB222_221.out
        have hnc92 := NB221_222.out
        have hnb93 := NB222_223.out
        have hnc93 := NB223_222.out
        have hcz94_0 : wc.cell? ⟨gb222, 0, none⟩ = some (.bool x223000_3) := (blk_cell BK222.out 0).trans rfl
        have hcz94_1 : wc.cell? ⟨gb222, 1, none⟩ = some (.bool x223001_3) := (blk_cell BK222.out 1).trans rfl
        have hcz94_2 : wc.cell? ⟨gb222, 2, none⟩ = some (.bool x223002_3) := (blk_cell BK222.out 2).trans rfl
        have hcz94_3 : wc.cell? ⟨gb222, 3, none⟩ = some (.int .u64 x223003_3) := (blk_cell BK222.out 3).trans rfl
        have hcz94_4 : wc.cell? ⟨gb222, 4, none⟩ = some (.int .i64 x223004_3) := (blk_cell BK222.out 4).trans rfl
        have hfz94_0 := blk_frozen BK222.out 0
        have hfz94_1 := blk_frozen BK222.out 1
        have hfz94_2 := blk_frozen BK222.out 2
        have hfz94_3 := blk_frozen BK222.out 3
        have hfz94_4 := blk_frozen BK222.out 4
        have hnb95 := NB223_221.out
        have hnc95 := NB221_223.out
        have hcz96_0 : wc.cell? ⟨gb223, 0, none⟩ = some (.bool x224000_3) := (blk_cell BK223.out 0).trans rfl
        have hcz96_1 : wc.cell? ⟨gb223, 1, none⟩ = some (.bool x224001_3) := (blk_cell BK223.out 1).trans rfl
        have hcz96_2 : wc.cell? ⟨gb223, 2, none⟩ = some (.bool x224002_3) := (blk_cell BK223.out 2).trans rfl
        have hcz96_3 : wc.cell? ⟨gb223, 3, none⟩ = some (.int .u64 x224003_3) := (blk_cell BK223.out 3).trans rfl
        have hcz96_4 : wc.cell? ⟨gb223, 4, none⟩ = some (.int .i64 x224004_3) := (blk_cell BK223.out 4).trans rfl
        have hfz96_0 := blk_frozen BK223.out 0
        have hfz96_1 := blk_frozen BK223.out 1
        have hfz96_2 := blk_frozen BK223.out 2
        have hfz96_3 := blk_frozen BK223.out 3
        have hfz96_4 := blk_frozen BK223.out 4
        have hcz97_0 : wc.cell? ⟨gb221, 0, none⟩ = some (.int .i64 a0_0) := (blk_cell BK221.out 0).trans rfl
        have hcz97_1 : wc.cell? ⟨gb221, 1, none⟩ = some (.int .i64 a0_1) := (blk_cell BK221.out 1).trans rfl
        have hfz97_0 := blk_frozen BK221.out 0
        have hfz97_1 := blk_frozen BK221.out 1
        go_wp2_with (first | (go_at_call 55; (with_reducible refine (impl_format_round.calls kj57 a0_0 a0_1 x223000_3 (IntKind.u64.wrap ((IntKind.u64.wrap (x223003_3 * 34359738368)) - x10_57)) (wrap64 (x223004_3 - 35)) false t229 _ A91.out).mono ?_); rintro e w98 ⟨rfl, hb⟩; have n0_ := Aside0.mk (blk_below (g := gb221) (o := .cells #[.int .i64 a0_0, .int .i64 a0_1] 62 (0, 0)) (bk BK221.out) hb); have n1_ := Aside0.mk (blk_below (g := gb222) (o := .cells #[.bool x223000_3, .bool x223001_3, .bool x223002_3, .int .u64 x223003_3, .int .i64 x223004_3] 66 (0, 0)) (bk BK222.out) hb); have n2_ := Aside0.mk (blk_below (g := gb223) (o := .cells #[.bool x224000_3, .bool x224001_3, .bool x224002_3, .int .u64 x224003_3, .int .i64 x224004_3] 66 (0, 0)) (bk BK223.out) hb); have n3_ := Aside0.mk (below_step (bw HB.out) hb); clear BK221; clear BK222; clear BK223; clear HB; have BK221 := n0_; have BK222 := n1_; have BK223 := n2_; have HB := n3_; clear n0_ n1_ n2_ n3_; (try clear hb); (try clear hb2); (try clear hk); (try clear hi)))
        repeat (go_quiet (first | (go_at_call 55; (with_reducible refine (impl_format_round.calls kj57 a0_0 a0_1 x223000_3 (IntKind.u64.wrap ((IntKind.u64.wrap (x223003_3 * 34359738368)) - x10_57)) (wrap64 (x223004_3 - 35)) false t229 _ A91.out).mono ?_); rintro e w98 ⟨rfl, hb⟩; have n0_ := Aside0.mk (blk_below (g := gb221) (o := .cells #[.int .i64 a0_0, .int .i64 a0_1] 62 (0, 0)) (bk BK221.out) hb); have n1_ := Aside0.mk (blk_below (g := gb222) (o := .cells #[.bool x223000_3, .bool x223001_3, .bool x223002_3, .int .u64 x223003_3, .int .i64 x223004_3] 66 (0, 0)) (bk BK222.out) hb); have n2_ := Aside0.mk (blk_below (g := gb223) (o := .cells #[.bool x224000_3, .bool x224001_3, .bool x224002_3, .int .u64 x224003_3, .int .i64 x224004_3] 66 (0, 0)) (bk BK223.out) hb); have n3_ := Aside0.mk (below_step (bw HB.out) hb); clear BK221; clear BK222; clear BK223; clear HB; have BK221 := n0_; have BK222 := n1_; have BK223 := n2_; have HB := n3_; clear n0_ n1_ n2_ n3_; (try clear hb); (try clear hb2); (try clear hk); (try clear hi))); try go_wp2_with (first | (go_at_call 55; (with_reducible refine (impl_format_round.calls kj57 a0_0 a0_1 x223000_3 (IntKind.u64.wrap ((IntKind.u64.wrap (x223003_3 * 34359738368)) - x10_57)) (wrap64 (x223004_3 - 35)) false t229 _ A91.out).mono ?_); rintro e w98 ⟨rfl, hb⟩; have n0_ := Aside0.mk (blk_below (g := gb221) (o := .cells #[.int .i64 a0_0, .int .i64 a0_1] 62 (0, 0)) (bk BK221.out) hb); have n1_ := Aside0.mk (blk_below (g := gb222) (o := .cells #[.bool x223000_3, .bool x223001_3, .bool x223002_3, .int .u64 x223003_3, .int .i64 x223004_3] 66 (0, 0)) (bk BK222.out) hb); have n2_ := Aside0.mk (blk_below (g := gb223) (o := .cells #[.bool x224000_3, .bool x224001_3, .bool x224002_3, .int .u64 x224003_3, .int .i64 x224004_3] 66 (0, 0)) (bk BK223.out) hb); have n3_ := Aside0.mk (below_step (bw HB.out) hb); clear BK221; clear BK222; clear BK223; clear HB; have BK221 := n0_; have BK222 := n1_; have BK223 := n2_; have HB := n3_; clear n0_ n1_ n2_ n3_; (try clear hb); (try clear hb2); (try clear hk); (try clear hi))))
        go_ret
        exact ⟨by first | rfl | (simp [errW_none, errW_some] <;> rfl) | (simp [*, errW_none, errW_some] <;> rfl), bw HB.out⟩

end Go.Proofs.Ytdeogandkgiggaa.Q

