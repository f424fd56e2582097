-- Written by a program of this session; it walks the functions that the law reaches.
import Derived.Test.YtdeogandkgiggaaQx0
import Derived.Test.YtdeogandkgiggaaQx1
import Derived.Test.YtdeogandkgiggaaQx3
import Derived.Test.YtdeogandkgiggaaQx4
namespace Go.Proofs.YtdeogandkgiggaaW.PrintLast
set_option linter.unusedVariables false
section
variable {P : Program} {ops : Array Oper} {Q : Exit → Act → World → Prop} {md : Region.Mode} {S : World → Prop} {ds : List Nat}
theorem AllReadyL.cons_last {fuel : Nat} {listed : Array Bool} {a : Act} {w : World} {i : Nat} {o : Oper} {rs : List Nat} (ho : ops[i]? = some o) (hd : i ∈ ds)
    (h : ∀ K' : Act → World → Prop, Shut (∀ a w, wpAnyLast P md ops Q S ds fuel (listed.setIfInBounds i true) a w → K' a w) → if Region.wanted o (yielded ops a.tmps) = true then Oper.wp P o a w K' Q else K' (a.put o.dst undef) w)
    (hs : AllReadyL P md ops Q S ds fuel listed a w rs) : AllReadyL P md ops Q S ds fuel listed a w (i :: rs) := fun j hj => by
  rcases List.mem_cons.1 hj with rfl | hj
  · exact wpOp_step ho (fun K' hK => h K' (fun a w hW => hK a w ⟨fun hn => absurd hd hn, hW⟩))
  · exact hs j hj
theorem last_ {i : Nat} {N : Option Tmp} {oi : Oper} {fuel : Nat} {l : Array Bool} {a : Act} {w : World} (l' : Array Bool) (hi : ops[i]? = some oi) (hN : oi.dst = N) (hc : readyB md ops l l' i = true) (hd : i ∈ ds)
    (h : ∀ K : Act → World → Prop, Shut (∀ a' w', wpAnyLast P md ops Q S ds fuel l' a' w' → K a' w') → if Region.wanted oi (yielded ops a.tmps) = true then Oper.wp P oi a w K Q else K (a.put N undef) w) :
    wpAnyLast P md ops Q S ds (fuel + 1) l a w := by
  subst hN
  simp only [readyB, Bool.and_eq_true, beq_iff_eq] at hc
  obtain ⟨h1, h2⟩ := hc
  subst h2
  exact wpAnyLast_ready h1 (by simp) (AllReadyL.cons_last hi hd (fun K hK => h K hK) AllReadyL.nil)
end
end Go.Proofs.YtdeogandkgiggaaW.PrintLast
namespace Go.Proofs.Ytdeogandkgiggaa.Q
open Go.RowKit Go.Proofs.YtdeogandkgiggaaW.PrintWords Go.Proofs.YtdeogandkgiggaaW.PrintLast Go.Proofs.YtdeogandkgiggaaW.PrintMore
attribute [local go_sem] max2_int min2_int max_two min_two max_three min_three max_four min_four   -- for this text's walks alone
set_option linter.unusedVariables false
set_option linter.unusedSimpArgs false

/-! ### spec_l3Mask: function 89 -/
def spec_l3Mask.f (a0 : Int) (a1 : Int) : Option (Int) := if a0 = 32 then (some (Go.bits .and .u64 a1 4294967295)) else (some a1)
set_option maxHeartbeats 8000000 in
set_option maxRecDepth 100000 in
theorem spec_l3Mask.calls (a0 : Int) (a1 : Int) (r : Int) (w : World) (h : spec_l3Mask.f a0 a1 = some r) :
  Calls Try.prog 89 #[.int .i64 a0, .int .u64 a1] w fun e w' => e = .returned (.int .u64 r) ∧ Drawn0 w w' := by
 have H : (if a0 = 32 then (some (Go.bits .and .u64 a1 4294967295)) else (some a1)) = some r := h
 clear h
 by_cases c3 : a0 = 32
 ·
  rw [if_pos c3] at H
  have c3b0 : (a0 == 32) = true := beq_iff_eq.mpr c3
  have c3b1 : (a0 != 32) = false := bne_eq_false_iff_eq.mpr c3
  clear c3
  obtain rfl := Option.some.inj H
  simp only [Option.some.injEq, Prod.mk.injEq] at H
  obtain ⟨rfl⟩ := H
  go_enter Try.func89, Try.ntmps89
  go_wp2
  go_ret
  exact ⟨by first | rfl | (simp; done) | (simp [*]; done), by repeat (first | exact Drawn0.refl _ | apply Drawn0.step)⟩
 ·
  rw [if_neg c3] at H
  have c3b0 : (a0 == 32) = false := beq_eq_false_iff_ne.mpr c3
  have c3b1 : (a0 != 32) = true := bne_iff_ne.mpr c3
  obtain rfl := Option.some.inj H
  simp only [Option.some.injEq, Prod.mk.injEq] at H
  obtain ⟨rfl⟩ := H
  go_enter Try.func89, Try.ntmps89
  go_wp2
  go_ret
  exact ⟨by first | rfl | (simp; done) | (simp [*]; done), by repeat (first | exact Drawn0.refl _ | apply Drawn0.step)⟩

end Go.Proofs.Ytdeogandkgiggaa.Q

namespace Go.Proofs.Ytdeogandkgiggaa.Q
open Go.RowKit Go.Proofs.YtdeogandkgiggaaW.PrintWords Go.Proofs.YtdeogandkgiggaaW.PrintLast Go.Proofs.YtdeogandkgiggaaW.PrintMore
attribute [local go_sem] max2_int min2_int max_two min_two max_three min_three max_four min_four   -- for this text's walks alone
set_option linter.unusedVariables false
set_option linter.unusedSimpArgs false

/-! ### spec_l4K_toInt: function 69 -/
mutual
def spec_l4K_toInt.j0 : Nat → Int → Bool → Bool → Int → Int → Bool → Bool → Bool → Int → Int → Option (Int × Int)
 | 0, _, _, _, _, _, _, _, _, _, _ => none
 | k + 1, x2, x3, x21, x335000, x335001, x341000, x341001, x341002, x341003, x341004 => if x21 = true then (some (0, 2)) else ((spec_l4K_whole.f k x335000 x335001 3 x341000 x341001 x341002 x341003 x341004).bind fun t341 => ((spec_l4K_open.f x335000 x335001 t341).bind fun bt342 => (if bt342.2.2.2.2 > 40 then (some (0, 2)) else (if bt342.2.2.2.2 ≥ 0 then (if 0 ≤ (IntKind.u64.wrap (bt342.2.2.2.2)) then (spec_l4K_toInt.j1 k x2 x3 (shl .u64 bt342.2.2.2.1 (IntKind.u64.wrap (bt342.2.2.2.2))) bt342.1 bt342.2.1 bt342.2.2.1 bt342.2.2.2.1 bt342.2.2.2.2) else (none)) else (if (wrap64 (-bt342.2.2.2.2)) < 60 then (if 0 ≤ (IntKind.u64.wrap (wrap64 (-bt342.2.2.2.2))) then (spec_l4K_toInt.j1 k x2 x3 (shr .u64 bt342.2.2.2.1 (IntKind.u64.wrap (wrap64 (-bt342.2.2.2.2)))) bt342.1 bt342.2.1 bt342.2.2.1 bt342.2.2.2.1 bt342.2.2.2.2) else (none)) else (spec_l4K_toInt.j1 k x2 x3 0 bt342.1 bt342.2.1 bt342.2.2.1 bt342.2.2.2.1 bt342.2.2.2.2))))))
def spec_l4K_toInt.j1 : Nat → Int → Bool → Int → Bool → Bool → Bool → Int → Int → Option (Int × Int)
 | 0, _, _, _, _, _, _, _, _ => none
 | k + 1, x2, x3, x11, x341000, x341001, x341002, x341003, x341004 => if 0 ≤ (IntKind.u64.wrap (wrap64 (x2 - 1))) then (if x3 = true then (if x11 > (shl .u64 1 (IntKind.u64.wrap (wrap64 (x2 - 1)))) then (spec_l4K_toInt.j2 k x2 x3 x11 true x341000 x341001 x341002 x341003 x341004) else (if x11 = (shl .u64 1 (IntKind.u64.wrap (wrap64 (x2 - 1)))) then (spec_l4K_toInt.j2 k x2 x3 x11 (!x341000) x341000 x341001 x341002 x341003 x341004) else (spec_l4K_toInt.j2 k x2 x3 x11 false x341000 x341001 x341002 x341003 x341004))) else (spec_l4K_toInt.j2 k x2 x3 x11 false x341000 x341001 x341002 x341003 x341004)) else (none)
def spec_l4K_toInt.j2 : Nat → Int → Bool → Int → Bool → Bool → Bool → Bool → Int → Int → Option (Int × Int)
 | 0, _, _, _, _, _, _, _, _, _ => none
 | k + 1, x2, x3, x11, x54, x341000, x341001, x341002, x341003, x341004 => if x54 = true then (some (0, 2)) else (if x3 = true then (spec_l4K_toInt.j3 k x2 x11 false x341000 x341001 x341002 x341003 x341004) else (if x341000 = true then (if x11 = 0 then (if x2 = 32 then (spec_l4K_toInt.j3 k x2 x11 (decide (x11 > 4294967295)) x341000 x341001 x341002 x341003 x341004) else (spec_l4K_toInt.j3 k x2 x11 false x341000 x341001 x341002 x341003 x341004)) else (spec_l4K_toInt.j3 k x2 x11 true x341000 x341001 x341002 x341003 x341004)) else (if x2 = 32 then (spec_l4K_toInt.j3 k x2 x11 (decide (x11 > 4294967295)) x341000 x341001 x341002 x341003 x341004) else (spec_l4K_toInt.j3 k x2 x11 false x341000 x341001 x341002 x341003 x341004))))
def spec_l4K_toInt.j3 : Nat → Int → Int → Bool → Bool → Bool → Bool → Int → Int → Option (Int × Int)
 | 0, _, _, _, _, _, _, _, _ => none
 | k + 1, x2, x11, x71, x341000, x341001, x341002, x341003, x341004 => if x71 = true then (some (0, 2)) else (if x341000 = true then ((spec_l3Mask.f x2 (IntKind.u64.wrap (-x11))).bind fun t347 => (some (t347, 0))) else ((spec_l3Mask.f x2 x11).bind fun t348 => (some (t348, 0))))
end
def spec_l4K_toInt.f (k : Nat) (a0_0 : Int) (a0_1 : Int) (a1 : Int) (a2 : Int) (a3 : Bool) : Option (Int × Int) := (spec_l4K_open.f a0_0 a0_1 a1).bind fun bt335 => (if bt335.2.2.1 = true then (spec_l4K_toInt.j0 k a2 a3 true a0_0 a0_1 bt335.1 bt335.2.1 bt335.2.2.1 bt335.2.2.2.1 bt335.2.2.2.2) else (spec_l4K_toInt.j0 k a2 a3 bt335.2.1 a0_0 a0_1 bt335.1 bt335.2.1 bt335.2.2.1 bt335.2.2.2.1 bt335.2.2.2.2))
theorem spec_l4K_toInt.mono_l : ∀ k, (∀ y0 y1 y2 y3 y4 y5 y6 y7 y8 y9, LeO (spec_l4K_toInt.j0 k y0 y1 y2 y3 y4 y5 y6 y7 y8 y9) (spec_l4K_toInt.j0 (k + 1) y0 y1 y2 y3 y4 y5 y6 y7 y8 y9)) ∧ (∀ y0 y1 y2 y3 y4 y5 y6 y7, LeO (spec_l4K_toInt.j1 k y0 y1 y2 y3 y4 y5 y6 y7) (spec_l4K_toInt.j1 (k + 1) y0 y1 y2 y3 y4 y5 y6 y7)) ∧ (∀ y0 y1 y2 y3 y4 y5 y6 y7 y8, LeO (spec_l4K_toInt.j2 k y0 y1 y2 y3 y4 y5 y6 y7 y8) (spec_l4K_toInt.j2 (k + 1) y0 y1 y2 y3 y4 y5 y6 y7 y8)) ∧ (∀ y0 y1 y2 y3 y4 y5 y6 y7, LeO (spec_l4K_toInt.j3 k y0 y1 y2 y3 y4 y5 y6 y7) (spec_l4K_toInt.j3 (k + 1) y0 y1 y2 y3 y4 y5 y6 y7))
 | 0 => ⟨fun _ _ _ _ _ _ _ _ _ _ r h => by simp [spec_l4K_toInt.j0] at h, fun _ _ _ _ _ _ _ _ r h => by simp [spec_l4K_toInt.j1] at h, fun _ _ _ _ _ _ _ _ _ r h => by simp [spec_l4K_toInt.j2] at h, fun _ _ _ _ _ _ _ _ r h => by simp [spec_l4K_toInt.j3] at h⟩
 | k + 1 => by
  obtain ⟨ih0, ih1, ih2, ih3⟩ := spec_l4K_toInt.mono_l k
  refine ⟨?_, ?_, ?_, ?_⟩
  ·
   intro y0 y1 y2 y3 y4 y5 y6 y7 y8 y9
   unfold spec_l4K_toInt.j0
   repeat' first
   | (with_reducible exact ih0 _ _ _ _ _ _ _ _ _ _)
   | (with_reducible exact ih1 _ _ _ _ _ _ _ _)
   | (with_reducible exact ih2 _ _ _ _ _ _ _ _ _)
   | (with_reducible exact ih3 _ _ _ _ _ _ _ _)
   | (with_reducible exact spec_l4K_whole.mono _ _ _ _ _ _ _ _ _)
   | (with_reducible exact LeO.refl _)
   | (with_reducible exact LeO.none _)
   | (with_reducible refine LeO.ite ?_ ?_)
   | (with_reducible refine LeO.bind ?_ (fun _ => ?_))
   | exact ih0 _ _ _ _ _ _ _ _ _ _
   | exact ih1 _ _ _ _ _ _ _ _
   | exact ih2 _ _ _ _ _ _ _ _ _
   | exact ih3 _ _ _ _ _ _ _ _
   | exact spec_l4K_whole.mono _ _ _ _ _ _ _ _ _
   | exact LeO.none _
   | refine LeO.ite ?_ ?_
   | refine LeO.bind ?_ (fun _ => ?_)
  ·
   intro y0 y1 y2 y3 y4 y5 y6 y7
   unfold spec_l4K_toInt.j1
   repeat' first
   | (with_reducible exact ih0 _ _ _ _ _ _ _ _ _ _)
   | (with_reducible exact ih1 _ _ _ _ _ _ _ _)
   | (with_reducible exact ih2 _ _ _ _ _ _ _ _ _)
   | (with_reducible exact ih3 _ _ _ _ _ _ _ _)
   | (with_reducible exact spec_l4K_whole.mono _ _ _ _ _ _ _ _ _)
   | (with_reducible exact LeO.refl _)
   | (with_reducible exact LeO.none _)
   | (with_reducible refine LeO.ite ?_ ?_)
   | (with_reducible refine LeO.bind ?_ (fun _ => ?_))
   | exact ih0 _ _ _ _ _ _ _ _ _ _
   | exact ih1 _ _ _ _ _ _ _ _
   | exact ih2 _ _ _ _ _ _ _ _ _
   | exact ih3 _ _ _ _ _ _ _ _
   | exact spec_l4K_whole.mono _ _ _ _ _ _ _ _ _
   | exact LeO.none _
   | refine LeO.ite ?_ ?_
   | refine LeO.bind ?_ (fun _ => ?_)
  ·
   intro y0 y1 y2 y3 y4 y5 y6 y7 y8
   unfold spec_l4K_toInt.j2
   repeat' first
   | (with_reducible exact ih0 _ _ _ _ _ _ _ _ _ _)
   | (with_reducible exact ih1 _ _ _ _ _ _ _ _)
   | (with_reducible exact ih2 _ _ _ _ _ _ _ _ _)
   | (with_reducible exact ih3 _ _ _ _ _ _ _ _)
   | (with_reducible exact spec_l4K_whole.mono _ _ _ _ _ _ _ _ _)
   | (with_reducible exact LeO.refl _)
   | (with_reducible exact LeO.none _)
   | (with_reducible refine LeO.ite ?_ ?_)
   | (with_reducible refine LeO.bind ?_ (fun _ => ?_))
   | exact ih0 _ _ _ _ _ _ _ _ _ _
   | exact ih1 _ _ _ _ _ _ _ _
   | exact ih2 _ _ _ _ _ _ _ _ _
   | exact ih3 _ _ _ _ _ _ _ _
   | exact spec_l4K_whole.mono _ _ _ _ _ _ _ _ _
   | exact LeO.none _
   | refine LeO.ite ?_ ?_
   | refine LeO.bind ?_ (fun _ => ?_)
  ·
   intro y0 y1 y2 y3 y4 y5 y6 y7
   unfold spec_l4K_toInt.j3
   repeat' first
   | (with_reducible exact ih0 _ _ _ _ _ _ _ _ _ _)
   | (with_reducible exact ih1 _ _ _ _ _ _ _ _)
   | (with_reducible exact ih2 _ _ _ _ _ _ _ _ _)
   | (with_reducible exact ih3 _ _ _ _ _ _ _ _)
   | (with_reducible exact spec_l4K_whole.mono _ _ _ _ _ _ _ _ _)
   | (with_reducible exact LeO.refl _)
   | (with_reducible exact LeO.none _)
   | (with_reducible refine LeO.ite ?_ ?_)
   | (with_reducible refine LeO.bind ?_ (fun _ => ?_))
   | exact ih0 _ _ _ _ _ _ _ _ _ _
   | exact ih1 _ _ _ _ _ _ _ _
   | exact ih2 _ _ _ _ _ _ _ _ _
   | exact ih3 _ _ _ _ _ _ _ _
   | exact spec_l4K_whole.mono _ _ _ _ _ _ _ _ _
   | exact LeO.none _
   | refine LeO.ite ?_ ?_
   | refine LeO.bind ?_ (fun _ => ?_)
theorem spec_l4K_toInt.mono : ∀ a0 a1 a2 a3 a4 k, LeO (spec_l4K_toInt.f k a0 a1 a2 a3 a4) (spec_l4K_toInt.f (k + 1) a0 a1 a2 a3 a4) := by
 intro a0 a1 a2 a3 a4 k
 obtain ⟨ih0, ih1, ih2, ih3⟩ := spec_l4K_toInt.mono_l k
 unfold spec_l4K_toInt.f
 repeat' first
   | (with_reducible exact ih0 _ _ _ _ _ _ _ _ _ _)
   | (with_reducible exact ih1 _ _ _ _ _ _ _ _)
   | (with_reducible exact ih2 _ _ _ _ _ _ _ _ _)
   | (with_reducible exact ih3 _ _ _ _ _ _ _ _)
   | (with_reducible exact spec_l4K_whole.mono _ _ _ _ _ _ _ _ _)
   | (with_reducible exact LeO.refl _)
   | (with_reducible exact LeO.none _)
   | (with_reducible refine LeO.ite ?_ ?_)
   | (with_reducible refine LeO.bind ?_ (fun _ => ?_))
   | exact ih0 _ _ _ _ _ _ _ _ _ _
   | exact ih1 _ _ _ _ _ _ _ _
   | exact ih2 _ _ _ _ _ _ _ _ _
   | exact ih3 _ _ _ _ _ _ _ _
   | exact spec_l4K_whole.mono _ _ _ _ _ _ _ _ _
   | exact LeO.none _
   | refine LeO.ite ?_ ?_
   | refine LeO.bind ?_ (fun _ => ?_)
set_option maxHeartbeats 8000000 in
set_option maxRecDepth 100000 in
theorem spec_l4K_toInt.calls (k : Nat) (a0_0 : Int) (a0_1 : Int) (a1 : Int) (a2 : Int) (a3 : Bool) (r1 : Int) (r2 : Int) (w : World) (h : spec_l4K_toInt.f k a0_0 a0_1 a1 a2 a3 = some (r1, r2)) :
  Calls Try.prog 69 #[.agg #[.int .u64 a0_0, .int .u64 a0_1], .int .u32 a1, .int .i64 a2, .bool a3] w fun e w' => e = .returned (.tuple #[.int .u64 r1, .int .i64 r2]) ∧ Below w.heap.size w w' := by
 have hu52 := Try.underlying52
 have hu56 := Try.underlying56
 have HB := Aside0.mk (Below.refl w.heap.size w)
 have H : ((spec_l4K_open.f a0_0 a0_1 a1).bind fun bt335 => (if bt335.2.2.1 = true then (spec_l4K_toInt.j0 k a2 a3 true a0_0 a0_1 bt335.1 bt335.2.1 bt335.2.2.1 bt335.2.2.2.1 bt335.2.2.2.2) else (spec_l4K_toInt.j0 k a2 a3 bt335.2.1 a0_0 a0_1 bt335.1 bt335.2.1 bt335.2.2.1 bt335.2.2.2.1 bt335.2.2.2.2))) = some (r1, r2) := h
 clear h
 replace H := Option.bind_eq_some_iff.mp H
 obtain ⟨⟨t335, t336, t337, t338, t339⟩, A50, H⟩ := H
 replace H : (if t337 = true then (spec_l4K_toInt.j0 k a2 a3 true a0_0 a0_1 t335 t336 t337 t338 t339) else (spec_l4K_toInt.j0 k a2 a3 t336 a0_0 a0_1 t335 t336 t337 t338 t339)) = some (r1, r2) := H
 have A5 := Aside0.mk A50
 clear A50
 have HC6 := Aside0.mk H
 clear H
 go_enter Try.func69, Try.ntmps69
 go_upto_region 2 with (first | ((with_reducible refine gate_dst (N := 4) rfl ?_); refine box_event ?hg (N := 4) ?hd (cs := #[.int .u64 a0_0, .int .u64 a0_1]) (t := 52) ?hr ?_; (case hd => rfl); (case hg => rfl); (case hr => first | (go_simp; done) | (go_simp; rfl)); intro gb334 hg w7 hbox hb; have n0_ := Aside0.mk (below_step (bw HB.out) hb); have n1_ := Aside0.mk (hbox); have n2_ := Aside0.mk ((by rw [hg]; exact (below_size (bw HB.out)) : w.heap.size ≤ gb334)); have n3_ := Aside0.mk ((by rw [hg]; exact (below_size (bw HB.out)) : w.heap.size ≤ gb334)); clear HB; have HB := n0_; have BK334 := n1_; have GW334 := n2_; have GE334 := n3_; clear n0_ n1_ n2_ n3_; clear hb hbox hg; have hcz8_0 : w7.cell? ⟨gb334, 0, none⟩ = some (.int .u64 a0_0) := (blk_cell BK334.out 0).trans rfl; have hcz8_1 : w7.cell? ⟨gb334, 1, none⟩ = some (.int .u64 a0_1) := (blk_cell BK334.out 1).trans rfl; have hfz8_0 := blk_frozen BK334.out 0; have hfz8_1 := blk_frozen BK334.out 1) | ((with_reducible refine gate_callee (f := 47) rfl ?_); refine goesL_ (some 15) rfl rfl Try.func47 (by kernel_rfl) rfl #[.agg #[.int .u64 a0_0, .int .u64 a0_1], .int .u32 a1] rfl ar ?_; (with_reducible refine (spec_l4K_open.calls a0_0 a0_1 a1 t335 t336 t337 t338 t339 _ A5.out).mono ?_); rintro e w9 ⟨rfl, hb⟩; refine ⟨_, rfl, ?_⟩; have n0_ := Aside0.mk (blk_below (g := gb334) (o := .cells #[.int .u64 a0_0, .int .u64 a0_1] 52 (0, 0)) (bk BK334.out) hb); have n1_ := Aside0.mk (below_step (bw HB.out) hb); clear BK334; clear HB; have BK334 := n0_; have HB := n1_; clear n0_ n1_; (try clear hb)) | ((with_reducible refine gate_dst (N := 10) rfl ?_); refine box_event ?hg (N := 10) ?hd (cs := #[.bool false, .bool false, .bool false, .int .u64 0, .int .i64 0]) (t := 56) ?hr ?_; (case hd => rfl); (case hg => rfl); (case hr => first | (go_simp; done) | (go_simp; rfl)); intro gb340 hg w10 hbox hb; have n0_ := Aside0.mk (blk_below (g := gb334) (o := .cells #[.int .u64 a0_0, .int .u64 a0_1] 52 (0, 0)) (bk BK334.out) hb); have n1_ := Aside0.mk (below_step (bw HB.out) hb); have n2_ := Aside0.mk (hbox); have n3_ := Aside0.mk ((by rw [hg]; exact (below_size (bw HB.out)) : w.heap.size ≤ gb340)); have n4_ := Aside0.mk ((by rw [hg]; exact (below_size (bw HB.out)) : w.heap.size ≤ gb340)); have n5_ := Aside0.mk ((by rw [hg]; exact Nat.ne_of_lt (blk_lt (g := gb334) (o := .cells #[.int .u64 a0_0, .int .u64 a0_1] 52 (0, 0)) (bk BK334.out)) : gb334 ≠ gb340)); have n6_ := Aside0.mk ((by rw [hg]; exact Nat.ne_of_gt (blk_lt (g := gb334) (o := .cells #[.int .u64 a0_0, .int .u64 a0_1] 52 (0, 0)) (bk BK334.out)) : gb340 ≠ gb334)); clear BK334; clear HB; have BK334 := n0_; have HB := n1_; have BK340 := n2_; have GW340 := n3_; have GE340 := n4_; have NB334_340 := n5_; have NB340_334 := n6_; clear n0_ n1_ n2_ n3_ n4_ n5_ n6_; clear hb hbox hg; have hnb11 := NB340_334.out; have hnc11 := NB334_340.out; have hcz12_0 : w10.cell? ⟨gb340, 0, none⟩ = some (.bool false) := (blk_cell BK340.out 0).trans rfl; have hcz12_1 : w10.cell? ⟨gb340, 1, none⟩ = some (.bool false) := (blk_cell BK340.out 1).trans rfl; have hcz12_2 : w10.cell? ⟨gb340, 2, none⟩ = some (.bool false) := (blk_cell BK340.out 2).trans rfl; have hcz12_3 : w10.cell? ⟨gb340, 3, none⟩ = some (.int .u64 0) := (blk_cell BK340.out 3).trans rfl; have hcz12_4 : w10.cell? ⟨gb340, 4, none⟩ = some (.int .i64 0) := (blk_cell BK340.out 4).trans rfl; have hfz12_0 := blk_frozen BK340.out 0; have hfz12_1 := blk_frozen BK340.out 1; have hfz12_2 := blk_frozen BK340.out 2; have hfz12_3 := blk_frozen BK340.out 3; have hfz12_4 := blk_frozen BK340.out 4) | ((with_reducible refine gate_store (t := 56) (p := 10) rfl ?_); refine store_event (t := 56) (p := 10) (v := ?vo_w13) (w1 := (((((w10.setCell ⟨gb340, 0, none⟩ (.bool t335)).setCell ⟨gb340, 1, none⟩ (.bool t336)).setCell ⟨gb340, 2, none⟩ (.bool t337)).setCell ⟨gb340, 3, none⟩ (.int .u64 t338)).setCell ⟨gb340, 4, none⟩ (.int .i64 t339))) ?hg ?ho ?hn ?hr ?_; (case ho => rfl); (case hg => rfl); (case hn => rfl); (case hr => first | (go_simp; done) | (go_simp; rfl)); intro w13 hw; have n0_ : Aside0 (w13.heap[gb334]? = some (.cells #[.int .u64 a0_0, .int .u64 a0_1] 52 (0, 0))) := ⟨(by rw [hw]; exact (by (with_reducible repeat (first | refine blk_drewN ?_ _ | refine blk_drew ?_ | refine blk_alloc ?_ _)); refine blk_far ?_ NB334_340.out _; (with_reducible repeat (first | refine blk_drewN ?_ _ | refine blk_drew ?_ | refine blk_alloc ?_ _)); refine blk_far ?_ NB334_340.out _; (with_reducible repeat (first | refine blk_drewN ?_ _ | refine blk_drew ?_ | refine blk_alloc ?_ _)); refine blk_far ?_ NB334_340.out _; (with_reducible repeat (first | refine blk_drewN ?_ _ | refine blk_drew ?_ | refine blk_alloc ?_ _)); refine blk_far ?_ NB334_340.out _; (with_reducible repeat (first | refine blk_drewN ?_ _ | refine blk_drew ?_ | refine blk_alloc ?_ _)); refine blk_far ?_ NB334_340.out _; (with_reducible repeat (first | refine blk_drewN ?_ _ | refine blk_drew ?_ | refine blk_alloc ?_ _)); exact BK334.out))⟩; have n1_ : Aside0 (w13.heap[gb340]? = some (.cells #[.bool t335, .bool t336, .bool t337, .int .u64 t338, .int .i64 t339] 56 (0, 0))) := ⟨(by rw [hw]; exact (by (with_reducible repeat (first | refine blk_drewN ?_ _ | refine blk_drew ?_ | refine blk_alloc ?_ _)); refine blk_put (cs := #[.bool t335, .bool t336, .bool t337, .int .u64 t338, .int .i64 0]) ?_ 4 _ rfl; (with_reducible repeat (first | refine blk_drewN ?_ _ | refine blk_drew ?_ | refine blk_alloc ?_ _)); refine blk_put (cs := #[.bool t335, .bool t336, .bool t337, .int .u64 0, .int .i64 0]) ?_ 3 _ rfl; (with_reducible repeat (first | refine blk_drewN ?_ _ | refine blk_drew ?_ | refine blk_alloc ?_ _)); refine blk_put (cs := #[.bool t335, .bool t336, .bool false, .int .u64 0, .int .i64 0]) ?_ 2 _ rfl; (with_reducible repeat (first | refine blk_drewN ?_ _ | refine blk_drew ?_ | refine blk_alloc ?_ _)); refine blk_put (cs := #[.bool t335, .bool false, .bool false, .int .u64 0, .int .i64 0]) ?_ 1 _ rfl; (with_reducible repeat (first | refine blk_drewN ?_ _ | refine blk_drew ?_ | refine blk_alloc ?_ _)); refine blk_put (cs := #[.bool false, .bool false, .bool false, .int .u64 0, .int .i64 0]) ?_ 0 _ rfl; (with_reducible repeat (first | refine blk_drewN ?_ _ | refine blk_drew ?_ | refine blk_alloc ?_ _)); exact BK340.out))⟩; have n2_ : Aside0 (Below w.heap.size w w13) := ⟨(by rw [hw]; exact (bw HB.out))⟩; clear hw; clear BK334; clear BK340; clear HB; have BK334 := n0_; have BK340 := n1_; have HB := n2_; clear n0_ n1_ n2_))
 (try simp only [Act.put, List.setIfInBounds_toArray, List.set_cons_zero, List.set_cons_succ])
 go_cut [21] (fun v21 wc => ∃ (kq : Nat) (x21_5 : Bool), v21 = .bool x21_5 ∧ Aside0 (spec_l4K_toInt.j0 kq a2 a3 x21_5 a0_0 a0_1 t335 t336 t337 t338 t339 = some (r1, r2)) ∧ Aside0 (kq ≤ k) ∧ Aside0 (wc.heap[gb334]? = some (.cells #[.int .u64 a0_0, .int .u64 a0_1] 52 (0, 0))) ∧ Aside0 (wc.heap[gb340]? = some (.cells #[.bool t335, .bool t336, .bool t337, .int .u64 t338, .int .i64 t339] 56 (0, 0))) ∧ Aside0 (Below w.heap.size w wc))
 case first =>
  have H := HC6.out
  clear HC6
  by_cases c14 : t337 = true
  ·
   subst c14
   have H1 : (spec_l4K_toInt.j0 k a2 a3 true a0_0 a0_1 t335 t336 true t338 t339) = some (r1, r2) := by rw [if_pos rfl] at H; exact H
   clear H
   have H := H1
   clear H1
   have H' := Aside0.mk H
   clear H
   have hnb15 := NB340_334.out
   have hnc15 := NB334_340.out
   have hcz16_0 : w13.cell? ⟨gb340, 0, none⟩ = some (.bool t335) := (blk_cell BK340.out 0).trans rfl
   have hcz16_1 : w13.cell? ⟨gb340, 1, none⟩ = some (.bool t336) := (blk_cell BK340.out 1).trans rfl
   have hcz16_2 : w13.cell? ⟨gb340, 2, none⟩ = some (.bool true) := (blk_cell BK340.out 2).trans rfl
   have hcz16_3 : w13.cell? ⟨gb340, 3, none⟩ = some (.int .u64 t338) := (blk_cell BK340.out 3).trans rfl
   have hcz16_4 : w13.cell? ⟨gb340, 4, none⟩ = some (.int .i64 t339) := (blk_cell BK340.out 4).trans rfl
   have hfz16_0 := blk_frozen BK340.out 0
   have hfz16_1 := blk_frozen BK340.out 1
   have hfz16_2 := blk_frozen BK340.out 2
   have hfz16_3 := blk_frozen BK340.out 3
   have hfz16_4 := blk_frozen BK340.out 4
   go_wp2
   go_meet
   case rel => exact ⟨_, (true), (by first | rfl | (simp; done) | (simp [*]; done)), H', ⟨by first | omega | exact Nat.le_refl _⟩, ⟨bk BK334.out⟩, ⟨bk BK340.out⟩, ⟨bw HB.out⟩⟩
  ·
   replace c14 := Bool.eq_false_iff.mpr c14
   subst c14
   have H1 : (spec_l4K_toInt.j0 k a2 a3 t336 a0_0 a0_1 t335 t336 false t338 t339) = some (r1, r2) := by rw [if_neg (show ¬ (false = true) by decide)] at H; exact H
   clear H
   have H := H1
   clear H1
   have H' := Aside0.mk H
   clear H
   have hnb17 := NB340_334.out
   have hnc17 := NB334_340.out
   have hcz18_0 : w13.cell? ⟨gb340, 0, none⟩ = some (.bool t335) := (blk_cell BK340.out 0).trans rfl
   have hcz18_1 : w13.cell? ⟨gb340, 1, none⟩ = some (.bool t336) := (blk_cell BK340.out 1).trans rfl
   have hcz18_2 : w13.cell? ⟨gb340, 2, none⟩ = some (.bool false) := (blk_cell BK340.out 2).trans rfl
   have hcz18_3 : w13.cell? ⟨gb340, 3, none⟩ = some (.int .u64 t338) := (blk_cell BK340.out 3).trans rfl
   have hcz18_4 : w13.cell? ⟨gb340, 4, none⟩ = some (.int .i64 t339) := (blk_cell BK340.out 4).trans rfl
   have hfz18_0 := blk_frozen BK340.out 0
   have hfz18_1 := blk_frozen BK340.out 1
   have hfz18_2 := blk_frozen BK340.out 2
   have hfz18_3 := blk_frozen BK340.out 3
   have hfz18_4 := blk_frozen BK340.out 4
   go_wp2
   go_meet
   case rel => exact ⟨_, (t336), (by first | rfl | (simp; done) | (simp [*]; done)), H', ⟨by first | omega | exact Nat.le_refl _⟩, ⟨bk BK334.out⟩, ⟨bk BK340.out⟩, ⟨bw HB.out⟩⟩
 case rest =>
  clear HC6
  try clear c1
  try clear p2
  try clear c4
  try clear c6
  try clear c11
  try clear c14
  try clear c15
  try clear c17
  try clear hcz12_0 hcz12_1 hcz12_2 hcz12_3 hcz12_4
  try clear hcz16_0 hcz16_1 hcz16_2 hcz16_3 hcz16_4
  try clear hcz18_0 hcz18_1 hcz18_2 hcz18_3 hcz18_4
  try clear hcz8_0 hcz8_1
  try clear hfz12_0 hfz12_1 hfz12_2 hfz12_3 hfz12_4
  try clear hfz16_0 hfz16_1 hfz16_2 hfz16_3 hfz16_4
  try clear hfz18_0 hfz18_1 hfz18_2 hfz18_3 hfz18_4
  try clear hfz8_0 hfz8_1
  obtain ⟨kq, x21_5, rfl, HA, HJ5, BK334, BK340, HB⟩ := hcut
  cases kq with
  | zero => exact absurd HA.out (by simp [spec_l4K_toInt.j0])
  | succ kj5 =>
   have H := HA.out
   clear HA
   simp only [spec_l4K_toInt.j0] at H
   by_cases c19 : x21_5 = true
   ·
    subst c19
    have H1 : (some (0, 2)) = some (r1, r2) := by rw [if_pos rfl] at H; exact H
    clear H
    have H := H1
    clear H1
    simp only [Option.some.injEq, Prod.mk.injEq] at H
    obtain ⟨rfl, rfl⟩ := H
    go_wp2
    go_ret2
    exact ⟨by first | rfl | (simp [errW_none, errW_some] <;> rfl) | (simp [*, errW_none, errW_some] <;> rfl), bw HB.out⟩
   ·
    replace c19 := Bool.eq_false_iff.mpr c19
    subst c19
    have H1 : ((spec_l4K_whole.f kj5 a0_0 a0_1 3 t335 t336 t337 t338 t339).bind fun t341 => ((spec_l4K_open.f a0_0 a0_1 t341).bind fun bt342 => (if bt342.2.2.2.2 > 40 then (some (0, 2)) else (if bt342.2.2.2.2 ≥ 0 then (if 0 ≤ (IntKind.u64.wrap (bt342.2.2.2.2)) then (spec_l4K_toInt.j1 kj5 a2 a3 (shl .u64 bt342.2.2.2.1 (IntKind.u64.wrap (bt342.2.2.2.2))) bt342.1 bt342.2.1 bt342.2.2.1 bt342.2.2.2.1 bt342.2.2.2.2) else (none)) else (if (wrap64 (-bt342.2.2.2.2)) < 60 then (if 0 ≤ (IntKind.u64.wrap (wrap64 (-bt342.2.2.2.2))) then (spec_l4K_toInt.j1 kj5 a2 a3 (shr .u64 bt342.2.2.2.1 (IntKind.u64.wrap (wrap64 (-bt342.2.2.2.2)))) bt342.1 bt342.2.1 bt342.2.2.1 bt342.2.2.2.1 bt342.2.2.2.2) else (none)) else (spec_l4K_toInt.j1 kj5 a2 a3 0 bt342.1 bt342.2.1 bt342.2.2.1 bt342.2.2.2.1 bt342.2.2.2.2)))))) = some (r1, r2) := by rw [if_neg (show ¬ (false = true) by decide)] at H; exact H
    clear H
    have H := H1
    clear H1
    replace H := Option.bind_eq_some_iff.mp H
    obtain ⟨t341, A200, H⟩ := H
    replace H : ((spec_l4K_open.f a0_0 a0_1 t341).bind fun bt342 => (if bt342.2.2.2.2 > 40 then (some (0, 2)) else (if bt342.2.2.2.2 ≥ 0 then (if 0 ≤ (IntKind.u64.wrap (bt342.2.2.2.2)) then (spec_l4K_toInt.j1 kj5 a2 a3 (shl .u64 bt342.2.2.2.1 (IntKind.u64.wrap (bt342.2.2.2.2))) bt342.1 bt342.2.1 bt342.2.2.1 bt342.2.2.2.1 bt342.2.2.2.2) else (none)) else (if (wrap64 (-bt342.2.2.2.2)) < 60 then (if 0 ≤ (IntKind.u64.wrap (wrap64 (-bt342.2.2.2.2))) then (spec_l4K_toInt.j1 kj5 a2 a3 (shr .u64 bt342.2.2.2.1 (IntKind.u64.wrap (wrap64 (-bt342.2.2.2.2)))) bt342.1 bt342.2.1 bt342.2.2.1 bt342.2.2.2.1 bt342.2.2.2.2) else (none)) else (spec_l4K_toInt.j1 kj5 a2 a3 0 bt342.1 bt342.2.1 bt342.2.2.1 bt342.2.2.2.1 bt342.2.2.2.2))))) = some (r1, r2) := H
    have A20 := Aside0.mk A200
    clear A200
    replace H := Option.bind_eq_some_iff.mp H
    obtain ⟨⟨t342, t343, t344, t345, t346⟩, A210, H⟩ := H
    replace H : (if t346 > 40 then (some (0, 2)) else (if t346 ≥ 0 then (if 0 ≤ (IntKind.u64.wrap (t346)) then (spec_l4K_toInt.j1 kj5 a2 a3 (shl .u64 t345 (IntKind.u64.wrap (t346))) t342 t343 t344 t345 t346) else (none)) else (if (wrap64 (-t346)) < 60 then (if 0 ≤ (IntKind.u64.wrap (wrap64 (-t346))) then (spec_l4K_toInt.j1 kj5 a2 a3 (shr .u64 t345 (IntKind.u64.wrap (wrap64 (-t346)))) t342 t343 t344 t345 t346) else (none)) else (spec_l4K_toInt.j1 kj5 a2 a3 0 t342 t343 t344 t345 t346)))) = some (r1, r2) := H
    have A21 := Aside0.mk A210
    clear A210
    by_cases c22 : t346 > 40
    ·
     rw [if_pos c22] at H
     have c22b0 : decide (40 < t346) = true := decide_eq_true c22
     clear c22
     simp only [Option.some.injEq, Prod.mk.injEq] at H
     obtain ⟨rfl, rfl⟩ := H
     try go_wp2
     have n0_ := Aside0.mk (blk_drew BK334.out)
     have n1_ := Aside0.mk (blk_drew BK340.out)
     have n2_ := Aside0.mk (below_drew1 HB.out)
     clear BK334
     clear BK340
     clear HB
     have BK334 := n0_
     have BK340 := n1_
     have HB := n2_
     clear n0_ n1_ n2_
     refine start_ (n := 6) (S := fun w' => w'.cell? ⟨gb334, 0, none⟩ = some (.int .u64 a0_0) ∧ w'.cell? ⟨gb334, 1, none⟩ = some (.int .u64 a0_1) ∧ w'.cell? ⟨gb340, 0, none⟩ = some (.bool t335) ∧ w'.cell? ⟨gb340, 1, none⟩ = some (.bool t336) ∧ w'.cell? ⟨gb340, 2, none⟩ = some (.bool t337) ∧ w'.cell? ⟨gb340, 3, none⟩ = some (.int .u64 t338) ∧ w'.cell? ⟨gb340, 4, none⟩ = some (.int .i64 t339)) (ds := [5]) #[false, false, false, false, false, false] (by kernel_rfl) rfl rfl ⟨(blk_cell BK334.out 0).trans rfl, (blk_cell BK334.out 1).trans rfl, (blk_cell BK340.out 0).trans rfl, (blk_cell BK340.out 1).trans rfl, (blk_cell BK340.out 2).trans rfl, (blk_cell BK340.out 3).trans rfl, (blk_cell BK340.out 4).trans rfl⟩ (fun hHeld => ?_)
     generalize wc.drew = w23 at BK334 BK340 HB hHeld ⊢
     refine take_ (i := 0) (N := some 22) (v := ?_) (a' := ?_) #[true, false, false, false, false, false] rfl rfl (by kernel_rfl) (fun _ _ _ h => h) (Or.inl ⟨by rfl, ?_⟩) hHeld ?_ ?_
     rotate_left
     ·
      rintro w' ⟨s0, s1, s2, s3, s4, s5, s6⟩
      go_simp
      with_reducible rfl
     rotate_left
     ·
      simp only [Act.put, List.setIfInBounds_toArray, List.set_cons_zero, List.set_cons_succ, i64_w, i32_w]
      rfl
     refine take_ (i := 1) (N := some 23) (v := ?_) (a' := ?_) #[true, true, false, false, false, false] rfl rfl (by kernel_rfl) (fun _ _ _ h => h) (Or.inl ⟨by rfl, ?_⟩) hHeld ?_ ?_
     rotate_left
     ·
      rintro w' ⟨s0, s1, s2, s3, s4, s5, s6⟩
      go_simp
      with_reducible rfl
     rotate_left
     ·
      simp only [Act.put, List.setIfInBounds_toArray, List.set_cons_zero, List.set_cons_succ, i64_w, i32_w]
      rfl
     refine take_ (i := 2) (N := some 24) (v := ?_) (a' := ?_) #[true, true, true, false, false, false] rfl rfl (by kernel_rfl) (fun _ _ _ h => h) (Or.inl ⟨by rfl, ?_⟩) hHeld ?_ ?_
     rotate_left
     ·
      rintro w' ⟨s0, s1, s2, s3, s4, s5, s6⟩
      go_simp
      with_reducible rfl
     rotate_left
     ·
      simp only [Act.put, List.setIfInBounds_toArray, List.set_cons_zero, List.set_cons_succ, i64_w, i32_w]
      rfl
     refine one_ (i := 3) (N := some 25) #[true, true, true, true, false, false] rfl rfl (by kernel_rfl) (by decide) (fun K hK => ?_)
     refine goes_ Try.func63 (by kernel_rfl) rfl #[.agg #[.int .u64 a0_0, .int .u64 a0_1], .int .i64 3, .agg #[.bool t335, .bool t336, .bool t337, .int .u64 t338, .int .i64 t339]] (by rfl) rfl rfl ar ?_
     with_reducible refine (spec_l4K_whole.calls kj5 a0_0 a0_1 3 t335 t336 t337 t338 t339 t341 _ A20.out).mono ?_
     rintro e w24 ⟨rfl, hb⟩
     refine ⟨_, rfl, ?_⟩
     have n0_ := Aside0.mk (blk_below (g := gb334) (o := .cells #[.int .u64 a0_0, .int .u64 a0_1] 52 (0, 0)) (bk BK334.out) hb)
     have n1_ := Aside0.mk (blk_below (g := gb340) (o := .cells #[.bool t335, .bool t336, .bool t337, .int .u64 t338, .int .i64 t339] 56 (0, 0)) (bk BK340.out) hb)
     have n2_ := Aside0.mk (below_step (bw HB.out) hb)
     clear BK334
     clear BK340
     clear HB
     have BK334 := n0_
     have BK340 := n1_
     have HB := n2_
     clear n0_ n1_ n2_
     (try clear hb)
     (try clear hb2)
     (try clear hk)
     (try clear hi)
     refine hK.out _ _ ⟨(blk_cell BK334.out 0).trans rfl, (blk_cell BK334.out 1).trans rfl, (blk_cell BK340.out 0).trans rfl, (blk_cell BK340.out 1).trans rfl, (blk_cell BK340.out 2).trans rfl, (blk_cell BK340.out 3).trans rfl, (blk_cell BK340.out 4).trans rfl⟩ (fun hHeld => ?_)
     clear hK K
     refine norm_ (a' := ?_) ?_ ?_
     rotate_left
     ·
      show Act.put _ (some 25) _ = _
      simp only [Act.put, List.setIfInBounds_toArray, List.set_cons_zero, List.set_cons_succ, i64_w, i32_w]
      rfl
     refine one_ (i := 4) (N := some 26) #[true, true, true, true, true, false] rfl rfl (by kernel_rfl) (by decide) (fun K hK => ?_)
     refine goes_ Try.func47 (by kernel_rfl) rfl #[.agg #[.int .u64 a0_0, .int .u64 a0_1], .int .u32 t341] (by rfl) rfl rfl ar ?_
     with_reducible refine (spec_l4K_open.calls a0_0 a0_1 t341 t342 t343 t344 t345 t346 _ A21.out).mono ?_
     rintro e w25 ⟨rfl, hb⟩
     refine ⟨_, rfl, ?_⟩
     have n0_ := Aside0.mk (blk_below (g := gb334) (o := .cells #[.int .u64 a0_0, .int .u64 a0_1] 52 (0, 0)) (bk BK334.out) hb)
     have n1_ := Aside0.mk (blk_below (g := gb340) (o := .cells #[.bool t335, .bool t336, .bool t337, .int .u64 t338, .int .i64 t339] 56 (0, 0)) (bk BK340.out) hb)
     have n2_ := Aside0.mk (below_step (bw HB.out) hb)
     clear BK334
     clear BK340
     clear HB
     have BK334 := n0_
     have BK340 := n1_
     have HB := n2_
     clear n0_ n1_ n2_
     (try clear hb)
     (try clear hb2)
     (try clear hk)
     (try clear hi)
     refine hK.out _ _ ⟨(blk_cell BK334.out 0).trans rfl, (blk_cell BK334.out 1).trans rfl, (blk_cell BK340.out 0).trans rfl, (blk_cell BK340.out 1).trans rfl, (blk_cell BK340.out 2).trans rfl, (blk_cell BK340.out 3).trans rfl, (blk_cell BK340.out 4).trans rfl⟩ (fun hHeld => ?_)
     clear hK K
     refine norm_ (a' := ?_) ?_ ?_
     rotate_left
     ·
      show Act.put _ (some 26) _ = _
      simp only [Act.put, List.setIfInBounds_toArray, List.set_cons_zero, List.set_cons_succ, i64_w, i32_w]
      rfl
     refine last_ (i := 5) (N := none) #[true, true, true, true, true, true] rfl rfl (by kernel_rfl) (by decide) (fun K hK => ?_)
     have hs26 : w25.cell? ⟨gb340, 0, none⟩ = some (.bool t335) := (blk_cell BK340.out 0).trans rfl
     have hfs26 := blk_frozen BK340.out 0
     have hns26_0 := NB334_340.out
     have hms26_0 := NB340_334.out
     have hs27 : w25.cell? ⟨gb340, 1, none⟩ = some (.bool t336) := (blk_cell BK340.out 1).trans rfl
     have hfs27 := blk_frozen BK340.out 1
     have hns27_0 := NB334_340.out
     have hms27_0 := NB340_334.out
     have hs28 : w25.cell? ⟨gb340, 2, none⟩ = some (.bool t337) := (blk_cell BK340.out 2).trans rfl
     have hfs28 := blk_frozen BK340.out 2
     have hns28_0 := NB334_340.out
     have hms28_0 := NB340_334.out
     have hs29 : w25.cell? ⟨gb340, 3, none⟩ = some (.int .u64 t338) := (blk_cell BK340.out 3).trans rfl
     have hfs29 := blk_frozen BK340.out 3
     have hns29_0 := NB334_340.out
     have hms29_0 := NB340_334.out
     have hs30 : w25.cell? ⟨gb340, 4, none⟩ = some (.int .i64 t339) := (blk_cell BK340.out 4).trans rfl
     have hfs30 := blk_frozen BK340.out 4
     have hns30_0 := NB334_340.out
     have hms30_0 := NB340_334.out
     refine skip_ (w1 := ?_) (by rfl) rfl ?_ ?_
     rotate_left
     ·
      go_simp
      rfl
     refine hK.out _ _ ?_
     clear hK K
     refine done_ (by kernel_rfl) ?_
     have hnb31 := NB340_334.out
     have hnc31 := NB334_340.out
     have hcz32_0 : w25.cell? ⟨gb340, 0, none⟩ = some (.bool t335) := (blk_cell BK340.out 0).trans rfl
     have hcz32_1 : w25.cell? ⟨gb340, 1, none⟩ = some (.bool t336) := (blk_cell BK340.out 1).trans rfl
     have hcz32_2 : w25.cell? ⟨gb340, 2, none⟩ = some (.bool t337) := (blk_cell BK340.out 2).trans rfl
     have hcz32_3 : w25.cell? ⟨gb340, 3, none⟩ = some (.int .u64 t338) := (blk_cell BK340.out 3).trans rfl
     have hcz32_4 : w25.cell? ⟨gb340, 4, none⟩ = some (.int .i64 t339) := (blk_cell BK340.out 4).trans rfl
     have hfz32_0 := blk_frozen BK340.out 0
     have hfz32_1 := blk_frozen BK340.out 1
     have hfz32_2 := blk_frozen BK340.out 2
     have hfz32_3 := blk_frozen BK340.out 3
     have hfz32_4 := blk_frozen BK340.out 4
     try go_wp2
     go_ret2
     exact ⟨by first | rfl | (simp [errW_none, errW_some] <;> rfl) | (simp [*, errW_none, errW_some] <;> rfl), bw HB.out⟩
    ·
     rw [if_neg c22] at H
     have c22b0 : decide (40 < t346) = false := decide_eq_false c22
     clear c22
     have HC33 := Aside0.mk H
     clear H
     try go_wp2
     have n0_ := Aside0.mk (blk_drew BK334.out)
     have n1_ := Aside0.mk (blk_drew BK340.out)
     have n2_ := Aside0.mk (below_drew1 HB.out)
     clear BK334
     clear BK340
     clear HB
     have BK334 := n0_
     have BK340 := n1_
     have HB := n2_
     clear n0_ n1_ n2_
     refine start_ (n := 6) (S := fun w' => w'.cell? ⟨gb334, 0, none⟩ = some (.int .u64 a0_0) ∧ w'.cell? ⟨gb334, 1, none⟩ = some (.int .u64 a0_1) ∧ w'.cell? ⟨gb340, 0, none⟩ = some (.bool t335) ∧ w'.cell? ⟨gb340, 1, none⟩ = some (.bool t336) ∧ w'.cell? ⟨gb340, 2, none⟩ = some (.bool t337) ∧ w'.cell? ⟨gb340, 3, none⟩ = some (.int .u64 t338) ∧ w'.cell? ⟨gb340, 4, none⟩ = some (.int .i64 t339)) (ds := [5]) #[false, false, false, false, false, false] (by kernel_rfl) rfl rfl ⟨(blk_cell BK334.out 0).trans rfl, (blk_cell BK334.out 1).trans rfl, (blk_cell BK340.out 0).trans rfl, (blk_cell BK340.out 1).trans rfl, (blk_cell BK340.out 2).trans rfl, (blk_cell BK340.out 3).trans rfl, (blk_cell BK340.out 4).trans rfl⟩ (fun hHeld => ?_)
     generalize wc.drew = w34 at BK334 BK340 HB hHeld ⊢
     refine take_ (i := 0) (N := some 22) (v := ?_) (a' := ?_) #[true, false, false, false, false, false] rfl rfl (by kernel_rfl) (fun _ _ _ h => h) (Or.inl ⟨by rfl, ?_⟩) hHeld ?_ ?_
     rotate_left
     ·
      rintro w' ⟨s0, s1, s2, s3, s4, s5, s6⟩
      go_simp
      with_reducible rfl
     rotate_left
     ·
      simp only [Act.put, List.setIfInBounds_toArray, List.set_cons_zero, List.set_cons_succ, i64_w, i32_w]
      rfl
     refine take_ (i := 1) (N := some 23) (v := ?_) (a' := ?_) #[true, true, false, false, false, false] rfl rfl (by kernel_rfl) (fun _ _ _ h => h) (Or.inl ⟨by rfl, ?_⟩) hHeld ?_ ?_
     rotate_left
     ·
      rintro w' ⟨s0, s1, s2, s3, s4, s5, s6⟩
      go_simp
      with_reducible rfl
     rotate_left
     ·
      simp only [Act.put, List.setIfInBounds_toArray, List.set_cons_zero, List.set_cons_succ, i64_w, i32_w]
      rfl
     refine take_ (i := 2) (N := some 24) (v := ?_) (a' := ?_) #[true, true, true, false, false, false] rfl rfl (by kernel_rfl) (fun _ _ _ h => h) (Or.inl ⟨by rfl, ?_⟩) hHeld ?_ ?_
     rotate_left
     ·
      rintro w' ⟨s0, s1, s2, s3, s4, s5, s6⟩
      go_simp
      with_reducible rfl
     rotate_left
     ·
      simp only [Act.put, List.setIfInBounds_toArray, List.set_cons_zero, List.set_cons_succ, i64_w, i32_w]
      rfl
     refine one_ (i := 3) (N := some 25) #[true, true, true, true, false, false] rfl rfl (by kernel_rfl) (by decide) (fun K hK => ?_)
     refine goes_ Try.func63 (by kernel_rfl) rfl #[.agg #[.int .u64 a0_0, .int .u64 a0_1], .int .i64 3, .agg #[.bool t335, .bool t336, .bool t337, .int .u64 t338, .int .i64 t339]] (by rfl) rfl rfl ar ?_
     with_reducible refine (spec_l4K_whole.calls kj5 a0_0 a0_1 3 t335 t336 t337 t338 t339 t341 _ A20.out).mono ?_
     rintro e w35 ⟨rfl, hb⟩
     refine ⟨_, rfl, ?_⟩
     have n0_ := Aside0.mk (blk_below (g := gb334) (o := .cells #[.int .u64 a0_0, .int .u64 a0_1] 52 (0, 0)) (bk BK334.out) hb)
     have n1_ := Aside0.mk (blk_below (g := gb340) (o := .cells #[.bool t335, .bool t336, .bool t337, .int .u64 t338, .int .i64 t339] 56 (0, 0)) (bk BK340.out) hb)
     have n2_ := Aside0.mk (below_step (bw HB.out) hb)
     clear BK334
     clear BK340
     clear HB
     have BK334 := n0_
     have BK340 := n1_
     have HB := n2_
     clear n0_ n1_ n2_
     (try clear hb)
     (try clear hb2)
     (try clear hk)
     (try clear hi)
     refine hK.out _ _ ⟨(blk_cell BK334.out 0).trans rfl, (blk_cell BK334.out 1).trans rfl, (blk_cell BK340.out 0).trans rfl, (blk_cell BK340.out 1).trans rfl, (blk_cell BK340.out 2).trans rfl, (blk_cell BK340.out 3).trans rfl, (blk_cell BK340.out 4).trans rfl⟩ (fun hHeld => ?_)
     clear hK K
     refine norm_ (a' := ?_) ?_ ?_
     rotate_left
     ·
      show Act.put _ (some 25) _ = _
      simp only [Act.put, List.setIfInBounds_toArray, List.set_cons_zero, List.set_cons_succ, i64_w, i32_w]
      rfl
     refine one_ (i := 4) (N := some 26) #[true, true, true, true, true, false] rfl rfl (by kernel_rfl) (by decide) (fun K hK => ?_)
     refine goes_ Try.func47 (by kernel_rfl) rfl #[.agg #[.int .u64 a0_0, .int .u64 a0_1], .int .u32 t341] (by rfl) rfl rfl ar ?_
     with_reducible refine (spec_l4K_open.calls a0_0 a0_1 t341 t342 t343 t344 t345 t346 _ A21.out).mono ?_
     rintro e w36 ⟨rfl, hb⟩
     refine ⟨_, rfl, ?_⟩
     have n0_ := Aside0.mk (blk_below (g := gb334) (o := .cells #[.int .u64 a0_0, .int .u64 a0_1] 52 (0, 0)) (bk BK334.out) hb)
     have n1_ := Aside0.mk (blk_below (g := gb340) (o := .cells #[.bool t335, .bool t336, .bool t337, .int .u64 t338, .int .i64 t339] 56 (0, 0)) (bk BK340.out) hb)
     have n2_ := Aside0.mk (below_step (bw HB.out) hb)
     clear BK334
     clear BK340
     clear HB
     have BK334 := n0_
     have BK340 := n1_
     have HB := n2_
     clear n0_ n1_ n2_
     (try clear hb)
     (try clear hb2)
     (try clear hk)
     (try clear hi)
     refine hK.out _ _ ⟨(blk_cell BK334.out 0).trans rfl, (blk_cell BK334.out 1).trans rfl, (blk_cell BK340.out 0).trans rfl, (blk_cell BK340.out 1).trans rfl, (blk_cell BK340.out 2).trans rfl, (blk_cell BK340.out 3).trans rfl, (blk_cell BK340.out 4).trans rfl⟩ (fun hHeld => ?_)
     clear hK K
     refine norm_ (a' := ?_) ?_ ?_
     rotate_left
     ·
      show Act.put _ (some 26) _ = _
      simp only [Act.put, List.setIfInBounds_toArray, List.set_cons_zero, List.set_cons_succ, i64_w, i32_w]
      rfl
     refine last_ (i := 5) (N := none) #[true, true, true, true, true, true] rfl rfl (by kernel_rfl) (by decide) (fun K hK => ?_)
     have hs37 : w36.cell? ⟨gb340, 0, none⟩ = some (.bool t335) := (blk_cell BK340.out 0).trans rfl
     have hfs37 := blk_frozen BK340.out 0
     have hns37_0 := NB334_340.out
     have hms37_0 := NB340_334.out
     have hs38 : w36.cell? ⟨gb340, 1, none⟩ = some (.bool t336) := (blk_cell BK340.out 1).trans rfl
     have hfs38 := blk_frozen BK340.out 1
     have hns38_0 := NB334_340.out
     have hms38_0 := NB340_334.out
     have hs39 : w36.cell? ⟨gb340, 2, none⟩ = some (.bool t337) := (blk_cell BK340.out 2).trans rfl
     have hfs39 := blk_frozen BK340.out 2
     have hns39_0 := NB334_340.out
     have hms39_0 := NB340_334.out
     have hs40 : w36.cell? ⟨gb340, 3, none⟩ = some (.int .u64 t338) := (blk_cell BK340.out 3).trans rfl
     have hfs40 := blk_frozen BK340.out 3
     have hns40_0 := NB334_340.out
     have hms40_0 := NB340_334.out
     have hs41 : w36.cell? ⟨gb340, 4, none⟩ = some (.int .i64 t339) := (blk_cell BK340.out 4).trans rfl
     have hfs41 := blk_frozen BK340.out 4
     have hns41_0 := NB334_340.out
     have hms41_0 := NB340_334.out
     refine skip_ (w1 := ?_) (by rfl) rfl ?_ ?_
     rotate_left
     ·
      go_simp
      rfl
     refine hK.out _ _ ?_
     clear hK K
     refine done_ (by kernel_rfl) ?_
     have hnb42 := NB340_334.out
     have hnc42 := NB334_340.out
     have hcz43_0 : w36.cell? ⟨gb340, 0, none⟩ = some (.bool t335) := (blk_cell BK340.out 0).trans rfl
     have hcz43_1 : w36.cell? ⟨gb340, 1, none⟩ = some (.bool t336) := (blk_cell BK340.out 1).trans rfl
     have hcz43_2 : w36.cell? ⟨gb340, 2, none⟩ = some (.bool t337) := (blk_cell BK340.out 2).trans rfl
     have hcz43_3 : w36.cell? ⟨gb340, 3, none⟩ = some (.int .u64 t338) := (blk_cell BK340.out 3).trans rfl
     have hcz43_4 : w36.cell? ⟨gb340, 4, none⟩ = some (.int .i64 t339) := (blk_cell BK340.out 4).trans rfl
     have hfz43_0 := blk_frozen BK340.out 0
     have hfz43_1 := blk_frozen BK340.out 1
     have hfz43_2 := blk_frozen BK340.out 2
     have hfz43_3 := blk_frozen BK340.out 3
     have hfz43_4 := blk_frozen BK340.out 4
     go_upto_if 34 with (fail)
     go_cut [11] (fun v11 wc => ∃ (kq : Nat) (x11_32 : Int), v11 = .int .u64 x11_32 ∧ Aside0 (spec_l4K_toInt.j1 kq a2 a3 x11_32 t342 t343 t344 t345 t346 = some (r1, r2)) ∧ Aside0 (kq ≤ kj5) ∧ Aside0 (wc.heap[gb334]? = some (.cells #[.int .u64 a0_0, .int .u64 a0_1] 52 (0, 0))) ∧ Aside0 (wc.heap[gb340]? = some (.cells #[.bool t342, .bool t343, .bool t344, .int .u64 t345, .int .i64 t346] 56 (0, 0))) ∧ Aside0 (Below w.heap.size w wc))
     case first =>
      have H := HC33.out
      clear HC33
      by_cases c44 : t346 ≥ 0
      ·
       rw [if_pos c44] at H
       have c44b0 : decide (0 ≤ t346) = true := decide_eq_true c44
       clear c44
       (first | rw [c44b0] | (simp only [i64_w, i32_w]; rw [c44b0]) | skip)
       obtain ⟨ji45, hji45⟩ : ∃ j_ : Int, (IntKind.u64.wrap (t346)) = j_ := ⟨_, rfl⟩
       replace H : (if 0 ≤ (ji45) then (spec_l4K_toInt.j1 kj5 a2 a3 (shl .u64 t345 (ji45)) t342 t343 t344 t345 t346) else (none)) = some (r1, r2) := by first | (rw [hji45] at H; exact H) | (simp only [hji45] at H ⊢; exact H)
       by_cases c46 : 0 ≤ (ji45)
       ·
        rw [if_pos c46] at H
        have c46b0 := eq_true c46
        have c46b1 : decide (0 ≤ (ji45)) = true := decide_eq_true c46
        clear c46
        obtain ⟨ji47, hji47⟩ : ∃ j_ : Int, (shl .u64 t345 (ji45)) = j_ := ⟨_, rfl⟩
        replace H : (spec_l4K_toInt.j1 kj5 a2 a3 ji47 t342 t343 t344 t345 t346) = some (r1, r2) := by first | (rw [hji47] at H; exact H) | (simp only [hji47] at H ⊢; exact H)
        have hji47_ : (IntKind.u64.wrap (t345 * 2 ^ min (ji45).toNat 64)) = ji47 := hji47
        have hji47z : (ji45) ≤ 64 → (IntKind.u64.wrap (t345 * 2 ^ (ji45).toNat)) = ji47 := shl_small hji47
        have H' := Aside0.mk H
        clear H
        have hnb48 := NB340_334.out
        have hnc48 := NB334_340.out
        have hcz49_0 : w36.cell? ⟨gb340, 0, none⟩ = some (.bool t335) := (blk_cell BK340.out 0).trans rfl
        have hcz49_1 : w36.cell? ⟨gb340, 1, none⟩ = some (.bool t336) := (blk_cell BK340.out 1).trans rfl
        have hcz49_2 : w36.cell? ⟨gb340, 2, none⟩ = some (.bool t337) := (blk_cell BK340.out 2).trans rfl
        have hcz49_3 : w36.cell? ⟨gb340, 3, none⟩ = some (.int .u64 t338) := (blk_cell BK340.out 3).trans rfl
        have hcz49_4 : w36.cell? ⟨gb340, 4, none⟩ = some (.int .i64 t339) := (blk_cell BK340.out 4).trans rfl
        have hfz49_0 := blk_frozen BK340.out 0
        have hfz49_1 := blk_frozen BK340.out 1
        have hfz49_2 := blk_frozen BK340.out 2
        have hfz49_3 := blk_frozen BK340.out 3
        have hfz49_4 := blk_frozen BK340.out 4
        go_wp2
        first | go_meet | ((simp only [← hji47]); go_meet) | ((simp only [← hji45]); go_meet) | ((simp only [← hji47, ← hji45]); go_meet)
        case rel => exact ⟨_, (ji47), (by first | rfl | (simp; done) | (simp only [← hji47] <;> (first | rfl | simp)) | (simp [*]; done)), H', ⟨by have := HJ5.out; first | omega | exact Nat.le_refl _⟩, ⟨by (with_reducible repeat (first | refine blk_drewN ?_ _ | refine blk_drew ?_ | refine blk_alloc ?_ _)); refine blk_far ?_ NB334_340.out _; (with_reducible repeat (first | refine blk_drewN ?_ _ | refine blk_drew ?_ | refine blk_alloc ?_ _)); refine blk_far ?_ NB334_340.out _; (with_reducible repeat (first | refine blk_drewN ?_ _ | refine blk_drew ?_ | refine blk_alloc ?_ _)); refine blk_far ?_ NB334_340.out _; (with_reducible repeat (first | refine blk_drewN ?_ _ | refine blk_drew ?_ | refine blk_alloc ?_ _)); refine blk_far ?_ NB334_340.out _; (with_reducible repeat (first | refine blk_drewN ?_ _ | refine blk_drew ?_ | refine blk_alloc ?_ _)); refine blk_far ?_ NB334_340.out _; (with_reducible repeat (first | refine blk_drewN ?_ _ | refine blk_drew ?_ | refine blk_alloc ?_ _)); exact BK334.out⟩, ⟨by (with_reducible repeat (first | refine blk_drewN ?_ _ | refine blk_drew ?_ | refine blk_alloc ?_ _)); refine blk_put (cs := #[.bool t342, .bool t343, .bool t344, .int .u64 t345, .int .i64 t339]) ?_ 4 _ rfl; (with_reducible repeat (first | refine blk_drewN ?_ _ | refine blk_drew ?_ | refine blk_alloc ?_ _)); refine blk_put (cs := #[.bool t342, .bool t343, .bool t344, .int .u64 t338, .int .i64 t339]) ?_ 3 _ rfl; (with_reducible repeat (first | refine blk_drewN ?_ _ | refine blk_drew ?_ | refine blk_alloc ?_ _)); refine blk_put (cs := #[.bool t342, .bool t343, .bool t337, .int .u64 t338, .int .i64 t339]) ?_ 2 _ rfl; (with_reducible repeat (first | refine blk_drewN ?_ _ | refine blk_drew ?_ | refine blk_alloc ?_ _)); refine blk_put (cs := #[.bool t342, .bool t336, .bool t337, .int .u64 t338, .int .i64 t339]) ?_ 1 _ rfl; (with_reducible repeat (first | refine blk_drewN ?_ _ | refine blk_drew ?_ | refine blk_alloc ?_ _)); refine blk_put (cs := #[.bool t335, .bool t336, .bool t337, .int .u64 t338, .int .i64 t339]) ?_ 0 _ rfl; (with_reducible repeat (first | refine blk_drewN ?_ _ | refine blk_drew ?_ | refine blk_alloc ?_ _)); exact BK340.out⟩, ⟨bw HB.out⟩⟩
       ·
        rw [if_neg c46] at H
        exact absurd H (by simp)
      ·
       rw [if_neg c44] at H
       have c44b0 : decide (0 ≤ t346) = false := decide_eq_false c44
       clear c44
       (first | rw [c44b0] | (simp only [i64_w, i32_w]; rw [c44b0]) | skip)
       by_cases c50 : (wrap64 (-t346)) < 60
       ·
        rw [if_pos c50] at H
        have c50b0 : decide ((wrap64 (-t346)) < 60) = true := decide_eq_true c50
        clear c50
        obtain ⟨ji51, hji51⟩ : ∃ j_ : Int, (IntKind.u64.wrap (wrap64 (-t346))) = j_ := ⟨_, rfl⟩
        replace H : (if 0 ≤ (ji51) then (spec_l4K_toInt.j1 kj5 a2 a3 (shr .u64 t345 (ji51)) t342 t343 t344 t345 t346) else (none)) = some (r1, r2) := by first | (rw [hji51] at H; exact H) | (simp only [hji51] at H ⊢; exact H)
        by_cases c52 : 0 ≤ (ji51)
        ·
         rw [if_pos c52] at H
         have c52b0 := eq_true c52
         have c52b1 : decide (0 ≤ (ji51)) = true := decide_eq_true c52
         clear c52
         obtain ⟨ji53, hji53⟩ : ∃ j_ : Int, (shr .u64 t345 (ji51)) = j_ := ⟨_, rfl⟩
         replace H : (spec_l4K_toInt.j1 kj5 a2 a3 ji53 t342 t343 t344 t345 t346) = some (r1, r2) := by first | (rw [hji53] at H; exact H) | (simp only [hji53] at H ⊢; exact H)
         have hji53_ : (t345 / 2 ^ min (ji51).toNat 64) = ji53 := hji53
         have hji53z : (ji51) ≤ 64 → (t345 / 2 ^ (ji51).toNat) = ji53 := shr_small hji53
         have H' := Aside0.mk H
         clear H
         have hnb54 := NB340_334.out
         have hnc54 := NB334_340.out
         have hcz55_0 : w36.cell? ⟨gb340, 0, none⟩ = some (.bool t335) := (blk_cell BK340.out 0).trans rfl
         have hcz55_1 : w36.cell? ⟨gb340, 1, none⟩ = some (.bool t336) := (blk_cell BK340.out 1).trans rfl
         have hcz55_2 : w36.cell? ⟨gb340, 2, none⟩ = some (.bool t337) := (blk_cell BK340.out 2).trans rfl
         have hcz55_3 : w36.cell? ⟨gb340, 3, none⟩ = some (.int .u64 t338) := (blk_cell BK340.out 3).trans rfl
         have hcz55_4 : w36.cell? ⟨gb340, 4, none⟩ = some (.int .i64 t339) := (blk_cell BK340.out 4).trans rfl
         have hfz55_0 := blk_frozen BK340.out 0
         have hfz55_1 := blk_frozen BK340.out 1
         have hfz55_2 := blk_frozen BK340.out 2
         have hfz55_3 := blk_frozen BK340.out 3
         have hfz55_4 := blk_frozen BK340.out 4
         go_wp2
         first | go_meet | ((simp only [← hji53]); go_meet) | ((simp only [← hji51]); go_meet) | ((simp only [← hji53, ← hji51]); go_meet)
         case rel => exact ⟨_, (ji53), (by first | rfl | (simp; done) | (simp only [← hji53] <;> (first | rfl | simp)) | (simp [*]; done)), H', ⟨by have := HJ5.out; first | omega | exact Nat.le_refl _⟩, ⟨by (with_reducible repeat (first | refine blk_drewN ?_ _ | refine blk_drew ?_ | refine blk_alloc ?_ _)); refine blk_far ?_ NB334_340.out _; (with_reducible repeat (first | refine blk_drewN ?_ _ | refine blk_drew ?_ | refine blk_alloc ?_ _)); refine blk_far ?_ NB334_340.out _; (with_reducible repeat (first | refine blk_drewN ?_ _ | refine blk_drew ?_ | refine blk_alloc ?_ _)); refine blk_far ?_ NB334_340.out _; (with_reducible repeat (first | refine blk_drewN ?_ _ | refine blk_drew ?_ | refine blk_alloc ?_ _)); refine blk_far ?_ NB334_340.out _; (with_reducible repeat (first | refine blk_drewN ?_ _ | refine blk_drew ?_ | refine blk_alloc ?_ _)); refine blk_far ?_ NB334_340.out _; (with_reducible repeat (first | refine blk_drewN ?_ _ | refine blk_drew ?_ | refine blk_alloc ?_ _)); exact BK334.out⟩, ⟨by (with_reducible repeat (first | refine blk_drewN ?_ _ | refine blk_drew ?_ | refine blk_alloc ?_ _)); refine blk_put (cs := #[.bool t342, .bool t343, .bool t344, .int .u64 t345, .int .i64 t339]) ?_ 4 _ rfl; (with_reducible repeat (first | refine blk_drewN ?_ _ | refine blk_drew ?_ | refine blk_alloc ?_ _)); refine blk_put (cs := #[.bool t342, .bool t343, .bool t344, .int .u64 t338, .int .i64 t339]) ?_ 3 _ rfl; (with_reducible repeat (first | refine blk_drewN ?_ _ | refine blk_drew ?_ | refine blk_alloc ?_ _)); refine blk_put (cs := #[.bool t342, .bool t343, .bool t337, .int .u64 t338, .int .i64 t339]) ?_ 2 _ rfl; (with_reducible repeat (first | refine blk_drewN ?_ _ | refine blk_drew ?_ | refine blk_alloc ?_ _)); refine blk_put (cs := #[.bool t342, .bool t336, .bool t337, .int .u64 t338, .int .i64 t339]) ?_ 1 _ rfl; (with_reducible repeat (first | refine blk_drewN ?_ _ | refine blk_drew ?_ | refine blk_alloc ?_ _)); refine blk_put (cs := #[.bool t335, .bool t336, .bool t337, .int .u64 t338, .int .i64 t339]) ?_ 0 _ rfl; (with_reducible repeat (first | refine blk_drewN ?_ _ | refine blk_drew ?_ | refine blk_alloc ?_ _)); exact BK340.out⟩, ⟨bw HB.out⟩⟩
        ·
         rw [if_neg c52] at H
         exact absurd H (by simp)
       ·
        rw [if_neg c50] at H
        have c50b0 : decide ((wrap64 (-t346)) < 60) = false := decide_eq_false c50
        clear c50
        have H' := Aside0.mk H
        clear H
        have hnb56 := NB340_334.out
        have hnc56 := NB334_340.out
        have hcz57_0 : w36.cell? ⟨gb340, 0, none⟩ = some (.bool t335) := (blk_cell BK340.out 0).trans rfl
        have hcz57_1 : w36.cell? ⟨gb340, 1, none⟩ = some (.bool t336) := (blk_cell BK340.out 1).trans rfl
        have hcz57_2 : w36.cell? ⟨gb340, 2, none⟩ = some (.bool t337) := (blk_cell BK340.out 2).trans rfl
        have hcz57_3 : w36.cell? ⟨gb340, 3, none⟩ = some (.int .u64 t338) := (blk_cell BK340.out 3).trans rfl
        have hcz57_4 : w36.cell? ⟨gb340, 4, none⟩ = some (.int .i64 t339) := (blk_cell BK340.out 4).trans rfl
        have hfz57_0 := blk_frozen BK340.out 0
        have hfz57_1 := blk_frozen BK340.out 1
        have hfz57_2 := blk_frozen BK340.out 2
        have hfz57_3 := blk_frozen BK340.out 3
        have hfz57_4 := blk_frozen BK340.out 4
        go_wp2
        go_meet
        case rel => exact ⟨_, (0), (by first | rfl | (simp; done) | (simp [*]; done)), H', ⟨by have := HJ5.out; first | omega | exact Nat.le_refl _⟩, ⟨by (with_reducible repeat (first | refine blk_drewN ?_ _ | refine blk_drew ?_ | refine blk_alloc ?_ _)); refine blk_far ?_ NB334_340.out _; (with_reducible repeat (first | refine blk_drewN ?_ _ | refine blk_drew ?_ | refine blk_alloc ?_ _)); refine blk_far ?_ NB334_340.out _; (with_reducible repeat (first | refine blk_drewN ?_ _ | refine blk_drew ?_ | refine blk_alloc ?_ _)); refine blk_far ?_ NB334_340.out _; (with_reducible repeat (first | refine blk_drewN ?_ _ | refine blk_drew ?_ | refine blk_alloc ?_ _)); refine blk_far ?_ NB334_340.out _; (with_reducible repeat (first | refine blk_drewN ?_ _ | refine blk_drew ?_ | refine blk_alloc ?_ _)); refine blk_far ?_ NB334_340.out _; (with_reducible repeat (first | refine blk_drewN ?_ _ | refine blk_drew ?_ | refine blk_alloc ?_ _)); exact BK334.out⟩, ⟨by (with_reducible repeat (first | refine blk_drewN ?_ _ | refine blk_drew ?_ | refine blk_alloc ?_ _)); refine blk_put (cs := #[.bool t342, .bool t343, .bool t344, .int .u64 t345, .int .i64 t339]) ?_ 4 _ rfl; (with_reducible repeat (first | refine blk_drewN ?_ _ | refine blk_drew ?_ | refine blk_alloc ?_ _)); refine blk_put (cs := #[.bool t342, .bool t343, .bool t344, .int .u64 t338, .int .i64 t339]) ?_ 3 _ rfl; (with_reducible repeat (first | refine blk_drewN ?_ _ | refine blk_drew ?_ | refine blk_alloc ?_ _)); refine blk_put (cs := #[.bool t342, .bool t343, .bool t337, .int .u64 t338, .int .i64 t339]) ?_ 2 _ rfl; (with_reducible repeat (first | refine blk_drewN ?_ _ | refine blk_drew ?_ | refine blk_alloc ?_ _)); refine blk_put (cs := #[.bool t342, .bool t336, .bool t337, .int .u64 t338, .int .i64 t339]) ?_ 1 _ rfl; (with_reducible repeat (first | refine blk_drewN ?_ _ | refine blk_drew ?_ | refine blk_alloc ?_ _)); refine blk_put (cs := #[.bool t335, .bool t336, .bool t337, .int .u64 t338, .int .i64 t339]) ?_ 0 _ rfl; (with_reducible repeat (first | refine blk_drewN ?_ _ | refine blk_drew ?_ | refine blk_alloc ?_ _)); exact BK340.out⟩, ⟨bw HB.out⟩⟩
     case rest =>
      clear HC33
      try clear c1
      try clear c2
      try clear p2
      try clear c3
      try clear c4
      try clear c5
      try clear c6
      try clear p6
      try clear c11
      try clear c14
      try clear c15
      try clear c17
      try clear c19
      try clear c22
      try clear c22b0
      try clear c31
      try clear c42
      try clear c44
      try clear c44b0
      try clear c46
      try clear c46b0
      try clear c46b1
      try clear c47
      try clear c48
      try clear c50
      try clear c50b0
      try clear c52
      try clear c52b0
      try clear c52b1
      try clear c54
      try clear c56
      try clear hcz12_0 hcz12_1 hcz12_2 hcz12_3 hcz12_4
      try clear hcz16_0 hcz16_1 hcz16_2 hcz16_3 hcz16_4
      try clear hcz18_0 hcz18_1 hcz18_2 hcz18_3 hcz18_4
      try clear hcz32_0 hcz32_1 hcz32_2 hcz32_3 hcz32_4
      try clear hcz43_0 hcz43_1 hcz43_2 hcz43_3 hcz43_4
      try clear hcz49_0 hcz49_1 hcz49_2 hcz49_3 hcz49_4
      try clear hcz55_0 hcz55_1 hcz55_2 hcz55_3 hcz55_4
      try clear hcz57_0 hcz57_1 hcz57_2 hcz57_3 hcz57_4
      try clear hcz8_0 hcz8_1
      try clear hfz12_0 hfz12_1 hfz12_2 hfz12_3 hfz12_4
      try clear hfz16_0 hfz16_1 hfz16_2 hfz16_3 hfz16_4
      try clear hfz18_0 hfz18_1 hfz18_2 hfz18_3 hfz18_4
      try clear hfz32_0 hfz32_1 hfz32_2 hfz32_3 hfz32_4
      try clear hfz43_0 hfz43_1 hfz43_2 hfz43_3 hfz43_4
      try clear hfz49_0 hfz49_1 hfz49_2 hfz49_3 hfz49_4
      try clear hfz55_0 hfz55_1 hfz55_2 hfz55_3 hfz55_4
      try clear hfz57_0 hfz57_1 hfz57_2 hfz57_3 hfz57_4
      try clear hfz8_0 hfz8_1
      try clear p2
      obtain ⟨kq, x11_32, rfl, HA, HJ32, BK334, BK340, HB⟩ := hcut
      cases kq with
      | zero => exact absurd HA.out (by simp [spec_l4K_toInt.j1])
      | succ kj32 =>
       have H := HA.out
       clear HA
       simp only [spec_l4K_toInt.j1] at H
       obtain ⟨ji58, hji58⟩ : ∃ j_ : Int, (IntKind.u64.wrap (wrap64 (a2 - 1))) = j_ := ⟨_, rfl⟩
       replace H : (if 0 ≤ (ji58) then (if a3 = true then (if x11_32 > (shl .u64 1 (ji58)) then (spec_l4K_toInt.j2 kj32 a2 a3 x11_32 true t342 t343 t344 t345 t346) else (if x11_32 = (shl .u64 1 (ji58)) then (spec_l4K_toInt.j2 kj32 a2 a3 x11_32 (!t342) t342 t343 t344 t345 t346) else (spec_l4K_toInt.j2 kj32 a2 a3 x11_32 false t342 t343 t344 t345 t346))) else (spec_l4K_toInt.j2 kj32 a2 a3 x11_32 false t342 t343 t344 t345 t346)) else (none)) = some (r1, r2) := by first | (rw [hji58] at H; exact H) | (simp only [hji58] at H ⊢; exact H)
       by_cases c59 : 0 ≤ (ji58)
       ·
        rw [if_pos c59] at H
        have c59b0 := eq_true c59
        have c59b1 : decide (0 ≤ (ji58)) = true := decide_eq_true c59
        clear c59
        obtain ⟨ji60, hji60⟩ : ∃ j_ : Int, (shl .u64 1 (ji58)) = j_ := ⟨_, rfl⟩
        replace H : (if a3 = true then (if x11_32 > (ji60) then (spec_l4K_toInt.j2 kj32 a2 a3 x11_32 true t342 t343 t344 t345 t346) else (if x11_32 = (ji60) then (spec_l4K_toInt.j2 kj32 a2 a3 x11_32 (!t342) t342 t343 t344 t345 t346) else (spec_l4K_toInt.j2 kj32 a2 a3 x11_32 false t342 t343 t344 t345 t346))) else (spec_l4K_toInt.j2 kj32 a2 a3 x11_32 false t342 t343 t344 t345 t346)) = some (r1, r2) := by first | (rw [hji60] at H; exact H) | (simp only [hji60] at H ⊢; exact H)
        have hji60_ : (IntKind.u64.wrap (1 * 2 ^ min (ji58).toNat 64)) = ji60 := hji60
        have hji60z : (ji58) ≤ 64 → (IntKind.u64.wrap (1 * 2 ^ (ji58).toNat)) = ji60 := shl_small hji60
        have hji60u : (IntKind.u64.wrap (2 ^ min (ji58).toNat 64)) = ji60 := by have h_ := hji60_; rw [Int.one_mul] at h_; exact h_
        have hji60v : (ji58) ≤ 64 → (IntKind.u64.wrap (2 ^ (ji58).toNat)) = ji60 := fun hle_ => by have h_ := hji60z hle_; rw [Int.one_mul] at h_; exact h_
        have HC61 := Aside0.mk H
        clear H
        go_upto_region 14 with (fail)
        go_cut [54] (fun v54 wc => ∃ (kq : Nat) (x54_60 : Bool), v54 = .bool x54_60 ∧ Aside0 (spec_l4K_toInt.j2 kq a2 a3 x11_32 x54_60 t342 t343 t344 t345 t346 = some (r1, r2)) ∧ Aside0 (kq ≤ kj32) ∧ Aside0 (wc.heap[gb334]? = some (.cells #[.int .u64 a0_0, .int .u64 a0_1] 52 (0, 0))) ∧ Aside0 (wc.heap[gb340]? = some (.cells #[.bool t342, .bool t343, .bool t344, .int .u64 t345, .int .i64 t346] 56 (0, 0))) ∧ Aside0 (Below w.heap.size w wc))
        case first =>
         have H := HC61.out
         clear HC61
         by_cases c62 : a3 = true
         ·
          subst c62
          have H1 : (if x11_32 > (ji60) then (spec_l4K_toInt.j2 kj32 a2 true x11_32 true t342 t343 t344 t345 t346) else (if x11_32 = (ji60) then (spec_l4K_toInt.j2 kj32 a2 true x11_32 (!t342) t342 t343 t344 t345 t346) else (spec_l4K_toInt.j2 kj32 a2 true x11_32 false t342 t343 t344 t345 t346))) = some (r1, r2) := by rw [if_pos rfl] at H; exact H
          clear H
          have H := H1
          clear H1
          by_cases c63 : x11_32 > (ji60)
          ·
           rw [if_pos c63] at H
           have c63b0 : decide ((ji60) < x11_32) = true := decide_eq_true c63
           clear c63
           (first | rw [c63b0] | (simp only [i64_w, i32_w]; rw [c63b0]) | skip)
           have H' := Aside0.mk H
           clear H
           go_wp2
           first | go_meet | ((simp only [← hji60]); go_meet) | ((simp only [← hji58]); go_meet) | ((simp only [← hji60, ← hji58]); go_meet)
           case rel => exact ⟨_, (true), (by first | rfl | (simp; done) | (simp [*]; done)), H', ⟨by have := HJ5.out; have := HJ32.out; first | omega | exact Nat.le_refl _⟩, ⟨bk BK334.out⟩, ⟨bk BK340.out⟩, ⟨bw HB.out⟩⟩
          ·
           rw [if_neg c63] at H
           have c63b0 : decide ((ji60) < x11_32) = false := decide_eq_false c63
           clear c63
           (first | rw [c63b0] | (simp only [i64_w, i32_w]; rw [c63b0]) | skip)
           by_cases c64 : x11_32 = (ji60)
           ·
            rw [if_pos c64] at H
            have c64b0 : (x11_32 == (ji60)) = true := beq_iff_eq.mpr c64
            have c64b1 : (x11_32 != (ji60)) = false := bne_eq_false_iff_eq.mpr c64
            clear c64
            have H' := Aside0.mk H
            clear H
            have hnb65 := NB340_334.out
            have hnc65 := NB334_340.out
            have hcz66_0 : wc.cell? ⟨gb340, 0, none⟩ = some (.bool t342) := (blk_cell BK340.out 0).trans rfl
            have hcz66_1 : wc.cell? ⟨gb340, 1, none⟩ = some (.bool t343) := (blk_cell BK340.out 1).trans rfl
            have hcz66_2 : wc.cell? ⟨gb340, 2, none⟩ = some (.bool t344) := (blk_cell BK340.out 2).trans rfl
            have hcz66_3 : wc.cell? ⟨gb340, 3, none⟩ = some (.int .u64 t345) := (blk_cell BK340.out 3).trans rfl
            have hcz66_4 : wc.cell? ⟨gb340, 4, none⟩ = some (.int .i64 t346) := (blk_cell BK340.out 4).trans rfl
            have hfz66_0 := blk_frozen BK340.out 0
            have hfz66_1 := blk_frozen BK340.out 1
            have hfz66_2 := blk_frozen BK340.out 2
            have hfz66_3 := blk_frozen BK340.out 3
            have hfz66_4 := blk_frozen BK340.out 4
            go_wp2
            first | go_meet | ((simp only [← hji60]); go_meet) | ((simp only [← hji58]); go_meet) | ((simp only [← hji60, ← hji58]); go_meet)
            case rel => exact ⟨_, (!t342), (by first | rfl | (simp; done) | (simp [*]; done)), H', ⟨by have := HJ5.out; have := HJ32.out; first | omega | exact Nat.le_refl _⟩, ⟨bk BK334.out⟩, ⟨bk BK340.out⟩, ⟨bw HB.out⟩⟩
           ·
            rw [if_neg c64] at H
            have c64b0 : (x11_32 == (ji60)) = false := beq_eq_false_iff_ne.mpr c64
            have c64b1 : (x11_32 != (ji60)) = true := bne_iff_ne.mpr c64
            have H' := Aside0.mk H
            clear H
            go_wp2
            first | go_meet | ((simp only [← hji60]); go_meet) | ((simp only [← hji58]); go_meet) | ((simp only [← hji60, ← hji58]); go_meet)
            case rel => exact ⟨_, (false), (by first | rfl | (simp; done) | (simp [*]; done)), H', ⟨by have := HJ5.out; have := HJ32.out; first | omega | exact Nat.le_refl _⟩, ⟨bk BK334.out⟩, ⟨bk BK340.out⟩, ⟨bw HB.out⟩⟩
         ·
          replace c62 := Bool.eq_false_iff.mpr c62
          subst c62
          have H1 : (spec_l4K_toInt.j2 kj32 a2 false x11_32 false t342 t343 t344 t345 t346) = some (r1, r2) := by rw [if_neg (show ¬ (false = true) by decide)] at H; exact H
          clear H
          have H := H1
          clear H1
          have H' := Aside0.mk H
          clear H
          go_wp2
          first | go_meet | ((simp only [← hji60]); go_meet) | ((simp only [← hji58]); go_meet) | ((simp only [← hji60, ← hji58]); go_meet)
          case rel => exact ⟨_, (false), (by first | rfl | (simp; done) | (simp [*]; done)), H', ⟨by have := HJ5.out; have := HJ32.out; first | omega | exact Nat.le_refl _⟩, ⟨bk BK334.out⟩, ⟨bk BK340.out⟩, ⟨bw HB.out⟩⟩
        case rest =>
         clear HC61
         try clear c1
         try clear c2
         try clear p2
         try clear c3
         try clear c4
         try clear c5
         try clear c6
         try clear p6
         try clear c11
         try clear c14
         try clear c15
         try clear c17
         try clear c19
         try clear c22
         try clear c22b0
         try clear c31
         try clear c42
         try clear c44
         try clear c44b0
         try clear c46
         try clear c46b0
         try clear c46b1
         try clear c47
         try clear c48
         try clear c50
         try clear c50b0
         try clear c52
         try clear c52b0
         try clear c52b1
         try clear c54
         try clear c56
         try clear c59
         try clear c59b0
         try clear c59b1
         try clear c62
         try clear c63
         try clear c63b0
         try clear c64
         try clear c64b0
         try clear c64b1
         try clear p64
         try clear c65
         try clear hcz12_0 hcz12_1 hcz12_2 hcz12_3 hcz12_4
         try clear hcz16_0 hcz16_1 hcz16_2 hcz16_3 hcz16_4
         try clear hcz18_0 hcz18_1 hcz18_2 hcz18_3 hcz18_4
         try clear hcz32_0 hcz32_1 hcz32_2 hcz32_3 hcz32_4
         try clear hcz43_0 hcz43_1 hcz43_2 hcz43_3 hcz43_4
         try clear hcz49_0 hcz49_1 hcz49_2 hcz49_3 hcz49_4
         try clear hcz55_0 hcz55_1 hcz55_2 hcz55_3 hcz55_4
         try clear hcz57_0 hcz57_1 hcz57_2 hcz57_3 hcz57_4
         try clear hcz66_0 hcz66_1 hcz66_2 hcz66_3 hcz66_4
         try clear hcz8_0 hcz8_1
         try clear hfz12_0 hfz12_1 hfz12_2 hfz12_3 hfz12_4
         try clear hfz16_0 hfz16_1 hfz16_2 hfz16_3 hfz16_4
         try clear hfz18_0 hfz18_1 hfz18_2 hfz18_3 hfz18_4
         try clear hfz32_0 hfz32_1 hfz32_2 hfz32_3 hfz32_4
         try clear hfz43_0 hfz43_1 hfz43_2 hfz43_3 hfz43_4
         try clear hfz49_0 hfz49_1 hfz49_2 hfz49_3 hfz49_4
         try clear hfz55_0 hfz55_1 hfz55_2 hfz55_3 hfz55_4
         try clear hfz57_0 hfz57_1 hfz57_2 hfz57_3 hfz57_4
         try clear hfz66_0 hfz66_1 hfz66_2 hfz66_3 hfz66_4
         try clear hfz8_0 hfz8_1
         try clear p2
         try clear p6
         obtain ⟨kq, x54_60, rfl, HA, HJ60, BK334, BK340, HB⟩ := hcut
         cases kq with
         | zero => exact absurd HA.out (by simp [spec_l4K_toInt.j2])
         | succ kj60 =>
          have H := HA.out
          clear HA
          simp only [spec_l4K_toInt.j2] at H
          by_cases c67 : x54_60 = true
          ·
           subst c67
           have H1 : (some (0, 2)) = some (r1, r2) := by rw [if_pos rfl] at H; exact H
           clear H
           have H := H1
           clear H1
           simp only [Option.some.injEq, Prod.mk.injEq] at H
           obtain ⟨rfl, rfl⟩ := H
           go_wp2
           go_ret2
           exact ⟨by first | rfl | (simp [errW_none, errW_some] <;> rfl) | (simp only [← hji58, ← hji60]; first | rfl | (simp [errW_none, errW_some] <;> rfl)) | (simp [*, errW_none, errW_some] <;> rfl), bw HB.out⟩
          ·
           replace c67 := Bool.eq_false_iff.mpr c67
           subst c67
           have H1 : (if a3 = true then (spec_l4K_toInt.j3 kj60 a2 x11_32 false t342 t343 t344 t345 t346) else (if t342 = true then (if x11_32 = 0 then (if a2 = 32 then (spec_l4K_toInt.j3 kj60 a2 x11_32 (decide (x11_32 > 4294967295)) t342 t343 t344 t345 t346) else (spec_l4K_toInt.j3 kj60 a2 x11_32 false t342 t343 t344 t345 t346)) else (spec_l4K_toInt.j3 kj60 a2 x11_32 true t342 t343 t344 t345 t346)) else (if a2 = 32 then (spec_l4K_toInt.j3 kj60 a2 x11_32 (decide (x11_32 > 4294967295)) t342 t343 t344 t345 t346) else (spec_l4K_toInt.j3 kj60 a2 x11_32 false t342 t343 t344 t345 t346)))) = some (r1, r2) := by rw [if_neg (show ¬ (false = true) by decide)] at H; exact H
           clear H
           have H := H1
           clear H1
           have HC68 := Aside0.mk H
           clear H
           go_upto_region 16 with (fail)
           go_cut [71] (fun v71 wc => ∃ (kq : Nat) (x71_67 : Bool), v71 = .bool x71_67 ∧ Aside0 (spec_l4K_toInt.j3 kq a2 x11_32 x71_67 t342 t343 t344 t345 t346 = some (r1, r2)) ∧ Aside0 (kq ≤ kj60) ∧ Aside0 (wc.heap[gb334]? = some (.cells #[.int .u64 a0_0, .int .u64 a0_1] 52 (0, 0))) ∧ Aside0 (wc.heap[gb340]? = some (.cells #[.bool t342, .bool t343, .bool t344, .int .u64 t345, .int .i64 t346] 56 (0, 0))) ∧ Aside0 (Below w.heap.size w wc))
           case first =>
            have H := HC68.out
            clear HC68
            by_cases c69 : a3 = true
            ·
             subst c69
             have H1 : (spec_l4K_toInt.j3 kj60 a2 x11_32 false t342 t343 t344 t345 t346) = some (r1, r2) := by rw [if_pos rfl] at H; exact H
             clear H
             have H := H1
             clear H1
             have H' := Aside0.mk H
             clear H
             go_wp2
             first | go_meet | ((simp only [← hji60]); go_meet) | ((simp only [← hji58]); go_meet) | ((simp only [← hji60, ← hji58]); go_meet)
             case rel => exact ⟨_, (false), (by first | rfl | (simp; done) | (simp [*]; done)), H', ⟨by have := HJ5.out; have := HJ32.out; have := HJ60.out; first | omega | exact Nat.le_refl _⟩, ⟨bk BK334.out⟩, ⟨bk BK340.out⟩, ⟨bw HB.out⟩⟩
            ·
             replace c69 := Bool.eq_false_iff.mpr c69
             subst c69
             have H1 : (if t342 = true then (if x11_32 = 0 then (if a2 = 32 then (spec_l4K_toInt.j3 kj60 a2 x11_32 (decide (x11_32 > 4294967295)) t342 t343 t344 t345 t346) else (spec_l4K_toInt.j3 kj60 a2 x11_32 false t342 t343 t344 t345 t346)) else (spec_l4K_toInt.j3 kj60 a2 x11_32 true t342 t343 t344 t345 t346)) else (if a2 = 32 then (spec_l4K_toInt.j3 kj60 a2 x11_32 (decide (x11_32 > 4294967295)) t342 t343 t344 t345 t346) else (spec_l4K_toInt.j3 kj60 a2 x11_32 false t342 t343 t344 t345 t346))) = some (r1, r2) := by rw [if_neg (show ¬ (false = true) by decide)] at H; exact H
             clear H
             have H := H1
             clear H1
             by_cases c70 : t342 = true
             ·
              subst c70
              have H1 : (if x11_32 = 0 then (if a2 = 32 then (spec_l4K_toInt.j3 kj60 a2 x11_32 (decide (x11_32 > 4294967295)) true t343 t344 t345 t346) else (spec_l4K_toInt.j3 kj60 a2 x11_32 false true t343 t344 t345 t346)) else (spec_l4K_toInt.j3 kj60 a2 x11_32 true true t343 t344 t345 t346)) = some (r1, r2) := by rw [if_pos rfl] at H; exact H
              clear H
              have H := H1
              clear H1
              by_cases c71 : x11_32 = 0
              ·
               rw [if_pos c71] at H
               have c71b0 : (x11_32 == 0) = true := beq_iff_eq.mpr c71
               have c71b1 : (x11_32 != 0) = false := bne_eq_false_iff_eq.mpr c71
               clear c71
               (first | rw [c71b0] | (simp only [i64_w, i32_w]; rw [c71b0]) | skip)
               by_cases c72 : a2 = 32
               ·
                rw [if_pos c72] at H
                have c72b0 : (a2 == 32) = true := beq_iff_eq.mpr c72
                have c72b1 : (a2 != 32) = false := bne_eq_false_iff_eq.mpr c72
                clear c72
                have H' := Aside0.mk H
                clear H
                have hnb73 := NB340_334.out
                have hnc73 := NB334_340.out
                have hcz74_0 : wc.cell? ⟨gb340, 0, none⟩ = some (.bool true) := (blk_cell BK340.out 0).trans rfl
                have hcz74_1 : wc.cell? ⟨gb340, 1, none⟩ = some (.bool t343) := (blk_cell BK340.out 1).trans rfl
                have hcz74_2 : wc.cell? ⟨gb340, 2, none⟩ = some (.bool t344) := (blk_cell BK340.out 2).trans rfl
                have hcz74_3 : wc.cell? ⟨gb340, 3, none⟩ = some (.int .u64 t345) := (blk_cell BK340.out 3).trans rfl
                have hcz74_4 : wc.cell? ⟨gb340, 4, none⟩ = some (.int .i64 t346) := (blk_cell BK340.out 4).trans rfl
                have hfz74_0 := blk_frozen BK340.out 0
                have hfz74_1 := blk_frozen BK340.out 1
                have hfz74_2 := blk_frozen BK340.out 2
                have hfz74_3 := blk_frozen BK340.out 3
                have hfz74_4 := blk_frozen BK340.out 4
                go_wp2
                first | go_meet | ((simp only [← hji60]); go_meet) | ((simp only [← hji58]); go_meet) | ((simp only [← hji60, ← hji58]); go_meet)
                case rel => exact ⟨_, (decide (x11_32 > 4294967295)), (by first | rfl | (simp; done) | (simp [*]; done)), H', ⟨by have := HJ5.out; have := HJ32.out; have := HJ60.out; first | omega | exact Nat.le_refl _⟩, ⟨bk BK334.out⟩, ⟨bk BK340.out⟩, ⟨bw HB.out⟩⟩
               ·
                rw [if_neg c72] at H
                have c72b0 : (a2 == 32) = false := beq_eq_false_iff_ne.mpr c72
                have c72b1 : (a2 != 32) = true := bne_iff_ne.mpr c72
                have H' := Aside0.mk H
                clear H
                have hnb75 := NB340_334.out
                have hnc75 := NB334_340.out
                have hcz76_0 : wc.cell? ⟨gb340, 0, none⟩ = some (.bool true) := (blk_cell BK340.out 0).trans rfl
                have hcz76_1 : wc.cell? ⟨gb340, 1, none⟩ = some (.bool t343) := (blk_cell BK340.out 1).trans rfl
                have hcz76_2 : wc.cell? ⟨gb340, 2, none⟩ = some (.bool t344) := (blk_cell BK340.out 2).trans rfl
                have hcz76_3 : wc.cell? ⟨gb340, 3, none⟩ = some (.int .u64 t345) := (blk_cell BK340.out 3).trans rfl
                have hcz76_4 : wc.cell? ⟨gb340, 4, none⟩ = some (.int .i64 t346) := (blk_cell BK340.out 4).trans rfl
                have hfz76_0 := blk_frozen BK340.out 0
                have hfz76_1 := blk_frozen BK340.out 1
                have hfz76_2 := blk_frozen BK340.out 2
                have hfz76_3 := blk_frozen BK340.out 3
                have hfz76_4 := blk_frozen BK340.out 4
                go_wp2
                first | go_meet | ((simp only [← hji60]); go_meet) | ((simp only [← hji58]); go_meet) | ((simp only [← hji60, ← hji58]); go_meet)
                case rel => exact ⟨_, (false), (by first | rfl | (simp; done) | (simp [*]; done)), H', ⟨by have := HJ5.out; have := HJ32.out; have := HJ60.out; first | omega | exact Nat.le_refl _⟩, ⟨bk BK334.out⟩, ⟨bk BK340.out⟩, ⟨bw HB.out⟩⟩
              ·
               rw [if_neg c71] at H
               have c71b0 : (x11_32 == 0) = false := beq_eq_false_iff_ne.mpr c71
               have c71b1 : (x11_32 != 0) = true := bne_iff_ne.mpr c71
               (first | rw [c71b0] | (simp only [i64_w, i32_w]; rw [c71b0]) | skip)
               have H' := Aside0.mk H
               clear H
               have hnb77 := NB340_334.out
               have hnc77 := NB334_340.out
               have hcz78_0 : wc.cell? ⟨gb340, 0, none⟩ = some (.bool true) := (blk_cell BK340.out 0).trans rfl
               have hcz78_1 : wc.cell? ⟨gb340, 1, none⟩ = some (.bool t343) := (blk_cell BK340.out 1).trans rfl
               have hcz78_2 : wc.cell? ⟨gb340, 2, none⟩ = some (.bool t344) := (blk_cell BK340.out 2).trans rfl
               have hcz78_3 : wc.cell? ⟨gb340, 3, none⟩ = some (.int .u64 t345) := (blk_cell BK340.out 3).trans rfl
               have hcz78_4 : wc.cell? ⟨gb340, 4, none⟩ = some (.int .i64 t346) := (blk_cell BK340.out 4).trans rfl
               have hfz78_0 := blk_frozen BK340.out 0
               have hfz78_1 := blk_frozen BK340.out 1
               have hfz78_2 := blk_frozen BK340.out 2
               have hfz78_3 := blk_frozen BK340.out 3
               have hfz78_4 := blk_frozen BK340.out 4
               go_wp2
               first | go_meet | ((simp only [← hji60]); go_meet) | ((simp only [← hji58]); go_meet) | ((simp only [← hji60, ← hji58]); go_meet)
               case rel => exact ⟨_, (true), (by first | rfl | (simp; done) | (simp [*]; done)), H', ⟨by have := HJ5.out; have := HJ32.out; have := HJ60.out; first | omega | exact Nat.le_refl _⟩, ⟨bk BK334.out⟩, ⟨bk BK340.out⟩, ⟨bw HB.out⟩⟩
             ·
              replace c70 := Bool.eq_false_iff.mpr c70
              subst c70
              have H1 : (if a2 = 32 then (spec_l4K_toInt.j3 kj60 a2 x11_32 (decide (x11_32 > 4294967295)) false t343 t344 t345 t346) else (spec_l4K_toInt.j3 kj60 a2 x11_32 false false t343 t344 t345 t346)) = some (r1, r2) := by rw [if_neg (show ¬ (false = true) by decide)] at H; exact H
              clear H
              have H := H1
              clear H1
              by_cases c79 : a2 = 32
              ·
               rw [if_pos c79] at H
               have c79b0 : (a2 == 32) = true := beq_iff_eq.mpr c79
               have c79b1 : (a2 != 32) = false := bne_eq_false_iff_eq.mpr c79
               clear c79
               have H' := Aside0.mk H
               clear H
               have hnb80 := NB340_334.out
               have hnc80 := NB334_340.out
               have hcz81_0 : wc.cell? ⟨gb340, 0, none⟩ = some (.bool false) := (blk_cell BK340.out 0).trans rfl
               have hcz81_1 : wc.cell? ⟨gb340, 1, none⟩ = some (.bool t343) := (blk_cell BK340.out 1).trans rfl
               have hcz81_2 : wc.cell? ⟨gb340, 2, none⟩ = some (.bool t344) := (blk_cell BK340.out 2).trans rfl
               have hcz81_3 : wc.cell? ⟨gb340, 3, none⟩ = some (.int .u64 t345) := (blk_cell BK340.out 3).trans rfl
               have hcz81_4 : wc.cell? ⟨gb340, 4, none⟩ = some (.int .i64 t346) := (blk_cell BK340.out 4).trans rfl
               have hfz81_0 := blk_frozen BK340.out 0
               have hfz81_1 := blk_frozen BK340.out 1
               have hfz81_2 := blk_frozen BK340.out 2
               have hfz81_3 := blk_frozen BK340.out 3
               have hfz81_4 := blk_frozen BK340.out 4
               go_wp2
               first | go_meet | ((simp only [← hji60]); go_meet) | ((simp only [← hji58]); go_meet) | ((simp only [← hji60, ← hji58]); go_meet)
               case rel => exact ⟨_, (decide (x11_32 > 4294967295)), (by first | rfl | (simp; done) | (simp [*]; done)), H', ⟨by have := HJ5.out; have := HJ32.out; have := HJ60.out; first | omega | exact Nat.le_refl _⟩, ⟨bk BK334.out⟩, ⟨bk BK340.out⟩, ⟨bw HB.out⟩⟩
              ·
               rw [if_neg c79] at H
               have c79b0 : (a2 == 32) = false := beq_eq_false_iff_ne.mpr c79
               have c79b1 : (a2 != 32) = true := bne_iff_ne.mpr c79
               have H' := Aside0.mk H
               clear H
               have hnb82 := NB340_334.out
               have hnc82 := NB334_340.out
               have hcz83_0 : wc.cell? ⟨gb340, 0, none⟩ = some (.bool false) := (blk_cell BK340.out 0).trans rfl
               have hcz83_1 : wc.cell? ⟨gb340, 1, none⟩ = some (.bool t343) := (blk_cell BK340.out 1).trans rfl
               have hcz83_2 : wc.cell? ⟨gb340, 2, none⟩ = some (.bool t344) := (blk_cell BK340.out 2).trans rfl
               have hcz83_3 : wc.cell? ⟨gb340, 3, none⟩ = some (.int .u64 t345) := (blk_cell BK340.out 3).trans rfl
               have hcz83_4 : wc.cell? ⟨gb340, 4, none⟩ = some (.int .i64 t346) := (blk_cell BK340.out 4).trans rfl
               have hfz83_0 := blk_frozen BK340.out 0
               have hfz83_1 := blk_frozen BK340.out 1
               have hfz83_2 := blk_frozen BK340.out 2
               have hfz83_3 := blk_frozen BK340.out 3
               have hfz83_4 := blk_frozen BK340.out 4
               go_wp2
               first | go_meet | ((simp only [← hji60]); go_meet) | ((simp only [← hji58]); go_meet) | ((simp only [← hji60, ← hji58]); go_meet)
               case rel => exact ⟨_, (false), (by first | rfl | (simp; done) | (simp [*]; done)), H', ⟨by have := HJ5.out; have := HJ32.out; have := HJ60.out; first | omega | exact Nat.le_refl _⟩, ⟨bk BK334.out⟩, ⟨bk BK340.out⟩, ⟨bw HB.out⟩⟩
           case rest =>
            clear HC68
            try clear c1
            try clear c2
            try clear p2
            try clear c3
            try clear c4
            try clear c5
            try clear c6
            try clear p6
            try clear c7
            try clear c8
            try clear c11
            try clear c14
            try clear c15
            try clear c17
            try clear c19
            try clear c22
            try clear c22b0
            try clear c31
            try clear c42
            try clear c44
            try clear c44b0
            try clear c46
            try clear c46b0
            try clear c46b1
            try clear c47
            try clear c48
            try clear c50
            try clear c50b0
            try clear c52
            try clear c52b0
            try clear c52b1
            try clear c54
            try clear c56
            try clear c59
            try clear c59b0
            try clear c59b1
            try clear c62
            try clear c63
            try clear c63b0
            try clear c64
            try clear c64b0
            try clear c64b1
            try clear p64
            try clear c65
            try clear c67
            try clear c69
            try clear c70
            try clear c71
            try clear c71b0
            try clear c71b1
            try clear c72
            try clear c72b0
            try clear c72b1
            try clear c73
            try clear c75
            try clear c77
            try clear c79
            try clear c79b0
            try clear c79b1
            try clear c80
            try clear c82
            try clear hcz12_0 hcz12_1 hcz12_2 hcz12_3 hcz12_4
            try clear hcz16_0 hcz16_1 hcz16_2 hcz16_3 hcz16_4
            try clear hcz18_0 hcz18_1 hcz18_2 hcz18_3 hcz18_4
            try clear hcz32_0 hcz32_1 hcz32_2 hcz32_3 hcz32_4
            try clear hcz43_0 hcz43_1 hcz43_2 hcz43_3 hcz43_4
            try clear hcz49_0 hcz49_1 hcz49_2 hcz49_3 hcz49_4
            try clear hcz55_0 hcz55_1 hcz55_2 hcz55_3 hcz55_4
            try clear hcz57_0 hcz57_1 hcz57_2 hcz57_3 hcz57_4
            try clear hcz66_0 hcz66_1 hcz66_2 hcz66_3 hcz66_4
            try clear hcz74_0 hcz74_1 hcz74_2 hcz74_3 hcz74_4
            try clear hcz76_0 hcz76_1 hcz76_2 hcz76_3 hcz76_4
            try clear hcz78_0 hcz78_1 hcz78_2 hcz78_3 hcz78_4
            try clear hcz81_0 hcz81_1 hcz81_2 hcz81_3 hcz81_4
            try clear hcz83_0 hcz83_1 hcz83_2 hcz83_3 hcz83_4
            try clear hcz8_0 hcz8_1
            try clear hfz12_0 hfz12_1 hfz12_2 hfz12_3 hfz12_4
            try clear hfz16_0 hfz16_1 hfz16_2 hfz16_3 hfz16_4
            try clear hfz18_0 hfz18_1 hfz18_2 hfz18_3 hfz18_4
            try clear hfz32_0 hfz32_1 hfz32_2 hfz32_3 hfz32_4
            try clear hfz43_0 hfz43_1 hfz43_2 hfz43_3 hfz43_4
            try clear hfz49_0 hfz49_1 hfz49_2 hfz49_3 hfz49_4
            try clear hfz55_0 hfz55_1 hfz55_2 hfz55_3 hfz55_4
            try clear hfz57_0 hfz57_1 hfz57_2 hfz57_3 hfz57_4
            try clear hfz66_0 hfz66_1 hfz66_2 hfz66_3 hfz66_4
            try clear hfz74_0 hfz74_1 hfz74_2 hfz74_3 hfz74_4
            try clear hfz76_0 hfz76_1 hfz76_2 hfz76_3 hfz76_4
            try clear hfz78_0 hfz78_1 hfz78_2 hfz78_3 hfz78_4
            try clear hfz81_0 hfz81_1 hfz81_2 hfz81_3 hfz81_4
            try clear hfz83_0 hfz83_1 hfz83_2 hfz83_3 hfz83_4
            try clear hfz8_0 hfz8_1
            try clear p2
            try clear p6
            try clear p64
            obtain ⟨kq, x71_67, rfl, HA, HJ67, BK334, BK340, HB⟩ := hcut
            cases kq with
            | zero => exact absurd HA.out (by simp [spec_l4K_toInt.j3])
            | succ kj67 =>
             have H := HA.out
             clear HA
             simp only [spec_l4K_toInt.j3] at H
             by_cases c84 : x71_67 = true
             ·
              subst c84
              have H1 : (some (0, 2)) = some (r1, r2) := by rw [if_pos rfl] at H; exact H
              clear H
              have H := H1
              clear H1
              simp only [Option.some.injEq, Prod.mk.injEq] at H
              obtain ⟨rfl, rfl⟩ := H
              go_wp2
              go_ret2
              exact ⟨by first | rfl | (simp [errW_none, errW_some] <;> rfl) | (simp only [← hji58, ← hji60]; first | rfl | (simp [errW_none, errW_some] <;> rfl)) | (simp [*, errW_none, errW_some] <;> rfl), bw HB.out⟩
             ·
              replace c84 := Bool.eq_false_iff.mpr c84
              subst c84
              have H1 : (if t342 = true then ((spec_l3Mask.f a2 (IntKind.u64.wrap (-x11_32))).bind fun t347 => (some (t347, 0))) else ((spec_l3Mask.f a2 x11_32).bind fun t348 => (some (t348, 0)))) = some (r1, r2) := by rw [if_neg (show ¬ (false = true) by decide)] at H; exact H
              clear H
              have H := H1
              clear H1
              by_cases c85 : t342 = true
              ·
               subst c85
               have H1 : ((spec_l3Mask.f a2 (IntKind.u64.wrap (-x11_32))).bind fun t347 => (some (t347, 0))) = some (r1, r2) := by rw [if_pos rfl] at H; exact H
               clear H
               have H := H1
               clear H1
               replace H := Option.bind_eq_some_iff.mp H
               obtain ⟨t347, A860, H⟩ := H
               replace H : (some (t347, 0)) = some (r1, r2) := H
               have A86 := Aside0.mk A860
               clear A860
               simp only [Option.some.injEq, Prod.mk.injEq] at H
               obtain ⟨rfl, rfl⟩ := H
               have hnb87 := NB340_334.out
               have hnc87 := NB334_340.out
               have hcz88_0 : wc.cell? ⟨gb340, 0, none⟩ = some (.bool true) := (blk_cell BK340.out 0).trans rfl
               have hcz88_1 : wc.cell? ⟨gb340, 1, none⟩ = some (.bool t343) := (blk_cell BK340.out 1).trans rfl
               have hcz88_2 : wc.cell? ⟨gb340, 2, none⟩ = some (.bool t344) := (blk_cell BK340.out 2).trans rfl
               have hcz88_3 : wc.cell? ⟨gb340, 3, none⟩ = some (.int .u64 t345) := (blk_cell BK340.out 3).trans rfl
               have hcz88_4 : wc.cell? ⟨gb340, 4, none⟩ = some (.int .i64 t346) := (blk_cell BK340.out 4).trans rfl
               have hfz88_0 := blk_frozen BK340.out 0
               have hfz88_1 := blk_frozen BK340.out 1
               have hfz88_2 := blk_frozen BK340.out 2
               have hfz88_3 := blk_frozen BK340.out 3
               have hfz88_4 := blk_frozen BK340.out 4
               go_wp2_with (first | ((with_reducible refine gate_callee (f := 89) rfl ?_); refine goesL_ (some 96) rfl rfl Try.func89 (by kernel_rfl) rfl #[.int .i64 a2, .int .u64 (IntKind.u64.wrap (-x11_32))] rfl ar ?_; (with_reducible refine (spec_l3Mask.calls a2 (IntKind.u64.wrap (-x11_32)) t347 _ A86.out).mono ?_); rintro e w' ⟨rfl, ⟨nd, rfl⟩⟩; refine ⟨_, rfl, ?_⟩))
               go_ret2
               exact ⟨by first | rfl | (simp [errW_none, errW_some] <;> rfl) | (simp only [← hji58, ← hji60]; first | rfl | (simp [errW_none, errW_some] <;> rfl)) | (simp [*, errW_none, errW_some] <;> rfl), bw HB.out⟩
              ·
               replace c85 := Bool.eq_false_iff.mpr c85
               subst c85
               have H1 : ((spec_l3Mask.f a2 x11_32).bind fun t348 => (some (t348, 0))) = some (r1, r2) := by rw [if_neg (show ¬ (false = true) by decide)] at H; exact H
               clear H
               have H := H1
               clear H1
               replace H := Option.bind_eq_some_iff.mp H
               obtain ⟨t348, A890, H⟩ := H
               replace H : (some (t348, 0)) = some (r1, r2) := H
               have A89 := Aside0.mk A890
               clear A890
               simp only [Option.some.injEq, Prod.mk.injEq] at H
               obtain ⟨rfl, rfl⟩ := H
               have hnb90 := NB340_334.out
               have hnc90 := NB334_340.out
               have hcz91_0 : wc.cell? ⟨gb340, 0, none⟩ = some (.bool false) := (blk_cell BK340.out 0).trans rfl
               have hcz91_1 : wc.cell? ⟨gb340, 1, none⟩ = some (.bool t343) := (blk_cell BK340.out 1).trans rfl
               have hcz91_2 : wc.cell? ⟨gb340, 2, none⟩ = some (.bool t344) := (blk_cell BK340.out 2).trans rfl
               have hcz91_3 : wc.cell? ⟨gb340, 3, none⟩ = some (.int .u64 t345) := (blk_cell BK340.out 3).trans rfl
               have hcz91_4 : wc.cell? ⟨gb340, 4, none⟩ = some (.int .i64 t346) := (blk_cell BK340.out 4).trans rfl
               have hfz91_0 := blk_frozen BK340.out 0
               have hfz91_1 := blk_frozen BK340.out 1
               have hfz91_2 := blk_frozen BK340.out 2
               have hfz91_3 := blk_frozen BK340.out 3
               have hfz91_4 := blk_frozen BK340.out 4
               go_wp2_with (first | ((with_reducible refine gate_callee (f := 89) rfl ?_); refine goesL_ (some 96) rfl rfl Try.func89 (by kernel_rfl) rfl #[.int .i64 a2, .int .u64 x11_32] rfl ar ?_; (with_reducible refine (spec_l3Mask.calls a2 x11_32 t348 _ A89.out).mono ?_); rintro e w' ⟨rfl, ⟨nd, rfl⟩⟩; refine ⟨_, rfl, ?_⟩))
               go_ret2
               exact ⟨by first | rfl | (simp [errW_none, errW_some] <;> rfl) | (simp only [← hji58, ← hji60]; first | rfl | (simp [errW_none, errW_some] <;> rfl)) | (simp [*, errW_none, errW_some] <;> rfl), bw HB.out⟩
       ·
        rw [if_neg c59] at H
        exact absurd H (by simp)

end Go.Proofs.Ytdeogandkgiggaa.Q

namespace Go.Proofs.Ytdeogandkgiggaa.Q
open Go.RowKit Go.Proofs.YtdeogandkgiggaaW.PrintWords Go.Proofs.YtdeogandkgiggaaW.PrintLast Go.Proofs.YtdeogandkgiggaaW.PrintMore
attribute [local go_sem] max2_int min2_int max_two min_two max_three min_three max_four min_four   -- for this text's walks alone
set_option linter.unusedVariables false
set_option linter.unusedSimpArgs false

/-! ### spec_FToInt: function 28 -/
def spec_FToInt.f (k : Nat) (a0 : Int) (a1 : Int) (a2 : Int) (a3 : Bool) : Option (Int × Int) := (spec_l4Kind.f a0).bind fun bt349 => (if bt349.2.2 = true then ((spec_l3Bits.f a2).bind fun t353 => (if t353 = true then ((spec_l4K_toInt.f k bt349.1 bt349.2.1 a1 a2 a3).bind fun bt354 => (some (bt354.1, bt354.2))) else (some (0, 3)))) else (some (0, 0)))
theorem spec_FToInt.mono : ∀ a0 a1 a2 a3 k, LeO (spec_FToInt.f k a0 a1 a2 a3) (spec_FToInt.f (k + 1) a0 a1 a2 a3) := by
 intro a0 a1 a2 a3 k
 unfold spec_FToInt.f
 repeat' first
   | (with_reducible exact spec_l4K_toInt.mono _ _ _ _ _ _)
   | (with_reducible exact LeO.refl _)
   | (with_reducible exact LeO.none _)
   | (with_reducible refine LeO.ite ?_ ?_)
   | (with_reducible refine LeO.bind ?_ (fun _ => ?_))
   | exact spec_l4K_toInt.mono _ _ _ _ _ _
   | exact LeO.none _
   | refine LeO.ite ?_ ?_
   | refine LeO.bind ?_ (fun _ => ?_)
set_option maxHeartbeats 8000000 in
set_option maxRecDepth 100000 in
theorem spec_FToInt.calls (k : Nat) (a0 : Int) (a1 : Int) (a2 : Int) (a3 : Bool) (r1 : Int) (r2 : Int) (w : World) (h : spec_FToInt.f k a0 a1 a2 a3 = some (r1, r2)) :
  Calls Try.prog 28 #[.int .i64 a0, .int .u32 a1, .int .i64 a2, .bool a3] w fun e w' => e = .returned (.tuple #[.int .u64 r1, .int .i64 r2]) ∧ Below w.heap.size w w' := by
 have hu52 := Try.underlying52
 have HB := Aside0.mk (Below.refl w.heap.size w)
 have H : ((spec_l4Kind.f a0).bind fun bt349 => (if bt349.2.2 = true then ((spec_l3Bits.f a2).bind fun t353 => (if t353 = true then ((spec_l4K_toInt.f k bt349.1 bt349.2.1 a1 a2 a3).bind fun bt354 => (some (bt354.1, bt354.2))) else (some (0, 3)))) else (some (0, 0)))) = some (r1, r2) := h
 clear h
 replace H := Option.bind_eq_some_iff.mp H
 obtain ⟨⟨t349, t350, t351⟩, A50, H⟩ := H
 replace H : (if t351 = true then ((spec_l3Bits.f a2).bind fun t353 => (if t353 = true then ((spec_l4K_toInt.f k t349 t350 a1 a2 a3).bind fun bt354 => (some (bt354.1, bt354.2))) else (some (0, 3)))) else (some (0, 0))) = some (r1, r2) := H
 have A5 := Aside0.mk A50
 clear A50
 by_cases c6 : t351 = true
 ·
  subst c6
  have H1 : ((spec_l3Bits.f a2).bind fun t353 => (if t353 = true then ((spec_l4K_toInt.f k t349 t350 a1 a2 a3).bind fun bt354 => (some (bt354.1, bt354.2))) else (some (0, 3)))) = some (r1, r2) := by rw [if_pos rfl] at H; exact H
  clear H
  have H := H1
  clear H1
  replace H := Option.bind_eq_some_iff.mp H
  obtain ⟨t353, A70, H⟩ := H
  replace H : (if t353 = true then ((spec_l4K_toInt.f k t349 t350 a1 a2 a3).bind fun bt354 => (some (bt354.1, bt354.2))) else (some (0, 3))) = some (r1, r2) := H
  have A7 := Aside0.mk A70
  clear A70
  by_cases c8 : t353 = true
  ·
   subst c8
   have H1 : ((spec_l4K_toInt.f k t349 t350 a1 a2 a3).bind fun bt354 => (some (bt354.1, bt354.2))) = some (r1, r2) := by rw [if_pos rfl] at H; exact H
   clear H
   have H := H1
   clear H1
   replace H := Option.bind_eq_some_iff.mp H
   obtain ⟨⟨t354, t355⟩, A90, H⟩ := H
   replace H : (some (t354, t355)) = some (r1, r2) := H
   have A9 := Aside0.mk A90
   clear A90
   simp only [Option.some.injEq, Prod.mk.injEq] at H
   obtain ⟨rfl, rfl⟩ := H
   go_enter Try.func28, Try.ntmps28
   go_wp2_with (first | ((with_reducible refine gate_callee (f := 46) rfl ?_); refine goesL_ (some 14) rfl rfl Try.func46 (by kernel_rfl) rfl #[.int .i64 a0] rfl ar ?_; (with_reducible refine (spec_l4Kind.calls a0 t349 t350 true _ A5.out).mono ?_); rintro e w10 ⟨rfl, hb⟩; refine ⟨_, rfl, ?_⟩; have n0_ := Aside0.mk (below_step (bw HB.out) hb); clear HB; have HB := n0_; clear n0_; (try clear hb)) | ((with_reducible refine gate_dst (N := 10) rfl ?_); refine box_event ?hg (N := 10) ?hd (cs := #[.int .u64 0, .int .u64 0]) (t := 52) ?hr ?_; (case hd => rfl); (case hg => rfl); (case hr => first | (go_simp; done) | (go_simp; rfl)); intro gb352 hg w11 hbox hb; have n0_ := Aside0.mk (below_step (bw HB.out) hb); have n1_ := Aside0.mk (hbox); have n2_ := Aside0.mk ((by rw [hg]; exact (below_size (bw HB.out)) : w.heap.size ≤ gb352)); have n3_ := Aside0.mk ((by rw [hg]; exact (below_size (bw HB.out)) : w.heap.size ≤ gb352)); clear HB; have HB := n0_; have BK352 := n1_; have GW352 := n2_; have GE352 := n3_; clear n0_ n1_ n2_ n3_; clear hb hbox hg; have hcz12_0 : w11.cell? ⟨gb352, 0, none⟩ = some (.int .u64 0) := (blk_cell BK352.out 0).trans rfl; have hcz12_1 : w11.cell? ⟨gb352, 1, none⟩ = some (.int .u64 0) := (blk_cell BK352.out 1).trans rfl; have hfz12_0 := blk_frozen BK352.out 0; have hfz12_1 := blk_frozen BK352.out 1) | ((with_reducible refine gate_callee (f := 68) rfl ?_); refine goesL_ (some 20) rfl rfl Try.func68 (by kernel_rfl) rfl #[.int .i64 a2] rfl ar ?_; (with_reducible refine (spec_l3Bits.calls a2 true _ A7.out).mono ?_); rintro e w' ⟨rfl, ⟨nd, rfl⟩⟩; refine ⟨_, rfl, ?_⟩) | ((with_reducible refine gate_callee (f := 69) rfl ?_); refine goesL_ (some 26) rfl rfl Try.func69 (by kernel_rfl) rfl #[.agg #[.int .u64 t349, .int .u64 t350], .int .u32 a1, .int .i64 a2, .bool a3] rfl ar ?_; (with_reducible refine (spec_l4K_toInt.calls k t349 t350 a1 a2 a3 t354 t355 _ A9.out).mono ?_); rintro e w13 ⟨rfl, hb⟩; refine ⟨_, rfl, ?_⟩; have n0_ := Aside0.mk (blk_below (g := gb352) (o := .cells #[.int .u64 t349, .int .u64 t350] 52 (0, 0)) (by (with_reducible repeat (first | refine blk_drewN ?_ _ | refine blk_drew ?_ | refine blk_alloc ?_ _)); refine blk_put (cs := #[.int .u64 t349, .int .u64 0]) ?_ 1 _ rfl; (with_reducible repeat (first | refine blk_drewN ?_ _ | refine blk_drew ?_ | refine blk_alloc ?_ _)); refine blk_put (cs := #[.int .u64 0, .int .u64 0]) ?_ 0 _ rfl; (with_reducible repeat (first | refine blk_drewN ?_ _ | refine blk_drew ?_ | refine blk_alloc ?_ _)); exact BK352.out) hb); have n1_ := Aside0.mk (below_step (bw HB.out) hb); clear BK352; clear HB; have BK352 := n0_; have HB := n1_; clear n0_ n1_; (try clear hb)))
   go_ret2
   exact ⟨by first | rfl | (simp [errW_none, errW_some] <;> rfl) | (simp [*, errW_none, errW_some] <;> rfl), bw HB.out⟩
  ·
   replace c8 := Bool.eq_false_iff.mpr c8
   subst c8
   have H1 : (some (0, 3)) = some (r1, r2) := by rw [if_neg (show ¬ (false = true) by decide)] at H; exact H
   clear H
   have H := H1
   clear H1
   simp only [Option.some.injEq, Prod.mk.injEq] at H
   obtain ⟨rfl, rfl⟩ := H
   go_enter Try.func28, Try.ntmps28
   go_wp2_with (first | ((with_reducible refine gate_callee (f := 46) rfl ?_); refine goesL_ (some 14) rfl rfl Try.func46 (by kernel_rfl) rfl #[.int .i64 a0] rfl ar ?_; (with_reducible refine (spec_l4Kind.calls a0 t349 t350 true _ A5.out).mono ?_); rintro e w14 ⟨rfl, hb⟩; refine ⟨_, rfl, ?_⟩; have n0_ := Aside0.mk (below_step (bw HB.out) hb); clear HB; have HB := n0_; clear n0_; (try clear hb)) | ((with_reducible refine gate_dst (N := 10) rfl ?_); refine box_event ?hg (N := 10) ?hd (cs := #[.int .u64 0, .int .u64 0]) (t := 52) ?hr ?_; (case hd => rfl); (case hg => rfl); (case hr => first | (go_simp; done) | (go_simp; rfl)); intro gb352 hg w15 hbox hb; have n0_ := Aside0.mk (below_step (bw HB.out) hb); have n1_ := Aside0.mk (hbox); have n2_ := Aside0.mk ((by rw [hg]; exact (below_size (bw HB.out)) : w.heap.size ≤ gb352)); have n3_ := Aside0.mk ((by rw [hg]; exact (below_size (bw HB.out)) : w.heap.size ≤ gb352)); clear HB; have HB := n0_; have BK352 := n1_; have GW352 := n2_; have GE352 := n3_; clear n0_ n1_ n2_ n3_; clear hb hbox hg; have hcz16_0 : w15.cell? ⟨gb352, 0, none⟩ = some (.int .u64 0) := (blk_cell BK352.out 0).trans rfl; have hcz16_1 : w15.cell? ⟨gb352, 1, none⟩ = some (.int .u64 0) := (blk_cell BK352.out 1).trans rfl; have hfz16_0 := blk_frozen BK352.out 0; have hfz16_1 := blk_frozen BK352.out 1) | ((with_reducible refine gate_callee (f := 68) rfl ?_); refine goesL_ (some 20) rfl rfl Try.func68 (by kernel_rfl) rfl #[.int .i64 a2] rfl ar ?_; (with_reducible refine (spec_l3Bits.calls a2 false _ A7.out).mono ?_); rintro e w' ⟨rfl, ⟨nd, rfl⟩⟩; refine ⟨_, rfl, ?_⟩))
   go_ret2
   exact ⟨by first | rfl | (simp [errW_none, errW_some] <;> rfl) | (simp [*, errW_none, errW_some] <;> rfl), bw HB.out⟩
 ·
  replace c6 := Bool.eq_false_iff.mpr c6
  subst c6
  have H1 : (some (0, 0)) = some (r1, r2) := by rw [if_neg (show ¬ (false = true) by decide)] at H; exact H
  clear H
  have H := H1
  clear H1
  simp only [Option.some.injEq, Prod.mk.injEq] at H
  obtain ⟨rfl, rfl⟩ := H
  go_enter Try.func28, Try.ntmps28
  go_wp2_with (first | ((with_reducible refine gate_callee (f := 46) rfl ?_); refine goesL_ (some 14) rfl rfl Try.func46 (by kernel_rfl) rfl #[.int .i64 a0] rfl ar ?_; (with_reducible refine (spec_l4Kind.calls a0 t349 t350 false _ A5.out).mono ?_); rintro e w17 ⟨rfl, hb⟩; refine ⟨_, rfl, ?_⟩; have n0_ := Aside0.mk (below_step (bw HB.out) hb); clear HB; have HB := n0_; clear n0_; (try clear hb)) | ((with_reducible refine gate_dst (N := 10) rfl ?_); refine box_event ?hg (N := 10) ?hd (cs := #[.int .u64 0, .int .u64 0]) (t := 52) ?hr ?_; (case hd => rfl); (case hg => rfl); (case hr => first | (go_simp; done) | (go_simp; rfl)); intro gb352 hg w18 hbox hb; have n0_ := Aside0.mk (below_step (bw HB.out) hb); have n1_ := Aside0.mk (hbox); have n2_ := Aside0.mk ((by rw [hg]; exact (below_size (bw HB.out)) : w.heap.size ≤ gb352)); have n3_ := Aside0.mk ((by rw [hg]; exact (below_size (bw HB.out)) : w.heap.size ≤ gb352)); clear HB; have HB := n0_; have BK352 := n1_; have GW352 := n2_; have GE352 := n3_; clear n0_ n1_ n2_ n3_; clear hb hbox hg; have hcz19_0 : w18.cell? ⟨gb352, 0, none⟩ = some (.int .u64 0) := (blk_cell BK352.out 0).trans rfl; have hcz19_1 : w18.cell? ⟨gb352, 1, none⟩ = some (.int .u64 0) := (blk_cell BK352.out 1).trans rfl; have hfz19_0 := blk_frozen BK352.out 0; have hfz19_1 := blk_frozen BK352.out 1))
  go_ret2
  exact ⟨by first | rfl | (simp [errW_none, errW_some] <;> rfl) | (simp [*, errW_none, errW_some] <;> rfl), bw HB.out⟩

end Go.Proofs.Ytdeogandkgiggaa.Q

namespace Go.Proofs.Ytdeogandkgiggaa.Q
open Go.RowKit Go.Proofs.YtdeogandkgiggaaW.PrintWords Go.Proofs.YtdeogandkgiggaaW.PrintLast Go.Proofs.YtdeogandkgiggaaW.PrintMore
attribute [local go_sem] max2_int min2_int max_two min_two max_three min_three max_four min_four   -- for this text's walks alone
set_option linter.unusedVariables false
set_option linter.unusedSimpArgs false

/-! ### laws_FnExactFToInt: function 9 -/
def laws_FnExactFToInt.f (k : Nat) (a0 : Int) (a1 : Int) (a2 : Int) (a3 : Bool) : Option (Bool) := (spec_FToInt.f k a0 a1 a2 a3).bind fun bt356 => ((impl_FToInt.f k a0 a1 a2 a3).bind fun bt358 => (if bt358.1 = bt356.1 then (if bt358.2 = bt356.2 then (some true) else (some false)) else (some false)))
theorem laws_FnExactFToInt.mono : ∀ a0 a1 a2 a3 k, LeO (laws_FnExactFToInt.f k a0 a1 a2 a3) (laws_FnExactFToInt.f (k + 1) a0 a1 a2 a3) := by
 intro a0 a1 a2 a3 k
 unfold laws_FnExactFToInt.f
 repeat' first
   | (with_reducible exact impl_FToInt.mono _ _ _ _ _)
   | (with_reducible exact spec_FToInt.mono _ _ _ _ _)
   | (with_reducible exact LeO.refl _)
   | (with_reducible exact LeO.none _)
   | (with_reducible refine LeO.ite ?_ ?_)
   | (with_reducible refine LeO.bind ?_ (fun _ => ?_))
   | exact impl_FToInt.mono _ _ _ _ _
   | exact spec_FToInt.mono _ _ _ _ _
   | exact LeO.none _
   | refine LeO.ite ?_ ?_
   | refine LeO.bind ?_ (fun _ => ?_)
set_option maxHeartbeats 8000000 in
set_option maxRecDepth 100000 in
theorem laws_FnExactFToInt.calls (k : Nat) (a0 : Int) (a1 : Int) (a2 : Int) (a3 : Bool) (r : Bool) (w : World) (hTrue : r = true) (h : laws_FnExactFToInt.f k a0 a1 a2 a3 = some r) :
  Calls Try.prog 9 #[.int .i64 a0, .int .u32 a1, .int .i64 a2, .bool a3] w fun e w' => e = .returned (.bool r) ∧ Below w.heap.size w w' := by
 have HB := Aside0.mk (Below.refl w.heap.size w)
 have H : ((spec_FToInt.f k a0 a1 a2 a3).bind fun bt356 => ((impl_FToInt.f k a0 a1 a2 a3).bind fun bt358 => (if bt358.1 = bt356.1 then (if bt358.2 = bt356.2 then (some true) else (some false)) else (some false)))) = some r := h
 clear h
 have HT := Aside0.mk hTrue
 clear hTrue
 replace H := Option.bind_eq_some_iff.mp H
 obtain ⟨⟨t356, t357⟩, A50, H⟩ := H
 replace H : ((impl_FToInt.f k a0 a1 a2 a3).bind fun bt358 => (if bt358.1 = t356 then (if bt358.2 = t357 then (some true) else (some false)) else (some false))) = some r := H
 have A5 := Aside0.mk A50
 clear A50
 replace H := Option.bind_eq_some_iff.mp H
 obtain ⟨⟨t358, t359⟩, A60, H⟩ := H
 replace H : (if t358 = t356 then (if t359 = t357 then (some true) else (some false)) else (some false)) = some r := H
 have A6 := Aside0.mk A60
 clear A60
 by_cases c7 : t358 = t356
 ·
  rw [if_pos c7] at H
  have c7b0 : (t358 == t356) = true := beq_iff_eq.mpr c7
  have c7b1 : (t358 != t356) = false := bne_eq_false_iff_eq.mpr c7
  clear c7
  by_cases c8 : t359 = t357
  ·
   rw [if_pos c8] at H
   have c8b0 : (t359 == t357) = true := beq_iff_eq.mpr c8
   have c8b1 : (t359 != t357) = false := bne_eq_false_iff_eq.mpr c8
   clear c8
   obtain rfl := Option.some.inj H
   simp only [Option.some.injEq, Prod.mk.injEq] at H
   obtain ⟨rfl⟩ := H
   go_enter Try.func9, Try.ntmps9
   go_wp2_with (first | ((with_reducible refine gate_callee (f := 28) rfl ?_); refine goesL_ (some 18) rfl rfl Try.func28 (by kernel_rfl) rfl #[.int .i64 a0, .int .u32 a1, .int .i64 a2, .bool a3] rfl ar ?_; (with_reducible refine (spec_FToInt.calls k a0 a1 a2 a3 t356 t357 _ A5.out).mono ?_); rintro e w9 ⟨rfl, hb⟩; refine ⟨_, rfl, ?_⟩; have n0_ := Aside0.mk (below_step (bw HB.out) hb); clear HB; have HB := n0_; clear n0_; (try clear hb)) | ((with_reducible refine gate_callee (f := 29) rfl ?_); refine goesL_ (some 26) rfl rfl Try.func29 (by kernel_rfl) rfl #[.int .i64 a0, .int .u32 a1, .int .i64 a2, .bool a3] rfl ar ?_; (with_reducible refine (impl_FToInt.calls k a0 a1 a2 a3 t358 t359 _ A6.out).mono ?_); rintro e w10 ⟨rfl, hb⟩; refine ⟨_, rfl, ?_⟩; have n0_ := Aside0.mk (below_step (bw HB.out) hb); clear HB; have HB := n0_; clear n0_; (try clear hb)))
   go_ret
   exact ⟨by first | rfl | (simp [errW_none, errW_some] <;> rfl) | (simp [*, errW_none, errW_some] <;> rfl), bw HB.out⟩
  ·
   rw [if_neg c8] at H
   have c8b0 : (t359 == t357) = false := beq_eq_false_iff_ne.mpr c8
   have c8b1 : (t359 != t357) = true := bne_iff_ne.mpr c8
   obtain rfl := Option.some.inj H
   exact absurd HT.out (by decide)
 ·
  rw [if_neg c7] at H
  have c7b0 : (t358 == t356) = false := beq_eq_false_iff_ne.mpr c7
  have c7b1 : (t358 != t356) = true := bne_iff_ne.mpr c7
  obtain rfl := Option.some.inj H
  exact absurd HT.out (by decide)

/-- THE ONE PURE STATEMENT of laws_FnExactFToInt: yours. -/
def laws_FnExactFToInt.Pure : Prop := ∀ (a0 : Int) (a1 : Int) (a2 : Int) (a3 : Bool), (Lit.int .i64 a0).wf = true → (Lit.int .u32 a1).wf = true → (Lit.int .i64 a2).wf = true → ∃ k, laws_FnExactFToInt.f k a0 a1 a2 a3 = some true
theorem laws_FnExactFToInt.walk (P : laws_FnExactFToInt.Pure) (a0 : Int) (a1 : Int) (a2 : Int) (a3 : Bool) (w : World) (w0 : (Lit.int .i64 a0).wf = true) (w1 : (Lit.int .u32 a1).wf = true) (w2 : (Lit.int .i64 a2).wf = true) :
  Calls Try.prog 9 #[.int .i64 a0, .int .u32 a1, .int .i64 a2, .bool a3] w fun e w' => e = .returned (.bool true) ∧ Below w.heap.size w w' := by
 obtain ⟨k, h⟩ := P a0 a1 a2 a3 w0 w1 w2
 refine (laws_FnExactFToInt.calls k a0 a1 a2 a3 true w rfl h).mono ?_
 rintro e w' ⟨rfl, hd⟩
 exact ⟨rfl, hd⟩

end Go.Proofs.Ytdeogandkgiggaa.Q

