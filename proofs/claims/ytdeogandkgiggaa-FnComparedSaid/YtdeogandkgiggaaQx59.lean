-- Written by a program of this session; it walks the functions that the law reaches.
import Derived.Test.YtdeogandkgiggaaQx0
import Derived.Test.YtdeogandkgiggaaQx52
import Derived.Test.YtdeogandkgiggaaQx53
import Derived.Test.YtdeogandkgiggaaQx54
import Derived.Test.YtdeogandkgiggaaQx57
import Derived.Test.YtdeogandkgiggaaQx58
namespace Go.Proofs.Ytdeogandkgiggaa.Q
open Go.RowKit Go.Proofs.YtdeogandkgiggaaW.PrintWords Go.Proofs.YtdeogandkgiggaaW.PrintLast Go.Proofs.YtdeogandkgiggaaW.PrintMore
attribute [local go_sem] max2_int min2_int max_two min_two max_three min_three max_four min_four   -- for this text's walks alone
set_option linter.unusedVariables false
set_option linter.unusedSimpArgs false

/-! ### laws_FnCompared: function 12 -/
mutual
def laws_FnCompared.j0 : Nat → Int → Int → Int → Int → Int → Bool → Option (Bool)
 | 0, _, _, _, _, _, _ => none
 | k + 1, x3, x4, x5, x6, x7, x52 => if x52 = true then (some false) else (if x6 = 2 then (laws_FnCompared.j1 k x3 x4 x5 x6 x7 false) else ((impl_FCompare.f k x3 x5 x4).bind fun t693 => (laws_FnCompared.j1 k x3 x4 x5 x6 x7 (t693 != (wrap64 (-x6))))))
def laws_FnCompared.j1 : Nat → Int → Int → Int → Int → Int → Bool → Option (Bool)
 | 0, _, _, _, _, _, _ => none
 | k + 1, x3, x4, x5, x6, x7, x63 => if x63 = true then (some false) else ((laws_exact.f x4).bind fun bt694 => ((laws_exact.f x5).bind fun bt696 => (if x3 = 16 then (if bt694.2 = true then (if bt696.2 = true then ((laws_exact.f x7).bind fun bt698 => (if bt698.2 = true then (if ((decide (x6 < 0)) == (decide (bt694.1 < bt696.1))) = true then (if ((decide (x6 > 0)) == (decide (bt694.1 > bt696.1))) = true then (if bt698.1 = bt694.1 then (if bt698.1 ≤ bt694.1 then (some (decide (bt698.1 ≤ bt696.1))) else (some false)) else (if bt698.1 = bt696.1 then (if bt698.1 ≤ bt694.1 then (some (decide (bt698.1 ≤ bt696.1))) else (some false)) else (some false))) else (some false)) else (some false)) else (some false))) else (some true)) else (some true)) else (some true))))
end
def laws_FnCompared.f (k : Nat) (l0 : List Int) : Option (Bool) := if (l0.length : Int) > 1048576 then (some true) else ((spec_DrawFCompare.f k l0).bind fun bt685 => ((impl_FCompare.f k bt685.1 bt685.2.1 bt685.2.2).bind fun t688 => ((impl_FMin.f k bt685.1 bt685.2.1 bt685.2.2).bind fun t689 => ((spec_FCompare.f k bt685.1 bt685.2.1 bt685.2.2).bind fun t690 => (if t688 = t690 then ((spec_FMin.f k bt685.1 bt685.2.1 bt685.2.2).bind fun t691 => (if t689 = t691 then ((impl_FMin.f k bt685.1 bt685.2.2 bt685.2.1).bind fun t692 => (laws_FnCompared.j0 k bt685.1 bt685.2.1 bt685.2.2 t688 t689 (t689 != t692))) else (laws_FnCompared.j0 k bt685.1 bt685.2.1 bt685.2.2 t688 t689 true))) else (laws_FnCompared.j0 k bt685.1 bt685.2.1 bt685.2.2 t688 t689 true))))))
theorem laws_FnCompared.mono_l : ∀ k, (∀ y0 y1 y2 y3 y4 y5, LeO (laws_FnCompared.j0 k y0 y1 y2 y3 y4 y5) (laws_FnCompared.j0 (k + 1) y0 y1 y2 y3 y4 y5)) ∧ (∀ y0 y1 y2 y3 y4 y5, LeO (laws_FnCompared.j1 k y0 y1 y2 y3 y4 y5) (laws_FnCompared.j1 (k + 1) y0 y1 y2 y3 y4 y5))
 | 0 => ⟨fun _ _ _ _ _ _ r h => by simp [laws_FnCompared.j0] at h, fun _ _ _ _ _ _ r h => by simp [laws_FnCompared.j1] at h⟩
 | k + 1 => by
  obtain ⟨ih0, ih1⟩ := laws_FnCompared.mono_l k
  refine ⟨?_, ?_⟩
  ·
   intro y0 y1 y2 y3 y4 y5
   unfold laws_FnCompared.j0
   repeat' first
   | (with_reducible exact ih0 _ _ _ _ _ _)
   | (with_reducible exact ih1 _ _ _ _ _ _)
   | (with_reducible exact impl_FCompare.mono _ _ _ _)
   | (with_reducible exact impl_FMin.mono _ _ _ _)
   | (with_reducible exact spec_DrawFCompare.mono _ _)
   | (with_reducible exact spec_FCompare.mono _ _ _ _)
   | (with_reducible exact spec_FMin.mono _ _ _ _)
   | (with_reducible exact LeO.refl _)
   | (with_reducible exact LeO.none _)
   | (with_reducible refine LeO.ite ?_ ?_)
   | (with_reducible refine LeO.bind ?_ (fun _ => ?_))
   | exact ih0 _ _ _ _ _ _
   | exact ih1 _ _ _ _ _ _
   | exact impl_FCompare.mono _ _ _ _
   | exact impl_FMin.mono _ _ _ _
   | exact spec_DrawFCompare.mono _ _
   | exact spec_FCompare.mono _ _ _ _
   | exact spec_FMin.mono _ _ _ _
   | exact LeO.none _
   | refine LeO.ite ?_ ?_
   | refine LeO.bind ?_ (fun _ => ?_)
  ·
   intro y0 y1 y2 y3 y4 y5
   unfold laws_FnCompared.j1
   repeat' first
   | (with_reducible exact ih0 _ _ _ _ _ _)
   | (with_reducible exact ih1 _ _ _ _ _ _)
   | (with_reducible exact impl_FCompare.mono _ _ _ _)
   | (with_reducible exact impl_FMin.mono _ _ _ _)
   | (with_reducible exact spec_DrawFCompare.mono _ _)
   | (with_reducible exact spec_FCompare.mono _ _ _ _)
   | (with_reducible exact spec_FMin.mono _ _ _ _)
   | (with_reducible exact LeO.refl _)
   | (with_reducible exact LeO.none _)
   | (with_reducible refine LeO.ite ?_ ?_)
   | (with_reducible refine LeO.bind ?_ (fun _ => ?_))
   | exact ih0 _ _ _ _ _ _
   | exact ih1 _ _ _ _ _ _
   | exact impl_FCompare.mono _ _ _ _
   | exact impl_FMin.mono _ _ _ _
   | exact spec_DrawFCompare.mono _ _
   | exact spec_FCompare.mono _ _ _ _
   | exact spec_FMin.mono _ _ _ _
   | exact LeO.none _
   | refine LeO.ite ?_ ?_
   | refine LeO.bind ?_ (fun _ => ?_)
theorem laws_FnCompared.mono : ∀ a0 k, LeO (laws_FnCompared.f k a0) (laws_FnCompared.f (k + 1) a0) := by
 intro a0 k
 obtain ⟨ih0, ih1⟩ := laws_FnCompared.mono_l k
 unfold laws_FnCompared.f
 repeat' first
   | (with_reducible exact ih0 _ _ _ _ _ _)
   | (with_reducible exact ih1 _ _ _ _ _ _)
   | (with_reducible exact impl_FCompare.mono _ _ _ _)
   | (with_reducible exact impl_FMin.mono _ _ _ _)
   | (with_reducible exact spec_DrawFCompare.mono _ _)
   | (with_reducible exact spec_FCompare.mono _ _ _ _)
   | (with_reducible exact spec_FMin.mono _ _ _ _)
   | (with_reducible exact LeO.refl _)
   | (with_reducible exact LeO.none _)
   | (with_reducible refine LeO.ite ?_ ?_)
   | (with_reducible refine LeO.bind ?_ (fun _ => ?_))
   | exact ih0 _ _ _ _ _ _
   | exact ih1 _ _ _ _ _ _
   | exact impl_FCompare.mono _ _ _ _
   | exact impl_FMin.mono _ _ _ _
   | exact spec_DrawFCompare.mono _ _
   | exact spec_FCompare.mono _ _ _ _
   | exact spec_FMin.mono _ _ _ _
   | exact LeO.none _
   | refine LeO.ite ?_ ?_
   | refine LeO.bind ?_ (fun _ => ?_)
set_option maxHeartbeats 8000000 in
set_option maxRecDepth 100000 in
theorem laws_FnCompared.calls (k : Nat) (A0 : Option Addr) (c0 : Nat) (l0 : List Int) (r : Bool) (w : World) (hr0 : Kd.C (Kd.int .u8) w A0 l0.length l0) (hc0 : l0.length ≤ c0) (hTrue : r = true) (h : laws_FnCompared.f k l0 = some r) :
  Calls Try.prog 12 #[.slice A0 l0.length c0] w fun e w' => e = .returned (.bool r) ∧ Below w.heap.size w w' := by
 have HR0 := Aside0.mk hr0
 have HC0 := Aside0.mk hc0
 clear hr0 hc0
 have HB := Aside0.mk (Below.refl w.heap.size w)
 have H : (if (l0.length : Int) > 1048576 then (some true) else ((spec_DrawFCompare.f k l0).bind fun bt685 => ((impl_FCompare.f k bt685.1 bt685.2.1 bt685.2.2).bind fun t688 => ((impl_FMin.f k bt685.1 bt685.2.1 bt685.2.2).bind fun t689 => ((spec_FCompare.f k bt685.1 bt685.2.1 bt685.2.2).bind fun t690 => (if t688 = t690 then ((spec_FMin.f k bt685.1 bt685.2.1 bt685.2.2).bind fun t691 => (if t689 = t691 then ((impl_FMin.f k bt685.1 bt685.2.2 bt685.2.1).bind fun t692 => (laws_FnCompared.j0 k bt685.1 bt685.2.1 bt685.2.2 t688 t689 (t689 != t692))) else (laws_FnCompared.j0 k bt685.1 bt685.2.1 bt685.2.2 t688 t689 true))) else (laws_FnCompared.j0 k bt685.1 bt685.2.1 bt685.2.2 t688 t689 true))))))) = some r := h
 clear h
 have HT := Aside0.mk hTrue
 clear hTrue
 by_cases c2 : (l0.length : Int) > 1048576
 ·
  rw [if_pos c2] at H
  have c2b0 : decide (1048576 < (l0.length : Int)) = true := decide_eq_true c2
  have c2b1 : decide (1048576 < l0.length) = true := decide_eq_true (by omega)
  clear c2
  obtain rfl := Option.some.inj H
  simp only [Option.some.injEq, Prod.mk.injEq] at H
  obtain ⟨rfl⟩ := H
  go_enter Try.func12, Try.ntmps12
  go_wp2
  go_ret
  exact ⟨by first | rfl | (simp [errW_none, errW_some] <;> rfl) | (simp [*, errW_none, errW_some] <;> rfl), by repeat (first | (with_reducible first | exact HB.out | apply below_alloc | apply pw_below_drewN | apply below_drew1) | exact HB.out)⟩
 ·
  rw [if_neg c2] at H
  have c2b0 : decide (1048576 < (l0.length : Int)) = false := decide_eq_false c2
  have c2b1 : decide (1048576 < l0.length) = false := decide_eq_false (by omega)
  clear c2
  replace H := Option.bind_eq_some_iff.mp H
  obtain ⟨⟨t685, t686, t687⟩, A30, H⟩ := H
  replace H : ((impl_FCompare.f k t685 t686 t687).bind fun t688 => ((impl_FMin.f k t685 t686 t687).bind fun t689 => ((spec_FCompare.f k t685 t686 t687).bind fun t690 => (if t688 = t690 then ((spec_FMin.f k t685 t686 t687).bind fun t691 => (if t689 = t691 then ((impl_FMin.f k t685 t687 t686).bind fun t692 => (laws_FnCompared.j0 k t685 t686 t687 t688 t689 (t689 != t692))) else (laws_FnCompared.j0 k t685 t686 t687 t688 t689 true))) else (laws_FnCompared.j0 k t685 t686 t687 t688 t689 true))))) = some r := H
  have A3 := Aside0.mk A30
  clear A30
  replace H := Option.bind_eq_some_iff.mp H
  obtain ⟨t688, A40, H⟩ := H
  replace H : ((impl_FMin.f k t685 t686 t687).bind fun t689 => ((spec_FCompare.f k t685 t686 t687).bind fun t690 => (if t688 = t690 then ((spec_FMin.f k t685 t686 t687).bind fun t691 => (if t689 = t691 then ((impl_FMin.f k t685 t687 t686).bind fun t692 => (laws_FnCompared.j0 k t685 t686 t687 t688 t689 (t689 != t692))) else (laws_FnCompared.j0 k t685 t686 t687 t688 t689 true))) else (laws_FnCompared.j0 k t685 t686 t687 t688 t689 true)))) = some r := H
  have A4 := Aside0.mk A40
  clear A40
  replace H := Option.bind_eq_some_iff.mp H
  obtain ⟨t689, A50, H⟩ := H
  replace H : ((spec_FCompare.f k t685 t686 t687).bind fun t690 => (if t688 = t690 then ((spec_FMin.f k t685 t686 t687).bind fun t691 => (if t689 = t691 then ((impl_FMin.f k t685 t687 t686).bind fun t692 => (laws_FnCompared.j0 k t685 t686 t687 t688 t689 (t689 != t692))) else (laws_FnCompared.j0 k t685 t686 t687 t688 t689 true))) else (laws_FnCompared.j0 k t685 t686 t687 t688 t689 true))) = some r := H
  have A5 := Aside0.mk A50
  clear A50
  have HC6 := Aside0.mk H
  clear H
  go_enter Try.func12, Try.ntmps12
  go_upto_region 6 with (first | ((with_reducible refine gate_callee (f := 34) rfl ?_); refine goesL_ (some 19) rfl rfl Try.func34 (by kernel_rfl) rfl #[.slice A0 l0.length c0] rfl (by (try simp only [List.map_toArray, List.map_cons, List.map_nil]); first | done | rfl | (simp only [List.length_drop, List.length_take]; rfl)) ?_; (with_reducible refine (spec_DrawFCompare.calls k _ _ l0 t685 t686 t687 _ ?side1 ?side2 A3.out).mono ?_); (case side1 => repeat (first | exact HR0.out | (with_reducible refine Kd.C_alloc ?_ _) | (with_reducible refine Kd.C_drewN ?_ _) | (with_reducible refine Kd.C_drew ?_))); (case side2 => exact HC0.out); rintro e w7 ⟨rfl, hb⟩; refine ⟨_, rfl, ?_⟩; have n0_ := Aside0.mk (below_step (by repeat (first | (with_reducible first | exact HB.out | apply below_alloc | apply pw_below_drewN | apply below_drew1) | exact HB.out)) hb); clear HB; have HB := n0_; clear n0_; (try clear hb); (try clear hb2); (try clear hk); (try clear hi)) | ((with_reducible refine gate_callee (f := 35) rfl ?_); refine goesL_ (some 26) rfl rfl Try.func35 (by kernel_rfl) rfl #[.int .i64 t685, .int .u32 t686, .int .u32 t687] rfl (by (try simp only [List.map_toArray, List.map_cons, List.map_nil]); first | done | rfl | (simp only [List.length_drop, List.length_take]; rfl)) ?_; (with_reducible refine (impl_FCompare.calls k t685 t686 t687 t688 _ A4.out).mono ?_); rintro e w8 ⟨rfl, hb⟩; refine ⟨_, rfl, ?_⟩; have n0_ := Aside0.mk (below_step (by repeat (first | (with_reducible first | exact HB.out | apply below_alloc | apply pw_below_drewN | apply below_drew1) | exact HB.out)) hb); clear HB; have HB := n0_; clear n0_; (try clear hb); (try clear hb2); (try clear hk); (try clear hi)) | ((with_reducible refine gate_callee (f := 36) rfl ?_); refine goesL_ (some 30) rfl rfl Try.func36 (by kernel_rfl) rfl #[.int .i64 t685, .int .u32 t686, .int .u32 t687] rfl (by (try simp only [List.map_toArray, List.map_cons, List.map_nil]); first | done | rfl | (simp only [List.length_drop, List.length_take]; rfl)) ?_; (with_reducible refine (impl_FMin.calls k t685 t686 t687 t689 _ A5.out).mono ?_); rintro e w9 ⟨rfl, hb⟩; refine ⟨_, rfl, ?_⟩; have n0_ := Aside0.mk (below_step (by repeat (first | (with_reducible first | exact HB.out | apply below_alloc | apply pw_below_drewN | apply below_drew1) | exact HB.out)) hb); clear HB; have HB := n0_; clear n0_; (try clear hb); (try clear hb2); (try clear hk); (try clear hi)))
  (try simp only [Act.put, List.setIfInBounds_toArray, List.set_cons_zero, List.set_cons_succ])
  go_cut [52] (fun v52 wc => ∃ (kq : Nat) (x52_5 : Bool), v52 = .bool x52_5 ∧ Aside0 (laws_FnCompared.j0 kq t685 t686 t687 t688 t689 x52_5 = some r) ∧ Aside0 (kq ≤ k) ∧ Aside0 (Below w.heap.size w wc))
  case first =>
   have H := HC6.out
   clear HC6
   replace H := Option.bind_eq_some_iff.mp H
   obtain ⟨t690, A100, H⟩ := H
   replace H : (if t688 = t690 then ((spec_FMin.f k t685 t686 t687).bind fun t691 => (if t689 = t691 then ((impl_FMin.f k t685 t687 t686).bind fun t692 => (laws_FnCompared.j0 k t685 t686 t687 t688 t689 (t689 != t692))) else (laws_FnCompared.j0 k t685 t686 t687 t688 t689 true))) else (laws_FnCompared.j0 k t685 t686 t687 t688 t689 true)) = some r := H
   have A10 := Aside0.mk A100
   clear A100
   by_cases c11 : t688 = t690
   ·
    rw [if_pos c11] at H
    have c11b0 : (t688 == t690) = true := beq_iff_eq.mpr c11
    have c11b1 : (t688 != t690) = false := bne_eq_false_iff_eq.mpr c11
    clear c11
    (first | rw [c11b0] | (simp only [i64_w, i32_w]; rw [c11b0]) | skip)
    replace H := Option.bind_eq_some_iff.mp H
    obtain ⟨t691, A120, H⟩ := H
    replace H : (if t689 = t691 then ((impl_FMin.f k t685 t687 t686).bind fun t692 => (laws_FnCompared.j0 k t685 t686 t687 t688 t689 (t689 != t692))) else (laws_FnCompared.j0 k t685 t686 t687 t688 t689 true)) = some r := H
    have A12 := Aside0.mk A120
    clear A120
    by_cases c13 : t689 = t691
    ·
     rw [if_pos c13] at H
     have c13b0 : (t689 == t691) = true := beq_iff_eq.mpr c13
     have c13b1 : (t689 != t691) = false := bne_eq_false_iff_eq.mpr c13
     clear c13
     replace H := Option.bind_eq_some_iff.mp H
     obtain ⟨t692, A140, H⟩ := H
     replace H : (laws_FnCompared.j0 k t685 t686 t687 t688 t689 (t689 != t692)) = some r := H
     have A14 := Aside0.mk A140
     clear A140
     have H' := Aside0.mk H
     clear H
     go_wp2_with (first | ((with_reducible refine gate_callee (f := 37) rfl ?_); refine goesL_ (some 35) rfl rfl Try.func37 (by kernel_rfl) rfl #[.int .i64 t685, .int .u32 t686, .int .u32 t687] rfl (by (try simp only [List.map_toArray, List.map_cons, List.map_nil]); first | done | rfl | (simp only [List.length_drop, List.length_take]; rfl)) ?_; (with_reducible refine (spec_FCompare.calls k t685 t686 t687 t690 _ A10.out).mono ?_); rintro e w15 ⟨rfl, hb⟩; refine ⟨_, rfl, ?_⟩; have n0_ := Aside0.mk (below_step (by repeat (first | (with_reducible first | exact HB.out | apply below_alloc | apply pw_below_drewN | apply below_drew1) | exact HB.out)) hb); clear HB; have HB := n0_; clear n0_; (try clear hb); (try clear hb2); (try clear hk); (try clear hi)) | (go_at_call 38; (with_reducible refine (spec_FMin.calls k t685 t686 t687 t691 _ A12.out).mono ?_); rintro e w16 ⟨rfl, hb⟩; have n0_ := Aside0.mk (below_step (by repeat (first | (with_reducible first | exact HB.out | apply below_alloc | apply pw_below_drewN | apply below_drew1) | exact HB.out)) hb); clear HB; have HB := n0_; clear n0_; (try clear hb); (try clear hb2); (try clear hk); (try clear hi)) | (go_at_call 36; (with_reducible refine (impl_FMin.calls k t685 t687 t686 t692 _ A14.out).mono ?_); rintro e w17 ⟨rfl, hb⟩; have n0_ := Aside0.mk (below_step (by repeat (first | (with_reducible first | exact HB.out | apply below_alloc | apply pw_below_drewN | apply below_drew1) | exact HB.out)) hb); clear HB; have HB := n0_; clear n0_; (try clear hb); (try clear hb2); (try clear hk); (try clear hi)))
     go_meet
     case rel => exact ⟨_, ((t689 != t692)), (by first | rfl | (simp; done) | (simp [*]; done)), H', ⟨by first | omega | exact Nat.le_refl _⟩, ⟨by repeat (first | (with_reducible first | exact HB.out | apply below_alloc | apply pw_below_drewN | apply below_drew1) | exact HB.out)⟩⟩
    ·
     rw [if_neg c13] at H
     have c13b0 : (t689 == t691) = false := beq_eq_false_iff_ne.mpr c13
     have c13b1 : (t689 != t691) = true := bne_iff_ne.mpr c13
     have H' := Aside0.mk H
     clear H
     go_wp2_with (first | ((with_reducible refine gate_callee (f := 37) rfl ?_); refine goesL_ (some 35) rfl rfl Try.func37 (by kernel_rfl) rfl #[.int .i64 t685, .int .u32 t686, .int .u32 t687] rfl (by (try simp only [List.map_toArray, List.map_cons, List.map_nil]); first | done | rfl | (simp only [List.length_drop, List.length_take]; rfl)) ?_; (with_reducible refine (spec_FCompare.calls k t685 t686 t687 t690 _ A10.out).mono ?_); rintro e w18 ⟨rfl, hb⟩; refine ⟨_, rfl, ?_⟩; have n0_ := Aside0.mk (below_step (by repeat (first | (with_reducible first | exact HB.out | apply below_alloc | apply pw_below_drewN | apply below_drew1) | exact HB.out)) hb); clear HB; have HB := n0_; clear n0_; (try clear hb); (try clear hb2); (try clear hk); (try clear hi)) | (go_at_call 38; (with_reducible refine (spec_FMin.calls k t685 t686 t687 t691 _ A12.out).mono ?_); rintro e w19 ⟨rfl, hb⟩; have n0_ := Aside0.mk (below_step (by repeat (first | (with_reducible first | exact HB.out | apply below_alloc | apply pw_below_drewN | apply below_drew1) | exact HB.out)) hb); clear HB; have HB := n0_; clear n0_; (try clear hb); (try clear hb2); (try clear hk); (try clear hi)))
     go_meet
     case rel => exact ⟨_, (true), (by first | rfl | (simp; done) | (simp [*]; done)), H', ⟨by first | omega | exact Nat.le_refl _⟩, ⟨by repeat (first | (with_reducible first | exact HB.out | apply below_alloc | apply pw_below_drewN | apply below_drew1) | exact HB.out)⟩⟩
   ·
    rw [if_neg c11] at H
    have c11b0 : (t688 == t690) = false := beq_eq_false_iff_ne.mpr c11
    have c11b1 : (t688 != t690) = true := bne_iff_ne.mpr c11
    (first | rw [c11b0] | (simp only [i64_w, i32_w]; rw [c11b0]) | skip)
    have H' := Aside0.mk H
    clear H
    go_wp2_with (first | ((with_reducible refine gate_callee (f := 37) rfl ?_); refine goesL_ (some 35) rfl rfl Try.func37 (by kernel_rfl) rfl #[.int .i64 t685, .int .u32 t686, .int .u32 t687] rfl (by (try simp only [List.map_toArray, List.map_cons, List.map_nil]); first | done | rfl | (simp only [List.length_drop, List.length_take]; rfl)) ?_; (with_reducible refine (spec_FCompare.calls k t685 t686 t687 t690 _ A10.out).mono ?_); rintro e w20 ⟨rfl, hb⟩; refine ⟨_, rfl, ?_⟩; have n0_ := Aside0.mk (below_step (by repeat (first | (with_reducible first | exact HB.out | apply below_alloc | apply pw_below_drewN | apply below_drew1) | exact HB.out)) hb); clear HB; have HB := n0_; clear n0_; (try clear hb); (try clear hb2); (try clear hk); (try clear hi)))
    go_meet
    case rel => exact ⟨_, (true), (by first | rfl | (simp; done) | (simp [*]; done)), H', ⟨by first | omega | exact Nat.le_refl _⟩, ⟨by repeat (first | (with_reducible first | exact HB.out | apply below_alloc | apply pw_below_drewN | apply below_drew1) | exact HB.out)⟩⟩
  case rest =>
   clear HC6
   try clear c1
   try clear c2
   try clear c2b0
   try clear c2b1
   try clear p2
   try clear c3
   try clear c11
   try clear c11b0
   try clear c11b1
   try clear c12
   try clear c13
   try clear c13b0
   try clear c13b1
   obtain ⟨kq, x52_5, rfl, HA, HJ5, HB⟩ := hcut
   cases kq with
   | zero => exact absurd HA.out (by simp [laws_FnCompared.j0])
   | succ kj5 =>
    have H := HA.out
    clear HA
    simp only [laws_FnCompared.j0] at H
    by_cases c21 : x52_5 = true
    ·
     subst c21
     have H1 : (some false) = some r := by rw [if_pos rfl] at H; exact H
     clear H
     have H := H1
     clear H1
     obtain rfl := Option.some.inj H
     exact absurd HT.out (by decide)
    ·
     replace c21 := Bool.eq_false_iff.mpr c21
     subst c21
     have H1 : (if t688 = 2 then (laws_FnCompared.j1 kj5 t685 t686 t687 t688 t689 false) else ((impl_FCompare.f kj5 t685 t687 t686).bind fun t693 => (laws_FnCompared.j1 kj5 t685 t686 t687 t688 t689 (t693 != (wrap64 (-t688)))))) = some r := by rw [if_neg (show ¬ (false = true) by decide)] at H; exact H
     clear H
     have H := H1
     clear H1
     have HC22 := Aside0.mk H
     clear H
     go_upto_region 8 with (fail)
     go_cut [63] (fun v63 wc => ∃ (kq : Nat) (x63_21 : Bool), v63 = .bool x63_21 ∧ Aside0 (laws_FnCompared.j1 kq t685 t686 t687 t688 t689 x63_21 = some r) ∧ Aside0 (kq ≤ kj5) ∧ Aside0 (Below w.heap.size w wc))
     case first =>
      have H := HC22.out
      clear HC22
      by_cases c23 : t688 = 2
      ·
       rw [if_pos c23] at H
       have c23b0 : (t688 == 2) = true := beq_iff_eq.mpr c23
       have c23b1 : (t688 != 2) = false := bne_eq_false_iff_eq.mpr c23
       clear c23
       (first | rw [c23b0] | (simp only [i64_w, i32_w]; rw [c23b0]) | skip)
       have H' := Aside0.mk H
       clear H
       go_wp2
       go_meet
       case rel => exact ⟨_, (false), (by first | rfl | (simp; done) | (simp [*]; done)), H', ⟨by have := HJ5.out; first | omega | exact Nat.le_refl _⟩, ⟨by repeat (first | (with_reducible first | exact HB.out | apply below_alloc | apply pw_below_drewN | apply below_drew1) | exact HB.out)⟩⟩
      ·
       rw [if_neg c23] at H
       have c23b0 : (t688 == 2) = false := beq_eq_false_iff_ne.mpr c23
       have c23b1 : (t688 != 2) = true := bne_iff_ne.mpr c23
       (first | rw [c23b0] | (simp only [i64_w, i32_w]; rw [c23b0]) | skip)
       replace H := Option.bind_eq_some_iff.mp H
       obtain ⟨t693, A240, H⟩ := H
       replace H : (laws_FnCompared.j1 kj5 t685 t686 t687 t688 t689 (t693 != (wrap64 (-t688)))) = some r := H
       have A24 := Aside0.mk A240
       clear A240
       have H' := Aside0.mk H
       clear H
       go_wp2_with (first | (go_at_call 35; (with_reducible refine (impl_FCompare.calls kj5 t685 t687 t686 t693 _ A24.out).mono ?_); rintro e w25 ⟨rfl, hb⟩; have n0_ := Aside0.mk (below_step (by repeat (first | (with_reducible first | exact HB.out | apply below_alloc | apply pw_below_drewN | apply below_drew1) | exact HB.out)) hb); clear HB; have HB := n0_; clear n0_; (try clear hb); (try clear hb2); (try clear hk); (try clear hi)))
       go_meet
       case rel => exact ⟨_, ((t693 != (wrap64 (-t688)))), (by first | rfl | (simp; done) | (simp [*]; done)), H', ⟨by have := HJ5.out; first | omega | exact Nat.le_refl _⟩, ⟨by repeat (first | (with_reducible first | exact HB.out | apply below_alloc | apply pw_below_drewN | apply below_drew1) | exact HB.out)⟩⟩
     case rest =>
      clear HC22
      try clear c1
      try clear c2
      try clear c2b0
      try clear c2b1
      try clear p2
      try clear c3
      try clear p6
      try clear c11
      try clear c11b0
      try clear c11b1
      try clear c12
      try clear c13
      try clear c13b0
      try clear c13b1
      try clear c21
      try clear c23
      try clear c23b0
      try clear c23b1
      try clear p2
      obtain ⟨kq, x63_21, rfl, HA, HJ21, HB⟩ := hcut
      cases kq with
      | zero => exact absurd HA.out (by simp [laws_FnCompared.j1])
      | succ kj21 =>
       have H := HA.out
       clear HA
       simp only [laws_FnCompared.j1] at H
       by_cases c26 : x63_21 = true
       ·
        subst c26
        have H1 : (some false) = some r := by rw [if_pos rfl] at H; exact H
        clear H
        have H := H1
        clear H1
        obtain rfl := Option.some.inj H
        exact absurd HT.out (by decide)
       ·
        replace c26 := Bool.eq_false_iff.mpr c26
        subst c26
        have H1 : ((laws_exact.f t686).bind fun bt694 => ((laws_exact.f t687).bind fun bt696 => (if t685 = 16 then (if bt694.2 = true then (if bt696.2 = true then ((laws_exact.f t689).bind fun bt698 => (if bt698.2 = true then (if ((decide (t688 < 0)) == (decide (bt694.1 < bt696.1))) = true then (if ((decide (t688 > 0)) == (decide (bt694.1 > bt696.1))) = true then (if bt698.1 = bt694.1 then (if bt698.1 ≤ bt694.1 then (some (decide (bt698.1 ≤ bt696.1))) else (some false)) else (if bt698.1 = bt696.1 then (if bt698.1 ≤ bt694.1 then (some (decide (bt698.1 ≤ bt696.1))) else (some false)) else (some false))) else (some false)) else (some false)) else (some false))) else (some true)) else (some true)) else (some true)))) = some r := by rw [if_neg (show ¬ (false = true) by decide)] at H; exact H
        clear H
        have H := H1
        clear H1
        replace H := Option.bind_eq_some_iff.mp H
        obtain ⟨⟨t694, t695⟩, A270, H⟩ := H
        replace H : ((laws_exact.f t687).bind fun bt696 => (if t685 = 16 then (if t695 = true then (if bt696.2 = true then ((laws_exact.f t689).bind fun bt698 => (if bt698.2 = true then (if ((decide (t688 < 0)) == (decide (t694 < bt696.1))) = true then (if ((decide (t688 > 0)) == (decide (t694 > bt696.1))) = true then (if bt698.1 = t694 then (if bt698.1 ≤ t694 then (some (decide (bt698.1 ≤ bt696.1))) else (some false)) else (if bt698.1 = bt696.1 then (if bt698.1 ≤ t694 then (some (decide (bt698.1 ≤ bt696.1))) else (some false)) else (some false))) else (some false)) else (some false)) else (some false))) else (some true)) else (some true)) else (some true))) = some r := H
        have A27 := Aside0.mk A270
        clear A270
        replace H := Option.bind_eq_some_iff.mp H
        obtain ⟨⟨t696, t697⟩, A280, H⟩ := H
        replace H : (if t685 = 16 then (if t695 = true then (if t697 = true then ((laws_exact.f t689).bind fun bt698 => (if bt698.2 = true then (if ((decide (t688 < 0)) == (decide (t694 < t696))) = true then (if ((decide (t688 > 0)) == (decide (t694 > t696))) = true then (if bt698.1 = t694 then (if bt698.1 ≤ t694 then (some (decide (bt698.1 ≤ t696))) else (some false)) else (if bt698.1 = t696 then (if bt698.1 ≤ t694 then (some (decide (bt698.1 ≤ t696))) else (some false)) else (some false))) else (some false)) else (some false)) else (some false))) else (some true)) else (some true)) else (some true)) = some r := H
        have A28 := Aside0.mk A280
        clear A280
        by_cases c29 : t685 = 16
        ·
         rw [if_pos c29] at H
         have c29b0 : (t685 == 16) = true := beq_iff_eq.mpr c29
         have c29b1 : (t685 != 16) = false := bne_eq_false_iff_eq.mpr c29
         clear c29
         by_cases c30 : t695 = true
         ·
          subst c30
          have H1 : (if t697 = true then ((laws_exact.f t689).bind fun bt698 => (if bt698.2 = true then (if ((decide (t688 < 0)) == (decide (t694 < t696))) = true then (if ((decide (t688 > 0)) == (decide (t694 > t696))) = true then (if bt698.1 = t694 then (if bt698.1 ≤ t694 then (some (decide (bt698.1 ≤ t696))) else (some false)) else (if bt698.1 = t696 then (if bt698.1 ≤ t694 then (some (decide (bt698.1 ≤ t696))) else (some false)) else (some false))) else (some false)) else (some false)) else (some false))) else (some true)) = some r := by rw [if_pos rfl] at H; exact H
          clear H
          have H := H1
          clear H1
          by_cases c31 : t697 = true
          ·
           subst c31
           have H1 : ((laws_exact.f t689).bind fun bt698 => (if bt698.2 = true then (if ((decide (t688 < 0)) == (decide (t694 < t696))) = true then (if ((decide (t688 > 0)) == (decide (t694 > t696))) = true then (if bt698.1 = t694 then (if bt698.1 ≤ t694 then (some (decide (bt698.1 ≤ t696))) else (some false)) else (if bt698.1 = t696 then (if bt698.1 ≤ t694 then (some (decide (bt698.1 ≤ t696))) else (some false)) else (some false))) else (some false)) else (some false)) else (some false))) = some r := by rw [if_pos rfl] at H; exact H
           clear H
           have H := H1
           clear H1
           replace H := Option.bind_eq_some_iff.mp H
           obtain ⟨⟨t698, t699⟩, A320, H⟩ := H
           replace H : (if t699 = true then (if ((decide (t688 < 0)) == (decide (t694 < t696))) = true then (if ((decide (t688 > 0)) == (decide (t694 > t696))) = true then (if t698 = t694 then (if t698 ≤ t694 then (some (decide (t698 ≤ t696))) else (some false)) else (if t698 = t696 then (if t698 ≤ t694 then (some (decide (t698 ≤ t696))) else (some false)) else (some false))) else (some false)) else (some false)) else (some false)) = some r := H
           have A32 := Aside0.mk A320
           clear A320
           by_cases c33 : t699 = true
           ·
            subst c33
            have H1 : (if ((decide (t688 < 0)) == (decide (t694 < t696))) = true then (if ((decide (t688 > 0)) == (decide (t694 > t696))) = true then (if t698 = t694 then (if t698 ≤ t694 then (some (decide (t698 ≤ t696))) else (some false)) else (if t698 = t696 then (if t698 ≤ t694 then (some (decide (t698 ≤ t696))) else (some false)) else (some false))) else (some false)) else (some false)) = some r := by rw [if_pos rfl] at H; exact H
            clear H
            have H := H1
            clear H1
            by_cases c34 : ((decide (t688 < 0)) == (decide (t694 < t696))) = true
            ·
             rw [if_pos c34] at H
             have c34b0 : ((decide (t688 < 0)) == (decide (t694 < t696))) = true := c34
             (try (have c34b1 : decide ((decide (t688 < 0)) = (decide (t694 < t696))) = true := by simpa using c34))
             (try (have c34b2 : ((decide (t688 < 0)) == (decide (t694 < t696))) = true := by simpa using c34))
             clear c34
             by_cases c35 : ((decide (t688 > 0)) == (decide (t694 > t696))) = true
             ·
              rw [if_pos c35] at H
              have c35b0 : ((decide (t688 > 0)) == (decide (t694 > t696))) = true := c35
              (try (have c35b1 : decide ((decide (t688 > 0)) = (decide (t694 > t696))) = true := by simpa using c35))
              (try (have c35b2 : ((decide (t688 > 0)) == (decide (t694 > t696))) = true := by simpa using c35))
              clear c35
              by_cases c36 : t698 = t694
              ·
               rw [if_pos c36] at H
               have c36b0 : (t698 == t694) = true := beq_iff_eq.mpr c36
               have c36b1 : (t698 != t694) = false := bne_eq_false_iff_eq.mpr c36
               clear c36
               by_cases c37 : t698 ≤ t694
               ·
                rw [if_pos c37] at H
                have c37b0 : decide (t698 ≤ t694) = true := decide_eq_true c37
                clear c37
                obtain rfl := Option.some.inj H
                simp only [Option.some.injEq, Prod.mk.injEq] at H
                obtain ⟨rfl⟩ := H
                go_wp2_with (first | ((with_reducible refine gate_callee (f := 39) rfl ?_); refine goesL_ (some 66) rfl rfl Try.func39 (by kernel_rfl) rfl #[.int .u32 t686] rfl (by (try simp only [List.map_toArray, List.map_cons, List.map_nil]); first | done | rfl | (simp only [List.length_drop, List.length_take]; rfl)) ?_; (with_reducible refine (laws_exact.calls t686 t694 true _ A27.out).mono ?_); rintro e w38 ⟨rfl, hb⟩; refine ⟨_, rfl, ?_⟩; have n0_ := Aside0.mk (below_step (by repeat (first | (with_reducible first | exact HB.out | apply below_alloc | apply pw_below_drewN | apply below_drew1) | exact HB.out)) hb); clear HB; have HB := n0_; clear n0_; (try clear hb); (try clear hb2); (try clear hk); (try clear hi)) | ((with_reducible refine gate_callee (f := 39) rfl ?_); refine goesL_ (some 71) rfl rfl Try.func39 (by kernel_rfl) rfl #[.int .u32 t687] rfl (by (try simp only [List.map_toArray, List.map_cons, List.map_nil]); first | done | rfl | (simp only [List.length_drop, List.length_take]; rfl)) ?_; (with_reducible refine (laws_exact.calls t687 t696 true _ A28.out).mono ?_); rintro e w39 ⟨rfl, hb⟩; refine ⟨_, rfl, ?_⟩; have n0_ := Aside0.mk (below_step (by repeat (first | (with_reducible first | exact HB.out | apply below_alloc | apply pw_below_drewN | apply below_drew1) | exact HB.out)) hb); clear HB; have HB := n0_; clear n0_; (try clear hb); (try clear hb2); (try clear hk); (try clear hi)) | ((with_reducible refine gate_callee (f := 39) rfl ?_); refine goesL_ (some 86) rfl rfl Try.func39 (by kernel_rfl) rfl #[.int .u32 t689] rfl (by (try simp only [List.map_toArray, List.map_cons, List.map_nil]); first | done | rfl | (simp only [List.length_drop, List.length_take]; rfl)) ?_; (with_reducible refine (laws_exact.calls t689 t698 true _ A32.out).mono ?_); rintro e w40 ⟨rfl, hb⟩; refine ⟨_, rfl, ?_⟩; have n0_ := Aside0.mk (below_step (by repeat (first | (with_reducible first | exact HB.out | apply below_alloc | apply pw_below_drewN | apply below_drew1) | exact HB.out)) hb); clear HB; have HB := n0_; clear n0_; (try clear hb); (try clear hb2); (try clear hk); (try clear hi)))
                go_ret
                exact ⟨by first | rfl | (simp [errW_none, errW_some] <;> rfl) | (simp [*, errW_none, errW_some] <;> rfl), by repeat (first | (with_reducible first | exact HB.out | apply below_alloc | apply pw_below_drewN | apply below_drew1) | exact HB.out)⟩
               ·
                rw [if_neg c37] at H
                have c37b0 : decide (t698 ≤ t694) = false := decide_eq_false c37
                clear c37
                obtain rfl := Option.some.inj H
                exact absurd HT.out (by decide)
              ·
               rw [if_neg c36] at H
               have c36b0 : (t698 == t694) = false := beq_eq_false_iff_ne.mpr c36
               have c36b1 : (t698 != t694) = true := bne_iff_ne.mpr c36
               by_cases c41 : t698 = t696
               ·
                rw [if_pos c41] at H
                have c41b0 : (t698 == t696) = true := beq_iff_eq.mpr c41
                have c41b1 : (t698 != t696) = false := bne_eq_false_iff_eq.mpr c41
                clear c41
                by_cases c42 : t698 ≤ t694
                ·
                 rw [if_pos c42] at H
                 have c42b0 : decide (t698 ≤ t694) = true := decide_eq_true c42
                 clear c42
                 obtain rfl := Option.some.inj H
                 simp only [Option.some.injEq, Prod.mk.injEq] at H
                 obtain ⟨rfl⟩ := H
                 go_wp2_with (first | ((with_reducible refine gate_callee (f := 39) rfl ?_); refine goesL_ (some 66) rfl rfl Try.func39 (by kernel_rfl) rfl #[.int .u32 t686] rfl (by (try simp only [List.map_toArray, List.map_cons, List.map_nil]); first | done | rfl | (simp only [List.length_drop, List.length_take]; rfl)) ?_; (with_reducible refine (laws_exact.calls t686 t694 true _ A27.out).mono ?_); rintro e w43 ⟨rfl, hb⟩; refine ⟨_, rfl, ?_⟩; have n0_ := Aside0.mk (below_step (by repeat (first | (with_reducible first | exact HB.out | apply below_alloc | apply pw_below_drewN | apply below_drew1) | exact HB.out)) hb); clear HB; have HB := n0_; clear n0_; (try clear hb); (try clear hb2); (try clear hk); (try clear hi)) | ((with_reducible refine gate_callee (f := 39) rfl ?_); refine goesL_ (some 71) rfl rfl Try.func39 (by kernel_rfl) rfl #[.int .u32 t687] rfl (by (try simp only [List.map_toArray, List.map_cons, List.map_nil]); first | done | rfl | (simp only [List.length_drop, List.length_take]; rfl)) ?_; (with_reducible refine (laws_exact.calls t687 t696 true _ A28.out).mono ?_); rintro e w44 ⟨rfl, hb⟩; refine ⟨_, rfl, ?_⟩; have n0_ := Aside0.mk (below_step (by repeat (first | (with_reducible first | exact HB.out | apply below_alloc | apply pw_below_drewN | apply below_drew1) | exact HB.out)) hb); clear HB; have HB := n0_; clear n0_; (try clear hb); (try clear hb2); (try clear hk); (try clear hi)) | ((with_reducible refine gate_callee (f := 39) rfl ?_); refine goesL_ (some 86) rfl rfl Try.func39 (by kernel_rfl) rfl #[.int .u32 t689] rfl (by (try simp only [List.map_toArray, List.map_cons, List.map_nil]); first | done | rfl | (simp only [List.length_drop, List.length_take]; rfl)) ?_; (with_reducible refine (laws_exact.calls t689 t698 true _ A32.out).mono ?_); rintro e w45 ⟨rfl, hb⟩; refine ⟨_, rfl, ?_⟩; have n0_ := Aside0.mk (below_step (by repeat (first | (with_reducible first | exact HB.out | apply below_alloc | apply pw_below_drewN | apply below_drew1) | exact HB.out)) hb); clear HB; have HB := n0_; clear n0_; (try clear hb); (try clear hb2); (try clear hk); (try clear hi)))
                 go_ret
                 exact ⟨by first | rfl | (simp [errW_none, errW_some] <;> rfl) | (simp [*, errW_none, errW_some] <;> rfl), by repeat (first | (with_reducible first | exact HB.out | apply below_alloc | apply pw_below_drewN | apply below_drew1) | exact HB.out)⟩
                ·
                 rw [if_neg c42] at H
                 have c42b0 : decide (t698 ≤ t694) = false := decide_eq_false c42
                 clear c42
                 obtain rfl := Option.some.inj H
                 exact absurd HT.out (by decide)
               ·
                rw [if_neg c41] at H
                have c41b0 : (t698 == t696) = false := beq_eq_false_iff_ne.mpr c41
                have c41b1 : (t698 != t696) = true := bne_iff_ne.mpr c41
                obtain rfl := Option.some.inj H
                exact absurd HT.out (by decide)
             ·
              rw [if_neg c35] at H
              have c35b0 : ((decide (t688 > 0)) == (decide (t694 > t696))) = false := by simpa using c35
              (try (have c35b1 : decide ((decide (t688 > 0)) = (decide (t694 > t696))) = false := by simpa using c35))
              (try (have c35b2 : ((decide (t688 > 0)) == (decide (t694 > t696))) = false := by simpa using c35))
              (try (have c35b3 : ¬ ((decide (t688 > 0)) = (decide (t694 > t696))) := by simpa using c35))
              clear c35
              obtain rfl := Option.some.inj H
              exact absurd HT.out (by decide)
            ·
             rw [if_neg c34] at H
             have c34b0 : ((decide (t688 < 0)) == (decide (t694 < t696))) = false := by simpa using c34
             (try (have c34b1 : decide ((decide (t688 < 0)) = (decide (t694 < t696))) = false := by simpa using c34))
             (try (have c34b2 : ((decide (t688 < 0)) == (decide (t694 < t696))) = false := by simpa using c34))
             (try (have c34b3 : ¬ ((decide (t688 < 0)) = (decide (t694 < t696))) := by simpa using c34))
             clear c34
             obtain rfl := Option.some.inj H
             exact absurd HT.out (by decide)
           ·
            replace c33 := Bool.eq_false_iff.mpr c33
            subst c33
            have H1 : (some false) = some r := by rw [if_neg (show ¬ (false = true) by decide)] at H; exact H
            clear H
            have H := H1
            clear H1
            obtain rfl := Option.some.inj H
            exact absurd HT.out (by decide)
          ·
           replace c31 := Bool.eq_false_iff.mpr c31
           subst c31
           have H1 : (some true) = some r := by rw [if_neg (show ¬ (false = true) by decide)] at H; exact H
           clear H
           have H := H1
           clear H1
           obtain rfl := Option.some.inj H
           simp only [Option.some.injEq, Prod.mk.injEq] at H
           obtain ⟨rfl⟩ := H
           go_wp2_with (first | ((with_reducible refine gate_callee (f := 39) rfl ?_); refine goesL_ (some 66) rfl rfl Try.func39 (by kernel_rfl) rfl #[.int .u32 t686] rfl (by (try simp only [List.map_toArray, List.map_cons, List.map_nil]); first | done | rfl | (simp only [List.length_drop, List.length_take]; rfl)) ?_; (with_reducible refine (laws_exact.calls t686 t694 true _ A27.out).mono ?_); rintro e w46 ⟨rfl, hb⟩; refine ⟨_, rfl, ?_⟩; have n0_ := Aside0.mk (below_step (by repeat (first | (with_reducible first | exact HB.out | apply below_alloc | apply pw_below_drewN | apply below_drew1) | exact HB.out)) hb); clear HB; have HB := n0_; clear n0_; (try clear hb); (try clear hb2); (try clear hk); (try clear hi)) | ((with_reducible refine gate_callee (f := 39) rfl ?_); refine goesL_ (some 71) rfl rfl Try.func39 (by kernel_rfl) rfl #[.int .u32 t687] rfl (by (try simp only [List.map_toArray, List.map_cons, List.map_nil]); first | done | rfl | (simp only [List.length_drop, List.length_take]; rfl)) ?_; (with_reducible refine (laws_exact.calls t687 t696 false _ A28.out).mono ?_); rintro e w47 ⟨rfl, hb⟩; refine ⟨_, rfl, ?_⟩; have n0_ := Aside0.mk (below_step (by repeat (first | (with_reducible first | exact HB.out | apply below_alloc | apply pw_below_drewN | apply below_drew1) | exact HB.out)) hb); clear HB; have HB := n0_; clear n0_; (try clear hb); (try clear hb2); (try clear hk); (try clear hi)))
           go_ret
           exact ⟨by first | rfl | (simp [errW_none, errW_some] <;> rfl) | (simp [*, errW_none, errW_some] <;> rfl), by repeat (first | (with_reducible first | exact HB.out | apply below_alloc | apply pw_below_drewN | apply below_drew1) | exact HB.out)⟩
         ·
          replace c30 := Bool.eq_false_iff.mpr c30
          subst c30
          have H1 : (some true) = some r := by rw [if_neg (show ¬ (false = true) by decide)] at H; exact H
          clear H
          have H := H1
          clear H1
          obtain rfl := Option.some.inj H
          simp only [Option.some.injEq, Prod.mk.injEq] at H
          obtain ⟨rfl⟩ := H
          go_wp2_with (first | ((with_reducible refine gate_callee (f := 39) rfl ?_); refine goesL_ (some 66) rfl rfl Try.func39 (by kernel_rfl) rfl #[.int .u32 t686] rfl (by (try simp only [List.map_toArray, List.map_cons, List.map_nil]); first | done | rfl | (simp only [List.length_drop, List.length_take]; rfl)) ?_; (with_reducible refine (laws_exact.calls t686 t694 false _ A27.out).mono ?_); rintro e w48 ⟨rfl, hb⟩; refine ⟨_, rfl, ?_⟩; have n0_ := Aside0.mk (below_step (by repeat (first | (with_reducible first | exact HB.out | apply below_alloc | apply pw_below_drewN | apply below_drew1) | exact HB.out)) hb); clear HB; have HB := n0_; clear n0_; (try clear hb); (try clear hb2); (try clear hk); (try clear hi)) | ((with_reducible refine gate_callee (f := 39) rfl ?_); refine goesL_ (some 71) rfl rfl Try.func39 (by kernel_rfl) rfl #[.int .u32 t687] rfl (by (try simp only [List.map_toArray, List.map_cons, List.map_nil]); first | done | rfl | (simp only [List.length_drop, List.length_take]; rfl)) ?_; (with_reducible refine (laws_exact.calls t687 t696 t697 _ A28.out).mono ?_); rintro e w49 ⟨rfl, hb⟩; refine ⟨_, rfl, ?_⟩; have n0_ := Aside0.mk (below_step (by repeat (first | (with_reducible first | exact HB.out | apply below_alloc | apply pw_below_drewN | apply below_drew1) | exact HB.out)) hb); clear HB; have HB := n0_; clear n0_; (try clear hb); (try clear hb2); (try clear hk); (try clear hi)))
          go_ret
          exact ⟨by first | rfl | (simp [errW_none, errW_some] <;> rfl) | (simp [*, errW_none, errW_some] <;> rfl), by repeat (first | (with_reducible first | exact HB.out | apply below_alloc | apply pw_below_drewN | apply below_drew1) | exact HB.out)⟩
        ·
         rw [if_neg c29] at H
         have c29b0 : (t685 == 16) = false := beq_eq_false_iff_ne.mpr c29
         have c29b1 : (t685 != 16) = true := bne_iff_ne.mpr c29
         obtain rfl := Option.some.inj H
         simp only [Option.some.injEq, Prod.mk.injEq] at H
         obtain ⟨rfl⟩ := H
         go_wp2_with (first | ((with_reducible refine gate_callee (f := 39) rfl ?_); refine goesL_ (some 66) rfl rfl Try.func39 (by kernel_rfl) rfl #[.int .u32 t686] rfl (by (try simp only [List.map_toArray, List.map_cons, List.map_nil]); first | done | rfl | (simp only [List.length_drop, List.length_take]; rfl)) ?_; (with_reducible refine (laws_exact.calls t686 t694 t695 _ A27.out).mono ?_); rintro e w50 ⟨rfl, hb⟩; refine ⟨_, rfl, ?_⟩; have n0_ := Aside0.mk (below_step (by repeat (first | (with_reducible first | exact HB.out | apply below_alloc | apply pw_below_drewN | apply below_drew1) | exact HB.out)) hb); clear HB; have HB := n0_; clear n0_; (try clear hb); (try clear hb2); (try clear hk); (try clear hi)) | ((with_reducible refine gate_callee (f := 39) rfl ?_); refine goesL_ (some 71) rfl rfl Try.func39 (by kernel_rfl) rfl #[.int .u32 t687] rfl (by (try simp only [List.map_toArray, List.map_cons, List.map_nil]); first | done | rfl | (simp only [List.length_drop, List.length_take]; rfl)) ?_; (with_reducible refine (laws_exact.calls t687 t696 t697 _ A28.out).mono ?_); rintro e w51 ⟨rfl, hb⟩; refine ⟨_, rfl, ?_⟩; have n0_ := Aside0.mk (below_step (by repeat (first | (with_reducible first | exact HB.out | apply below_alloc | apply pw_below_drewN | apply below_drew1) | exact HB.out)) hb); clear HB; have HB := n0_; clear n0_; (try clear hb); (try clear hb2); (try clear hk); (try clear hi)))
         go_ret
         exact ⟨by first | rfl | (simp [errW_none, errW_some] <;> rfl) | (simp [*, errW_none, errW_some] <;> rfl), by repeat (first | (with_reducible first | exact HB.out | apply below_alloc | apply pw_below_drewN | apply below_drew1) | exact HB.out)⟩

/-- THE ONE PURE STATEMENT of laws_FnCompared: yours. -/
def laws_FnCompared.Pure : Prop := ∀ (l0 : List Int), l0.length ≤ maxLen → l0.length * 1 ≤ 140737488351232 → (∀ x ∈ l0, (Lit.int .u8 x).wf = true) → ∃ k, laws_FnCompared.f k l0 = some true
theorem laws_FnCompared.walk (P : laws_FnCompared.Pure) (a0 : Option Addr) (len0 cap0 : Nat) (z0 : List Int) (w : World) (w0 : (a0 = none ∧ len0 = 0 ∧ cap0 = 0 ∧ z0 = []) ∨ ∃ x, a0 = some x ∧ len0 ≤ cap0 ∧ cap0 ≤ maxLen ∧ z0.length = cap0 ∧ (∀ i, i < z0.length → w.cell? (x.add i) = some (.int .u8 (z0.getD i 0))) ∧ ∀ n ∈ z0, (Lit.int .u8 n).wf = true) (y0 : len0 * 1 ≤ 140737488351232) :
  Calls Try.prog 12 #[.slice a0 len0 cap0] w fun e w' => e = .returned (.bool true) ∧ Below w.heap.size w w' := by
 obtain ⟨l0, rfl, hr0, hm0, hw0, hc0⟩ := ReadsInt.ofRowC w0
 obtain ⟨k, h⟩ := P l0 hm0 y0 hw0
 refine (laws_FnCompared.calls k _ _ l0 true w (Kd.C_of_reads (d := (0 : Int)) (h1 := fun _ => rfl) hr0) hc0 rfl h).mono ?_
 rintro e w' ⟨rfl, hd⟩
 exact ⟨rfl, hd⟩

end Go.Proofs.Ytdeogandkgiggaa.Q
