-- Written by a program of this session; it walks the functions that the law reaches.
import Derived.Test.YtilokpipciilcaaDoorQx0
import Derived.Test.YtilokpipciilcaaDoorQx1
namespace Go.Proofs.YtilokpipciilcaaDoor.Q
open Go.RowKit Go.Proofs.YtilokpipciilcaaDoorW.PrintWords Go.Proofs.YtilokpipciilcaaDoorW.PrintLast Go.Proofs.YtilokpipciilcaaDoorW.PrintMore
attribute [local go_sem] max2_int min2_int max_two min_two max_three min_three max_four min_four   -- for this text's walks alone
set_option linter.unusedVariables false
set_option linter.unusedSimpArgs false

/-! ### laws_FnCounts: function 3 -/
mutual
def laws_FnCounts.j0 : Nat → List Int → Int → Int → Bool → Option (Bool)
 | 0, _, _, _, _ => none
 | k + 1, x1, x5, x7, x65 => if x65 = true then (some false) else (if x5 = 32 then (laws_FnCounts.j1 k x1 x5 x7 true) else (laws_FnCounts.j1 k x1 x5 x7 (x5 == 64)))
def laws_FnCounts.j1 : Nat → List Int → Int → Int → Bool → Option (Bool)
 | 0, _, _, _, _ => none
 | k + 1, x1, x5, x7, x71 => if x71 = true then (if x5 = 32 then ((impl_WrapTo32.f x7).bind fun t210 => (laws_FnCounts.j2 k x1 x5 x7 t210)) else (laws_FnCounts.j2 k x1 x5 x7 x7)) else (laws_FnCounts.j5 k x1)
def laws_FnCounts.j5 : Nat → List Int → Option (Bool)
 | 0, _ => none
 | k + 1, x1 => (spec_DrawSignedOf.f k x1).bind fun bt219 => ((impl_SignedOf.f bt219.1 bt219.2).bind fun bt221 => ((spec_SignedOf.f bt219.1 bt219.2).bind fun bt223 => (if (bt221.2 != bt223.2) = true then (some false) else (if bt221.2 = true then ((impl_BitsOf.f bt219.1 bt221.1).bind fun bt225 => ((spec_BitsOf.f bt219.1 (wrap64 (bt219.2))).bind fun bt227 => ((impl_Extend32.f bt219.2 true).bind fun t229 => (if bt225.2 = true then (if bt227.2 = true then (if bt225.1 = bt227.1 then (if bt219.1 = 64 then (some true) else (some (t229 == (IntKind.u64.wrap (bt221.1))))) else (some false)) else (some false)) else (some false))))) else (some (bt221.1 == 0))))))
def laws_FnCounts.j2 : Nat → List Int → Int → Int → Int → Option (Bool)
 | 0, _, _, _, _ => none
 | k + 1, x1, x5, x7, x12 => (impl_Unary.f k x5 22 x7).bind fun bt211 => ((impl_Unary.f k x5 23 x7).bind fun bt213 => ((impl_Unary.f k x5 24 x7).bind fun bt215 => (if x12 = 0 then (if bt211.1 = (IntKind.u64.wrap (x5)) then (if bt213.1 = (IntKind.u64.wrap (x5)) then (laws_FnCounts.j3 k x1 x5 x12 bt211.1 bt213.1 bt215.1 (bt215.1 != 0)) else (laws_FnCounts.j3 k x1 x5 x12 bt211.1 bt213.1 bt215.1 true)) else (laws_FnCounts.j3 k x1 x5 x12 bt211.1 bt213.1 bt215.1 true)) else (laws_FnCounts.j3 k x1 x5 x12 bt211.1 bt213.1 bt215.1 false))))
def laws_FnCounts.j3 : Nat → List Int → Int → Int → Int → Int → Int → Bool → Option (Bool)
 | 0, _, _, _, _, _, _, _ => none
 | k + 1, x1, x5, x12, x13, x15, x17, x112 => if x112 = true then (some false) else (if x12 = 0 then (laws_FnCounts.j4 k x1 x5 x12 x17 false) else (if 0 ≤ (IntKind.u64.wrap ((IntKind.u64.wrap ((IntKind.u64.wrap (x5)) - x13)) - 1)) then (if (shr .u64 x12 (IntKind.u64.wrap ((IntKind.u64.wrap ((IntKind.u64.wrap (x5)) - x13)) - 1))) = 1 then (if 0 ≤ x15 then (if (Go.bits .and .u64 (shr .u64 x12 x15) 1) = 1 then (if (Go.bits .and .u64 x12 (IntKind.u64.wrap ((shl .u64 1 x15) - 1))) = 0 then (laws_FnCounts.j4 k x1 x5 x12 x17 (decide ((IntKind.u64.wrap ((IntKind.u64.wrap (x17 + x13)) + x15)) > (IntKind.u64.wrap (x5))))) else (laws_FnCounts.j4 k x1 x5 x12 x17 true)) else (laws_FnCounts.j4 k x1 x5 x12 x17 true)) else (none)) else (laws_FnCounts.j4 k x1 x5 x12 x17 true)) else (none)))
def laws_FnCounts.j4 : Nat → List Int → Int → Int → Int → Bool → Option (Bool)
 | 0, _, _, _, _, _ => none
 | k + 1, x1, x5, x12, x17, x149 => if x149 = true then (some false) else ((impl_Unary.f k x5 24 (Go.bits .and .u64 x12 (IntKind.u64.wrap (x12 - 1)))).bind fun bt217 => (if x12 = 0 then (laws_FnCounts.j5 k x1) else (if bt217.1 = (IntKind.u64.wrap (x17 - 1)) then (laws_FnCounts.j5 k x1) else (some false))))
end
def laws_FnCounts.f (k : Nat) (l0 : List Int) (l1 : List Int) : Option (Bool) := if (wrap64 ((l0.length : Int) + (l1.length : Int))) > 1048576 then (some true) else ((spec_DrawUnary.f k l0).bind fun bt203 => ((impl_Unary.f k bt203.1 bt203.2.1 bt203.2.2).bind fun bt206 => ((spec_Unary.f k bt203.1 bt203.2.1 bt203.2.2).bind fun bt208 => (if bt206.1 = bt208.1 then (laws_FnCounts.j0 k l1 bt203.1 bt203.2.2 (bt206.2 != bt208.2)) else (laws_FnCounts.j0 k l1 bt203.1 bt203.2.2 true)))))
theorem laws_FnCounts.mono_l : ∀ k, (∀ y0 y1 y2 y3, LeO (laws_FnCounts.j0 k y0 y1 y2 y3) (laws_FnCounts.j0 (k + 1) y0 y1 y2 y3)) ∧ (∀ y0 y1 y2 y3, LeO (laws_FnCounts.j1 k y0 y1 y2 y3) (laws_FnCounts.j1 (k + 1) y0 y1 y2 y3)) ∧ (∀ y0, LeO (laws_FnCounts.j5 k y0) (laws_FnCounts.j5 (k + 1) y0)) ∧ (∀ y0 y1 y2 y3, LeO (laws_FnCounts.j2 k y0 y1 y2 y3) (laws_FnCounts.j2 (k + 1) y0 y1 y2 y3)) ∧ (∀ y0 y1 y2 y3 y4 y5 y6, LeO (laws_FnCounts.j3 k y0 y1 y2 y3 y4 y5 y6) (laws_FnCounts.j3 (k + 1) y0 y1 y2 y3 y4 y5 y6)) ∧ (∀ y0 y1 y2 y3 y4, LeO (laws_FnCounts.j4 k y0 y1 y2 y3 y4) (laws_FnCounts.j4 (k + 1) y0 y1 y2 y3 y4))
 | 0 => ⟨fun _ _ _ _ r h => by simp [laws_FnCounts.j0] at h, fun _ _ _ _ r h => by simp [laws_FnCounts.j1] at h, fun _ r h => by simp [laws_FnCounts.j5] at h, fun _ _ _ _ r h => by simp [laws_FnCounts.j2] at h, fun _ _ _ _ _ _ _ r h => by simp [laws_FnCounts.j3] at h, fun _ _ _ _ _ r h => by simp [laws_FnCounts.j4] at h⟩
 | k + 1 => by
  obtain ⟨ih0, ih1, ih2, ih3, ih4, ih5⟩ := laws_FnCounts.mono_l k
  refine ⟨?_, ?_, ?_, ?_, ?_, ?_⟩
  ·
   intro y0 y1 y2 y3
   unfold laws_FnCounts.j0
   repeat' first
   | (with_reducible exact ih0 _ _ _ _)
   | (with_reducible exact ih1 _ _ _ _)
   | (with_reducible exact ih2 _)
   | (with_reducible exact ih3 _ _ _ _)
   | (with_reducible exact ih4 _ _ _ _ _ _ _)
   | (with_reducible exact ih5 _ _ _ _ _)
   | (with_reducible exact impl_Unary.mono _ _ _ _)
   | (with_reducible exact spec_DrawSignedOf.mono _ _)
   | (with_reducible exact spec_DrawUnary.mono _ _)
   | (with_reducible exact spec_Unary.mono _ _ _ _)
   | (with_reducible exact LeO.refl _)
   | (with_reducible exact LeO.none _)
   | (with_reducible refine LeO.ite ?_ ?_)
   | (with_reducible refine LeO.bind ?_ (fun _ => ?_))
   | exact ih0 _ _ _ _
   | exact ih1 _ _ _ _
   | exact ih2 _
   | exact ih3 _ _ _ _
   | exact ih4 _ _ _ _ _ _ _
   | exact ih5 _ _ _ _ _
   | exact impl_Unary.mono _ _ _ _
   | exact spec_DrawSignedOf.mono _ _
   | exact spec_DrawUnary.mono _ _
   | exact spec_Unary.mono _ _ _ _
   | exact LeO.none _
   | refine LeO.ite ?_ ?_
   | refine LeO.bind ?_ (fun _ => ?_)
  ·
   intro y0 y1 y2 y3
   unfold laws_FnCounts.j1
   repeat' first
   | (with_reducible exact ih0 _ _ _ _)
   | (with_reducible exact ih1 _ _ _ _)
   | (with_reducible exact ih2 _)
   | (with_reducible exact ih3 _ _ _ _)
   | (with_reducible exact ih4 _ _ _ _ _ _ _)
   | (with_reducible exact ih5 _ _ _ _ _)
   | (with_reducible exact impl_Unary.mono _ _ _ _)
   | (with_reducible exact spec_DrawSignedOf.mono _ _)
   | (with_reducible exact spec_DrawUnary.mono _ _)
   | (with_reducible exact spec_Unary.mono _ _ _ _)
   | (with_reducible exact LeO.refl _)
   | (with_reducible exact LeO.none _)
   | (with_reducible refine LeO.ite ?_ ?_)
   | (with_reducible refine LeO.bind ?_ (fun _ => ?_))
   | exact ih0 _ _ _ _
   | exact ih1 _ _ _ _
   | exact ih2 _
   | exact ih3 _ _ _ _
   | exact ih4 _ _ _ _ _ _ _
   | exact ih5 _ _ _ _ _
   | exact impl_Unary.mono _ _ _ _
   | exact spec_DrawSignedOf.mono _ _
   | exact spec_DrawUnary.mono _ _
   | exact spec_Unary.mono _ _ _ _
   | exact LeO.none _
   | refine LeO.ite ?_ ?_
   | refine LeO.bind ?_ (fun _ => ?_)
  ·
   intro y0
   unfold laws_FnCounts.j5
   repeat' first
   | (with_reducible exact ih0 _ _ _ _)
   | (with_reducible exact ih1 _ _ _ _)
   | (with_reducible exact ih2 _)
   | (with_reducible exact ih3 _ _ _ _)
   | (with_reducible exact ih4 _ _ _ _ _ _ _)
   | (with_reducible exact ih5 _ _ _ _ _)
   | (with_reducible exact impl_Unary.mono _ _ _ _)
   | (with_reducible exact spec_DrawSignedOf.mono _ _)
   | (with_reducible exact spec_DrawUnary.mono _ _)
   | (with_reducible exact spec_Unary.mono _ _ _ _)
   | (with_reducible exact LeO.refl _)
   | (with_reducible exact LeO.none _)
   | (with_reducible refine LeO.ite ?_ ?_)
   | (with_reducible refine LeO.bind ?_ (fun _ => ?_))
   | exact ih0 _ _ _ _
   | exact ih1 _ _ _ _
   | exact ih2 _
   | exact ih3 _ _ _ _
   | exact ih4 _ _ _ _ _ _ _
   | exact ih5 _ _ _ _ _
   | exact impl_Unary.mono _ _ _ _
   | exact spec_DrawSignedOf.mono _ _
   | exact spec_DrawUnary.mono _ _
   | exact spec_Unary.mono _ _ _ _
   | exact LeO.none _
   | refine LeO.ite ?_ ?_
   | refine LeO.bind ?_ (fun _ => ?_)
  ·
   intro y0 y1 y2 y3
   unfold laws_FnCounts.j2
   repeat' first
   | (with_reducible exact ih0 _ _ _ _)
   | (with_reducible exact ih1 _ _ _ _)
   | (with_reducible exact ih2 _)
   | (with_reducible exact ih3 _ _ _ _)
   | (with_reducible exact ih4 _ _ _ _ _ _ _)
   | (with_reducible exact ih5 _ _ _ _ _)
   | (with_reducible exact impl_Unary.mono _ _ _ _)
   | (with_reducible exact spec_DrawSignedOf.mono _ _)
   | (with_reducible exact spec_DrawUnary.mono _ _)
   | (with_reducible exact spec_Unary.mono _ _ _ _)
   | (with_reducible exact LeO.refl _)
   | (with_reducible exact LeO.none _)
   | (with_reducible refine LeO.ite ?_ ?_)
   | (with_reducible refine LeO.bind ?_ (fun _ => ?_))
   | exact ih0 _ _ _ _
   | exact ih1 _ _ _ _
   | exact ih2 _
   | exact ih3 _ _ _ _
   | exact ih4 _ _ _ _ _ _ _
   | exact ih5 _ _ _ _ _
   | exact impl_Unary.mono _ _ _ _
   | exact spec_DrawSignedOf.mono _ _
   | exact spec_DrawUnary.mono _ _
   | exact spec_Unary.mono _ _ _ _
   | exact LeO.none _
   | refine LeO.ite ?_ ?_
   | refine LeO.bind ?_ (fun _ => ?_)
  ·
   intro y0 y1 y2 y3 y4 y5 y6
   unfold laws_FnCounts.j3
   repeat' first
   | (with_reducible exact ih0 _ _ _ _)
   | (with_reducible exact ih1 _ _ _ _)
   | (with_reducible exact ih2 _)
   | (with_reducible exact ih3 _ _ _ _)
   | (with_reducible exact ih4 _ _ _ _ _ _ _)
   | (with_reducible exact ih5 _ _ _ _ _)
   | (with_reducible exact impl_Unary.mono _ _ _ _)
   | (with_reducible exact spec_DrawSignedOf.mono _ _)
   | (with_reducible exact spec_DrawUnary.mono _ _)
   | (with_reducible exact spec_Unary.mono _ _ _ _)
   | (with_reducible exact LeO.refl _)
   | (with_reducible exact LeO.none _)
   | (with_reducible refine LeO.ite ?_ ?_)
   | (with_reducible refine LeO.bind ?_ (fun _ => ?_))
   | exact ih0 _ _ _ _
   | exact ih1 _ _ _ _
   | exact ih2 _
   | exact ih3 _ _ _ _
   | exact ih4 _ _ _ _ _ _ _
   | exact ih5 _ _ _ _ _
   | exact impl_Unary.mono _ _ _ _
   | exact spec_DrawSignedOf.mono _ _
   | exact spec_DrawUnary.mono _ _
   | exact spec_Unary.mono _ _ _ _
   | exact LeO.none _
   | refine LeO.ite ?_ ?_
   | refine LeO.bind ?_ (fun _ => ?_)
  ·
   intro y0 y1 y2 y3 y4
   unfold laws_FnCounts.j4
   repeat' first
   | (with_reducible exact ih0 _ _ _ _)
   | (with_reducible exact ih1 _ _ _ _)
   | (with_reducible exact ih2 _)
   | (with_reducible exact ih3 _ _ _ _)
   | (with_reducible exact ih4 _ _ _ _ _ _ _)
   | (with_reducible exact ih5 _ _ _ _ _)
   | (with_reducible exact impl_Unary.mono _ _ _ _)
   | (with_reducible exact spec_DrawSignedOf.mono _ _)
   | (with_reducible exact spec_DrawUnary.mono _ _)
   | (with_reducible exact spec_Unary.mono _ _ _ _)
   | (with_reducible exact LeO.refl _)
   | (with_reducible exact LeO.none _)
   | (with_reducible refine LeO.ite ?_ ?_)
   | (with_reducible refine LeO.bind ?_ (fun _ => ?_))
   | exact ih0 _ _ _ _
   | exact ih1 _ _ _ _
   | exact ih2 _
   | exact ih3 _ _ _ _
   | exact ih4 _ _ _ _ _ _ _
   | exact ih5 _ _ _ _ _
   | exact impl_Unary.mono _ _ _ _
   | exact spec_DrawSignedOf.mono _ _
   | exact spec_DrawUnary.mono _ _
   | exact spec_Unary.mono _ _ _ _
   | exact LeO.none _
   | refine LeO.ite ?_ ?_
   | refine LeO.bind ?_ (fun _ => ?_)
theorem laws_FnCounts.mono : ∀ a0 a1 k, LeO (laws_FnCounts.f k a0 a1) (laws_FnCounts.f (k + 1) a0 a1) := by
 intro a0 a1 k
 obtain ⟨ih0, ih1, ih2, ih3, ih4, ih5⟩ := laws_FnCounts.mono_l k
 unfold laws_FnCounts.f
 repeat' first
   | (with_reducible exact ih0 _ _ _ _)
   | (with_reducible exact ih1 _ _ _ _)
   | (with_reducible exact ih2 _)
   | (with_reducible exact ih3 _ _ _ _)
   | (with_reducible exact ih4 _ _ _ _ _ _ _)
   | (with_reducible exact ih5 _ _ _ _ _)
   | (with_reducible exact impl_Unary.mono _ _ _ _)
   | (with_reducible exact spec_DrawSignedOf.mono _ _)
   | (with_reducible exact spec_DrawUnary.mono _ _)
   | (with_reducible exact spec_Unary.mono _ _ _ _)
   | (with_reducible exact LeO.refl _)
   | (with_reducible exact LeO.none _)
   | (with_reducible refine LeO.ite ?_ ?_)
   | (with_reducible refine LeO.bind ?_ (fun _ => ?_))
   | exact ih0 _ _ _ _
   | exact ih1 _ _ _ _
   | exact ih2 _
   | exact ih3 _ _ _ _
   | exact ih4 _ _ _ _ _ _ _
   | exact ih5 _ _ _ _ _
   | exact impl_Unary.mono _ _ _ _
   | exact spec_DrawSignedOf.mono _ _
   | exact spec_DrawUnary.mono _ _
   | exact spec_Unary.mono _ _ _ _
   | exact LeO.none _
   | refine LeO.ite ?_ ?_
   | refine LeO.bind ?_ (fun _ => ?_)
set_option maxHeartbeats 8000000 in
set_option maxRecDepth 100000 in
theorem laws_FnCounts.calls (k : Nat) (A0 : Option Addr) (c0 : Nat) (l0 : List Int) (A1 : Option Addr) (c1 : Nat) (l1 : List Int) (r : Bool) (w : World) (hr0 : Kd.C (Kd.int .u8) w A0 l0.length l0) (hc0 : l0.length ≤ c0) (hr1 : Kd.C (Kd.int .u8) w A1 l1.length l1) (hc1 : l1.length ≤ c1) (hTrue : r = true) (h : laws_FnCounts.f k l0 l1 = some r) (HTab : Aside0 (TabAt w)) :
  Calls Tryd.prog 3 #[.slice A0 l0.length c0, .slice A1 l1.length c1] w fun e w' => e = .returned (.bool r) ∧ Below w.heap.size w w' := by
 have HR0 := Aside0.mk hr0
 have HC0 := Aside0.mk hc0
 clear hr0 hc0
 have HR1 := Aside0.mk hr1
 have HC1 := Aside0.mk hc1
 clear hr1 hc1
 have HB := Aside0.mk (Below.refl w.heap.size w)
 have H : (if (wrap64 ((l0.length : Int) + (l1.length : Int))) > 1048576 then (some true) else ((spec_DrawUnary.f k l0).bind fun bt203 => ((impl_Unary.f k bt203.1 bt203.2.1 bt203.2.2).bind fun bt206 => ((spec_Unary.f k bt203.1 bt203.2.1 bt203.2.2).bind fun bt208 => (if bt206.1 = bt208.1 then (laws_FnCounts.j0 k l1 bt203.1 bt203.2.2 (bt206.2 != bt208.2)) else (laws_FnCounts.j0 k l1 bt203.1 bt203.2.2 true)))))) = some r := h
 clear h
 have HT := Aside0.mk hTrue
 clear hTrue
 by_cases c3 : (wrap64 ((l0.length : Int) + (l1.length : Int))) > 1048576
 ·
  rw [if_pos c3] at H
  have c3b0 : decide (1048576 < (wrap64 ((l0.length : Int) + (l1.length : Int)))) = true := decide_eq_true c3
  clear c3
  obtain rfl := Option.some.inj H
  simp only [Option.some.injEq, Prod.mk.injEq] at H
  obtain ⟨rfl⟩ := H
  go_enter Tryd.func3, Tryd.ntmps3
  go_wp2
  go_ret
  exact ⟨by first | rfl | (simp [errW_none, errW_some] <;> rfl) | (simp [*, errW_none, errW_some] <;> rfl), by repeat (first | (with_reducible first | exact HB.out | apply below_alloc | apply pw_below_drewN | apply below_drew1) | exact HB.out)⟩
 ·
  rw [if_neg c3] at H
  have c3b0 : decide (1048576 < (wrap64 ((l0.length : Int) + (l1.length : Int)))) = false := decide_eq_false c3
  clear c3
  replace H := Option.bind_eq_some_iff.mp H
  obtain ⟨⟨t203, t204, t205⟩, A40, H⟩ := H
  replace H : ((impl_Unary.f k t203 t204 t205).bind fun bt206 => ((spec_Unary.f k t203 t204 t205).bind fun bt208 => (if bt206.1 = bt208.1 then (laws_FnCounts.j0 k l1 t203 t205 (bt206.2 != bt208.2)) else (laws_FnCounts.j0 k l1 t203 t205 true)))) = some r := H
  have A4 := Aside0.mk A40
  clear A40
  replace H := Option.bind_eq_some_iff.mp H
  obtain ⟨⟨t206, t207⟩, A50, H⟩ := H
  replace H : ((spec_Unary.f k t203 t204 t205).bind fun bt208 => (if t206 = bt208.1 then (laws_FnCounts.j0 k l1 t203 t205 (t207 != bt208.2)) else (laws_FnCounts.j0 k l1 t203 t205 true))) = some r := H
  have A5 := Aside0.mk A50
  clear A50
  replace H := Option.bind_eq_some_iff.mp H
  obtain ⟨⟨t208, t209⟩, A60, H⟩ := H
  replace H : (if t206 = t208 then (laws_FnCounts.j0 k l1 t203 t205 (t207 != t209)) else (laws_FnCounts.j0 k l1 t203 t205 true)) = some r := H
  have A6 := Aside0.mk A60
  clear A60
  have HC7 := Aside0.mk H
  clear H
  go_enter Tryd.func3, Tryd.ntmps3
  go_upto_region 6 with (first | ((with_reducible refine gate_callee (f := 4) rfl ?_); refine goesL_ (some 40) rfl rfl Tryd.func4 (by kernel_rfl) rfl #[.slice A0 l0.length c0] rfl (by (try simp only [List.map_toArray, List.map_cons, List.map_nil]); first | done | rfl | (simp only [List.length_drop, List.length_take]; rfl)) ?_; (with_reducible refine (spec_DrawUnary.calls k _ _ l0 t203 t204 t205 _ ?side1 ?side2 A4.out).mono ?_); (case side1 => repeat (first | exact HR0.out | (with_reducible refine Kd.C_alloc ?_ _) | (with_reducible refine Kd.C_drewN ?_ _) | (with_reducible refine Kd.C_drew ?_))); (case side2 => exact HC0.out); rintro e w8 ⟨rfl, hb⟩; refine ⟨_, rfl, ?_⟩; have n0_ := Aside0.mk (below_step (by repeat (first | (with_reducible first | exact HB.out | apply below_alloc | apply pw_below_drewN | apply below_drew1) | exact HB.out)) hb); clear HB; have HB := n0_; clear n0_; (try clear hb); (try clear hb2); (try clear hk); (try clear hi)) | ((with_reducible refine gate_callee (f := 5) rfl ?_); refine goesL_ (some 48) rfl rfl Tryd.func5 (by kernel_rfl) rfl #[.int .i64 t203, .int .i64 t204, .int .u64 t205] rfl (by (try simp only [List.map_toArray, List.map_cons, List.map_nil]); first | done | rfl | (simp only [List.length_drop, List.length_take]; rfl)) ?_; (with_reducible refine (impl_Unary.calls k t203 t204 t205 t206 t207 _ A5.out ⟨tb HTab.out (by repeat (first | (with_reducible first | exact HB.out | apply below_alloc | apply pw_below_drewN | apply below_drew1) | exact HB.out))⟩).mono ?_); rintro e w9 ⟨rfl, hb⟩; refine ⟨_, rfl, ?_⟩; have n0_ := Aside0.mk (below_step (by repeat (first | (with_reducible first | exact HB.out | apply below_alloc | apply pw_below_drewN | apply below_drew1) | exact HB.out)) hb); clear HB; have HB := n0_; clear n0_; (try clear hb); (try clear hb2); (try clear hk); (try clear hi)) | ((with_reducible refine gate_callee (f := 6) rfl ?_); refine goesL_ (some 55) rfl rfl Tryd.func6 (by kernel_rfl) rfl #[.int .i64 t203, .int .i64 t204, .int .u64 t205] rfl (by (try simp only [List.map_toArray, List.map_cons, List.map_nil]); first | done | rfl | (simp only [List.length_drop, List.length_take]; rfl)) ?_; (with_reducible refine (spec_Unary.calls k t203 t204 t205 t208 t209 _ A6.out).mono ?_); rintro e w' ⟨rfl, ⟨nd, rfl⟩⟩; refine ⟨_, rfl, ?_⟩))
  (try simp only [Act.put, List.setIfInBounds_toArray, List.set_cons_zero, List.set_cons_succ])
  go_cut [65] (fun v65 wc => ∃ (kq : Nat) (x65_6 : Bool), v65 = .bool x65_6 ∧ Aside0 (laws_FnCounts.j0 kq l1 t203 t205 x65_6 = some r) ∧ Aside0 (kq ≤ k) ∧ Aside0 (Below w.heap.size w wc))
  case first =>
   have H := HC7.out
   clear HC7
   by_cases c10 : t206 = t208
   ·
    rw [if_pos c10] at H
    have c10b0 : (t206 == t208) = true := beq_iff_eq.mpr c10
    have c10b1 : (t206 != t208) = false := bne_eq_false_iff_eq.mpr c10
    clear c10
    (first | rw [c10b0] | (simp only [i64_w, i32_w]; rw [c10b0]) | skip)
    have H' := Aside0.mk H
    clear H
    go_wp2
    go_meet
    case rel => exact ⟨_, ((t207 != t209)), (by first | rfl | (simp; done) | (simp [*]; done)), H', ⟨by first | omega | exact Nat.le_refl _⟩, ⟨by repeat (first | (with_reducible first | exact HB.out | apply below_alloc | apply pw_below_drewN | apply below_drew1) | exact HB.out)⟩⟩
   ·
    rw [if_neg c10] at H
    have c10b0 : (t206 == t208) = false := beq_eq_false_iff_ne.mpr c10
    have c10b1 : (t206 != t208) = true := bne_iff_ne.mpr c10
    (first | rw [c10b0] | (simp only [i64_w, i32_w]; rw [c10b0]) | skip)
    have H' := Aside0.mk H
    clear H
    go_wp2
    go_meet
    case rel => exact ⟨_, (true), (by first | rfl | (simp; done) | (simp [*]; done)), H', ⟨by first | omega | exact Nat.le_refl _⟩, ⟨by repeat (first | (with_reducible first | exact HB.out | apply below_alloc | apply pw_below_drewN | apply below_drew1) | exact HB.out)⟩⟩
  case rest => as_aux_lemma =>
   clear HC7
   try clear c1
   try clear p2
   try clear c3
   try clear c3b0
   try clear c4
   try clear c5
   try clear c6
   try clear p6
   try clear c10
   try clear c10b0
   try clear c10b1
   obtain ⟨kq, x65_6, rfl, HA, HJ6, HB⟩ := hcut
   cases kq with
   | zero => exact absurd HA.out (by simp [laws_FnCounts.j0])
   | succ kj6 =>
    have H := HA.out
    clear HA
    simp only [laws_FnCounts.j0] at H
    by_cases c11 : x65_6 = true
    ·
     subst c11
     have H1 : (some false) = some r := by rw [if_pos rfl] at H; exact H
     clear H
     have H := H1
     clear H1
     obtain rfl := Option.some.inj H
     exact absurd HT.out (by decide)
    ·
     replace c11 := Bool.eq_false_iff.mpr c11
     subst c11
     have H1 : (if t203 = 32 then (laws_FnCounts.j1 kj6 l1 t203 t205 true) else (laws_FnCounts.j1 kj6 l1 t203 t205 (t203 == 64))) = some r := by rw [if_neg (show ¬ (false = true) by decide)] at H; exact H
     clear H
     have H := H1
     clear H1
     have HC12 := Aside0.mk H
     clear H
     go_upto_region 8 with (fail)
     go_cut [71] (fun v71 wc => ∃ (kq : Nat) (x71_11 : Bool), v71 = .bool x71_11 ∧ Aside0 (laws_FnCounts.j1 kq l1 t203 t205 x71_11 = some r) ∧ Aside0 (kq ≤ kj6) ∧ Aside0 (Below w.heap.size w wc))
     case first =>
      have H := HC12.out
      clear HC12
      by_cases c13 : t203 = 32
      ·
       rw [if_pos c13] at H
       have c13b0 : (t203 == 32) = true := beq_iff_eq.mpr c13
       have c13b1 : (t203 != 32) = false := bne_eq_false_iff_eq.mpr c13
       clear c13
       (first | rw [c13b0] | (simp only [i64_w, i32_w]; rw [c13b0]) | skip)
       have H' := Aside0.mk H
       clear H
       go_wp2
       go_meet
       case rel => exact ⟨_, (true), (by first | rfl | (simp; done) | (simp [*]; done)), H', ⟨by have := HJ6.out; first | omega | exact Nat.le_refl _⟩, ⟨by repeat (first | (with_reducible first | exact HB.out | apply below_alloc | apply pw_below_drewN | apply below_drew1) | exact HB.out)⟩⟩
      ·
       rw [if_neg c13] at H
       have c13b0 : (t203 == 32) = false := beq_eq_false_iff_ne.mpr c13
       have c13b1 : (t203 != 32) = true := bne_iff_ne.mpr c13
       (first | rw [c13b0] | (simp only [i64_w, i32_w]; rw [c13b0]) | skip)
       have H' := Aside0.mk H
       clear H
       go_wp2
       go_meet
       case rel => exact ⟨_, ((t203 == 64)), (by first | rfl | (simp; done) | (simp [*]; done)), H', ⟨by have := HJ6.out; first | omega | exact Nat.le_refl _⟩, ⟨by repeat (first | (with_reducible first | exact HB.out | apply below_alloc | apply pw_below_drewN | apply below_drew1) | exact HB.out)⟩⟩
     case rest => as_aux_lemma =>
      clear HC12
      try clear c1
      try clear p2
      try clear c3
      try clear c3b0
      try clear c4
      try clear c5
      try clear c6
      try clear p6
      try clear c10
      try clear c10b0
      try clear c10b1
      try clear c11
      try clear c13
      try clear c13b0
      try clear c13b1
      try clear p2
      try clear p6
      obtain ⟨kq, x71_11, rfl, HA, HJ11, HB⟩ := hcut
      cases kq with
      | zero => exact absurd HA.out (by simp [laws_FnCounts.j1])
      | succ kj11 =>
       have H := HA.out
       clear HA
       simp only [laws_FnCounts.j1] at H
       have HC14 := Aside0.mk H
       clear H
       go_upto_if 71 with (fail)
       go_cut [] (fun wc => ∃ (kq : Nat), Aside0 (laws_FnCounts.j5 kq l1 = some r) ∧ Aside0 (kq ≤ kj11) ∧ Aside0 (Below w.heap.size w wc))
       case first =>
        have H := HC14.out
        clear HC14
        by_cases c15 : x71_11 = true
        ·
         subst c15
         have H1 : (if t203 = 32 then ((impl_WrapTo32.f t205).bind fun t210 => (laws_FnCounts.j2 kj11 l1 t203 t205 t210)) else (laws_FnCounts.j2 kj11 l1 t203 t205 t205)) = some r := by rw [if_pos rfl] at H; exact H
         clear H
         have H := H1
         clear H1
         have HC16 := Aside0.mk H
         clear H
         go_upto_if 74 with (fail)
         go_cut [12] (fun v12 wc => ∃ (kq : Nat) (x12_15 : Int), v12 = .int .u64 x12_15 ∧ Aside0 (laws_FnCounts.j2 kq l1 t203 t205 x12_15 = some r) ∧ Aside0 (kq ≤ kj11) ∧ Aside0 (Below w.heap.size w wc))
         case first =>
          have H := HC16.out
          clear HC16
          by_cases c17 : t203 = 32
          ·
           rw [if_pos c17] at H
           have c17b0 : (t203 == 32) = true := beq_iff_eq.mpr c17
           have c17b1 : (t203 != 32) = false := bne_eq_false_iff_eq.mpr c17
           clear c17
           (first | rw [c17b0] | (simp only [i64_w, i32_w]; rw [c17b0]) | skip)
           replace H := Option.bind_eq_some_iff.mp H
           obtain ⟨t210, A180, H⟩ := H
           replace H : (laws_FnCounts.j2 kj11 l1 t203 t205 t210) = some r := H
           have A18 := Aside0.mk A180
           clear A180
           have H' := Aside0.mk H
           clear H
           go_wp2_with (first | ((with_reducible refine gate_callee (f := 7) rfl ?_); refine goesL_ (some 76) rfl rfl Tryd.func7 (by kernel_rfl) rfl #[.int .u64 t205] rfl (by (try simp only [List.map_toArray, List.map_cons, List.map_nil]); first | done | rfl | (simp only [List.length_drop, List.length_take]; rfl)) ?_; (with_reducible refine (impl_WrapTo32.calls t205 t210 _ A18.out).mono ?_); rintro e w' ⟨rfl, ⟨nd, rfl⟩⟩; refine ⟨_, rfl, ?_⟩))
           go_meet
           case rel => exact ⟨_, (t210), (by first | rfl | (simp; done) | (simp [*]; done)), H', ⟨by have := HJ6.out; have := HJ11.out; first | omega | exact Nat.le_refl _⟩, ⟨by repeat (first | (with_reducible first | exact HB.out | apply below_alloc | apply pw_below_drewN | apply below_drew1) | exact HB.out)⟩⟩
          ·
           rw [if_neg c17] at H
           have c17b0 : (t203 == 32) = false := beq_eq_false_iff_ne.mpr c17
           have c17b1 : (t203 != 32) = true := bne_iff_ne.mpr c17
           (first | rw [c17b0] | (simp only [i64_w, i32_w]; rw [c17b0]) | skip)
           have H' := Aside0.mk H
           clear H
           go_wp2
           go_meet
           case rel => exact ⟨_, (t205), (by first | rfl | (simp; done) | (simp [*]; done)), H', ⟨by have := HJ6.out; have := HJ11.out; first | omega | exact Nat.le_refl _⟩, ⟨by repeat (first | (with_reducible first | exact HB.out | apply below_alloc | apply pw_below_drewN | apply below_drew1) | exact HB.out)⟩⟩
         case rest => as_aux_lemma =>
          clear HC16
          try clear c1
          try clear p2
          try clear c3
          try clear c3b0
          try clear c4
          try clear c5
          try clear c6
          try clear p6
          try clear c7
          try clear c10
          try clear c10b0
          try clear c10b1
          try clear c11
          try clear c13
          try clear c13b0
          try clear c13b1
          try clear c15
          try clear c17
          try clear c17b0
          try clear c17b1
          try clear p2
          try clear p6
          obtain ⟨kq, x12_15, rfl, HA, HJ15, HB⟩ := hcut
          cases kq with
          | zero => exact absurd HA.out (by simp [laws_FnCounts.j2])
          | succ kj15 =>
           have H := HA.out
           clear HA
           simp only [laws_FnCounts.j2] at H
           replace H := Option.bind_eq_some_iff.mp H
           obtain ⟨⟨t211, t212⟩, A190, H⟩ := H
           replace H : ((impl_Unary.f kj15 t203 23 t205).bind fun bt213 => ((impl_Unary.f kj15 t203 24 t205).bind fun bt215 => (if x12_15 = 0 then (if t211 = (IntKind.u64.wrap (t203)) then (if bt213.1 = (IntKind.u64.wrap (t203)) then (laws_FnCounts.j3 kj15 l1 t203 x12_15 t211 bt213.1 bt215.1 (bt215.1 != 0)) else (laws_FnCounts.j3 kj15 l1 t203 x12_15 t211 bt213.1 bt215.1 true)) else (laws_FnCounts.j3 kj15 l1 t203 x12_15 t211 bt213.1 bt215.1 true)) else (laws_FnCounts.j3 kj15 l1 t203 x12_15 t211 bt213.1 bt215.1 false)))) = some r := H
           have A19 := Aside0.mk A190
           clear A190
           replace H := Option.bind_eq_some_iff.mp H
           obtain ⟨⟨t213, t214⟩, A200, H⟩ := H
           replace H : ((impl_Unary.f kj15 t203 24 t205).bind fun bt215 => (if x12_15 = 0 then (if t211 = (IntKind.u64.wrap (t203)) then (if t213 = (IntKind.u64.wrap (t203)) then (laws_FnCounts.j3 kj15 l1 t203 x12_15 t211 t213 bt215.1 (bt215.1 != 0)) else (laws_FnCounts.j3 kj15 l1 t203 x12_15 t211 t213 bt215.1 true)) else (laws_FnCounts.j3 kj15 l1 t203 x12_15 t211 t213 bt215.1 true)) else (laws_FnCounts.j3 kj15 l1 t203 x12_15 t211 t213 bt215.1 false))) = some r := H
           have A20 := Aside0.mk A200
           clear A200
           replace H := Option.bind_eq_some_iff.mp H
           obtain ⟨⟨t215, t216⟩, A210, H⟩ := H
           replace H : (if x12_15 = 0 then (if t211 = (IntKind.u64.wrap (t203)) then (if t213 = (IntKind.u64.wrap (t203)) then (laws_FnCounts.j3 kj15 l1 t203 x12_15 t211 t213 t215 (t215 != 0)) else (laws_FnCounts.j3 kj15 l1 t203 x12_15 t211 t213 t215 true)) else (laws_FnCounts.j3 kj15 l1 t203 x12_15 t211 t213 t215 true)) else (laws_FnCounts.j3 kj15 l1 t203 x12_15 t211 t213 t215 false)) = some r := H
           have A21 := Aside0.mk A210
           clear A210
           have HC22 := Aside0.mk H
           clear H
           go_upto_region 15 with (first | ((with_reducible refine gate_callee (f := 5) rfl ?_); refine goesL_ (some 80) rfl rfl Tryd.func5 (by kernel_rfl) rfl #[.int .i64 t203, .int .i64 22, .int .u64 t205] rfl (by (try simp only [List.map_toArray, List.map_cons, List.map_nil]); first | done | rfl | (simp only [List.length_drop, List.length_take]; rfl)) ?_; (with_reducible refine (impl_Unary.calls kj15 t203 22 t205 t211 t212 _ A19.out ⟨tb HTab.out (by repeat (first | (with_reducible first | exact HB.out | apply below_alloc | apply pw_below_drewN | apply below_drew1) | exact HB.out))⟩).mono ?_); rintro e w23 ⟨rfl, hb⟩; refine ⟨_, rfl, ?_⟩; have n0_ := Aside0.mk (below_step (by repeat (first | (with_reducible first | exact HB.out | apply below_alloc | apply pw_below_drewN | apply below_drew1) | exact HB.out)) hb); clear HB; have HB := n0_; clear n0_; (try clear hb); (try clear hb2); (try clear hk); (try clear hi)) | ((with_reducible refine gate_callee (f := 5) rfl ?_); refine goesL_ (some 86) rfl rfl Tryd.func5 (by kernel_rfl) rfl #[.int .i64 t203, .int .i64 23, .int .u64 t205] rfl (by (try simp only [List.map_toArray, List.map_cons, List.map_nil]); first | done | rfl | (simp only [List.length_drop, List.length_take]; rfl)) ?_; (with_reducible refine (impl_Unary.calls kj15 t203 23 t205 t213 t214 _ A20.out ⟨tb HTab.out (by repeat (first | (with_reducible first | exact HB.out | apply below_alloc | apply pw_below_drewN | apply below_drew1) | exact HB.out))⟩).mono ?_); rintro e w24 ⟨rfl, hb⟩; refine ⟨_, rfl, ?_⟩; have n0_ := Aside0.mk (below_step (by repeat (first | (with_reducible first | exact HB.out | apply below_alloc | apply pw_below_drewN | apply below_drew1) | exact HB.out)) hb); clear HB; have HB := n0_; clear n0_; (try clear hb); (try clear hb2); (try clear hk); (try clear hi)) | ((with_reducible refine gate_callee (f := 5) rfl ?_); refine goesL_ (some 92) rfl rfl Tryd.func5 (by kernel_rfl) rfl #[.int .i64 t203, .int .i64 24, .int .u64 t205] rfl (by (try simp only [List.map_toArray, List.map_cons, List.map_nil]); first | done | rfl | (simp only [List.length_drop, List.length_take]; rfl)) ?_; (with_reducible refine (impl_Unary.calls kj15 t203 24 t205 t215 t216 _ A21.out ⟨tb HTab.out (by repeat (first | (with_reducible first | exact HB.out | apply below_alloc | apply pw_below_drewN | apply below_drew1) | exact HB.out))⟩).mono ?_); rintro e w25 ⟨rfl, hb⟩; refine ⟨_, rfl, ?_⟩; have n0_ := Aside0.mk (below_step (by repeat (first | (with_reducible first | exact HB.out | apply below_alloc | apply pw_below_drewN | apply below_drew1) | exact HB.out)) hb); clear HB; have HB := n0_; clear n0_; (try clear hb); (try clear hb2); (try clear hk); (try clear hi)))
           (try simp only [Act.put, List.setIfInBounds_toArray, List.set_cons_zero, List.set_cons_succ])
           go_cut [112] (fun v112 wc => ∃ (kq : Nat) (x112_21 : Bool), v112 = .bool x112_21 ∧ Aside0 (laws_FnCounts.j3 kq l1 t203 x12_15 t211 t213 t215 x112_21 = some r) ∧ Aside0 (kq ≤ kj15) ∧ Aside0 (Below w.heap.size w wc))
           case first =>
            have H := HC22.out
            clear HC22
            by_cases c26 : x12_15 = 0
            ·
             rw [if_pos c26] at H
             have c26b0 : (x12_15 == 0) = true := beq_iff_eq.mpr c26
             have c26b1 : (x12_15 != 0) = false := bne_eq_false_iff_eq.mpr c26
             clear c26
             (first | rw [c26b0] | (simp only [i64_w, i32_w]; rw [c26b0]) | skip)
             by_cases c27 : t211 = (IntKind.u64.wrap (t203))
             ·
              rw [if_pos c27] at H
              have c27b0 : (t211 == (IntKind.u64.wrap (t203))) = true := beq_iff_eq.mpr c27
              have c27b1 : (t211 != (IntKind.u64.wrap (t203))) = false := bne_eq_false_iff_eq.mpr c27
              clear c27
              by_cases c28 : t213 = (IntKind.u64.wrap (t203))
              ·
               rw [if_pos c28] at H
               have c28b0 : (t213 == (IntKind.u64.wrap (t203))) = true := beq_iff_eq.mpr c28
               have c28b1 : (t213 != (IntKind.u64.wrap (t203))) = false := bne_eq_false_iff_eq.mpr c28
               clear c28
               have H' := Aside0.mk H
               clear H
               go_wp2
               go_meet
               case rel => exact ⟨_, ((t215 != 0)), (by first | rfl | (simp; done) | (simp [*]; done)), H', ⟨by have := HJ6.out; have := HJ11.out; have := HJ15.out; first | omega | exact Nat.le_refl _⟩, ⟨by repeat (first | (with_reducible first | exact HB.out | apply below_alloc | apply pw_below_drewN | apply below_drew1) | exact HB.out)⟩⟩
              ·
               rw [if_neg c28] at H
               have c28b0 : (t213 == (IntKind.u64.wrap (t203))) = false := beq_eq_false_iff_ne.mpr c28
               have c28b1 : (t213 != (IntKind.u64.wrap (t203))) = true := bne_iff_ne.mpr c28
               have H' := Aside0.mk H
               clear H
               go_wp2
               go_meet
               case rel => exact ⟨_, (true), (by first | rfl | (simp; done) | (simp [*]; done)), H', ⟨by have := HJ6.out; have := HJ11.out; have := HJ15.out; first | omega | exact Nat.le_refl _⟩, ⟨by repeat (first | (with_reducible first | exact HB.out | apply below_alloc | apply pw_below_drewN | apply below_drew1) | exact HB.out)⟩⟩
             ·
              rw [if_neg c27] at H
              have c27b0 : (t211 == (IntKind.u64.wrap (t203))) = false := beq_eq_false_iff_ne.mpr c27
              have c27b1 : (t211 != (IntKind.u64.wrap (t203))) = true := bne_iff_ne.mpr c27
              have H' := Aside0.mk H
              clear H
              go_wp2
              go_meet
              case rel => exact ⟨_, (true), (by first | rfl | (simp; done) | (simp [*]; done)), H', ⟨by have := HJ6.out; have := HJ11.out; have := HJ15.out; first | omega | exact Nat.le_refl _⟩, ⟨by repeat (first | (with_reducible first | exact HB.out | apply below_alloc | apply pw_below_drewN | apply below_drew1) | exact HB.out)⟩⟩
            ·
             rw [if_neg c26] at H
             have c26b0 : (x12_15 == 0) = false := beq_eq_false_iff_ne.mpr c26
             have c26b1 : (x12_15 != 0) = true := bne_iff_ne.mpr c26
             (first | rw [c26b0] | (simp only [i64_w, i32_w]; rw [c26b0]) | skip)
             have H' := Aside0.mk H
             clear H
             go_wp2
             go_meet
             case rel => exact ⟨_, (false), (by first | rfl | (simp; done) | (simp [*]; done)), H', ⟨by have := HJ6.out; have := HJ11.out; have := HJ15.out; first | omega | exact Nat.le_refl _⟩, ⟨by repeat (first | (with_reducible first | exact HB.out | apply below_alloc | apply pw_below_drewN | apply below_drew1) | exact HB.out)⟩⟩
           case rest => as_aux_lemma =>
            clear HC22
            try clear c1
            try clear c2
            try clear p2
            try clear c3
            try clear c3b0
            try clear c4
            try clear c5
            try clear c6
            try clear p6
            try clear c7
            try clear c10
            try clear c10b0
            try clear c10b1
            try clear c11
            try clear c13
            try clear c13b0
            try clear c13b1
            try clear c15
            try clear c17
            try clear c17b0
            try clear c17b1
            try clear c26
            try clear c26b0
            try clear c26b1
            try clear c27
            try clear c27b0
            try clear c27b1
            try clear c28
            try clear c28b0
            try clear c28b1
            try clear p2
            try clear p6
            obtain ⟨kq, x112_21, rfl, HA, HJ21, HB⟩ := hcut
            cases kq with
            | zero => exact absurd HA.out (by simp [laws_FnCounts.j3])
            | succ kj21 =>
             have H := HA.out
             clear HA
             simp only [laws_FnCounts.j3] at H
             by_cases c29 : x112_21 = true
             ·
              subst c29
              have H1 : (some false) = some r := by rw [if_pos rfl] at H; exact H
              clear H
              have H := H1
              clear H1
              obtain rfl := Option.some.inj H
              exact absurd HT.out (by decide)
             ·
              replace c29 := Bool.eq_false_iff.mpr c29
              subst c29
              have H1 : (if x12_15 = 0 then (laws_FnCounts.j4 kj21 l1 t203 x12_15 t215 false) else (if 0 ≤ (IntKind.u64.wrap ((IntKind.u64.wrap ((IntKind.u64.wrap (t203)) - t211)) - 1)) then (if (shr .u64 x12_15 (IntKind.u64.wrap ((IntKind.u64.wrap ((IntKind.u64.wrap (t203)) - t211)) - 1))) = 1 then (if 0 ≤ t213 then (if (Go.bits .and .u64 (shr .u64 x12_15 t213) 1) = 1 then (if (Go.bits .and .u64 x12_15 (IntKind.u64.wrap ((shl .u64 1 t213) - 1))) = 0 then (laws_FnCounts.j4 kj21 l1 t203 x12_15 t215 (decide ((IntKind.u64.wrap ((IntKind.u64.wrap (t215 + t211)) + t213)) > (IntKind.u64.wrap (t203))))) else (laws_FnCounts.j4 kj21 l1 t203 x12_15 t215 true)) else (laws_FnCounts.j4 kj21 l1 t203 x12_15 t215 true)) else (none)) else (laws_FnCounts.j4 kj21 l1 t203 x12_15 t215 true)) else (none))) = some r := by rw [if_neg (show ¬ (false = true) by decide)] at H; exact H
              clear H
              have H := H1
              clear H1
              have HC30 := Aside0.mk H
              clear H
              go_upto_region 17 with (fail)
              go_cut [149] (fun v149 wc => ∃ (kq : Nat) (x149_29 : Bool), v149 = .bool x149_29 ∧ Aside0 (laws_FnCounts.j4 kq l1 t203 x12_15 t215 x149_29 = some r) ∧ Aside0 (kq ≤ kj21) ∧ Aside0 (Below w.heap.size w wc))
              case first =>
               have H := HC30.out
               clear HC30
               by_cases c31 : x12_15 = 0
               ·
                rw [if_pos c31] at H
                have c31b0 : (x12_15 == 0) = true := beq_iff_eq.mpr c31
                have c31b1 : (x12_15 != 0) = false := bne_eq_false_iff_eq.mpr c31
                clear c31
                (first | rw [c31b0] | (simp only [i64_w, i32_w]; rw [c31b0]) | skip)
                have H' := Aside0.mk H
                clear H
                go_wp2
                go_meet
                case rel => exact ⟨_, (false), (by first | rfl | (simp; done) | (simp [*]; done)), H', ⟨by have := HJ6.out; have := HJ11.out; have := HJ15.out; have := HJ21.out; first | omega | exact Nat.le_refl _⟩, ⟨by repeat (first | (with_reducible first | exact HB.out | apply below_alloc | apply pw_below_drewN | apply below_drew1) | exact HB.out)⟩⟩
               ·
                rw [if_neg c31] at H
                have c31b0 : (x12_15 == 0) = false := beq_eq_false_iff_ne.mpr c31
                have c31b1 : (x12_15 != 0) = true := bne_iff_ne.mpr c31
                (first | rw [c31b0] | (simp only [i64_w, i32_w]; rw [c31b0]) | skip)
                obtain ⟨ji32, hji32⟩ : ∃ j_ : Int, (IntKind.u64.wrap ((IntKind.u64.wrap ((IntKind.u64.wrap (t203)) - t211)) - 1)) = j_ := ⟨_, rfl⟩
                replace H : (if 0 ≤ (ji32) then (if (shr .u64 x12_15 (ji32)) = 1 then (if 0 ≤ t213 then (if (Go.bits .and .u64 (shr .u64 x12_15 t213) 1) = 1 then (if (Go.bits .and .u64 x12_15 (IntKind.u64.wrap ((shl .u64 1 t213) - 1))) = 0 then (laws_FnCounts.j4 kj21 l1 t203 x12_15 t215 (decide ((IntKind.u64.wrap ((IntKind.u64.wrap (t215 + t211)) + t213)) > (IntKind.u64.wrap (t203))))) else (laws_FnCounts.j4 kj21 l1 t203 x12_15 t215 true)) else (laws_FnCounts.j4 kj21 l1 t203 x12_15 t215 true)) else (none)) else (laws_FnCounts.j4 kj21 l1 t203 x12_15 t215 true)) else (none)) = some r := by first | (rw [hji32] at H; exact H) | (simp only [hji32] at H ⊢; exact H)
                by_cases c33 : 0 ≤ (ji32)
                ·
                 rw [if_pos c33] at H
                 have c33b0 := eq_true c33
                 have c33b1 : decide (0 ≤ (ji32)) = true := decide_eq_true c33
                 clear c33
                 obtain ⟨ji34, hji34⟩ : ∃ j_ : Int, (shr .u64 x12_15 (ji32)) = j_ := ⟨_, rfl⟩
                 replace H : (if (ji34) = 1 then (if 0 ≤ t213 then (if (Go.bits .and .u64 (shr .u64 x12_15 t213) 1) = 1 then (if (Go.bits .and .u64 x12_15 (IntKind.u64.wrap ((shl .u64 1 t213) - 1))) = 0 then (laws_FnCounts.j4 kj21 l1 t203 x12_15 t215 (decide ((IntKind.u64.wrap ((IntKind.u64.wrap (t215 + t211)) + t213)) > (IntKind.u64.wrap (t203))))) else (laws_FnCounts.j4 kj21 l1 t203 x12_15 t215 true)) else (laws_FnCounts.j4 kj21 l1 t203 x12_15 t215 true)) else (none)) else (laws_FnCounts.j4 kj21 l1 t203 x12_15 t215 true)) = some r := by first | (rw [hji34] at H; exact H) | (simp only [hji34] at H ⊢; exact H)
                 have hji34_ : (x12_15 / 2 ^ min (ji32).toNat 64) = ji34 := hji34
                 have hji34z : (ji32) ≤ 64 → (x12_15 / 2 ^ (ji32).toNat) = ji34 := shr_small hji34
                 by_cases c35 : (ji34) = 1
                 ·
                  rw [if_pos c35] at H
                  have c35b0 : ((ji34) == 1) = true := beq_iff_eq.mpr c35
                  have c35b1 : ((ji34) != 1) = false := bne_eq_false_iff_eq.mpr c35
                  clear c35
                  by_cases c36 : 0 ≤ t213
                  ·
                   rw [if_pos c36] at H
                   have c36b0 := eq_true c36
                   have c36b1 : decide (0 ≤ t213) = true := decide_eq_true c36
                   clear c36
                   obtain ⟨ji37, hji37⟩ : ∃ j_ : Int, (shr .u64 x12_15 t213) = j_ := ⟨_, rfl⟩
                   replace H : (if (Go.bits .and .u64 (ji37) 1) = 1 then (if (Go.bits .and .u64 x12_15 (IntKind.u64.wrap ((shl .u64 1 t213) - 1))) = 0 then (laws_FnCounts.j4 kj21 l1 t203 x12_15 t215 (decide ((IntKind.u64.wrap ((IntKind.u64.wrap (t215 + t211)) + t213)) > (IntKind.u64.wrap (t203))))) else (laws_FnCounts.j4 kj21 l1 t203 x12_15 t215 true)) else (laws_FnCounts.j4 kj21 l1 t203 x12_15 t215 true)) = some r := by first | (rw [hji37] at H; exact H) | (simp only [hji37] at H ⊢; exact H)
                   have hji37_ : (x12_15 / 2 ^ min t213.toNat 64) = ji37 := hji37
                   have hji37z : t213 ≤ 64 → (x12_15 / 2 ^ t213.toNat) = ji37 := shr_small hji37
                   by_cases c38 : (Go.bits .and .u64 (ji37) 1) = 1
                   ·
                    rw [if_pos c38] at H
                    have c38b0 : ((Go.bits .and .u64 (ji37) 1) == 1) = true := beq_iff_eq.mpr c38
                    have c38b1 : ((Go.bits .and .u64 (ji37) 1) != 1) = false := bne_eq_false_iff_eq.mpr c38
                    clear c38
                    have c39b0 := eq_true (of_decide_eq_true (by first | (with_reducible assumption) | assumption) : 0 ≤ t213)
                    obtain ⟨ji40, hji40⟩ : ∃ j_ : Int, (shl .u64 1 t213) = j_ := ⟨_, rfl⟩
                    replace H : (if (Go.bits .and .u64 x12_15 (IntKind.u64.wrap ((ji40) - 1))) = 0 then (laws_FnCounts.j4 kj21 l1 t203 x12_15 t215 (decide ((IntKind.u64.wrap ((IntKind.u64.wrap (t215 + t211)) + t213)) > (IntKind.u64.wrap (t203))))) else (laws_FnCounts.j4 kj21 l1 t203 x12_15 t215 true)) = some r := by first | (rw [hji40] at H; exact H) | (simp only [hji40] at H ⊢; exact H)
                    have hji40_ : (IntKind.u64.wrap (1 * 2 ^ min t213.toNat 64)) = ji40 := hji40
                    have hji40z : t213 ≤ 64 → (IntKind.u64.wrap (1 * 2 ^ t213.toNat)) = ji40 := shl_small hji40
                    have hji40u : (IntKind.u64.wrap (2 ^ min t213.toNat 64)) = ji40 := by have h_ := hji40_; rw [Int.one_mul] at h_; exact h_
                    have hji40v : t213 ≤ 64 → (IntKind.u64.wrap (2 ^ t213.toNat)) = ji40 := fun hle_ => by have h_ := hji40z hle_; rw [Int.one_mul] at h_; exact h_
                    by_cases c41 : (Go.bits .and .u64 x12_15 (IntKind.u64.wrap ((ji40) - 1))) = 0
                    ·
                     rw [if_pos c41] at H
                     have c41b0 : ((Go.bits .and .u64 x12_15 (IntKind.u64.wrap ((ji40) - 1))) == 0) = true := beq_iff_eq.mpr c41
                     have c41b1 : ((Go.bits .and .u64 x12_15 (IntKind.u64.wrap ((ji40) - 1))) != 0) = false := bne_eq_false_iff_eq.mpr c41
                     clear c41
                     have H' := Aside0.mk H
                     clear H
                     go_wp2
                     first | go_meet | ((simp only [← hji40]); go_meet) | ((simp only [← hji37]); go_meet) | ((simp only [← hji34]); go_meet) | ((simp only [← hji32]); go_meet) | ((simp only [← hji40, ← hji37, ← hji34, ← hji32]); go_meet)
                     case rel => exact ⟨_, (decide ((IntKind.u64.wrap ((IntKind.u64.wrap (t215 + t211)) + t213)) > (IntKind.u64.wrap (t203)))), (by first | rfl | (simp; done) | (simp [*]; done)), H', ⟨by have := HJ6.out; have := HJ11.out; have := HJ15.out; have := HJ21.out; first | omega | exact Nat.le_refl _⟩, ⟨by repeat (first | (with_reducible first | exact HB.out | apply below_alloc | apply pw_below_drewN | apply below_drew1) | exact HB.out)⟩⟩
                    ·
                     rw [if_neg c41] at H
                     have c41b0 : ((Go.bits .and .u64 x12_15 (IntKind.u64.wrap ((ji40) - 1))) == 0) = false := beq_eq_false_iff_ne.mpr c41
                     have c41b1 : ((Go.bits .and .u64 x12_15 (IntKind.u64.wrap ((ji40) - 1))) != 0) = true := bne_iff_ne.mpr c41
                     have H' := Aside0.mk H
                     clear H
                     go_wp2
                     first | go_meet | ((simp only [← hji40]); go_meet) | ((simp only [← hji37]); go_meet) | ((simp only [← hji34]); go_meet) | ((simp only [← hji32]); go_meet) | ((simp only [← hji40, ← hji37, ← hji34, ← hji32]); go_meet)
                     case rel => exact ⟨_, (true), (by first | rfl | (simp; done) | (simp [*]; done)), H', ⟨by have := HJ6.out; have := HJ11.out; have := HJ15.out; have := HJ21.out; first | omega | exact Nat.le_refl _⟩, ⟨by repeat (first | (with_reducible first | exact HB.out | apply below_alloc | apply pw_below_drewN | apply below_drew1) | exact HB.out)⟩⟩
                   ·
                    rw [if_neg c38] at H
                    have c38b0 : ((Go.bits .and .u64 (ji37) 1) == 1) = false := beq_eq_false_iff_ne.mpr c38
                    have c38b1 : ((Go.bits .and .u64 (ji37) 1) != 1) = true := bne_iff_ne.mpr c38
                    have H' := Aside0.mk H
                    clear H
                    go_wp2
                    first | go_meet | ((simp only [← hji37]); go_meet) | ((simp only [← hji34]); go_meet) | ((simp only [← hji32]); go_meet) | ((simp only [← hji37, ← hji34, ← hji32]); go_meet)
                    case rel => exact ⟨_, (true), (by first | rfl | (simp; done) | (simp [*]; done)), H', ⟨by have := HJ6.out; have := HJ11.out; have := HJ15.out; have := HJ21.out; first | omega | exact Nat.le_refl _⟩, ⟨by repeat (first | (with_reducible first | exact HB.out | apply below_alloc | apply pw_below_drewN | apply below_drew1) | exact HB.out)⟩⟩
                  ·
                   rw [if_neg c36] at H
                   exact absurd H (by simp)
                 ·
                  rw [if_neg c35] at H
                  have c35b0 : ((ji34) == 1) = false := beq_eq_false_iff_ne.mpr c35
                  have c35b1 : ((ji34) != 1) = true := bne_iff_ne.mpr c35
                  have H' := Aside0.mk H
                  clear H
                  go_wp2
                  first | go_meet | ((simp only [← hji34]); go_meet) | ((simp only [← hji32]); go_meet) | ((simp only [← hji34, ← hji32]); go_meet)
                  case rel => exact ⟨_, (true), (by first | rfl | (simp; done) | (simp [*]; done)), H', ⟨by have := HJ6.out; have := HJ11.out; have := HJ15.out; have := HJ21.out; first | omega | exact Nat.le_refl _⟩, ⟨by repeat (first | (with_reducible first | exact HB.out | apply below_alloc | apply pw_below_drewN | apply below_drew1) | exact HB.out)⟩⟩
                ·
                 rw [if_neg c33] at H
                 exact absurd H (by simp)
              case rest => as_aux_lemma =>
               clear HC30
               try clear c1
               try clear c2
               try clear p2
               try clear c3
               try clear c3b0
               try clear c4
               try clear c5
               try clear c6
               try clear p6
               try clear c7
               try clear c10
               try clear c10b0
               try clear c10b1
               try clear c11
               try clear c13
               try clear c13b0
               try clear c13b1
               try clear c15
               try clear c17
               try clear c17b0
               try clear c17b1
               try clear c26
               try clear c26b0
               try clear c26b1
               try clear c27
               try clear c27b0
               try clear c27b1
               try clear c28
               try clear c28b0
               try clear c28b1
               try clear c29
               try clear c31
               try clear c31b0
               try clear c31b1
               try clear c33
               try clear c33b0
               try clear c33b1
               try clear c35
               try clear c35b0
               try clear c35b1
               try clear c36
               try clear c36b0
               try clear c36b1
               try clear c38
               try clear c38b0
               try clear c38b1
               try clear c39
               try clear c39b0
               try clear c41
               try clear c41b0
               try clear c41b1
               try clear p2
               try clear p6
               obtain ⟨kq, x149_29, rfl, HA, HJ29, HB⟩ := hcut
               cases kq with
               | zero => exact absurd HA.out (by simp [laws_FnCounts.j4])
               | succ kj29 =>
                have H := HA.out
                clear HA
                simp only [laws_FnCounts.j4] at H
                by_cases c42 : x149_29 = true
                ·
                 subst c42
                 have H1 : (some false) = some r := by rw [if_pos rfl] at H; exact H
                 clear H
                 have H := H1
                 clear H1
                 obtain rfl := Option.some.inj H
                 exact absurd HT.out (by decide)
                ·
                 replace c42 := Bool.eq_false_iff.mpr c42
                 subst c42
                 have H1 : ((impl_Unary.f kj29 t203 24 (Go.bits .and .u64 x12_15 (IntKind.u64.wrap (x12_15 - 1)))).bind fun bt217 => (if x12_15 = 0 then (laws_FnCounts.j5 kj29 l1) else (if bt217.1 = (IntKind.u64.wrap (t215 - 1)) then (laws_FnCounts.j5 kj29 l1) else (some false)))) = some r := by rw [if_neg (show ¬ (false = true) by decide)] at H; exact H
                 clear H
                 have H := H1
                 clear H1
                 replace H := Option.bind_eq_some_iff.mp H
                 obtain ⟨⟨t217, t218⟩, A430, H⟩ := H
                 replace H : (if x12_15 = 0 then (laws_FnCounts.j5 kj29 l1) else (if t217 = (IntKind.u64.wrap (t215 - 1)) then (laws_FnCounts.j5 kj29 l1) else (some false))) = some r := H
                 have A43 := Aside0.mk A430
                 clear A430
                 by_cases c44 : x12_15 = 0
                 ·
                  rw [if_pos c44] at H
                  have c44b0 : (x12_15 == 0) = true := beq_iff_eq.mpr c44
                  have c44b1 : (x12_15 != 0) = false := bne_eq_false_iff_eq.mpr c44
                  clear c44
                  have H' := Aside0.mk H
                  clear H
                  go_wp2_with (first | ((with_reducible refine gate_callee (f := 5) rfl ?_); refine goesL_ (some 156) rfl rfl Tryd.func5 (by kernel_rfl) rfl #[.int .i64 t203, .int .i64 24, .int .u64 (Go.bits .and .u64 x12_15 (IntKind.u64.wrap (x12_15 - 1)))] rfl (by (try simp only [List.map_toArray, List.map_cons, List.map_nil]); first | done | rfl | (simp only [List.length_drop, List.length_take]; rfl)) ?_; (with_reducible refine (impl_Unary.calls kj29 t203 24 (Go.bits .and .u64 x12_15 (IntKind.u64.wrap (x12_15 - 1))) t217 t218 _ A43.out ⟨tb HTab.out (by repeat (first | (with_reducible first | exact HB.out | apply below_alloc | apply pw_below_drewN | apply below_drew1) | exact HB.out))⟩).mono ?_); rintro e w45 ⟨rfl, hb⟩; refine ⟨_, rfl, ?_⟩; have n0_ := Aside0.mk (below_step (by repeat (first | (with_reducible first | exact HB.out | apply below_alloc | apply pw_below_drewN | apply below_drew1) | exact HB.out)) hb); clear HB; have HB := n0_; clear n0_; (try clear hb); (try clear hb2); (try clear hk); (try clear hi)))
                  go_meet
                  case rel => exact ⟨_, H', ⟨by have := HJ6.out; have := HJ11.out; have := HJ15.out; have := HJ21.out; have := HJ29.out; first | omega | exact Nat.le_refl _⟩, ⟨by repeat (first | (with_reducible first | exact HB.out | apply below_alloc | apply pw_below_drewN | apply below_drew1) | exact HB.out)⟩⟩
                 ·
                  rw [if_neg c44] at H
                  have c44b0 : (x12_15 == 0) = false := beq_eq_false_iff_ne.mpr c44
                  have c44b1 : (x12_15 != 0) = true := bne_iff_ne.mpr c44
                  by_cases c46 : t217 = (IntKind.u64.wrap (t215 - 1))
                  ·
                   rw [if_pos c46] at H
                   have c46b0 : (t217 == (IntKind.u64.wrap (t215 - 1))) = true := beq_iff_eq.mpr c46
                   have c46b1 : (t217 != (IntKind.u64.wrap (t215 - 1))) = false := bne_eq_false_iff_eq.mpr c46
                   clear c46
                   have H' := Aside0.mk H
                   clear H
                   go_wp2_with (first | ((with_reducible refine gate_callee (f := 5) rfl ?_); refine goesL_ (some 156) rfl rfl Tryd.func5 (by kernel_rfl) rfl #[.int .i64 t203, .int .i64 24, .int .u64 (Go.bits .and .u64 x12_15 (IntKind.u64.wrap (x12_15 - 1)))] rfl (by (try simp only [List.map_toArray, List.map_cons, List.map_nil]); first | done | rfl | (simp only [List.length_drop, List.length_take]; rfl)) ?_; (with_reducible refine (impl_Unary.calls kj29 t203 24 (Go.bits .and .u64 x12_15 (IntKind.u64.wrap (x12_15 - 1))) t217 t218 _ A43.out ⟨tb HTab.out (by repeat (first | (with_reducible first | exact HB.out | apply below_alloc | apply pw_below_drewN | apply below_drew1) | exact HB.out))⟩).mono ?_); rintro e w47 ⟨rfl, hb⟩; refine ⟨_, rfl, ?_⟩; have n0_ := Aside0.mk (below_step (by repeat (first | (with_reducible first | exact HB.out | apply below_alloc | apply pw_below_drewN | apply below_drew1) | exact HB.out)) hb); clear HB; have HB := n0_; clear n0_; (try clear hb); (try clear hb2); (try clear hk); (try clear hi)))
                   go_meet
                   case rel => exact ⟨_, H', ⟨by have := HJ6.out; have := HJ11.out; have := HJ15.out; have := HJ21.out; have := HJ29.out; first | omega | exact Nat.le_refl _⟩, ⟨by repeat (first | (with_reducible first | exact HB.out | apply below_alloc | apply pw_below_drewN | apply below_drew1) | exact HB.out)⟩⟩
                  ·
                   rw [if_neg c46] at H
                   have c46b0 : (t217 == (IntKind.u64.wrap (t215 - 1))) = false := beq_eq_false_iff_ne.mpr c46
                   have c46b1 : (t217 != (IntKind.u64.wrap (t215 - 1))) = true := bne_iff_ne.mpr c46
                   obtain rfl := Option.some.inj H
                   exact absurd HT.out (by decide)
        ·
         replace c15 := Bool.eq_false_iff.mpr c15
         subst c15
         have H1 : (laws_FnCounts.j5 kj11 l1) = some r := by rw [if_neg (show ¬ (false = true) by decide)] at H; exact H
         clear H
         have H := H1
         clear H1
         have H' := Aside0.mk H
         clear H
         go_wp2
         go_meet
         case rel => exact ⟨_, H', ⟨by have := HJ6.out; have := HJ11.out; first | omega | exact Nat.le_refl _⟩, ⟨by repeat (first | (with_reducible first | exact HB.out | apply below_alloc | apply pw_below_drewN | apply below_drew1) | exact HB.out)⟩⟩
       case rest => as_aux_lemma =>
        clear HC14
        try clear c1
        try clear c2
        try clear p2
        try clear c3
        try clear c3b0
        try clear c4
        try clear c5
        try clear c6
        try clear p6
        try clear c7
        try clear c10
        try clear c10b0
        try clear c10b1
        try clear c11
        try clear c13
        try clear c13b0
        try clear c13b1
        try clear c15
        try clear c17
        try clear c17b0
        try clear c17b1
        try clear c26
        try clear c26b0
        try clear c26b1
        try clear c27
        try clear c27b0
        try clear c27b1
        try clear c28
        try clear c28b0
        try clear c28b1
        try clear c29
        try clear c31
        try clear c31b0
        try clear c31b1
        try clear c33
        try clear c33b0
        try clear c33b1
        try clear c35
        try clear c35b0
        try clear c35b1
        try clear c36
        try clear c36b0
        try clear c36b1
        try clear c38
        try clear c38b0
        try clear c38b1
        try clear c39
        try clear c39b0
        try clear c41
        try clear c41b0
        try clear c41b1
        try clear c42
        try clear c44
        try clear c44b0
        try clear c44b1
        try clear c46
        try clear c46b0
        try clear c46b1
        try clear p2
        try clear p6
        obtain ⟨kq, HA, HJ13, HB⟩ := hcut
        cases kq with
        | zero => exact absurd HA.out (by simp [laws_FnCounts.j5])
        | succ kj13 =>
         have H := HA.out
         clear HA
         simp only [laws_FnCounts.j5] at H
         replace H := Option.bind_eq_some_iff.mp H
         obtain ⟨⟨t219, t220⟩, A480, H⟩ := H
         replace H : ((impl_SignedOf.f t219 t220).bind fun bt221 => ((spec_SignedOf.f t219 t220).bind fun bt223 => (if (bt221.2 != bt223.2) = true then (some false) else (if bt221.2 = true then ((impl_BitsOf.f t219 bt221.1).bind fun bt225 => ((spec_BitsOf.f t219 (wrap64 (t220))).bind fun bt227 => ((impl_Extend32.f t220 true).bind fun t229 => (if bt225.2 = true then (if bt227.2 = true then (if bt225.1 = bt227.1 then (if t219 = 64 then (some true) else (some (t229 == (IntKind.u64.wrap (bt221.1))))) else (some false)) else (some false)) else (some false))))) else (some (bt221.1 == 0)))))) = some r := H
         have A48 := Aside0.mk A480
         clear A480
         replace H := Option.bind_eq_some_iff.mp H
         obtain ⟨⟨t221, t222⟩, A490, H⟩ := H
         replace H : ((spec_SignedOf.f t219 t220).bind fun bt223 => (if (t222 != bt223.2) = true then (some false) else (if t222 = true then ((impl_BitsOf.f t219 t221).bind fun bt225 => ((spec_BitsOf.f t219 (wrap64 (t220))).bind fun bt227 => ((impl_Extend32.f t220 true).bind fun t229 => (if bt225.2 = true then (if bt227.2 = true then (if bt225.1 = bt227.1 then (if t219 = 64 then (some true) else (some (t229 == (IntKind.u64.wrap (t221))))) else (some false)) else (some false)) else (some false))))) else (some (t221 == 0))))) = some r := H
         have A49 := Aside0.mk A490
         clear A490
         replace H := Option.bind_eq_some_iff.mp H
         obtain ⟨⟨t223, t224⟩, A500, H⟩ := H
         replace H : (if (t222 != t224) = true then (some false) else (if t222 = true then ((impl_BitsOf.f t219 t221).bind fun bt225 => ((spec_BitsOf.f t219 (wrap64 (t220))).bind fun bt227 => ((impl_Extend32.f t220 true).bind fun t229 => (if bt225.2 = true then (if bt227.2 = true then (if bt225.1 = bt227.1 then (if t219 = 64 then (some true) else (some (t229 == (IntKind.u64.wrap (t221))))) else (some false)) else (some false)) else (some false))))) else (some (t221 == 0)))) = some r := H
         have A50 := Aside0.mk A500
         clear A500
         by_cases c51 : (t222 != t224) = true
         ·
          rw [if_pos c51] at H
          have c51b0 : (t222 != t224) = true := c51
          (try (have c51b1 : decide (t222 = t224) = false := by simpa using c51))
          (try (have c51b2 : (t222 == t224) = false := by simpa using c51))
          (try (have c51b3 : ¬ (t222 = t224) := by simpa using c51))
          clear c51
          obtain rfl := Option.some.inj H
          exact absurd HT.out (by decide)
         ·
          rw [if_neg c51] at H
          have c51b0 : (t222 != t224) = false := by simpa using c51
          (try (have c51b1 : decide (t222 = t224) = true := by simpa using c51))
          (try (have c51b2 : (t222 == t224) = true := by simpa using c51))
          clear c51
          by_cases c52 : t222 = true
          ·
           subst c52
           have H1 : ((impl_BitsOf.f t219 t221).bind fun bt225 => ((spec_BitsOf.f t219 (wrap64 (t220))).bind fun bt227 => ((impl_Extend32.f t220 true).bind fun t229 => (if bt225.2 = true then (if bt227.2 = true then (if bt225.1 = bt227.1 then (if t219 = 64 then (some true) else (some (t229 == (IntKind.u64.wrap (t221))))) else (some false)) else (some false)) else (some false))))) = some r := by rw [if_pos rfl] at H; exact H
           clear H
           have H := H1
           clear H1
           replace H := Option.bind_eq_some_iff.mp H
           obtain ⟨⟨t225, t226⟩, A530, H⟩ := H
           replace H : ((spec_BitsOf.f t219 (wrap64 (t220))).bind fun bt227 => ((impl_Extend32.f t220 true).bind fun t229 => (if t226 = true then (if bt227.2 = true then (if t225 = bt227.1 then (if t219 = 64 then (some true) else (some (t229 == (IntKind.u64.wrap (t221))))) else (some false)) else (some false)) else (some false)))) = some r := H
           have A53 := Aside0.mk A530
           clear A530
           replace H := Option.bind_eq_some_iff.mp H
           obtain ⟨⟨t227, t228⟩, A540, H⟩ := H
           replace H : ((impl_Extend32.f t220 true).bind fun t229 => (if t226 = true then (if t228 = true then (if t225 = t227 then (if t219 = 64 then (some true) else (some (t229 == (IntKind.u64.wrap (t221))))) else (some false)) else (some false)) else (some false))) = some r := H
           have A54 := Aside0.mk A540
           clear A540
           replace H := Option.bind_eq_some_iff.mp H
           obtain ⟨t229, A550, H⟩ := H
           replace H : (if t226 = true then (if t228 = true then (if t225 = t227 then (if t219 = 64 then (some true) else (some (t229 == (IntKind.u64.wrap (t221))))) else (some false)) else (some false)) else (some false)) = some r := H
           have A55 := Aside0.mk A550
           clear A550
           by_cases c56 : t226 = true
           ·
            subst c56
            have H1 : (if t228 = true then (if t225 = t227 then (if t219 = 64 then (some true) else (some (t229 == (IntKind.u64.wrap (t221))))) else (some false)) else (some false)) = some r := by rw [if_pos rfl] at H; exact H
            clear H
            have H := H1
            clear H1
            by_cases c57 : t228 = true
            ·
             subst c57
             have H1 : (if t225 = t227 then (if t219 = 64 then (some true) else (some (t229 == (IntKind.u64.wrap (t221))))) else (some false)) = some r := by rw [if_pos rfl] at H; exact H
             clear H
             have H := H1
             clear H1
             by_cases c58 : t225 = t227
             ·
              rw [if_pos c58] at H
              have c58b0 : (t225 == t227) = true := beq_iff_eq.mpr c58
              have c58b1 : (t225 != t227) = false := bne_eq_false_iff_eq.mpr c58
              clear c58
              by_cases c59 : t219 = 64
              ·
               rw [if_pos c59] at H
               have c59b0 : (t219 == 64) = true := beq_iff_eq.mpr c59
               have c59b1 : (t219 != 64) = false := bne_eq_false_iff_eq.mpr c59
               clear c59
               obtain rfl := Option.some.inj H
               simp only [Option.some.injEq, Prod.mk.injEq] at H
               obtain ⟨rfl⟩ := H
               go_wp2_with (first | ((with_reducible refine gate_callee (f := 8) rfl ?_); refine goesL_ (some 169) rfl rfl Tryd.func8 (by kernel_rfl) rfl #[.slice A1 l1.length c1] rfl (by (try simp only [List.map_toArray, List.map_cons, List.map_nil]); first | done | rfl | (simp only [List.length_drop, List.length_take]; rfl)) ?_; (with_reducible refine (spec_DrawSignedOf.calls kj13 _ _ l1 t219 t220 _ ?side1 ?side2 A48.out).mono ?_); (case side1 => repeat (first | exact (Kd.C_below HR1.out HB.out) | (with_reducible refine Kd.C_alloc ?_ _) | (with_reducible refine Kd.C_drewN ?_ _) | (with_reducible refine Kd.C_drew ?_))); (case side2 => exact HC1.out); rintro e w60 ⟨rfl, hb⟩; refine ⟨_, rfl, ?_⟩; have n0_ := Aside0.mk (below_step (by repeat (first | (with_reducible first | exact HB.out | apply below_alloc | apply pw_below_drewN | apply below_drew1) | exact HB.out)) hb); clear HB; have HB := n0_; clear n0_; (try clear hb); (try clear hb2); (try clear hk); (try clear hi)) | ((with_reducible refine gate_callee (f := 9) rfl ?_); refine goesL_ (some 175) rfl rfl Tryd.func9 (by kernel_rfl) rfl #[.int .i64 t219, .int .u64 t220] rfl (by (try simp only [List.map_toArray, List.map_cons, List.map_nil]); first | done | rfl | (simp only [List.length_drop, List.length_take]; rfl)) ?_; (with_reducible refine (impl_SignedOf.calls t219 t220 t221 true _ A49.out).mono ?_); rintro e w' ⟨rfl, ⟨nd, rfl⟩⟩; refine ⟨_, rfl, ?_⟩) | ((with_reducible refine gate_callee (f := 10) rfl ?_); refine goesL_ (some 181) rfl rfl Tryd.func10 (by kernel_rfl) rfl #[.int .i64 t219, .int .u64 t220] rfl (by (try simp only [List.map_toArray, List.map_cons, List.map_nil]); first | done | rfl | (simp only [List.length_drop, List.length_take]; rfl)) ?_; (with_reducible refine (spec_SignedOf.calls t219 t220 t223 t224 _ A50.out).mono ?_); rintro e w' ⟨rfl, ⟨nd, rfl⟩⟩; refine ⟨_, rfl, ?_⟩) | ((with_reducible refine gate_callee (f := 11) rfl ?_); refine goesL_ (some 194) rfl rfl Tryd.func11 (by kernel_rfl) rfl #[.int .i64 t219, .int .i64 t221] rfl (by (try simp only [List.map_toArray, List.map_cons, List.map_nil]); first | done | rfl | (simp only [List.length_drop, List.length_take]; rfl)) ?_; (with_reducible refine (impl_BitsOf.calls t219 t221 t225 true _ A53.out).mono ?_); rintro e w' ⟨rfl, ⟨nd, rfl⟩⟩; refine ⟨_, rfl, ?_⟩) | ((with_reducible refine gate_callee (f := 12) rfl ?_); refine goesL_ (some 201) rfl rfl Tryd.func12 (by kernel_rfl) rfl #[.int .i64 t219, .int .i64 (wrap64 (t220))] rfl (by (try simp only [List.map_toArray, List.map_cons, List.map_nil]); first | done | rfl | (simp only [List.length_drop, List.length_take]; rfl)) ?_; (with_reducible refine (spec_BitsOf.calls t219 (wrap64 (t220)) t227 true _ A54.out).mono ?_); rintro e w' ⟨rfl, ⟨nd, rfl⟩⟩; refine ⟨_, rfl, ?_⟩) | ((with_reducible refine gate_callee (f := 13) rfl ?_); refine goesL_ (some 205) rfl rfl Tryd.func13 (by kernel_rfl) rfl #[.int .u64 t220, .bool true] rfl (by (try simp only [List.map_toArray, List.map_cons, List.map_nil]); first | done | rfl | (simp only [List.length_drop, List.length_take]; rfl)) ?_; (with_reducible refine (impl_Extend32.calls t220 true t229 _ A55.out).mono ?_); rintro e w' ⟨rfl, ⟨nd, rfl⟩⟩; refine ⟨_, rfl, ?_⟩))
               go_ret
               exact ⟨by first | rfl | (simp [errW_none, errW_some] <;> rfl) | (simp [*, errW_none, errW_some] <;> rfl), by repeat (first | (with_reducible first | exact HB.out | apply below_alloc | apply pw_below_drewN | apply below_drew1) | exact HB.out)⟩
              ·
               rw [if_neg c59] at H
               have c59b0 : (t219 == 64) = false := beq_eq_false_iff_ne.mpr c59
               have c59b1 : (t219 != 64) = true := bne_iff_ne.mpr c59
               obtain rfl := Option.some.inj H
               simp only [Option.some.injEq, Prod.mk.injEq] at H
               obtain ⟨rfl⟩ := H
               go_wp2_with (first | ((with_reducible refine gate_callee (f := 8) rfl ?_); refine goesL_ (some 169) rfl rfl Tryd.func8 (by kernel_rfl) rfl #[.slice A1 l1.length c1] rfl (by (try simp only [List.map_toArray, List.map_cons, List.map_nil]); first | done | rfl | (simp only [List.length_drop, List.length_take]; rfl)) ?_; (with_reducible refine (spec_DrawSignedOf.calls kj13 _ _ l1 t219 t220 _ ?side1 ?side2 A48.out).mono ?_); (case side1 => repeat (first | exact (Kd.C_below HR1.out HB.out) | (with_reducible refine Kd.C_alloc ?_ _) | (with_reducible refine Kd.C_drewN ?_ _) | (with_reducible refine Kd.C_drew ?_))); (case side2 => exact HC1.out); rintro e w61 ⟨rfl, hb⟩; refine ⟨_, rfl, ?_⟩; have n0_ := Aside0.mk (below_step (by repeat (first | (with_reducible first | exact HB.out | apply below_alloc | apply pw_below_drewN | apply below_drew1) | exact HB.out)) hb); clear HB; have HB := n0_; clear n0_; (try clear hb); (try clear hb2); (try clear hk); (try clear hi)) | ((with_reducible refine gate_callee (f := 9) rfl ?_); refine goesL_ (some 175) rfl rfl Tryd.func9 (by kernel_rfl) rfl #[.int .i64 t219, .int .u64 t220] rfl (by (try simp only [List.map_toArray, List.map_cons, List.map_nil]); first | done | rfl | (simp only [List.length_drop, List.length_take]; rfl)) ?_; (with_reducible refine (impl_SignedOf.calls t219 t220 t221 true _ A49.out).mono ?_); rintro e w' ⟨rfl, ⟨nd, rfl⟩⟩; refine ⟨_, rfl, ?_⟩) | ((with_reducible refine gate_callee (f := 10) rfl ?_); refine goesL_ (some 181) rfl rfl Tryd.func10 (by kernel_rfl) rfl #[.int .i64 t219, .int .u64 t220] rfl (by (try simp only [List.map_toArray, List.map_cons, List.map_nil]); first | done | rfl | (simp only [List.length_drop, List.length_take]; rfl)) ?_; (with_reducible refine (spec_SignedOf.calls t219 t220 t223 t224 _ A50.out).mono ?_); rintro e w' ⟨rfl, ⟨nd, rfl⟩⟩; refine ⟨_, rfl, ?_⟩) | ((with_reducible refine gate_callee (f := 11) rfl ?_); refine goesL_ (some 194) rfl rfl Tryd.func11 (by kernel_rfl) rfl #[.int .i64 t219, .int .i64 t221] rfl (by (try simp only [List.map_toArray, List.map_cons, List.map_nil]); first | done | rfl | (simp only [List.length_drop, List.length_take]; rfl)) ?_; (with_reducible refine (impl_BitsOf.calls t219 t221 t225 true _ A53.out).mono ?_); rintro e w' ⟨rfl, ⟨nd, rfl⟩⟩; refine ⟨_, rfl, ?_⟩) | ((with_reducible refine gate_callee (f := 12) rfl ?_); refine goesL_ (some 201) rfl rfl Tryd.func12 (by kernel_rfl) rfl #[.int .i64 t219, .int .i64 (wrap64 (t220))] rfl (by (try simp only [List.map_toArray, List.map_cons, List.map_nil]); first | done | rfl | (simp only [List.length_drop, List.length_take]; rfl)) ?_; (with_reducible refine (spec_BitsOf.calls t219 (wrap64 (t220)) t227 true _ A54.out).mono ?_); rintro e w' ⟨rfl, ⟨nd, rfl⟩⟩; refine ⟨_, rfl, ?_⟩) | ((with_reducible refine gate_callee (f := 13) rfl ?_); refine goesL_ (some 205) rfl rfl Tryd.func13 (by kernel_rfl) rfl #[.int .u64 t220, .bool true] rfl (by (try simp only [List.map_toArray, List.map_cons, List.map_nil]); first | done | rfl | (simp only [List.length_drop, List.length_take]; rfl)) ?_; (with_reducible refine (impl_Extend32.calls t220 true t229 _ A55.out).mono ?_); rintro e w' ⟨rfl, ⟨nd, rfl⟩⟩; refine ⟨_, rfl, ?_⟩))
               go_ret
               exact ⟨by first | rfl | (simp [errW_none, errW_some] <;> rfl) | (simp [*, errW_none, errW_some] <;> rfl), by repeat (first | (with_reducible first | exact HB.out | apply below_alloc | apply pw_below_drewN | apply below_drew1) | exact HB.out)⟩
             ·
              rw [if_neg c58] at H
              have c58b0 : (t225 == t227) = false := beq_eq_false_iff_ne.mpr c58
              have c58b1 : (t225 != t227) = true := bne_iff_ne.mpr c58
              obtain rfl := Option.some.inj H
              exact absurd HT.out (by decide)
            ·
             replace c57 := Bool.eq_false_iff.mpr c57
             subst c57
             have H1 : (some false) = some r := by rw [if_neg (show ¬ (false = true) by decide)] at H; exact H
             clear H
             have H := H1
             clear H1
             obtain rfl := Option.some.inj H
             exact absurd HT.out (by decide)
           ·
            replace c56 := Bool.eq_false_iff.mpr c56
            subst c56
            have H1 : (some false) = some r := by rw [if_neg (show ¬ (false = true) by decide)] at H; exact H
            clear H
            have H := H1
            clear H1
            obtain rfl := Option.some.inj H
            exact absurd HT.out (by decide)
          ·
           replace c52 := Bool.eq_false_iff.mpr c52
           subst c52
           have H1 : (some (t221 == 0)) = some r := by rw [if_neg (show ¬ (false = true) by decide)] at H; exact H
           clear H
           have H := H1
           clear H1
           obtain rfl := Option.some.inj H
           simp only [Option.some.injEq, Prod.mk.injEq] at H
           obtain ⟨rfl⟩ := H
           go_wp2_with (first | ((with_reducible refine gate_callee (f := 8) rfl ?_); refine goesL_ (some 169) rfl rfl Tryd.func8 (by kernel_rfl) rfl #[.slice A1 l1.length c1] rfl (by (try simp only [List.map_toArray, List.map_cons, List.map_nil]); first | done | rfl | (simp only [List.length_drop, List.length_take]; rfl)) ?_; (with_reducible refine (spec_DrawSignedOf.calls kj13 _ _ l1 t219 t220 _ ?side1 ?side2 A48.out).mono ?_); (case side1 => repeat (first | exact (Kd.C_below HR1.out HB.out) | (with_reducible refine Kd.C_alloc ?_ _) | (with_reducible refine Kd.C_drewN ?_ _) | (with_reducible refine Kd.C_drew ?_))); (case side2 => exact HC1.out); rintro e w62 ⟨rfl, hb⟩; refine ⟨_, rfl, ?_⟩; have n0_ := Aside0.mk (below_step (by repeat (first | (with_reducible first | exact HB.out | apply below_alloc | apply pw_below_drewN | apply below_drew1) | exact HB.out)) hb); clear HB; have HB := n0_; clear n0_; (try clear hb); (try clear hb2); (try clear hk); (try clear hi)) | ((with_reducible refine gate_callee (f := 9) rfl ?_); refine goesL_ (some 175) rfl rfl Tryd.func9 (by kernel_rfl) rfl #[.int .i64 t219, .int .u64 t220] rfl (by (try simp only [List.map_toArray, List.map_cons, List.map_nil]); first | done | rfl | (simp only [List.length_drop, List.length_take]; rfl)) ?_; (with_reducible refine (impl_SignedOf.calls t219 t220 t221 false _ A49.out).mono ?_); rintro e w' ⟨rfl, ⟨nd, rfl⟩⟩; refine ⟨_, rfl, ?_⟩) | ((with_reducible refine gate_callee (f := 10) rfl ?_); refine goesL_ (some 181) rfl rfl Tryd.func10 (by kernel_rfl) rfl #[.int .i64 t219, .int .u64 t220] rfl (by (try simp only [List.map_toArray, List.map_cons, List.map_nil]); first | done | rfl | (simp only [List.length_drop, List.length_take]; rfl)) ?_; (with_reducible refine (spec_SignedOf.calls t219 t220 t223 t224 _ A50.out).mono ?_); rintro e w' ⟨rfl, ⟨nd, rfl⟩⟩; refine ⟨_, rfl, ?_⟩))
           go_ret
           exact ⟨by first | rfl | (simp [errW_none, errW_some] <;> rfl) | (simp [*, errW_none, errW_some] <;> rfl), by repeat (first | (with_reducible first | exact HB.out | apply below_alloc | apply pw_below_drewN | apply below_drew1) | exact HB.out)⟩

/-- THE ONE PURE STATEMENT of laws_FnCounts: yours. -/
def laws_FnCounts.Pure : Prop := ∀ (l0 : List Int) (l1 : List Int), l0.length ≤ maxLen → l0.length * 1 ≤ 140737488351232 → (∀ x ∈ l0, (Lit.int .u8 x).wf = true) → l1.length ≤ maxLen → l1.length * 1 ≤ 140737488351232 → (∀ x ∈ l1, (Lit.int .u8 x).wf = true) → ∃ k, laws_FnCounts.f k l0 l1 = some true
theorem laws_FnCounts.walk (P : laws_FnCounts.Pure) (a0 : Option Addr) (len0 cap0 : Nat) (z0 : List Int) (a1 : Option Addr) (len1 cap1 : Nat) (z1 : List Int) (w : World) (w0 : (a0 = none ∧ len0 = 0 ∧ cap0 = 0 ∧ z0 = []) ∨ ∃ x, a0 = some x ∧ len0 ≤ cap0 ∧ cap0 ≤ maxLen ∧ z0.length = cap0 ∧ (∀ i, i < z0.length → w.cell? (x.add i) = some (.int .u8 (z0.getD i 0))) ∧ ∀ n ∈ z0, (Lit.int .u8 n).wf = true) (y0 : len0 * 1 ≤ 140737488351232) (w1 : (a1 = none ∧ len1 = 0 ∧ cap1 = 0 ∧ z1 = []) ∨ ∃ x, a1 = some x ∧ len1 ≤ cap1 ∧ cap1 ≤ maxLen ∧ z1.length = cap1 ∧ (∀ i, i < z1.length → w.cell? (x.add i) = some (.int .u8 (z1.getD i 0))) ∧ ∀ n ∈ z1, (Lit.int .u8 n).wf = true) (y1 : len1 * 1 ≤ 140737488351232) (HTab : Aside0 (TabAt w)) :
  Calls Tryd.prog 3 #[.slice a0 len0 cap0, .slice a1 len1 cap1] w fun e w' => e = .returned (.bool true) ∧ Below w.heap.size w w' := by
 obtain ⟨l0, rfl, hr0, hm0, hw0, hc0⟩ := ReadsInt.ofRowC w0
 obtain ⟨l1, rfl, hr1, hm1, hw1, hc1⟩ := ReadsInt.ofRowC w1
 obtain ⟨k, h⟩ := P l0 l1 hm0 y0 hw0 hm1 y1 hw1
 refine (laws_FnCounts.calls k _ _ l0 _ _ l1 true w (Kd.C_of_reads (d := (0 : Int)) (h1 := fun _ => rfl) hr0) hc0 (Kd.C_of_reads (d := (0 : Int)) (h1 := fun _ => rfl) hr1) hc1 rfl h HTab).mono ?_
 rintro e w' ⟨rfl, hd⟩
 exact ⟨rfl, hd⟩

end Go.Proofs.YtilokpipciilcaaDoor.Q

