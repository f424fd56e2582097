-- Written by a program of this session; it walks the functions that the law reaches.
import Derived.Test.YtlgegdgilkaldaaQx0
import Derived.Test.YtlgegdgilkaldaaQx2
import Derived.Test.YtlgegdgilkaldaaQx7
import Derived.Test.YtlgegdgilkaldaaQx4
namespace Go.Proofs.Ytlgegdgilkaldaa.Q
open Go.RowKit Go.Proofs.YtlgegdgilkaldaaW.PrintWords Go.Proofs.YtlgegdgilkaldaaW.PrintLast Go.Proofs.YtlgegdgilkaldaaW.PrintMore
attribute [local go_sem] max2_int min2_int max_two min_two max_three min_three max_four min_four   -- for this text's walks alone
set_option linter.unusedVariables false
set_option linter.unusedSimpArgs false

/-! ### spec_FlatOf: function 28 -/
def spec_FlatOf.f (k : Nat) (l0 : List (S46)) : Option (List Int × Bool) := (spec_GoodType.f k l0).bind fun t365 => (if t365 = true then ((spec_l11Tree.f k l0 0).bind fun bt366 => ((spec_l11Core.f bt366.1 bt366.2.1 bt366.2.2).bind fun t371 => (if (t371.length : Int) > 40 then (some (([] : List Int), false)) else (some (t371, true))))) else (some (([] : List Int), false)))
theorem spec_FlatOf.mono : ∀ a0 k, LeO (spec_FlatOf.f k a0) (spec_FlatOf.f (k + 1) a0) := by
 intro a0 k
 unfold spec_FlatOf.f
 repeat' first
   | (with_reducible exact spec_GoodType.mono _ _)
   | (with_reducible exact spec_l11Tree.mono _ _ _)
   | (with_reducible exact LeO.refl _)
   | (with_reducible exact LeO.none _)
   | (with_reducible refine LeO.ite ?_ ?_)
   | (with_reducible refine LeO.bind ?_ (fun _ => ?_))
   | exact spec_GoodType.mono _ _
   | exact spec_l11Tree.mono _ _ _
   | exact LeO.none _
   | refine LeO.ite ?_ ?_
   | refine LeO.bind ?_ (fun _ => ?_)
set_option maxHeartbeats 8000000 in
set_option maxRecDepth 100000 in
theorem spec_FlatOf.calls (k : Nat) (A0 : Option Addr) (c0 : Nat) (l0 : List (S46)) (r1 : List Int) (r2 : Bool) (w : World) (hr0 : Kd.C k46 w A0 l0.length l0) (hc0 : l0.length ≤ c0) (h : spec_FlatOf.f k l0 = some (r1, r2)) :
  Calls Try.prog 28 #[.slice A0 l0.length c0] w fun e w' => ∃ v0_ : Value, e = .returned (.tuple #[v0_, .bool r2]) ∧ Kd.R (Kd.int .i64) 3 w' w.heap.size (fun _ => True) v0_ r1 ∧ Below w.heap.size w w' := by
 have HR0 := Aside0.mk hr0
 have HC0 := Aside0.mk hc0
 clear hr0 hc0
 have HB := Aside0.mk (Below.refl w.heap.size w)
 have H : ((spec_GoodType.f k l0).bind fun t365 => (if t365 = true then ((spec_l11Tree.f k l0 0).bind fun bt366 => ((spec_l11Core.f bt366.1 bt366.2.1 bt366.2.2).bind fun t371 => (if (t371.length : Int) > 40 then (some (([] : List Int), false)) else (some (t371, true))))) else (some (([] : List Int), false)))) = some (r1, r2) := h
 clear h
 replace H := Option.bind_eq_some_iff.mp H
 obtain ⟨t365, A20, H⟩ := H
 replace H : (if t365 = true then ((spec_l11Tree.f k l0 0).bind fun bt366 => ((spec_l11Core.f bt366.1 bt366.2.1 bt366.2.2).bind fun t371 => (if (t371.length : Int) > 40 then (some (([] : List Int), false)) else (some (t371, true))))) else (some (([] : List Int), false))) = some (r1, r2) := H
 have A2 := Aside0.mk A20
 clear A20
 by_cases c3 : t365 = true
 ·
  subst c3
  have H1 : ((spec_l11Tree.f k l0 0).bind fun bt366 => ((spec_l11Core.f bt366.1 bt366.2.1 bt366.2.2).bind fun t371 => (if (t371.length : Int) > 40 then (some (([] : List Int), false)) else (some (t371, true))))) = some (r1, r2) := by rw [if_pos rfl] at H; exact H
  clear H
  have H := H1
  clear H1
  replace H := Option.bind_eq_some_iff.mp H
  obtain ⟨⟨t366, t367, t368⟩, A40, H⟩ := H
  replace H : ((spec_l11Core.f t366 t367 t368).bind fun t371 => (if (t371.length : Int) > 40 then (some (([] : List Int), false)) else (some (t371, true)))) = some (r1, r2) := H
  have A4 := Aside0.mk A40
  clear A40
  replace H := Option.bind_eq_some_iff.mp H
  obtain ⟨t371, A50, H⟩ := H
  replace H : (if (t371.length : Int) > 40 then (some (([] : List Int), false)) else (some (t371, true))) = some (r1, r2) := H
  have A5 := Aside0.mk A50
  clear A50
  by_cases c6 : (t371.length : Int) > 40
  ·
   rw [if_pos c6] at H
   have c6b0 : decide (40 < (t371.length : Int)) = true := decide_eq_true c6
   have c6b1 : decide (40 < t371.length) = true := decide_eq_true (by omega)
   clear c6
   simp only [Option.some.injEq, Prod.mk.injEq] at H
   obtain ⟨rfl, rfl⟩ := H
   go_enter Try.func28, Try.ntmps28
   go_wp2_with (first | ((with_reducible refine gate_callee (f := 37) rfl ?_); refine goesL_ (some 6) rfl rfl Try.func37 (by kernel_rfl) rfl #[.slice A0 l0.length c0] rfl ar ?_; (with_reducible refine (spec_GoodType.calls k _ _ l0 true _ ?side1 ?side2 A2.out).mono ?_); (case side1 => repeat (first | exact HR0.out | (with_reducible refine Kd.C_alloc ?_ _) | (with_reducible refine Kd.C_drewN ?_ _) | (with_reducible refine Kd.C_drew ?_))); (case side2 => exact HC0.out); rintro e w7 ⟨rfl, hb⟩; refine ⟨_, rfl, ?_⟩; have n0_ := Aside0.mk (below_step (bw HB.out) hb); clear HB; have HB := n0_; clear n0_; (try clear hb)) | ((with_reducible refine gate_callee (f := 39) rfl ?_); refine goesL_ (some 9) rfl rfl Try.func39 (by kernel_rfl) rfl #[.slice A0 l0.length c0, .int .i64 0] rfl ar ?_; (with_reducible refine (spec_l11Tree.calls k _ _ l0 0 t366 t367 t368 _ ?side1 ?side2 A4.out).mono ?_); (case side1 => repeat (first | exact (Kd.C_below HR0.out HB.out) | (with_reducible refine Kd.C_alloc ?_ _) | (with_reducible refine Kd.C_drewN ?_ _) | (with_reducible refine Kd.C_drew ?_))); (case side2 => exact HC0.out); rintro e w8 ⟨v369, rfl, ho0, hb⟩; refine ⟨_, rfl, ?_⟩; have n0_ := Aside0.mk (Kd.R_lower ho0 (below_size (bw HB.out))); have n1_ := Aside0.mk (below_step (bw HB.out) hb); clear HB; have HO370 := n0_; have HB := n1_; clear n0_ n1_; (try clear hb); (try clear hb2); (try clear hk); (try clear hi); (try clear ho0); obtain ⟨Ao9, co9, eo9⟩ := Kd.R_slice HO370.out; subst eo9) | ((with_reducible refine gate_callee (f := 54) rfl ?_); refine goesL_ (some 10) rfl rfl Try.func54 (by kernel_rfl) rfl #[.agg #[.int .i64 t366, .int .i64 t367, .slice Ao9 t368.length co9]] rfl ar ?_; (with_reducible refine (spec_l11Core.calls t366 t367 _ _ t368 t371 _ ?side1 ?side2 A5.out).mono ?_); (case side1 => repeat (first | exact (Kd.R_reads' HO370.out).2.2 | (with_reducible refine Kd.C_alloc ?_ _) | (with_reducible refine Kd.C_drewN ?_ _) | (with_reducible refine Kd.C_drew ?_))); (case side2 => exact (Kd.R_reads' HO370.out).2.1); rintro e w10 ⟨v372, rfl, ho0, hb⟩; refine ⟨_, rfl, ?_⟩; have n0_ := Aside0.mk (Kd.R_below (by (with_reducible repeat (first | apply Kd.R_alloc | apply Kd.R_drewN | apply Kd.R_drew)); exact HO370.out) hb); have n1_ := Aside0.mk (Kd.R_lower ho0 (below_size (bw HB.out))); have n2_ := Aside0.mk (below_step (bw HB.out) hb); clear HO370; clear HB; have HO370 := n0_; have HO373 := n1_; have HB := n2_; clear n0_ n1_ n2_; (try clear hb); (try clear hb2); (try clear hk); (try clear hi); (try clear ho0); obtain ⟨Ao11, co11, eo11⟩ := Kd.R_slice HO373.out; subst eo11))
   go_ret2
   exact ⟨_, by first | rfl | (simp [errW_none, errW_some] <;> rfl) | (simp [*, errW_none, errW_some] <;> rfl), by first | exact Kd.R_nil _ _ _ _ _ | exact Kd.N_nil _ _ _ _ _ | exact Kd.V_nil _ _ _ _ _ | exact Kd.Q_nil _ _ _ _ _ | exact Kd.S_nil _ _ _ _ _, bw HB.out⟩
  ·
   rw [if_neg c6] at H
   have c6b0 : decide (40 < (t371.length : Int)) = false := decide_eq_false c6
   have c6b1 : decide (40 < t371.length) = false := decide_eq_false (by omega)
   clear c6
   simp only [Option.some.injEq, Prod.mk.injEq] at H
   obtain ⟨rfl, rfl⟩ := H
   go_enter Try.func28, Try.ntmps28
   go_wp2_with (first | ((with_reducible refine gate_callee (f := 37) rfl ?_); refine goesL_ (some 6) rfl rfl Try.func37 (by kernel_rfl) rfl #[.slice A0 l0.length c0] rfl ar ?_; (with_reducible refine (spec_GoodType.calls k _ _ l0 true _ ?side1 ?side2 A2.out).mono ?_); (case side1 => repeat (first | exact HR0.out | (with_reducible refine Kd.C_alloc ?_ _) | (with_reducible refine Kd.C_drewN ?_ _) | (with_reducible refine Kd.C_drew ?_))); (case side2 => exact HC0.out); rintro e w12 ⟨rfl, hb⟩; refine ⟨_, rfl, ?_⟩; have n0_ := Aside0.mk (below_step (bw HB.out) hb); clear HB; have HB := n0_; clear n0_; (try clear hb)) | ((with_reducible refine gate_callee (f := 39) rfl ?_); refine goesL_ (some 9) rfl rfl Try.func39 (by kernel_rfl) rfl #[.slice A0 l0.length c0, .int .i64 0] rfl ar ?_; (with_reducible refine (spec_l11Tree.calls k _ _ l0 0 t366 t367 t368 _ ?side1 ?side2 A4.out).mono ?_); (case side1 => repeat (first | exact (Kd.C_below HR0.out HB.out) | (with_reducible refine Kd.C_alloc ?_ _) | (with_reducible refine Kd.C_drewN ?_ _) | (with_reducible refine Kd.C_drew ?_))); (case side2 => exact HC0.out); rintro e w13 ⟨v369, rfl, ho0, hb⟩; refine ⟨_, rfl, ?_⟩; have n0_ := Aside0.mk (Kd.R_lower ho0 (below_size (bw HB.out))); have n1_ := Aside0.mk (below_step (bw HB.out) hb); clear HB; have HO370 := n0_; have HB := n1_; clear n0_ n1_; (try clear hb); (try clear hb2); (try clear hk); (try clear hi); (try clear ho0); obtain ⟨Ao14, co14, eo14⟩ := Kd.R_slice HO370.out; subst eo14) | ((with_reducible refine gate_callee (f := 54) rfl ?_); refine goesL_ (some 10) rfl rfl Try.func54 (by kernel_rfl) rfl #[.agg #[.int .i64 t366, .int .i64 t367, .slice Ao14 t368.length co14]] rfl ar ?_; (with_reducible refine (spec_l11Core.calls t366 t367 _ _ t368 t371 _ ?side1 ?side2 A5.out).mono ?_); (case side1 => repeat (first | exact (Kd.R_reads' HO370.out).2.2 | (with_reducible refine Kd.C_alloc ?_ _) | (with_reducible refine Kd.C_drewN ?_ _) | (with_reducible refine Kd.C_drew ?_))); (case side2 => exact (Kd.R_reads' HO370.out).2.1); rintro e w15 ⟨v372, rfl, ho0, hb⟩; refine ⟨_, rfl, ?_⟩; have n0_ := Aside0.mk (Kd.R_below (by (with_reducible repeat (first | apply Kd.R_alloc | apply Kd.R_drewN | apply Kd.R_drew)); exact HO370.out) hb); have n1_ := Aside0.mk (Kd.R_lower ho0 (below_size (bw HB.out))); have n2_ := Aside0.mk (below_step (bw HB.out) hb); clear HO370; clear HB; have HO370 := n0_; have HO373 := n1_; have HB := n2_; clear n0_ n1_ n2_; (try clear hb); (try clear hb2); (try clear hk); (try clear hi); (try clear ho0); obtain ⟨Ao16, co16, eo16⟩ := Kd.R_slice HO373.out; subst eo16))
   go_ret2
   exact ⟨_, by first | rfl | (simp [errW_none, errW_some] <;> rfl) | (simp [*, errW_none, errW_some] <;> rfl), by (with_reducible repeat (first | apply Kd.R_alloc | apply Kd.R_drewN | apply Kd.R_drew)); exact HO373.out, bw HB.out⟩
 ·
  replace c3 := Bool.eq_false_iff.mpr c3
  subst c3
  have H1 : (some (([] : List Int), false)) = some (r1, r2) := by rw [if_neg (show ¬ (false = true) by decide)] at H; exact H
  clear H
  have H := H1
  clear H1
  simp only [Option.some.injEq, Prod.mk.injEq] at H
  obtain ⟨rfl, rfl⟩ := H
  go_enter Try.func28, Try.ntmps28
  go_wp2_with (first | ((with_reducible refine gate_callee (f := 37) rfl ?_); refine goesL_ (some 6) rfl rfl Try.func37 (by kernel_rfl) rfl #[.slice A0 l0.length c0] rfl ar ?_; (with_reducible refine (spec_GoodType.calls k _ _ l0 false _ ?side1 ?side2 A2.out).mono ?_); (case side1 => repeat (first | exact HR0.out | (with_reducible refine Kd.C_alloc ?_ _) | (with_reducible refine Kd.C_drewN ?_ _) | (with_reducible refine Kd.C_drew ?_))); (case side2 => exact HC0.out); rintro e w17 ⟨rfl, hb⟩; refine ⟨_, rfl, ?_⟩; have n0_ := Aside0.mk (below_step (bw HB.out) hb); clear HB; have HB := n0_; clear n0_; (try clear hb)))
  go_ret2
  exact ⟨_, by first | rfl | (simp [errW_none, errW_some] <;> rfl) | (simp [*, errW_none, errW_some] <;> rfl), by first | exact Kd.R_nil _ _ _ _ _ | exact Kd.N_nil _ _ _ _ _ | exact Kd.V_nil _ _ _ _ _ | exact Kd.Q_nil _ _ _ _ _ | exact Kd.S_nil _ _ _ _ _, bw HB.out⟩

end Go.Proofs.Ytlgegdgilkaldaa.Q

namespace Go.Proofs.Ytlgegdgilkaldaa.Q
open Go.RowKit Go.Proofs.YtlgegdgilkaldaaW.PrintWords Go.Proofs.YtlgegdgilkaldaaW.PrintLast Go.Proofs.YtlgegdgilkaldaaW.PrintMore
attribute [local go_sem] max2_int min2_int max_two min_two max_three min_three max_four min_four   -- for this text's walks alone
set_option linter.unusedVariables false
set_option linter.unusedSimpArgs false


/-! ### impl_FlatOf: function 29 (walked by hand) -/
def impl_FlatOf.f (k : Nat) (l0 : List S46) : Option (List Int × Bool) := (shapeF k l0).bind fun r => match r with | none => some ([], false) | some t => if 40 < (flatT 9 t).length then some ([], false) else some (flatT 9 t, true)
theorem impl_FlatOf.mono : ∀ a0 k, LeO (impl_FlatOf.f k a0) (impl_FlatOf.f (k + 1) a0) := fun l k => LeO.bind (shapeF.mono l k) (fun _ => LeO.refl _)
set_option maxHeartbeats 4000000 in
set_option maxRecDepth 100000 in
theorem impl_FlatOf.calls (k : Nat) (A0 : Option Addr) (c0 : Nat) (l0 : List (S46)) (r1 : List Int) (r2 : Bool) (w : World) (hr0 : Kd.C k46 w A0 l0.length l0) (hc0 : l0.length ≤ c0) (h : impl_FlatOf.f k l0 = some (r1, r2)) :
  Calls Try.prog 29 #[.slice A0 l0.length c0] w fun e w' => ∃ v0_ : Value, e = .returned (.tuple #[v0_, .bool r2]) ∧ Kd.R (Kd.int .i64) 3 w' w.heap.size (fun _ => True) v0_ r1 ∧ Below w.heap.size w w' := by
 obtain ⟨r, hs, h⟩ := Option.bind_eq_some_iff.1 h
 cases r with
 | none =>
  obtain ⟨rfl, rfl⟩ := Prod.mk.inj (Option.some.inj h)
  clear h
  go_enter Try.func29, Try.ntmps29
  go_wp2_with (first | (go_at_call 41; refine (shape_no k A0 c0 l0 _ hr0 hc0 hs).mono ?_; rintro e w' ⟨rfl, hb⟩; have HB := Aside0.mk hb; clear hb))
  go_ret2
  exact ⟨_, rfl, Kd.R_nil _ _ _ _ _, HB.out⟩
 | some t =>
  by_cases hm : 40 < (flatT 9 t).length
  ·
   have h' : some (([] : List Int), false) = some (r1, r2) := by rw [← h]; exact (if_pos hm).symm
   obtain ⟨rfl, rfl⟩ := Prod.mk.inj (Option.some.inj h')
   clear h h'
   have hmb : decide (((flatT 9 t).length : Int) > 40) = true := decide_eq_true (by omega)
   have hmc : decide (40 < (flatT 9 t).length) = true := decide_eq_true hm
   have hmd : decide ((40 : Int) < ((flatT 9 t).length : Int)) = true := decide_eq_true (by omega)
   go_enter Try.func29, Try.ntmps29
   go_wp2_with (first | (go_at_call 41; refine (shape_yes k A0 c0 l0 t _ hr0 hc0 hs).mono ?_; rintro e w' ⟨g, rfl, ht, hb⟩; have HT := Aside0.mk ht; have HB := Aside0.mk hb; clear ht hb) | (go_at_call 45; refine (flat_any 9 (by decide) t g 0 _ HT.out).mono ?_; rintro e w' ⟨v0, rfl, ho, hb⟩; have n0_ := Aside0.mk (HB.out.trans (hb.mono HB.out.size)); have n1_ := Aside0.mk (Kd.R_lower ho HB.out.size); clear HB HT hb ho; have HB := n0_; have HO := n1_; clear n0_ n1_; obtain ⟨Ao, co, eo⟩ := Kd.R_slice HO.out; subst eo))
   go_ret2
   exact ⟨_, rfl, Kd.R_nil _ _ _ _ _, HB.out⟩
  ·
   have h' : some (flatT 9 t, true) = some (r1, r2) := by rw [← h]; exact (if_neg hm).symm
   obtain ⟨rfl, rfl⟩ := Prod.mk.inj (Option.some.inj h')
   clear h h'
   have hmb : decide (((flatT 9 t).length : Int) > 40) = false := decide_eq_false (by omega)
   have hmc : decide (40 < (flatT 9 t).length) = false := decide_eq_false hm
   have hmd : decide ((40 : Int) < ((flatT 9 t).length : Int)) = false := decide_eq_false (by omega)
   go_enter Try.func29, Try.ntmps29
   go_wp2_with (first | (go_at_call 41; refine (shape_yes k A0 c0 l0 t _ hr0 hc0 hs).mono ?_; rintro e w' ⟨g, rfl, ht, hb⟩; have HT := Aside0.mk ht; have HB := Aside0.mk hb; clear ht hb) | (go_at_call 45; refine (flat_any 9 (by decide) t g 0 _ HT.out).mono ?_; rintro e w' ⟨v0, rfl, ho, hb⟩; have n0_ := Aside0.mk (HB.out.trans (hb.mono HB.out.size)); have n1_ := Aside0.mk (Kd.R_lower ho HB.out.size); clear HB HT hb ho; have HB := n0_; have HO := n1_; clear n0_ n1_; obtain ⟨Ao, co, eo⟩ := Kd.R_slice HO.out; subst eo))
   go_ret2
   exact ⟨_, rfl, HO.out, HB.out⟩



end Go.Proofs.Ytlgegdgilkaldaa.Q

