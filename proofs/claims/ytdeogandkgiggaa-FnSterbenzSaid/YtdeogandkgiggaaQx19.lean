-- Written by a program of this session; it walks the functions that the law reaches.
import Derived.Test.YtdeogandkgiggaaQx0
import Derived.Test.YtdeogandkgiggaaQx13
import Derived.Test.YtdeogandkgiggaaQx14
import Derived.Test.YtdeogandkgiggaaQx16
import Derived.Test.YtdeogandkgiggaaQx17
namespace Go.Proofs.Ytdeogandkgiggaa.Q
open Go.RowKit Go.Proofs.YtdeogandkgiggaaW.PrintWords Go.Proofs.YtdeogandkgiggaaW.PrintLast Go.Proofs.YtdeogandkgiggaaW.PrintMore
attribute [local go_sem] max2_int min2_int max_two min_two max_three min_three max_four min_four   -- for this text's walks alone
set_option linter.unusedVariables false
set_option linter.unusedSimpArgs false

/-! ### laws_FnSterbenz: function 14 -/
def laws_FnSterbenz.f (k : Nat) (l0 : List Int) : Option (Bool) := if (l0.length : Int) > 1048576 then (some true) else ((spec_DrawFSub.f k l0).bind fun bt421 => ((impl_FSub.f k bt421.1 bt421.2.1 bt421.2.2).bind fun t424 => ((spec_FSub.f k bt421.1 bt421.2.1 bt421.2.2).bind fun t425 => (if t424 = t425 then ((laws_exact.f bt421.2.1).bind fun bt426 => ((laws_exact.f bt421.2.2).bind fun bt428 => (if bt421.1 = 16 then (if bt426.2 = true then (if bt428.2 = true then (if bt426.1 ≤ 0 then (some true) else (if bt428.1 ≤ 0 then (some true) else (if bt426.1 > (wrap64 (2 * bt428.1)) then (some true) else (if bt428.1 > (wrap64 (2 * bt426.1)) then (some true) else ((laws_exact.f t424).bind fun bt430 => (if bt430.2 = true then (some (bt430.1 == (wrap64 (bt426.1 - bt428.1)))) else (some false))))))) else (some true)) else (some true)) else (some true)))) else (some false)))))
theorem laws_FnSterbenz.mono : ∀ a0 k, LeO (laws_FnSterbenz.f k a0) (laws_FnSterbenz.f (k + 1) a0) := by
 intro a0 k
 unfold laws_FnSterbenz.f
 repeat' first
   | (with_reducible exact impl_FSub.mono _ _ _ _)
   | (with_reducible exact spec_DrawFSub.mono _ _)
   | (with_reducible exact spec_FSub.mono _ _ _ _)
   | (with_reducible exact LeO.refl _)
   | (with_reducible exact LeO.none _)
   | (with_reducible refine LeO.ite ?_ ?_)
   | (with_reducible refine LeO.bind ?_ (fun _ => ?_))
   | exact impl_FSub.mono _ _ _ _
   | exact spec_DrawFSub.mono _ _
   | exact spec_FSub.mono _ _ _ _
   | exact LeO.none _
   | refine LeO.ite ?_ ?_
   | refine LeO.bind ?_ (fun _ => ?_)
set_option maxHeartbeats 8000000 in
set_option maxRecDepth 100000 in
theorem laws_FnSterbenz.calls (k : Nat) (A0 : Option Addr) (c0 : Nat) (l0 : List Int) (r : Bool) (w : World) (hr0 : Kd.C (Kd.int .u8) w A0 l0.length l0) (hc0 : l0.length ≤ c0) (hTrue : r = true) (h : laws_FnSterbenz.f k l0 = some r) :
  Calls Try.prog 14 #[.slice A0 l0.length c0] w fun e w' => e = .returned (.bool r) ∧ Below w.heap.size w w' := by
 have HR0 := Aside0.mk hr0
 have HC0 := Aside0.mk hc0
 clear hr0 hc0
 have HB := Aside0.mk (Below.refl w.heap.size w)
 have H : (if (l0.length : Int) > 1048576 then (some true) else ((spec_DrawFSub.f k l0).bind fun bt421 => ((impl_FSub.f k bt421.1 bt421.2.1 bt421.2.2).bind fun t424 => ((spec_FSub.f k bt421.1 bt421.2.1 bt421.2.2).bind fun t425 => (if t424 = t425 then ((laws_exact.f bt421.2.1).bind fun bt426 => ((laws_exact.f bt421.2.2).bind fun bt428 => (if bt421.1 = 16 then (if bt426.2 = true then (if bt428.2 = true then (if bt426.1 ≤ 0 then (some true) else (if bt428.1 ≤ 0 then (some true) else (if bt426.1 > (wrap64 (2 * bt428.1)) then (some true) else (if bt428.1 > (wrap64 (2 * bt426.1)) then (some true) else ((laws_exact.f t424).bind fun bt430 => (if bt430.2 = true then (some (bt430.1 == (wrap64 (bt426.1 - bt428.1)))) else (some false))))))) else (some true)) else (some true)) else (some true)))) else (some false)))))) = some r := h
 clear h
 have HT := Aside0.mk hTrue
 clear hTrue
 by_cases c2 : (l0.length : Int) > 1048576
 ·
  rw [if_pos c2] at H
  have c2b0 : decide (1048576 < (l0.length : Int)) = true := decide_eq_true c2
  have c2b1 : decide (1048576 < l0.length) = true := decide_eq_true (by omega)
  clear c2
  obtain rfl := Option.some.inj H
  simp only [Option.some.injEq, Prod.mk.injEq] at H
  obtain ⟨rfl⟩ := H
  go_enter Try.func14, Try.ntmps14
  go_wp2
  go_ret
  exact ⟨by first | rfl | (simp [errW_none, errW_some] <;> rfl) | (simp [*, errW_none, errW_some] <;> rfl), bw HB.out⟩
 ·
  rw [if_neg c2] at H
  have c2b0 : decide (1048576 < (l0.length : Int)) = false := decide_eq_false c2
  have c2b1 : decide (1048576 < l0.length) = false := decide_eq_false (by omega)
  clear c2
  replace H := Option.bind_eq_some_iff.mp H
  obtain ⟨⟨t421, t422, t423⟩, A30, H⟩ := H
  replace H : ((impl_FSub.f k t421 t422 t423).bind fun t424 => ((spec_FSub.f k t421 t422 t423).bind fun t425 => (if t424 = t425 then ((laws_exact.f t422).bind fun bt426 => ((laws_exact.f t423).bind fun bt428 => (if t421 = 16 then (if bt426.2 = true then (if bt428.2 = true then (if bt426.1 ≤ 0 then (some true) else (if bt428.1 ≤ 0 then (some true) else (if bt426.1 > (wrap64 (2 * bt428.1)) then (some true) else (if bt428.1 > (wrap64 (2 * bt426.1)) then (some true) else ((laws_exact.f t424).bind fun bt430 => (if bt430.2 = true then (some (bt430.1 == (wrap64 (bt426.1 - bt428.1)))) else (some false))))))) else (some true)) else (some true)) else (some true)))) else (some false)))) = some r := H
  have A3 := Aside0.mk A30
  clear A30
  replace H := Option.bind_eq_some_iff.mp H
  obtain ⟨t424, A40, H⟩ := H
  replace H : ((spec_FSub.f k t421 t422 t423).bind fun t425 => (if t424 = t425 then ((laws_exact.f t422).bind fun bt426 => ((laws_exact.f t423).bind fun bt428 => (if t421 = 16 then (if bt426.2 = true then (if bt428.2 = true then (if bt426.1 ≤ 0 then (some true) else (if bt428.1 ≤ 0 then (some true) else (if bt426.1 > (wrap64 (2 * bt428.1)) then (some true) else (if bt428.1 > (wrap64 (2 * bt426.1)) then (some true) else ((laws_exact.f t424).bind fun bt430 => (if bt430.2 = true then (some (bt430.1 == (wrap64 (bt426.1 - bt428.1)))) else (some false))))))) else (some true)) else (some true)) else (some true)))) else (some false))) = some r := H
  have A4 := Aside0.mk A40
  clear A40
  replace H := Option.bind_eq_some_iff.mp H
  obtain ⟨t425, A50, H⟩ := H
  replace H : (if t424 = t425 then ((laws_exact.f t422).bind fun bt426 => ((laws_exact.f t423).bind fun bt428 => (if t421 = 16 then (if bt426.2 = true then (if bt428.2 = true then (if bt426.1 ≤ 0 then (some true) else (if bt428.1 ≤ 0 then (some true) else (if bt426.1 > (wrap64 (2 * bt428.1)) then (some true) else (if bt428.1 > (wrap64 (2 * bt426.1)) then (some true) else ((laws_exact.f t424).bind fun bt430 => (if bt430.2 = true then (some (bt430.1 == (wrap64 (bt426.1 - bt428.1)))) else (some false))))))) else (some true)) else (some true)) else (some true)))) else (some false)) = some r := H
  have A5 := Aside0.mk A50
  clear A50
  by_cases c6 : t424 = t425
  ·
   rw [if_pos c6] at H
   have c6b0 : (t424 == t425) = true := beq_iff_eq.mpr c6
   have c6b1 : (t424 != t425) = false := bne_eq_false_iff_eq.mpr c6
   clear c6
   replace H := Option.bind_eq_some_iff.mp H
   obtain ⟨⟨t426, t427⟩, A70, H⟩ := H
   replace H : ((laws_exact.f t423).bind fun bt428 => (if t421 = 16 then (if t427 = true then (if bt428.2 = true then (if t426 ≤ 0 then (some true) else (if bt428.1 ≤ 0 then (some true) else (if t426 > (wrap64 (2 * bt428.1)) then (some true) else (if bt428.1 > (wrap64 (2 * t426)) then (some true) else ((laws_exact.f t424).bind fun bt430 => (if bt430.2 = true then (some (bt430.1 == (wrap64 (t426 - bt428.1)))) else (some false))))))) else (some true)) else (some true)) else (some true))) = some r := H
   have A7 := Aside0.mk A70
   clear A70
   replace H := Option.bind_eq_some_iff.mp H
   obtain ⟨⟨t428, t429⟩, A80, H⟩ := H
   replace H : (if t421 = 16 then (if t427 = true then (if t429 = true then (if t426 ≤ 0 then (some true) else (if t428 ≤ 0 then (some true) else (if t426 > (wrap64 (2 * t428)) then (some true) else (if t428 > (wrap64 (2 * t426)) then (some true) else ((laws_exact.f t424).bind fun bt430 => (if bt430.2 = true then (some (bt430.1 == (wrap64 (t426 - t428)))) else (some false))))))) else (some true)) else (some true)) else (some true)) = some r := H
   have A8 := Aside0.mk A80
   clear A80
   by_cases c9 : t421 = 16
   ·
    rw [if_pos c9] at H
    have c9b0 : (t421 == 16) = true := beq_iff_eq.mpr c9
    have c9b1 : (t421 != 16) = false := bne_eq_false_iff_eq.mpr c9
    clear c9
    by_cases c10 : t427 = true
    ·
     subst c10
     have H1 : (if t429 = true then (if t426 ≤ 0 then (some true) else (if t428 ≤ 0 then (some true) else (if t426 > (wrap64 (2 * t428)) then (some true) else (if t428 > (wrap64 (2 * t426)) then (some true) else ((laws_exact.f t424).bind fun bt430 => (if bt430.2 = true then (some (bt430.1 == (wrap64 (t426 - t428)))) else (some false))))))) else (some true)) = some r := by rw [if_pos rfl] at H; exact H
     clear H
     have H := H1
     clear H1
     by_cases c11 : t429 = true
     ·
      subst c11
      have H1 : (if t426 ≤ 0 then (some true) else (if t428 ≤ 0 then (some true) else (if t426 > (wrap64 (2 * t428)) then (some true) else (if t428 > (wrap64 (2 * t426)) then (some true) else ((laws_exact.f t424).bind fun bt430 => (if bt430.2 = true then (some (bt430.1 == (wrap64 (t426 - t428)))) else (some false))))))) = some r := by rw [if_pos rfl] at H; exact H
      clear H
      have H := H1
      clear H1
      by_cases c12 : t426 ≤ 0
      ·
       rw [if_pos c12] at H
       have c12b0 : decide (t426 ≤ 0) = true := decide_eq_true c12
       clear c12
       obtain rfl := Option.some.inj H
       simp only [Option.some.injEq, Prod.mk.injEq] at H
       obtain ⟨rfl⟩ := H
       go_enter Try.func14, Try.ntmps14
       go_wp2_with (first | ((with_reducible refine gate_callee (f := 40) rfl ?_); refine goesL_ (some 18) rfl rfl Try.func40 (by kernel_rfl) rfl #[.slice A0 l0.length c0] rfl ar ?_; (with_reducible refine (spec_DrawFSub.calls k _ _ l0 t421 t422 t423 _ ?side1 ?side2 A3.out).mono ?_); (case side1 => repeat (first | exact HR0.out | (with_reducible refine Kd.C_alloc ?_ _) | (with_reducible refine Kd.C_drewN ?_ _) | (with_reducible refine Kd.C_drew ?_))); (case side2 => exact HC0.out); rintro e w13 ⟨rfl, hb⟩; refine ⟨_, rfl, ?_⟩; have n0_ := Aside0.mk (below_step (bw HB.out) hb); clear HB; have HB := n0_; clear n0_; (try clear hb)) | ((with_reducible refine gate_callee (f := 31) rfl ?_); refine goesL_ (some 25) rfl rfl Try.func31 (by kernel_rfl) rfl #[.int .i64 t421, .int .u32 t422, .int .u32 t423] rfl ar ?_; (with_reducible refine (impl_FSub.calls k t421 t422 t423 t424 _ A4.out).mono ?_); rintro e w14 ⟨rfl, hb⟩; refine ⟨_, rfl, ?_⟩; have n0_ := Aside0.mk (below_step (bw HB.out) hb); clear HB; have HB := n0_; clear n0_; (try clear hb)) | ((with_reducible refine gate_callee (f := 30) rfl ?_); refine goesL_ (some 30) rfl rfl Try.func30 (by kernel_rfl) rfl #[.int .i64 t421, .int .u32 t422, .int .u32 t423] rfl ar ?_; (with_reducible refine (spec_FSub.calls k t421 t422 t423 t425 _ A5.out).mono ?_); rintro e w15 ⟨rfl, hb⟩; refine ⟨_, rfl, ?_⟩; have n0_ := Aside0.mk (below_step (bw HB.out) hb); clear HB; have HB := n0_; clear n0_; (try clear hb)) | ((with_reducible refine gate_callee (f := 39) rfl ?_); refine goesL_ (some 34) rfl rfl Try.func39 (by kernel_rfl) rfl #[.int .u32 t422] rfl ar ?_; (with_reducible refine (laws_exact.calls t422 t426 true _ A7.out).mono ?_); rintro e w16 ⟨rfl, hb⟩; refine ⟨_, rfl, ?_⟩; have n0_ := Aside0.mk (below_step (bw HB.out) hb); clear HB; have HB := n0_; clear n0_; (try clear hb)) | ((with_reducible refine gate_callee (f := 39) rfl ?_); refine goesL_ (some 39) rfl rfl Try.func39 (by kernel_rfl) rfl #[.int .u32 t423] rfl ar ?_; (with_reducible refine (laws_exact.calls t423 t428 true _ A8.out).mono ?_); rintro e w17 ⟨rfl, hb⟩; refine ⟨_, rfl, ?_⟩; have n0_ := Aside0.mk (below_step (bw HB.out) hb); clear HB; have HB := n0_; clear n0_; (try clear hb)))
       go_ret
       exact ⟨by first | rfl | (simp [errW_none, errW_some] <;> rfl) | (simp [*, errW_none, errW_some] <;> rfl), bw HB.out⟩
      ·
       rw [if_neg c12] at H
       have c12b0 : decide (t426 ≤ 0) = false := decide_eq_false c12
       clear c12
       by_cases c18 : t428 ≤ 0
       ·
        rw [if_pos c18] at H
        have c18b0 : decide (t428 ≤ 0) = true := decide_eq_true c18
        clear c18
        obtain rfl := Option.some.inj H
        simp only [Option.some.injEq, Prod.mk.injEq] at H
        obtain ⟨rfl⟩ := H
        go_enter Try.func14, Try.ntmps14
        go_wp2_with (first | ((with_reducible refine gate_callee (f := 40) rfl ?_); refine goesL_ (some 18) rfl rfl Try.func40 (by kernel_rfl) rfl #[.slice A0 l0.length c0] rfl ar ?_; (with_reducible refine (spec_DrawFSub.calls k _ _ l0 t421 t422 t423 _ ?side1 ?side2 A3.out).mono ?_); (case side1 => repeat (first | exact HR0.out | (with_reducible refine Kd.C_alloc ?_ _) | (with_reducible refine Kd.C_drewN ?_ _) | (with_reducible refine Kd.C_drew ?_))); (case side2 => exact HC0.out); rintro e w19 ⟨rfl, hb⟩; refine ⟨_, rfl, ?_⟩; have n0_ := Aside0.mk (below_step (bw HB.out) hb); clear HB; have HB := n0_; clear n0_; (try clear hb)) | ((with_reducible refine gate_callee (f := 31) rfl ?_); refine goesL_ (some 25) rfl rfl Try.func31 (by kernel_rfl) rfl #[.int .i64 t421, .int .u32 t422, .int .u32 t423] rfl ar ?_; (with_reducible refine (impl_FSub.calls k t421 t422 t423 t424 _ A4.out).mono ?_); rintro e w20 ⟨rfl, hb⟩; refine ⟨_, rfl, ?_⟩; have n0_ := Aside0.mk (below_step (bw HB.out) hb); clear HB; have HB := n0_; clear n0_; (try clear hb)) | ((with_reducible refine gate_callee (f := 30) rfl ?_); refine goesL_ (some 30) rfl rfl Try.func30 (by kernel_rfl) rfl #[.int .i64 t421, .int .u32 t422, .int .u32 t423] rfl ar ?_; (with_reducible refine (spec_FSub.calls k t421 t422 t423 t425 _ A5.out).mono ?_); rintro e w21 ⟨rfl, hb⟩; refine ⟨_, rfl, ?_⟩; have n0_ := Aside0.mk (below_step (bw HB.out) hb); clear HB; have HB := n0_; clear n0_; (try clear hb)) | ((with_reducible refine gate_callee (f := 39) rfl ?_); refine goesL_ (some 34) rfl rfl Try.func39 (by kernel_rfl) rfl #[.int .u32 t422] rfl ar ?_; (with_reducible refine (laws_exact.calls t422 t426 true _ A7.out).mono ?_); rintro e w22 ⟨rfl, hb⟩; refine ⟨_, rfl, ?_⟩; have n0_ := Aside0.mk (below_step (bw HB.out) hb); clear HB; have HB := n0_; clear n0_; (try clear hb)) | ((with_reducible refine gate_callee (f := 39) rfl ?_); refine goesL_ (some 39) rfl rfl Try.func39 (by kernel_rfl) rfl #[.int .u32 t423] rfl ar ?_; (with_reducible refine (laws_exact.calls t423 t428 true _ A8.out).mono ?_); rintro e w23 ⟨rfl, hb⟩; refine ⟨_, rfl, ?_⟩; have n0_ := Aside0.mk (below_step (bw HB.out) hb); clear HB; have HB := n0_; clear n0_; (try clear hb)))
        go_ret
        exact ⟨by first | rfl | (simp [errW_none, errW_some] <;> rfl) | (simp [*, errW_none, errW_some] <;> rfl), bw HB.out⟩
       ·
        rw [if_neg c18] at H
        have c18b0 : decide (t428 ≤ 0) = false := decide_eq_false c18
        clear c18
        by_cases c24 : t426 > (wrap64 (2 * t428))
        ·
         rw [if_pos c24] at H
         have c24b0 : decide ((wrap64 (2 * t428)) < t426) = true := decide_eq_true c24
         clear c24
         obtain rfl := Option.some.inj H
         simp only [Option.some.injEq, Prod.mk.injEq] at H
         obtain ⟨rfl⟩ := H
         go_enter Try.func14, Try.ntmps14
         go_wp2_with (first | ((with_reducible refine gate_callee (f := 40) rfl ?_); refine goesL_ (some 18) rfl rfl Try.func40 (by kernel_rfl) rfl #[.slice A0 l0.length c0] rfl ar ?_; (with_reducible refine (spec_DrawFSub.calls k _ _ l0 t421 t422 t423 _ ?side1 ?side2 A3.out).mono ?_); (case side1 => repeat (first | exact HR0.out | (with_reducible refine Kd.C_alloc ?_ _) | (with_reducible refine Kd.C_drewN ?_ _) | (with_reducible refine Kd.C_drew ?_))); (case side2 => exact HC0.out); rintro e w25 ⟨rfl, hb⟩; refine ⟨_, rfl, ?_⟩; have n0_ := Aside0.mk (below_step (bw HB.out) hb); clear HB; have HB := n0_; clear n0_; (try clear hb)) | ((with_reducible refine gate_callee (f := 31) rfl ?_); refine goesL_ (some 25) rfl rfl Try.func31 (by kernel_rfl) rfl #[.int .i64 t421, .int .u32 t422, .int .u32 t423] rfl ar ?_; (with_reducible refine (impl_FSub.calls k t421 t422 t423 t424 _ A4.out).mono ?_); rintro e w26 ⟨rfl, hb⟩; refine ⟨_, rfl, ?_⟩; have n0_ := Aside0.mk (below_step (bw HB.out) hb); clear HB; have HB := n0_; clear n0_; (try clear hb)) | ((with_reducible refine gate_callee (f := 30) rfl ?_); refine goesL_ (some 30) rfl rfl Try.func30 (by kernel_rfl) rfl #[.int .i64 t421, .int .u32 t422, .int .u32 t423] rfl ar ?_; (with_reducible refine (spec_FSub.calls k t421 t422 t423 t425 _ A5.out).mono ?_); rintro e w27 ⟨rfl, hb⟩; refine ⟨_, rfl, ?_⟩; have n0_ := Aside0.mk (below_step (bw HB.out) hb); clear HB; have HB := n0_; clear n0_; (try clear hb)) | ((with_reducible refine gate_callee (f := 39) rfl ?_); refine goesL_ (some 34) rfl rfl Try.func39 (by kernel_rfl) rfl #[.int .u32 t422] rfl ar ?_; (with_reducible refine (laws_exact.calls t422 t426 true _ A7.out).mono ?_); rintro e w28 ⟨rfl, hb⟩; refine ⟨_, rfl, ?_⟩; have n0_ := Aside0.mk (below_step (bw HB.out) hb); clear HB; have HB := n0_; clear n0_; (try clear hb)) | ((with_reducible refine gate_callee (f := 39) rfl ?_); refine goesL_ (some 39) rfl rfl Try.func39 (by kernel_rfl) rfl #[.int .u32 t423] rfl ar ?_; (with_reducible refine (laws_exact.calls t423 t428 true _ A8.out).mono ?_); rintro e w29 ⟨rfl, hb⟩; refine ⟨_, rfl, ?_⟩; have n0_ := Aside0.mk (below_step (bw HB.out) hb); clear HB; have HB := n0_; clear n0_; (try clear hb)))
         go_ret
         exact ⟨by first | rfl | (simp [errW_none, errW_some] <;> rfl) | (simp [*, errW_none, errW_some] <;> rfl), bw HB.out⟩
        ·
         rw [if_neg c24] at H
         have c24b0 : decide ((wrap64 (2 * t428)) < t426) = false := decide_eq_false c24
         clear c24
         by_cases c30 : t428 > (wrap64 (2 * t426))
         ·
          rw [if_pos c30] at H
          have c30b0 : decide ((wrap64 (2 * t426)) < t428) = true := decide_eq_true c30
          clear c30
          obtain rfl := Option.some.inj H
          simp only [Option.some.injEq, Prod.mk.injEq] at H
          obtain ⟨rfl⟩ := H
          go_enter Try.func14, Try.ntmps14
          go_wp2_with (first | ((with_reducible refine gate_callee (f := 40) rfl ?_); refine goesL_ (some 18) rfl rfl Try.func40 (by kernel_rfl) rfl #[.slice A0 l0.length c0] rfl ar ?_; (with_reducible refine (spec_DrawFSub.calls k _ _ l0 t421 t422 t423 _ ?side1 ?side2 A3.out).mono ?_); (case side1 => repeat (first | exact HR0.out | (with_reducible refine Kd.C_alloc ?_ _) | (with_reducible refine Kd.C_drewN ?_ _) | (with_reducible refine Kd.C_drew ?_))); (case side2 => exact HC0.out); rintro e w31 ⟨rfl, hb⟩; refine ⟨_, rfl, ?_⟩; have n0_ := Aside0.mk (below_step (bw HB.out) hb); clear HB; have HB := n0_; clear n0_; (try clear hb)) | ((with_reducible refine gate_callee (f := 31) rfl ?_); refine goesL_ (some 25) rfl rfl Try.func31 (by kernel_rfl) rfl #[.int .i64 t421, .int .u32 t422, .int .u32 t423] rfl ar ?_; (with_reducible refine (impl_FSub.calls k t421 t422 t423 t424 _ A4.out).mono ?_); rintro e w32 ⟨rfl, hb⟩; refine ⟨_, rfl, ?_⟩; have n0_ := Aside0.mk (below_step (bw HB.out) hb); clear HB; have HB := n0_; clear n0_; (try clear hb)) | ((with_reducible refine gate_callee (f := 30) rfl ?_); refine goesL_ (some 30) rfl rfl Try.func30 (by kernel_rfl) rfl #[.int .i64 t421, .int .u32 t422, .int .u32 t423] rfl ar ?_; (with_reducible refine (spec_FSub.calls k t421 t422 t423 t425 _ A5.out).mono ?_); rintro e w33 ⟨rfl, hb⟩; refine ⟨_, rfl, ?_⟩; have n0_ := Aside0.mk (below_step (bw HB.out) hb); clear HB; have HB := n0_; clear n0_; (try clear hb)) | ((with_reducible refine gate_callee (f := 39) rfl ?_); refine goesL_ (some 34) rfl rfl Try.func39 (by kernel_rfl) rfl #[.int .u32 t422] rfl ar ?_; (with_reducible refine (laws_exact.calls t422 t426 true _ A7.out).mono ?_); rintro e w34 ⟨rfl, hb⟩; refine ⟨_, rfl, ?_⟩; have n0_ := Aside0.mk (below_step (bw HB.out) hb); clear HB; have HB := n0_; clear n0_; (try clear hb)) | ((with_reducible refine gate_callee (f := 39) rfl ?_); refine goesL_ (some 39) rfl rfl Try.func39 (by kernel_rfl) rfl #[.int .u32 t423] rfl ar ?_; (with_reducible refine (laws_exact.calls t423 t428 true _ A8.out).mono ?_); rintro e w35 ⟨rfl, hb⟩; refine ⟨_, rfl, ?_⟩; have n0_ := Aside0.mk (below_step (bw HB.out) hb); clear HB; have HB := n0_; clear n0_; (try clear hb)))
          go_ret
          exact ⟨by first | rfl | (simp [errW_none, errW_some] <;> rfl) | (simp [*, errW_none, errW_some] <;> rfl), bw HB.out⟩
         ·
          rw [if_neg c30] at H
          have c30b0 : decide ((wrap64 (2 * t426)) < t428) = false := decide_eq_false c30
          clear c30
          replace H := Option.bind_eq_some_iff.mp H
          obtain ⟨⟨t430, t431⟩, A360, H⟩ := H
          replace H : (if t431 = true then (some (t430 == (wrap64 (t426 - t428)))) else (some false)) = some r := H
          have A36 := Aside0.mk A360
          clear A360
          by_cases c37 : t431 = true
          ·
           subst c37
           have H1 : (some (t430 == (wrap64 (t426 - t428)))) = some r := by rw [if_pos rfl] at H; exact H
           clear H
           have H := H1
           clear H1
           obtain rfl := Option.some.inj H
           simp only [Option.some.injEq, Prod.mk.injEq] at H
           obtain ⟨rfl⟩ := H
           go_enter Try.func14, Try.ntmps14
           go_wp2_with (first | ((with_reducible refine gate_callee (f := 40) rfl ?_); refine goesL_ (some 18) rfl rfl Try.func40 (by kernel_rfl) rfl #[.slice A0 l0.length c0] rfl ar ?_; (with_reducible refine (spec_DrawFSub.calls k _ _ l0 t421 t422 t423 _ ?side1 ?side2 A3.out).mono ?_); (case side1 => repeat (first | exact HR0.out | (with_reducible refine Kd.C_alloc ?_ _) | (with_reducible refine Kd.C_drewN ?_ _) | (with_reducible refine Kd.C_drew ?_))); (case side2 => exact HC0.out); rintro e w38 ⟨rfl, hb⟩; refine ⟨_, rfl, ?_⟩; have n0_ := Aside0.mk (below_step (bw HB.out) hb); clear HB; have HB := n0_; clear n0_; (try clear hb)) | ((with_reducible refine gate_callee (f := 31) rfl ?_); refine goesL_ (some 25) rfl rfl Try.func31 (by kernel_rfl) rfl #[.int .i64 t421, .int .u32 t422, .int .u32 t423] rfl ar ?_; (with_reducible refine (impl_FSub.calls k t421 t422 t423 t424 _ A4.out).mono ?_); rintro e w39 ⟨rfl, hb⟩; refine ⟨_, rfl, ?_⟩; have n0_ := Aside0.mk (below_step (bw HB.out) hb); clear HB; have HB := n0_; clear n0_; (try clear hb)) | ((with_reducible refine gate_callee (f := 30) rfl ?_); refine goesL_ (some 30) rfl rfl Try.func30 (by kernel_rfl) rfl #[.int .i64 t421, .int .u32 t422, .int .u32 t423] rfl ar ?_; (with_reducible refine (spec_FSub.calls k t421 t422 t423 t425 _ A5.out).mono ?_); rintro e w40 ⟨rfl, hb⟩; refine ⟨_, rfl, ?_⟩; have n0_ := Aside0.mk (below_step (bw HB.out) hb); clear HB; have HB := n0_; clear n0_; (try clear hb)) | ((with_reducible refine gate_callee (f := 39) rfl ?_); refine goesL_ (some 34) rfl rfl Try.func39 (by kernel_rfl) rfl #[.int .u32 t422] rfl ar ?_; (with_reducible refine (laws_exact.calls t422 t426 true _ A7.out).mono ?_); rintro e w41 ⟨rfl, hb⟩; refine ⟨_, rfl, ?_⟩; have n0_ := Aside0.mk (below_step (bw HB.out) hb); clear HB; have HB := n0_; clear n0_; (try clear hb)) | ((with_reducible refine gate_callee (f := 39) rfl ?_); refine goesL_ (some 39) rfl rfl Try.func39 (by kernel_rfl) rfl #[.int .u32 t423] rfl ar ?_; (with_reducible refine (laws_exact.calls t423 t428 true _ A8.out).mono ?_); rintro e w42 ⟨rfl, hb⟩; refine ⟨_, rfl, ?_⟩; have n0_ := Aside0.mk (below_step (bw HB.out) hb); clear HB; have HB := n0_; clear n0_; (try clear hb)) | ((with_reducible refine gate_callee (f := 39) rfl ?_); refine goesL_ (some 74) rfl rfl Try.func39 (by kernel_rfl) rfl #[.int .u32 t424] rfl ar ?_; (with_reducible refine (laws_exact.calls t424 t430 true _ A36.out).mono ?_); rintro e w43 ⟨rfl, hb⟩; refine ⟨_, rfl, ?_⟩; have n0_ := Aside0.mk (below_step (bw HB.out) hb); clear HB; have HB := n0_; clear n0_; (try clear hb)))
           go_ret
           exact ⟨by first | rfl | (simp [errW_none, errW_some] <;> rfl) | (simp [*, errW_none, errW_some] <;> rfl), bw HB.out⟩
          ·
           replace c37 := Bool.eq_false_iff.mpr c37
           subst c37
           have H1 : (some false) = some r := by rw [if_neg (show ¬ (false = true) by decide)] at H; exact H
           clear H
           have H := H1
           clear H1
           obtain rfl := Option.some.inj H
           exact absurd HT.out (by decide)
     ·
      replace c11 := Bool.eq_false_iff.mpr c11
      subst c11
      have H1 : (some true) = some r := by rw [if_neg (show ¬ (false = true) by decide)] at H; exact H
      clear H
      have H := H1
      clear H1
      obtain rfl := Option.some.inj H
      simp only [Option.some.injEq, Prod.mk.injEq] at H
      obtain ⟨rfl⟩ := H
      go_enter Try.func14, Try.ntmps14
      go_wp2_with (first | ((with_reducible refine gate_callee (f := 40) rfl ?_); refine goesL_ (some 18) rfl rfl Try.func40 (by kernel_rfl) rfl #[.slice A0 l0.length c0] rfl ar ?_; (with_reducible refine (spec_DrawFSub.calls k _ _ l0 t421 t422 t423 _ ?side1 ?side2 A3.out).mono ?_); (case side1 => repeat (first | exact HR0.out | (with_reducible refine Kd.C_alloc ?_ _) | (with_reducible refine Kd.C_drewN ?_ _) | (with_reducible refine Kd.C_drew ?_))); (case side2 => exact HC0.out); rintro e w44 ⟨rfl, hb⟩; refine ⟨_, rfl, ?_⟩; have n0_ := Aside0.mk (below_step (bw HB.out) hb); clear HB; have HB := n0_; clear n0_; (try clear hb)) | ((with_reducible refine gate_callee (f := 31) rfl ?_); refine goesL_ (some 25) rfl rfl Try.func31 (by kernel_rfl) rfl #[.int .i64 t421, .int .u32 t422, .int .u32 t423] rfl ar ?_; (with_reducible refine (impl_FSub.calls k t421 t422 t423 t424 _ A4.out).mono ?_); rintro e w45 ⟨rfl, hb⟩; refine ⟨_, rfl, ?_⟩; have n0_ := Aside0.mk (below_step (bw HB.out) hb); clear HB; have HB := n0_; clear n0_; (try clear hb)) | ((with_reducible refine gate_callee (f := 30) rfl ?_); refine goesL_ (some 30) rfl rfl Try.func30 (by kernel_rfl) rfl #[.int .i64 t421, .int .u32 t422, .int .u32 t423] rfl ar ?_; (with_reducible refine (spec_FSub.calls k t421 t422 t423 t425 _ A5.out).mono ?_); rintro e w46 ⟨rfl, hb⟩; refine ⟨_, rfl, ?_⟩; have n0_ := Aside0.mk (below_step (bw HB.out) hb); clear HB; have HB := n0_; clear n0_; (try clear hb)) | ((with_reducible refine gate_callee (f := 39) rfl ?_); refine goesL_ (some 34) rfl rfl Try.func39 (by kernel_rfl) rfl #[.int .u32 t422] rfl ar ?_; (with_reducible refine (laws_exact.calls t422 t426 true _ A7.out).mono ?_); rintro e w47 ⟨rfl, hb⟩; refine ⟨_, rfl, ?_⟩; have n0_ := Aside0.mk (below_step (bw HB.out) hb); clear HB; have HB := n0_; clear n0_; (try clear hb)) | ((with_reducible refine gate_callee (f := 39) rfl ?_); refine goesL_ (some 39) rfl rfl Try.func39 (by kernel_rfl) rfl #[.int .u32 t423] rfl ar ?_; (with_reducible refine (laws_exact.calls t423 t428 false _ A8.out).mono ?_); rintro e w48 ⟨rfl, hb⟩; refine ⟨_, rfl, ?_⟩; have n0_ := Aside0.mk (below_step (bw HB.out) hb); clear HB; have HB := n0_; clear n0_; (try clear hb)))
      go_ret
      exact ⟨by first | rfl | (simp [errW_none, errW_some] <;> rfl) | (simp [*, errW_none, errW_some] <;> rfl), bw HB.out⟩
    ·
     replace c10 := Bool.eq_false_iff.mpr c10
     subst c10
     have H1 : (some true) = some r := by rw [if_neg (show ¬ (false = true) by decide)] at H; exact H
     clear H
     have H := H1
     clear H1
     obtain rfl := Option.some.inj H
     simp only [Option.some.injEq, Prod.mk.injEq] at H
     obtain ⟨rfl⟩ := H
     go_enter Try.func14, Try.ntmps14
     go_wp2_with (first | ((with_reducible refine gate_callee (f := 40) rfl ?_); refine goesL_ (some 18) rfl rfl Try.func40 (by kernel_rfl) rfl #[.slice A0 l0.length c0] rfl ar ?_; (with_reducible refine (spec_DrawFSub.calls k _ _ l0 t421 t422 t423 _ ?side1 ?side2 A3.out).mono ?_); (case side1 => repeat (first | exact HR0.out | (with_reducible refine Kd.C_alloc ?_ _) | (with_reducible refine Kd.C_drewN ?_ _) | (with_reducible refine Kd.C_drew ?_))); (case side2 => exact HC0.out); rintro e w49 ⟨rfl, hb⟩; refine ⟨_, rfl, ?_⟩; have n0_ := Aside0.mk (below_step (bw HB.out) hb); clear HB; have HB := n0_; clear n0_; (try clear hb)) | ((with_reducible refine gate_callee (f := 31) rfl ?_); refine goesL_ (some 25) rfl rfl Try.func31 (by kernel_rfl) rfl #[.int .i64 t421, .int .u32 t422, .int .u32 t423] rfl ar ?_; (with_reducible refine (impl_FSub.calls k t421 t422 t423 t424 _ A4.out).mono ?_); rintro e w50 ⟨rfl, hb⟩; refine ⟨_, rfl, ?_⟩; have n0_ := Aside0.mk (below_step (bw HB.out) hb); clear HB; have HB := n0_; clear n0_; (try clear hb)) | ((with_reducible refine gate_callee (f := 30) rfl ?_); refine goesL_ (some 30) rfl rfl Try.func30 (by kernel_rfl) rfl #[.int .i64 t421, .int .u32 t422, .int .u32 t423] rfl ar ?_; (with_reducible refine (spec_FSub.calls k t421 t422 t423 t425 _ A5.out).mono ?_); rintro e w51 ⟨rfl, hb⟩; refine ⟨_, rfl, ?_⟩; have n0_ := Aside0.mk (below_step (bw HB.out) hb); clear HB; have HB := n0_; clear n0_; (try clear hb)) | ((with_reducible refine gate_callee (f := 39) rfl ?_); refine goesL_ (some 34) rfl rfl Try.func39 (by kernel_rfl) rfl #[.int .u32 t422] rfl ar ?_; (with_reducible refine (laws_exact.calls t422 t426 false _ A7.out).mono ?_); rintro e w52 ⟨rfl, hb⟩; refine ⟨_, rfl, ?_⟩; have n0_ := Aside0.mk (below_step (bw HB.out) hb); clear HB; have HB := n0_; clear n0_; (try clear hb)) | ((with_reducible refine gate_callee (f := 39) rfl ?_); refine goesL_ (some 39) rfl rfl Try.func39 (by kernel_rfl) rfl #[.int .u32 t423] rfl ar ?_; (with_reducible refine (laws_exact.calls t423 t428 t429 _ A8.out).mono ?_); rintro e w53 ⟨rfl, hb⟩; refine ⟨_, rfl, ?_⟩; have n0_ := Aside0.mk (below_step (bw HB.out) hb); clear HB; have HB := n0_; clear n0_; (try clear hb)))
     go_ret
     exact ⟨by first | rfl | (simp [errW_none, errW_some] <;> rfl) | (simp [*, errW_none, errW_some] <;> rfl), bw HB.out⟩
   ·
    rw [if_neg c9] at H
    have c9b0 : (t421 == 16) = false := beq_eq_false_iff_ne.mpr c9
    have c9b1 : (t421 != 16) = true := bne_iff_ne.mpr c9
    obtain rfl := Option.some.inj H
    simp only [Option.some.injEq, Prod.mk.injEq] at H
    obtain ⟨rfl⟩ := H
    go_enter Try.func14, Try.ntmps14
    go_wp2_with (first | ((with_reducible refine gate_callee (f := 40) rfl ?_); refine goesL_ (some 18) rfl rfl Try.func40 (by kernel_rfl) rfl #[.slice A0 l0.length c0] rfl ar ?_; (with_reducible refine (spec_DrawFSub.calls k _ _ l0 t421 t422 t423 _ ?side1 ?side2 A3.out).mono ?_); (case side1 => repeat (first | exact HR0.out | (with_reducible refine Kd.C_alloc ?_ _) | (with_reducible refine Kd.C_drewN ?_ _) | (with_reducible refine Kd.C_drew ?_))); (case side2 => exact HC0.out); rintro e w54 ⟨rfl, hb⟩; refine ⟨_, rfl, ?_⟩; have n0_ := Aside0.mk (below_step (bw HB.out) hb); clear HB; have HB := n0_; clear n0_; (try clear hb)) | ((with_reducible refine gate_callee (f := 31) rfl ?_); refine goesL_ (some 25) rfl rfl Try.func31 (by kernel_rfl) rfl #[.int .i64 t421, .int .u32 t422, .int .u32 t423] rfl ar ?_; (with_reducible refine (impl_FSub.calls k t421 t422 t423 t424 _ A4.out).mono ?_); rintro e w55 ⟨rfl, hb⟩; refine ⟨_, rfl, ?_⟩; have n0_ := Aside0.mk (below_step (bw HB.out) hb); clear HB; have HB := n0_; clear n0_; (try clear hb)) | ((with_reducible refine gate_callee (f := 30) rfl ?_); refine goesL_ (some 30) rfl rfl Try.func30 (by kernel_rfl) rfl #[.int .i64 t421, .int .u32 t422, .int .u32 t423] rfl ar ?_; (with_reducible refine (spec_FSub.calls k t421 t422 t423 t425 _ A5.out).mono ?_); rintro e w56 ⟨rfl, hb⟩; refine ⟨_, rfl, ?_⟩; have n0_ := Aside0.mk (below_step (bw HB.out) hb); clear HB; have HB := n0_; clear n0_; (try clear hb)) | ((with_reducible refine gate_callee (f := 39) rfl ?_); refine goesL_ (some 34) rfl rfl Try.func39 (by kernel_rfl) rfl #[.int .u32 t422] rfl ar ?_; (with_reducible refine (laws_exact.calls t422 t426 t427 _ A7.out).mono ?_); rintro e w57 ⟨rfl, hb⟩; refine ⟨_, rfl, ?_⟩; have n0_ := Aside0.mk (below_step (bw HB.out) hb); clear HB; have HB := n0_; clear n0_; (try clear hb)) | ((with_reducible refine gate_callee (f := 39) rfl ?_); refine goesL_ (some 39) rfl rfl Try.func39 (by kernel_rfl) rfl #[.int .u32 t423] rfl ar ?_; (with_reducible refine (laws_exact.calls t423 t428 t429 _ A8.out).mono ?_); rintro e w58 ⟨rfl, hb⟩; refine ⟨_, rfl, ?_⟩; have n0_ := Aside0.mk (below_step (bw HB.out) hb); clear HB; have HB := n0_; clear n0_; (try clear hb)))
    go_ret
    exact ⟨by first | rfl | (simp [errW_none, errW_some] <;> rfl) | (simp [*, errW_none, errW_some] <;> rfl), bw HB.out⟩
  ·
   rw [if_neg c6] at H
   have c6b0 : (t424 == t425) = false := beq_eq_false_iff_ne.mpr c6
   have c6b1 : (t424 != t425) = true := bne_iff_ne.mpr c6
   obtain rfl := Option.some.inj H
   exact absurd HT.out (by decide)

/-- THE ONE PURE STATEMENT of laws_FnSterbenz: yours. -/
def laws_FnSterbenz.Pure : Prop := ∀ (l0 : List Int), l0.length ≤ maxLen → l0.length * 1 ≤ 140737488351232 → (∀ x ∈ l0, (Lit.int .u8 x).wf = true) → ∃ k, laws_FnSterbenz.f k l0 = some true
theorem laws_FnSterbenz.walk (P : laws_FnSterbenz.Pure) (a0 : Option Addr) (len0 cap0 : Nat) (z0 : List Int) (w : World) (w0 : (a0 = none ∧ len0 = 0 ∧ cap0 = 0 ∧ z0 = []) ∨ ∃ x, a0 = some x ∧ len0 ≤ cap0 ∧ cap0 ≤ maxLen ∧ z0.length = cap0 ∧ (∀ i, i < z0.length → w.cell? (x.add i) = some (.int .u8 (z0.getD i 0))) ∧ ∀ n ∈ z0, (Lit.int .u8 n).wf = true) (y0 : len0 * 1 ≤ 140737488351232) :
  Calls Try.prog 14 #[.slice a0 len0 cap0] w fun e w' => e = .returned (.bool true) ∧ Below w.heap.size w w' := by
 obtain ⟨l0, rfl, hr0, hm0, hw0, hc0⟩ := ReadsInt.ofRowC w0
 obtain ⟨k, h⟩ := P l0 hm0 y0 hw0
 refine (laws_FnSterbenz.calls k _ _ l0 true w (Kd.C_of_reads (d := (0 : Int)) (h1 := fun _ => rfl) hr0) hc0 rfl h).mono ?_
 rintro e w' ⟨rfl, hd⟩
 exact ⟨rfl, hd⟩

end Go.Proofs.Ytdeogandkgiggaa.Q

