-- Written by a program of this session; it walks the functions that the law reaches.
import Derived.Test.YtdeogandkgiggaaQx0
import Derived.Test.YtdeogandkgiggaaQx8
import Derived.Test.YtdeogandkgiggaaQx9
import Derived.Test.YtdeogandkgiggaaQx14
import Derived.Test.YtdeogandkgiggaaQx16
import Derived.Test.YtdeogandkgiggaaQx17
namespace Go.Proofs.Ytdeogandkgiggaa.Q
open Go.RowKit Go.Proofs.YtdeogandkgiggaaW.PrintWords Go.Proofs.YtdeogandkgiggaaW.PrintLast Go.Proofs.YtdeogandkgiggaaW.PrintMore
attribute [local go_sem] max2_int min2_int max_two min_two max_three min_three max_four min_four   -- for this text's walks alone
set_option linter.unusedVariables false
set_option linter.unusedSimpArgs false

/-! ### laws_FnTwoSum: function 13 -/
def laws_FnTwoSum.f (k : Nat) (l0 : List Int) : Option (Bool) := if (l0.length : Int) > 1048576 then (some true) else ((spec_DrawFSub.f k l0).bind fun bt403 => ((impl_FAdd.f k bt403.1 bt403.2.1 bt403.2.2).bind fun t406 => ((spec_FAdd.f k bt403.1 bt403.2.1 bt403.2.2).bind fun t407 => (if t406 = t407 then (if bt403.1 = 16 then ((impl_FSub.f k bt403.1 t406 bt403.2.1).bind fun t408 => ((impl_FSub.f k bt403.1 t406 t408).bind fun t409 => ((impl_FSub.f k bt403.1 bt403.2.1 t409).bind fun t410 => ((impl_FSub.f k bt403.1 bt403.2.2 t408).bind fun t411 => ((impl_FAdd.f k bt403.1 t410 t411).bind fun t412 => ((laws_exact.f bt403.2.1).bind fun bt413 => ((laws_exact.f bt403.2.2).bind fun bt415 => ((laws_exact.f t406).bind fun bt417 => ((laws_exact.f t412).bind fun bt419 => (if bt413.2 = true then (if bt415.2 = true then (if bt417.2 = true then (if bt419.2 = true then (some ((wrap64 (bt413.1 + bt415.1)) == (wrap64 (bt417.1 + bt419.1)))) else (some true)) else (some true)) else (some true)) else (some true))))))))))) else (some true)) else (some false)))))
theorem laws_FnTwoSum.mono : ∀ a0 k, LeO (laws_FnTwoSum.f k a0) (laws_FnTwoSum.f (k + 1) a0) := by
 intro a0 k
 unfold laws_FnTwoSum.f
 repeat' first
   | (with_reducible exact impl_FAdd.mono _ _ _ _)
   | (with_reducible exact impl_FSub.mono _ _ _ _)
   | (with_reducible exact spec_DrawFSub.mono _ _)
   | (with_reducible exact spec_FAdd.mono _ _ _ _)
   | (with_reducible exact LeO.refl _)
   | (with_reducible exact LeO.none _)
   | (with_reducible refine LeO.ite ?_ ?_)
   | (with_reducible refine LeO.bind ?_ (fun _ => ?_))
   | exact impl_FAdd.mono _ _ _ _
   | exact impl_FSub.mono _ _ _ _
   | exact spec_DrawFSub.mono _ _
   | exact spec_FAdd.mono _ _ _ _
   | exact LeO.none _
   | refine LeO.ite ?_ ?_
   | refine LeO.bind ?_ (fun _ => ?_)
set_option maxHeartbeats 8000000 in
set_option maxRecDepth 100000 in
theorem laws_FnTwoSum.calls (k : Nat) (A0 : Option Addr) (c0 : Nat) (l0 : List Int) (r : Bool) (w : World) (hr0 : Kd.C (Kd.int .u8) w A0 l0.length l0) (hc0 : l0.length ≤ c0) (hTrue : r = true) (h : laws_FnTwoSum.f k l0 = some r) :
  Calls Try.prog 13 #[.slice A0 l0.length c0] w fun e w' => e = .returned (.bool r) ∧ Below w.heap.size w w' := by
 have HR0 := Aside0.mk hr0
 have HC0 := Aside0.mk hc0
 clear hr0 hc0
 have HB := Aside0.mk (Below.refl w.heap.size w)
 have H : (if (l0.length : Int) > 1048576 then (some true) else ((spec_DrawFSub.f k l0).bind fun bt403 => ((impl_FAdd.f k bt403.1 bt403.2.1 bt403.2.2).bind fun t406 => ((spec_FAdd.f k bt403.1 bt403.2.1 bt403.2.2).bind fun t407 => (if t406 = t407 then (if bt403.1 = 16 then ((impl_FSub.f k bt403.1 t406 bt403.2.1).bind fun t408 => ((impl_FSub.f k bt403.1 t406 t408).bind fun t409 => ((impl_FSub.f k bt403.1 bt403.2.1 t409).bind fun t410 => ((impl_FSub.f k bt403.1 bt403.2.2 t408).bind fun t411 => ((impl_FAdd.f k bt403.1 t410 t411).bind fun t412 => ((laws_exact.f bt403.2.1).bind fun bt413 => ((laws_exact.f bt403.2.2).bind fun bt415 => ((laws_exact.f t406).bind fun bt417 => ((laws_exact.f t412).bind fun bt419 => (if bt413.2 = true then (if bt415.2 = true then (if bt417.2 = true then (if bt419.2 = true then (some ((wrap64 (bt413.1 + bt415.1)) == (wrap64 (bt417.1 + bt419.1)))) else (some true)) else (some true)) else (some true)) else (some true))))))))))) else (some true)) else (some false)))))) = some r := h
 clear h
 have HT := Aside0.mk hTrue
 clear hTrue
 by_cases c2 : (l0.length : Int) > 1048576
 ·
  rw [if_pos c2] at H
  have c2b0 : decide (1048576 < (l0.length : Int)) = true := decide_eq_true c2
  have c2b1 : decide (1048576 < l0.length) = true := decide_eq_true (by omega)
  clear c2
  obtain rfl := Option.some.inj H
  simp only [Option.some.injEq, Prod.mk.injEq] at H
  obtain ⟨rfl⟩ := H
  go_enter Try.func13, Try.ntmps13
  go_wp2
  go_ret
  exact ⟨by first | rfl | (simp [errW_none, errW_some] <;> rfl) | (simp [*, errW_none, errW_some] <;> rfl), bw HB.out⟩
 ·
  rw [if_neg c2] at H
  have c2b0 : decide (1048576 < (l0.length : Int)) = false := decide_eq_false c2
  have c2b1 : decide (1048576 < l0.length) = false := decide_eq_false (by omega)
  clear c2
  replace H := Option.bind_eq_some_iff.mp H
  obtain ⟨⟨t403, t404, t405⟩, A30, H⟩ := H
  replace H : ((impl_FAdd.f k t403 t404 t405).bind fun t406 => ((spec_FAdd.f k t403 t404 t405).bind fun t407 => (if t406 = t407 then (if t403 = 16 then ((impl_FSub.f k t403 t406 t404).bind fun t408 => ((impl_FSub.f k t403 t406 t408).bind fun t409 => ((impl_FSub.f k t403 t404 t409).bind fun t410 => ((impl_FSub.f k t403 t405 t408).bind fun t411 => ((impl_FAdd.f k t403 t410 t411).bind fun t412 => ((laws_exact.f t404).bind fun bt413 => ((laws_exact.f t405).bind fun bt415 => ((laws_exact.f t406).bind fun bt417 => ((laws_exact.f t412).bind fun bt419 => (if bt413.2 = true then (if bt415.2 = true then (if bt417.2 = true then (if bt419.2 = true then (some ((wrap64 (bt413.1 + bt415.1)) == (wrap64 (bt417.1 + bt419.1)))) else (some true)) else (some true)) else (some true)) else (some true))))))))))) else (some true)) else (some false)))) = some r := H
  have A3 := Aside0.mk A30
  clear A30
  replace H := Option.bind_eq_some_iff.mp H
  obtain ⟨t406, A40, H⟩ := H
  replace H : ((spec_FAdd.f k t403 t404 t405).bind fun t407 => (if t406 = t407 then (if t403 = 16 then ((impl_FSub.f k t403 t406 t404).bind fun t408 => ((impl_FSub.f k t403 t406 t408).bind fun t409 => ((impl_FSub.f k t403 t404 t409).bind fun t410 => ((impl_FSub.f k t403 t405 t408).bind fun t411 => ((impl_FAdd.f k t403 t410 t411).bind fun t412 => ((laws_exact.f t404).bind fun bt413 => ((laws_exact.f t405).bind fun bt415 => ((laws_exact.f t406).bind fun bt417 => ((laws_exact.f t412).bind fun bt419 => (if bt413.2 = true then (if bt415.2 = true then (if bt417.2 = true then (if bt419.2 = true then (some ((wrap64 (bt413.1 + bt415.1)) == (wrap64 (bt417.1 + bt419.1)))) else (some true)) else (some true)) else (some true)) else (some true))))))))))) else (some true)) else (some false))) = some r := H
  have A4 := Aside0.mk A40
  clear A40
  replace H := Option.bind_eq_some_iff.mp H
  obtain ⟨t407, A50, H⟩ := H
  replace H : (if t406 = t407 then (if t403 = 16 then ((impl_FSub.f k t403 t406 t404).bind fun t408 => ((impl_FSub.f k t403 t406 t408).bind fun t409 => ((impl_FSub.f k t403 t404 t409).bind fun t410 => ((impl_FSub.f k t403 t405 t408).bind fun t411 => ((impl_FAdd.f k t403 t410 t411).bind fun t412 => ((laws_exact.f t404).bind fun bt413 => ((laws_exact.f t405).bind fun bt415 => ((laws_exact.f t406).bind fun bt417 => ((laws_exact.f t412).bind fun bt419 => (if bt413.2 = true then (if bt415.2 = true then (if bt417.2 = true then (if bt419.2 = true then (some ((wrap64 (bt413.1 + bt415.1)) == (wrap64 (bt417.1 + bt419.1)))) else (some true)) else (some true)) else (some true)) else (some true))))))))))) else (some true)) else (some false)) = some r := H
  have A5 := Aside0.mk A50
  clear A50
  by_cases c6 : t406 = t407
  ·
   rw [if_pos c6] at H
   have c6b0 : (t406 == t407) = true := beq_iff_eq.mpr c6
   have c6b1 : (t406 != t407) = false := bne_eq_false_iff_eq.mpr c6
   clear c6
   by_cases c7 : t403 = 16
   ·
    rw [if_pos c7] at H
    have c7b0 : (t403 == 16) = true := beq_iff_eq.mpr c7
    have c7b1 : (t403 != 16) = false := bne_eq_false_iff_eq.mpr c7
    clear c7
    replace H := Option.bind_eq_some_iff.mp H
    obtain ⟨t408, A80, H⟩ := H
    replace H : ((impl_FSub.f k t403 t406 t408).bind fun t409 => ((impl_FSub.f k t403 t404 t409).bind fun t410 => ((impl_FSub.f k t403 t405 t408).bind fun t411 => ((impl_FAdd.f k t403 t410 t411).bind fun t412 => ((laws_exact.f t404).bind fun bt413 => ((laws_exact.f t405).bind fun bt415 => ((laws_exact.f t406).bind fun bt417 => ((laws_exact.f t412).bind fun bt419 => (if bt413.2 = true then (if bt415.2 = true then (if bt417.2 = true then (if bt419.2 = true then (some ((wrap64 (bt413.1 + bt415.1)) == (wrap64 (bt417.1 + bt419.1)))) else (some true)) else (some true)) else (some true)) else (some true)))))))))) = some r := H
    have A8 := Aside0.mk A80
    clear A80
    replace H := Option.bind_eq_some_iff.mp H
    obtain ⟨t409, A90, H⟩ := H
    replace H : ((impl_FSub.f k t403 t404 t409).bind fun t410 => ((impl_FSub.f k t403 t405 t408).bind fun t411 => ((impl_FAdd.f k t403 t410 t411).bind fun t412 => ((laws_exact.f t404).bind fun bt413 => ((laws_exact.f t405).bind fun bt415 => ((laws_exact.f t406).bind fun bt417 => ((laws_exact.f t412).bind fun bt419 => (if bt413.2 = true then (if bt415.2 = true then (if bt417.2 = true then (if bt419.2 = true then (some ((wrap64 (bt413.1 + bt415.1)) == (wrap64 (bt417.1 + bt419.1)))) else (some true)) else (some true)) else (some true)) else (some true))))))))) = some r := H
    have A9 := Aside0.mk A90
    clear A90
    replace H := Option.bind_eq_some_iff.mp H
    obtain ⟨t410, A100, H⟩ := H
    replace H : ((impl_FSub.f k t403 t405 t408).bind fun t411 => ((impl_FAdd.f k t403 t410 t411).bind fun t412 => ((laws_exact.f t404).bind fun bt413 => ((laws_exact.f t405).bind fun bt415 => ((laws_exact.f t406).bind fun bt417 => ((laws_exact.f t412).bind fun bt419 => (if bt413.2 = true then (if bt415.2 = true then (if bt417.2 = true then (if bt419.2 = true then (some ((wrap64 (bt413.1 + bt415.1)) == (wrap64 (bt417.1 + bt419.1)))) else (some true)) else (some true)) else (some true)) else (some true)))))))) = some r := H
    have A10 := Aside0.mk A100
    clear A100
    replace H := Option.bind_eq_some_iff.mp H
    obtain ⟨t411, A110, H⟩ := H
    replace H : ((impl_FAdd.f k t403 t410 t411).bind fun t412 => ((laws_exact.f t404).bind fun bt413 => ((laws_exact.f t405).bind fun bt415 => ((laws_exact.f t406).bind fun bt417 => ((laws_exact.f t412).bind fun bt419 => (if bt413.2 = true then (if bt415.2 = true then (if bt417.2 = true then (if bt419.2 = true then (some ((wrap64 (bt413.1 + bt415.1)) == (wrap64 (bt417.1 + bt419.1)))) else (some true)) else (some true)) else (some true)) else (some true))))))) = some r := H
    have A11 := Aside0.mk A110
    clear A110
    replace H := Option.bind_eq_some_iff.mp H
    obtain ⟨t412, A120, H⟩ := H
    replace H : ((laws_exact.f t404).bind fun bt413 => ((laws_exact.f t405).bind fun bt415 => ((laws_exact.f t406).bind fun bt417 => ((laws_exact.f t412).bind fun bt419 => (if bt413.2 = true then (if bt415.2 = true then (if bt417.2 = true then (if bt419.2 = true then (some ((wrap64 (bt413.1 + bt415.1)) == (wrap64 (bt417.1 + bt419.1)))) else (some true)) else (some true)) else (some true)) else (some true)))))) = some r := H
    have A12 := Aside0.mk A120
    clear A120
    replace H := Option.bind_eq_some_iff.mp H
    obtain ⟨⟨t413, t414⟩, A130, H⟩ := H
    replace H : ((laws_exact.f t405).bind fun bt415 => ((laws_exact.f t406).bind fun bt417 => ((laws_exact.f t412).bind fun bt419 => (if t414 = true then (if bt415.2 = true then (if bt417.2 = true then (if bt419.2 = true then (some ((wrap64 (t413 + bt415.1)) == (wrap64 (bt417.1 + bt419.1)))) else (some true)) else (some true)) else (some true)) else (some true))))) = some r := H
    have A13 := Aside0.mk A130
    clear A130
    replace H := Option.bind_eq_some_iff.mp H
    obtain ⟨⟨t415, t416⟩, A140, H⟩ := H
    replace H : ((laws_exact.f t406).bind fun bt417 => ((laws_exact.f t412).bind fun bt419 => (if t414 = true then (if t416 = true then (if bt417.2 = true then (if bt419.2 = true then (some ((wrap64 (t413 + t415)) == (wrap64 (bt417.1 + bt419.1)))) else (some true)) else (some true)) else (some true)) else (some true)))) = some r := H
    have A14 := Aside0.mk A140
    clear A140
    replace H := Option.bind_eq_some_iff.mp H
    obtain ⟨⟨t417, t418⟩, A150, H⟩ := H
    replace H : ((laws_exact.f t412).bind fun bt419 => (if t414 = true then (if t416 = true then (if t418 = true then (if bt419.2 = true then (some ((wrap64 (t413 + t415)) == (wrap64 (t417 + bt419.1)))) else (some true)) else (some true)) else (some true)) else (some true))) = some r := H
    have A15 := Aside0.mk A150
    clear A150
    replace H := Option.bind_eq_some_iff.mp H
    obtain ⟨⟨t419, t420⟩, A160, H⟩ := H
    replace H : (if t414 = true then (if t416 = true then (if t418 = true then (if t420 = true then (some ((wrap64 (t413 + t415)) == (wrap64 (t417 + t419)))) else (some true)) else (some true)) else (some true)) else (some true)) = some r := H
    have A16 := Aside0.mk A160
    clear A160
    by_cases c17 : t414 = true
    ·
     subst c17
     have H1 : (if t416 = true then (if t418 = true then (if t420 = true then (some ((wrap64 (t413 + t415)) == (wrap64 (t417 + t419)))) else (some true)) else (some true)) else (some true)) = some r := by rw [if_pos rfl] at H; exact H
     clear H
     have H := H1
     clear H1
     by_cases c18 : t416 = true
     ·
      subst c18
      have H1 : (if t418 = true then (if t420 = true then (some ((wrap64 (t413 + t415)) == (wrap64 (t417 + t419)))) else (some true)) else (some true)) = some r := by rw [if_pos rfl] at H; exact H
      clear H
      have H := H1
      clear H1
      by_cases c19 : t418 = true
      ·
       subst c19
       have H1 : (if t420 = true then (some ((wrap64 (t413 + t415)) == (wrap64 (t417 + t419)))) else (some true)) = some r := by rw [if_pos rfl] at H; exact H
       clear H
       have H := H1
       clear H1
       by_cases c20 : t420 = true
       ·
        subst c20
        have H1 : (some ((wrap64 (t413 + t415)) == (wrap64 (t417 + t419)))) = some r := by rw [if_pos rfl] at H; exact H
        clear H
        have H := H1
        clear H1
        obtain rfl := Option.some.inj H
        simp only [Option.some.injEq, Prod.mk.injEq] at H
        obtain ⟨rfl⟩ := H
        go_enter Try.func13, Try.ntmps13
        go_wp2_with (first | ((with_reducible refine gate_callee (f := 40) rfl ?_); refine goesL_ (some 22) rfl rfl Try.func40 (by kernel_rfl) rfl #[.slice A0 l0.length c0] rfl ar ?_; (with_reducible refine (spec_DrawFSub.calls k _ _ l0 t403 t404 t405 _ ?side1 ?side2 A3.out).mono ?_); (case side1 => repeat (first | exact HR0.out | (with_reducible refine Kd.C_alloc ?_ _) | (with_reducible refine Kd.C_drewN ?_ _) | (with_reducible refine Kd.C_drew ?_))); (case side2 => exact HC0.out); rintro e w21 ⟨rfl, hb⟩; refine ⟨_, rfl, ?_⟩; have n0_ := Aside0.mk (below_step (bw HB.out) hb); clear HB; have HB := n0_; clear n0_; (try clear hb)) | ((with_reducible refine gate_callee (f := 27) rfl ?_); refine goesL_ (some 29) rfl rfl Try.func27 (by kernel_rfl) rfl #[.int .i64 t403, .int .u32 t404, .int .u32 t405] rfl ar ?_; (with_reducible refine (impl_FAdd.calls k t403 t404 t405 t406 _ A4.out).mono ?_); rintro e w22 ⟨rfl, hb⟩; refine ⟨_, rfl, ?_⟩; have n0_ := Aside0.mk (below_step (bw HB.out) hb); clear HB; have HB := n0_; clear n0_; (try clear hb)) | ((with_reducible refine gate_callee (f := 26) rfl ?_); refine goesL_ (some 34) rfl rfl Try.func26 (by kernel_rfl) rfl #[.int .i64 t403, .int .u32 t404, .int .u32 t405] rfl ar ?_; (with_reducible refine (spec_FAdd.calls k t403 t404 t405 t407 _ A5.out).mono ?_); rintro e w23 ⟨rfl, hb⟩; refine ⟨_, rfl, ?_⟩; have n0_ := Aside0.mk (below_step (bw HB.out) hb); clear HB; have HB := n0_; clear n0_; (try clear hb)) | ((with_reducible refine gate_callee (f := 31) rfl ?_); refine goesL_ (some 41) rfl rfl Try.func31 (by kernel_rfl) rfl #[.int .i64 t403, .int .u32 t406, .int .u32 t404] rfl ar ?_; (with_reducible refine (impl_FSub.calls k t403 t406 t404 t408 _ A8.out).mono ?_); rintro e w24 ⟨rfl, hb⟩; refine ⟨_, rfl, ?_⟩; have n0_ := Aside0.mk (below_step (bw HB.out) hb); clear HB; have HB := n0_; clear n0_; (try clear hb)) | ((with_reducible refine gate_callee (f := 31) rfl ?_); refine goesL_ (some 48) rfl rfl Try.func31 (by kernel_rfl) rfl #[.int .i64 t403, .int .u32 t406, .int .u32 t408] rfl ar ?_; (with_reducible refine (impl_FSub.calls k t403 t406 t408 t409 _ A9.out).mono ?_); rintro e w25 ⟨rfl, hb⟩; refine ⟨_, rfl, ?_⟩; have n0_ := Aside0.mk (below_step (bw HB.out) hb); clear HB; have HB := n0_; clear n0_; (try clear hb)) | ((with_reducible refine gate_callee (f := 31) rfl ?_); refine goesL_ (some 49) rfl rfl Try.func31 (by kernel_rfl) rfl #[.int .i64 t403, .int .u32 t404, .int .u32 t409] rfl ar ?_; (with_reducible refine (impl_FSub.calls k t403 t404 t409 t410 _ A10.out).mono ?_); rintro e w26 ⟨rfl, hb⟩; refine ⟨_, rfl, ?_⟩; have n0_ := Aside0.mk (below_step (bw HB.out) hb); clear HB; have HB := n0_; clear n0_; (try clear hb)) | ((with_reducible refine gate_callee (f := 31) rfl ?_); refine goesL_ (some 53) rfl rfl Try.func31 (by kernel_rfl) rfl #[.int .i64 t403, .int .u32 t405, .int .u32 t408] rfl ar ?_; (with_reducible refine (impl_FSub.calls k t403 t405 t408 t411 _ A11.out).mono ?_); rintro e w27 ⟨rfl, hb⟩; refine ⟨_, rfl, ?_⟩; have n0_ := Aside0.mk (below_step (bw HB.out) hb); clear HB; have HB := n0_; clear n0_; (try clear hb)) | ((with_reducible refine gate_callee (f := 27) rfl ?_); refine goesL_ (some 54) rfl rfl Try.func27 (by kernel_rfl) rfl #[.int .i64 t403, .int .u32 t410, .int .u32 t411] rfl ar ?_; (with_reducible refine (impl_FAdd.calls k t403 t410 t411 t412 _ A12.out).mono ?_); rintro e w28 ⟨rfl, hb⟩; refine ⟨_, rfl, ?_⟩; have n0_ := Aside0.mk (below_step (bw HB.out) hb); clear HB; have HB := n0_; clear n0_; (try clear hb)) | ((with_reducible refine gate_callee (f := 39) rfl ?_); refine goesL_ (some 57) rfl rfl Try.func39 (by kernel_rfl) rfl #[.int .u32 t404] rfl ar ?_; (with_reducible refine (laws_exact.calls t404 t413 true _ A13.out).mono ?_); rintro e w29 ⟨rfl, hb⟩; refine ⟨_, rfl, ?_⟩; have n0_ := Aside0.mk (below_step (bw HB.out) hb); clear HB; have HB := n0_; clear n0_; (try clear hb)) | ((with_reducible refine gate_callee (f := 39) rfl ?_); refine goesL_ (some 62) rfl rfl Try.func39 (by kernel_rfl) rfl #[.int .u32 t405] rfl ar ?_; (with_reducible refine (laws_exact.calls t405 t415 true _ A14.out).mono ?_); rintro e w30 ⟨rfl, hb⟩; refine ⟨_, rfl, ?_⟩; have n0_ := Aside0.mk (below_step (bw HB.out) hb); clear HB; have HB := n0_; clear n0_; (try clear hb)) | ((with_reducible refine gate_callee (f := 39) rfl ?_); refine goesL_ (some 67) rfl rfl Try.func39 (by kernel_rfl) rfl #[.int .u32 t406] rfl ar ?_; (with_reducible refine (laws_exact.calls t406 t417 true _ A15.out).mono ?_); rintro e w31 ⟨rfl, hb⟩; refine ⟨_, rfl, ?_⟩; have n0_ := Aside0.mk (below_step (bw HB.out) hb); clear HB; have HB := n0_; clear n0_; (try clear hb)) | ((with_reducible refine gate_callee (f := 39) rfl ?_); refine goesL_ (some 72) rfl rfl Try.func39 (by kernel_rfl) rfl #[.int .u32 t412] rfl ar ?_; (with_reducible refine (laws_exact.calls t412 t419 true _ A16.out).mono ?_); rintro e w32 ⟨rfl, hb⟩; refine ⟨_, rfl, ?_⟩; have n0_ := Aside0.mk (below_step (bw HB.out) hb); clear HB; have HB := n0_; clear n0_; (try clear hb)))
        go_ret
        exact ⟨by first | rfl | (simp [errW_none, errW_some] <;> rfl) | (simp [*, errW_none, errW_some] <;> rfl), bw HB.out⟩
       ·
        replace c20 := Bool.eq_false_iff.mpr c20
        subst c20
        have H1 : (some true) = some r := by rw [if_neg (show ¬ (false = true) by decide)] at H; exact H
        clear H
        have H := H1
        clear H1
        obtain rfl := Option.some.inj H
        simp only [Option.some.injEq, Prod.mk.injEq] at H
        obtain ⟨rfl⟩ := H
        go_enter Try.func13, Try.ntmps13
        go_wp2_with (first | ((with_reducible refine gate_callee (f := 40) rfl ?_); refine goesL_ (some 22) rfl rfl Try.func40 (by kernel_rfl) rfl #[.slice A0 l0.length c0] rfl ar ?_; (with_reducible refine (spec_DrawFSub.calls k _ _ l0 t403 t404 t405 _ ?side1 ?side2 A3.out).mono ?_); (case side1 => repeat (first | exact HR0.out | (with_reducible refine Kd.C_alloc ?_ _) | (with_reducible refine Kd.C_drewN ?_ _) | (with_reducible refine Kd.C_drew ?_))); (case side2 => exact HC0.out); rintro e w33 ⟨rfl, hb⟩; refine ⟨_, rfl, ?_⟩; have n0_ := Aside0.mk (below_step (bw HB.out) hb); clear HB; have HB := n0_; clear n0_; (try clear hb)) | ((with_reducible refine gate_callee (f := 27) rfl ?_); refine goesL_ (some 29) rfl rfl Try.func27 (by kernel_rfl) rfl #[.int .i64 t403, .int .u32 t404, .int .u32 t405] rfl ar ?_; (with_reducible refine (impl_FAdd.calls k t403 t404 t405 t406 _ A4.out).mono ?_); rintro e w34 ⟨rfl, hb⟩; refine ⟨_, rfl, ?_⟩; have n0_ := Aside0.mk (below_step (bw HB.out) hb); clear HB; have HB := n0_; clear n0_; (try clear hb)) | ((with_reducible refine gate_callee (f := 26) rfl ?_); refine goesL_ (some 34) rfl rfl Try.func26 (by kernel_rfl) rfl #[.int .i64 t403, .int .u32 t404, .int .u32 t405] rfl ar ?_; (with_reducible refine (spec_FAdd.calls k t403 t404 t405 t407 _ A5.out).mono ?_); rintro e w35 ⟨rfl, hb⟩; refine ⟨_, rfl, ?_⟩; have n0_ := Aside0.mk (below_step (bw HB.out) hb); clear HB; have HB := n0_; clear n0_; (try clear hb)) | ((with_reducible refine gate_callee (f := 31) rfl ?_); refine goesL_ (some 41) rfl rfl Try.func31 (by kernel_rfl) rfl #[.int .i64 t403, .int .u32 t406, .int .u32 t404] rfl ar ?_; (with_reducible refine (impl_FSub.calls k t403 t406 t404 t408 _ A8.out).mono ?_); rintro e w36 ⟨rfl, hb⟩; refine ⟨_, rfl, ?_⟩; have n0_ := Aside0.mk (below_step (bw HB.out) hb); clear HB; have HB := n0_; clear n0_; (try clear hb)) | ((with_reducible refine gate_callee (f := 31) rfl ?_); refine goesL_ (some 48) rfl rfl Try.func31 (by kernel_rfl) rfl #[.int .i64 t403, .int .u32 t406, .int .u32 t408] rfl ar ?_; (with_reducible refine (impl_FSub.calls k t403 t406 t408 t409 _ A9.out).mono ?_); rintro e w37 ⟨rfl, hb⟩; refine ⟨_, rfl, ?_⟩; have n0_ := Aside0.mk (below_step (bw HB.out) hb); clear HB; have HB := n0_; clear n0_; (try clear hb)) | ((with_reducible refine gate_callee (f := 31) rfl ?_); refine goesL_ (some 49) rfl rfl Try.func31 (by kernel_rfl) rfl #[.int .i64 t403, .int .u32 t404, .int .u32 t409] rfl ar ?_; (with_reducible refine (impl_FSub.calls k t403 t404 t409 t410 _ A10.out).mono ?_); rintro e w38 ⟨rfl, hb⟩; refine ⟨_, rfl, ?_⟩; have n0_ := Aside0.mk (below_step (bw HB.out) hb); clear HB; have HB := n0_; clear n0_; (try clear hb)) | ((with_reducible refine gate_callee (f := 31) rfl ?_); refine goesL_ (some 53) rfl rfl Try.func31 (by kernel_rfl) rfl #[.int .i64 t403, .int .u32 t405, .int .u32 t408] rfl ar ?_; (with_reducible refine (impl_FSub.calls k t403 t405 t408 t411 _ A11.out).mono ?_); rintro e w39 ⟨rfl, hb⟩; refine ⟨_, rfl, ?_⟩; have n0_ := Aside0.mk (below_step (bw HB.out) hb); clear HB; have HB := n0_; clear n0_; (try clear hb)) | ((with_reducible refine gate_callee (f := 27) rfl ?_); refine goesL_ (some 54) rfl rfl Try.func27 (by kernel_rfl) rfl #[.int .i64 t403, .int .u32 t410, .int .u32 t411] rfl ar ?_; (with_reducible refine (impl_FAdd.calls k t403 t410 t411 t412 _ A12.out).mono ?_); rintro e w40 ⟨rfl, hb⟩; refine ⟨_, rfl, ?_⟩; have n0_ := Aside0.mk (below_step (bw HB.out) hb); clear HB; have HB := n0_; clear n0_; (try clear hb)) | ((with_reducible refine gate_callee (f := 39) rfl ?_); refine goesL_ (some 57) rfl rfl Try.func39 (by kernel_rfl) rfl #[.int .u32 t404] rfl ar ?_; (with_reducible refine (laws_exact.calls t404 t413 true _ A13.out).mono ?_); rintro e w41 ⟨rfl, hb⟩; refine ⟨_, rfl, ?_⟩; have n0_ := Aside0.mk (below_step (bw HB.out) hb); clear HB; have HB := n0_; clear n0_; (try clear hb)) | ((with_reducible refine gate_callee (f := 39) rfl ?_); refine goesL_ (some 62) rfl rfl Try.func39 (by kernel_rfl) rfl #[.int .u32 t405] rfl ar ?_; (with_reducible refine (laws_exact.calls t405 t415 true _ A14.out).mono ?_); rintro e w42 ⟨rfl, hb⟩; refine ⟨_, rfl, ?_⟩; have n0_ := Aside0.mk (below_step (bw HB.out) hb); clear HB; have HB := n0_; clear n0_; (try clear hb)) | ((with_reducible refine gate_callee (f := 39) rfl ?_); refine goesL_ (some 67) rfl rfl Try.func39 (by kernel_rfl) rfl #[.int .u32 t406] rfl ar ?_; (with_reducible refine (laws_exact.calls t406 t417 true _ A15.out).mono ?_); rintro e w43 ⟨rfl, hb⟩; refine ⟨_, rfl, ?_⟩; have n0_ := Aside0.mk (below_step (bw HB.out) hb); clear HB; have HB := n0_; clear n0_; (try clear hb)) | ((with_reducible refine gate_callee (f := 39) rfl ?_); refine goesL_ (some 72) rfl rfl Try.func39 (by kernel_rfl) rfl #[.int .u32 t412] rfl ar ?_; (with_reducible refine (laws_exact.calls t412 t419 false _ A16.out).mono ?_); rintro e w44 ⟨rfl, hb⟩; refine ⟨_, rfl, ?_⟩; have n0_ := Aside0.mk (below_step (bw HB.out) hb); clear HB; have HB := n0_; clear n0_; (try clear hb)))
        go_ret
        exact ⟨by first | rfl | (simp [errW_none, errW_some] <;> rfl) | (simp [*, errW_none, errW_some] <;> rfl), bw HB.out⟩
      ·
       replace c19 := Bool.eq_false_iff.mpr c19
       subst c19
       have H1 : (some true) = some r := by rw [if_neg (show ¬ (false = true) by decide)] at H; exact H
       clear H
       have H := H1
       clear H1
       obtain rfl := Option.some.inj H
       simp only [Option.some.injEq, Prod.mk.injEq] at H
       obtain ⟨rfl⟩ := H
       go_enter Try.func13, Try.ntmps13
       go_wp2_with (first | ((with_reducible refine gate_callee (f := 40) rfl ?_); refine goesL_ (some 22) rfl rfl Try.func40 (by kernel_rfl) rfl #[.slice A0 l0.length c0] rfl ar ?_; (with_reducible refine (spec_DrawFSub.calls k _ _ l0 t403 t404 t405 _ ?side1 ?side2 A3.out).mono ?_); (case side1 => repeat (first | exact HR0.out | (with_reducible refine Kd.C_alloc ?_ _) | (with_reducible refine Kd.C_drewN ?_ _) | (with_reducible refine Kd.C_drew ?_))); (case side2 => exact HC0.out); rintro e w45 ⟨rfl, hb⟩; refine ⟨_, rfl, ?_⟩; have n0_ := Aside0.mk (below_step (bw HB.out) hb); clear HB; have HB := n0_; clear n0_; (try clear hb)) | ((with_reducible refine gate_callee (f := 27) rfl ?_); refine goesL_ (some 29) rfl rfl Try.func27 (by kernel_rfl) rfl #[.int .i64 t403, .int .u32 t404, .int .u32 t405] rfl ar ?_; (with_reducible refine (impl_FAdd.calls k t403 t404 t405 t406 _ A4.out).mono ?_); rintro e w46 ⟨rfl, hb⟩; refine ⟨_, rfl, ?_⟩; have n0_ := Aside0.mk (below_step (bw HB.out) hb); clear HB; have HB := n0_; clear n0_; (try clear hb)) | ((with_reducible refine gate_callee (f := 26) rfl ?_); refine goesL_ (some 34) rfl rfl Try.func26 (by kernel_rfl) rfl #[.int .i64 t403, .int .u32 t404, .int .u32 t405] rfl ar ?_; (with_reducible refine (spec_FAdd.calls k t403 t404 t405 t407 _ A5.out).mono ?_); rintro e w47 ⟨rfl, hb⟩; refine ⟨_, rfl, ?_⟩; have n0_ := Aside0.mk (below_step (bw HB.out) hb); clear HB; have HB := n0_; clear n0_; (try clear hb)) | ((with_reducible refine gate_callee (f := 31) rfl ?_); refine goesL_ (some 41) rfl rfl Try.func31 (by kernel_rfl) rfl #[.int .i64 t403, .int .u32 t406, .int .u32 t404] rfl ar ?_; (with_reducible refine (impl_FSub.calls k t403 t406 t404 t408 _ A8.out).mono ?_); rintro e w48 ⟨rfl, hb⟩; refine ⟨_, rfl, ?_⟩; have n0_ := Aside0.mk (below_step (bw HB.out) hb); clear HB; have HB := n0_; clear n0_; (try clear hb)) | ((with_reducible refine gate_callee (f := 31) rfl ?_); refine goesL_ (some 48) rfl rfl Try.func31 (by kernel_rfl) rfl #[.int .i64 t403, .int .u32 t406, .int .u32 t408] rfl ar ?_; (with_reducible refine (impl_FSub.calls k t403 t406 t408 t409 _ A9.out).mono ?_); rintro e w49 ⟨rfl, hb⟩; refine ⟨_, rfl, ?_⟩; have n0_ := Aside0.mk (below_step (bw HB.out) hb); clear HB; have HB := n0_; clear n0_; (try clear hb)) | ((with_reducible refine gate_callee (f := 31) rfl ?_); refine goesL_ (some 49) rfl rfl Try.func31 (by kernel_rfl) rfl #[.int .i64 t403, .int .u32 t404, .int .u32 t409] rfl ar ?_; (with_reducible refine (impl_FSub.calls k t403 t404 t409 t410 _ A10.out).mono ?_); rintro e w50 ⟨rfl, hb⟩; refine ⟨_, rfl, ?_⟩; have n0_ := Aside0.mk (below_step (bw HB.out) hb); clear HB; have HB := n0_; clear n0_; (try clear hb)) | ((with_reducible refine gate_callee (f := 31) rfl ?_); refine goesL_ (some 53) rfl rfl Try.func31 (by kernel_rfl) rfl #[.int .i64 t403, .int .u32 t405, .int .u32 t408] rfl ar ?_; (with_reducible refine (impl_FSub.calls k t403 t405 t408 t411 _ A11.out).mono ?_); rintro e w51 ⟨rfl, hb⟩; refine ⟨_, rfl, ?_⟩; have n0_ := Aside0.mk (below_step (bw HB.out) hb); clear HB; have HB := n0_; clear n0_; (try clear hb)) | ((with_reducible refine gate_callee (f := 27) rfl ?_); refine goesL_ (some 54) rfl rfl Try.func27 (by kernel_rfl) rfl #[.int .i64 t403, .int .u32 t410, .int .u32 t411] rfl ar ?_; (with_reducible refine (impl_FAdd.calls k t403 t410 t411 t412 _ A12.out).mono ?_); rintro e w52 ⟨rfl, hb⟩; refine ⟨_, rfl, ?_⟩; have n0_ := Aside0.mk (below_step (bw HB.out) hb); clear HB; have HB := n0_; clear n0_; (try clear hb)) | ((with_reducible refine gate_callee (f := 39) rfl ?_); refine goesL_ (some 57) rfl rfl Try.func39 (by kernel_rfl) rfl #[.int .u32 t404] rfl ar ?_; (with_reducible refine (laws_exact.calls t404 t413 true _ A13.out).mono ?_); rintro e w53 ⟨rfl, hb⟩; refine ⟨_, rfl, ?_⟩; have n0_ := Aside0.mk (below_step (bw HB.out) hb); clear HB; have HB := n0_; clear n0_; (try clear hb)) | ((with_reducible refine gate_callee (f := 39) rfl ?_); refine goesL_ (some 62) rfl rfl Try.func39 (by kernel_rfl) rfl #[.int .u32 t405] rfl ar ?_; (with_reducible refine (laws_exact.calls t405 t415 true _ A14.out).mono ?_); rintro e w54 ⟨rfl, hb⟩; refine ⟨_, rfl, ?_⟩; have n0_ := Aside0.mk (below_step (bw HB.out) hb); clear HB; have HB := n0_; clear n0_; (try clear hb)) | ((with_reducible refine gate_callee (f := 39) rfl ?_); refine goesL_ (some 67) rfl rfl Try.func39 (by kernel_rfl) rfl #[.int .u32 t406] rfl ar ?_; (with_reducible refine (laws_exact.calls t406 t417 false _ A15.out).mono ?_); rintro e w55 ⟨rfl, hb⟩; refine ⟨_, rfl, ?_⟩; have n0_ := Aside0.mk (below_step (bw HB.out) hb); clear HB; have HB := n0_; clear n0_; (try clear hb)) | ((with_reducible refine gate_callee (f := 39) rfl ?_); refine goesL_ (some 72) rfl rfl Try.func39 (by kernel_rfl) rfl #[.int .u32 t412] rfl ar ?_; (with_reducible refine (laws_exact.calls t412 t419 t420 _ A16.out).mono ?_); rintro e w56 ⟨rfl, hb⟩; refine ⟨_, rfl, ?_⟩; have n0_ := Aside0.mk (below_step (bw HB.out) hb); clear HB; have HB := n0_; clear n0_; (try clear hb)))
       go_ret
       exact ⟨by first | rfl | (simp [errW_none, errW_some] <;> rfl) | (simp [*, errW_none, errW_some] <;> rfl), bw HB.out⟩
     ·
      replace c18 := Bool.eq_false_iff.mpr c18
      subst c18
      have H1 : (some true) = some r := by rw [if_neg (show ¬ (false = true) by decide)] at H; exact H
      clear H
      have H := H1
      clear H1
      obtain rfl := Option.some.inj H
      simp only [Option.some.injEq, Prod.mk.injEq] at H
      obtain ⟨rfl⟩ := H
      go_enter Try.func13, Try.ntmps13
      go_wp2_with (first | ((with_reducible refine gate_callee (f := 40) rfl ?_); refine goesL_ (some 22) rfl rfl Try.func40 (by kernel_rfl) rfl #[.slice A0 l0.length c0] rfl ar ?_; (with_reducible refine (spec_DrawFSub.calls k _ _ l0 t403 t404 t405 _ ?side1 ?side2 A3.out).mono ?_); (case side1 => repeat (first | exact HR0.out | (with_reducible refine Kd.C_alloc ?_ _) | (with_reducible refine Kd.C_drewN ?_ _) | (with_reducible refine Kd.C_drew ?_))); (case side2 => exact HC0.out); rintro e w57 ⟨rfl, hb⟩; refine ⟨_, rfl, ?_⟩; have n0_ := Aside0.mk (below_step (bw HB.out) hb); clear HB; have HB := n0_; clear n0_; (try clear hb)) | ((with_reducible refine gate_callee (f := 27) rfl ?_); refine goesL_ (some 29) rfl rfl Try.func27 (by kernel_rfl) rfl #[.int .i64 t403, .int .u32 t404, .int .u32 t405] rfl ar ?_; (with_reducible refine (impl_FAdd.calls k t403 t404 t405 t406 _ A4.out).mono ?_); rintro e w58 ⟨rfl, hb⟩; refine ⟨_, rfl, ?_⟩; have n0_ := Aside0.mk (below_step (bw HB.out) hb); clear HB; have HB := n0_; clear n0_; (try clear hb)) | ((with_reducible refine gate_callee (f := 26) rfl ?_); refine goesL_ (some 34) rfl rfl Try.func26 (by kernel_rfl) rfl #[.int .i64 t403, .int .u32 t404, .int .u32 t405] rfl ar ?_; (with_reducible refine (spec_FAdd.calls k t403 t404 t405 t407 _ A5.out).mono ?_); rintro e w59 ⟨rfl, hb⟩; refine ⟨_, rfl, ?_⟩; have n0_ := Aside0.mk (below_step (bw HB.out) hb); clear HB; have HB := n0_; clear n0_; (try clear hb)) | ((with_reducible refine gate_callee (f := 31) rfl ?_); refine goesL_ (some 41) rfl rfl Try.func31 (by kernel_rfl) rfl #[.int .i64 t403, .int .u32 t406, .int .u32 t404] rfl ar ?_; (with_reducible refine (impl_FSub.calls k t403 t406 t404 t408 _ A8.out).mono ?_); rintro e w60 ⟨rfl, hb⟩; refine ⟨_, rfl, ?_⟩; have n0_ := Aside0.mk (below_step (bw HB.out) hb); clear HB; have HB := n0_; clear n0_; (try clear hb)) | ((with_reducible refine gate_callee (f := 31) rfl ?_); refine goesL_ (some 48) rfl rfl Try.func31 (by kernel_rfl) rfl #[.int .i64 t403, .int .u32 t406, .int .u32 t408] rfl ar ?_; (with_reducible refine (impl_FSub.calls k t403 t406 t408 t409 _ A9.out).mono ?_); rintro e w61 ⟨rfl, hb⟩; refine ⟨_, rfl, ?_⟩; have n0_ := Aside0.mk (below_step (bw HB.out) hb); clear HB; have HB := n0_; clear n0_; (try clear hb)) | ((with_reducible refine gate_callee (f := 31) rfl ?_); refine goesL_ (some 49) rfl rfl Try.func31 (by kernel_rfl) rfl #[.int .i64 t403, .int .u32 t404, .int .u32 t409] rfl ar ?_; (with_reducible refine (impl_FSub.calls k t403 t404 t409 t410 _ A10.out).mono ?_); rintro e w62 ⟨rfl, hb⟩; refine ⟨_, rfl, ?_⟩; have n0_ := Aside0.mk (below_step (bw HB.out) hb); clear HB; have HB := n0_; clear n0_; (try clear hb)) | ((with_reducible refine gate_callee (f := 31) rfl ?_); refine goesL_ (some 53) rfl rfl Try.func31 (by kernel_rfl) rfl #[.int .i64 t403, .int .u32 t405, .int .u32 t408] rfl ar ?_; (with_reducible refine (impl_FSub.calls k t403 t405 t408 t411 _ A11.out).mono ?_); rintro e w63 ⟨rfl, hb⟩; refine ⟨_, rfl, ?_⟩; have n0_ := Aside0.mk (below_step (bw HB.out) hb); clear HB; have HB := n0_; clear n0_; (try clear hb)) | ((with_reducible refine gate_callee (f := 27) rfl ?_); refine goesL_ (some 54) rfl rfl Try.func27 (by kernel_rfl) rfl #[.int .i64 t403, .int .u32 t410, .int .u32 t411] rfl ar ?_; (with_reducible refine (impl_FAdd.calls k t403 t410 t411 t412 _ A12.out).mono ?_); rintro e w64 ⟨rfl, hb⟩; refine ⟨_, rfl, ?_⟩; have n0_ := Aside0.mk (below_step (bw HB.out) hb); clear HB; have HB := n0_; clear n0_; (try clear hb)) | ((with_reducible refine gate_callee (f := 39) rfl ?_); refine goesL_ (some 57) rfl rfl Try.func39 (by kernel_rfl) rfl #[.int .u32 t404] rfl ar ?_; (with_reducible refine (laws_exact.calls t404 t413 true _ A13.out).mono ?_); rintro e w65 ⟨rfl, hb⟩; refine ⟨_, rfl, ?_⟩; have n0_ := Aside0.mk (below_step (bw HB.out) hb); clear HB; have HB := n0_; clear n0_; (try clear hb)) | ((with_reducible refine gate_callee (f := 39) rfl ?_); refine goesL_ (some 62) rfl rfl Try.func39 (by kernel_rfl) rfl #[.int .u32 t405] rfl ar ?_; (with_reducible refine (laws_exact.calls t405 t415 false _ A14.out).mono ?_); rintro e w66 ⟨rfl, hb⟩; refine ⟨_, rfl, ?_⟩; have n0_ := Aside0.mk (below_step (bw HB.out) hb); clear HB; have HB := n0_; clear n0_; (try clear hb)) | ((with_reducible refine gate_callee (f := 39) rfl ?_); refine goesL_ (some 67) rfl rfl Try.func39 (by kernel_rfl) rfl #[.int .u32 t406] rfl ar ?_; (with_reducible refine (laws_exact.calls t406 t417 t418 _ A15.out).mono ?_); rintro e w67 ⟨rfl, hb⟩; refine ⟨_, rfl, ?_⟩; have n0_ := Aside0.mk (below_step (bw HB.out) hb); clear HB; have HB := n0_; clear n0_; (try clear hb)) | ((with_reducible refine gate_callee (f := 39) rfl ?_); refine goesL_ (some 72) rfl rfl Try.func39 (by kernel_rfl) rfl #[.int .u32 t412] rfl ar ?_; (with_reducible refine (laws_exact.calls t412 t419 t420 _ A16.out).mono ?_); rintro e w68 ⟨rfl, hb⟩; refine ⟨_, rfl, ?_⟩; have n0_ := Aside0.mk (below_step (bw HB.out) hb); clear HB; have HB := n0_; clear n0_; (try clear hb)))
      go_ret
      exact ⟨by first | rfl | (simp [errW_none, errW_some] <;> rfl) | (simp [*, errW_none, errW_some] <;> rfl), bw HB.out⟩
    ·
     replace c17 := Bool.eq_false_iff.mpr c17
     subst c17
     have H1 : (some true) = some r := by rw [if_neg (show ¬ (false = true) by decide)] at H; exact H
     clear H
     have H := H1
     clear H1
     obtain rfl := Option.some.inj H
     simp only [Option.some.injEq, Prod.mk.injEq] at H
     obtain ⟨rfl⟩ := H
     go_enter Try.func13, Try.ntmps13
     go_wp2_with (first | ((with_reducible refine gate_callee (f := 40) rfl ?_); refine goesL_ (some 22) rfl rfl Try.func40 (by kernel_rfl) rfl #[.slice A0 l0.length c0] rfl ar ?_; (with_reducible refine (spec_DrawFSub.calls k _ _ l0 t403 t404 t405 _ ?side1 ?side2 A3.out).mono ?_); (case side1 => repeat (first | exact HR0.out | (with_reducible refine Kd.C_alloc ?_ _) | (with_reducible refine Kd.C_drewN ?_ _) | (with_reducible refine Kd.C_drew ?_))); (case side2 => exact HC0.out); rintro e w69 ⟨rfl, hb⟩; refine ⟨_, rfl, ?_⟩; have n0_ := Aside0.mk (below_step (bw HB.out) hb); clear HB; have HB := n0_; clear n0_; (try clear hb)) | ((with_reducible refine gate_callee (f := 27) rfl ?_); refine goesL_ (some 29) rfl rfl Try.func27 (by kernel_rfl) rfl #[.int .i64 t403, .int .u32 t404, .int .u32 t405] rfl ar ?_; (with_reducible refine (impl_FAdd.calls k t403 t404 t405 t406 _ A4.out).mono ?_); rintro e w70 ⟨rfl, hb⟩; refine ⟨_, rfl, ?_⟩; have n0_ := Aside0.mk (below_step (bw HB.out) hb); clear HB; have HB := n0_; clear n0_; (try clear hb)) | ((with_reducible refine gate_callee (f := 26) rfl ?_); refine goesL_ (some 34) rfl rfl Try.func26 (by kernel_rfl) rfl #[.int .i64 t403, .int .u32 t404, .int .u32 t405] rfl ar ?_; (with_reducible refine (spec_FAdd.calls k t403 t404 t405 t407 _ A5.out).mono ?_); rintro e w71 ⟨rfl, hb⟩; refine ⟨_, rfl, ?_⟩; have n0_ := Aside0.mk (below_step (bw HB.out) hb); clear HB; have HB := n0_; clear n0_; (try clear hb)) | ((with_reducible refine gate_callee (f := 31) rfl ?_); refine goesL_ (some 41) rfl rfl Try.func31 (by kernel_rfl) rfl #[.int .i64 t403, .int .u32 t406, .int .u32 t404] rfl ar ?_; (with_reducible refine (impl_FSub.calls k t403 t406 t404 t408 _ A8.out).mono ?_); rintro e w72 ⟨rfl, hb⟩; refine ⟨_, rfl, ?_⟩; have n0_ := Aside0.mk (below_step (bw HB.out) hb); clear HB; have HB := n0_; clear n0_; (try clear hb)) | ((with_reducible refine gate_callee (f := 31) rfl ?_); refine goesL_ (some 48) rfl rfl Try.func31 (by kernel_rfl) rfl #[.int .i64 t403, .int .u32 t406, .int .u32 t408] rfl ar ?_; (with_reducible refine (impl_FSub.calls k t403 t406 t408 t409 _ A9.out).mono ?_); rintro e w73 ⟨rfl, hb⟩; refine ⟨_, rfl, ?_⟩; have n0_ := Aside0.mk (below_step (bw HB.out) hb); clear HB; have HB := n0_; clear n0_; (try clear hb)) | ((with_reducible refine gate_callee (f := 31) rfl ?_); refine goesL_ (some 49) rfl rfl Try.func31 (by kernel_rfl) rfl #[.int .i64 t403, .int .u32 t404, .int .u32 t409] rfl ar ?_; (with_reducible refine (impl_FSub.calls k t403 t404 t409 t410 _ A10.out).mono ?_); rintro e w74 ⟨rfl, hb⟩; refine ⟨_, rfl, ?_⟩; have n0_ := Aside0.mk (below_step (bw HB.out) hb); clear HB; have HB := n0_; clear n0_; (try clear hb)) | ((with_reducible refine gate_callee (f := 31) rfl ?_); refine goesL_ (some 53) rfl rfl Try.func31 (by kernel_rfl) rfl #[.int .i64 t403, .int .u32 t405, .int .u32 t408] rfl ar ?_; (with_reducible refine (impl_FSub.calls k t403 t405 t408 t411 _ A11.out).mono ?_); rintro e w75 ⟨rfl, hb⟩; refine ⟨_, rfl, ?_⟩; have n0_ := Aside0.mk (below_step (bw HB.out) hb); clear HB; have HB := n0_; clear n0_; (try clear hb)) | ((with_reducible refine gate_callee (f := 27) rfl ?_); refine goesL_ (some 54) rfl rfl Try.func27 (by kernel_rfl) rfl #[.int .i64 t403, .int .u32 t410, .int .u32 t411] rfl ar ?_; (with_reducible refine (impl_FAdd.calls k t403 t410 t411 t412 _ A12.out).mono ?_); rintro e w76 ⟨rfl, hb⟩; refine ⟨_, rfl, ?_⟩; have n0_ := Aside0.mk (below_step (bw HB.out) hb); clear HB; have HB := n0_; clear n0_; (try clear hb)) | ((with_reducible refine gate_callee (f := 39) rfl ?_); refine goesL_ (some 57) rfl rfl Try.func39 (by kernel_rfl) rfl #[.int .u32 t404] rfl ar ?_; (with_reducible refine (laws_exact.calls t404 t413 false _ A13.out).mono ?_); rintro e w77 ⟨rfl, hb⟩; refine ⟨_, rfl, ?_⟩; have n0_ := Aside0.mk (below_step (bw HB.out) hb); clear HB; have HB := n0_; clear n0_; (try clear hb)) | ((with_reducible refine gate_callee (f := 39) rfl ?_); refine goesL_ (some 62) rfl rfl Try.func39 (by kernel_rfl) rfl #[.int .u32 t405] rfl ar ?_; (with_reducible refine (laws_exact.calls t405 t415 t416 _ A14.out).mono ?_); rintro e w78 ⟨rfl, hb⟩; refine ⟨_, rfl, ?_⟩; have n0_ := Aside0.mk (below_step (bw HB.out) hb); clear HB; have HB := n0_; clear n0_; (try clear hb)) | ((with_reducible refine gate_callee (f := 39) rfl ?_); refine goesL_ (some 67) rfl rfl Try.func39 (by kernel_rfl) rfl #[.int .u32 t406] rfl ar ?_; (with_reducible refine (laws_exact.calls t406 t417 t418 _ A15.out).mono ?_); rintro e w79 ⟨rfl, hb⟩; refine ⟨_, rfl, ?_⟩; have n0_ := Aside0.mk (below_step (bw HB.out) hb); clear HB; have HB := n0_; clear n0_; (try clear hb)) | ((with_reducible refine gate_callee (f := 39) rfl ?_); refine goesL_ (some 72) rfl rfl Try.func39 (by kernel_rfl) rfl #[.int .u32 t412] rfl ar ?_; (with_reducible refine (laws_exact.calls t412 t419 t420 _ A16.out).mono ?_); rintro e w80 ⟨rfl, hb⟩; refine ⟨_, rfl, ?_⟩; have n0_ := Aside0.mk (below_step (bw HB.out) hb); clear HB; have HB := n0_; clear n0_; (try clear hb)))
     go_ret
     exact ⟨by first | rfl | (simp [errW_none, errW_some] <;> rfl) | (simp [*, errW_none, errW_some] <;> rfl), bw HB.out⟩
   ·
    rw [if_neg c7] at H
    have c7b0 : (t403 == 16) = false := beq_eq_false_iff_ne.mpr c7
    have c7b1 : (t403 != 16) = true := bne_iff_ne.mpr c7
    obtain rfl := Option.some.inj H
    simp only [Option.some.injEq, Prod.mk.injEq] at H
    obtain ⟨rfl⟩ := H
    go_enter Try.func13, Try.ntmps13
    go_wp2_with (first | ((with_reducible refine gate_callee (f := 40) rfl ?_); refine goesL_ (some 22) rfl rfl Try.func40 (by kernel_rfl) rfl #[.slice A0 l0.length c0] rfl ar ?_; (with_reducible refine (spec_DrawFSub.calls k _ _ l0 t403 t404 t405 _ ?side1 ?side2 A3.out).mono ?_); (case side1 => repeat (first | exact HR0.out | (with_reducible refine Kd.C_alloc ?_ _) | (with_reducible refine Kd.C_drewN ?_ _) | (with_reducible refine Kd.C_drew ?_))); (case side2 => exact HC0.out); rintro e w81 ⟨rfl, hb⟩; refine ⟨_, rfl, ?_⟩; have n0_ := Aside0.mk (below_step (bw HB.out) hb); clear HB; have HB := n0_; clear n0_; (try clear hb)) | ((with_reducible refine gate_callee (f := 27) rfl ?_); refine goesL_ (some 29) rfl rfl Try.func27 (by kernel_rfl) rfl #[.int .i64 t403, .int .u32 t404, .int .u32 t405] rfl ar ?_; (with_reducible refine (impl_FAdd.calls k t403 t404 t405 t406 _ A4.out).mono ?_); rintro e w82 ⟨rfl, hb⟩; refine ⟨_, rfl, ?_⟩; have n0_ := Aside0.mk (below_step (bw HB.out) hb); clear HB; have HB := n0_; clear n0_; (try clear hb)) | ((with_reducible refine gate_callee (f := 26) rfl ?_); refine goesL_ (some 34) rfl rfl Try.func26 (by kernel_rfl) rfl #[.int .i64 t403, .int .u32 t404, .int .u32 t405] rfl ar ?_; (with_reducible refine (spec_FAdd.calls k t403 t404 t405 t407 _ A5.out).mono ?_); rintro e w83 ⟨rfl, hb⟩; refine ⟨_, rfl, ?_⟩; have n0_ := Aside0.mk (below_step (bw HB.out) hb); clear HB; have HB := n0_; clear n0_; (try clear hb)))
    go_ret
    exact ⟨by first | rfl | (simp [errW_none, errW_some] <;> rfl) | (simp [*, errW_none, errW_some] <;> rfl), bw HB.out⟩
  ·
   rw [if_neg c6] at H
   have c6b0 : (t406 == t407) = false := beq_eq_false_iff_ne.mpr c6
   have c6b1 : (t406 != t407) = true := bne_iff_ne.mpr c6
   obtain rfl := Option.some.inj H
   exact absurd HT.out (by decide)

/-- THE ONE PURE STATEMENT of laws_FnTwoSum: yours. -/
def laws_FnTwoSum.Pure : Prop := ∀ (l0 : List Int), l0.length ≤ maxLen → l0.length * 1 ≤ 140737488351232 → (∀ x ∈ l0, (Lit.int .u8 x).wf = true) → ∃ k, laws_FnTwoSum.f k l0 = some true
theorem laws_FnTwoSum.walk (P : laws_FnTwoSum.Pure) (a0 : Option Addr) (len0 cap0 : Nat) (z0 : List Int) (w : World) (w0 : (a0 = none ∧ len0 = 0 ∧ cap0 = 0 ∧ z0 = []) ∨ ∃ x, a0 = some x ∧ len0 ≤ cap0 ∧ cap0 ≤ maxLen ∧ z0.length = cap0 ∧ (∀ i, i < z0.length → w.cell? (x.add i) = some (.int .u8 (z0.getD i 0))) ∧ ∀ n ∈ z0, (Lit.int .u8 n).wf = true) (y0 : len0 * 1 ≤ 140737488351232) :
  Calls Try.prog 13 #[.slice a0 len0 cap0] w fun e w' => e = .returned (.bool true) ∧ Below w.heap.size w w' := by
 obtain ⟨l0, rfl, hr0, hm0, hw0, hc0⟩ := ReadsInt.ofRowC w0
 obtain ⟨k, h⟩ := P l0 hm0 y0 hw0
 refine (laws_FnTwoSum.calls k _ _ l0 true w (Kd.C_of_reads (d := (0 : Int)) (h1 := fun _ => rfl) hr0) hc0 rfl h).mono ?_
 rintro e w' ⟨rfl, hd⟩
 exact ⟨rfl, hd⟩

end Go.Proofs.Ytdeogandkgiggaa.Q

